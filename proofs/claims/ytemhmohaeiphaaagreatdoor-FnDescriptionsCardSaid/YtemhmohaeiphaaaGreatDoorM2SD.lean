/-
 THE ABSTRACT MACHINE IS SOUND,fourth part: regions,code,contracts;arguments by content.
-/
import Derived.Test.YtemhmohaeiphaaaGreatDoorM2SC
import Derived.ProofKit
import Derived.OpenShut
import Derived.Carry
set_option linter.unusedVariables false
set_option linter.defProp false
set_option linter.unusedSimpArgs false
namespace Go.AM
open Go.RowKit (Below)

def Clean (t:Nat) (st:St):Prop:=∀ u,(st.fr u).mapH (belowF t [])=st.fr u
def frV (o:Oper) (r:Res):AV:=match r.1 with | true=>r.2.atoms (o.dst.getD 0) [] | false=>r.2
def CleanR (t:Nat):List Oper→List Res→Prop
 | o :: os,r :: rs=>(frV o r).mapH (belowF t [])=frV o r∧CleanR t os rs
 | _,_=>True

theorem belowF_some {t s s':Nat} {p p':Path} (h:belowF t [] s p=some (s',p')):s'=s∧p'=p∧(s=t→p=[]):=by
 unfold belowF at h
 split at h
 ·rename_i e
  simp only [isPref] at h
  split at h
  ·rename_i hl
   cases h
   refine ⟨rfl,rfl,fun _=>?_⟩
   simp at hl;exact hl
  ·cases h
 ·rename_i e
  cases h
  exact ⟨rfl,rfl,fun h=>(e h).elim⟩

mutual
theorem mapH_idem {f:Nat→Path→Option (Nat×Path)} (hf:∀ s p s' p',f s p=some (s',p')→s'=s∧p'=p):∀ a:AV,(a.mapH f).mapH f=a.mapH f
 | .ref s p z o n=>by
  simp only [AV.mapH]
  cases h:f s p with
  | none=>rfl
  | some sp=>obtain ⟨h1,h2⟩:=hf s p sp.1 sp.2 h;simp only [AV.mapH,h1,h2,h]
 | .loc s p i j=>by
  simp only [AV.mapH]
  cases h:f s p with
  | none=>rfl
  | some sp=>obtain ⟨h1,h2⟩:=hf s p sp.1 sp.2 h;simp only [AV.mapH,h1,h2,h]
 | .mref s p=>by
  simp only [AV.mapH]
  cases h:f s p with
  | none=>rfl
  | some sp=>obtain ⟨h1,h2⟩:=hf s p sp.1 sp.2 h;simp only [AV.mapH,h1,h2,h]
 | .agg fs=>by simp only [AV.mapH,mapHL_idem hf fs]
 | .tup fs=>by simp only [AV.mapH,mapHL_idem hf fs]
 | .fn g caps=>by simp only [AV.mapH,mapHL_idem hf caps]
 | .lst z es=>by simp only [AV.mapH,mapHL_idem hf es]
 | .bx es=>by simp only [AV.mapH,mapHL_idem hf es]
 | .any=>rfl
 | .v x=>rfl
 | .sl z es=>rfl
 | .ep cs=>rfl
 | .ifc=>rfl
 | .tr _ _=>rfl
 | .pt _ _=>rfl
 | .mt _ _=>rfl
theorem mapHL_idem {f:Nat→Path→Option (Nat×Path)} (hf:∀ s p s' p',f s p=some (s',p')→s'=s∧p'=p):∀ l:List AV,AV.mapHL f (AV.mapHL f l)=AV.mapHL f l
 | []=>rfl
 | a :: r=>by simp only [AV.mapHL,mapH_idem hf a,mapHL_idem hf r]
end

theorem clean_base (t:Nat) (st:St):Clean t (st.mapF (belowF t [])):=fun u=>mapH_idem (fun _ _ _ _ h=>⟨(belowF_some h).1,(belowF_some h).2.1⟩) _
theorem app1_fr (o:Oper) (r:Res) (st:St) (u:Nat):(app1 o r st).fr u=if o.dst=some u then frV o r else st.fr u:=by
 unfold app1 frV
 obtain ⟨b,v⟩:=r
 cases b <;> cases hd:o.dst <;> simp [St.put,St.addN,St.setMem]
 all_goals (split <;> split <;> first | rfl | (rename_i a b;exact absurd a.symm b) | (rename_i a b;exact absurd b.symm a) | (rename_i a b;subst a;rfl))
theorem clean_app1 {t:Nat} {o:Oper} {r:Res} {st:St} (h:Clean t st) (hr:(frV o r).mapH (belowF t [])=frV o r):Clean t (app1 o r st):=fun u=>by
 rw [app1_fr]
 split
 ·exact hr
 ·exact h u
theorem clean_part {t:Nat}:∀ (hd:List Oper) (rs:List Res) (L:Nat→Bool) (k:Nat) (st:St),Clean t st→CleanR t hd rs→Clean t (part hd rs L k st)
 | [],_,_,_,_,h,_=>h
 | _ :: _,[],_,_,_,h,_=>h
 | o :: os,r :: rs,L,k,st,h,hc=>by
  simp only [part]
  refine clean_part os rs L (k+1) _ ?_ hc.2
  split
  ·exact clean_app1 h hc.1
  ·exact h
theorem cleanR_append {t:Nat}:∀ {h1:List Oper} {r1:List Res} {h2:List Oper} {r2:List Res},r1.length=h1.length→CleanR t h1 r1→CleanR t h2 r2→CleanR t (h1++h2) (r1++r2)
 | [],[],_,_,_,_,h=>h
 | _ :: _,_ :: _,_,_,hl,h,h'=>⟨h.1,cleanR_append (by simpa using hl) h.2 h'⟩
 | [],_ :: _,_,_,hl,_,_=>by simp at hl
 | _ :: _,[],_,_,hl,_,_=>by simp at hl

theorem flowC_extract {P:Program} {ops:List Oper} {t:Nat} {mem0:Nat→Option AV} {K:St→Prop}:∀ (hd:List Oper) (k:Nat) (st:St),flowC P ops t mem0 hd st K→∃ rs,FlowR P ops mem0 hd rs st∧CleanR t hd rs∧K (part hd rs (fun _=>true) k st)
 | [],_,st,h=>⟨[],trivial,trivial,h⟩
 | o :: os,k,st,h=>by
  rcases guardP_sel h with ⟨hg,h1⟩ | ⟨hg,h1⟩
  ·obtain ⟨⟨b,v⟩,h2,h3,h4⟩:=fop_pick h1
   cases b with
   | false =>
    obtain ⟨rs,h5,h6,h7⟩:=flowC_extract os (k+1) _ h3.2
    exact ⟨(false,v) :: rs,⟨.inl ⟨hg,h2,h4⟩,h5⟩,⟨h3.1,h6⟩,h7⟩
   | true =>
    obtain ⟨rs,h5,h6,h7⟩:=flowC_extract os (k+1) _ h3.2
    exact ⟨(true,v) :: rs,⟨.inl ⟨hg,h2,h4⟩,h5⟩,⟨h3.1,h6⟩,h7⟩
  ·obtain ⟨rs,h5,h6,h7⟩:=flowC_extract os (k+1) _ h1
   exact ⟨(false,.un) :: rs,⟨.inr ⟨hg,rfl⟩,h5⟩,⟨rfl,h6⟩,h7⟩

theorem part_append:∀ (h1:List Oper) (r1:List Res) (h2:List Oper) (r2:List Res) (L:Nat→Bool) (k:Nat) (st:St),r1.length=h1.length→part (h1++h2) (r1++r2) L k st=part h2 r2 L (k+h1.length) (part h1 r1 L k st)
 | [],[],_,_,_,_,_,_=>rfl
 | o :: os,r :: rs,h2,r2,L,k,st,hl=>by
  simp only [List.cons_append,part,List.length_cons]
  rw [part_append os rs h2 r2 L (k+1) _ (by simpa using hl)]
  congr 1;omega
 | [],_ :: _,_,_,_,_,_,hl=>by simp at hl
 | _ :: _,[],_,_,_,_,_,hl=>by simp at hl

theorem stepR_congr {P:Program} {ops:List Oper} {mem0:Nat→Option AV} {o:Oper} {st st':St} {r:Res} (h:∀ u,st.fr u=st'.fr u) (hs:StepR P ops mem0 o st r):StepR P ops mem0 o st' r:=by
 unfold StepR at hs ⊢
 rw [← gsel_congr (st:=st) fun u _=>h u]
 rcases hs with ⟨h1,h2,h3⟩ | h
 ·exact .inl ⟨h1,fop_congr (ev_congr (ops:=ops) fun u _=>h u) h2,h3⟩
 ·exact .inr h

theorem part_setMem {t:Nat} {X:AV}:∀ (hd:List Oper) (rs:List Res) (L:Nat→Bool) (k:Nat) (st:St),(∀ (j:Nat) (o:Oper) (r:Res),hd[j]? = some o→rs[j]? = some r→r.1=true→o.dst≠some t)→part hd rs L k (st.setMem t X)=(part hd rs L k st).setMem t X
 | [],_,_,_,_,_=>rfl
 | _ :: _,[],_,_,_,_=>rfl
 | o :: os,r :: rs,L,k,st,h=>by
  have e:app1 o r (st.setMem t X)=(app1 o r st).setMem t X:=by
   unfold app1
   obtain ⟨b,v⟩:=r
   cases b with
   | false=>cases hd:o.dst <;> simp [St.put,St.setMem]
   | true =>
    cases hd:o.dst with
    | none=>rfl
    | some d =>
     have hne:d≠t:=fun e=>h 0 o (true,v) rfl rfl rfl (by rw [hd,e])
     simp only [St.addN,St.put,St.setMem]
     congr 1
     funext i
     by_cases c1:i=d <;> by_cases c2:i=t <;> simp [c1,c2] <;> (intro e2;subst e2;first | exact absurd c1 hne | exact absurd c2.symm (fun e=>hne e.symm) | simp_all)
  simp only [part]
  rw [← part_setMem os rs L (k+1) _ fun j o' r' h1 h2 h3=>h (j+1) o' r' (by simpa using h1) (by simpa using h2) h3]
  split
  ·rw [e]
  ·rfl
theorem setMem_setMem (st:St) (t:Nat) (X Y:AV):(st.setMem t X).setMem t Y=st.setMem t Y:=by
 simp only [St.setMem]
 congr 1
 funext i
 split <;> rfl
section
variable {P:Program} {M:FuncId→List Bool} {N:Nat} {E:Entry}

theorem pv_call {S:St} {a:Act} {w:World} {I:Gh} {ρ:Pl} {Fr:Nat→Prop} {t z:Nat} {x0:AV} (hFt:¬ Fr t) (H:∀ ρ':Pl,(∀ s,ρ' s=ρ s∨Fr s)→Conc N E S a w I ρ') (hT0:S.mem t=some (.pt z x0)) (hcl:Clean t S)
  {D:Nat} (hN:D<N) {f:FuncId} {rest:List AV} {X r:AV} (hspec:SpecX P f (.pt z x0 :: rest) [some X] r) (hnb:r.nodeB=false) (hb:AV.bearsL rest=false) {vals:Array Value} (hn:vals.size=rest.length+1)
  (hr:∀ j (hj:j<(AV.loc t [] 0 0 :: rest).length) (hk:j<vals.size),Rep I ρ ((AV.loc t [] 0 0 :: rest)[j]) (vals[j])) :
  HasBody P f∧Calls P f vals w fun e w'=>∃ x,e=.returned x∧∃ (I':Gh) (ρ2:Pl),∀ ρ':Pl,(∀ s,ρ' s=ρ2 s∨Fr s)→Conc N E ((S.setMem t X).put (some D) r) (a.put (some D) x) w' I' ρ':=by
 obtain ⟨hbody,_,hosig,hspec⟩:=hspec
 refine ⟨hbody,?_⟩
 have c:=H ρ fun s=>.inl rfl
 have hrs:∀ j (hj:j<rest.length) (hk:j+1<vals.size),RepS I (rest[j]) (vals[j+1]):=fun j hj hk=>nb_stat (hr (j+1) (by simpa using hj) hk) (bearsL_get hb j hj)
 let Q0:Pl:=fun i=>if i=0 then ρ t else fun _=>none
 have hnode:∀ (i:Nat) (T:AV) (p:Path),(AV.pt z x0 :: rest)[i]? = some T→(T.at p).isNode=true→i=0∧T=.pt z x0:=by
  intro i T p hi hnn
  cases i with
  | zero=>simp at hi;exact ⟨rfl,hi.symm⟩
  | succ i =>
   simp only [List.getElem?_cons_succ] at hi
   obtain ⟨hlt,rfl⟩:=List.getElem?_eq_some_iff.1 hi
   rw [rs_at (hrs i hlt (by omega)) p] at hnn;cases hnn
 have hsepA:Sep I Q0 w (fun i=>(AV.pt z x0 :: rest)[i]?):=by
  refine ⟨fun i T p hi=>?_,fun i T p k hi h1 h2 o=>?_,fun i T p k i2 T2 p2 k2 hi h1 h2 hi2 h1' h2' he=>?_⟩
  ·cases hnn:(T.at p).isNode with
   | false=>exact node_false hnn
   | true =>
    obtain ⟨rfl,rfl⟩:=hnode i T p hi hnn
    exact c.mem.row t _ p hT0
  ·obtain ⟨rfl,rfl⟩:=hnode i T p hi h1
   exact c.mem.free t _ p k hT0 h1 h2 o
  ·obtain ⟨rfl,rfl⟩:=hnode i T p hi h1
   obtain ⟨rfl,rfl⟩:=hnode i2 T2 p2 hi2 h1'
   exact ⟨rfl,(c.mem.inj t _ p k t _ p2 k2 hT0 h1 h2 hT0 h1' h2' he).2⟩
 have hownA:∀ b,Owns Q0 (fun i=>(AV.pt z x0 :: rest)[i]?) b→∃ p k,((AV.pt z x0).at p).isNode=true∧ρ t p=some k∧k.b=b:=by
  rintro b ⟨i,T,p,k,h1,h2,h3,rfl⟩
  obtain ⟨rfl,rfl⟩:=hnode i T p h1 h2
  exact ⟨p,k,h2,h3,rfl⟩
 refine (hspec I Q0 w vals c.held (by simpa using hn) hsepA fun j hj hk=>?_).mono ?_
 ·cases j with
  | zero =>
   have h0:=hr 0 (by simp) hk
   simp only [List.getElem_cons_zero] at h0 ⊢
   have hd:=node_hdr (J:=I) (v:=vals[0]) (c:=.pt z x0) c.mem (by simp [nodeAt,hT0];rfl) rfl h0
   exact .inl ⟨rfl,hd⟩
  | succ j =>
   simp only [List.getElem_cons_succ]
   exact rs_top (hrs j (by simpa using hj) hk) _ _
 rintro e w' ⟨I1,π1,x,rfl,hI1,hs1,ht1,hfix,hb1,hk1,hnew⟩
 refine ⟨x,rfl,I1,fun s=>if s=t then π1 0 else ρ s,fun ρ' hρ'=>?_⟩
 have hXs:X.sig=(AV.pt z x0).sig:=hosig 0 X rfl
 obtain ⟨x1,rfl⟩:∃ x1,X=.pt z x1:=by
  cases X with
  | pt z' x1=>simp [AV.sig,AV.sig1] at hXs;exact ⟨x1,by rw [hXs]⟩
  | _=>simp [AV.sig,AV.sig1] at hXs
 have ht':ρ' t=π1 0:=by
  rcases hρ' t with h | h
  ·simpa using h
  ·exact (hFt h).elim
 let ρ0:Pl:=fun s=>if s=t then ρ t else ρ' s
 have hρ0:∀ s,ρ0 s=ρ s∨Fr s:=fun s=>by
  by_cases hs:s=t
  ·left;simp [ρ0,hs]
  ·rcases hρ' s with h | h
   ·left;simp only [ρ0,hs,if_false] at h ⊢;exact h
   ·exact .inr h
 have c0:=H ρ0 hρ0
 have e0t:ρ0 t=ρ t:=by simp [ρ0]
 have e0n:∀ s,s≠t→ρ0 s=ρ' s:=fun s h=>by simp [ρ0,h]
 have hnd:((AV.pt z x0).at []).isNode=true:=rfl
 have htop:π1 0 []=ρ t []:=hfix 0 (.pt z x1) rfl [] rfl
 have hlt:∀ p k,((AV.pt z x0).at p).isNode=true→ρ t p=some k→k.b<w.heap.size:=fun p k h1 h2=>c.mem.lt hT0 h1 h2
 have hout:∀ s T p k,S.mem s=some T→s≠t→(T.at p).isNode=true→ρ0 s p=some k→¬ Owns Q0 (fun i=>(AV.pt z x0 :: rest)[i]?) k.b:=by
  intro s T p k h1 h2 h3 h4 h5
  obtain ⟨p',k',g1,g2,g3⟩:=hownA _ h5
  exact h2 (c0.mem.inj s T p k t _ p' k' h1 h3 h4 hT0 g1 (by rw [e0t];exact g2) g3.symm).1
 have hext:outMem (AV.pt z x0 :: rest).length [some (.pt z x1)] r 0=some (.pt z x1):=by simp [outMem]
 have hnew0:∀ p k,((AV.pt z x1).at p).isNode=true→π1 0 p=some k→(∃ p' k',((AV.pt z x0).at p').isNode=true∧ρ t p'=some k'∧k'.b=k.b)∨w.heap.size≤k.b:=by
  intro p k h1 h2
  rcases hnew k.b ⟨0,_,p,k,hext,h1,h2,rfl⟩ with q | q
  ·exact .inl (hownA _ q)
  ·exact .inr q
 have hle:∀ b o y,I b o=some y→I1 b o=some y:=fun b o y hy=>(hk1 b o (c.held.lt hy)).trans hy
 have hm:∀ {s T'},(S.setMem t (.pt z x1)).mem s=some T'→(s=t∧T'=.pt z x1)∨(s≠t∧S.mem s=some T'):=by
  intro s T' h
  simp only [St.setMem] at h
  split at h
  ·rename_i e;cases h;exact .inl ⟨e,rfl⟩
  ·rename_i e;exact .inr ⟨e,h⟩
 have hcross:∀ p k s T p' k',((AV.pt z x1).at p).isNode=true→π1 0 p=some k→S.mem s=some T→s≠t→(T.at p').isNode=true→ρ0 s p'=some k'→k.b≠k'.b:=by
  intro p k s T p' k' h1 h2 h3 h4 h5 h6 he
  rcases hnew0 p k h1 h2 with ⟨p2,k2,g1,g2,g3⟩ | g
  ·exact h4 (c0.mem.inj s T p' k' t _ p2 k2 h3 h5 h6 hT0 g1 (by rw [e0t];exact g2) (by rw [g3,he])).1
  ·have:=c0.mem.lt h3 h5 h6;omega
 have cc:Conc N E (S.setMem t (.pt z x1)) a w' I1 ρ':=by
  refine ⟨hI1,c0.below.trans (hb1.mono c0.below.size fun k hk hq=>?_),fun b o hb'=>(hk1 b o (Nat.lt_of_lt_of_le hb' c0.below.size)).trans (c0.keeps b o hb'),c0.size,c0.defers,fun i=>?_,
   ⟨fun s T p h=>?_,fun s T p k h h1 h2 o=>?_,fun s T1 p k s' T2 p' k' h h1 h2 h' h1' h2' he=>?_⟩,fun b hb'=>?_,fun i c' T' q h1 hT' h3=>?_⟩
  ·obtain ⟨p,k',g1,g2,g3⟩:=hownA k hq
   rcases c0.lo k ⟨t,_,p,k',hT0,g1,by rw [e0t];exact g2,g3⟩ with h | h
   ·omega
   ·exact h
  ·have h1:=rep_mapH (ρ':=ρ') (f:=belowF t []) (fun s p s' p' hf=>by
    obtain ⟨rfl,rfl,h3⟩:=belowF_some hf
    by_cases hs:s'=t
    ·subst hs
     rw [h3 rfl,ht',htop,e0t]
    ·rw [e0n s' hs]) (c0.fr i)
   rw [hcl i] at h1
   exact h1.mono hle
  ·rcases hm h with ⟨rfl,rfl⟩ | ⟨hs,h⟩
   ·rw [ht'];exact hs1.row 0 _ p hext
   ·rw [← e0n s hs]
    exact NodeOk.mono hle (fun k hk1' hk2=>hb1.block k.b (c0.mem.lt h hk1' hk2) (hout s T p k h hs hk1' hk2)) (c0.mem.row s T p h)
  ·rcases hm h with ⟨rfl,rfl⟩ | ⟨hs,h⟩
   ·rw [ht'] at h2;exact hs1.free 0 _ p k hext h1 h2 o
   ·rw [← e0n s hs] at h2
    rw [hk1 k.b o (c0.mem.lt h h1 h2)];exact c0.mem.free s T p k h h1 h2 o
  ·rcases hm h with ⟨e1,e2⟩ | ⟨hs,g⟩
   ·rcases hm h' with ⟨e3,e4⟩ | ⟨hs',g'⟩
    ·rw [e1,ht'] at h2;rw [e3,ht'] at h2'
     rw [e2] at h1;rw [e4] at h1'
     exact ⟨e1.trans e3.symm,(hs1.inj 0 _ p k 0 _ p' k' hext h1 h2 hext h1' h2' he).2⟩
    ·rw [e1,ht'] at h2;rw [← e0n s' hs'] at h2'
     rw [e2] at h1
     exact (hcross p k s' T2 p' k' h1 h2 g' hs' h1' h2' he).elim
   ·rcases hm h' with ⟨e3,e4⟩ | ⟨hs',g'⟩
    ·rw [e3,ht'] at h2';rw [← e0n s hs] at h2
     rw [e4] at h1'
     exact (hcross p' k' s T1 p k h1' h2' g hs h1 h2 he.symm).elim
    ·rw [← e0n s hs] at h2;rw [← e0n s' hs'] at h2'
     exact c0.mem.inj s T1 p k s' T2 p' k' g h1 h2 g' h1' h2' he
  ·obtain ⟨s,T,p,k,h1,h2,h3,rfl⟩:=hb'
   rcases hm h1 with ⟨rfl,rfl⟩ | ⟨hs,h1⟩
   ·rw [ht'] at h3
    rcases hnew0 p k h2 h3 with ⟨p2,k2,g1,g2,g3⟩ | g
    ·exact c0.lo k.b ⟨s,_,p2,k2,hT0,g1,by rw [e0t];exact g2,g3⟩
    ·exact .inl (Nat.le_trans c0.below.size g)
   ·rw [← e0n s hs] at h3
    exact c0.lo k.b ⟨s,T,p,k,h1,h2,h3,rfl⟩
  ·rcases hm hT' with ⟨rfl,rfl⟩ | ⟨hs,hT'⟩
   ·have h3:q=[]:=h3
    subst h3
    rw [ht',htop,← e0t]
    exact c0.fix i c' (.pt z x0) [] h1 hT0 rfl
   ·rw [← e0n i hs];exact c0.fix i c' T' q h1 hT' h3
 exact cc.put (some D) (fun _ e=>by cases e;exact hN) (.stat (top_stat ht1 hnb))

def PvR (P:Program) (t z:Nat) (x0:AV) (o:Oper) (ev:Operand→AV) (X v:AV):Prop :=
 ∃ (x:Operand) (args:Array Operand) (ats:Array TypeId) (f:FuncId) (caps rest:List AV),o.op=.call ⟨.value x,args,ats⟩∧ev x=.fn f caps∧args.toList.map ev++caps=.loc t [] 0 0 :: rest∧AV.bearsL rest=false∧SpecX P f (.pt z x0 :: rest) [some X] v∧v.nodeB=false
theorem pvP_extract {t:Nat} {T0:AV} {ev:Operand→AV} {o:Oper} {K:AV→AV→Prop} (h:pvP P t T0 ev o.op K .mk):∃ z x0 X v,T0=.pt z x0∧PvR P t z x0 o ev X v∧K X v:=by
 unfold pvP at h
 split at h
 ·rename_i c hc
  obtain ⟨callee,args,ats⟩:=c
  simp only at h
  split at h
  ·rename_i x
   unfold pvF at h
   split at h
   ·rename_i f caps hx
    unfold pvC at h
    split at h
    ·rename_i z x0 t' q i j rest hl
     obtain ⟨⟨rfl,rfl,rfl,rfl,hb⟩,X,r,hs,hnb,hk⟩:=h
     exact ⟨z,x0,X,r,rfl,⟨x,args,ats,f,caps,rest,hc,hx,hl,hb,hs,hnb⟩,hk⟩
    ·exact h.elim
   ·exact h.elim
  ·exact h.elim
 ·exact h.elim

theorem pvR_congr {t z:Nat} {x0:AV} {ops:List Oper} {o:Oper} {st st':St} {X v:AV} (he:∀ u∈looks ops o,st.fr u=st'.fr u) (h:PvR P t z x0 o st.ev X v):PvR P t z x0 o st'.ev X v:=by
 obtain ⟨x,args,ats,f,caps,rest,h1,h2,h3,h4⟩:=h
 have hev:=ev_congr (ops:=ops) (o:=o) he
 rw [h1] at hev
 refine ⟨x,args,ats,f,caps,rest,h1,?_,?_,h4⟩
 ·rw [← hev x (by simp [Op.operands,Call.operands])];exact h2
 ·rw [← h3]
  congr 1
  refine List.map_congr_left fun y hy=>(hev y ?_).symm
  simp only [Op.operands,Call.operands]
  simp
  exact .inr (by simpa using hy)

theorem pv_step {hd:List Oper} {rs:List Res} {st1:St} {t z:Nat} {x0 X v:AV} {listed:Array Bool} {a:Act} {w:World} {Q:Exit→Act→World→Prop} {o:Oper} {m:Nat}
  (hnt:∀ o∈hd,makesB o.op=true→o.dst≠some t) (hmk:∀ (j:Nat) (o:Oper) (r:Res),hd[j]? = some o→rs[j]? = some r→r.1=true→makesB o.op=true) (hdis:DistinctD hd) (hOk:OpOk N E o) (ho:hd[m]? = some o) (hr:rs[m]? = some (false,v))
  (hun:lstd listed m=false) (hsz:m<listed.size) (hcl:Clean t st1) (hcr:CleanR t hd rs) (hpv:PvR P t z x0 o (part hd rs (lstd listed) 0 (st1.setMem t (.pt z x0))).ev X v)
  (inv:InvD N E hd rs (st1.setMem t (.pt z x0)) listed a w):o.wp P a w (InvD N E hd rs (st1.setMem t X) (listed.setIfInBounds m true)) Q:=by
 obtain ⟨I,ρ,H⟩:=inv
 obtain ⟨D,hD⟩:=distinct_some hdis ho
 have hps:∀ (Y:AV) (L:Nat→Bool),part hd rs L 0 (st1.setMem t Y)=(part hd rs L 0 st1).setMem t Y:=fun Y L=>part_setMem hd rs L 0 st1 fun j o r h1 h2 h3=>hnt o (List.mem_of_getElem? h1) (hmk j o r h1 h2 h3)
 generalize hS:part hd rs (lstd listed) 0 (st1.setMem t (.pt z x0))=S at H hpv
 have hST:S.mem t=some (.pt z x0):=by rw [← hS,hps];exact setMem_self
 have hSX:part hd rs (lstd listed) 0 (st1.setMem t X)=S.setMem t X:=by rw [← hS,hps,hps,setMem_setMem]
 have hSc:Clean t S:=by
  rw [← hS,hps]
  exact clean_part hd rs _ 0 st1 hcl hcr
 have hi:lstd (listed.setIfInBounds m true) m=true:=by simp [lstd,hsz]
 have hne:∀ j,j≠m→lstd (listed.setIfInBounds m true) j=lstd listed j:=fun j hj=>getD_set_ne false (Ne.symm hj)
 have hset:part hd rs (lstd (listed.setIfInBounds m true)) 0 (st1.setMem t X)=(S.setMem t X).put (some D) v:=by
  rw [part_set hd rs 0 _ m o (false,v) hdis ho hr (by simpa using hun) (by simpa using hi) (fun j hj=>hne j (by simpa using hj)),hSX]
  unfold app1
  rw [hD]
 have hfr:∀ s,Fresh hd (listed.setIfInBounds m true) s→Fresh hd listed s:=by
  rintro s ⟨j,o',h1,h2,h3,h4⟩
  have hji:j≠m:=fun e=>by subst e;rw [hi] at h3;cases h3
  exact ⟨j,o',h1,h2,by rw [← hne j hji];exact h3,h4⟩
 have c:=H ρ fun s=>.inl rfl
 obtain ⟨x,args,ats,f,caps,rest,h1,h2,h3,h4,h5,h6⟩:=hpv
 obtain ⟨dst,op,ty,pos,after,g⟩:=o
 simp only at h1 hD
 subst h1;subst hD
 have hx:=c.ev x
 rw [h2] at hx
 obtain ⟨arr,hxe,hcn,hcr'⟩:=rep_fn hx
 have hlen:args.size+caps.length=rest.length+1:=by
  have:=congrArg List.length h3
  simpa using this
 have key:=pv_call (P:=P) (Fr:=Fresh hd listed) (vals:=args.map a.eval++arr) (fun ⟨j,o',g1,g2,_,g4⟩=>hnt o' (List.mem_of_getElem? g1) g2 g4) H hST hSc (hOk.1 D rfl) h5 h6 h4 (by simp [hcn,hlen]) (fun j hj hk=>?_)
 ·obtain ⟨⟨fn,cd,hf1,hb,hname⟩,hcall⟩:=key
  have hrun:(execOp a.eval ⟨some D,.call ⟨.value x,args,ats⟩,ty,pos,after,g⟩).run P w=.ok (.enter f (args.map a.eval++arr)) w:=by
   have he:execOp a.eval ⟨some D,.call ⟨.value x,args,ats⟩,ty,pos,after,g⟩=(do let d ← Deferred.ofValue (a.eval x) (args.map a.eval);invoke d.target d.args:Sem Next):=by
    simp [execOp,resolve]
   rw [he,hxe]
   simp [Deferred.ofValue,invoke,callFunc,hf1,hb,hname]
  unfold Oper.wp
  rw [hrun]
  refine hcall.mono ?_
  rintro e w' ⟨y,rfl,I',ρ2,hst⟩
  refine ⟨I',ρ2,fun ρ' hρ'=>?_⟩
  rw [hset]
  exact hst ρ' fun s=>(hρ' s).imp id (hfr s)
 ·have hj':j<(args.toList.map S.ev++caps).length:=by rw [h3];exact hj
  have e0:(AV.loc t [] 0 0 :: rest)[j]=(args.toList.map S.ev++caps)[j]:=by simp only [h3]
  rw [e0]
  by_cases hjl:j<(args.toList.map S.ev).length
  ·have hjl':j<args.size:=by simpa using hjl
   have e1:(args.toList.map S.ev++caps)[j]=(args.toList.map S.ev)[j]:=List.getElem_append_left hjl
   have e2:(args.map a.eval++arr)[j]=(args.map a.eval)[j]'(by simpa using hjl'):=Array.getElem_append_left (by simpa using hjl')
   rw [e1,e2];simp;exact c.ev _
  ·have hsz:(args.toList.map S.ev).length=args.size:=by simp
   have hj2:j - args.size<caps.length:=by simp at hj';omega
   have e1:(args.toList.map S.ev++caps)[j]=caps[j - (args.toList.map S.ev).length]'(by omega):=List.getElem_append_right (by omega)
   have e2:(args.map a.eval++arr)[j]=arr[j - (args.map a.eval).size]'(by simp;omega):=Array.getElem_append_right (by simp;omega)
   rw [e1,e2]
   have e3:j - (args.map a.eval).size=j - args.size:=by simp
   have e4:j - (args.toList.map S.ev).length=j - args.size:=by rw [hsz]
   simp only [e3,e4]
   exact hcr' _ hj2 (by omega)
theorem draw_goV {ops HD TL:List Oper} {rs:List Res} {st1:St} {mem0:Nat→Option AV} {t z m0:Nat} {x0 X v:AV} {o0:Oper} {K:St→Prop} {Q:Exit→Act→World→Prop} (hQ:∀ a' w',AOut N E K a' w'→Q .normal a' w')
  (hOps:∀ o∈ops,OpOk N E o) (hht:HD++TL=ops) (hok:drawOkG ops HD TL=true) (hlen:rs.length=HD.length)
  (hkn:∀ s,(∀ o∈HD,makesB o.op=true→o.dst≠some s)∨st1.mem s=none) (hnt:∀ o∈HD,makesB o.op=true→o.dst≠some t) (hm0:∀ s T,mem0 s=some T→s≠t∧st1.mem s=some T)
  (hmk:∀ (j:Nat) (o:Oper) (r:Res),HD[j]? = some o→rs[j]? = some r→r.1=true→makesB o.op=true) (hcl:Clean t st1) (hcr:CleanR t HD rs) (ho0:HD[m0]? = some o0) (hr0:rs[m0]? = some (false,v)) (hg0:o0.guard=none)
  (hflow:∀ (i:Nat) (o:Oper) (r:Res),i≠m0→HD[i]? = some o→rs[i]? = some r→StepR P ops mem0 o (part HD rs (fun j=>decide (j<i)) 0 st1) r)
  (hpv:PvR P t z x0 o0 (part HD rs (fun j=>decide (j<m0)) 0 st1).ev X v)
  (hK:seqOps P M ops TL (part HD rs (fun _=>true) 0 (st1.setMem t X)) K) :
  ∀ (m:Nat) (U:List Nat) (listed:Array Bool) (a:Act) (w:World),U.length=m→U.Nodup→(∀ j,j∈U↔j<HD.length∧lstd listed j=false) →
   HeadInv .any ops.toArray HD.length listed→InvD N E HD rs (st1.setMem t (if lstd listed m0 then X else .pt z x0)) listed a w→wpAny P .any ops.toArray Q (m+TL.length) listed a w:=by
 unfold drawOkG at hok
 simp only [Bool.and_eq_true] at hok
 obtain ⟨⟨⟨hdis,hdeps⟩,htail⟩,hseq⟩:=hok
 have hdis:=distinctB_spec hdis
 have hhd:∀ {j:Nat} {o:Oper},HD[j]? = some o→ops[j]? = some o:=fun {j o} h=>by
  rw [← hht,List.getElem?_append_left (List.getElem?_eq_some_iff.1 h).1];exact h
 have hdh:∀ {j:Nat},j<HD.length→ops[j]? = HD[j]?:=fun {j} h=>by
  conv=>lhs;rw [← hht]
  rw [List.getElem?_append_left h]
 have htl:∀ j,TL[j]? = ops.toArray[HD.length+j]?:=fun j=>by
  rw [List.getElem?_toArray]
  have:=List.getElem?_append_right (l₁:=HD) (l₂:=TL) (i:=HD.length+j) (by omega)
  rw [hht] at this
  rw [this];congr 1;omega
 have hol:ops.length=HD.length+TL.length:=by
  conv=>lhs;rw [← hht]
  rw [List.length_append]
 have hfr2:∀ (L:Nat→Bool) (Y:AV) u,(part HD rs L 0 st1).fr u=(part HD rs L 0 (st1.setMem t Y)).fr u:=fun L Y u=>part_fr HD rs 0 _ _ rfl fun _ _ _ _=>rfl
 have hm0lt:m0<HD.length:=(List.getElem?_eq_some_iff.1 ho0).1
 intro m
 induction m with
 | zero =>
  intro U listed a w hU _ hUm inv ⟨I,ρ,H⟩
  have hU0:U=[]:=List.eq_nil_of_length_eq_zero hU
  have hall:∀ j,j<HD.length→lstd listed j=true:=fun j hj=>by
   cases h:lstd listed j with
   | true=>rfl
   | false=>have:=(hUm j).2 ⟨hj,h⟩;rw [hU0] at this;cases this
  have hlist:listed=firstN ops.length HD.length:=by
   apply Array.ext
   ·simp [firstN,inv.size]
   ·intro j h1 h2
    have hj:j<ops.length:=by simpa [inv.size] using h1
    simp only [firstN,Array.getElem_map,Array.getElem_range]
    by_cases hjn:j<HD.length
    ·have:=hall j hjn
     simp only [lstd,Array.getD_eq_getD_getElem?,Array.getElem?_eq_getElem h1,Option.getD_some] at this
     rw [this];simp [hjn]
    ·have:=inv.tail j (by omega) (by simpa using hj)
     simp only [Array.getD_eq_getD_getElem?,Array.getElem?_eq_getElem h1,Option.getD_some] at this
     rw [this];simp [hjn]
  have hc:=H ρ fun s=>.inl rfl
  rw [if_pos (hall m0 hm0lt)] at hc
  rw [part_congr' HD rs (M:=fun _=>true) 0 _ fun j _ hj=>hall j (by simpa using hj)] at hc
  rw [Nat.zero_add]
  refine wpAny_of_seq TL HD.length listed a w htl (by rw [hlist];exact hseq) ?_
  exact seqOps_sound hQ ops TL _ a w (fun o ho=>hOps o (by rw [← hht];exact List.mem_append_right _ ho)) hK ⟨I,ρ,hc⟩
 | succ m ih =>
  intro U listed a w hU hnd hUm inv hinv
  rw [show m+1+TL.length=(m+TL.length)+1 by omega]
  have hun:∃ i0,i0<HD.length∧lstd listed i0=false:=by
   cases U with
   | nil=>cases hU
   | cons x _=>exact ⟨x,(hUm x).1 (by simp)⟩
  have hmin:∃ i0,i0<HD.length∧lstd listed i0=false∧∀ j,j<i0→lstd listed j=true:=by
   obtain ⟨i0,h1,h2⟩:=hun
   induction i0 using Nat.strongRecOn with
   | _ i0 ih0 =>
    by_cases hx:∃ j,j<i0∧lstd listed j=false
    ·obtain ⟨j,hj,hj2⟩:=hx
     exact ih0 j hj (by omega) hj2
    ·refine ⟨i0,h1,h2,fun j hj=>?_⟩
     cases h:lstd listed j with
     | true=>rfl
     | false=>exact absurd ⟨j,hj,h⟩ hx
  have hin:∀ {j:Nat},j<HD.length→j<listed.size:=fun h=>by rw [inv.size];simp;omega
  refine ⟨fun h0=>?_,fun i hi=>?_⟩
  ·obtain ⟨i0,h1,h2,h3⟩:=hmin
   have ho:HD[i0]? = some (HD[i0]):=List.getElem?_eq_getElem h1
   have:i0∈Region.ready .any ops.toArray listed:=by
    rw [mem_ready]
    refine ⟨getD_in (hin h1) h2,HD[i0],by rw [List.getElem?_toArray];exact hhd ho,fun e he hb=>?_⟩
    exact h3 _ ((depsB_spec hdeps ho).1 e.on (mem_bindOn.2 ⟨e,he,hb,rfl⟩))
   rw [h0] at this;cases this
  ·have hin':i<HD.length:=by
    rcases Nat.lt_or_ge i HD.length with h | h
    ·exact h
    ·obtain ⟨_,oi,hoi,_⟩:=mem_ready.1 hi
     have hlt:=(Array.getElem?_eq_some_iff.1 hoi).1
     simp only [List.size_toArray] at hlt
     cases htl':TL with
     | nil=>rw [htl'] at hol;simp at hol;omega
     | cons o r =>
      rw [htl'] at htail hol
      simp only [Bool.and_eq_true] at htail
      obtain ⟨i0,h1,h2⟩:=hun
      exact absurd hi (tail_waits htail.1 htail.2 (by simp;simp at hol;omega) inv _ i0 rfl h1 (getD_in (hin h1) h2) i h)
   obtain ⟨hiun,oi,hoi,hall⟩:=mem_ready.1 hi
   have ho:HD[i]? = some oi:=by rw [← hdh hin',← List.getElem?_toArray];exact hoi
   have hun':lstd listed i=false:=getD_both hiun
   obtain ⟨hb,hl⟩:=depsB_spec hdeps ho
   have hclosed:∀ j o,HD[j]? = some o→lstd listed j=true→∀ q∈bindOn o,lstd listed q=true:=fun j o h1 h2 q hq=>by
    obtain ⟨e,he,hbd,rfl⟩:=mem_bindOn.1 hq
    exact inv.closed j o (by rw [List.getElem?_toArray];exact hhd h1) h2 e he hbd
   have hlook:∀ (Y:AV),∀ u∈looks ops oi,(part HD rs (fun j=>decide (j<i)) 0 st1).fr u=(part HD rs (lstd listed) 0 (st1.setMem t Y)).fr u:=fun Y u hu=>by
    rw [hfr2 _ Y u]
    refine part_fr HD rs 0 _ _ rfl fun j oj h1 h2=>?_
    obtain ⟨h3,h4⟩:=hl u hu j oj h1 h2
    have:=ancT_spec (lstd listed) HD hclosed HD [] 0 rfl (fun j=>by simp) (fun i o hi=>by omega) i oi (by simpa using hin') ho (fun q hq=>by
     obtain ⟨e,he,hbd,rfl⟩:=mem_bindOn.1 hq
     exact hall e he hbd) j h4
    rw [Nat.zero_add,this];simp [h3]
   have next:∀ a' w',InvD N E HD rs (st1.setMem t (if lstd (listed.setIfInBounds i true) m0 then X else .pt z x0)) (listed.setIfInBounds i true) a' w'→wpAny P .any ops.toArray Q (m+TL.length) (listed.setIfInBounds i true) a' w':=fun a' w' h=>by
    refine ih (U.erase i) _ a' w' (by rw [List.length_erase_of_mem ((hUm i).2 ⟨hin',hun'⟩),hU];rfl) (hnd.erase i) (fun j=>?_) (inv.set hi hin') h
    rw [hnd.mem_erase_iff,hUm]
    by_cases hj:j=i
    ·subst hj
     simp [lstd,hin hin']
    ·have:lstd (listed.setIfInBounds i true) j=lstd listed j:=getD_set_ne false (Ne.symm hj)
     rw [this];simp [hj]
   unfold wpOp
   simp only [hoi]
   have hlen':listed.size=ops.toArray.size:=inv.size
   by_cases him:i=m0
   ·subst him
    rw [ho0] at ho;cases ho
    have hw:Region.wanted o0 (yielded ops.toArray a.tmps)=true:=by unfold Region.wanted;rw [hg0]
    rw [if_pos hw]
    rw [hun'] at hinv
    have step:=pv_step (P:=P) (Q:=Q) hnt hmk hdis (hOps o0 (by rw [← hht];exact List.mem_append_left _ (List.mem_of_getElem? ho0))) ho0 hr0 hun' (hin hin') hcl hcr (pvR_congr (hlook (.pt z x0)) hpv) hinv
    have e1:lstd (listed.setIfInBounds i true) i=true:=by simp [lstd,hin hin']
    rw [e1,if_pos rfl] at next
    exact .inl (Oper.wp_mono next step)
   ·have hr:rs[i]? = some (rs[i]'(by omega)):=List.getElem?_eq_getElem _
    generalize rs[i]'(by omega)=r at hr
    have hst:=hflow i oi r him ho hr
    have e1:lstd (listed.setIfInBounds i true) m0=lstd listed m0:=getD_set_ne false him
    rw [e1] at next
    generalize (if lstd listed m0 then X else .pt z x0)=Y at hinv next
    have hst':StepR P ops mem0 oi (part HD rs (lstd listed) 0 (st1.setMem t Y)) r:=by
     unfold StepR at hst ⊢
     rw [← gsel_congr (hlook Y)]
     rcases hst with ⟨h1,h2,h3⟩ | h
     ·exact .inl ⟨h1,fop_congr (ev_congr (hlook Y)) h2,h3⟩
     ·exact .inr h
    have hkn2:∀ s,(∀ o∈HD,makesB o.op=true→o.dst≠some s)∨(st1.setMem t Y).mem s=none:=fun s=>by
     by_cases hs:s=t
     ·subst hs;exact .inl hnt
     ·exact (hkn s).imp id fun h=>(setMem_ne hs).trans h
    have step:=draw_step (Q:=Q) (st1:=st1.setMem t Y) (mem0:=mem0) hkn2 (mem_keeps hkn2 (fun s T h=>(setMem_ne (hm0 s T h).1).trans (hm0 s T h).2) hmk _) hdis (hOps oi (by rw [← hht];exact List.mem_append_left _ (List.mem_of_getElem? ho))) ho hr hun' hlen hmk hst' (hin hin') hinv
    split
    ·rename_i hw
     rw [if_pos hw] at step
     exact .inl (Oper.wp_mono next step)
    ·rename_i hw
     rw [if_neg hw] at step
     exact next _ _ step


theorem flowR_makes {ops:List Oper} {mem0:Nat→Option AV} {hd:List Oper} {rs:List Res} {st:St} (h:FlowR P ops mem0 hd rs st) (j:Nat) (o:Oper) (r:Res) (h1:hd[j]? = some o) (h2:rs[j]? = some r) (h3:r.1=true):makesB o.op=true:=by
 rcases flow_step 0 h j o r h1 h2 with ⟨_,_,hm⟩ | ⟨_,hr⟩
 ·exact hm h3
 ·rw [hr] at h3;cases h3

theorem piv_sound {id:Nat} {ops:List Oper} {n m t:Nat} {st:St} {a:Act} {w:World} {K:St→Prop} {Q:Exit→Act→World→Prop} (hQ:∀ a' w',AOut N E K a' w'→Q .normal a' w') (hm:P.follows .mixedOrders=true)
  (hOps:∀ o∈ops,OpOk N E o) (hok:pivOk ops n m=true) (h:pivP P M ops (ops.take n) (ops.drop n) m t st K .mk .mk) (hc:CC N E st a w):(Code.region id ops.toArray true).wp P Q a w:=by
 refine wp_region_any hm ?_
 unfold pivOk at hok
 simp only [Bool.and_eq_true] at hok
 obtain ⟨hok,hgd⟩:=hok
 have hht:ops.take n++ops.drop n=ops:=List.take_append_drop n ops
 generalize ops.take n=HD at *
 generalize ops.drop n=TL at *
 unfold pivP at h
 cases hp:HD[m]? with
 | none=>rw [hp] at h;exact h.elim
 | some p =>
 rw [hp] at h hgd
 have hg0:p.guard=none:=by
  simp only at hgd
  cases hg:p.guard with
  | none=>rfl
  | some x=>rw [hg] at hgd;cases hgd
 have h:optP (((killNew HD st).mapF (belowF t [])).mem t) (fun T0=>pivQ P M ops (HD.take m) p (HD.drop (m+1)) TL t (hide1 t ((killNew HD st).mapF (belowF t [])).mem) T0 ((killNew HD st).mapF (belowF t [])) K .mk .mk) .mk:=h
 cases hT:((killNew HD st).mapF (belowF t [])).mem t with
 | none=>rw [hT] at h;exact h.elim
 | some T0 =>
 rw [hT] at h
 have hkm:(killNew HD st).mem t=some T0:=hT
 have hbase:=clean_base t (killNew HD st)
 generalize hst1:(killNew HD st).mapF (belowF t [])=st1 at h hT hbase
 have hmem1:st1.mem=(killNew HD st).mem:=by rw [← hst1];rfl
 have h:flowC P ops t (hide1 t st1.mem) (HD.take m) st1 fun s1=>pvP P t T0 s1.ev p.op (fun X v=>valP v (fun v=>vc (v.mapH (belowF t [])=v) (flowC P ops t (hide1 t st1.mem) (HD.drop (m+1)) ((s1.setMem t X).put p.dst v) fun s2=>seqOps P M ops TL s2 K) .mk) .mk) .mk:=h
 obtain ⟨r1,hf1,hc1,h⟩:=flowC_extract (HD.take m) 0 st1 h
 obtain ⟨z,x0,X,v,rfl,hpv,hcv,h⟩:=pvP_extract h
 obtain ⟨r2,hf2,hc2,hK⟩:=flowC_extract (HD.drop (m+1)) (m+1) _ h
 have hl1:=flow_len hf1
 have hl2:=flow_len hf2
 obtain ⟨hmlt,hpe⟩:=List.getElem?_eq_some_iff.1 hp
 have hHD:HD=HD.take m++p :: HD.drop (m+1):=by
  rw [← hpe,← List.drop_eq_getElem_cons hmlt,List.take_append_drop]
 have hlm:(HD.take m).length=m:=by rw [List.length_take];omega
 have hcr:CleanR t HD (r1++(false,v) :: r2):=by
  rw [hHD];exact cleanR_append hl1 hc1 ⟨hcv,hc2⟩
 have hlen:(r1++(false,v) :: r2).length=HD.length:=by
  rw [List.length_append,List.length_cons,hl1,hl2,hlm,List.length_drop];omega
 have hr0:(r1++(false,v) :: r2)[m]? = some (false,v):=by
  rw [List.getElem?_append_right (by omega)];simp [hl1,hlm]
 have hpart:∀ (L:Nat→Bool) (s:St),part HD (r1++(false,v) :: r2) L 0 s=part (HD.drop (m+1)) r2 L (m+1) (if L m then app1 p (false,v) (part (HD.take m) r1 L 0 s) else part (HD.take m) r1 L 0 s):=fun L s=>by
  conv=>lhs;rw [hHD]
  rw [part_append _ _ _ _ _ _ _ hl1,hlm]
  simp only [part,Nat.zero_add]
 have hnt:∀ o∈HD,makesB o.op=true→o.dst≠some t:=by
  rcases killNew_mem (s:=t) HD st with hk | hk
  ·exact hk
  ·rw [hkm] at hk;cases hk
 have hget1:∀ i,i<m→HD[i]? = (HD.take m)[i]?∧(r1++(false,v) :: r2)[i]? = r1[i]?:=fun i hi=>by
  exact ⟨by rw [List.getElem?_take,if_pos hi],List.getElem?_append_left (by omega)⟩
 have hget2:∀ i,HD[m+1+i]? = (HD.drop (m+1))[i]?∧(r1++(false,v) :: r2)[m+1+i]? = r2[i]?:=fun i=>by
  refine ⟨by rw [List.getElem?_drop],?_⟩
  rw [List.getElem?_append_right (by omega),hl1,hlm,show m+1+i - m=i+1 by omega,List.getElem?_cons_succ]
 have hmk:∀ (j:Nat) (o:Oper) (r:Res),HD[j]? = some o→(r1++(false,v) :: r2)[j]? = some r→r.1=true→makesB o.op=true:=by
  intro j o r h1 h2 h3
  rcases Nat.lt_trichotomy j m with hj | hj | hj
  ·obtain ⟨g1,g2⟩:=hget1 j hj
   rw [g1] at h1;rw [g2] at h2
   exact flowR_makes hf1 j o r h1 h2 h3
  ·subst hj;rw [hr0] at h2;cases h2;cases h3
  ·obtain ⟨g1,g2⟩:=hget2 (j - (m+1))
   rw [show m+1+(j - (m+1))=j by omega] at g1 g2
   rw [g1] at h1;rw [g2] at h2
   exact flowR_makes hf2 _ o r h1 h2 h3
 have hflow:∀ (i:Nat) (o:Oper) (r:Res),i≠m→HD[i]? = some o→(r1++(false,v) :: r2)[i]? = some r→StepR P ops (hide1 t st1.mem) o (part HD (r1++(false,v) :: r2) (fun j=>decide (j<i)) 0 st1) r:=by
  intro i o r hi h1 h2
  rcases Nat.lt_or_gt_of_ne hi with hj | hj
  ·obtain ⟨g1,g2⟩:=hget1 i hj
   rw [g1] at h1;rw [g2] at h2
   have:=flow_step 0 hf1 i o r h1 h2
   rw [hpart]
   simp only [Nat.zero_add] at this
   rw [part_none _ _ _ _ fun j hj=>by simp;omega,if_neg (by simp;omega)]
   exact this
  ·obtain ⟨g1,g2⟩:=hget2 (i - (m+1))
   rw [show m+1+(i - (m+1))=i by omega] at g1 g2
   rw [g1] at h1;rw [g2] at h2
   have:=flow_step (m+1) hf2 _ o r h1 h2
   rw [show m+1+(i - (m+1))=i by omega] at this
   refine stepR_congr (fun u=>?_) this
   rw [hpart,if_pos (by simp;omega)]
   refine part_fr _ _ _ _ _ ?_ fun _ _ _ _=>rfl
   have e:part (HD.take m) r1 (fun j=>decide (j<i)) 0 st1=part (HD.take m) r1 (fun _=>true) 0 st1:=part_congr' _ _ 0 _ fun j _ hj2=>by rw [hlm] at hj2;simp;omega
   rw [e]
   show _=((part (HD.take m) r1 (fun _=>true) 0 st1).put p.dst v).fr u
   cases p.dst <;> rfl
 have hpv':PvR P t z x0 p (part HD (r1++(false,v) :: r2) (fun j=>decide (j<m)) 0 st1).ev X v:=by
  rw [hpart,part_none _ _ _ _ fun j hj=>by simp;omega,if_neg (by simp),part_congr' _ _ 0 _ (M:=fun _=>true) fun j _ hj2=>by rw [hlm] at hj2;simp;omega]
  exact hpv
 have hKK:seqOps P M ops TL (part HD (r1++(false,v) :: r2) (fun _=>true) 0 (st1.setMem t X)) K:=by
  rw [hpart,if_pos rfl]
  have e:app1 p (false,v) (part (HD.take m) r1 (fun _=>true) 0 (st1.setMem t X))=((part (HD.take m) r1 (fun _=>true) 0 st1).setMem t X).put p.dst v:=by
   rw [part_setMem _ _ _ _ _ fun j o r h1 h2 h3=>?_]
   ·rfl
   ·exact hnt o (by rw [hHD];exact List.mem_append_left _ (List.mem_of_getElem? h1)) (flowR_makes hf1 j o r h1 h2 h3)
  rw [e]
  exact hK
 obtain ⟨I,ρ,c⟩:=hc
 have c':Conc N E st a { w with drawn:=w.drawn+1 } I ρ:=c.grow ⟨⟨fun b o x h=>c.held.cell b o x h,c.held.base⟩,⟨rfl,rfl,rfl,Nat.le_refl _,fun _ _ _=>rfl⟩,fun _ _ _=>rfl⟩
 have hol:ops.length=HD.length+TL.length:=by
  conv=>lhs;rw [← hht]
  rw [List.length_append]
 have hz:∀ j,lstd (Array.replicate ops.toArray.size false) j=false:=fun j=>getD_replicate_false _ _
 have:=draw_goV (P:=P) (M:=M) (N:=N) (E:=E) (rs:=r1++(false,v) :: r2) (st1:=st1) (mem0:=hide1 t st1.mem) (m0:=m) hQ hOps hht hok hlen
  (fun s=>by rw [hmem1];exact killNew_mem HD st) hnt (fun s T h=>by
   unfold hide1 at h
   split at h
   ·cases h
   ·rename_i e;exact ⟨e,h⟩) hmk hbase hcr hp hr0 hg0 hflow hpv' hKK HD.length (List.range HD.length) (Array.replicate ops.toArray.size false) a { w with drawn:=w.drawn+1 }
  List.length_range List.nodup_range (fun j=>by rw [hz];simp) ⟨by simp,fun j oj _ h=>Bool.noConfusion ((hz j).symm.trans h),fun t _ ht=>getD_in (by simpa using ht) (hz t)⟩
  ⟨I,ρ,fun ρ' hρ=>by
   rw [part_none _ _ _ _ fun j _=>hz j,hz,if_neg (by simp)]
   have e:st1.setMem t (.pt z x0)=st1:=by
    cases hh:st1 with
    | mk fr mem =>
    rw [hh] at hT
    simp only [St.setMem]
    congr 1
    funext i
    split
    ·rename_i e;subst e;exact hT.symm
    ·rfl
   rw [e,← hst1]
   have ck:=conc_killNew HD st ρ c' ρ' fun s=>(hρ s).imp (fun h=>h) fun ⟨j,o,h1,h2,_,h4⟩=>⟨o,List.mem_of_getElem? h1,h2,h4⟩
   exact ck.remap (mem':=(killNew HD st).mem) (belowF t []) (fun s p s' p' hf=>by obtain ⟨rfl,rfl,_⟩:=belowF_some hf;rfl) ck.held (fun _ _ _ h=>h) ck.below ck.keeps ck.mem ck.lo ck.fix⟩
 have e:ops.toArray.size=HD.length+TL.length:=by simpa using hol
 rw [← e] at this
 exact this
end
end Go.AM
namespace Go.AM
open Go.RowKit (Below)

theorem part_memc {u:Nat}:∀ (hd:List Oper) (rs:List Res) {L M:Nat→Bool} (k:Nat) (st st':St),st.mem u=st'.mem u→(∀ j o,hd[j]? = some o→o.dst=some u→L (k+j)=M (k+j))→(part hd rs L k st).mem u=(part hd rs M k st').mem u
 | [],_,_,_,_,_,_,h,_=>h
 | _ :: _,[],_,_,_,_,_,h,_=>h
 | o :: os,r :: rs,L,M,k,st,st',h,hL=>by
  simp only [part]
  refine part_memc os rs (k+1) _ _ ?_ fun j o' h1 h2=>by have:=hL (j+1) o' (by simpa using h1) h2;simpa [Nat.add_assoc,Nat.add_comm 1 j] using this
  have key:∀ s:St,(app1 o r s).mem u=if r.1=true∧o.dst=some u then some r.2 else s.mem u:=by
   intro s
   unfold app1
   obtain ⟨b,v⟩:=r
   cases b <;> cases hd:o.dst <;> simp [St.put,St.addN,St.setMem]
   all_goals (split <;> split <;> first | rfl | (rename_i a b;exact absurd a.symm b) | (rename_i a b;exact absurd b.symm a) | (rename_i a b;subst a;rfl))
  by_cases hdst:o.dst=some u
  ·have:=hL 0 o (by simp) hdst
   simp only [Nat.add_zero] at this
   rw [this]
   cases M k <;> simp [key,hdst,h]
  ·cases L k <;> cases M k <;> simp [key,hdst,h]

def FlowM (P:Program) (ops:List Oper) (mem0:Nat→Option AV):List Oper→List (List Nat)→List Res→St→Prop
 | [],_,[],_=>True
 | o :: os,ls,r :: rs,st=>StepR P ops (memA (ls.headD []) st.mem mem0) o st r∧FlowM P ops mem0 os ls.tail rs (app1 o r st)
 | _,_,_,_=>False
theorem flowM_extract {P:Program} {ops:List Oper} {mem0:Nat→Option AV} {K:St→Prop}:∀ (hd:List Oper) (ls:List (List Nat)) (k:Nat) (st:St),flowM P ops mem0 hd ls st K→∃ rs,FlowM P ops mem0 hd ls rs st∧K (part hd rs (fun _=>true) k st)
 | [],_,_,st,h=>⟨[],trivial,h⟩
 | o :: os,ls,k,st,h=>by
  rcases guardP_sel h with ⟨hg,h1⟩ | ⟨hg,h1⟩
  ·obtain ⟨⟨b,v⟩,h2,h3,h4⟩:=fop_pick h1
   cases b with
   | false =>
    obtain ⟨rs,h5,h6⟩:=flowM_extract os _ (k+1) _ h3
    exact ⟨(false,v) :: rs,⟨.inl ⟨hg,h2,h4⟩,h5⟩,h6⟩
   | true =>
    obtain ⟨rs,h5,h6⟩:=flowM_extract os _ (k+1) _ h3
    exact ⟨(true,v) :: rs,⟨.inl ⟨hg,h2,h4⟩,h5⟩,h6⟩
  ·obtain ⟨rs,h5,h6⟩:=flowM_extract os _ (k+1) _ h1
   exact ⟨(false,.un) :: rs,⟨.inr ⟨hg,rfl⟩,h5⟩,h6⟩
theorem flowM_len {P:Program} {ops:List Oper} {mem0:Nat→Option AV}:∀ {hd:List Oper} {ls:List (List Nat)} {rs:List Res} {st:St},FlowM P ops mem0 hd ls rs st→rs.length=hd.length
 | [],_,[],_,_=>rfl
 | _ :: _,_,_ :: _,_,h=>by simp [flowM_len h.2]
 | [],_,_ :: _,_,h=>h.elim
 | _ :: _,_,[],_,h=>h.elim
theorem flowM_step {P:Program} {ops:List Oper} {mem0:Nat→Option AV}:∀ {hd:List Oper} {ls:List (List Nat)} {rs:List Res} {st:St} (k:Nat),FlowM P ops mem0 hd ls rs st→∀ i o r,hd[i]? = some o→rs[i]? = some r →
  StepR P ops (memA (ls.getD i []) (part hd rs (fun j=>decide (j<k+i)) k st).mem mem0) o (part hd rs (fun j=>decide (j<k+i)) k st) r
 | [],_,_,_,_,_,i,_,_,h,_=>by simp at h
 | _ :: _,_,[],_,_,h,_,_,_,_,_=>h.elim
 | o :: os,ls,r :: rs,st,k,h,0,o',r',h1,h2=>by
  simp at h1 h2
  subst h1;subst h2
  rw [part_none _ _ _ _ (fun j hj=>by simp;omega)]
  have e:ls.getD 0 []=ls.headD []:=by cases ls <;> rfl
  rw [e]
  exact h.1
 | o :: os,ls,r :: rs,st,k,h,i+1,o',r',h1,h2=>by
  have:=flowM_step (k+1) h.2 i o' r' (by simpa using h1) (by simpa using h2)
  simp only [part]
  have e2:(fun j=>decide (j<k+1+i))=fun j=>decide (j<k+(i+1)):=by funext j;congr 1;rw [Nat.add_assoc,Nat.add_comm 1 i]
  rw [e2] at this
  rw [if_pos (by simp)]
  have e:ls.tail.getD i []=ls.getD (i+1) []:=by cases ls <;> rfl
  rw [e] at this
  exact this
theorem flowM_makes {P:Program} {ops:List Oper} {mem0:Nat→Option AV} {hd:List Oper} {ls:List (List Nat)} {rs:List Res} {st:St} (h:FlowM P ops mem0 hd ls rs st) (j:Nat) (o:Oper) (r:Res) (h1:hd[j]? = some o) (h2:rs[j]? = some r) (h3:r.1=true):makesB o.op=true:=by
 rcases flowM_step 0 h j o r h1 h2 with ⟨_,_,hm⟩ | ⟨_,hr⟩
 ·exact hm h3
 ·rw [hr] at h3;cases h3

section
variable {P:Program} {M:FuncId→List Bool} {N:Nat} {E:Entry}
theorem draw_goM {ops HD TL:List Oper} {rs:List Res} {ls:List (List Nat)} {st0:St} {K:St→Prop} {Q:Exit→Act→World→Prop} (hQ:∀ a' w',AOut N E K a' w'→Q .normal a' w')
    (hOps:∀ o∈ops,OpOk N E o) (hht:HD++TL=ops) (hok:drawOkG ops HD TL=true) (hlen:rs.length=HD.length)
    (hmade:madeOk HD ls=true) (hmk:∀ (j:Nat) (o:Oper) (r:Res),HD[j]? = some o→rs[j]? = some r→r.1=true→makesB o.op=true)
    (hflow:∀ (i:Nat) (o:Oper) (r:Res),HD[i]? = some o→rs[i]? = some r→StepR P ops (memA (ls.getD i []) (part HD rs (fun j=>decide (j<i)) 0 (killNew HD st0)).mem (killNew HD st0).mem) o (part HD rs (fun j=>decide (j<i)) 0 (killNew HD st0)) r)
    (hK:seqOps P M ops TL (part HD rs (fun _=>true) 0 (killNew HD st0)) K) :
    ∀ (m:Nat) (U:List Nat) (listed:Array Bool) (a:Act) (w:World),U.length=m→U.Nodup→(∀ j,j∈U↔j<HD.length∧lstd listed j=false) →
      HeadInv .any ops.toArray HD.length listed→InvD N E HD rs (killNew HD st0) listed a w→wpAny P .any ops.toArray Q (m+TL.length) listed a w:=by
  unfold drawOkG at hok
  simp only [Bool.and_eq_true] at hok
  obtain ⟨⟨⟨hdis,hdeps⟩,htail⟩,hseq⟩:=hok
  have hdis:=distinctB_spec hdis
  have hhd:∀ {j:Nat} {o:Oper},HD[j]? = some o→ops[j]? = some o:=fun {j o} h=>by
    rw [← hht,List.getElem?_append_left (List.getElem?_eq_some_iff.1 h).1];exact h
  have hdh:∀ {j:Nat},j<HD.length→ops[j]? = HD[j]?:=fun {j} h=>by
    conv=>lhs;rw [← hht]
    rw [List.getElem?_append_left h]
  have htl:∀ j,TL[j]? = ops.toArray[HD.length+j]?:=fun j=>by
    rw [List.getElem?_toArray]
    have:=List.getElem?_append_right (l₁:=HD) (l₂:=TL) (i:=HD.length+j) (by omega)
    rw [hht] at this
    rw [this];congr 1;omega
  have hol:ops.length=HD.length+TL.length:=by
    conv=>lhs;rw [← hht]
    rw [List.length_append]
  intro m
  induction m with
  | zero =>
    intro U listed a w hU _ hUm inv ⟨I,ρ,H⟩
    have hU0:U=[]:=List.eq_nil_of_length_eq_zero hU
    have hall:∀ j,j<HD.length→lstd listed j=true:=fun j hj=>by
      cases h:lstd listed j with
      | true=>rfl
      | false=>have:=(hUm j).2 ⟨hj,h⟩;rw [hU0] at this;cases this
    have hlist:listed=firstN ops.length HD.length:=by
      apply Array.ext
      · simp [firstN,inv.size]
      · intro j h1 h2
        have hj:j<ops.length:=by simpa [inv.size] using h1
        simp only [firstN,Array.getElem_map,Array.getElem_range]
        by_cases hjn:j<HD.length
        · have:=hall j hjn
          simp only [lstd,Array.getD_eq_getD_getElem?,Array.getElem?_eq_getElem h1,Option.getD_some] at this
          rw [this];simp [hjn]
        · have:=inv.tail j (by omega) (by simpa using hj)
          simp only [Array.getD_eq_getD_getElem?,Array.getElem?_eq_getElem h1,Option.getD_some] at this
          rw [this];simp [hjn]
    have hc:=H ρ fun s=>.inl rfl
    rw [part_congr' HD rs (M:=fun _=>true) 0 _ fun j _ hj=>hall j (by simpa using hj)] at hc
    rw [Nat.zero_add]
    refine wpAny_of_seq TL HD.length listed a w htl (by rw [hlist];exact hseq) ?_
    exact seqOps_sound hQ ops TL _ a w (fun o ho=>hOps o (by rw [← hht];exact List.mem_append_right _ ho)) hK ⟨I,ρ,hc⟩
  | succ m ih =>
    intro U listed a w hU hnd hUm inv hinv
    rw [show m+1+TL.length=(m+TL.length)+1 by omega]
    have hun:∃ i0,i0<HD.length∧lstd listed i0=false:=by
      cases U with
      | nil=>cases hU
      | cons x _=>exact ⟨x,(hUm x).1 (by simp)⟩
    have hmin:∃ i0,i0<HD.length∧lstd listed i0=false∧∀ j,j<i0→lstd listed j=true:=by
      obtain ⟨i0,h1,h2⟩:=hun
      induction i0 using Nat.strongRecOn with
      | _ i0 ih0 =>
        by_cases hx:∃ j,j<i0∧lstd listed j=false
        · obtain ⟨j,hj,hj2⟩:=hx
          exact ih0 j hj (by omega) hj2
        · refine ⟨i0,h1,h2,fun j hj=>?_⟩
          cases h:lstd listed j with
          | true=>rfl
          | false=>exact absurd ⟨j,hj,h⟩ hx
    have hin:∀ {j:Nat},j<HD.length→j<listed.size:=fun h=>by rw [inv.size];simp;omega
    refine ⟨fun h0=>?_,fun i hi=>?_⟩
    · obtain ⟨i0,h1,h2,h3⟩:=hmin
      have ho:HD[i0]? = some (HD[i0]):=List.getElem?_eq_getElem h1
      have:i0∈Region.ready .any ops.toArray listed:=by
        rw [mem_ready]
        refine ⟨getD_in (hin h1) h2,HD[i0],by rw [List.getElem?_toArray];exact hhd ho,fun e he hb=>?_⟩
        exact h3 _ ((depsB_spec hdeps ho).1 e.on (mem_bindOn.2 ⟨e,he,hb,rfl⟩))
      rw [h0] at this;cases this
    · have hin':i<HD.length:=by
        rcases Nat.lt_or_ge i HD.length with h | h
        · exact h
        · obtain ⟨_,oi,hoi,_⟩:=mem_ready.1 hi
          have hlt:=(Array.getElem?_eq_some_iff.1 hoi).1
          simp only [List.size_toArray] at hlt
          cases htl':TL with
          | nil=>rw [htl'] at hol;simp at hol;omega
          | cons o r =>
            rw [htl'] at htail hol
            simp only [Bool.and_eq_true] at htail
            obtain ⟨i0,h1,h2⟩:=hun
            exact absurd hi (tail_waits htail.1 htail.2 (by simp;simp at hol;omega) inv _ i0 rfl h1 (getD_in (hin h1) h2) i h)
      obtain ⟨hiun,oi,hoi,hall⟩:=mem_ready.1 hi
      have ho:HD[i]? = some oi:=by rw [← hdh hin',← List.getElem?_toArray];exact hoi
      have hr:rs[i]? = some (rs[i]'(by omega)):=List.getElem?_eq_getElem _
      generalize rs[i]'(by omega)=r at hr
      have hst:=hflow i oi r ho hr
      have hun':lstd listed i=false:=getD_both hiun
      obtain ⟨hb,hl⟩:=depsB_spec hdeps ho
      have hclosed:∀ j o,HD[j]? = some o→lstd listed j=true→∀ q∈bindOn o,lstd listed q=true:=fun j o h1 h2 q hq=>by
        obtain ⟨e,he,hbd,rfl⟩:=mem_bindOn.1 hq
        exact inv.closed j o (by rw [List.getElem?_toArray];exact hhd h1) h2 e he hbd
      have hanc:∀ x∈(ancT HD []).getD i [],lstd listed x=true:=ancT_spec (lstd listed) HD hclosed HD [] 0 rfl (fun j=>by simp) (fun i o hi=>by omega) i oi (by simpa using hin') ho (fun q hq=>by
          obtain ⟨e,he,hbd,rfl⟩:=mem_bindOn.1 hq
          exact hall e he hbd)
      have hlook:∀ u∈looks ops oi,(part HD rs (fun j=>decide (j<i)) 0 (killNew HD st0)).fr u=(part HD rs (lstd listed) 0 (killNew HD st0)).fr u:=fun u hu=>by
        refine part_fr HD rs 0 _ _ rfl fun j oj h1 h2=>?_
        obtain ⟨h3,h4⟩:=hl u hu j oj h1 h2
        rw [Nat.zero_add,hanc j h4];simp [h3]
      have hmem:∀ s T,memA (ls.getD i []) (part HD rs (fun j=>decide (j<i)) 0 (killNew HD st0)).mem (killNew HD st0).mem s=some T→(part HD rs (lstd listed) 0 (killNew HD st0)).mem s=some T:=fun s T h=>by
        unfold memA at h
        split at h
        · rename_i hc
          have h1:=List.all_eq_true.1 (List.all_eq_true.1 hmade i (List.mem_range.2 hin')) s (List.contains_iff_mem.1 hc)
          obtain ⟨⟨oj,j⟩,hj,h2⟩:=List.any_eq_true.1 h1
          simp only [Bool.and_eq_true,beq_iff_eq,decide_eq_true_eq,List.contains_iff_mem] at h2
          have hoj:=List.mem_zipIdx_iff_getElem?.1 hj
          rw [← h]
          refine part_memc HD rs 0 _ _ rfl fun j' o' g1 g2=>?_
          have hjj:j'=j:=by
            by_cases e:j'=j
            · exact e
            · obtain ⟨d,d',q1,q2,q3⟩:=distinct_ne hdis g1 hoj e
              rw [g2] at q1;rw [h2.1.1] at q2
              cases q1;cases q2;exact (q3 rfl).elim
          subst hjj
          rw [Nat.zero_add,hanc j' h2.2];simp [h2.1.2]
        · exact mem_keeps (fun s=>killNew_mem HD st0) (fun _ _ h=>h) hmk _ s T h
      have hst':StepR P ops (memA (ls.getD i []) (part HD rs (fun j=>decide (j<i)) 0 (killNew HD st0)).mem (killNew HD st0).mem) oi (part HD rs (lstd listed) 0 (killNew HD st0)) r:=by
        unfold StepR at hst ⊢
        rw [← gsel_congr hlook]
        rcases hst with ⟨h1,h2,h3⟩ | h
        · exact .inl ⟨h1,fop_congr (ev_congr hlook) h2,h3⟩
        · exact .inr h
      have step:=draw_step (Q:=Q) (fun s=>killNew_mem HD st0) hmem hdis (hOps oi (by rw [← hht];exact List.mem_append_left _ (List.mem_of_getElem? ho))) ho hr hun' hlen hmk hst' (hin hin') hinv
      have next:∀ a' w',InvD N E HD rs (killNew HD st0) (listed.setIfInBounds i true) a' w'→wpAny P .any ops.toArray Q (m+TL.length) (listed.setIfInBounds i true) a' w':=fun a' w' h=>by
        refine ih (U.erase i) _ a' w' (by rw [List.length_erase_of_mem ((hUm i).2 ⟨hin',hun'⟩),hU];rfl) (hnd.erase i) (fun j=>?_) (inv.set hi hin') h
        rw [hnd.mem_erase_iff,hUm]
        by_cases hj:j=i
        · subst hj
          simp [lstd,hin hin']
        · have:lstd (listed.setIfInBounds i true) j=lstd listed j:=getD_set_ne false (Ne.symm hj)
          rw [this];simp [hj]
      unfold wpOp
      simp only [hoi]
      split
      · rename_i hw
        rw [if_pos hw] at step
        exact .inl (Oper.wp_mono next step)
      · rename_i hw
        rw [if_neg hw] at step
        exact next _ _ step


theorem made_sound {id:Nat} {ops:List Oper} {n:Nat} {ls:List (List Nat)} {st:St} {a:Act} {w:World} {K:St→Prop} {Q:Exit→Act→World→Prop} (hQ:∀ a' w',AOut N E K a' w'→Q .normal a' w') (hm:P.follows .mixedOrders=true)
  (hOps:∀ o∈ops,OpOk N E o) (hok:(drawOkG ops (ops.take n) (ops.drop n) && madeOk (ops.take n) ls)=true) (h:madeP P M ops (ops.take n) (ops.drop n) ls st K .mk .mk) (hc:CC N E st a w):(Code.region id ops.toArray true).wp P Q a w:=by
 refine wp_region_any hm ?_
 rw [Bool.and_eq_true] at hok
 obtain ⟨hok,hmade⟩:=hok
 have hht:ops.take n++ops.drop n=ops:=List.take_append_drop n ops
 generalize ops.take n=HD at *
 generalize ops.drop n=TL at *
 have h:flowM P ops (killNew HD st).mem HD ls (killNew HD st) fun st2=>seqOps P M ops TL st2 K:=h
 obtain ⟨rs,hflow,hK⟩:=flowM_extract HD ls 0 _ h
 obtain ⟨I,ρ,c⟩:=hc
 have c':Conc N E st a { w with drawn:=w.drawn+1 } I ρ:=c.grow ⟨⟨fun b o x h=>c.held.cell b o x h,c.held.base⟩,⟨rfl,rfl,rfl,Nat.le_refl _,fun _ _ _=>rfl⟩,fun _ _ _=>rfl⟩
 have hol:ops.length=HD.length+TL.length:=by
  conv=>lhs;rw [← hht]
  rw [List.length_append]
 have hz:∀ j,lstd (Array.replicate ops.toArray.size false) j=false:=fun j=>getD_replicate_false _ _
 have:=draw_goM (P:=P) (M:=M) (N:=N) (E:=E) (ls:=ls) hQ hOps hht hok (flowM_len hflow) hmade (flowM_makes hflow) (fun i o r h1 h2=>by have:=flowM_step 0 hflow i o r h1 h2;simpa using this) hK HD.length (List.range HD.length) (Array.replicate ops.toArray.size false) a { w with drawn:=w.drawn+1 }
  List.length_range List.nodup_range (fun j=>by rw [hz];simp) ⟨by simp,fun j oj _ h=>Bool.noConfusion ((hz j).symm.trans h),fun t _ ht=>getD_in (by simpa using ht) (hz t)⟩
  ⟨I,ρ,fun ρ' hρ=>by
   rw [part_none _ _ _ _ fun j _=>hz j]
   exact conc_killNew HD st ρ c' ρ' fun s=>(hρ s).imp (fun h=>h) fun ⟨j,o,h1,h2,_,h4⟩=>⟨o,List.mem_of_getElem? h1,h2,h4⟩⟩
 have e:ops.toArray.size=HD.length+TL.length:=by simpa using hol
 rw [← e] at this
 exact this
end
end Go.AM
namespace Go.AM
open Go.RowKit (Below)

def opOk (np N:Nat) (o:Oper):Bool:=match o.dst with | some t=>decide (t<N) && (!makesR o.op || decide (np≤t)) | none=>!makesR o.op || isCallV o.op
def opsIn (np N:Nat) (ops:List Oper):Bool:=ops.all (opOk np N)
def okX (np N:Nat) (X:List Nat):Code→Bool
 | .seq a b=>okX np N X a && okX np N X b
 | .cond _ a b=>okX np N X a && okX np N X b
 | .block _ a=>okX np N X a
 | .loop a=>okX np N X a
 | .region id ops true=>opsIn np N ops.toList && (X.contains id || drawOk ops.toList)
 | .region _ ops false=>opsIn np N ops.toList
 | .scope _=>false
 | _=>true
def codeOk (np N:Nat) (c:Code):Bool:=okX np N [] c
theorem mark_nil:∀ c:Code,mark [] c=c
 | .seq a b=>by simp only [mark,mark_nil a,mark_nil b]
 | .cond _ a b=>by simp only [mark,mark_nil a,mark_nil b]
 | .block _ a=>by simp only [mark,mark_nil a]
 | .loop a=>by simp only [mark,mark_nil a]
 | .region _ _ true=>rfl
 | .region _ _ false=>rfl
 | .scope _=>rfl
 | .skip=>rfl
 | .exit _=>rfl
 | .ret=>rfl
 | .rangeFunc _ _ _ _=>rfl
 | .label _=>rfl
 | .goto _=>rfl
 | .refuse _=>rfl

theorem opsIn_spec {np N:Nat} {E:Entry} (hE:E.args.length≤np) (h6:E.args.length≤6) {ops:List Oper} (h:opsIn np N ops=true):∀ o∈ops,OpOk N E o:=by
 intro o ho
 have:=List.all_eq_true.1 h o ho
 unfold opOk at this
 refine ⟨?_,?_,h6⟩
 ·intro t ht
  rw [ht] at this
  simp only [Bool.and_eq_true,decide_eq_true_eq] at this
  exact this.1
 ·intro hm
  constructor
  ·intro t ht
   rw [ht] at this
   simp only [Bool.and_eq_true,decide_eq_true_eq,Bool.or_eq_true,hm,Bool.not_true,Bool.false_eq_true,false_or] at this
   exact List.getElem?_eq_none (by omega)
  ·intro ht
   rw [ht] at this
   simpa [hm] using this

section
variable {P:Program} {M:FuncId→List Bool} {np N:Nat} {E:Entry}

def QOut (N:Nat) (E:Entry) (Q:Exit→St→Prop) (e:Exit) (a':Act) (w':World):Prop:=∃ st',Q e st'∧CC N E st' a' w'

theorem operAt_eq:∀ (l:List Oper) (j:Nat),operAt l j=l[j]?
 | [],j=>by simp [operAt]
 | o :: r,0=>by simp [operAt]
 | o :: r,j+1=>by simp [operAt,operAt_eq r j]

theorem alts_mem {P:Program} {M:FuncId→List Bool} {ops:List Oper} {f:Nat→OT} {st:St} {K:St→Prop}:∀ {r:List Nat},evalT P M ops (OT.alts f r) st K→∀ i∈r,seqAt P M ops (operAt ops i) st fun st'=>evalT P M ops (f i) st' K
 | [],_,i,h=>by cases h
 | x :: r,⟨h1,h2⟩,i,h=>by
  rcases List.mem_cons.1 h with rfl | h
  ·exact h1
  ·exact alts_mem h2 i h
theorem ready_readyL {ops:List Oper} (l:List Nat) (listed:Array Bool) (hs:listed.size=ops.length) (hl:∀ j,listed.getD j false=l.contains j) (i:Nat):i∈Region.ready .any ops.toArray listed↔i∈readyL ops l:=by
 rw [mem_ready]
 unfold readyL
 rw [List.mem_filter,List.mem_range]
 cases ho:ops[i]? with
 | none =>
  have:¬ i<ops.length:=by have:=List.getElem?_eq_none_iff.1 ho;omega
  simp [ho,this]
 | some o =>
  have hi:i<ops.length:=(List.getElem?_eq_some_iff.1 ho).1
  have e1:listed.getD i true=false↔l.contains i=false:=by
   rw [← hl]
   have hi':i<listed.size:=by omega
   simp [hi']
  have e2:(∀ e∈o.after,Region.binds .any e=true→listed.getD e.on false=true)↔(o.after.toList.all fun e=>!Region.binds .any e || l.contains e.on)=true:=by
   rw [List.all_eq_true]
   constructor
   ·intro h e he
    have:=h e (by simpa using he)
    rw [hl] at this
    cases hb:Region.binds .any e with
    | true=>simp only [this hb,Bool.or_true]
    | false=>rfl
   ·intro h e he hb
    have:=h e (by simpa using he)
    rw [hl]
    simpa [hb] using this
  rw [List.getElem?_toArray,ho]
  constructor
  ·rintro ⟨h1,o',h2,h3⟩
   cases h2
   refine ⟨hi,?_⟩
   simp only [Bool.and_eq_true,Bool.not_eq_true']
   exact ⟨e1.1 h1,e2.1 h3⟩
  ·rintro ⟨_,h2⟩
   simp only [Bool.and_eq_true,Bool.not_eq_true'] at h2
   exact ⟨e1.2 h2.1,o,rfl,e2.2 h2.2⟩

theorem any_orders {K:St→Prop} {Q:Exit→Act→World→Prop} (hQ:∀ a' w',AOut N E K a' w'→Q .normal a' w') {ops:List Oper} (hd:∀ o∈ops,OpOk N E o) :
  ∀ (n:Nat) (l:List Nat) (listed:Array Bool) (st:St) (a:Act) (w:World),listed.size=ops.length→(∀ j,listed.getD j false=l.contains j)→evalT P M ops (treeOf ops n l) st K→CC N E st a w→wpAny P .any ops.toArray Q n listed a w:=by
 intro n
 induction n with
 | zero =>
  intro l listed st a w hs hl h hc
  have hr:=ready_readyL (ops:=ops) l listed hs hl
  unfold treeOf at h
  split at h
  ·rename_i he
   refine ⟨?_,hQ _ _ ⟨st,h,hc⟩⟩
   rw [List.eq_nil_iff_forall_not_mem]
   intro i hi
   have:=(hr i).1 hi
   rw [List.isEmpty_iff.1 he] at this
   cases this
  ·exact h.elim
 | succ n ih =>
  intro l listed st a w hs hl h hc
  have hr:=ready_readyL (ops:=ops) l listed hs hl
  unfold treeOf at h
  split at h
  ·rename_i he
   refine ⟨fun _=>hQ _ _ ⟨st,h,hc⟩,fun i hi=>?_⟩
   have:=(hr i).1 hi
   rw [List.isEmpty_iff.1 he] at this
   cases this
  ·rename_i he
   refine ⟨fun h0=>?_,fun i hi=>?_⟩
   ·exfalso
    apply he
    rw [List.isEmpty_iff,List.eq_nil_iff_forall_not_mem]
    intro i hi
    have:=(hr i).2 hi
    rw [h0] at this;cases this
   ·have h1:=alts_mem h i ((hr i).1 hi)
    obtain ⟨_,o,ho,_⟩:=mem_ready.1 hi
    have ho':ops[i]? = some o:=by simpa using ho
    have hmem:o∈ops:=List.mem_of_getElem? ho'
    have hi2:i<ops.length:=(List.getElem?_eq_some_iff.1 ho').1
    have hnext:∀ a' w',AOut N E (fun st'=>evalT P M ops (treeOf ops n (i :: l)) st' K) a' w'→wpAny P .any ops.toArray Q n (listed.setIfInBounds i true) a' w':=fun a' w' ⟨st',hk,hc'⟩=>by
     refine ih (i :: l) _ st' a' w' (by simpa using hs) (fun j=>?_) hk hc'
     by_cases hj:i=j
     ·subst hj
      have:i<listed.size:=by omega
      simp [this]
     ·rw [getD_set_ne false hj,hl j]
      simp [Ne.symm hj]
    rw [operAt_eq,ho'] at h1
    obtain ⟨I,ρ,c⟩:=hc
    unfold wpOp
    simp only [ho]
    rcases guard_sound c ops o h1 with ⟨hw,h2⟩ | ⟨hw,h2⟩
    ·rw [if_pos hw]
     obtain ⟨dst,op,ty,pos,after,g⟩:=o
     exact .inl (Oper.wp_mono hnext (aop_sound (Q:=Q) c (hd _ hmem).1 (hd _ hmem).2.1 (hd _ hmem).2.2 h2))
    ·rw [if_neg (by simp [hw])]
     exact hnext _ _ ⟨_,h2,I,ρ,c.put _ (hd _ hmem).1 (.stat (.v _))⟩

theorem any_region_sound {id:Nat} {ops:Array Oper} {st:St} {a:Act} {w:World} {K:St→Prop} {Q:Exit→Act→World→Prop} (hQ:∀ a' w',AOut N E K a' w'→Q .normal a' w') (hm:P.follows .mixedOrders=true)
  (hd:∀ o∈ops.toList,OpOk N E o) (h:AnyP P M ops.toList st K .mk .mk) (hc:CC N E st a w):(Code.region id ops true).wp P Q a w:=by
 obtain ⟨ops⟩:=ops
 rcases h with ⟨R,h1,h2⟩ | ⟨n,h1,h2⟩ | ⟨n,m,t,h1,h2⟩ | ⟨n,ls,h1,h2⟩
 case inr.inl=>exact draw_soundG hQ hm hd (List.take_append_drop n ops) h1 h2 hc
 case inr.inr.inl=>exact piv_sound hQ hm hd h1 h2 hc
 case inr.inr.inr=>exact made_sound hQ hm hd h1 h2 hc
 refine wp_region_any hm ?_
 obtain ⟨I,ρ,c⟩:=hc
 have c':Conc N E st a { w with drawn:=w.drawn+1 } I ρ:=c.grow ⟨⟨fun b o x h=>c.held.cell b o x h,c.held.base⟩,⟨rfl,rfl,rfl,Nat.le_refl _,fun _ _ _=>rfl⟩,fun _ _ _=>rfl⟩
 exact any_orders (K:=R) (fun a' w' ⟨st',hk,hcc⟩=>hQ _ _ ⟨st',h2 _ hk,hcc⟩) hd ops.length [] _ st a _ (by simp) (fun j=>by rw [getD_replicate_false];rfl) h1 ⟨I,ρ,c'⟩

theorem AWP_sound (hm:P.follows .mixedOrders=true) (hE:E.args.length≤np) (h6:E.args.length≤6):∀ (X:List Nat) (c:Code) (Q:Exit→St→Prop) (st:St) (a:Act) (w:World),okX np N X c=true→AWP P M (mark X c) Q st→CC N E st a w→c.wp P (QOut N E Q) a w
  | X,.skip,Q,st,a,w,_,h,hc=>wp_skip ⟨st,h,hc⟩
  | X,.seq x y,Q,st,a,w,hok,h,hc=>by
    simp only [mark] at h
    simp only [okX] at hok
    simp only [Bool.and_eq_true] at hok
    rw [AWP_seq] at h
    refine wp_seq (Code.wp_mono ?_ (AWP_sound hm hE h6 X x _ st a w hok.1 h hc))
    rintro e a' w' ⟨st',hq,hc'⟩
    cases e with
    | normal=>exact AWP_sound hm hE h6 X y Q st' a' w' hok.2 hq hc'
    | exit id=>exact ⟨st',hq,hc'⟩
    | goto l=>exact ⟨st',hq,hc'⟩
    | ret=>exact ⟨st',hq,hc'⟩
    | panic ch=>exact ⟨st',hq,hc'⟩
    | outgrown=>exact ⟨st',hq,hc'⟩
  | X,.cond c x y,Q,st,a,w,hok,h,hc=>by
    simp only [mark] at h
    simp only [okX] at hok
    simp only [Bool.and_eq_true] at hok
    rw [AWP_cond] at h
    obtain ⟨I,ρ,hcc⟩:=hc
    unfold condQ at h
    split at h
    · rename_i b hb
      have hr:=hcc.ev c
      rw [hb] at hr
      refine wp_cond (rep_v hr) ?_
      cases b with
      | true=>exact AWP_sound hm hE h6 X x Q st a w hok.1 (h.1 rfl) ⟨I,ρ,hcc⟩
      | false=>exact AWP_sound hm hE h6 X y Q st a w hok.2 (h.2 rfl) ⟨I,ρ,hcc⟩
    · exact h.elim
  | X,.block id x,Q,st,a,w,hok,h,hc=>by
    simp only [mark] at h
    simp only [okX] at hok
    rw [AWP_block] at h
    refine wp_block (Code.wp_mono ?_ (AWP_sound hm hE h6 X x _ st a w hok h hc))
    rintro e a' w' ⟨st',hq,hc'⟩
    cases e with
    | normal=>exact ⟨st',hq,hc'⟩
    | exit id' =>
      simp only [blockQ] at hq
      simp only [Exit.inBlock]
      split at hq
      · rename_i e;rw [if_pos e];exact ⟨st',hq,hc'⟩
      · rename_i e;rw [if_neg e];exact ⟨st',hq,hc'⟩
    | goto l=>exact ⟨st',hq,hc'⟩
    | ret=>exact ⟨st',hq,hc'⟩
    | panic ch=>exact ⟨st',hq,hc'⟩
    | outgrown=>exact ⟨st',hq,hc'⟩
  | X,.loop x,Q,st,a,w,hok,h,hc=>by
    simp only [mark] at h
    simp only [okX] at hok
    rw [AWP] at h
    obtain ⟨J,B,⟨st0,hent,h0⟩,hstep⟩:=h
    have key:∀ (R:Nat→St→Prop),(∀ k st',R k st'→k<B∧∃ st'',Ent st' st''∧J (k+1) st'')→(∀ k st1,k≤B→J k st1→AWP P M (mark X x) (thenQ (R k) Q) st1) →
        ∀ (m k:Nat) (st:St) (a:Act) (w:World),B - k=m→k≤B→J k st→CC N E st a w→Code.rounds P x (QOut N E Q) (m+1) a w:=by
      intro R hR hstep m
      induction m with
      | zero =>
        intro k st a w hk hle hj hcc
        rw [rounds_succ]
        refine Code.wp_mono ?_ (AWP_sound hm hE h6 X x _ st a w hok (hstep k st hle hj) hcc)
        rintro e a' w' ⟨st',hq,hc'⟩
        cases e with
        | normal=>obtain ⟨hlt,_⟩:=hR k st' hq;omega
        | exit id=>exact ⟨st',hq,hc'⟩
        | goto l=>exact ⟨st',hq,hc'⟩
        | ret=>exact ⟨st',hq,hc'⟩
        | panic ch=>exact ⟨st',hq,hc'⟩
        | outgrown=>exact ⟨st',hq,hc'⟩
      | succ m ih =>
        intro k st a w hk hle hj hcc
        rw [rounds_succ]
        refine Code.wp_mono ?_ (AWP_sound hm hE h6 X x _ st a w hok (hstep k st hle hj) hcc)
        rintro e a' w' ⟨st',hq,hc'⟩
        cases e with
        | normal=>obtain ⟨hlt,st'',he,hj'⟩:=hR k st' hq;exact ih (k+1) st'' a' w' (by omega) (by omega) hj' (he _ _ _ _ h6 hc')
        | exit id=>exact ⟨st',hq,hc'⟩
        | goto l=>exact ⟨st',hq,hc'⟩
        | ret=>exact ⟨st',hq,hc'⟩
        | panic ch=>exact ⟨st',hq,hc'⟩
        | outgrown=>exact ⟨st',hq,hc'⟩
    rcases hstep with hstep | hstep
    · exact wp_loop_rounds _ (key (fun k st'=>k<B∧J (k+1) st') (fun k st' h=>⟨h.1,st',.refl _,h.2⟩) hstep _ 0 st0 a w rfl (Nat.zero_le _) h0 (hent _ _ _ _ h6 hc))
    · exact wp_loop_rounds _ (key (fun k st'=>k<B∧∃ st'',Ent st' st''∧J (k+1) st'') (fun k st' h=>h) hstep _ 0 st0 a w rfl (Nat.zero_le _) h0 (hent _ _ _ _ h6 hc))
  | X,.exit id,Q,st,a,w,_,h,hc=>wp_exit ⟨st,by simp only [mark] at h;rw [AWP_exit] at h;exact h,hc⟩
  | X,.ret,Q,st,a,w,_,h,hc=>wp_ret ⟨st,by simp only [mark] at h;rw [AWP_ret] at h;exact h,hc⟩
  | X,.region id ops true,Q,st,a,w,hok,h,hc=>by
    simp only [mark] at h
    simp only [okX,Bool.and_eq_true,Bool.or_eq_true] at hok
    by_cases hX:X.contains id=true
    · rw [if_pos hX,AWP] at h
      exact any_region_sound (K:=Q .normal) (fun a' w' hh=>hh) hm (opsIn_spec hE h6 hok.1) h hc
    · rw [if_neg hX,AWP] at h
      exact draw_sound (K:=Q .normal) (fun a' w' hh=>hh) hm (opsIn_spec hE h6 hok.1) (hok.2.resolve_left hX) h hc
  | X,.region id ops false,Q,st,a,w,hok,h,hc=>by
    simp only [mark] at h
    simp only [okX] at hok
    by_cases hX:X.contains id=true
    · rw [if_pos hX,AWP] at h
      refine wp_region_list ?_
      exact seqX_sound (K:=Q .normal) (fun a' w' hh=>hh) (opsIn_spec hE h6 hok) h hc
    rw [if_neg hX,AWP] at h
    refine wp_region_list ?_
    exact seqOps_sound (K:=Q .normal) (fun a' w' hh=>hh) ops.toList ops.toList st a w (opsIn_spec hE h6 hok) h hc
  | X,.rangeFunc _ _ _ _,_,_,_,_,_,h,_=>by unfold AWP at h;exact h.elim
  | X,.scope _,_,_,_,_,hok,_,_=>by simp only [okX] at hok;cases hok
  | X,.label _,_,_,_,_,_,h,_=>by unfold AWP at h;exact h.elim
  | X,.goto _,_,_,_,_,_,h,_=>by unfold AWP at h;exact h.elim
  | X,.refuse _,_,_,_,_,_,h,_=>by unfold AWP at h;exact h.elim

end
end Go.AM
namespace Go.AM
open Go.RowKit (Below)

section
variable {P:Program} {M:FuncId→List Bool} {np N:Nat} {E:Entry} {st:St} {a:Act} {w w':World} {I I' J:Gh} {ρ ρ':Pl} {mem mem':Nat→Option AV}

structure Closed (I:Gh) (ρ:Pl) (w:World) (mem:Nat→Option AV) (S:List (Nat×Path)) (X:AV) (π:Path→Option Plc):Prop where
 row:∀ p,NodeOk I π w p (X.at p)
 src:∀ p k,(X.at p).isNode=true→π p=some k→∃ t q p' R k0,(t,q)∈S∧mem t=some R∧(R.at (q++p')).isNode=true∧ρ t (q++p')=some k0∧k0.b=k.b
 inj:∀ p k p' k',(X.at p).isNode=true→π p=some k→(X.at p').isNode=true→π p'=some k'→k.b=k'.b→p=p'
structure ClosedL (I:Gh) (ρ:Pl) (w:World) (mem:Nat→Option AV) (S:List (Nat×Path)) (l:List AV) (Φ:Nat→Path→Option Plc):Prop where
 row:∀ j p,NodeOk I (Φ j) w p ((l.getD j .any).at p)
 src:∀ j p k,((l.getD j .any).at p).isNode=true→Φ j p=some k→∃ t q p' R k0,(t,q)∈S∧mem t=some R∧(R.at (q++p')).isNode=true∧ρ t (q++p')=some k0∧k0.b=k.b
 inj:∀ j p k j' p' k',((l.getD j .any).at p).isNode=true→Φ j p=some k→((l.getD j' .any).at p').isNode=true→Φ j' p'=some k'→k.b=k'.b→j=j'∧p=p'

theorem closed_stat {X:AV} {S:List (Nat×Path)} {π:Path→Option Plc} (h:∀ p,(X.at p).isNode=false):Closed I ρ w mem S X π :=
 ⟨fun p=>node_false (h p),(fun p k q=>by rw [h] at q;cases q),fun p k p' k' q=>by rw [h] at q;cases q⟩
theorem Closed.sub {S S':List (Nat×Path)} {X:AV} {π:Path→Option Plc} (h:Closed I ρ w mem S X π) (hs:∀ x∈S,x∈S'):Closed I ρ w mem S' X π :=
 ⟨h.row,fun p k q1 q2=>by obtain ⟨t,q,p',R,k0,g1,g2⟩:=h.src p k q1 q2;exact ⟨t,q,p',R,k0,hs _ g1,g2⟩,h.inj⟩
theorem closedL_nil:ClosedL I ρ w mem [] [] (fun _ _=>none):=by
 have e:∀ j p,((([]:List AV).getD j .any).at p).isNode=false:=fun j p=>by
  have:([]:List AV).getD j .any=.any:=rfl
  rw [this,any_at];rfl
 exact ⟨fun j p=>node_false (e j p),(fun j p k q=>by rw [e] at q;cases q),fun j p k j' p' k' q=>by rw [e] at q;cases q⟩
def Aprt (x y:Nat×Path):Prop:=y.1≠x.1∨Div x.2 y.2
theorem Aprt.symm {x y:Nat×Path} (h:Aprt x y):Aprt y x:=h.imp Ne.symm Div.symm
theorem closedL_cons (m:Sep J ρ w mem) {X:AV} {l:List AV} {π:Path→Option Plc} {Φ:Nat→Path→Option Plc} {S S':List (Nat×Path)} (h:Closed I ρ w mem S X π) (h':ClosedL I ρ w mem S' l Φ) (hap:∀ x∈S,∀ y∈S',Aprt x y) :
  ClosedL I ρ w mem (S++S') (X :: l) (fun j=>match j with | 0=>π | j+1=>Φ j):=by
 have cross:∀ p k j' p' k',(X.at p).isNode=true→π p=some k→((l.getD j' .any).at p').isNode=true→Φ j' p'=some k'→k.b≠k'.b:=by
  intro p k j' p' k' q1 q2 q3 q4 he
  obtain ⟨t,q,r,R,k0,g1,g2,g3,g4,g5⟩:=h.src p k q1 q2
  obtain ⟨t',q',r',R',k0',g1',g2',g3',g4',g5'⟩:=h'.src j' p' k' q3 q4
  obtain ⟨x1,x2⟩:=m.inj t R _ k0 t' R' _ k0' g2 g3 g4 g2' g3' g4' (by rw [g5,g5',he])
  rcases hap _ g1 _ g1' with e | e
  ·exact e x1.symm
  ·exact div_of_div e (List.prefix_append q r) (x2 ▸ List.prefix_append q' r')
 refine ⟨fun j p=>?_,fun j p k q1 q2=>?_,fun j p k j' p' k' q1 q2 q3 q4 he=>?_⟩
 ·cases j with
  | zero=>exact h.row p
  | succ j=>exact h'.row j p
 ·cases j with
  | zero =>
   obtain ⟨t,q,p',R,k0,g1,g2⟩:=h.src p k q1 q2
   exact ⟨t,q,p',R,k0,List.mem_append_left _ g1,g2⟩
  | succ j =>
   obtain ⟨t,q,p',R,k0,g1,g2⟩:=h'.src j p k q1 q2
   exact ⟨t,q,p',R,k0,List.mem_append_right _ g1,g2⟩
 ·cases j with
  | zero =>
   cases j' with
   | zero=>exact ⟨rfl,h.inj p k p' k' q1 q2 q3 q4 he⟩
   | succ j'=>exact (cross p k j' p' k' q1 q2 q3 q4 he).elim
  | succ j =>
   cases j' with
   | zero=>exact (cross p' k' j p k q3 q4 q1 q2 he.symm).elim
   | succ j' =>
    obtain ⟨x1,x2⟩:=h'.inj j p k j' p' k' q1 q2 q3 q4 he
    exact ⟨by rw [x1],x2⟩

def rowP (Φ:Nat→Path→Option Plc):Path→Option Plc
 | []=>none
 | (0,j) :: p=>Φ j p
 | (_+1,_) :: _=>none
theorem closed_row {l:List AV} {Φ:Nat→Path→Option Plc} {S:List (Nat×Path)} {X:AV} (hX:(∃ fs,X=.agg fs)∨∃ fs,X=.tup fs) (hat:∀ i j,X.cellAt i j=match i with | 0=>l.getD j .any | _+1=>.any) (h:ClosedL I ρ w mem S l Φ):Closed I ρ w mem S X (rowP Φ):=by
 have h0:X.isNode=false:=by rcases hX with ⟨fs,rfl⟩ | ⟨fs,rfl⟩ <;> rfl
 have h1:∀ i j p,X.at ((i+1,j) :: p)=.any:=fun i j p=>by
  show AV.at (X.cellAt (i+1) j) p=_
  rw [hat,any_at]
 have h2:∀ j p,X.at ((0,j) :: p)=(l.getD j .any).at p:=fun j p=>by
  show AV.at (X.cellAt 0 j) p=_
  rw [hat]
 refine ⟨fun p=>?_,fun p k q1 q2=>?_,fun p k p' k' q1 q2 q3 q4 he=>?_⟩
 ·match p with
  | []=>exact node_false h0
  | (0,j) :: p=>rw [h2];exact node_shift (h.row j p) (fun r=>rfl)
  | (i+1,j) :: p=>rw [h1];trivial
 ·match p,q1,q2 with
  | [],q1,_=>have q1:X.isNode=true:=q1;rw [h0] at q1;cases q1
  | (0,j) :: p,q1,q2=>rw [h2] at q1;exact h.src j p k q1 q2
  | (i+1,j) :: p,q1,_=>rw [h1] at q1;cases q1
 ·match p,q1,q2 with
  | [],q1,_=>have q1:X.isNode=true:=q1;rw [h0] at q1;cases q1
  | (i+1,j) :: p,q1,_=>rw [h1] at q1;cases q1
  | (0,j) :: p,q1,q2 =>
   match p',q3,q4 with
   | [],q3,_=>have q3:X.isNode=true:=q3;rw [h0] at q3;cases q3
   | (i+1,j') :: p',q3,_=>rw [h1] at q3;cases q3
   | (0,j') :: p',q3,q4 =>
    rw [h2] at q1 q3
    obtain ⟨x1,x2⟩:=h.inj j p k j' p' k' q1 q2 q3 q4 he
    rw [x1,x2]
theorem closed_agg {l:List AV} {Φ:Nat→Path→Option Plc} {S:List (Nat×Path)} (h:ClosedL I ρ w mem S l Φ):Closed I ρ w mem S (.agg l) (rowP Φ) :=
 closed_row (.inl ⟨l,rfl⟩) (fun i j=>by cases i <;> rfl) h
theorem closed_tup {l:List AV} {Φ:Nat→Path→Option Plc} {S:List (Nat×Path)} (h:ClosedL I ρ w mem S l Φ):Closed I ρ w mem S (.tup l) (rowP Φ) :=
 closed_row (.inr ⟨l,rfl⟩) (fun i j=>by cases i <;> rfl) h

theorem le_closed {c b:AV} {v:Value} {s:List (Nat×Path)} (hc:∃ π,CellOk I (π []) c v∧Closed I ρ w mem s c π) (hn:c=.v (.slice none 0 0)→v=.slice none 0 0) (hb:leC c b):∃ π,CellOk I (π []) b v∧Closed I ρ w mem s b π:=by
 unfold leC at hb
 split at hb
 ·exact ⟨fun _=>none,rs_cell (.any v) _,closed_stat fun p=>by rw [any_at];rfl⟩
 ·rename_i z es
  subst hb
  rw [hn rfl]
  refine ⟨fun _=>none,.inl ⟨rfl,.inr ⟨rfl,none,rfl⟩⟩,⟨fun p=>?_,(fun p k _ h=>by cases h),fun p k p' k' _ h=>by cases h⟩⟩
  cases p with
  | nil=>exact .inl ⟨rfl,rfl⟩
  | cons ij p=>exact node_false (tr_leaf (I:=I) (fun i hi=>by cases hi) ij p)
 ·rename_i z es
  subst hb
  rw [hn rfl]
  have hr:RepS I (.sl z []) (.slice none 0 0):=.nil z none
  exact ⟨fun _=>none,rs_cell hr _,closed_stat (rs_at hr)⟩
 ·subst hb;exact hc
theorem closeC_sem (m:Sep I ρ w mem) {x:AV} {v:Value} {K:AV→List (Nat×Path)→Prop} (h:closeC mem x K .mk) (r:Rep I ρ x v) :
  ∃ c s,K c s∧((∃ fs,c=.agg fs)→∃ fs,x=.agg fs)∧∀ b,leC c b→∃ π,CellOk I (π []) b v∧Closed I ρ w mem s b π:=by
 have any:∀ (c:AV) (s:List (Nat×Path)),(∃ π,CellOk I (π []) c v∧Closed I ρ w mem s c π)→(c=.v (.slice none 0 0)→v=.slice none 0 0)→∀ b,leC c b→∃ π,CellOk I (π []) b v∧Closed I ρ w mem s b π:=fun c s hc hn b hb=>le_closed hc hn hb
 unfold closeC at h
 split at h
 ·rename_i t q z o n
  unfold closeTr at h
  split at h
  ·rename_i z' es hT
   obtain ⟨⟨rfl,hon⟩,k⟩:=h
   refine ⟨_,_,k,(fun ⟨_,e⟩=>by cases e),any _ _ ?_ (fun e=>by cases e)⟩
   obtain ⟨R,hR,hRq⟩:=nodeAt_some hT rfl
   have hrow:=m.row t R q hR
   rw [hRq] at hrow
   have hlen:((es.drop o).take n).length=n:=by simp;omega
   have hget:∀ i (hi:i<n),((es.drop o).take n).getD i .any=es[o+i]'(by omega):=fun i hi=>by
    rw [getD_lt (by omega)];simp
   have hsub:∀ (ij:Nat×Nat) p,((AV.tr z ((es.drop o).take n)).at (ij :: p)).isNode=true→(AV.tr z ((es.drop o).take n)).at (ij :: p)=R.at (q++(o+ij.1,ij.2) :: p):=by
    intro ij p h
    have h:(AV.at ((((es.drop o).take n).getD ij.1 .any).cells.getD ij.2 .any) p).isNode=true:=h
    by_cases h1:ij.1<n
    ·rw [at_append,hRq]
     show AV.at ((((es.drop o).take n).getD ij.1 .any).cells.getD ij.2 .any) p=AV.at ((es.getD (o+ij.1) .any).cells.getD ij.2 .any) p
     rw [hget _ h1,getD_lt (show o+ij.1<es.length by omega)]
    ·have e0:((es.drop o).take n).getD ij.1 .any=.any:=getD_ge (by omega)
     rw [e0] at h
     have e:(AV.any).cells.getD ij.2 .any=.any:=by cases ij.2 <;> rfl
     rw [e,any_at] at h;cases h
   have hRn:(R.at q).isNode=true:=by rw [hRq];rfl
   let π:Path→Option Plc:=fun p=>match p with | []=>(ρ t q).map fun k=>⟨k.b,k.off+o*z,z,k.cap - o⟩ | ij :: p=>ρ t (q++(o+ij.1,ij.2) :: p)
   let tr:Path→Path:=fun p=>match p with | []=>[] | ij :: p=>(o+ij.1,ij.2) :: p
   have htr:∀ p p',tr p=tr p'→p=p':=by
    intro p p' h
    cases p with
    | nil=>cases p' with
     | nil=>rfl
     | cons _ _=>cases h
    | cons a p=>cases p' with
     | nil=>cases h
     | cons b p' =>
      simp only [tr,List.cons.injEq,Prod.mk.injEq] at h
      obtain ⟨⟨h1,h2⟩,h3⟩:=h
      obtain ⟨a1,a2⟩:=a
      obtain ⟨b1,b2⟩:=b
      simp only at h1 h2
      rw [h2,h3,show a1=b1 by omega]
   have hnode:∀ p k,((AV.tr z ((es.drop o).take n)).at p).isNode=true→π p=some k→(R.at (q++tr p)).isNode=true∧∃ k0,ρ t (q++tr p)=some k0∧k0.b=k.b:=by
    intro p k h1 h2
    cases p with
    | nil =>
     simp only [π] at h2
     obtain ⟨k0,hk0,rfl⟩:=Option.map_eq_some_iff.1 h2
     exact ⟨by simp only [tr];rw [List.append_nil];exact hRn,k0,by simp only [tr];rw [List.append_nil];exact hk0,rfl⟩
    | cons ij p=>exact ⟨hsub ij p h1 ▸ h1,k,h2,rfl⟩
   refine ⟨π,.inl ⟨rfl,?_⟩,⟨fun p=>?_,fun p k h1 h2=>?_,fun p k p' k' h1 h2 h1' h2' he=>?_⟩⟩
   ·rcases rep_ref r with ⟨k,h1,h2,h3,h4⟩ | ⟨h1,x,h2⟩
    ·refine .inl ⟨⟨k.b,k.off+o*z,z,k.cap - o⟩,by simp [π,h1],rfl,by show _≤k.cap - o;omega,by rw [hlen];exact h4⟩
    ·exact .inr ⟨List.eq_nil_of_length_eq_zero (by omega),x,h2⟩
   ·cases p with
    | nil =>
     show RowOk I π w [] z ((es.drop o).take n)
     rcases hrow with ⟨h1,h2⟩ | ⟨k,Et,arr,h1,h2,h3,h4,h5,h6,h7⟩
     ·exact .inl ⟨by simp [π,h1],by rw [h2];simp⟩
     ·have hmul:o*z+(k.cap - o)*z=k.cap*z:=by rw [← Nat.add_mul];congr 1;omega
      refine .inr ⟨⟨k.b,k.off+o*z,z,k.cap - o⟩,Et,arr,by simp [π,h1],rfl,by show _≤k.cap - o;omega,by show k.cap - o≤_;omega,h5,by show k.off+o*z+(k.cap - o)*z≤_;omega,fun i hi=>?_⟩
      have hi':i<n:=by omega
      have e1:((es.drop o).take n)[i]=es[o+i]'(by omega):=by simp
      have h8:=h7 (o+i) (by omega)
      refine ⟨by rw [e1];exact h8.1,fun j hj=>?_⟩
      have hj':j<(es[o+i]'(by omega)).cells.length:=by rw [← e1];exact hj
      have e3:(((es.drop o).take n)[i]).cells[j]=(es[o+i]'(by omega)).cells[j]'hj':=by simp only [e1]
      have e4:k.off+o*z+i*z+j=k.off+(o+i)*z+j:=by rw [Nat.add_mul];omega
      rw [e3]
      show CellOk I (ρ t (q++[(o+i,j)])) _ (arr.getD (k.off+o*z+i*z+j) undef)∧(arr.getD (k.off+o*z+i*z+j) undef).oneCell'=true
      rw [e4]
      exact h8.2 j hj'
    | cons ij p =>
     cases hn:((AV.tr z ((es.drop o).take n)).at (ij :: p)).isNode with
     | false=>exact node_false hn
     | true =>
      rw [hsub ij p hn]
      exact node_shift (m.row t R (q++(o+ij.1,ij.2) :: p) hR) (fun r=>by show ρ t (q++((o+ij.1,ij.2) :: (p++r)))=_;simp)
   ·obtain ⟨g1,k0,g2,g3⟩:=hnode p k h1 h2
    exact ⟨t,q,tr p,R,k0,by simp,hR,g1,g2,g3⟩
   ·obtain ⟨g1,k0,g2,g3⟩:=hnode p k h1 h2
    obtain ⟨g1',k0',g2',g3'⟩:=hnode p' k' h1' h2'
    exact htr _ _ (List.append_cancel_left (m.inj t R _ k0 t R _ k0' hR g1 g2 hR g1' g2' (by rw [g3,g3',he])).2)
  ·exact h.elim
 ·rename_i t q i j
  obtain ⟨⟨rfl,rfl⟩,h⟩:=h
  unfold closePt at h
  split at h
  ·rename_i z x hT
   refine ⟨_,_,h,(fun ⟨_,e⟩=>by cases e),any _ _ ?_ (fun e=>by cases e)⟩
   obtain ⟨R,hR,hRq⟩:=nodeAt_some hT rfl
   refine ⟨fun p=>ρ t (q++p),.inl ⟨rfl,?_⟩,⟨fun p=>?_,fun p k h1 h2=>?_,fun p k p' k' h1 h2 h1' h2' he=>?_⟩⟩
   ·have:=node_hdr (J:=I) (v:=v) m hT.symm rfl r
    simpa using this
   ·rw [← hRq,← at_append];exact node_shift (m.row t R (q++p) hR) (fun r=>by rw [List.append_assoc])
   ·exact ⟨t,q,p,R,k,by simp,hR,by rw [at_append,hRq];exact h1,h2,rfl⟩
   ·exact List.append_cancel_left (m.inj t R _ k t R _ k' hR (by rw [at_append,hRq];exact h1) h2 hR (by rw [at_append,hRq];exact h1') h2' he).2
  ·exact h.elim
 ·rename_i t q
  unfold closeMt at h
  split at h
  ·rename_i kd f hT
   refine ⟨_,_,h,(fun ⟨_,e⟩=>by cases e),any _ _ ?_ (fun e=>by cases e)⟩
   obtain ⟨R,hR,hRq⟩:=nodeAt_some hT rfl
   refine ⟨fun p=>ρ t (q++p),.inl ⟨rfl,?_⟩,⟨fun p=>?_,fun p k h1 h2=>?_,fun p k p' k' h1 h2 h1' h2' he=>?_⟩⟩
   ·have:=node_hdr (J:=I) (v:=v) m hT.symm rfl r
    simpa using this
   ·rw [← hRq,← at_append];exact node_shift (m.row t R (q++p) hR) (fun r=>by rw [List.append_assoc])
   ·exact ⟨t,q,p,R,k,by simp,hR,by rw [at_append,hRq];exact h1,h2,rfl⟩
   ·exact List.append_cancel_left (m.inj t R _ k t R _ k' hR (by rw [at_append,hRq];exact h1) h2 hR (by rw [at_append,hRq];exact h1') h2' he).2
  ·exact h.elim
 ·refine ⟨_,_,h.2,(fun e=>e),any _ _ ⟨fun _=>none,rs_cell (nb_stat r h.1) _,closed_stat (rs_at (nb_stat r h.1))⟩ (fun e=>?_)⟩
  rw [e] at r;exact rep_v r
end
end Go.AM
namespace Go.AM
open Go.RowKit (Below)

section
variable {P:Program} {M:FuncId→List Bool} {np N:Nat} {E:Entry} {st:St} {a:Act} {w w':World} {I I' J:Gh} {ρ ρ':Pl} {mem mem':Nat→Option AV}

theorem top1_shift {π π':Path→Option Plc} {q q':Path} (h:∀ r,π' (q'++r)=π (q++r)) {X:AV} {v:Value} (t:TopOk1 I π q X v):TopOk1 I π' q' X v:=by
 have h0:π' q'=π q:=by have:=h [];simpa using this
 cases X <;> try (unfold TopOk1 at t ⊢;rw [h0];exact t)
 obtain ⟨arr,h1,h2,h3⟩:=t
 exact ⟨arr,h1,h2,fun j hj hk=>by rw [h];exact h3 j hj hk⟩

def Sem1 (J:Gh) (ρ:Pl) (w:World) (mem:Nat→Option AV) (s:List (Nat×Path)) (b:AV) (v:Value):Prop:=∃ π,TopOk1 J π [] b v∧Closed J ρ w mem s b π
theorem sem1_cell {s:List (Nat×Path)} {b:AV} {v:Value} (hb:∀ fs,b≠.agg fs) (h:∃ π,CellOk J (π []) b v∧Closed J ρ w mem s b π):Sem1 J ρ w mem s b v:=by
 obtain ⟨π,h1,h2⟩:=h
 refine ⟨π,?_,h2⟩
 cases b <;> first | exact h1 | exact absurd rfl (hb _)
theorem sem1_any (s:List (Nat×Path)) (v:Value):Sem1 J ρ w mem s .any v:=⟨fun _=>none,rs_cell (.any v) _,closed_stat fun p=>by rw [any_at];rfl⟩

theorem row_sem (m:Sep I ρ w mem) (Q:AV→List (Nat×Path)→AV→Value→Prop) (hQ:∀ c s b v,Q c s b v→∃ π,CellOk J (π []) b v∧Closed J ρ w mem s b π) :
  ∀ (bs:List AV) (vs:List Value) (ss:List (List (Nat×Path))) (cs:List AV),bs.length=vs.length→ss.length=vs.length→cs.length=vs.length→(∀ j (h1:j<bs.length) (h2:j<vs.length) (h3:j<ss.length) (h4:j<cs.length),Q (cs[j]) (ss[j]) (bs[j]) (vs[j]))→ss.flatten.Pairwise Aprt →
  ∃ Φ,(∀ j (h1:j<bs.length) (h2:j<vs.length),CellOk J (Φ j []) (bs[j]) (vs[j]))∧ClosedL J ρ w mem ss.flatten bs Φ
 | [],[],[],[],_,_,_,_,_=>⟨fun _ _=>none,(fun j h=>by cases h),closedL_nil⟩
 | b :: bs,v :: vs,s :: ss,c :: cs,h1,h2,h3,h,hap=>by
  rw [List.flatten_cons,List.pairwise_append] at hap
  obtain ⟨_,hap2,hap3⟩:=hap
  obtain ⟨π,g1,g2⟩:=hQ c s b v (h 0 (by simp) (by simp) (by simp) (by simp))
  obtain ⟨Φ,g3,g4⟩:=row_sem m Q hQ bs vs ss cs (by simpa using h1) (by simpa using h2) (by simpa using h3) (fun j q1 q2 q3 q4=>by
   have:=h (j+1) (by simpa using q1) (by simpa using q2) (by simpa using q3) (by simpa using q4)
   simpa using this) hap2
  refine ⟨fun j=>match j with | 0=>π | j+1=>Φ j,fun j q1 q2=>?_,?_⟩
  ·cases j with
   | zero=>exact g1
   | succ j=>exact g3 j (by simpa using q1) (by simpa using q2)
  ·rw [List.flatten_cons];exact closedL_cons m g2 g4 hap3
 | [],_ :: _,_,_,h,_,_,_,_=>by simp at h
 | _ :: _,[],_,_,h,_,_,_,_=>by simp at h
 | _,[],_ :: _,_,_,h,_,_,_=>by simp at h
 | _,_ :: _,[],_,_,h,_,_,_=>by simp at h
 | _,[],_,_ :: _,_,_,h,_,_=>by simp at h
 | _,_ :: _,_,[],_,_,h,_,_=>by simp at h

theorem leL_len:∀ {l l':List AV},leL l l'→l.length=l'.length∧∀ j (h1:j<l.length) (h2:j<l'.length),leC (l[j]) (l'[j])
 | [],[],_=>⟨rfl,fun j h=>by cases h⟩
 | a :: r,b :: s,h=>by
  obtain ⟨h1,h2⟩:=leL_len h.2
  refine ⟨by simp [h1],fun j q1 q2=>?_⟩
  cases j with
  | zero=>exact h.1
  | succ j=>exact h2 j (by simpa using q1) (by simpa using q2)
 | [],_ :: _,h=>h.elim
 | _ :: _,[],h=>h.elim
theorem leT_len:∀ {l l':List AV},leT l l'→l.length=l'.length∧∀ j (h1:j<l.length) (h2:j<l'.length),leA (l[j]) (l'[j])
 | [],[],_=>⟨rfl,fun j h=>by cases h⟩
 | a :: r,b :: s,h=>by
  obtain ⟨h1,h2⟩:=leT_len h.2
  refine ⟨by simp [h1],fun j q1 q2=>?_⟩
  cases j with
  | zero=>exact h.1
  | succ j=>exact h2 j (by simpa using q1) (by simpa using q2)
 | [],_ :: _,h=>h.elim
 | _ :: _,[],h=>h.elim
theorem leC_cases {c b:AV} (h:leC c b):b=.any∨(c=.v (.slice none 0 0)∧((∃ z,b=.tr z [])∨∃ z,b=.sl z []))∨c=b:=by
 unfold leC at h
 split at h
 ·exact .inl rfl
 ·rename_i z es
  subst h
  exact .inr (.inl ⟨rfl,.inl ⟨z,rfl⟩⟩)
 ·rename_i z es
  subst h
  exact .inr (.inl ⟨rfl,.inr ⟨z,rfl⟩⟩)
 ·exact .inr (.inr h)
theorem leA_cases {c b:AV} (h:leA c b):(∃ l l',c=.agg l∧b=.agg l'∧leL l l')∨b=.any∨((∀ fs,b≠.agg fs)∧(∀ fs,c≠.agg fs)∧leC c b):=by
 by_cases hc:∃ l,c=.agg l
 ·obtain ⟨l,rfl⟩:=hc
  by_cases hb:∃ l',b=.agg l'
  ·obtain ⟨l',rfl⟩:=hb
   exact .inl ⟨l,l',rfl,rfl,h⟩
  ·have h':leC (.agg l) b:=by cases b <;> first | exact h | exact absurd ⟨_,rfl⟩ hb
   rcases leC_cases h' with e | ⟨e,_⟩ | e
   ·exact .inr (.inl e)
   ·cases e
   ·exact absurd ⟨l,e.symm⟩ hb
 ·have h':leC c b:=by cases c <;> first | exact h | exact absurd ⟨_,rfl⟩ hc
  by_cases hb:∃ l',b=.agg l'
  ·obtain ⟨l',rfl⟩:=hb
   rcases leC_cases h' with e | ⟨_,⟨z,e⟩ | ⟨z,e⟩⟩ | e
   ·cases e
   ·cases e
   ·cases e
   ·exact absurd ⟨l',e⟩ hc
  ·exact .inr (.inr ⟨fun fs e=>hb ⟨fs,e⟩,fun fs e=>hc ⟨fs,e⟩,h'⟩)

theorem closeCs_sem (m:Sep I ρ w mem):∀ (fs:List AV) (vs:List Value) {K:List AV→List (Nat×Path)→Prop},closeCs mem fs K→fs.length=vs.length→(∀ j (h1:j<fs.length) (h2:j<vs.length),Rep I ρ (fs[j]) (vs[j])) →
  ∃ (l:List AV) (ss:List (List (Nat×Path))),K l ss.flatten∧l.length=vs.length∧ss.length=vs.length∧∀ j (h1:j<l.length) (h2:j<vs.length) (h3:j<ss.length),∀ b,leC (l[j]) b→∃ π,CellOk I (π []) b (vs[j])∧Closed I ρ w mem (ss[j]) b π
 | [],[],K,h,_,_=>⟨[],[],h,rfl,rfl,fun j h=>by cases h⟩
 | x :: r,v :: vs,K,h,hl,hr=>by
  obtain ⟨c,s,h,_,hc⟩:=closeC_sem m (x:=x) (v:=v) h (hr 0 (by simp) (by simp))
  obtain ⟨l,ss,hK,g1,g2,g3⟩:=closeCs_sem m r vs h (by simpa using hl) (fun j h1 h2=>by have:=hr (j+1) (by simpa using h1) (by simpa using h2);simpa using this)
  refine ⟨c :: l,s :: ss,by simpa using hK,by simp [g1],by simp [g2],fun j h1 h2 h3=>?_⟩
  cases j with
  | zero=>exact hc
  | succ j=>exact g3 j (by simpa using h1) (by simpa using h2) (by simpa using h3)
 | [],_ :: _,_,_,h,_=>by simp at h
 | _ :: _,[],_,_,h,_=>by simp at h

theorem agg_sem (m:Sep I ρ w mem) {bs:List AV} {vs:List Value} {ss:List (List (Nat×Path))} {l:List AV} (h1:leL l bs) (hl:l.length=vs.length) (hs:ss.length=vs.length)
  (h:∀ j (h1:j<l.length) (h2:j<vs.length) (h3:j<ss.length),∀ b,leC (l[j]) b→∃ π,CellOk J (π []) b (vs[j])∧Closed J ρ w mem (ss[j]) b π) (hap:ss.flatten.Pairwise Aprt):Sem1 J ρ w mem ss.flatten (.agg bs) (.agg vs.toArray):=by
 obtain ⟨e1,e2⟩:=leL_len h1
 obtain ⟨Φ,g1,g2⟩:=row_sem (J:=J) m (fun c s b v=>∃ π,CellOk J (π []) b v∧Closed J ρ w mem s b π) (fun c s b v h=>h) bs vs ss bs (by omega) hs (by omega) (fun j q1 q2 q3 q4=>h j (by omega) q2 q3 _ (e2 j (by omega) q1)) hap
 refine ⟨rowP Φ,⟨vs.toArray,rfl,by simp;omega,fun j hj hk=>?_⟩,closed_agg g2⟩
 have:=g1 j hj (by simpa using hk)
 simpa [rowP] using this

theorem closeA_sem (m:Sep I ρ w mem) {x:AV} {v:Value} {K:AV→List (Nat×Path)→Prop} (h:closeA mem x K) (r:Rep I ρ x v):∃ c s,K c s∧∀ b,leA c b→s.Pairwise Aprt→Sem1 I ρ w mem s b v:=by
 by_cases hx:∃ fs,x=.agg fs
 ·obtain ⟨fs,rfl⟩:=hx
  obtain ⟨arr,rfl,h1,h2⟩:=rep_agg r
  obtain ⟨l,ss,hK,g1,g2,g3⟩:=closeCs_sem m fs arr.toList h (by simpa using h1.symm) (fun j q1 q2=>by simpa using h2 j q1 (by simpa using q2))
  refine ⟨.agg l,ss.flatten,hK,fun b hb hap=>?_⟩
  rcases leA_cases hb with ⟨l1,l',e1,rfl,hle⟩ | rfl | ⟨_,hc,_⟩
  ·cases e1
   have:=agg_sem (J:=I) m hle g1 g2 g3 hap
   simpa using this
  ·exact sem1_any _ _
  ·exact absurd rfl (hc l)
 ·have e:closeA mem x K=closeC mem x K .mk:=by cases x <;> first | rfl | exact absurd ⟨_,rfl⟩ hx
  rw [e] at h
  obtain ⟨c,s,hK,hagg,hc⟩:=closeC_sem m h r
  refine ⟨c,s,hK,fun b hb hap=>?_⟩
  rcases leA_cases hb with ⟨l1,l',rfl,rfl,hle⟩ | rfl | ⟨hb2,_,hle⟩
  ·exact (hx (hagg ⟨_,rfl⟩)).elim
  ·exact sem1_any _ _
  ·exact sem1_cell hb2 (hc b hle)
theorem stat_sem (m:Sep I ρ w mem) {c:AV} {v:Value} (r:RepS J c v) {b:AV} (hb:leA c b):Sem1 J ρ w mem [] b v:=by
 have one:∀ {c b:AV} {v:Value},RepS J c v→leC c b→∃ π,CellOk J (π []) b v∧Closed J ρ w mem [] b π:=fun {c b v} r hle =>
  le_closed ⟨fun _=>none,rs_cell r _,closed_stat (rs_at r)⟩ (fun e=>by subst e;cases r;rfl) hle
 rcases leA_cases hb with ⟨l,l',rfl,rfl,hle⟩ | rfl | ⟨hb2,_,hle⟩
 ·cases r with
  | agg _ arr hn hr =>
   have:=agg_sem (J:=J) (vs:=arr.toList) (ss:=List.replicate arr.size []) m hle (by simpa using hn.symm) (by simp) (fun j h1 h2 h3 b hb=>by
    have:=one (hr j h1 (by simpa using h2)) hb
    simpa using this) (by simp [List.flatten_replicate_nil])
   simpa [List.flatten_replicate_nil] using this
 ·exact sem1_any _ _
 ·exact sem1_cell hb2 (one r hle)

theorem closeL_sem (m:Sep I ρ w mem):∀ (fs:List AV) (vs:List Value) {K:List AV→List (Nat×Path)→Prop},closeL mem fs K→fs.length=vs.length→(∀ j (h1:j<fs.length) (h2:j<vs.length),Rep I ρ (fs[j]) (vs[j])) →
  ∃ (l:List AV) (ss:List (List (Nat×Path))),K l ss.flatten∧l.length=vs.length∧ss.length=vs.length∧∀ j (h1:j<l.length) (h2:j<vs.length) (h3:j<ss.length),∀ b,leA (l[j]) b→(ss[j]).Pairwise Aprt→Sem1 I ρ w mem (ss[j]) b (vs[j])
 | [],[],K,h,_,_=>⟨[],[],h,rfl,rfl,fun j h=>by cases h⟩
 | x :: r,v :: vs,K,h,hl,hr=>by
  obtain ⟨c,s,h,hc⟩:=closeA_sem m (x:=x) (v:=v) h (hr 0 (by simp) (by simp))
  obtain ⟨l,ss,hK,g1,g2,g3⟩:=closeL_sem m r vs h (by simpa using hl) (fun j h1 h2=>by have:=hr (j+1) (by simpa using h1) (by simpa using h2);simpa using this)
  refine ⟨c :: l,s :: ss,by simpa using hK,by simp [g1],by simp [g2],fun j h1 h2 h3=>?_⟩
  cases j with
  | zero=>exact hc
  | succ j=>exact g3 j (by simpa using h1) (by simpa using h2) (by simpa using h3)
 | [],_ :: _,_,_,h,_=>by simp at h
 | _ :: _,[],_,_,h,_=>by simp at h

theorem tup_sem (m:Sep I ρ w mem):∀ (bs:List AV) (vs:List Value) (ss:List (List (Nat×Path))),bs.length=vs.length→ss.length=vs.length→(∀ j (h1:j<bs.length) (h2:j<vs.length) (h3:j<ss.length),Sem1 J ρ w mem (ss[j]) (bs[j]) (vs[j]))→ss.flatten.Pairwise Aprt →
  ∃ Φ,(∀ j (h1:j<bs.length) (h2:j<vs.length),TopOk1 J (Φ j) [] (bs[j]) (vs[j]))∧ClosedL J ρ w mem ss.flatten bs Φ
 | [],[],[],_,_,_,_=>⟨fun _ _=>none,(fun j h=>by cases h),closedL_nil⟩
 | b :: bs,v :: vs,s :: ss,h1,h2,h,hap=>by
  rw [List.flatten_cons,List.pairwise_append] at hap
  obtain ⟨_,hap2,hap3⟩:=hap
  obtain ⟨π,g1,g2⟩:=h 0 (by simp) (by simp) (by simp)
  obtain ⟨Φ,g3,g4⟩:=tup_sem m bs vs ss (by simpa using h1) (by simpa using h2) (fun j q1 q2 q3=>by
   have:=h (j+1) (by simpa using q1) (by simpa using q2) (by simpa using q3)
   simpa using this) hap2
  refine ⟨fun j=>match j with | 0=>π | j+1=>Φ j,fun j q1 q2=>?_,?_⟩
  ·cases j with
   | zero=>exact g1
   | succ j=>exact g3 j (by simpa using q1) (by simpa using q2)
  ·rw [List.flatten_cons];exact closedL_cons m g2 g4 hap3
 | [],_ :: _,_,h,_,_,_=>by simp at h
 | _ :: _,[],_,h,_,_,_=>by simp at h
 | _,[],_ :: _,_,h,_,_=>by simp at h
 | _,_ :: _,[],_,h,_,_=>by simp at h

theorem all_sem (m:Sep I ρ w mem) {l:List AV} {vs:List Value} {ss:List (List (Nat×Path))} {r:AV} (hl:l.length=vs.length) (hs:ss.length=vs.length) (h:∀ j (h1:j<l.length) (h2:j<vs.length) (h3:j<ss.length),∀ b,leA (l[j]) b→(ss[j]).Pairwise Aprt→Sem1 J ρ w mem (ss[j]) b (vs[j]))
  (hr:leR l r) (hap:ss.flatten.Pairwise Aprt):∃ π,TopOk J π [] r (if h:vs.toArray.size=1 then vs.toArray[0] else .tuple vs.toArray)∧Closed J ρ w mem ss.flatten r π:=by
 by_cases h1:∃ c,l=[c]
 ·obtain ⟨c,rfl⟩:=h1
  match vs,ss,hl,hs with
  | [v],[s],_,_ =>
   have hr:leA c r:=hr
   obtain ⟨π,g1,g2⟩:=h 0 (by simp) (by simp) (by simp) r hr (by simpa using hap)
   refine ⟨π,?_,by simpa using g2⟩
   have g1:TopOk1 J π [] r v:=g1
   by_cases ht:∃ fs,r=.tup fs
   ·obtain ⟨fs,rfl⟩:=ht
    have g1:CellOk J (π []) (.tup fs) v:=g1
    rcases g1 with ⟨q,_⟩ | ⟨_,q⟩
    ·cases q
    ·exact rs_top q _ _
   ·have:TopOk J π [] r v=TopOk1 J π [] r v:=by cases r <;> first | rfl | exact absurd ⟨_,rfl⟩ ht
    show TopOk J π [] r v
    rw [this];exact g1
 ·have hn1:l.length≠1:=fun e=>h1 (by
   match l,e with
   | [c],_=>exact ⟨c,rfl⟩)
  have hR:∃ bs,r=.tup bs∧leT l bs:=by
   unfold leR at hr
   split at hr
   ·exact absurd ⟨_,rfl⟩ h1
   ·exact ⟨_,rfl,hr⟩
   ·exact hr.elim
  obtain ⟨bs,rfl,hle⟩:=hR
  obtain ⟨e1,e2⟩:=leT_len hle
  have hpair:∀ j (h3:j<ss.length),(ss[j]).Pairwise Aprt:=fun j h3=>(List.pairwise_flatten.1 hap).1 _ (List.getElem_mem h3)
  obtain ⟨Φ,g1,g2⟩:=tup_sem m bs vs ss (by omega) hs (fun j q1 q2 q3=>h j (by omega) q2 q3 _ (e2 j (by omega) q1) (hpair j q3)) hap
  refine ⟨rowP Φ,?_,closed_tup g2⟩
  rw [dif_neg (by simp;omega)]
  refine ⟨vs.toArray,rfl,by simp;omega,fun j hj hk=>?_⟩
  have:=g1 j hj (by simpa using hk)
  refine top1_shift (q:=[]) (fun r=>?_) (by simpa using this)
  rfl

theorem apL_spec1 (t:Nat) (q:Path):∀ (s:List (Nat×Path)),apart1 t q s=true→∀ x∈s,Aprt (t,q) x
 | (t',q') :: s,h,x,hx=>by
  simp only [apart1,Bool.and_eq_true,Bool.or_eq_true,Bool.not_eq_true',decide_eq_false_iff_not] at h
  rcases List.mem_cons.1 hx with rfl | hx
  ·rcases h.1 with h | h
   ·exact .inl (Ne.symm h)
   ·exact .inr (divB_spec _ _ h)
  ·exact apL_spec1 t q s h.2 x hx
theorem apL_spec:∀ (s:List (Nat×Path)),apartL s=true→s.Pairwise Aprt
 | [],_=>.nil
 | (t,q) :: s,h=>by
  simp only [apartL,Bool.and_eq_true] at h
  exact List.pairwise_cons.2 ⟨fun x hx=>apL_spec1 t q s h.1 x hx,apL_spec s h.2⟩
theorem outRoots_mem:∀ (outs:List (Option AV)) (i j:Nat) (T:AV),outs[j]? = some (some T)→(i+j,([]:Path))∈outRoots i outs
 | some T0 :: r,i,0,T,h=>by simp [outRoots]
 | none :: r,i,0,T,h=>by simp at h
 | some T0 :: r,i,j+1,T,h=>by
  have:=outRoots_mem r (i+1) j T (by simpa using h)
  simp only [outRoots,List.mem_cons]
  right
  have e:i+(j+1)=i+1+j:=by omega
  rw [e];exact this
 | none :: r,i,j+1,T,h=>by
  have:=outRoots_mem r (i+1) j T (by simpa using h)
  simp only [outRoots]
  have e:i+(j+1)=i+1+j:=by omega
  rw [e];exact this
 | [],i,j,T,h=>by simp at h
theorem outsOk_get:∀ (outs:List (Option AV)) (i j:Nat) (T:AV),outsOk mem i outs→outs[j]? = some (some T)→mem (i+j)=some T
 | some T0 :: r,i,0,T,h,hT=>by simp at hT;subst hT;exact h.1
 | none :: r,i,0,T,h,hT=>by simp at hT
 | some T0 :: r,i,j+1,T,h,hT=>by
  have:=outsOk_get r (i+1) j T h.2 (by simpa using hT)
  have e:i+(j+1)=i+1+j:=by omega
  rw [e];exact this
 | none :: r,i,j+1,T,h,hT=>by
  have h:outsOk mem (i+1) r:=h
  have:=outsOk_get r (i+1) j T h (by simpa using hT)
  have e:i+(j+1)=i+1+j:=by omega
  rw [e];exact this
 | [],i,j,T,h,hT=>by simp at hT
theorem sigsOk_get:∀ (args:List AV) (outs:List (Option AV)) (j:Nat) (T:AV),sigsOk args outs→outs[j]? = some (some T)→T.sig=(args.getD j .any).sig
 | a :: as,some T0 :: r,0,T,h,hT=>by simp at hT;subst hT;exact h.1
 | a :: as,none :: r,0,T,h,hT=>by simp at hT
 | a :: as,some T0 :: r,j+1,T,h,hT=>sigsOk_get as r j T h.2 (by simpa using hT)
 | a :: as,none :: r,j+1,T,h,hT=>by
  have h:sigsOk as r:=h
  exact sigsOk_get as r j T h (by simpa using hT)
 | [],x :: _,_,_,h,_=>by cases x <;> exact h.elim
 | _,[],j,T,h,hT=>by simp at hT
theorem sigsOk_len:∀ (args:List AV) (outs:List (Option AV)),sigsOk args outs→outs.length≤args.length
 | _,[],_=>Nat.zero_le _
 | a :: as,some T0 :: r,h=>by simp;exact sigsOk_len as r h.2
 | a :: as,none :: r,h=>by simp;exact sigsOk_len as r h
 | [],x :: _,h=>by cases x <;> exact h.elim

def readRes (tmps:Array Value):ResultVar→Sem Value
 | .tmp t=>pure (tmps.getD t undef)
 | .cell a t=>do loadVar t (← asAddr (tmps.getD a undef))

theorem resVs_sound (c:Conc N E st a w I ρ):∀ (rs:List ResultVar) (K:List AV→Prop),resVs P st rs K →
  ∃ (l:List AV) (vals:List Value),(rs.mapM (readRes a.tmps)).run P w=.ok vals w∧K l∧l.length=vals.length∧∀ j (hj:j<l.length) (hk:j<vals.length),Rep I ρ (l[j]) (vals[j])
 | [],K,h=>⟨[],[],by simp,h,rfl,fun j hj=>by cases hj⟩
 | rv :: r,K,h=>by
  have hone:∃ v x,(readRes a.tmps rv).run P w=.ok x w∧resVs P st r (fun l=>K (v :: l))∧Rep I ρ v x:=by
   cases rv with
   | tmp t=>exact ⟨_,_,by simp [readRes],h,c.fr t⟩
   | cell ad t =>
    obtain ⟨v,x,h1,h2,h3⟩:=loadP_sound (P:=P) c.held c.mem h (c.fr ad)
    refine ⟨v,x,?_,h2,h3⟩
    have hform:∃ p,a.tmps.getD ad undef=.pointer (some p):=by
     have h':loadP P st.mem t (st.fr ad) (fun x=>valP x (fun x=>resVs P st r fun l=>K (x :: l)) .mk) .mk:=h
     have hr:=c.fr ad
     unfold loadP at h'
     split at h'
     ·rename_i s p i j hx;rw [hx] at hr;obtain ⟨k,_,h⟩:=rep_loc hr;exact ⟨_,h⟩
     ·rename_i cs hx
      rw [hx] at hr
      have hr:=rep_ep hr
      generalize a.tmps.getD ad undef=u at hr
      cases hr with | ep _ b o vals _ _=>exact ⟨_,rfl⟩
     ·rename_i cs hx
      rw [hx] at hr
      obtain ⟨b,o,_,_,_,hr⟩:=rep_bx hr
      exact ⟨_,hr⟩
     ·exact h'.elim
    obtain ⟨p,hp⟩:=hform
    rw [hp] at h1
    simp only [readRes,hp,asAddr,Sem.run_bind,Sem.run_pure,Result.andThen_ok]
    simpa [Instr.loadAt,Instr.sureAddr] using h1
  obtain ⟨v,x,h1,h2,h3⟩:=hone
  obtain ⟨l,vals,q1,q2,q3,q4⟩:=resVs_sound c r _ h2
  refine ⟨v :: l,x :: vals,by simp [List.mapM_cons,h1,q1],q2,by simp [q3],fun j hj hk=>?_⟩
  cases j with
  | zero=>exact h3
  | succ j=>exact q4 j (by simpa using hj) (by simpa using hk)

theorem conc_init {args:List AV} {vals:Array Value} {π:Pl} (hN:vals.size≤N) (hh:Held I w) (hn:vals.size=args.length) (hs:Sep I π w (fun i=>args[i]?)) (hr:∀ j (hj:j<args.length) (hk:j<vals.size),TopOk I (π j) [] (args[j]) (vals[j])) :
  Conc N ⟨w,I,args,π⟩ (initSt args) { tmps:=vals++Array.replicate (N - vals.size) undef,defers:=[] } w I π:=by
 refine ⟨hh,BelowX.refl _ _ _,fun _ _ _=>rfl,by simp;omega,rfl,fun i=>?_,hs,fun b hb=>.inr hb,fun _ _ _ _ _ _ _=>rfl⟩
 show Rep I _ ((args.getD i .un).atoms i []) _
 by_cases hi:i<args.length
 ·have hk:i<vals.size:=by omega
  have e1:args.getD i .un=args[i]:=by simp [List.getD,hi]
  have e2:(vals++Array.replicate (N - vals.size) undef).getD i undef=vals[i]:=by
   rw [Array.getD_eq_getD_getElem?,Array.getElem?_append_left hk,Array.getElem?_eq_getElem hk];rfl
  rw [e1,e2];exact top_rep (hr i hi hk)
 ·have e1:args.getD i .un=.un:=by simp [List.getD,hi]
  have e2:(vals++Array.replicate (N - vals.size) undef).getD i undef=undef:=by
   rw [Array.getD_eq_getD_getElem?,Array.getElem?_append_right (by omega),Array.getElem?_replicate]
   split <;> rfl
  rw [e1,e2];exact .stat (.v _)

theorem spec_of_awp_any {X:List Nat} {fz:Bool} {f:FuncId} {fn:Func} {c:Code} {rs:List ResultVar} {args:List AV} {outs:List (Option AV)} {r:AV} (hm:P.follows .mixedOrders=true) (hf:P.funcs[f]? = some fn) (hb:fn.body=some c) (hrs:fn.results=rs.toArray) (hname:fn.name ≠ "runtime.NumGoroutine") (hN:Nat.ble args.length fn.ntmps=true) (hnp:args.length≤np) (hok:okX np fn.ntmps X c=true)
    (hfz:fz=false∨(outs=[]∧(args.all fun a=>!a.nodeB)=true)) (hsig:sigsOk args outs)
    (h:AWP P M (mark X c) (retP P fz args outs rs r) (initSt args)) (h6:Nat.ble np 6=true:=by decide):SpecX P f args outs r:=by
  have h6':args.length≤6:=Nat.le_trans hnp (Nat.le_of_ble_eq_true h6)
  refine ⟨⟨fn,c,hf,hb,hname⟩,sigsOk_len args outs hsig,fun j T hT=>sigsOk_get args outs j T hsig hT,fun I π w vals hh hn hs hr=>?_⟩
  refine calls_of_wp hf hb ?_
  have hN':=Nat.le_of_ble_eq_true hN
  have hc:=conc_init (N:=fn.ntmps) (by omega) hh hn hs hr
  refine Code.wp_mono ?_ (AWP_sound (np:=np) (N:=fn.ntmps) (E:=⟨w,I,args,π⟩) hm hnp h6' X c _ _ _ w hok h ⟨_,_,hc⟩)
  rintro e a' w' ⟨st',⟨he,hres⟩,I',ρ,hcc⟩
  have hrl:fn.results.toList=rs:=by rw [hrs]
  rw [← hrl] at hres
  obtain ⟨l,rvals,q1,q2,q3,q4⟩:=resVs_sound hcc _ _ hres
  have hrun:(results fn a'.tmps).run P w'=.ok (if h:rvals.toArray.size=1 then rvals.toArray[0] else .tuple rvals.toArray) w':=by
    have e0:results fn a'.tmps=(do let vs ← fn.results.mapM (readRes a'.tmps);pure (if h:vs.size=1 then vs[0] else .tuple vs)):=by
      unfold results
      congr 1
    rw [e0,Sem.run_bind,Array.mapM_eq_mapM_toList,Sem.run_map,q1]
    rfl
  have hfin:∃ I'' π',Held I'' w'∧Sep I'' π' w' (outMem args.length outs r)∧TopOk I'' (π' args.length) [] r (if h:rvals.toArray.size=1 then rvals.toArray[0] else .tuple rvals.toArray) ∧
      (∀ j T,outs[j]? = some (some T)→∀ q,TopPos T q→π' j q=π j q)∧(∀ b o,b<w.heap.size→I'' b o=I b o)∧(∀ b,Owns π' (outMem args.length outs r) b→Owns π (fun i=>args[i]?) b∨w.heap.size≤b):=by
    have hoJ:∀ {i T},outMem args.length outs r i=some T→(i=args.length∧T=r)∨(i≠args.length∧outs[i]? = some (some T)):=by
      intro i T h
      unfold outMem at h
      split at h
      · rename_i e;cases h;exact .inl ⟨e,rfl⟩
      · rename_i e
        refine .inr ⟨e,?_⟩
        cases ho:outs[i]? with
        | none=>rw [ho] at h;cases h
        | some o=>rw [ho] at h;simp at h;rw [h]
    have fin:∀ (J:Gh) (S:List (Nat×Path)) (πr:Path→Option Plc),Held J w'→Closed J ρ w' st'.mem S r πr→TopOk J πr [] r (if h:rvals.toArray.size=1 then rvals.toArray[0] else .tuple rvals.toArray)→(∀ b o,b<w.heap.size→J b o=I b o) →
        (outs=[]∨J=I')→(∀ p k,(r.at p).isNode=true→πr p=some k→∀ o,J k.b o=none)→outsOk st'.mem 0 outs→(∀ j T,outs[j]? = some (some T)→∀ x∈S,Aprt (j,[]) x) →
        ∃ I'' π',Held I'' w'∧Sep I'' π' w' (outMem args.length outs r)∧TopOk I'' (π' args.length) [] r (if h:rvals.toArray.size=1 then rvals.toArray[0] else .tuple rvals.toArray) ∧
          (∀ j T,outs[j]? = some (some T)→∀ q,TopPos T q→π' j q=π j q)∧(∀ b o,b<w.heap.size→I'' b o=I b o)∧(∀ b,Owns π' (outMem args.length outs r) b→Owns π (fun i=>args[i]?) b∨w.heap.size≤b):=by
      intro J S πr hJ hcl htop hkeep hJI hfreeR houts hap
      let π':Pl:=fun i=>if i=args.length then πr else ρ i
      have hπn:π' args.length=πr:=by simp [π']
      have hπi:∀ i,i≠args.length→π' i=ρ i:=fun i h=>by simp [π',h]
      have hmem:∀ (i:Nat) (T:AV),outs[i]? = some (some T)→st'.mem i=some T:=fun i T h=>by
        have:=outsOk_get outs 0 i T houts h
        rw [Nat.zero_add] at this;exact this
      have hJeq:∀ (i:Nat) (T:AV),outs[i]? = some (some T)→J=I':=fun i T h=>by
        rcases hJI with q | q
        · exact absurd h (by simp [q])
        · exact q
      have hsl:=sigsOk_len args outs hsig
      refine ⟨J,π',hJ,⟨fun i T p h=>?_,fun i T p k h h1 h2 o=>?_,fun i T p k i2 T2 p2 k2 h h1 h2 h' h1' h2' heq=>?_⟩,by rw [hπn];exact htop,fun j T hT q hq=>?_,hkeep,?_⟩
      · rcases hoJ h with ⟨rfl,rfl⟩ | ⟨e,h⟩
        · rw [hπn];exact hcl.row p
        · rw [hπi i e,hJeq i T h];exact hcc.mem.row i T p (hmem i T h)
      · rcases hoJ h with ⟨rfl,rfl⟩ | ⟨e,h⟩
        · rw [hπn] at h2;exact hfreeR p k h1 h2 o
        · rw [hπi i e] at h2;rw [hJeq i T h];exact hcc.mem.free i T p k (hmem i T h) h1 h2 o
      · rcases hoJ h with ⟨rfl,rfl⟩ | ⟨e,ho⟩
        · rw [hπn] at h2
          rcases hoJ h' with ⟨rfl,rfl⟩ | ⟨e',h'⟩
          · rw [hπn] at h2';exact ⟨rfl,hcl.inj p k p2 k2 h1 h2 h1' h2' heq⟩
          · exfalso
            rw [hπi i2 e'] at h2'
            obtain ⟨t,q,p',R,k0,g1,g2,g3,g4,g5⟩:=hcl.src p k h1 h2
            obtain ⟨x1,_⟩:=hcc.mem.inj t R _ k0 i2 T2 p2 k2 g2 g3 g4 (hmem i2 T2 h') h1' h2' (by rw [g5,heq])
            rcases hap i2 T2 h' _ g1 with q | q
            · exact q x1
            · exact q.1 List.nil_prefix
        · rw [hπi i e] at h2
          rcases hoJ h' with ⟨rfl,rfl⟩ | ⟨e',h'⟩
          · exfalso
            rw [hπn] at h2'
            obtain ⟨t,q,p',R,k0,g1,g2,g3,g4,g5⟩:=hcl.src p2 k2 h1' h2'
            obtain ⟨x1,_⟩:=hcc.mem.inj t R _ k0 i T p k g2 g3 g4 (hmem i T ho) h1 h2 (by rw [g5,heq])
            rcases hap i T ho _ g1 with q | q
            · exact q x1
            · exact q.1 List.nil_prefix
          · rw [hπi i2 e'] at h2'
            exact hcc.mem.inj i T p k i2 T2 p2 k2 (hmem i T ho) h1 h2 (hmem i2 T2 h') h1' h2' heq
      · have hj:j<args.length:=by have:=(List.getElem?_eq_some_iff.1 hT).1;omega
        rw [hπi j (by omega)]
        exact hcc.fix j _ T q (List.getElem?_eq_getElem hj) (hmem j T hT) hq
      · rintro b ⟨i,T,p,k,h,h1,h2,rfl⟩
        have:w.heap.size≤k.b∨Owns π (fun i=>args[i]?) k.b:=by
          rcases hoJ h with ⟨rfl,rfl⟩ | ⟨e,h⟩
          · rw [hπn] at h2
            obtain ⟨t,q,p',R,k0,g1,g2,g3,g4,g5⟩:=hcl.src p k h1 h2
            have:=hcc.lo k0.b ⟨t,R,_,k0,g2,g3,g4,rfl⟩
            rw [g5] at this;exact this
          · rw [hπi i e] at h2
            exact hcc.lo k.b ⟨i,T,p,k,hmem i T h,h1,h2,rfl⟩
        exact this.symm
    unfold retK at q2
    split at q2
    · -- by content alone
      obtain ⟨rfl,hna⟩:=hfz.resolve_left (by intro e;cases e)
      have q2:leR (AV.views st'.mem l) r:=q2
      have hvl:=views_len st'.mem l
      obtain ⟨πr,g1,g2⟩:=all_sem (J:=lend I' ρ st'.mem w') (ss:=List.replicate rvals.length []) hcc.mem (l:=AV.views st'.mem l) (vs:=rvals) (by omega) (by simp) (fun j h1 h2 h3 b hb _=>by
        have hj:j<l.length:=by omega
        have:=view_sound hcc.mem (q4 j hj h2)
        rw [views_get _ _ _ h1 hj] at hb
        have:=stat_sem hcc.mem this hb
        simpa using this) q2 (by simp [List.flatten_replicate_nil])
      rw [List.flatten_replicate_nil] at g2
      have hnolent:∀ b,¬ Owns π (fun i=>args[i]?) b:=by
        rintro b ⟨i,T,p,k,h1,h2,_⟩
        obtain ⟨hlt,rfl⟩:=List.getElem?_eq_some_iff.1 h1
        have:=List.all_eq_true.1 hna _ (List.getElem_mem hlt)
        simp only [Bool.not_eq_true'] at this
        have:=top_stat (hr i hlt (by omega)) this
        rw [rs_at this p] at h2;cases h2
      refine fin _ [] πr (lend_held hcc.mem hcc.held) g2 g1 (fun b o hb=>?_) (.inl rfl) (fun p k h1 h2 o=>?_) trivial (fun j T hT=>by simp at hT)
      · rw [lend_not]
        · exact hcc.keeps b o hb
        · intro hb2
          rcases hcc.lo b hb2 with q | q
          · have q:w.heap.size≤b:=q;omega
          · exact hnolent b q
      · obtain ⟨t,q,p',R,k0,g,_⟩:=g2.src p k h1 h2
        cases g
    · -- with its memory
      obtain ⟨l',ss,⟨hap,hle,houts⟩,g1,g2,g3⟩:=closeL_sem hcc.mem l rvals q2 q3 q4
      have hap:=List.pairwise_append.1 (apL_spec _ hap)
      obtain ⟨πr,p1,p2⟩:=all_sem (J:=I') hcc.mem g1 g2 g3 hle hap.2.1
      refine fin I' ss.flatten πr hcc.held p2 p1 hcc.keeps (.inr rfl) (fun p k h1 h2 o=>?_) houts (fun j T hT x hx=>?_)
      · obtain ⟨t,q,p',R,k0,_,x2,x3,x4,x5⟩:=p2.src p k h1 h2
        rw [← x5];exact hcc.mem.free t R _ k0 x2 x3 x4 o
      · have:=outRoots_mem outs 0 j T hT
        rw [Nat.zero_add] at this
        exact hap.2.2 _ this x hx
  obtain ⟨I'',π',f1,f2,f3,f4,f5,f6⟩:=hfin
  have hbel:BelowX (Owns π (fun i=>args[i]?)) w.heap.size w w':=hcc.below
  have hend:bodyPost P fn (fun e w'=>∃ I' π' x,e=.returned x∧Held I' w'∧Sep I' π' w' (outMem args.length outs r)∧TopOk I' (π' args.length) [] r x ∧
      (∀ j T,outs[j]? = some (some T)→∀ q,TopPos T q→π' j q=π j q) ∧
      BelowX (Owns π (fun i=>args[i]?)) w.heap.size w w'∧(∀ b o,b<w.heap.size→I' b o=I b o)∧(∀ b,Owns π' (outMem args.length outs r) b→Owns π (fun i=>args[i]?) b∨w.heap.size≤b)) e a' w':=by
    have hd:=hcc.defers
    cases e with
    | normal=>exact ⟨hd,_,hrun,I'',π',_,rfl,f1,f2,f3,f4,hbel,f5,f6⟩
    | ret=>exact ⟨hd,_,hrun,I'',π',_,rfl,f1,f2,f3,f4,hbel,f5,f6⟩
    | exit id=>exact he.elim
    | goto l=>exact he.elim
    | panic ch=>exact he.elim
    | outgrown=>exact he.elim
  exact hend

theorem spec_of_awp {fz:Bool} {f:FuncId} {fn:Func} {c:Code} {rs:List ResultVar} {args:List AV} {outs:List (Option AV)} {r:AV} (hm:P.follows .mixedOrders=true) (hf:P.funcs[f]? = some fn) (hb:fn.body=some c) (hrs:fn.results=rs.toArray) (hname:fn.name ≠ "runtime.NumGoroutine") (hN:Nat.ble args.length fn.ntmps=true) (hnp:args.length≤np) (hok:codeOk np fn.ntmps c=true)
  (hfz:fz=false∨(outs=[]∧(args.all fun a=>!a.nodeB)=true)) (hsig:sigsOk args outs) (h:AWP P M c (retP P fz args outs rs r) (initSt args)) (h6:Nat.ble np 6=true:=by decide):SpecX P f args outs r :=
 spec_of_awp_any (X:=[]) hm hf hb hrs hname hN hnp hok hfz hsig (by rw [mark_nil];exact h) h6
end
end Go.AM
namespace Go.AM
open Go.RowKit (Below)
open Go.ChangeShapes

def gho (w:World):Gh:=fun b o=>match w.cell? ⟨b,o,none⟩ with | some x=>if x.oneCell' then some x else none | none=>none
theorem gho_cell {w:World} {b o:Nat} {x:Value} (h:w.cell? ⟨b,o,none⟩=some x) (k:x.oneCell'=true):gho w b o=some x:=by unfold gho;rw [h];simp [k]
theorem held_gho (w:World) (hb:BaseOk (gho w) w):Held (gho w) w:=⟨fun b o x h=>by
 unfold gho at h
 split at h
 ·rename_i y hy
  split at h
  ·rename_i hk;cases h;exact ⟨hy,hk⟩
  ·cases h
 ·(cases h),hb⟩

def Opens (P:Program) (t:TypeId) (α:Type) (cells:α→List AV) (wf:α→Prop):Prop :=
 ∀ (H:Type) (enc:TypeId×Value→H) (w:World) (sp:Nat→Bool) (held:Bool) (fuel:Nat) (cs:List Value) (x:DataW H×List MemPlace),DataW.trod enc P w 0 sp held fuel t cs=some x →
  ∃ a:α,wf a∧(cells a).length=cs.length∧∀ j (hj:j<(cells a).length) (hk:j<cs.length),RepS (gho w) ((cells a)[j]) (cs[j])∧(cs[j]).oneCell'=true

def intOk (n:Int):Prop:=-9223372036854775808≤n∧n≤9223372036854775807

section
variable {P:Program} {t e:TypeId} {α β γ:Type} {cells:α→List AV} {wf:α→Prop}

theorem cells?_get {w:World} {a:Addr} {n:Nat} {cs:List Value} (h:w.cells? 0 a n=some cs):cs.length=n∧∀ j (hj:j<cs.length),w.cell? (a.add j)=some (cs[j]):=by
 unfold World.cells? at h
 rw [if_pos (Nat.zero_le _)] at h
 have hl:=mapM_some_length h
 rw [List.length_range] at hl
 refine ⟨hl,fun j hj=>?_⟩
 have:=mapM_some_get h j j (by rw [List.getElem?_eq_getElem (by rw [List.length_range];omega),List.getElem_range])
 rw [this,List.getElem?_eq_getElem hj]

theorem spot_none {w:World} {a:Addr} {x:Value} (h:w.cell? a=some x):a.spot=none:=by
 unfold World.cell? at h
 split at h
 ·split at h
  ·cases h
  ·rename_i q;simpa using q
 ·cases h

theorem opens_slice (ht:P.underlying t=some (.slice e)) {z:Nat} (hz:P.cellsOf e=z) (hz0:0<z) (el:α→AV) (hel:∀ a,(el a).cells=cells a) (h:Opens P e α cells wf) :
  Opens P t (List α) (fun l=>[.sl z (l.map el)]) (fun l=>l.length≤9223372036854775807∧∀ b∈l,wf b):=by
 intro H enc w sp held fuel cs x hx
 rcases DataW.trod_slice ht hx with ⟨rfl,_⟩ | ⟨a,len,cap,elems,rest,n,_,rfl,_,_,hl,hm,hlen,hel',_⟩
 ·refine ⟨[],⟨by simp,fun b hb=>by cases hb⟩,rfl,fun j hj hk=>?_⟩
  have:j=0:=by simp at hj;omega
  subst this
  exact ⟨.nil z none,rfl⟩
 ·have each:∀ i,i<len→∃ (b:α) (c1:List Value),wf b∧w.cells? 0 (a.add (i*z)) z=some c1∧(cells b).length=c1.length∧∀ j (hj:j<(cells b).length) (hk:j<c1.length),RepS (gho w) ((cells b)[j]) (c1[j])∧(c1[j]).oneCell'=true:=by
   intro i hi
   have:=hel' i hi
   rw [List.getElem?_eq_getElem (by omega),hz,Option.bind_eq_some_iff] at this
   obtain ⟨c1,h1,h2⟩:=this
   obtain ⟨b,h3,h4,h5⟩:=h H enc w sp held n c1 _ h2
   exact ⟨b,c1,h3,h1,h4,h5⟩
  have pick:∀ m,m≤len→∃ (l:List α) (f:Nat→List Value),l.length=m∧∀ i (hi:i<l.length),wf (l[i])∧w.cells? 0 (a.add (i*z)) z=some (f i)∧(cells (l[i])).length=(f i).length∧∀ j (hj:j<(cells (l[i])).length) (hk:j<(f i).length),RepS (gho w) ((cells (l[i]))[j]) ((f i)[j])∧((f i)[j]).oneCell'=true:=by
   intro m
   induction m with
   | zero=>exact fun _=>⟨[],fun _=>[],rfl,fun i hi=>by cases hi⟩
   | succ m ih =>
    intro hm'
    obtain ⟨l,f,h1,h2⟩:=ih (by omega)
    obtain ⟨b,c1,h3⟩:=each m (by omega)
    refine ⟨l++[b],fun i=>if i=m then c1 else f i,by simp [h1],fun i hi=>?_⟩
    by_cases hil:i=m
    ·subst hil
     have:(l++[b])[i]=b:=by rw [List.getElem_append_right (by omega)];simp [h1]
     simp only [this,if_true]
     exact h3
    ·have hi':i<l.length:=by simp at hi;omega
     have:(l++[b])[i]=l[i]:=List.getElem_append_left hi'
     simp only [this,hil,if_false]
     exact h2 i hi'
  obtain ⟨l,f,hll,hf⟩:=pick len (Nat.le_refl _)
  refine ⟨l,⟨by have:maxLen=9223372036854775807:=rfl;omega,fun b hb=>?_⟩,rfl,fun j hj hk=>?_⟩
  ·obtain ⟨i,hi,rfl⟩:=List.getElem_of_mem hb
   exact (hf i hi).1
  ·have:j=0:=by simp at hj;omega
   subst this
   refine ⟨?_,rfl⟩
   show RepS (gho w) (.sl z (l.map el)) (.slice (some a) len cap)
   cases hlen0:len with
   | zero =>
    have:l=[]:=List.eq_nil_of_length_eq_zero (by omega)
    rw [this]
    exact .nila z a cap
   | succ len' =>
    have hcl:∀ i (hi:i<l.length),(f i).length=z:=fun i hi=>(cells?_get (hf i hi).2.1).1
    have hsp:a.spot=none:=by
     have h0:=hf 0 (by omega)
     have h1:=cells?_get h0.2.1
     have:=spot_none (h1.2 0 (by rw [hcl 0 (by omega)];exact hz0))
     simpa [Addr.add] using this
    obtain ⟨b,off,spot⟩:=a
    simp only at hsp
    subst hsp
    have e0:len'+1=(l.map el).length:=by simp;omega
    rw [e0]
    refine .sl z (l.map el) b off cap (fun i j=>(f i).getD j undef) (fun i hi=>?_) (by simp;omega) (fun i hi j hj=>?_) (fun i hi j hj=>?_)
    ·simp at hi ⊢
     rw [hel,(hf i hi).2.2.1];exact hcl i hi
    ·simp at hi
     have hjl:j<(f i).length:=by rw [hcl i hi];exact hj
     have h1:=(cells?_get (hf i hi).2.1).2 j hjl
     rw [addr_add,addr_add] at h1
     have:(f i).getD j undef=(f i)[j]:=by simp [List.getD,hjl]
     rw [this]
     exact gho_cell h1 ((hf i hi).2.2.2 j (by rw [(hf i hi).2.2.1];exact hjl) hjl).2
    ·simp at hi
     have hje:j<(cells (l[i])).length:=by simpa [hel] using hj
     have hjl:j<(f i).length:=by rw [← (hf i hi).2.2.1];exact hje
     have:(f i).getD j undef=(f i)[j]:=by simp [List.getD,hjl]
     rw [this]
     have q:=((hf i hi).2.2.2 j hje hjl).1
     simpa [hel] using q

def OpensFs (P:Program) (L:Nat) (fs:List Field) (o:Nat) (α:Type) (cells:α→List AV) (wf:α→Prop):Prop :=
 ∀ (H:Type) (enc:TypeId×Value→H) (w:World) (sp:Nat→Bool) (held:Bool) (fuel:Nat) (cs:List Value),cs.length=L→(∀ (i:Nat) (f:Field),fs[i]? = some f→∃ x,DataW.trod enc P w 0 sp held fuel f.type ((cs.drop f.offset).take (P.cellsOf f.type))=some x) →
  ∃ a:α,wf a∧o+(cells a).length=cs.length∧∀ j (hj:j<(cells a).length) (hk:o+j<cs.length),RepS (gho w) ((cells a)[j]) (cs[o+j])∧(cs[o+j]).oneCell'=true

theorem Opens.map (h:Opens P t α cells wf) (f:α→β) {cb:β→List AV} {wb:β→Prop} (hc:∀ a,cb (f a)=cells a) (hw:∀ a,wf a→wb (f a)):Opens P t β cb wb:=by
 intro H enc w sp held fuel cs x hx
 obtain ⟨a,h1,h2,h3⟩:=h H enc w sp held fuel cs x hx
 refine ⟨f a,hw a h1,by rw [hc];exact h2,fun j hj hk=>?_⟩
 simp only [hc] at hj ⊢
 exact h3 j hj hk

theorem Opens.agg (h:Opens P t α cells wf) {H:Type} {enc:TypeId×Value→H} {w:World} {sp:Nat→Bool} {held:Bool} {r:Reach} {b:Nat} {v:Value} {d:DataW H} {ps:List MemPlace} (hag:aggT P t=some true) (hval:Value.okWide P w r b t v) (hd:DataW.Trod enc P w 0 sp held t v d ps) :
  ∃ a,wf a∧RepS (gho w) (.agg (cells a)) v:=by
 obtain ⟨fuel,hf⟩:=hd
 obtain ⟨a,h1,h2,h3⟩:=h H enc w sp held fuel _ _ hf
 obtain ⟨cs,rfl⟩:∃ cs,v=.agg cs:=by
  unfold aggT at hag
  unfold Value.okWide at hval
  split at hag
  ·rename_i hu;rw [hu] at hval;obtain ⟨cs,h,_⟩:=hval;exact ⟨cs,h⟩
  ·rename_i hu;rw [hu] at hval;obtain ⟨cs,h,_⟩:=hval;exact ⟨cs,h⟩
  ·cases hag
  ·cases hag
 have e:(Value.agg cs).cells=cs:=rfl
 rw [e] at h2 h3
 refine ⟨a,h1,.agg _ cs (by simpa using h2.symm) fun j hj hk=>?_⟩
 have:=(h3 j hj (by simpa using hk)).1
 simpa using this

theorem Opens.one (h:Opens P t α cells wf) {H:Type} {enc:TypeId×Value→H} {w:World} {sp:Nat→Bool} {held:Bool} {r:Reach} {b:Nat} {v:Value} {d:DataW H} {ps:List MemPlace} {el:α→AV} (hel:∀ a,cells a=[el a]) (hag:aggT P t=some false) (hval:Value.okWide P w r b t v) (hd:DataW.Trod enc P w 0 sp held t v d ps) :
  ∃ a,wf a∧RepS (gho w) (el a) v:=by
 obtain ⟨fuel,hf⟩:=hd
 obtain ⟨a,h1,h2,h3⟩:=h H enc w sp held fuel _ _ hf
 have e:v.cells = #[v]:=by
  cases v with
  | agg cs =>
   exfalso
   unfold aggT at hag
   unfold Value.okWide at hval
   split at hag
   ·cases hag
   ·cases hag
   ·rename_i d q1 q2 hu
    have hco:Cell.okWide P w r b t (.agg cs):=by
     rw [hu] at hval
     split at hval
     ·rename_i hq;cases hq;exact (q1 _ rfl).elim
     ·rename_i hq;cases hq;exact (q2 _ _ rfl).elim
     ·exact hval
    unfold Cell.okWide Cell.ok at hco
    rw [hu] at hco
    cases d <;> simp at hco
   ·cases hag
  | _=>rfl
 rw [e] at h3
 have:=(h3 0 (by rw [hel];simp) (by simp)).1
 refine ⟨a,h1,?_⟩
 simpa [hel] using this
end

theorem trodAll_below {H:Type} {enc:TypeId×Value→H} {P:Program} (hl:laidOutB P=true) {W W':World} (hb:Below W.heap.size W W'):∀ {ts:List TypeId} {vs:List Value} {ds:List (DataW H)} {ps:List MemPlace},
  (∀ t∈ts,P.readableRec t=true∧t<P.types.size)→DataW.TrodAll enc P W 0 (fun _=>true) true ts vs ds ps→(∀ p∈ps,p.block<W.heap.size)→DataW.TrodAll enc P W' 0 (fun b=>decide (b<W.heap.size)) true ts vs ds ps
 | [],[],[],ps,_,h,_=>h
 | t :: ts,v :: vs,d :: ds,ps,ht,⟨p,q,h1,h2,h3⟩,hlt=>by
  subst h3
  refine ⟨p,q,Below.trod hl (ht t (by simp)).1 (ht t (by simp)).2 h1 hb fun x hx=>hlt x (List.mem_append_left _ hx),trodAll_below hl hb (fun t h=>ht t (by simp [h])) h2 fun x hx=>hlt x (List.mem_append_right _ hx),rfl⟩
 | [],_ :: _,_,_,_,h,_=>h.elim
 | [],[],_ :: _,_,_,h,_=>h.elim
 | _ :: _,[],_,_,_,h,_=>h.elim
 | _ :: _,_ :: _,[],_,_,h,_=>h.elim

def RepsL (I:Gh):List AV→List Value→Prop
 | [],[]=>True
 | a :: r,v :: s=>RepS I a v∧RepsL I r s
 | _,_=>False
theorem repsL_get {I:Gh}:∀ {as:List AV} {vs:List Value},RepsL I as vs→vs.length=as.length∧∀ j (hj:j<as.length) (hk:j<vs.length),RepS I (as[j]) (vs[j])
 | [],[],_=>⟨rfl,fun j hj=>by cases hj⟩
 | a :: r,v :: s,h=>by
  obtain ⟨h1,h2⟩:=repsL_get h.2
  refine ⟨by simp [h1],fun j hj hk=>?_⟩
  cases j with
  | zero=>exact h.1
  | succ j=>exact h2 j (by simpa using hj) (by simpa using hk)
 | [],_ :: _,h=>h.elim
 | _ :: _,[],h=>h.elim

theorem law_calls {H:Type} {enc:TypeId×Value→H} {P:Program} {f:Func} {fid:FuncId} {s:ChangeSpec} {W:World} {args:Array Value} {ds gs:List (DataW H)} {before:List MemPlace} {avs:List AV} {tb:TypeId} {ts:List TypeId}
  (hl:laidOutB P=true) (hp:f.params=ts.toArray) (hts:(ts.all fun t=>P.readableRec t && decide (t<P.types.size))=true) (hv:s.vars=[]) (hrt:f.resultTypes = #[tb]) (hub:P.underlying tb=some .bool)
  (hfn:gs=[]→(s.fn H (ds++gs)).results=[.lit (.bool true)]∧(s.fn H (ds++gs)).args=ds∧(s.fn H (ds++gs)).vars=[])
  (hW:DataW.Whole enc P f.params.toList s.vars false W args.toList ds gs before) (hspec:SpecAt P fid avs (.bl true)) (hr:RepsL (gho W) avs args.toList) (hbase:BaseOk (gho W) W:=by intro _ _ h;cases h) :
  Calls P fid args W fun e W'=>∃ r,e=.returned r∧s.post enc P f false true false false W args r W':=by
 obtain ⟨hn,hr⟩:=repsL_get hr
 obtain ⟨_,_,_,hspec⟩:=hspec
 have hrs:∀ j (hj:j<avs.length) (hk:j<args.size),RepS (gho W) (avs[j]) (args[j]):=fun j hj hk=>by have q:=hr j hj (by simpa using hk);rw [Array.getElem_toList] at q;exact q
 have hno:∀ (s:Nat) (T:AV) (p:Path),avs[s]? = some T→(T.at p).isNode=false:=by
  intro s T p hs
  obtain ⟨hlt,rfl⟩:=List.getElem?_eq_some_iff.1 hs
  exact rs_at (hrs s hlt (by simp at hn;omega)) p
 have hown:∀ b,¬ Owns (fun _ _=>none) (fun i=>avs[i]?) b:=fun b ⟨s,T,p,k,h1,h2,_⟩=>by rw [hno s T p h1] at h2;cases h2
 have hsep:Sep (gho W) (fun _ _=>none) W (fun i=>avs[i]?):=⟨fun s T p hs=>node_false (hno s T p hs),(fun s T p k hs h1=>by rw [hno s T p hs] at h1;cases h1),(fun s T p k s' T' p' k' hs h1=>by rw [hno s T p hs] at h1;cases h1)⟩
 refine (hspec (gho W) (fun _ _=>none) W args (held_gho W hbase) (by simpa using hn) hsep fun j hj hk=>rs_top (hrs j hj hk) _ _).mono ?_
 rintro e W' ⟨I',π',x,rfl,hI',hsep',hx,_,hbelX,_,_⟩
 have hb0:BelowX (fun _=>False) W.heap.size W W':=hbelX.mono (Nat.le_refl _) fun k _ q=>hown k q
 have hbel:Below W.heap.size W W':=⟨hb0.os,hb0.tape,hb0.output,hb0.size,fun k hk=>hb0.block k hk (fun q=>q)⟩
 have hx':x=.bool true:=by
  have:=top_stat hx rfl
  cases this;rfl
 subst hx'
 have hW':=hW
 obtain ⟨p,q,hA,hV,hpq,hfz,hnd⟩:=hW
 rw [hv] at hV
 obtain ⟨hgs,hq⟩:=trodVars_none hV
 subst hgs;subst hq
 obtain ⟨f1,f2,f3⟩:=hfn rfl
 have hts':∀ t∈f.params.toList,P.readableRec t=true∧t<P.types.size:=fun t ht=>by
  rw [hp] at ht
  have:=List.all_eq_true.1 hts t (by simpa using ht)
  simpa using this
 refine ⟨_,rfl,ds,[],before,[],p,[],hW',?_,?_,?_,Below.frame hbel _,fun h=>by cases h⟩
 ·rw [f1,hrt]
  exact trodAll_cons_mk (RowKit.shut_bool hub _) trodAll_mk0
 ·rw [f2]
  exact trodAll_below hl hbel hts' hA fun x hx=>hW'.lt x (by rw [hpq];exact List.mem_append_left _ hx)
 ·rw [f3,hv];rfl
end Go.AM
namespace Go.AM
open Go.RowKit (Below)

def pinAdd (pins:Nat→Path→Bool) (j:Nat) (d:Path):Nat→Path→Bool:=fun i q=>pins i q || (decide (i=j) && isPref d q)

section
variable {P:Program} {f:FuncId} {I I':Gh} {w w':World}
end
end Go.AM
namespace Go.AM
def bindAt (ops:List Oper) (i:Nat):List Nat:=match ops[i]? with | some o=>bindOn o | none=>[]
def latOk (ops:List Oper) (t:List (List Nat)):Bool :=
 (List.range ops.length).all fun i=>(bindAt ops i).all (fun j=>decide (j<i)) && (t.getD i []).all fun j=>(bindAt ops i).contains j || (bindAt ops i).any fun k=>(t.getD k []).contains j
def LatCl (ops:List Oper) (l:List Nat):Prop:=∀ i∈l,∀ j∈bindAt ops i,j∈l
section
variable {ops:List Oper} {t:List (List Nat)} {l:List Nat}
theorem lat_ok (h:latOk ops t=true) {i:Nat} (hi:i<ops.length):(∀ j∈bindAt ops i,j<i)∧∀ j∈t.getD i [],j∈bindAt ops i∨∃ k∈bindAt ops i,j∈t.getD k []:=by
 have:=List.all_eq_true.1 h i (List.mem_range.2 hi)
 rw [Bool.and_eq_true] at this
 refine ⟨fun j hj=>by simpa using List.all_eq_true.1 this.1 j hj,fun j hj=>?_⟩
 have:=List.all_eq_true.1 this.2 j hj
 rw [Bool.or_eq_true] at this
 rcases this with q | q
 ·exact .inl (by simpa using q)
 ·obtain ⟨k,q1,q2⟩:=List.any_eq_true.1 q
  exact .inr ⟨k,q1,by simpa using q2⟩
theorem lat_anc (h:latOk ops t=true) (hc:LatCl ops l):∀ n i,i≤n→i<ops.length→(∀ j∈bindAt ops i,j∈l)→∀ j∈t.getD i [],j∈l
 | 0,i,hn,hi,hb,j,hj=>by
  obtain ⟨a,b⟩:=lat_ok h hi
  rcases b j hj with q | ⟨k,q,_⟩
  ·exact hb j q
  ·have:=a k q;omega
 | n+1,i,hn,hi,hb,j,hj=>by
  obtain ⟨a,b⟩:=lat_ok h hi
  rcases b j hj with q | ⟨k,q,q2⟩
  ·exact hb j q
  ·have hk:=a k q
   exact lat_anc h hc n k (by omega) (by omega) (hc k (hb k q)) j q2
theorem mem_ready {i:Nat}:i∈readyL ops l↔i<ops.length∧i∉l∧∀ j∈bindAt ops i,j∈l:=by
 unfold readyL bindAt
 rw [List.mem_filter,List.mem_range,Bool.and_eq_true]
 constructor
 ·rintro ⟨h1,h2,h3⟩
  refine ⟨h1,by simpa using h2,fun j hj=>?_⟩
  rw [List.getElem?_eq_getElem h1] at h3 hj
  simp only [bindOn,List.mem_map,List.mem_filter] at hj
  obtain ⟨e,⟨e1,e2⟩,rfl⟩:=hj
  have:=List.all_eq_true.1 h3 e e1
  rw [e2] at this
  simpa using this
 ·rintro ⟨h1,h2,h3⟩
  refine ⟨h1,by simpa using h2,?_⟩
  rw [List.getElem?_eq_getElem h1] at h3 ⊢
  refine List.all_eq_true.2 fun e he=>?_
  by_cases hb:Region.binds .any e=true
  ·have:=h3 e.on (by simp only [bindOn,List.mem_map,List.mem_filter];exact ⟨e,⟨he,hb⟩,rfl⟩)
   simp [this]
  ·simp [hb]
theorem full_of {l:List Nat} {n:Nat} (hn:l.Nodup) (hl:∀ i∈l,i<n) (h:n≤l.length):∀ i,i<n→i∈l:=by
 intro i hi
 by_cases hm:i∈l
 ·exact hm
 ·exfalso
  have hnd:(i :: l).Nodup:=List.nodup_cons.2 ⟨hm,hn⟩
  have sub:∀ (a b:List Nat),a.Nodup→(∀ x∈a,x∈b)→a.length≤b.length:=by
   intro a
   induction a with
   | nil=>intro b _ _;exact Nat.zero_le _
   | cons x a ih =>
    intro b hn hs
    have hx:=hs x (by simp)
    have h1:=ih (b.erase x) (List.nodup_cons.1 hn).2 fun y hy=>(List.mem_erase_of_ne (by rintro rfl;exact (List.nodup_cons.1 hn).1 hy)).2 (hs y (by simp [hy]))
    rw [List.length_erase_of_mem hx] at h1
    have:0<b.length:=List.length_pos_of_mem hx
    simp;omega
  have key:∀ (l:List Nat) (n:Nat),l.Nodup→(∀ i∈l,i<n)→l.length≤n:=by
   intro l n hn hl
   have:=sub l (List.range n) hn fun x hx=>List.mem_range.2 (hl x hx)
   simpa using this
  have:=key (i :: l) n hnd fun j hj=>by
   rcases List.mem_cons.1 hj with rfl | hj
   ·exact hi
   ·exact hl j hj
  simp at this;omega
end
theorem lat_eval {P:Program} {M:FuncId→List Bool} {ops:List Oper} {t:List (List Nat)} (h:latOk ops t=true) (J:(Nat→Bool)→St→Prop)
  (hs:∀ i,i<ops.length→∀ c st (R:St→Prop),c i=false→(∀ j∈t.getD i [],c j=true)→(∀ m,m<ops.length→i∈t.getD m []→c m=false)→J c st→(∀ s,J (fun j=>j == i || c j) s→R s)→seqAt P M ops (operAt ops i) st R) :
  ∀ (n:Nat) (l:List Nat) (st:St),l.Nodup→(∀ i∈l,i<ops.length)→ops.length≤n+l.length→LatCl ops l→J (fun j=>l.contains j) st→evalT P M ops (treeOf ops n l) st fun st'=>∃ c:Nat→Bool,(∀ i,i<ops.length→c i=true)∧J c st':=by
 have hfull:∀ (l:List Nat),(∀ i∈l,i<ops.length)→(readyL ops l).isEmpty=true→∀ i,i<ops.length→i∈l:=by
  intro l hl he
  have key:∀ n i,i≤n→i<ops.length→i∈l:=by
   intro n
   induction n with
   | zero =>
    intro i hn hi
    by_cases hm:i∈l
    ·exact hm
    ·have:i∈readyL ops l:=mem_ready.2 ⟨hi,hm,fun j hj=>by have:=(lat_ok h hi).1 j hj;omega⟩
     rw [List.isEmpty_iff.1 he] at this;cases this
   | succ n ih =>
    intro i hn hi
    by_cases hm:i∈l
    ·exact hm
    ·have:i∈readyL ops l:=mem_ready.2 ⟨hi,hm,fun j hj=>by have:=(lat_ok h hi).1 j hj;exact ih j (by omega) (by omega)⟩
     rw [List.isEmpty_iff.1 he] at this;cases this
  exact fun i hi=>key i i (Nat.le_refl _) hi
 intro n
 induction n with
 | zero =>
  intro l st hn hl hlen hc hj
  have hf:=full_of hn hl (by omega)
  have he:(readyL ops l).isEmpty=true:=by
   rw [List.isEmpty_iff]
   apply List.eq_nil_iff_forall_not_mem.2
   intro i hi
   obtain ⟨a,b,_⟩:=mem_ready.1 hi
   exact b (hf i a)
  rw [treeOf,if_pos he,evalT_done]
  exact ⟨_,fun i hi=>by simpa using hf i hi,hj⟩
 | succ n ih =>
  intro l st hn hl hlen hc hj
  rw [treeOf]
  by_cases he:(readyL ops l).isEmpty=true
  ·rw [if_pos he,evalT_done]
   exact ⟨_,fun i hi=>by simpa using hfull l hl he i hi,hj⟩
  rw [if_neg he]
  have key:∀ r:List Nat,(∀ i∈r,i∈readyL ops l)→evalT P M ops (OT.alts (fun i=>treeOf ops n (i :: l)) r) st fun st'=>∃ c:Nat→Bool,(∀ i,i<ops.length→c i=true)∧J c st':=by
   intro r
   induction r with
   | nil=>intro _;rw [OT.alts,evalT_stop];trivial
   | cons i r ihr =>
    intro hr
    rw [OT.alts,evalT_alt]
    refine ⟨?_,ihr fun j hj=>hr j (List.mem_cons_of_mem _ hj)⟩
    obtain ⟨hi,hni,hb⟩:=mem_ready.1 (hr i (List.mem_cons_self))
    have hc':LatCl ops (i :: l):=fun a ha j hj=>by
     rcases List.mem_cons.1 ha with rfl | ha
     ·exact List.mem_cons_of_mem _ (hb j hj)
     ·exact List.mem_cons_of_mem _ (hc a ha j hj)
    refine hs i hi (fun j=>l.contains j) st _ (by simpa using hni) (fun j hj=>by simpa using lat_anc h hc i i (Nat.le_refl _) hi hb j hj) (fun m hm him=>by
     cases hmm:l.contains m with
     | false=>rfl
     | true =>
      have hml:m∈l:=by simpa using hmm
      exact absurd (lat_anc h hc m m (Nat.le_refl _) hm (hc m hml) i him) hni) hj fun s hsj=>?_
    refine ih (i :: l) s (List.nodup_cons.2 ⟨hni,hn⟩) (fun a ha=>?_) (by simp;omega) hc' ?_
    ·rcases List.mem_cons.1 ha with rfl | ha
     ·exact hi
     ·exact hl a ha
    ·have e:(fun j=>(i :: l).contains j)=fun j=>j == i || l.contains j:=by funext j;rw [List.contains_cons]
     rw [e];exact hsj
  exact key _ fun i hi=>hi
def AllN (Q:Nat→Prop):Nat→Nat→Prop
 | _,0=>True
 | i,n+1=>Q i∧AllN Q (i+1) n
theorem allN_get {Q:Nat→Prop}:∀ n a,AllN Q a n→∀ i,a≤i→i<a+n→Q i
 | 0,a,_,i,h1,h2=>by omega
 | n+1,a,h,i,h1,h2=>by
  by_cases e:i=a
  ·subst e;exact h.1
  ·exact allN_get n (a+1) h.2 i (by omega) (by omega)
def LatS (P:Program) (M:FuncId→List Bool) (ops:List Oper) (t d:List (List Nat)) (J:(Nat→Bool)→St→Prop) (i:Nat):Prop :=
 ∀ c st (R:St→Prop),(c i=false∧(∀ j∈t.getD i [],c j=true)∧∀ m∈d.getD i [],c m=false)→J c st→(∀ s,J (fun j=>j == i || c j) s→R s)→seqAt P M ops (operAt ops i) st R
def latD (n:Nat) (t d:List (List Nat)):Bool:=(List.range n).all fun i=>(d.getD i []).all fun m=>decide (m<n) && (t.getD m []).contains i
theorem lat_go {P:Program} {M:FuncId→List Bool} {ops:List Oper} {st:St} {K:St→Prop} {l:Lock ops} {m:Lock K} (t d:List (List Nat)) (L:List Nat) (J:(Nat→Bool)→St→Prop) (h:(latOk ops t && latD ops.length t d && L.all fun i=>decide (i<ops.length))=true) (h0:J (fun _=>false) st)
  (hs:AllN (LatS P M ops t d J) 0 ops.length) (hK:∀ c st',(∀ i∈L,c i=true)→J c st'→K st'):AnyP P M ops st K l m:=by
 rw [Bool.and_eq_true,Bool.and_eq_true] at h
 obtain ⟨⟨ha,hb⟩,hc⟩:=h
 refine any_go (treeOf ops ops.length []) (fun st'=>∃ c:Nat→Bool,(∀ i,i<ops.length→c i=true)∧J c st') rfl ?_ fun st' ⟨c,h1,h2⟩=>hK c st' (fun i hi=>h1 i (by simpa using List.all_eq_true.1 hc i hi)) h2
 refine lat_eval ha J (fun i hi c st R h1 h2 h3=>allN_get _ _ hs i (Nat.zero_le _) (by omega) c st R ⟨h1,h2,fun q hq=>?_⟩) ops.length [] st (by simp) (fun i hi=>by cases hi) (by simp) (fun i hi=>by cases hi) ?_
 ·have:=List.all_eq_true.1 (List.all_eq_true.1 hb i (List.mem_range.2 hi)) q hq
  rw [Bool.and_eq_true] at this
  exact h3 q (by simpa using this.1) (by simpa using this.2)
 have e:(fun j=>([]:List Nat).contains j)=fun _=>false:=by funext j;rfl
 rw [e];exact h0
theorem lat_tt (X:Prop):(true=true→X)=X:=by simp
theorem lat_ft (X:Prop):(false=true→X)=True:=by simp
theorem lat_tf (X:Prop):(true=false→X)=True:=by simp
theorem lat_ff (X:Prop):(false=false→X)=X:=by simp
theorem lat_F (X:Prop):(False→X)=True:=by simp
theorem lat_T (X:Prop):(True→X)=X:=by simp
theorem lat_it (X:Prop):(X→True)=True:=by simp
theorem lat_ct (a b:AV):(bif true then a else b)=a:=rfl
theorem lat_cf (a b:AV):(bif false then a else b)=b:=rfl
def latj:=(ai @lat_tt (ai @lat_ft (ai @lat_tf (ai @lat_ff (ai @lat_ct (ai @lat_cf (ai @lat_F (ai @lat_T (ai @lat_it (ai true_and and_true))))))))))

theorem lat_nil (p:Nat→Prop):(∀ j,j∈([]:List Nat)→p j)=True:=by simp
theorem lat_cons (a:Nat) (l:List Nat) (p:Nat→Prop):(∀ j,j∈a :: l→p j)=(p a∧∀ j,j∈l→p j):=by simp
def latm:=(ai (@List.getD_cons_zero.{0}) (ai (@List.getD_cons_succ.{0}) (ai @lat_nil (ai @lat_cons (ai true_and and_true)))))

end Go.AM
