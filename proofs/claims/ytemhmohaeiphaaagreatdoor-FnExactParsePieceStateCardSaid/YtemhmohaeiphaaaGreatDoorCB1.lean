/-
  CONTRACTS of functions of the program,and what they compute,by content.
-/
import Derived.Test.YtemhmohaeiphaaaGreatDoorCB0
import Derived.Handed
import Derived.SizedLaws
import Derived.ShapedOpen
import Derived.Shelf.Vars
import Derived.Lib.LaidTab
import Derived.Test.YtemhmohaeiphaaaGreatDoorM2SD
import Derived.Sort.Grow
import Derived.Deep.Draws
import Derived.Sort.Row
import Derived.Lib.Join
import Derived.Lib.ItoaLen
import Derived.Laws.AppendOwn
import Derived.Test.YtemhmohaeiphaaaGreatDoorM2Facts
import Derived.Shelf.Strconv.Itoa4
import Derived.Shelf.Strings.OnBuilder
import Derived.Shelf.Small.Strs
import Derived.Shelf.Strings.SplitShaped
import Derived.Shelf.Strconv.ParseIntPublic10
import Derived.Lib.SplitLaws
import Derived.RangeFuncRecord
import Derived.Shelf.SlIter.Collect
import Derived.RangeFuncBox
import Derived.RangeFuncBound
import Derived.RangeFuncLeaves
import Derived.Shelf.Abstract
import Derived.Shelf.RegionOpen
import Derived.OwnWalkIn
import Derived.TacticsInMore
import Derived.LoopNIn
import Derived.LoopIn
import Derived.Maps.AppendAt
set_option linter.unusedVariables false
set_option linter.defProp false
set_option linter.unusedSimpArgs false
namespace Go.AM
open Go.Proofs
open Go.ChangeShapes Go.WideShapes Go.RowKit
theorem wrapS {H:Type} {enc:TypeId×Value→H} {a:Assume} {C:Checked} {os:Os} {f:FuncId} {fn:Func} {s:ChangeSpec} {conds:List PathCond} {apart fresh handsOn again:Bool} {X:World→Array Value→Prop}
    (hX:∀ (w w':World) (args:Array Value),w.heap=w'.heap→X w args→X w' args)
    (own:ownKnob C.prog.godebug=none) (started:os.Started) (noInit:C.prog.inits.idxOf? f=none) (hfn:C.prog.funcs[f]? = some fn)
    (witness:∃ (w:World) (tape:Tape) (i:Input),w.os=os∧(w.forCall tape i).Shaped C.prog∧i.vars=[]∧Input.okWide C.prog (w.forCall tape i) .any w.heap.size f i ∧
      ((s.pre enc C.prog fn conds apart (w.forCall tape i).memory i.args∧X (w.forCall tape i).memory i.args)∧sizedMet enc C.prog fn (OpenSpec.ofChange s) apart (w.forCall tape i).memory i.args)∧a.holds C.prog (lone (Frame.enter C.prog f i.args .normal) [] (w.forCall tape i)))
    (contract:∀ (W:World) (base:Nat) (args:Array Value) (ds gs:List (DataW H)) (before:List MemPlace),
      (∀ (j:Nat) t v,fn.params[j]? = some t→args[j]? = some v→Value.okWide C.prog W .any base t v) →
      DataW.Whole enc C.prog fn.params.toList s.vars apart W args.toList ds gs before →
      conds.all (PathCond.test C.prog ⟨fn.params.toList,ds,s.plain.varTypes C.prog,gs⟩)=true →
      X W args→W.ShapedOpen C.prog →
      Calls C.prog f args W fun e W'=>∃ v,e=.returned v∧s.post enc C.prog fn apart fresh handsOn again W args v W') :
    ReturnsInHanded a C os f .any (fun w args=>(s.pre enc C.prog fn conds apart w args∧X w args)∧sizedMet enc C.prog fn (OpenSpec.ofChange s) apart w args) (s.post enc C.prog fn apart fresh handsOn again):=by
  refine returnsInHanded_of_calls own started noInit witness ?_
  intro w tape i _ hsh _ hok hpre hholds
  obtain ⟨_,_,_,fn',hfn',_,_,_,_,hval⟩:=hok
  have e:fn'=fn:=Option.some.inj (hfn'.symm.trans hfn)
  subst e
  obtain ⟨⟨⟨ds,gs,before,hw,hc⟩,hx⟩,hz⟩:=hpre
  have hw':=DataW.Whole.of_heap (w':=w.forCall tape i) (by rfl) hw
  refine (contract (w.forCall tape i) w.heap.size i.args ds gs before hval hw' hc (hX _ _ _ (by rfl) hx) hsh).mono fun e W' ⟨v,he,hp⟩=>?_
  subst he
  exact ChangeSpec.post_blind hp
theorem trod_iface {H:Type} {enc:TypeId×Value→H} {P:Program} {w:World} {base:Nat} {sp:Nat→Bool} {held:Bool} {fuel:Nat} {t:TypeId} {cs:List Value} {ms:Array (String×TypeId)} {name:String} {d:DataW H} {p:List MemPlace}
    (ht:P.underlying t=some (.interface ms)) (h:DataW.trod enc P w base sp held fuel t cs=some (.iface name d,p)):∃ u v,cs=[.iface u v]:=by
  cases fuel with
  | zero=>simp [DataW.trod] at h
  | succ n =>
    unfold DataW.trod at h
    rw [ht] at h
    match cs,h with
    | [.iface u v],_=>exact ⟨u,v,rfl⟩
    | [.nilIface],h=>simp at h
    | [],h=>simp at h
    | _ :: _ :: _,h=>simp at h
theorem base_mk {W:World} {b:Nat} {cs:Array Value} {t:TypeId} {f:Nat×Nat} {x:Value} (hh:W.heap[b]? = some (.cells cs t f)) (h0:cs[0]? = some x) (h1:x.oneCell'=true):gho W b 0=some x :=
  gho_cell (by simp [World.cell?,hh];exact h0) h1
end Go.AM
namespace Go.AM
/-! the library's contracts in this machine's words: plain values in,a plain value out -/
theorem Held.same {I:Gh} {w w':World} (hh:Held I w) (h:∀ b o x,I b o=some x→w'.heap[b]? = w.heap[b]?):Held I w' :=
  ⟨fun b o x hx=>by
    have h1:=hh.cell b o x hx
    exact ⟨(World.cell?_of_block (w:=w) (a:=⟨b,o,none⟩) (h b o x hx)).trans h1.1,h1.2⟩,
   fun b cs hc=>by
    obtain ⟨t,f,x,h1,h2⟩:=hh.base b cs hc
    exact ⟨t,f,x,(h b 0 x h2).trans h1,h2⟩⟩
theorem grow_block (w:World) (k:Nat) (os:Array Obj) {b:Nat} (h:b<w.heap.size):(Sort.grow (w.drewN k) os).heap[b]? = w.heap[b]?:=by
  simp only [Sort.grow,World.drewN]
  rw [Array.getElem?_append_left h]
theorem grow_size (w:World) (k:Nat) (os:Array Obj):w.heap.size≤(Sort.grow (w.drewN k) os).heap.size:=by
  simp only [Sort.grow,World.drewN,Array.size_append];omega
theorem tab_of {P:Program} {w:World} {name:String} {k:IntKind} {zs:List Int} {g t:Nat} {f:Nat×Nat} (hg:P.globalNamed name=some g) (h:w.heap[g]? = some (.cells (zs.map fun z=>Value.int k z).toArray t f)):Lib.TabIs P w name k zs:=by
  unfold Lib.TabIs World.var?
  rw [hg]
  simp [h]
theorem spec_static {P:Program} {f:FuncId} (hb:HasBody P f) (xs:List Value) (y:Value)
    (hs:∀ I w,Held I w→Calls P f xs.toArray w fun e w'=>e=.returned y∧∃ k os,w'=Sort.grow (w.drewN k) os):SpecAt P f (xs.map .v) (.v y):=by
  refine ⟨hb,by simp,fun j T hj=>by simp at hj,fun I π w vals hI hvs hsep htop=>?_⟩
  obtain rfl:vals=xs.toArray:=by
    apply Array.ext
    · simpa using hvs
    · intro j h1 h2
      have h2':j<(xs.map AV.v).length:=by simpa using h2
      have q0:=htop j h2' h1
      have e:(xs.map AV.v)[j]=.v (xs[j]'(by simpa using h2)):=by simp
      rw [e] at q0
      have q:=rep_v (ρ:=π) (.stat (top_stat q0 rfl))
      rw [q]
      simp
  have hn:∀ p,((AV.v y).at p).isNode=false:=fun p=>rs_at (RepS.v (I:=I) y) p
  have hm:∀ {i T p},outMem (xs.map AV.v).length [] (.v y) i=some T→(T.at p).isNode=true→False:=fun {i T p} h1 h2=>by
    unfold outMem at h1
    split at h1
    · cases h1;rw [hn p] at h2;cases h2
    · simp at h1
  refine (hs I w hI).mono ?_
  rintro e w' ⟨rfl,k,os,rfl⟩
  refine ⟨I,π,y,rfl,hI.same fun b o x hx=>grow_block w k os (hI.lt hx),⟨fun i T p h1=>?_,fun i T p k h1 h2 _=>(hm h1 h2).elim,fun i T p k i' T' p' k' h1 h2 _ _ _ _ _=>(hm h1 h2).elim⟩,.inr ⟨rfl,.v y⟩,fun j T hT=>by simp at hT,⟨rfl,rfl,rfl,grow_size w k os,fun b h1 _=>grow_block w k os h1⟩,fun _ _ _=>rfl,fun b ⟨i,T,p,k,h1,h2,_⟩=>(hm h1 h2).elim⟩
  cases hnn:(T.at p).isNode with
  | false=>exact node_false hnn
  | true=>exact (hm h1 hnn).elim
end Go.AM
namespace Go.AM
/-! a sort of the library's,as its own contract tells it,in this machine's words -/
def srt (l:List Int):List Int:=l.mergeSort fun x y=>decide (x≤y)
end Go.AM
set_option maxRecDepth 8000
namespace Go.AM
namespace Door
/-! texts that are joined,plainly;the library's Join in this machine's words -/
def jn (l:List Int):List UInt8:=Lib.join (l.map Lib.itoa) [32]
end Door
end Go.AM
namespace Go.AM
namespace Ps
/-! more of the kit's words as contracts: rows of one-cell values,a reader,pairs -/
theorem vat (x:Value):∀ p,((AV.v x).at p).isNode=false:=fun p=>rs_at (RepS.v (I:=fun _ _=>none) x) p
theorem vL_at (vs:List Value):∀ (ij:Nat×Nat) (p:Path),(((.tr 1 (vs.map AV.v):AV)).at (ij :: p)).isNode=false:=fun ij p=>by
  show (AV.at (((vs.map AV.v).getD ij.1 .any).cells.getD ij.2 .any) p).isNode=false
  by_cases h:ij.1<vs.length
  · have e:(vs.map AV.v).getD ij.1 .any=.v (vs[ij.1]):=by simp [List.getD,h]
    rw [e]
    show (AV.at (([AV.v (vs[ij.1])]:List AV).getD ij.2 .any) p).isNode=false
    cases ij.2 with
    | zero=>exact vat _ p
    | succ j =>
      show (AV.at .any p).isNode=false
      rw [any_at];rfl
  · have e:(vs.map AV.v).getD ij.1 .any=.any:=getD_ge (by simp;omega)
    rw [e]
    have e2:(AV.any).cells.getD ij.2 .any=.any:=by cases ij.2 <;> rfl
    rw [e2,any_at];rfl
theorem node_vL {vs:List Value} {p:Path} (h:(((.tr 1 (vs.map AV.v):AV)).at p).isNode=true):p=[]:=by
  cases p with
  | nil=>rfl
  | cons ij p=>rw [vL_at] at h;cases h
def plcOf (v:Value):Option Plc:=match v with | .slice (some a) _ cap=>some ⟨a.block,0,1,cap⟩ | _=>none
theorem row_ok {I:Gh} {π:Path→Option Plc} {w:World} {p:Path} {vs:List Value} {E:TypeId} {base:Nat} {v:Value} (hone:∀ x∈vs,x.oneCell'=true)
    (hrow:w.ownsRow base E 1 v vs.length vs) (hπ:π p=plcOf v):RowOk I π w p 1 (vs.map AV.v)∧Hdr (π p) (.tr 1 (vs.map AV.v)) v:=by
  obtain ⟨_,hrow⟩:=hrow
  rcases hrow with ⟨rfl,hn⟩ | ⟨g,cap,cur,rfl,hg,hblk,hc,hcm,hcs,hvals⟩
  · have hL:vs=[]:=List.length_eq_zero_iff.1 hn
    subst hL
    exact ⟨.inl ⟨hπ,rfl⟩,.inr ⟨rfl,none,rfl⟩⟩
  · have hget:∀ i (hi:i<vs.length),cur.getD i undef=vs[i]:=fun i hi=>by
      have h2:(cur.toList.take (vs.length*1))[i]? = some (vs[i]):=by
        rw [hvals,List.getElem?_eq_getElem hi]
      rw [List.getElem?_take,if_pos (by omega)] at h2
      rw [Array.getD_eq_getD_getElem?]
      have h3:cur[i]? = some (vs[i]):=by simpa using h2
      rw [h3];rfl
    refine ⟨.inr ⟨⟨g,0,1,cap⟩,E,cur,hπ,rfl,by simpa using hc,hcm,hblk,by simp [hcs],fun i hi=>⟨by simp [AV.cells],fun j hj=>?_⟩⟩,.inl ⟨⟨g,0,1,cap⟩,hπ,rfl,by simpa using hc,by simp⟩⟩
    have hi':i<vs.length:=by simpa using hi
    have hj':j=0:=by simp [AV.cells] at hj;omega
    subst hj'
    have e:=hget i hi'
    simp only [Nat.zero_add,Nat.mul_one,Nat.add_zero]
    rw [e]
    have e2:((List.map AV.v vs)[i]).cells[0]=AV.v (vs[i]):=by simp [AV.cells]
    refine ⟨.inr ⟨by rw [e2];rfl,by rw [e2];exact .v _⟩,hone _ (List.getElem_mem hi')⟩
theorem own_blk {v:Value} {w:World} {base:Nat} {E:TypeId} {vs:List Value} (hrow:w.ownsRow base E 1 v vs.length vs) {k:Plc} (h:(plcOf v)=some k):base≤k.b∧v.ownBlock=some k.b:=by
  obtain ⟨_,hrow⟩:=hrow
  rcases hrow with ⟨rfl,hn⟩ | ⟨g,cap,cur,rfl,hg,_⟩
  · cases h
  · cases h;exact ⟨hg,rfl⟩
theorem spec_vrow {P:Program} {f:FuncId} (hb:HasBody P f) (args:List AV) (hst:args.all (fun a=>!a.nodeB)=true) (vs:List Value) (hone:∀ x∈vs,x.oneCell'=true) (E:TypeId)
    (hs:∀ I w (vals:Array Value),Held I w→vals.size=args.length→(∀ j (hj:j<args.length) (hk:j<vals.size),RepS I (args[j]) (vals[j])) →
      Calls P f vals w fun e w'=>∃ v,e=.returned v∧w'.ownsRow w.heap.size E 1 v vs.length vs∧Go.RowKit.Below w.heap.size w w'):SpecAt P f args (.tr 1 (vs.map AV.v)):=by
  refine ⟨hb,by simp,fun j T hj=>by simp at hj,fun I π w vals hI hvs hsep htop=>?_⟩
  refine (hs I w vals hI hvs fun j hj hk=>top_stat (htop j hj hk) (by
    have:=List.all_eq_true.1 hst _ (List.getElem_mem hj)
    simpa using this)).mono ?_
  rintro e w' ⟨v,rfl,hrow,hbel⟩
  have hmem:∀ {i T},outMem args.length [] (.tr 1 (vs.map AV.v)) i=some T→i=args.length∧T=.tr 1 (vs.map AV.v):=fun {i T} h1=>by
    unfold outMem at h1
    split at h1
    · rename_i h;cases h1;exact ⟨h,rfl⟩
    · simp at h1
  have hHeld:Held I w':=hI.same fun b o x hx=>hbel.block b (hI.lt hx)
  have hend:BelowX (Owns π (fun i=>args[i]?)) w.heap.size w w':=⟨hbel.os,hbel.tape,hbel.output,hbel.size,fun b h1 _=>hbel.block b h1⟩
  refine ⟨I,fun i p=>if i=args.length∧p=[] then (plcOf v) else none,v,rfl,hHeld,⟨fun i T p h1=>?_,fun i T p k h1 h2 h3 o=>?_,fun i T p k i' T' p' k' h1 h2 h3 h4 h5 h6 _=>?_⟩,.inl ⟨rfl,?_⟩,fun j T hT=>by simp at hT,hend,fun _ _ _=>rfl,fun b ⟨i,T,p,k,h1,h2,h3,h4⟩=>?_⟩
  · obtain ⟨rfl,rfl⟩:=hmem h1
    cases hnn:(((.tr 1 (vs.map AV.v):AV)).at p).isNode with
    | false=>exact node_false hnn
    | true =>
      have:=node_vL hnn;subst this
      exact (row_ok (I:=I) (π:=fun p=>if args.length=args.length∧p=[] then (plcOf v) else none) (p:=[]) hone hrow (by rw [if_pos ⟨rfl,rfl⟩])).1
  · obtain ⟨rfl,rfl⟩:=hmem h1
    simp only at h3
    split at h3
    · have hk:=(own_blk hrow h3).1
      cases hx:I k.b o with
      | none=>rfl
      | some x=>exact absurd (hI.lt hx) (by omega)
    · cases h3
  · obtain ⟨rfl,rfl⟩:=hmem h1
    obtain ⟨rfl,rfl⟩:=hmem h4
    exact ⟨rfl,by rw [node_vL h2,node_vL h5]⟩
  · exact (row_ok (I:=I) (π:=fun p=>if args.length=args.length∧p=[] then (plcOf v) else none) (p:=[]) hone hrow (by rw [if_pos ⟨rfl,rfl⟩])).2
  · simp only at h3
    split at h3
    · have hk:=(own_blk hrow h3).1
      subst h4;exact .inr hk
    · cases h3
theorem one_max:1≤maxLen:=by decide
def rdr (vs:List Value) (a b:Value):AV:=.pt 3 (.agg [.tr 1 (vs.map AV.v),.v a,.v b])
theorem rdr_cell (vs:List Value) (a b:Value) (p:Path):∀ i j,(((rdr vs a b).cellAt i j).at p).isNode=true→i=0∧j=0∧p=[]
  | 0,0,h=>by
    have h:(((.tr 1 (vs.map AV.v):AV)).at p).isNode=true:=h
    exact ⟨rfl,rfl,node_vL h⟩
  | 0,1,h=>by
    have h:((AV.v a).at p).isNode=true:=h
    rw [vat] at h;cases h
  | 0,2,h=>by
    have h:((AV.v b).at p).isNode=true:=h
    rw [vat] at h;cases h
  | 0,j+3,h=>by
    have h:((AV.any).at p).isNode=true:=h
    rw [any_at] at h;cases h
  | i+1,j,h=>by
    have h:((AV.any).at p).isNode=true:=h
    rw [any_at] at h;cases h
theorem rdr_node {vs:List Value} {a b:Value} {p:Path} (h:((rdr vs a b).at p).isNode=true):p=[]∨p=[(0,0)]:=by
  cases p with
  | nil=>exact .inl rfl
  | cons ij p =>
    obtain ⟨i,j⟩:=ij
    obtain ⟨rfl,rfl,rfl⟩:=rdr_cell vs a b p i j h
    exact .inr rfl
theorem spec_rdr {P:Program} {f:FuncId} (hb:HasBody P f) (args:List AV) (hst:args.all (fun a=>!a.nodeB)=true) (vs:List Value) (hone:∀ x∈vs,x.oneCell'=true) (a b:Value) (ha:a.oneCell'=true) (hb':b.oneCell'=true) (E T:TypeId)
    (hs:∀ I w (vals:Array Value),Held I w→vals.size=args.length→(∀ j (hj:j<args.length) (hk:j<vals.size),RepS I (args[j]) (vals[j])) →
      Calls P f vals w fun e w'=>∃ B v,e=.returned (.pointer (some ⟨B,0,none⟩))∧w.heap.size≤B∧w'.heap[B]? = some (.cells #[v,a,b] T (0,0))∧v.oneCell'=true∧v.ownBlock≠some B∧w'.ownsRow w.heap.size E 1 v vs.length vs∧Go.RowKit.Below w.heap.size w w'):SpecAt P f args (rdr vs a b):=by
  refine ⟨hb,by simp,fun j T hj=>by simp at hj,fun I π w vals hI hvs hsep htop=>?_⟩
  refine (hs I w vals hI hvs fun j hj hk=>top_stat (htop j hj hk) (by
    have:=List.all_eq_true.1 hst _ (List.getElem_mem hj)
    simpa using this)).mono ?_
  rintro e w' ⟨B,v,rfl,hB,hBc,hv1,hvB,hrow,hbel⟩
  have hmem:∀ {i T},outMem args.length [] (rdr vs a b) i=some T→i=args.length∧T=rdr vs a b:=fun {i T} h1=>by
    unfold outMem at h1
    split at h1
    · rename_i h;cases h1;exact ⟨h,rfl⟩
    · simp at h1
  have hHeld:Held I w':=hI.same fun b o x hx=>hbel.block b (hI.lt hx)
  have hend:BelowX (Owns π (fun i=>args[i]?)) w.heap.size w w':=⟨hbel.os,hbel.tape,hbel.output,hbel.size,fun b h1 _=>hbel.block b h1⟩
  obtain ⟨Q,hQ⟩:∃ Q:Pl,Q=fun i p=>if i=args.length∧p=[] then some ⟨B,0,3,1⟩ else if i=args.length∧p=[(0,0)] then (plcOf v) else none:=⟨_,rfl⟩
  have Q0:Q args.length []=some ⟨B,0,3,1⟩:=by rw [hQ];simp
  have Q1:Q args.length [(0,0)]=plcOf v:=by rw [hQ];simp
  have hk:∀ p k,(p=[]∨p=[(0,0)])→Q args.length p=some k→w.heap.size≤k.b∧((p=[]∧k.b=B)∨(p=[(0,0)]∧v.ownBlock=some k.b)):=fun p k hp h3=>by
    rcases hp with rfl | rfl
    · rw [Q0] at h3;cases h3;exact ⟨hB,.inl ⟨rfl,rfl⟩⟩
    · rw [Q1] at h3
      obtain ⟨h1,h2⟩:=own_blk hrow h3
      exact ⟨h1,.inr ⟨rfl,h2⟩⟩
  refine ⟨I,Q,.pointer (some ⟨B,0,none⟩),rfl,hHeld,⟨fun i T p h1=>?_,fun i T p k h1 h2 h3 o=>?_,fun i T p k i' T' p' k' h1 h2 h3 h4 h5 h6 hbb=>?_⟩,.inl ⟨rfl,⟨⟨B,0,3,1⟩,Q0,rfl,Nat.le_refl _,rfl⟩⟩,fun j T hT=>by simp at hT,hend,fun _ _ _=>rfl,fun bb ⟨i,T,p,k,h1,h2,h3,h4⟩=>?_⟩
  · obtain ⟨rfl,rfl⟩:=hmem h1
    cases hnn:((rdr vs a b).at p).isNode with
    | false=>exact node_false hnn
    | true =>
      have hr:=row_ok (I:=I) (π:=Q args.length) (p:=[(0,0)]) hone hrow Q1
      rcases rdr_node hnn with rfl | rfl
      · refine .inr ⟨⟨B,0,3,1⟩,T,#[v,a,b],Q0,rfl,Nat.le_refl _,one_max,hBc,by simp,fun i hi=>⟨?_,fun j hj=>?_⟩⟩
        · have:i=0:=by simpa using hi
          subst this;rfl
        · have:i=0:=by simpa using hi
          subst this
          match j,hj with
          | 0,_=>exact ⟨.inl ⟨rfl,hr.2⟩,hv1⟩
          | 1,_=>exact ⟨.inr ⟨rfl,.v _⟩,ha⟩
          | 2,_=>exact ⟨.inr ⟨rfl,.v _⟩,hb'⟩
          | j+3,hj =>
            have hj:j+3<3:=hj
            omega
      · exact hr.1
  · obtain ⟨rfl,rfl⟩:=hmem h1
    have hq:=(hk p k (rdr_node h2) h3).1
    cases hx:I k.b o with
    | none=>rfl
    | some x=>exact absurd (hI.lt hx) (by omega)
  · obtain ⟨rfl,rfl⟩:=hmem h1
    obtain ⟨rfl,rfl⟩:=hmem h4
    refine ⟨rfl,?_⟩
    rcases (hk p k (rdr_node h2) h3).2 with ⟨rfl,e1⟩ | ⟨rfl,e1⟩ <;> rcases (hk p' k' (rdr_node h5) h6).2 with ⟨rfl,e2⟩ | ⟨rfl,e2⟩
    · rfl
    · exact absurd (by rw [e2,← hbb,e1]) hvB
    · exact absurd (by rw [e1,hbb,e2]) hvB
    · rfl
  · have hi:i=args.length∧T=rdr vs a b:=hmem h1
    obtain ⟨rfl,rfl⟩:=hi
    subst h4
    exact .inr (hk p k (rdr_node h2) h3).1
theorem spec_two {P:Program} {f:FuncId} (hb:HasBody P f) (args:List AV) (hst:args.all (fun a=>!a.nodeB)=true) (x y:AV) (hx:∀ p,(x.at p).isNode=false) (hy:∀ p,(y.at p).isNode=false) (hxa:∀ fs,x≠.agg fs) (hya:∀ fs,y≠.agg fs)
    (hs:∀ I w (vals:Array Value),Held I w→vals.size=args.length→(∀ j (hj:j<args.length) (hk:j<vals.size),RepS I (args[j]) (vals[j])) →
      Calls P f vals w fun e w'=>∃ u v,e=.returned (.tuple #[u,v])∧RepS I x u∧RepS I y v∧RowKit.Below w.heap.size w w'):SpecAt P f args (.tup [x,y]):=by
  refine ⟨hb,by simp,fun j T hj=>by simp at hj,fun I π w vals hI hvs hsep htop=>?_⟩
  have hn:∀ p,((AV.tup [x,y]).at p).isNode=false:=fun p=>by
    match p with
    | []=>rfl
    | (i,j) :: p =>
      have e:(AV.tup [x,y]).at ((i,j) :: p)=AV.at (match i with | 0=>([x,y]:List AV).getD j .any | _+1=>.any) p:=by cases i <;> rfl
      rw [e]
      match i,j with
      | 0,0=>exact hx p
      | 0,1=>exact hy p
      | 0,j+2=>show ((AV.any).at p).isNode=false;rw [any_at];rfl
      | i+1,j=>show ((AV.any).at p).isNode=false;rw [any_at];rfl
  have hm:∀ {i T p},outMem args.length [] (.tup [x,y]) i=some T→(T.at p).isNode=true→False:=fun {i T p} h1 h2=>by
    unfold outMem at h1
    split at h1
    · cases h1;rw [hn p] at h2;cases h2
    · simp at h1
  refine (hs I w vals hI hvs fun j hj hk=>top_stat (htop j hj hk) (by
    have:=List.all_eq_true.1 hst _ (List.getElem_mem hj)
    simpa using this)).mono ?_
  rintro e w' ⟨u,v,rfl,hu,hv,hbel⟩
  have t1:∀ {z:AV} {q:Value} {r:Path},(∀ fs,z≠.agg fs)→(z.at []).isNode=false→RepS I z q→TopOk1 I (π args.length) r z q:=fun {z q r} hz hzn hzr=>by
    unfold TopOk1
    split
    · rename_i fs;exact absurd rfl (hz fs)
    · exact .inr ⟨hzn,hzr⟩
  refine ⟨I,π,_,rfl,hI.same fun b o x hx=>hbel.block b (hI.lt hx),⟨fun i T p h1=>?_,fun i T p k h1 h2 _=>(hm h1 h2).elim,fun i T p k i' T' p' k' h1 h2 _ _ _ _ _=>(hm h1 h2).elim⟩,⟨#[u,v],rfl,rfl,fun j hj hk=>?_⟩,fun j T hT=>by simp at hT,⟨hbel.os,hbel.tape,hbel.output,hbel.size,fun b h1 _=>hbel.block b h1⟩,fun _ _ _=>rfl,fun b ⟨i,T,p,k,h1,h2,_⟩=>(hm h1 h2).elim⟩
  · cases hnn:(T.at p).isNode with
    | false=>exact node_false hnn
    | true=>exact (hm h1 hnn).elim
  · match j,hj with
    | 0,_=>exact t1 hxa (hx []) hu
    | 1,_=>exact t1 hya (hy []) hv
    | j+2,hj =>
      have hj:j+2<2:=hj
      omega
end Ps
end Go.AM
namespace Go.Proofs
open Go.Shelf
def Tryz.fmtL_ren:Go.Shelf.Ren:=⟨fun | 173=>119 | 246=>142 | 283=>154 | 284=>155 | 285=>156 | 286=>157 | 129=>168 | 317=>167 | 318=>169 | 319=>170 | 320=>171 | 337=>183 | 338=>184 | n=>n,fun | 2=>2 | 3=>3 | 9=>9 | 4=>4 | 171=>170 | 0=>0 | 53=>171 | 37=>22 | 5=>5 | 173=>174 | 212=>183 | 51=>184 | 20=>20 | 213=>185 | 46=>162 | 232=>208 | 233=>209 | n=>n,fun | 17=>0 | 18=>6 | 19=>7 | n=>n⟩
theorem Tryz.fmtL:Go.Proofs.LaysM.n173 Tryz.prog Tryz.fmtL_ren:={
  mixed:=by kernel_rfl
  f129:=Tryz.func168.trans (congrArg some (by kernel_rfl))
  f173:=Tryz.func119.trans (congrArg some (by kernel_rfl))
  f246:=Tryz.func142.trans (congrArg some (by kernel_rfl))
  f283:=Tryz.func154.trans (congrArg some (by kernel_rfl))
  f284:=Tryz.func155.trans (congrArg some (by kernel_rfl))
  f285:=Tryz.func156.trans (congrArg some (by kernel_rfl))
  f286:=Tryz.func157.trans (congrArg some (by kernel_rfl))
  f317:=Tryz.func167.trans (congrArg some (by kernel_rfl))
  f318:=Tryz.func169.trans (congrArg some (by kernel_rfl))
  f319:=Tryz.func170.trans (congrArg some (by kernel_rfl))
  f320:=Tryz.func171.trans (congrArg some (by kernel_rfl))
  f337:=Tryz.func183.trans (congrArg some (by kernel_rfl))
  f338:=Tryz.func184.trans (congrArg some (by kernel_rfl))
  t0:=Tryz.underlying0
  a0:=Tryz.isAgg0
  z0:=Tryz.sizeOf0
  v0:=Tryz.zeroValue0
  t2:=Tryz.underlying2
  a2:=Tryz.isAgg2
  z2:=Tryz.sizeOf2
  v2:=Tryz.zeroValue2
  t3:=Tryz.underlying3
  a3:=Tryz.isAgg3
  z3:=Tryz.sizeOf3
  v3:=Tryz.zeroValue3
  t4:=Tryz.underlying4
  a4:=Tryz.isAgg4
  z4:=Tryz.sizeOf4
  v4:=Tryz.zeroValue4
  t5:=Tryz.underlying5
  a5:=Tryz.isAgg5
  z5:=Tryz.sizeOf5
  v5:=Tryz.zeroValue5
  t9:=Tryz.underlying9
  a9:=Tryz.isAgg9
  z9:=Tryz.sizeOf9
  v9:=Tryz.zeroValue9
  t20:=Tryz.underlying20
  a20:=Tryz.isAgg20
  z20:=Tryz.sizeOf20
  v20:=Tryz.zeroValue20
  t37:=Tryz.underlying22
  a37:=Tryz.isAgg22
  z37:=Tryz.sizeOf22
  v37:=Tryz.zeroValue22
  t46:=Tryz.underlying162
  a46:=Tryz.isAgg162
  z46:=Tryz.sizeOf162
  v46:=Tryz.zeroValue162
  t51:=Tryz.underlying184
  a51:=Tryz.isAgg184
  z51:=Tryz.sizeOf184
  v51:=Tryz.zeroValue184
  t53:=Tryz.underlying171
  a53:=Tryz.isAgg171
  z53:=Tryz.sizeOf171
  v53:=Tryz.zeroValue171
  t171:=Tryz.underlying170
  a171:=Tryz.isAgg170
  z171:=Tryz.sizeOf170
  v171:=Tryz.zeroValue170
  t173:=Tryz.underlying174
  a173:=Tryz.isAgg174
  z173:=Tryz.sizeOf174
  v173:=Tryz.zeroValue174
  t212:=Tryz.underlying183
  a212:=Tryz.isAgg183
  z212:=Tryz.sizeOf183
  v212:=Tryz.zeroValue183
  t213:=Tryz.underlying185
  a213:=Tryz.isAgg185
  z213:=Tryz.sizeOf185
  t232:=Tryz.underlying208
  a232:=Tryz.isAgg208
  z232:=Tryz.sizeOf208
  v232:=Tryz.zeroValue208
  t233:=Tryz.underlying209
  a233:=Tryz.isAgg209
  z233:=Tryz.sizeOf209
  v233:=Tryz.zeroValue209
  g17:=by kernel_rfl
  g18:=by kernel_rfl
  g19:=by kernel_rfl
  i0:=by kernel_rfl
  i2:=by kernel_rfl
  i3:=by kernel_rfl
  i4:=by kernel_rfl
  i5:=by kernel_rfl
  i9:=by kernel_rfl
  i20:=by kernel_rfl
  i37:=by kernel_rfl
  i46:=by kernel_rfl
  i51:=by kernel_rfl
  i53:=by kernel_rfl
  i171:=by kernel_rfl
  i173:=by kernel_rfl
  i212:=by kernel_rfl
  i232:=by kernel_rfl
  i233:=by kernel_rfl
  m17:=by kernel_rfl
  m18:=by kernel_rfl
  m19:=by kernel_rfl }
def Tryz.joinL_ren:Go.Shelf.Ren:=⟨fun | 156=>120 | 165=>143 | 166=>144 | 169=>145 | 240=>158 | 241=>159 | 276=>172 | 277=>173 | n=>n,fun | 31=>78 | 9=>9 | 3=>3 | 4=>4 | 0=>0 | 20=>20 | 72=>156 | 76=>160 | 70=>154 | 37=>22 | 75=>159 | 127=>176 | 164=>188 | 5=>5 | 80=>128 | n=>n,fun | n=>n⟩
def Tryz.indexL_ren:Go.Shelf.Ren:=⟨fun | 137=>131 | 217=>146 | 266=>160 | n=>n,fun | 9=>9 | 5=>5 | 3=>3 | n=>n,fun | n=>n⟩
theorem Tryz.indexL:Go.Proofs.Lays.n137 Tryz.prog Tryz.indexL_ren:={
  mixed:=by kernel_rfl
  f137:=Tryz.func131.trans (congrArg some (by kernel_rfl))
  f217:=Tryz.func146.trans (congrArg some (by kernel_rfl))
  f266:=Tryz.func160.trans (congrArg some (by kernel_rfl))
  t3:=Tryz.underlying3
  a3:=Tryz.isAgg3
  z3:=Tryz.sizeOf3
  v3:=Tryz.zeroValue3
  t5:=Tryz.underlying5
  a5:=Tryz.isAgg5
  z5:=Tryz.sizeOf5
  v5:=Tryz.zeroValue5
  t9:=Tryz.underlying9
  a9:=Tryz.isAgg9
  z9:=Tryz.sizeOf9
  v9:=Tryz.zeroValue9 }
def Tryz.splitL_ren:Go.Shelf.Ren:=⟨fun | 146=>106 | 221=>134 | 268=>149 | 138=>150 | 143=>151 | 195=>161 | 197=>162 | 218=>163 | 219=>164 | 260=>174 | 217=>146 | 225=>175 | 224=>176 | 267=>177 | 266=>160 | 314=>185 | n=>n,fun | 9=>9 | 31=>78 | 3=>3 | 4=>4 | 0=>0 | 105=>178 | 21=>21 | 5=>5 | 46=>162 | 119=>198 | 139=>201 | 138=>200 | 146=>202 | 51=>184 | n=>n,fun | 1=>1 | 3=>2 | 4=>3 | n=>n⟩
theorem Tryz.splitL:Go.Proofs.LaysM.n146 Tryz.prog Tryz.splitL_ren:={
  mixed:=by kernel_rfl
  f138:=Tryz.func150.trans (congrArg some (by kernel_rfl))
  f143:=Tryz.func151.trans (congrArg some (by kernel_rfl))
  f146:=Tryz.func106.trans (congrArg some (by kernel_rfl))
  f195:=Tryz.func161.trans (congrArg some (by kernel_rfl))
  f197:=Tryz.func162.trans (congrArg some (by kernel_rfl))
  f217:=Tryz.func146.trans (congrArg some (by kernel_rfl))
  f218:=Tryz.func163.trans (congrArg some (by kernel_rfl))
  f219:=Tryz.func164.trans (congrArg some (by kernel_rfl))
  f221:=Tryz.func134.trans (congrArg some (by kernel_rfl))
  f224:=Tryz.func176.trans (congrArg some (by kernel_rfl))
  f225:=Tryz.func175.trans (congrArg some (by kernel_rfl))
  f260:=Tryz.func174.trans (congrArg some (by kernel_rfl))
  f266:=Tryz.func160.trans (congrArg some (by kernel_rfl))
  f267:=Tryz.func177.trans (congrArg some (by kernel_rfl))
  f268:=Tryz.func149.trans (congrArg some (by kernel_rfl))
  f314:=Tryz.func185.trans (congrArg some (by kernel_rfl))
  t0:=Tryz.underlying0
  a0:=Tryz.isAgg0
  z0:=Tryz.sizeOf0
  v0:=Tryz.zeroValue0
  t3:=Tryz.underlying3
  a3:=Tryz.isAgg3
  z3:=Tryz.sizeOf3
  v3:=Tryz.zeroValue3
  t4:=Tryz.underlying4
  a4:=Tryz.isAgg4
  z4:=Tryz.sizeOf4
  v4:=Tryz.zeroValue4
  t5:=Tryz.underlying5
  a5:=Tryz.isAgg5
  z5:=Tryz.sizeOf5
  v5:=Tryz.zeroValue5
  t9:=Tryz.underlying9
  a9:=Tryz.isAgg9
  z9:=Tryz.sizeOf9
  v9:=Tryz.zeroValue9
  t21:=Tryz.underlying21
  a21:=Tryz.isAgg21
  z21:=Tryz.sizeOf21
  v21:=Tryz.zeroValue21
  t31:=Tryz.underlying78
  a31:=Tryz.isAgg78
  z31:=Tryz.sizeOf78
  v31:=Tryz.zeroValue78
  t46:=Tryz.underlying162
  a46:=Tryz.isAgg162
  z46:=Tryz.sizeOf162
  v46:=Tryz.zeroValue162
  t51:=Tryz.underlying184
  a51:=Tryz.isAgg184
  z51:=Tryz.sizeOf184
  v51:=Tryz.zeroValue184
  t105:=Tryz.underlying178
  a105:=Tryz.isAgg178
  z105:=Tryz.sizeOf178
  v105:=Tryz.zeroValue178
  t119:=Tryz.underlying198
  a119:=Tryz.isAgg198
  z119:=Tryz.sizeOf198
  t138:=Tryz.underlying200
  a138:=Tryz.isAgg200
  z138:=Tryz.sizeOf200
  v138:=Tryz.zeroValue200
  t139:=Tryz.underlying201
  a139:=Tryz.isAgg201
  z139:=Tryz.sizeOf201
  v139:=Tryz.zeroValue201
  t146:=Tryz.underlying202
  a146:=Tryz.isAgg202
  z146:=Tryz.sizeOf202
  v146:=Tryz.zeroValue202
  g1:=by kernel_rfl
  g3:=by kernel_rfl
  g4:=by kernel_rfl
  i0:=by kernel_rfl
  i3:=by kernel_rfl
  i4:=by kernel_rfl
  i5:=by kernel_rfl
  i9:=by kernel_rfl
  i21:=by kernel_rfl
  i31:=by kernel_rfl
  i46:=by kernel_rfl
  i51:=by kernel_rfl
  i105:=by kernel_rfl
  i138:=by kernel_rfl
  i139:=by kernel_rfl
  i146:=by kernel_rfl
  m1:=by kernel_rfl
  s1_3:=fun w h=>Go.Proofs.cell_of_shapedOpen_int (zero:=#[.int .i64 0]) (t:=3) h (of_decide_eq_true (by kernel_rfl)) (by kernel_rfl) rfl (by kernel_rfl) (by kernel_rfl) Tryz.underlying3
  m3:=by kernel_rfl
  m4:=by kernel_rfl }
def Tryz.parseL_ren:Go.Shelf.Ren:=⟨fun | 174=>152 | 247=>165 | 245=>166 | 287=>178 | 279=>179 | 280=>180 | 281=>181 | 282=>182 | 321=>186 | 322=>187 | 316=>188 | 171=>190 | 205=>189 | 243=>191 | 246=>142 | 283=>154 | 284=>155 | 285=>156 | 286=>157 | 129=>168 | 317=>167 | 318=>169 | 319=>170 | 320=>171 | 337=>183 | 338=>184 | n=>n,fun | 9=>9 | 3=>3 | 2=>2 | 75=>159 | 85=>166 | 4=>4 | 167=>191 | 5=>5 | 53=>171 | 175=>192 | 46=>162 | 168=>194 | 37=>22 | 0=>0 | 210=>206 | 21=>21 | 127=>176 | 145=>212 | 143=>210 | 171=>170 | 173=>174 | 212=>183 | 51=>184 | 20=>20 | 213=>185 | 232=>208 | 233=>209 | 80=>128 | n=>n,fun | 15=>4 | 16=>5 | 17=>0 | 18=>6 | 19=>7 | n=>n⟩
theorem Tryz.parseL:Go.Proofs.LaysC.n174 Tryz.prog Tryz.parseL_ren:={
  mixed:=by kernel_rfl
  f129:=Tryz.func168.trans (congrArg some (by kernel_rfl))
  f171:=Tryz.func190.trans (congrArg some (by kernel_rfl))
  f174:=Tryz.func152.trans (congrArg some (by kernel_rfl))
  f205:=Tryz.func189.trans (congrArg some (by kernel_rfl))
  f243:=Tryz.func191.trans (congrArg some (by kernel_rfl))
  f245:=Tryz.func166.trans (congrArg some (by kernel_rfl))
  f246:=Tryz.func142.trans (congrArg some (by kernel_rfl))
  f247:=Tryz.func165.trans (congrArg some (by kernel_rfl))
  f279:=Tryz.func179.trans (congrArg some (by kernel_rfl))
  f280:=Tryz.func180.trans (congrArg some (by kernel_rfl))
  f281:=Tryz.func181.trans (congrArg some (by kernel_rfl))
  f282:=Tryz.func182.trans (congrArg some (by kernel_rfl))
  f283:=Tryz.func154.trans (congrArg some (by kernel_rfl))
  f284:=Tryz.func155.trans (congrArg some (by kernel_rfl))
  f285:=Tryz.func156.trans (congrArg some (by kernel_rfl))
  f286:=Tryz.func157.trans (congrArg some (by kernel_rfl))
  f287:=Tryz.func178.trans (congrArg some (by kernel_rfl))
  f316:=Tryz.func188.trans (congrArg some (by kernel_rfl))
  f317:=Tryz.func167.trans (congrArg some (by kernel_rfl))
  f318:=Tryz.func169.trans (congrArg some (by kernel_rfl))
  f319:=Tryz.func170.trans (congrArg some (by kernel_rfl))
  f320:=Tryz.func171.trans (congrArg some (by kernel_rfl))
  f321:=Tryz.func186.trans (congrArg some (by kernel_rfl))
  f322:=Tryz.func187.trans (congrArg some (by kernel_rfl))
  f337:=Tryz.func183.trans (congrArg some (by kernel_rfl))
  f338:=Tryz.func184.trans (congrArg some (by kernel_rfl))
  t0:=Tryz.underlying0
  a0:=Tryz.isAgg0
  z0:=Tryz.sizeOf0
  v0:=Tryz.zeroValue0
  t2:=Tryz.underlying2
  a2:=Tryz.isAgg2
  z2:=Tryz.sizeOf2
  v2:=Tryz.zeroValue2
  t3:=Tryz.underlying3
  a3:=Tryz.isAgg3
  z3:=Tryz.sizeOf3
  v3:=Tryz.zeroValue3
  t4:=Tryz.underlying4
  a4:=Tryz.isAgg4
  z4:=Tryz.sizeOf4
  v4:=Tryz.zeroValue4
  t5:=Tryz.underlying5
  a5:=Tryz.isAgg5
  z5:=Tryz.sizeOf5
  v5:=Tryz.zeroValue5
  t9:=Tryz.underlying9
  a9:=Tryz.isAgg9
  z9:=Tryz.sizeOf9
  v9:=Tryz.zeroValue9
  t20:=Tryz.underlying20
  a20:=Tryz.isAgg20
  z20:=Tryz.sizeOf20
  v20:=Tryz.zeroValue20
  t21:=Tryz.underlying21
  a21:=Tryz.isAgg21
  z21:=Tryz.sizeOf21
  v21:=Tryz.zeroValue21
  t37:=Tryz.underlying22
  a37:=Tryz.isAgg22
  z37:=Tryz.sizeOf22
  v37:=Tryz.zeroValue22
  t46:=Tryz.underlying162
  a46:=Tryz.isAgg162
  z46:=Tryz.sizeOf162
  v46:=Tryz.zeroValue162
  t51:=Tryz.underlying184
  a51:=Tryz.isAgg184
  z51:=Tryz.sizeOf184
  v51:=Tryz.zeroValue184
  t53:=Tryz.underlying171
  a53:=Tryz.isAgg171
  z53:=Tryz.sizeOf171
  v53:=Tryz.zeroValue171
  t75:=Tryz.underlying159
  a75:=Tryz.isAgg159
  z75:=Tryz.sizeOf159
  v75:=Tryz.zeroValue159
  t85:=Tryz.underlying166
  a85:=Tryz.isAgg166
  z85:=Tryz.sizeOf166
  v85:=Tryz.zeroValue166
  t127:=Tryz.underlying176
  a127:=Tryz.isAgg176
  z127:=Tryz.sizeOf176
  v127:=Tryz.zeroValue176
  t143:=Tryz.underlying210
  a143:=Tryz.isAgg210
  z143:=Tryz.sizeOf210
  v143:=Tryz.zeroValue210
  t145:=Tryz.underlying212
  a145:=Tryz.isAgg212
  z145:=Tryz.sizeOf212
  v145:=Tryz.zeroValue212
  t167:=Tryz.underlying191
  a167:=Tryz.isAgg191
  z167:=Tryz.sizeOf191
  v167:=Tryz.zeroValue191
  t168:=Tryz.underlying194
  a168:=Tryz.isAgg194
  z168:=Tryz.sizeOf194
  v168:=Tryz.zeroValue194
  t171:=Tryz.underlying170
  a171:=Tryz.isAgg170
  z171:=Tryz.sizeOf170
  v171:=Tryz.zeroValue170
  t173:=Tryz.underlying174
  a173:=Tryz.isAgg174
  z173:=Tryz.sizeOf174
  v173:=Tryz.zeroValue174
  t175:=Tryz.underlying192
  a175:=Tryz.isAgg192
  z175:=Tryz.sizeOf192
  v175:=Tryz.zeroValue192
  t210:=Tryz.underlying206
  a210:=Tryz.isAgg206
  z210:=Tryz.sizeOf206
  v210:=Tryz.zeroValue206
  t212:=Tryz.underlying183
  a212:=Tryz.isAgg183
  z212:=Tryz.sizeOf183
  v212:=Tryz.zeroValue183
  t213:=Tryz.underlying185
  a213:=Tryz.isAgg185
  z213:=Tryz.sizeOf185
  t232:=Tryz.underlying208
  a232:=Tryz.isAgg208
  z232:=Tryz.sizeOf208
  v232:=Tryz.zeroValue208
  t233:=Tryz.underlying209
  a233:=Tryz.isAgg209
  z233:=Tryz.sizeOf209
  v233:=Tryz.zeroValue209
  g15:=by kernel_rfl
  g16:=by kernel_rfl
  g17:=by kernel_rfl
  g18:=by kernel_rfl
  g19:=by kernel_rfl
  t80:=Tryz.underlying128
  a80:=Tryz.isAgg128
  z80:=Tryz.sizeOf128
  v80:=Tryz.zeroValue128
  i0:=by kernel_rfl
  i2:=by kernel_rfl
  i3:=by kernel_rfl
  i4:=by kernel_rfl
  i5:=by kernel_rfl
  i9:=by kernel_rfl
  i20:=by kernel_rfl
  i21:=by kernel_rfl
  i37:=by kernel_rfl
  i46:=by kernel_rfl
  i51:=by kernel_rfl
  i53:=by kernel_rfl
  i75:=by kernel_rfl
  i80:=by kernel_rfl
  i85:=by kernel_rfl
  i127:=by kernel_rfl
  i143:=by kernel_rfl
  i145:=by kernel_rfl
  i167:=by kernel_rfl
  i168:=by kernel_rfl
  i171:=by kernel_rfl
  i173:=by kernel_rfl
  i175:=by kernel_rfl
  i210:=by kernel_rfl
  i212:=by kernel_rfl
  i232:=by kernel_rfl
  i233:=by kernel_rfl
  m15:=by kernel_rfl
  m16:=by kernel_rfl
  m17:=by kernel_rfl
  m18:=by kernel_rfl
  m19:=by kernel_rfl
  c0:=by kernel_rfl
  c2:=by kernel_rfl
  c3:=by kernel_rfl
  c4:=by kernel_rfl
  c5:=by kernel_rfl
  c9:=by kernel_rfl
  c20:=by kernel_rfl
  c21:=by kernel_rfl
  c37:=by kernel_rfl
  c46:=by kernel_rfl
  c51:=by kernel_rfl
  c53:=by kernel_rfl
  c75:=by kernel_rfl
  c80:=by kernel_rfl
  c85:=by kernel_rfl
  c127:=by kernel_rfl
  c143:=by kernel_rfl
  c145:=by kernel_rfl
  c167:=by kernel_rfl
  c168:=by kernel_rfl
  c171:=by kernel_rfl
  c173:=by kernel_rfl
  c175:=by kernel_rfl
  c210:=by kernel_rfl
  c212:=by kernel_rfl
  c213:=by kernel_rfl
  c232:=by kernel_rfl
  c233:=by kernel_rfl }
end Go.Proofs
set_option maxRecDepth 8000
namespace Go.AM
namespace Door
open Go.Proofs
def wtr (xs:List (List UInt8)):AV:=.tr 1 (xs.map AV.st)
theorem stset (xs:List (List UInt8)) (i:Nat) (x:List UInt8):(xs.map AV.st).set i (.st x)=(xs.set i x).map AV.st:=by rw [List.map_set]
theorem stfz (xs:List (List UInt8)):(xs.map AV.st).map AV.fz=xs.map AV.st:=map_fz _ _ _ fun _=>fz_v _
theorem pow10_row {I:Gh} {w:World} (h:Held I w):∃ t f,w.heap[powG]? = some (.cells (Lib.pow10Tab.map fun z=>Value.int .u64 z).toArray t f):=by
  obtain ⟨⟨⟨cs,t⟩,hc⟩,f,x,h1,_⟩:=h.base powG _ (List.mem_cons_self ..)
  obtain rfl:cs=_:=hc
  exact ⟨t,f,h1⟩
theorem fmtInt_gen (n:Int) (hn:intOk n):SpecAt Tryz.prog 119 [.i64 n,.i64 10] (AV.st (Lib.itoa n)) :=
  spec_static (f:=119) ⟨_,_,Tryz.func119,rfl,by decide⟩ [.int .i64 n,.int .i64 10] (.string ⟨(Lib.itoa n).toArray⟩) fun I w hI=>by
    obtain ⟨t,f,h1⟩:=pow10_row hI
    exact Any.strconv_FormatInt_10 Tryz.fmtL n hn.1 hn.2 w (tab_of (by kernel_rfl) h1)
theorem decimal_spec (n:Int) (hn:intOk n):SpecAt Tryz.prog 77 [.i64 n] (AV.st (Lib.itoa n)):=by
  refine spec_of_awp (M:=MM) (np:=1) (fz:=true) mixed Tryz.func77 rfl rfl (by decide) rfl (Nat.le_refl _) (by decide +kernel) (.inr ⟨rfl,rfl⟩) trivial ?_
  simp -dsimp -implicitDefEqProofs (disch:=first|omega|(simp only [lenr];try omega)) only [↓amPre,↓reduceIte,reduceCtorEq,Nat.reduceEqDiff,Nat.reduceBEq,Nat.reduceAdd,Nat.reduceLeDiff,Nat.reduceSub,Nat.reduceMul,Int.reduceToNat,MM,bu0,cbP9,cbQ2,Door.stset,Door.stfz]
  refine callP_of (fmtInt_gen n hn) ?_
  simp -dsimp -implicitDefEqProofs (disch:=first|omega|(simp only [lenr];try omega)) only [↓amPre,↓reduceIte,reduceCtorEq,Nat.reduceEqDiff,Nat.reduceBEq,Nat.reduceAdd,Nat.reduceLeDiff,Nat.reduceSub,Nat.reduceMul,Int.reduceToNat,MM,bu0,cbP9,cbQ2,Door.stset,Door.stfz]
end Door
def cbJ1:=(ai (ai (cbP9) (cbQ2)) (ai (@Door.stset) (@Door.stfz)))

end Go.AM
set_option maxRecDepth 8000
namespace Go.AM
namespace Ps
open Go.Proofs
open Go.Shelf
def sv (l:Tx):Value:=.string ⟨l.toArray⟩
theorem st_sv (xs:List Tx):xs.map AV.st=(xs.map sv).map AV.v:=by rw [List.map_map];rfl
theorem sv_one (xs:List Tx):∀ x∈xs.map sv,x.oneCell'=true:=fun x hx=>by
  obtain ⟨l,_,rfl⟩:=List.mem_map.1 hx
  rfl
theorem arg_st {I:Gh} {l:Tx} {v:Value} (h:RepS I (.st l) v):v=.string ⟨l.toArray⟩:=by
  have h:RepS I (.v (.string ⟨l.toArray⟩)) v:=h
  cases h;rfl
theorem arg_i {I:Gh} {n:Int} {v:Value} (h:RepS I (.i64 n) v):v=.int .i64 n:=by
  have h:RepS I (.v (.int .i64 n)) v:=h
  cases h;rfl
theorem numb_at {I:Gh} {w:World} (h:Held I w):∃ m,w.cell? ⟨1,0,none⟩=some (.int .i64 m):=by
  obtain ⟨⟨⟨cs,t⟩,m,hm⟩,f,x,h1,_⟩:=h.base 1 isNumb (by simp [baseRows])
  exact ⟨m,by simp [World.cell?,h1];exact hm⟩
theorem err_at {I:Gh} {w:World} (h:Held I w) (g:Nat) (hg:g=4∨g=5):∃ t x,w.cell? ⟨g,0,none⟩=some (.iface t x):=by
  obtain ⟨⟨⟨cs,t⟩,te,pe,hm⟩,f,x,h1,_⟩:=h.base g isErr (by rcases hg with rfl | rfl <;> simp [baseRows])
  exact ⟨te,pe,by simp [World.cell?,h1];exact hm⟩
theorem splitW (s:Tx) (c:UInt8) (hs:s.length≤1048576):SpecAt Tryz.prog 106 [.st s,.st [c]] (.tr 1 ((spl c s).map AV.st)):=by
  rw [st_sv]
  refine spec_vrow (f:=106) ⟨_,_,Tryz.func106,rfl,by decide⟩ _ rfl _ (sv_one _) 9 fun I w vals hI hvs hr=>?_
  obtain ⟨v0,v1,rfl⟩:∃ v0 v1,vals = #[v0,v1]:=by
    match vals,hvs with
    | ⟨[a,b]⟩,_=>exact ⟨a,b,rfl⟩
  obtain rfl:=arg_st (hr 0 (by simp) (by simp))
  obtain rfl:=arg_st (hr 1 (by simp) (by simp))
  obtain ⟨m,hm⟩:=numb_at hI
  refine (Any.strings_Split { Tryz.splitL with } Tryz.splitL.i9 ⟨s.toArray⟩ ⟨[c].toArray⟩ m w (by simp [ByteArray.size];omega) hm (by simp [ByteArray.size])).mono ?_
  rintro e w' ⟨rfl,rfl⟩
  have h1:((Lib.splitB ⟨[c].toArray⟩ 0 (Lib.countB ⟨s.toArray⟩ ⟨[c].toArray⟩) ⟨s.toArray⟩).map Value.string)=(spl c s).map sv:=by
    have h2:=Lib.splitB_data ⟨[c].toArray⟩ 0 (Lib.countB ⟨s.toArray⟩ ⟨[c].toArray⟩) ⟨s.toArray⟩
    have h3:Lib.countB ⟨s.toArray⟩ ⟨[c].toArray⟩=Lib.count s [c]:=rfl
    have h4:=split_one c s
    rw [h3] at h2 ⊢
    rw [show (ByteArray.mk s.toArray).data.toList=s by simp,show (ByteArray.mk [c].toArray).data.toList=[c] by simp,h4] at h2
    rw [← h2,List.map_map]
    refine List.map_congr_left fun b _=>?_
    show Value.string b=Value.string ⟨b.data.toList.toArray⟩
    simp
  have h5:Lib.countB ⟨s.toArray⟩ ⟨[c].toArray⟩+1=((spl c s).map sv).length:=by
    rw [← h1,List.length_map,Lib.splitB_all ⟨[c].toArray⟩ (by simp [ByteArray.size]) 0 _ _ rfl]
  have h6:=spl_len c s
  refine ⟨_,rfl,⟨by simp,.inr ⟨w.heap.size,_,_,by rw [h5],Nat.le_refl _,World.alloc_heap_new w _,Nat.le_of_eq h5.symm,?_,?_,?_⟩⟩,(RowKit.Below.refl _ w).alloc (Nat.le_refl _) _⟩
  · rw [h5,List.length_map];unfold maxLen;omega
  · rw [h1,h5];simp
  · rw [h1];simp only [Nat.mul_one,List.length_map];exact List.take_of_length_le (by rw [List.length_map];exact Nat.le_refl _)
def piR (s:Tx):Int×AV:=match Lib.parseIntB 64 s with | .ok v=>(v,.v .nilIface) | .range=>(Lib.intSat 64 s,.ifc) | _=>(0,.ifc)
theorem parseW (s:Tx) (hs:s.length≤1048576):SpecAt Tryz.prog 152 [.st s,.i64 10,.i64 64] (.tup [.i64 (piR s).1,(piR s).2]):=by
  have hat:∀ p,(((piR s).2).at p).isNode=false:=fun p=>by
    unfold piR
    split
    · exact vat _ p
    · cases p with
      | nil=>rfl
      | cons a p=>show ((AV.any).at p).isNode=false;rw [any_at];rfl
    · cases p with
      | nil=>rfl
      | cons a p=>show ((AV.any).at p).isNode=false;rw [any_at];rfl
  refine spec_two (f:=152) ⟨_,_,Tryz.func152,rfl,by decide⟩ _ rfl _ _ (vat _) hat (fun fs h=>by cases h) (fun fs h=>by unfold piR at h;split at h <;> cases h) fun I w vals hI hvs hr=>?_
  obtain ⟨v0,v1,v2,rfl⟩:∃ v0 v1 v2,vals = #[v0,v1,v2]:=by
    match vals,hvs with
    | ⟨[a,b,c]⟩,_=>exact ⟨a,b,c,rfl⟩
  obtain rfl:=arg_st (hr 0 (by simp) (by simp))
  obtain rfl:=arg_i (hr 1 (by simp) (by simp))
  obtain rfl:=arg_i (hr 2 (by simp) (by simp))
  have hsz:(⟨s.toArray⟩:ByteArray).size=s.length:=by simp [ByteArray.size]
  have hl:(⟨s.toArray⟩:ByteArray).data.toList=s:=by simp
  obtain ⟨t4,x4,h4⟩:=err_at hI 4 (.inl rfl)
  obtain ⟨t5,x5,h5⟩:=err_at hI 5 (.inr rfl)
  unfold piR
  split
  · rename_i v h
    refine (Any.strconv_ParseInt_10_at64_ok Tryz.parseL ⟨s.toArray⟩ (by omega) v (by rw [hl];exact h) w).mono ?_
    rintro e w' ⟨rfl,hw⟩
    refine ⟨_,_,rfl,.v _,.v _,?_⟩
    rcases hw with rfl | ⟨t,rfl⟩
    · exact RowKit.Below.refl _ _
    · exact Lib.bytesWorld_below _ _ _
  · rename_i h
    refine (Any.strconv_ParseInt_10_at64_range Tryz.parseL ⟨s.toArray⟩ (by omega) (by rw [hl];exact h) _ w h5 (.inr ⟨_,_,rfl⟩)).mono ?_
    rintro e w' ⟨N,rfl,_,_,hb⟩
    rw [hl]
    exact ⟨_,_,rfl,.v _,.ifc _ _,hb⟩
  · rename_i h1 h2
    have h:Lib.parseIntB 64 s=Lib.NumEnd.syntax:=by
      cases q:Lib.parseIntB 64 s with
      | ok v=>exact absurd q (h1 v)
      | range=>exact absurd q h2
      | _=>rfl
    refine (Any.strconv_ParseInt_10_at64_syntax Tryz.parseL ⟨s.toArray⟩ (by omega) (by rw [hl];exact h) _ w h4 (.inr ⟨_,_,rfl⟩)).mono ?_
    rintro e w' ⟨N,rfl,_,_,hb⟩
    exact ⟨_,_,rfl,.v _,.ifc _ _,hb⟩
end Ps
end Go.AM
set_option maxRecDepth 8000
namespace Go.AM
namespace Ps
open Go.Proofs
def MM:FuncId→List Bool:=fun f=>if f=71 then [true] else if f=58 then [true,false,false] else if f=69 then [true,false] else if f=59 then [true,false] else if f=57 then [true] else if f=48 then [true,false] else []
def lnA (l:Ln):AV:=.st (full l)
theorem lnfz (L:List Ln):(L.map lnA).map AV.fz=L.map lnA:=map_fz _ _ _ fun _=>fz_v _
theorem lnfzL (L:List Ln):AV.fzL (L.map lnA)=L.map lnA:=by rw [fzL_map,lnfz]
theorem lnpure (L:List Ln):AV.pureL (L.map lnA)=true:=pureL_map _ (fun _=>rfl) L
theorem stpure (L:List Tx):AV.pureL (L.map AV.st)=true:=pureL_map _ (fun _=>rfl) L
theorem lngm (L:List Ln) (i:Nat) (h:i<L.length):(L.map lnA).getD i .any=.st (full (lat L i)):=by
  simp [List.getD,h,lat];rfl
theorem stgm (L:List Tx) (i:Nat) (h:i<L.length):(L.map AV.st).getD i .any=.st (L.getD i []):=by
  simp [List.getD,h]
theorem stfz (xs:List Tx):(xs.map AV.st).map AV.fz=xs.map AV.st:=map_fz _ _ _ fun _=>fz_v _
theorem txeq {a b:Tx} (h:a=b):(a == b)=true:=by simp [h]
theorem txne {a b:Tx} (h:a≠b):(a == b)=false:=by simp [h]
theorem isnoc (l:List Int) (x:Int):l.map AV.i64++[AV.i64 x]=(l++[x]).map AV.i64:=by simp
def wsl (ws:List Tx):AV:=.sl 1 (ws.map AV.st)
def wtr (ws:List Tx):AV:=.tr 1 (ws.map AV.st)
def rdT (L:List Ln) (r:Rd):AV:=.pt 3 (.agg [.tr 1 (L.map lnA),.i64 r.a,.i64 r.t])
def rdV (L:List Ln) (r:Rd):AV:=.ep [.sl 1 (L.map lnA),.i64 r.a,.i64 r.t]
theorem hasSuf (l:Ln) (h:(10:UInt8)∉l.1) (hs:l.1.length≤1048576):SpecAt Tryz.prog 148 [.st (full l),.st [10]] (.bl l.2):=by
  obtain ⟨t,e⟩:=l
  replace h:(10:UInt8)∉t:=h
  replace hs:t.length≤1048576:=hs
  cases e with
  | true =>
    have e1:full (t,true)=t++[10]:=rfl
    have e2:(t++[(10:UInt8)]).length=t.length+1:=by simp
    rw [e1]
    refine spec_of_awp (M:=MM) (np:=2) (fz:=true) mixed Tryz.func148 rfl rfl (by decide) rfl (Nat.le_refl _) (by decide +kernel) (.inr ⟨rfl,rfl⟩) trivial ?_
    simp -dsimp -implicitDefEqProofs (disch:=first|omega|(simp only [lenr];try omega)) only [↓amPre,↓reduceIte,reduceCtorEq,Nat.reduceEqDiff,Nat.reduceBEq,Nat.reduceAdd,Nat.reduceLeDiff,Nat.reduceSub,Nat.reduceMul,Int.reduceToNat,MM,bu0,cbP9,Ps.lnfz,Ps.lnfzL,Ps.lnpure,Ps.stpure,Ps.lngm,Ps.stgm,Ps.stfz,Ps.rdT,Ps.rdV,Ps.wsl,Ps.wtr,e2]
    refine bl_eq ?_
    rw [show ((((t.length+1:Nat):Int) - ((1:Nat):Int)).toNat)=t.length by omega]
    simp
  | false =>
    have e1:full (t,false)=t:=rfl
    rw [e1]
    by_cases c0:t=[]
    · subst c0
      refine spec_of_awp (M:=MM) (np:=2) (fz:=true) mixed Tryz.func148 rfl rfl (by decide) rfl (Nat.le_refl _) (by decide +kernel) (.inr ⟨rfl,rfl⟩) trivial ?_
      simp -dsimp -implicitDefEqProofs (disch:=first|omega|(simp only [lenr];try omega)) only [↓amPre,↓reduceIte,reduceCtorEq,Nat.reduceEqDiff,Nat.reduceBEq,Nat.reduceAdd,Nat.reduceLeDiff,Nat.reduceSub,Nat.reduceMul,Int.reduceToNat,MM,bu0,cbP9,Ps.lnfz,Ps.lnfzL,Ps.lnpure,Ps.stpure,Ps.lngm,Ps.stgm,Ps.stfz,Ps.rdT,Ps.rdV,Ps.wsl,Ps.wtr,le_false (show ((0:Nat):Int)<((1:Nat):Int) by omega)]
    · have hp:0<t.length:=List.length_pos_iff.2 c0
      refine spec_of_awp (M:=MM) (np:=2) (fz:=true) mixed Tryz.func148 rfl rfl (by decide) rfl (Nat.le_refl _) (by decide +kernel) (.inr ⟨rfl,rfl⟩) trivial ?_
      simp -dsimp -implicitDefEqProofs (disch:=first|omega|(simp only [lenr];try omega)) only [↓amPre,↓reduceIte,reduceCtorEq,Nat.reduceEqDiff,Nat.reduceBEq,Nat.reduceAdd,Nat.reduceLeDiff,Nat.reduceSub,Nat.reduceMul,Int.reduceToNat,MM,bu0,cbP9,Ps.lnfz,Ps.lnfzL,Ps.lnpure,Ps.stpure,Ps.lngm,Ps.stgm,Ps.stfz,Ps.rdT,Ps.rdV,Ps.wsl,Ps.wtr,le_true (show ((1:Nat):Int)≤((t.length:Nat):Int) by omega)]
      refine bl_eq ?_
      simp only [Bool.false_eq_true,iff_false]
      intro q
      have q:=beq_iff_eq.1 q
      refine h (List.mem_of_mem_drop (i:=((t.length:Int) - ((1:Nat):Int)).toNat) ?_)
      rw [q];simp
theorem cutSuf1 (l:Ln) (h:(10:UInt8)∉l.1) (hs:l.1.length≤1048576):SpecAt Tryz.prog 133 [.st (full l),.st [10]] (.tup [.st l.1,.bl l.2]):=by
  have q:=hasSuf l h hs
  obtain ⟨t,e⟩:=l
  cases e with
  | true =>
    have e1:full (t,true)=t++[10]:=rfl
    have e2:(t++[(10:UInt8)]).length=t.length+1:=by simp
    have hs:t.length≤1048576:=hs
    rw [e1] at q ⊢
    refine spec_of_awp (M:=MM) (np:=2) (fz:=true) mixed Tryz.func133 rfl rfl (by decide) rfl (Nat.le_refl _) (by decide +kernel) (.inr ⟨rfl,rfl⟩) trivial ?_
    simp -dsimp -implicitDefEqProofs (disch:=first|omega|(simp only [lenr];try omega)) only [↓amPre,↓reduceIte,reduceCtorEq,Nat.reduceEqDiff,Nat.reduceBEq,Nat.reduceAdd,Nat.reduceLeDiff,Nat.reduceSub,Nat.reduceMul,Int.reduceToNat,MM,bu0,cbP9,Ps.lnfz,Ps.lnfzL,Ps.lnpure,Ps.stpure,Ps.lngm,Ps.stgm,Ps.stfz,Ps.rdT,Ps.rdV,Ps.wsl,Ps.wtr]
    refine callP_of (q) ?_
    simp -dsimp -implicitDefEqProofs (disch:=first|omega|(simp only [lenr];try omega)) only [↓amPre,↓reduceIte,reduceCtorEq,Nat.reduceEqDiff,Nat.reduceBEq,Nat.reduceAdd,Nat.reduceLeDiff,Nat.reduceSub,Nat.reduceMul,Int.reduceToNat,MM,bu0,cbP9,Ps.lnfz,Ps.lnfzL,Ps.lnpure,Ps.stpure,Ps.lngm,Ps.stgm,Ps.stfz,Ps.rdT,Ps.rdV,Ps.wsl,Ps.wtr,e2]
    rw [show ((((t.length+1:Nat):Int) - ((1:Nat):Int)).toNat)=t.length by omega]
    simp
  | false =>
    have e1:full (t,false)=t:=rfl
    rw [e1] at q ⊢
    refine spec_of_awp (M:=MM) (np:=2) (fz:=true) mixed Tryz.func133 rfl rfl (by decide) rfl (Nat.le_refl _) (by decide +kernel) (.inr ⟨rfl,rfl⟩) trivial ?_
    simp -dsimp -implicitDefEqProofs (disch:=first|omega|(simp only [lenr];try omega)) only [↓amPre,↓reduceIte,reduceCtorEq,Nat.reduceEqDiff,Nat.reduceBEq,Nat.reduceAdd,Nat.reduceLeDiff,Nat.reduceSub,Nat.reduceMul,Int.reduceToNat,MM,bu0,cbP9,Ps.lnfz,Ps.lnfzL,Ps.lnpure,Ps.stpure,Ps.lngm,Ps.stgm,Ps.stfz,Ps.rdT,Ps.rdV,Ps.wsl,Ps.wtr]
    refine callP_of (q) ?_
    simp -dsimp -implicitDefEqProofs (disch:=first|omega|(simp only [lenr];try omega)) only [↓amPre,↓reduceIte,reduceCtorEq,Nat.reduceEqDiff,Nat.reduceBEq,Nat.reduceAdd,Nat.reduceLeDiff,Nat.reduceSub,Nat.reduceMul,Int.reduceToNat,MM,bu0,cbP9,Ps.lnfz,Ps.lnfzL,Ps.lnpure,Ps.stpure,Ps.lngm,Ps.stgm,Ps.stfz,Ps.rdT,Ps.rdV,Ps.wsl,Ps.wtr]
theorem cutSuf (l:Ln) (h:(10:UInt8)∉l.1) (hs:l.1.length≤1048576):SpecAt Tryz.prog 105 [.st (full l),.st [10]] (.tup [.st l.1,.bl l.2]):=by
  refine spec_of_awp (M:=MM) (np:=2) (fz:=true) mixed Tryz.func105 rfl rfl (by decide) rfl (Nat.le_refl _) (by decide +kernel) (.inr ⟨rfl,rfl⟩) trivial ?_
  simp -dsimp -implicitDefEqProofs (disch:=first|omega|(simp only [lenr];try omega)) only [↓amPre,↓reduceIte,reduceCtorEq,Nat.reduceEqDiff,Nat.reduceBEq,Nat.reduceAdd,Nat.reduceLeDiff,Nat.reduceSub,Nat.reduceMul,Int.reduceToNat,MM,bu0,cbP9,Ps.lnfz,Ps.lnfzL,Ps.lnpure,Ps.stpure,Ps.lngm,Ps.stgm,Ps.stfz,Ps.rdT,Ps.rdV,Ps.wsl,Ps.wtr]
  refine callP_of (cutSuf1 l h hs) ?_
  simp -dsimp -implicitDefEqProofs (disch:=first|omega|(simp only [lenr];try omega)) only [↓amPre,↓reduceIte,reduceCtorEq,Nat.reduceEqDiff,Nat.reduceBEq,Nat.reduceAdd,Nat.reduceLeDiff,Nat.reduceSub,Nat.reduceMul,Int.reduceToNat,MM,bu0,cbP9,Ps.lnfz,Ps.lnfzL,Ps.lnpure,Ps.stpure,Ps.lngm,Ps.stgm,Ps.stfz,Ps.rdT,Ps.rdV,Ps.wsl,Ps.wtr]
theorem lenL (L:List Ln):SpecAt Tryz.prog 103 [.sl 1 (L.map lnA)] (.i64 L.length):=by
  refine spec_of_awp (M:=MM) (np:=1) (fz:=true) mixed Tryz.func103 rfl rfl (by decide) rfl (Nat.le_refl _) (by decide +kernel) (.inr ⟨rfl,rfl⟩) trivial ?_
  simp -dsimp -implicitDefEqProofs (disch:=first|omega|(simp only [lenr];try omega)) only [↓amPre,↓reduceIte,reduceCtorEq,Nat.reduceEqDiff,Nat.reduceBEq,Nat.reduceAdd,Nat.reduceLeDiff,Nat.reduceSub,Nat.reduceMul,Int.reduceToNat,MM,bu0,cbP9,Ps.lnfz,Ps.lnfzL,Ps.lnpure,Ps.stpure,Ps.lngm,Ps.stgm,Ps.stfz,Ps.rdT,Ps.rdV,Ps.wsl,Ps.wtr]
theorem lenW (L:List Tx):SpecAt Tryz.prog 103 [wsl L] (.i64 L.length):=by
  refine spec_of_awp (M:=MM) (np:=1) (fz:=true) mixed Tryz.func103 rfl rfl (by decide) rfl (Nat.le_refl _) (by decide +kernel) (.inr ⟨rfl,rfl⟩) trivial ?_
  simp -dsimp -implicitDefEqProofs (disch:=first|omega|(simp only [lenr];try omega)) only [↓amPre,↓reduceIte,reduceCtorEq,Nat.reduceEqDiff,Nat.reduceBEq,Nat.reduceAdd,Nat.reduceLeDiff,Nat.reduceSub,Nat.reduceMul,Int.reduceToNat,MM,bu0,cbP9,Ps.lnfz,Ps.lnfzL,Ps.lnpure,Ps.stpure,Ps.lngm,Ps.stgm,Ps.stfz,Ps.rdT,Ps.rdV,Ps.wsl,Ps.wtr,wsl]
def moreS (L:List Ln) (r:Rd):Bool:=decide (r.t = -1∧r.a<L.length)
theorem moreI (L:List Ln) (r:Rd) (hl:L.length≤1048576):SpecAt Tryz.prog 49 [rdV L r] (.bl (moreS L r)):=by
  refine spec_of_awp (M:=MM) (np:=1) (fz:=true) mixed Tryz.func49 rfl rfl (by decide) rfl (Nat.le_refl _) (by decide +kernel) (.inr ⟨rfl,rfl⟩) trivial ?_
  by_cases c:r.t = -1
  · simp -dsimp -implicitDefEqProofs (disch:=first|omega|(simp only [lenr];try omega)) only [↓amPre,↓reduceIte,reduceCtorEq,Nat.reduceEqDiff,Nat.reduceBEq,Nat.reduceAdd,Nat.reduceLeDiff,Nat.reduceSub,Nat.reduceMul,Int.reduceToNat,MM,bu0,cbP9,Ps.lnfz,Ps.lnfzL,Ps.lnpure,Ps.stpure,Ps.lngm,Ps.stgm,Ps.stfz,Ps.rdT,Ps.rdV,Ps.wsl,Ps.wtr,rdV,eq_true c]
    refine callP_of (lenL L) ?_
    simp -dsimp -implicitDefEqProofs (disch:=first|omega|(simp only [lenr];try omega)) only [↓amPre,↓reduceIte,reduceCtorEq,Nat.reduceEqDiff,Nat.reduceBEq,Nat.reduceAdd,Nat.reduceLeDiff,Nat.reduceSub,Nat.reduceMul,Int.reduceToNat,MM,bu0,cbP9,Ps.lnfz,Ps.lnfzL,Ps.lnpure,Ps.stpure,Ps.lngm,Ps.stgm,Ps.stfz,Ps.rdT,Ps.rdV,Ps.wsl,Ps.wtr,rdV,eq_true c]
    refine bl_eq ?_
    simp only [decide_eq_true_eq,moreS,c,true_and]
    omega
  · simp -dsimp -implicitDefEqProofs (disch:=first|omega|(simp only [lenr];try omega)) only [↓amPre,↓reduceIte,reduceCtorEq,Nat.reduceEqDiff,Nat.reduceBEq,Nat.reduceAdd,Nat.reduceLeDiff,Nat.reduceSub,Nat.reduceMul,Int.reduceToNat,MM,bu0,cbP9,Ps.lnfz,Ps.lnfzL,Ps.lnpure,Ps.stpure,Ps.lngm,Ps.stgm,Ps.stfz,Ps.rdT,Ps.rdV,Ps.wsl,Ps.wtr,rdV,eq_false c]
    refine bl_eq ?_
    simp [moreS,c]
theorem rejI (L:List Ln) (r:Rd) (hl:r.a≤1048576):SpecX Tryz.prog 71 [rdT L r] [some (rdT L (rej r))] (.tup []):=by
  have hw:IntKind.i64.wrap ((r.a:Int) - 1)=(r.a:Int) - 1:=wrap64_id (by omega)
  by_cases c:r.t = -1
  · refine spec_of_awp (M:=MM) (np:=1) (fz:=false) mixed Tryz.func71 rfl rfl (by decide) rfl (Nat.le_refl _) (by decide +kernel) (.inl rfl) (by first | trivial | simp only [sigsOk_nil,sigsOk_some,sigsOk_none,sig_tr,sig_pt,sig_mt,sig_agg,List.map_cons,List.map_nil,sig1_tr,sig1_pt,sig1_v,and_self,true_and,List.length_map,List.length_set]) ?_
    simp -dsimp -implicitDefEqProofs (disch:=first|omega|(simp only [lenr];try omega)) only [↓amPre,↓reduceIte,reduceCtorEq,Nat.reduceEqDiff,Nat.reduceBEq,Nat.reduceAdd,Nat.reduceLeDiff,Nat.reduceSub,Nat.reduceMul,Int.reduceToNat,MM,bu0,cbP9,Ps.lnfz,Ps.lnfzL,Ps.lnpure,Ps.stpure,Ps.lngm,Ps.stgm,Ps.stfz,Ps.rdT,Ps.rdV,Ps.wsl,Ps.wtr,rdT,eq_true c,hw,rej,c]
  · rw [rej_bad c]
    refine spec_of_awp (M:=MM) (np:=1) (fz:=false) mixed Tryz.func71 rfl rfl (by decide) rfl (Nat.le_refl _) (by decide +kernel) (.inl rfl) (by first | trivial | simp only [sigsOk_nil,sigsOk_some,sigsOk_none,sig_tr,sig_pt,sig_mt,sig_agg,List.map_cons,List.map_nil,sig1_tr,sig1_pt,sig1_v,and_self,true_and,List.length_map,List.length_set]) ?_
    simp -dsimp -implicitDefEqProofs (disch:=first|omega|(simp only [lenr];try omega)) only [↓amPre,↓reduceIte,reduceCtorEq,Nat.reduceEqDiff,Nat.reduceBEq,Nat.reduceAdd,Nat.reduceLeDiff,Nat.reduceSub,Nat.reduceMul,Int.reduceToNat,MM,bu0,cbP9,Ps.lnfz,Ps.lnfzL,Ps.lnpure,Ps.stpure,Ps.lngm,Ps.stgm,Ps.stfz,Ps.rdT,Ps.rdV,Ps.wsl,Ps.wtr,rdT,eq_false c]
theorem finI (L:List Ln) (r:Rd) (b:Bool):SpecAt Tryz.prog 50 [rdV L r,.bl b] (.i64 (if r.t = -1∧b=false then -4 else r.t)):=by
  refine spec_of_awp (M:=MM) (np:=2) (fz:=true) mixed Tryz.func50 rfl rfl (by decide) rfl (Nat.le_refl _) (by decide +kernel) (.inr ⟨rfl,rfl⟩) trivial ?_
  by_cases c:r.t = -1
  · cases b with
    | true=>simp -dsimp -implicitDefEqProofs (disch:=first|omega|(simp only [lenr];try omega)) only [↓amPre,↓reduceIte,reduceCtorEq,Nat.reduceEqDiff,Nat.reduceBEq,Nat.reduceAdd,Nat.reduceLeDiff,Nat.reduceSub,Nat.reduceMul,Int.reduceToNat,MM,bu0,cbP9,Ps.lnfz,Ps.lnfzL,Ps.lnpure,Ps.stpure,Ps.lngm,Ps.stgm,Ps.stfz,Ps.rdT,Ps.rdV,Ps.wsl,Ps.wtr,rdV,eq_true c,c]
    | false=>simp -dsimp -implicitDefEqProofs (disch:=first|omega|(simp only [lenr];try omega)) only [↓amPre,↓reduceIte,reduceCtorEq,Nat.reduceEqDiff,Nat.reduceBEq,Nat.reduceAdd,Nat.reduceLeDiff,Nat.reduceSub,Nat.reduceMul,Int.reduceToNat,MM,bu0,cbP9,Ps.lnfz,Ps.lnfzL,Ps.lnpure,Ps.stpure,Ps.lngm,Ps.stgm,Ps.stfz,Ps.rdT,Ps.rdV,Ps.wsl,Ps.wtr,rdV,eq_true c,c]
  · simp -dsimp -implicitDefEqProofs (disch:=first|omega|(simp only [lenr];try omega)) only [↓amPre,↓reduceIte,reduceCtorEq,Nat.reduceEqDiff,Nat.reduceBEq,Nat.reduceAdd,Nat.reduceLeDiff,Nat.reduceSub,Nat.reduceMul,Int.reduceToNat,MM,bu0,cbP9,Ps.lnfz,Ps.lnfzL,Ps.lnpure,Ps.stpure,Ps.lngm,Ps.stgm,Ps.stfz,Ps.rdT,Ps.rdV,Ps.wsl,Ps.wtr,rdV,eq_false c,c]
theorem nums1 (x:Int):SpecAt Tryz.prog 114 [.i64 x] (.bl (!within x 0 999)):=by
  refine spec_of_awp (M:=MM) (np:=1) (fz:=true) mixed Tryz.func114 rfl rfl (by decide) rfl (Nat.le_refl _) (by decide +kernel) (.inr ⟨rfl,rfl⟩) trivial ?_
  simp -dsimp -implicitDefEqProofs (disch:=first|omega|(simp only [lenr];try omega)) only [↓amPre,↓reduceIte,reduceCtorEq,Nat.reduceEqDiff,Nat.reduceBEq,Nat.reduceAdd,Nat.reduceLeDiff,Nat.reduceSub,Nat.reduceMul,Int.reduceToNat,MM,bu0,cbP9,Ps.lnfz,Ps.lnfzL,Ps.lnpure,Ps.stpure,Ps.lngm,Ps.stgm,Ps.stfz,Ps.rdT,Ps.rdV,Ps.wsl,Ps.wtr]
  refine callP_of (iwithin _ _ _) ?_
  simp -dsimp -implicitDefEqProofs (disch:=first|omega|(simp only [lenr];try omega)) only [↓amPre,↓reduceIte,reduceCtorEq,Nat.reduceEqDiff,Nat.reduceBEq,Nat.reduceAdd,Nat.reduceLeDiff,Nat.reduceSub,Nat.reduceMul,Int.reduceToNat,MM,bu0,cbP9,Ps.lnfz,Ps.lnfzL,Ps.lnpure,Ps.stpure,Ps.lngm,Ps.stgm,Ps.stfz,Ps.rdT,Ps.rdV,Ps.wsl,Ps.wtr]
end Ps
def cbJ7:=(ai (ai (ai (cbP9) (ai (@Ps.lnfz) (@Ps.lnfzL))) (ai (@Ps.lnpure) (ai (@Ps.stpure) (@Ps.lngm)))) (ai (ai (@Ps.stgm) (ai (@Ps.stfz) (@Ps.rdT.eq_1))) (ai (@Ps.rdV.eq_1) (ai (@Ps.wsl.eq_1) (@Ps.wtr.eq_1)))))

end Go.AM
set_option maxRecDepth 8000
namespace Go.AM
namespace Ps
open Go.Proofs
def okL (L:List Ln):Prop:=L.length≤1048576∧∀ l∈L,(10:UInt8)∉l.1∧l.1.length≤1048576
theorem okL_at {L:List Ln} (h:okL L) {a:Nat} (ha:a<L.length):(10:UInt8)∉(lat L a).1∧(lat L a).1.length≤1048576:=h.2 _ (by
  unfold lat;rw [getD_eq _ _ _ ha];exact List.getElem_mem ha)
theorem rep_st (c:Nat):List.replicate c (AV.v (Value.string { data:=#[] }))=(List.replicate c ([]:Tx)).map AV.st:=by rw [List.map_replicate]
theorem wordsI (L:List Ln) (f:Tx) (c:Nat) (r:Rd) (hL:okL L) (ha:r.a≤L.length) (hc:c≤1048576):SpecX Tryz.prog 58 [rdT L r,.st f,.i64 c] [some (rdT L (wordsS L f c r).1)] (wtr (wordsS L f c r).2):=by
  have hl:=hL.1
  by_cases c1:r.t = -1
  case neg =>
    have hm:=moreI L r hl
    rw [wordsS_bad c1]
    have hmf:moreS L r=false:=by simp [moreS,c1]
    rw [hmf] at hm
    refine spec_of_awp_any (M:=MM) (np:=3) (X:=[5]) (fz:=false) mixed Tryz.func58 rfl rfl (by decide) rfl (Nat.le_refl _) (by decide +kernel) (.inl rfl) (by first | trivial | simp only [sigsOk_nil,sigsOk_some,sigsOk_none,sig_tr,sig_pt,sig_mt,sig_agg,List.map_cons,List.map_nil,sig1_tr,sig1_pt,sig1_v,and_self,true_and,List.length_map,List.length_set]) ?_
    simp -dsimp -implicitDefEqProofs (disch:=first|omega|(simp only [lenr];try omega)) only [↓amPre,↓reduceIte,reduceCtorEq,Nat.reduceEqDiff,Nat.reduceBEq,Nat.reduceAdd,Nat.reduceLeDiff,Nat.reduceSub,Nat.reduceMul,Int.reduceToNat,MM,bu0,cbJ1,cbJ7,eq_false c1]
    refine callP_of (hm) ?_
    simp -dsimp -implicitDefEqProofs (disch:=first|omega|(simp only [lenr];try omega)) only [↓amPre,↓reduceIte,reduceCtorEq,Nat.reduceEqDiff,Nat.reduceBEq,Nat.reduceAdd,Nat.reduceLeDiff,Nat.reduceSub,Nat.reduceMul,Int.reduceToNat,MM,bu0,cbJ1,cbJ7]
    exact rep_st c
  obtain ⟨a,t⟩:=r
  replace c1:t = -1:=c1
  replace ha:a≤L.length:=ha
  subst c1
  by_cases c2:L.length≤a
  · have hae:a=L.length:=by omega
    subst hae
    have hm:=moreI L ⟨L.length,-3⟩ hl
    have hmf:moreS L ⟨L.length,-3⟩=false:=by simp [moreS]
    rw [hmf] at hm
    have hw:wordsS L f c ⟨L.length,-1⟩=(⟨L.length,-3⟩,List.replicate c []):=by
      unfold wordsS
      rw [if_pos rfl,if_pos (Nat.le_refl _)]
    rw [hw]
    refine spec_of_awp_any (M:=MM) (np:=3) (X:=[5]) (fz:=false) mixed Tryz.func58 rfl rfl (by decide) rfl (Nat.le_refl _) (by decide +kernel) (.inl rfl) (by first | trivial | simp only [sigsOk_nil,sigsOk_some,sigsOk_none,sig_tr,sig_pt,sig_mt,sig_agg,List.map_cons,List.map_nil,sig1_tr,sig1_pt,sig1_v,and_self,true_and,List.length_map,List.length_set]) ?_
    simp -dsimp -implicitDefEqProofs (disch:=first|omega|(simp only [lenr];try omega)) only [↓amPre,↓reduceIte,reduceCtorEq,Nat.reduceEqDiff,Nat.reduceBEq,Nat.reduceAdd,Nat.reduceLeDiff,Nat.reduceSub,Nat.reduceMul,Int.reduceToNat,MM,bu0,cbJ1,cbJ7,eq_true (rfl:(-1:Int) = -1)]
    refine callP_of (lenL L) ?_
    simp -dsimp -implicitDefEqProofs (disch:=first|omega|(simp only [lenr];try omega)) only [↓amPre,↓reduceIte,reduceCtorEq,Nat.reduceEqDiff,Nat.reduceBEq,Nat.reduceAdd,Nat.reduceLeDiff,Nat.reduceSub,Nat.reduceMul,Int.reduceToNat,MM,bu0,cbJ1,cbJ7,eq_true (rfl:((L.length:Nat):Int)=L.length)]
    refine callP_of (hm) ?_
    simp -dsimp -implicitDefEqProofs (disch:=first|omega|(simp only [lenr];try omega)) only [↓amPre,↓reduceIte,reduceCtorEq,Nat.reduceEqDiff,Nat.reduceBEq,Nat.reduceAdd,Nat.reduceLeDiff,Nat.reduceSub,Nat.reduceMul,Int.reduceToNat,MM,bu0,cbJ1,cbJ7]
    exact rep_st c
  have hlt:a<L.length:=by omega
  have hne:(a:Int)≠L.length:=by omega
  have hm:=moreI L ⟨a,-1⟩ hl
  have hmt:moreS L ⟨a,-1⟩=true:=by simp [moreS,hlt]
  rw [hmt] at hm
  obtain ⟨hn,hs⟩:=okL_at hL hlt
  obtain ⟨l,hle⟩:∃ l,l=lat L a:=⟨_,rfl⟩
  have hcut:=cutSuf (lat L a) hn hs
  have hsp:=splitW (lat L a).1 32 hs
  have hpos:0<(spl 32 (lat L a).1).length:=List.length_pos_iff.2 (spl_ne _ _)
  have hslen:=spl_len 32 (lat L a).1
  have hr:=rejI L ⟨a+1,-1⟩ (by show a+1≤_;omega)
  have hrj:rej ⟨a+1,-1⟩=⟨a+1,a⟩:=by
    unfold rej;rw [if_pos rfl]
    show (⟨a+1,((a+1:Nat):Int) - 1⟩:Rd)=_
    congr 1;omega
  rw [hrj] at hr
  have hca:((a:Int)+1)=((a+1:Nat):Int):=by omega
  have hbad:lineW (lat L a) f c=none→wordsS L f c ⟨a,-1⟩=(⟨a+1,a⟩,List.replicate c []):=fun q=>by
    unfold wordsS
    rw [if_pos rfl,if_neg c2]
    dsimp only
    rw [q]
  rw [← hle] at hcut hsp hpos hslen hbad hs
  by_cases d1:l.2=true
  case neg =>
    have d1':l.2=false:=by simpa using d1
    rw [d1'] at hcut
    rw [hbad (if_neg (fun q=>d1 q.1))]
    refine spec_of_awp_any (M:=MM) (np:=3) (X:=[5]) (fz:=false) mixed Tryz.func58 rfl rfl (by decide) rfl (Nat.le_refl _) (by decide +kernel) (.inl rfl) (by first | trivial | simp only [sigsOk_nil,sigsOk_some,sigsOk_none,sig_tr,sig_pt,sig_mt,sig_agg,List.map_cons,List.map_nil,sig1_tr,sig1_pt,sig1_v,and_self,true_and,List.length_map,List.length_set]) ?_
    simp -dsimp -implicitDefEqProofs (disch:=first|omega|(simp only [lenr];try omega)) only [↓amPre,↓reduceIte,reduceCtorEq,Nat.reduceEqDiff,Nat.reduceBEq,Nat.reduceAdd,Nat.reduceLeDiff,Nat.reduceSub,Nat.reduceMul,Int.reduceToNat,MM,bu0,cbJ1,cbJ7,eq_true (rfl:(-1:Int) = -1)]
    refine callP_of (lenL L) ?_
    simp -dsimp -implicitDefEqProofs (disch:=first|omega|(simp only [lenr];try omega)) only [↓amPre,↓reduceIte,reduceCtorEq,Nat.reduceEqDiff,Nat.reduceBEq,Nat.reduceAdd,Nat.reduceLeDiff,Nat.reduceSub,Nat.reduceMul,Int.reduceToNat,MM,bu0,cbJ1,cbJ7,eq_false hne]
    refine callP_of (hm) ?_
    simp -dsimp -implicitDefEqProofs (disch:=first|omega|(simp only [lenr];try omega)) only [↓amPre,↓reduceIte,reduceCtorEq,Nat.reduceEqDiff,Nat.reduceBEq,Nat.reduceAdd,Nat.reduceLeDiff,Nat.reduceSub,Nat.reduceMul,Int.reduceToNat,MM,bu0,cbJ1,cbJ7]
    refine split_go 15 (by decide +kernel) ?_
    simp -dsimp -implicitDefEqProofs (disch:=first|omega|(simp only [lenr];try omega)) only [↓amPre,↓reduceIte,reduceCtorEq,Nat.reduceEqDiff,Nat.reduceBEq,Nat.reduceAdd,Nat.reduceLeDiff,Nat.reduceSub,Nat.reduceMul,Int.reduceToNat,MM,bu0,cbJ1,cbJ7,← hle]
    refine callP_of (hcut) ?_
    simp -dsimp -implicitDefEqProofs (disch:=first|omega|(simp only [lenr];try omega)) only [↓amPre,↓reduceIte,reduceCtorEq,Nat.reduceEqDiff,Nat.reduceBEq,Nat.reduceAdd,Nat.reduceLeDiff,Nat.reduceSub,Nat.reduceMul,Int.reduceToNat,MM,bu0,cbJ1,cbJ7,hca]
    refine callP_of (hsp) ?_
    simp -dsimp -implicitDefEqProofs (disch:=first|omega|(simp only [lenr];try omega)) only [↓amPre,↓reduceIte,reduceCtorEq,Nat.reduceEqDiff,Nat.reduceBEq,Nat.reduceAdd,Nat.reduceLeDiff,Nat.reduceSub,Nat.reduceMul,Int.reduceToNat,MM,bu0,cbJ1,cbJ7]
    refine callX_of (hr) ?_
    simp -dsimp -implicitDefEqProofs (disch:=first|omega|(simp only [lenr];try omega)) only [↓amPre,↓reduceIte,reduceCtorEq,Nat.reduceEqDiff,Nat.reduceBEq,Nat.reduceAdd,Nat.reduceLeDiff,Nat.reduceSub,Nat.reduceMul,Int.reduceToNat,MM,bu0,cbJ1,cbJ7]
    exact rep_st c
  by_cases d2:(spl 32 l.1).getD 0 []=f
  case neg =>
    rw [hbad (if_neg (fun q=>d2 q.2.1))]
    rw [d1] at hcut
    refine spec_of_awp_any (M:=MM) (np:=3) (X:=[5]) (fz:=false) mixed Tryz.func58 rfl rfl (by decide) rfl (Nat.le_refl _) (by decide +kernel) (.inl rfl) (by first | trivial | simp only [sigsOk_nil,sigsOk_some,sigsOk_none,sig_tr,sig_pt,sig_mt,sig_agg,List.map_cons,List.map_nil,sig1_tr,sig1_pt,sig1_v,and_self,true_and,List.length_map,List.length_set]) ?_
    simp -dsimp -implicitDefEqProofs (disch:=first|omega|(simp only [lenr];try omega)) only [↓amPre,↓reduceIte,reduceCtorEq,Nat.reduceEqDiff,Nat.reduceBEq,Nat.reduceAdd,Nat.reduceLeDiff,Nat.reduceSub,Nat.reduceMul,Int.reduceToNat,MM,bu0,cbJ1,cbJ7,eq_true (rfl:(-1:Int) = -1)]
    refine callP_of (lenL L) ?_
    simp -dsimp -implicitDefEqProofs (disch:=first|omega|(simp only [lenr];try omega)) only [↓amPre,↓reduceIte,reduceCtorEq,Nat.reduceEqDiff,Nat.reduceBEq,Nat.reduceAdd,Nat.reduceLeDiff,Nat.reduceSub,Nat.reduceMul,Int.reduceToNat,MM,bu0,cbJ1,cbJ7,eq_false hne]
    refine callP_of (hm) ?_
    simp -dsimp -implicitDefEqProofs (disch:=first|omega|(simp only [lenr];try omega)) only [↓amPre,↓reduceIte,reduceCtorEq,Nat.reduceEqDiff,Nat.reduceBEq,Nat.reduceAdd,Nat.reduceLeDiff,Nat.reduceSub,Nat.reduceMul,Int.reduceToNat,MM,bu0,cbJ1,cbJ7]
    refine split_go 15 (by decide +kernel) ?_
    simp -dsimp -implicitDefEqProofs (disch:=first|omega|(simp only [lenr];try omega)) only [↓amPre,↓reduceIte,reduceCtorEq,Nat.reduceEqDiff,Nat.reduceBEq,Nat.reduceAdd,Nat.reduceLeDiff,Nat.reduceSub,Nat.reduceMul,Int.reduceToNat,MM,bu0,cbJ1,cbJ7,← hle]
    refine callP_of (hcut) ?_
    simp -dsimp -implicitDefEqProofs (disch:=first|omega|(simp only [lenr];try omega)) only [↓amPre,↓reduceIte,reduceCtorEq,Nat.reduceEqDiff,Nat.reduceBEq,Nat.reduceAdd,Nat.reduceLeDiff,Nat.reduceSub,Nat.reduceMul,Int.reduceToNat,MM,bu0,cbJ1,cbJ7,hca]
    refine callP_of (hsp) ?_
    simp -dsimp -implicitDefEqProofs (disch:=first|omega|(simp only [lenr];try omega)) only [↓amPre,↓reduceIte,reduceCtorEq,Nat.reduceEqDiff,Nat.reduceBEq,Nat.reduceAdd,Nat.reduceLeDiff,Nat.reduceSub,Nat.reduceMul,Int.reduceToNat,MM,bu0,cbJ1,cbJ7,txne d2]
    refine callX_of (hr) ?_
    simp -dsimp -implicitDefEqProofs (disch:=first|omega|(simp only [lenr];try omega)) only [↓amPre,↓reduceIte,reduceCtorEq,Nat.reduceEqDiff,Nat.reduceBEq,Nat.reduceAdd,Nat.reduceLeDiff,Nat.reduceSub,Nat.reduceMul,Int.reduceToNat,MM,bu0,cbJ1,cbJ7]
    exact rep_st c
  by_cases d3:(spl 32 l.1).length=c+1
  case neg =>
    have d3':(((spl 32 l.1).length:Nat):Int)≠(c:Int)+1:=by omega
    rw [hbad (if_neg (fun q=>d3 q.2.2))]
    rw [d1] at hcut
    refine spec_of_awp_any (M:=MM) (np:=3) (X:=[5]) (fz:=false) mixed Tryz.func58 rfl rfl (by decide) rfl (Nat.le_refl _) (by decide +kernel) (.inl rfl) (by first | trivial | simp only [sigsOk_nil,sigsOk_some,sigsOk_none,sig_tr,sig_pt,sig_mt,sig_agg,List.map_cons,List.map_nil,sig1_tr,sig1_pt,sig1_v,and_self,true_and,List.length_map,List.length_set]) ?_
    simp -dsimp -implicitDefEqProofs (disch:=first|omega|(simp only [lenr];try omega)) only [↓amPre,↓reduceIte,reduceCtorEq,Nat.reduceEqDiff,Nat.reduceBEq,Nat.reduceAdd,Nat.reduceLeDiff,Nat.reduceSub,Nat.reduceMul,Int.reduceToNat,MM,bu0,cbJ1,cbJ7,eq_true (rfl:(-1:Int) = -1)]
    refine callP_of (lenL L) ?_
    simp -dsimp -implicitDefEqProofs (disch:=first|omega|(simp only [lenr];try omega)) only [↓amPre,↓reduceIte,reduceCtorEq,Nat.reduceEqDiff,Nat.reduceBEq,Nat.reduceAdd,Nat.reduceLeDiff,Nat.reduceSub,Nat.reduceMul,Int.reduceToNat,MM,bu0,cbJ1,cbJ7,eq_false hne]
    refine callP_of (hm) ?_
    simp -dsimp -implicitDefEqProofs (disch:=first|omega|(simp only [lenr];try omega)) only [↓amPre,↓reduceIte,reduceCtorEq,Nat.reduceEqDiff,Nat.reduceBEq,Nat.reduceAdd,Nat.reduceLeDiff,Nat.reduceSub,Nat.reduceMul,Int.reduceToNat,MM,bu0,cbJ1,cbJ7]
    refine split_go 15 (by decide +kernel) ?_
    simp -dsimp -implicitDefEqProofs (disch:=first|omega|(simp only [lenr];try omega)) only [↓amPre,↓reduceIte,reduceCtorEq,Nat.reduceEqDiff,Nat.reduceBEq,Nat.reduceAdd,Nat.reduceLeDiff,Nat.reduceSub,Nat.reduceMul,Int.reduceToNat,MM,bu0,cbJ1,cbJ7,← hle]
    refine callP_of (hcut) ?_
    simp -dsimp -implicitDefEqProofs (disch:=first|omega|(simp only [lenr];try omega)) only [↓amPre,↓reduceIte,reduceCtorEq,Nat.reduceEqDiff,Nat.reduceBEq,Nat.reduceAdd,Nat.reduceLeDiff,Nat.reduceSub,Nat.reduceMul,Int.reduceToNat,MM,bu0,cbJ1,cbJ7,hca]
    refine callP_of (hsp) ?_
    simp -dsimp -implicitDefEqProofs (disch:=first|omega|(simp only [lenr];try omega)) only [↓amPre,↓reduceIte,reduceCtorEq,Nat.reduceEqDiff,Nat.reduceBEq,Nat.reduceAdd,Nat.reduceLeDiff,Nat.reduceSub,Nat.reduceMul,Int.reduceToNat,MM,bu0,cbJ1,cbJ7,txeq d2]
    refine callP_of (lenW _) ?_
    simp -dsimp -implicitDefEqProofs (disch:=first|omega|(simp only [lenr];try omega)) only [↓amPre,↓reduceIte,reduceCtorEq,Nat.reduceEqDiff,Nat.reduceBEq,Nat.reduceAdd,Nat.reduceLeDiff,Nat.reduceSub,Nat.reduceMul,Int.reduceToNat,MM,bu0,cbJ1,cbJ7,ne_true d3']
    refine callX_of (hr) ?_
    simp -dsimp -implicitDefEqProofs (disch:=first|omega|(simp only [lenr];try omega)) only [↓amPre,↓reduceIte,reduceCtorEq,Nat.reduceEqDiff,Nat.reduceBEq,Nat.reduceAdd,Nat.reduceLeDiff,Nat.reduceSub,Nat.reduceMul,Int.reduceToNat,MM,bu0,cbJ1,cbJ7]
    exact rep_st c
  have d3':(((spl 32 l.1).length:Nat):Int)=(c:Int)+1:=by omega
  have hgood:wordsS L f c ⟨a,-1⟩=(⟨a+1,-1⟩,(spl 32 l.1).drop 1):=by
    unfold wordsS
    rw [if_pos rfl,if_neg c2]
    dsimp only
    rw [← hle]
    unfold lineW
    rw [if_pos ⟨d1,d2,d3⟩]
  rw [hgood]
  rw [d1] at hcut
  refine spec_of_awp_any (M:=MM) (np:=3) (X:=[5]) (fz:=false) mixed Tryz.func58 rfl rfl (by decide) rfl (Nat.le_refl _) (by decide +kernel) (.inl rfl) (by first | trivial | simp only [sigsOk_nil,sigsOk_some,sigsOk_none,sig_tr,sig_pt,sig_mt,sig_agg,List.map_cons,List.map_nil,sig1_tr,sig1_pt,sig1_v,and_self,true_and,List.length_map,List.length_set]) ?_
  simp -dsimp -implicitDefEqProofs (disch:=first|omega|(simp only [lenr];try omega)) only [↓amPre,↓reduceIte,reduceCtorEq,Nat.reduceEqDiff,Nat.reduceBEq,Nat.reduceAdd,Nat.reduceLeDiff,Nat.reduceSub,Nat.reduceMul,Int.reduceToNat,MM,bu0,cbJ1,cbJ7,eq_true (rfl:(-1:Int) = -1)]
  refine callP_of (lenL L) ?_
  simp -dsimp -implicitDefEqProofs (disch:=first|omega|(simp only [lenr];try omega)) only [↓amPre,↓reduceIte,reduceCtorEq,Nat.reduceEqDiff,Nat.reduceBEq,Nat.reduceAdd,Nat.reduceLeDiff,Nat.reduceSub,Nat.reduceMul,Int.reduceToNat,MM,bu0,cbJ1,cbJ7,eq_false hne]
  refine callP_of (hm) ?_
  simp -dsimp -implicitDefEqProofs (disch:=first|omega|(simp only [lenr];try omega)) only [↓amPre,↓reduceIte,reduceCtorEq,Nat.reduceEqDiff,Nat.reduceBEq,Nat.reduceAdd,Nat.reduceLeDiff,Nat.reduceSub,Nat.reduceMul,Int.reduceToNat,MM,bu0,cbJ1,cbJ7]
  refine split_go 15 (by decide +kernel) ?_
  simp -dsimp -implicitDefEqProofs (disch:=first|omega|(simp only [lenr];try omega)) only [↓amPre,↓reduceIte,reduceCtorEq,Nat.reduceEqDiff,Nat.reduceBEq,Nat.reduceAdd,Nat.reduceLeDiff,Nat.reduceSub,Nat.reduceMul,Int.reduceToNat,MM,bu0,cbJ1,cbJ7,← hle]
  refine callP_of (hcut) ?_
  simp -dsimp -implicitDefEqProofs (disch:=first|omega|(simp only [lenr];try omega)) only [↓amPre,↓reduceIte,reduceCtorEq,Nat.reduceEqDiff,Nat.reduceBEq,Nat.reduceAdd,Nat.reduceLeDiff,Nat.reduceSub,Nat.reduceMul,Int.reduceToNat,MM,bu0,cbJ1,cbJ7,hca]
  refine callP_of (hsp) ?_
  simp -dsimp -implicitDefEqProofs (disch:=first|omega|(simp only [lenr];try omega)) only [↓amPre,↓reduceIte,reduceCtorEq,Nat.reduceEqDiff,Nat.reduceBEq,Nat.reduceAdd,Nat.reduceLeDiff,Nat.reduceSub,Nat.reduceMul,Int.reduceToNat,MM,bu0,cbJ1,cbJ7,txeq d2]
  refine callP_of (lenW _) ?_
  simp -dsimp -implicitDefEqProofs (disch:=first|omega|(simp only [lenr];try omega)) only [↓amPre,↓reduceIte,reduceCtorEq,Nat.reduceEqDiff,Nat.reduceBEq,Nat.reduceAdd,Nat.reduceLeDiff,Nat.reduceSub,Nat.reduceMul,Int.reduceToNat,MM,bu0,cbJ1,cbJ7,ne_false d3']
end Ps
end Go.AM
set_option maxRecDepth 8000
namespace Go.AM
namespace Ps
open Go.Proofs
open Door (decimal_spec)
theorem parse_in {w:Tx} {v:Int} (h:Lib.parseIntB 64 w=.ok v):intOk v:=by
  unfold Lib.parseIntB at h
  split at h
  · cases h
  · dsimp only at h
    split at h
    · cases h
    · cases h
    · rename_i u _
      split at h
      · cases h
      · split at h
        · cases h
        · rename_i h1 h2
          cases h
          unfold intOk
          simp only [not_and,Nat.not_le,Nat.not_lt] at h1 h2
          split
          · rename_i q
            have:=h2 q
            omega
          · rename_i q
            have:=h1 q
            omega
theorem readNumberI (w:Tx) (hw:w.length≤1048576):SpecAt Tryz.prog 137 [.st w] (.tup [.i64 (rn w).1,.bl (rn w).2]):=by
  have hp:=parseW w hw
  unfold piR at hp
  unfold rn
  split at hp
  · rename_i v hv
    have hd:=decimal_spec v (parse_in hv)
    rw [hv]
    refine spec_of_awp (M:=MM) (np:=1) (fz:=true) mixed Tryz.func137 rfl rfl (by decide) rfl (Nat.le_refl _) (by decide +kernel) (.inr ⟨rfl,rfl⟩) trivial ?_
    simp -dsimp -implicitDefEqProofs (disch:=first|omega|(simp only [lenr];try omega)) only [↓amPre,↓reduceIte,reduceCtorEq,Nat.reduceEqDiff,Nat.reduceBEq,Nat.reduceAdd,Nat.reduceLeDiff,Nat.reduceSub,Nat.reduceMul,Int.reduceToNat,MM,bu0,cbJ1,cbJ7]
    refine callP_of (hp) ?_
    simp -dsimp -implicitDefEqProofs (disch:=first|omega|(simp only [lenr];try omega)) only [↓amPre,↓reduceIte,reduceCtorEq,Nat.reduceEqDiff,Nat.reduceBEq,Nat.reduceAdd,Nat.reduceLeDiff,Nat.reduceSub,Nat.reduceMul,Int.reduceToNat,MM,bu0,cbJ1,cbJ7]
    refine callP_of (hd) ?_
    by_cases d1:Lib.itoa v=w
    · simp -dsimp -implicitDefEqProofs (disch:=first|omega|(simp only [lenr];try omega)) only [↓amPre,↓reduceIte,reduceCtorEq,Nat.reduceEqDiff,Nat.reduceBEq,Nat.reduceAdd,Nat.reduceLeDiff,Nat.reduceSub,Nat.reduceMul,Int.reduceToNat,MM,bu0,cbJ1,cbJ7,txeq d1]
      refine callP_of (iwithin _ _ _) ?_
      simp -dsimp -implicitDefEqProofs (disch:=first|omega|(simp only [lenr];try omega)) only [↓amPre,↓reduceIte,reduceCtorEq,Nat.reduceEqDiff,Nat.reduceBEq,Nat.reduceAdd,Nat.reduceLeDiff,Nat.reduceSub,Nat.reduceMul,Int.reduceToNat,MM,bu0,cbJ1,cbJ7,txeq d1]
      refine bl_eq ?_
      simp [d1,within]
    · simp -dsimp -implicitDefEqProofs (disch:=first|omega|(simp only [lenr];try omega)) only [↓amPre,↓reduceIte,reduceCtorEq,Nat.reduceEqDiff,Nat.reduceBEq,Nat.reduceAdd,Nat.reduceLeDiff,Nat.reduceSub,Nat.reduceMul,Int.reduceToNat,MM,bu0,cbJ1,cbJ7,txne d1]
      refine bl_eq ?_
      simp [d1]
  · rename_i hv
    rw [hv]
    refine spec_of_awp (M:=MM) (np:=1) (fz:=true) mixed Tryz.func137 rfl rfl (by decide) rfl (Nat.le_refl _) (by decide +kernel) (.inr ⟨rfl,rfl⟩) trivial ?_
    simp -dsimp -implicitDefEqProofs (disch:=first|omega|(simp only [lenr];try omega)) only [↓amPre,↓reduceIte,reduceCtorEq,Nat.reduceEqDiff,Nat.reduceBEq,Nat.reduceAdd,Nat.reduceLeDiff,Nat.reduceSub,Nat.reduceMul,Int.reduceToNat,MM,bu0,cbJ1,cbJ7]
    refine callP_of (hp) ?_
    simp -dsimp -implicitDefEqProofs (disch:=first|omega|(simp only [lenr];try omega)) only [↓amPre,↓reduceIte,reduceCtorEq,Nat.reduceEqDiff,Nat.reduceBEq,Nat.reduceAdd,Nat.reduceLeDiff,Nat.reduceSub,Nat.reduceMul,Int.reduceToNat,MM,bu0,cbJ1,cbJ7]
  · rename_i h1 h2
    have h:Lib.parseIntB 64 w=Lib.NumEnd.syntax:=by
      cases q:Lib.parseIntB 64 w with
      | ok v=>exact absurd q (h1 v)
      | range=>exact absurd q h2
      | _=>rfl
    rw [h]
    refine spec_of_awp (M:=MM) (np:=1) (fz:=true) mixed Tryz.func137 rfl rfl (by decide) rfl (Nat.le_refl _) (by decide +kernel) (.inr ⟨rfl,rfl⟩) trivial ?_
    simp -dsimp -implicitDefEqProofs (disch:=first|omega|(simp only [lenr];try omega)) only [↓amPre,↓reduceIte,reduceCtorEq,Nat.reduceEqDiff,Nat.reduceBEq,Nat.reduceAdd,Nat.reduceLeDiff,Nat.reduceSub,Nat.reduceMul,Int.reduceToNat,MM,bu0,cbJ1,cbJ7]
    refine callP_of (hp) ?_
    simp -dsimp -implicitDefEqProofs (disch:=first|omega|(simp only [lenr];try omega)) only [↓amPre,↓reduceIte,reduceCtorEq,Nat.reduceEqDiff,Nat.reduceBEq,Nat.reduceAdd,Nat.reduceLeDiff,Nat.reduceSub,Nat.reduceMul,Int.reduceToNat,MM,bu0,cbJ1,cbJ7]
def rns (ws:List Tx):List Int×Bool:=if ∀ w∈ws,(rn w).2=true then (ws.map fun w=>(rn w).1,true) else ([],false)
theorem readNumbersI (ws:List Tx) (hl:ws.length≤1048577) (hw:∀ w∈ws,w.length≤1048576):SpecAt Tryz.prog 112 [wsl ws] (.tup [itr (rns ws).1,.bl (rns ws).2]):=by
  refine spec_of_awp (M:=MM) (np:=1) (fz:=false) mixed Tryz.func112 rfl rfl (by decide) rfl (Nat.le_refl _) (by decide +kernel) (.inl rfl) (by first | trivial | simp only [sigsOk_nil,sigsOk_some,sigsOk_none,sig_tr,sig_pt,sig_mt,sig_agg,List.map_cons,List.map_nil,sig1_tr,sig1_pt,sig1_v,and_self,true_and,List.length_map,List.length_set]) ?_
  simp -dsimp -implicitDefEqProofs (disch:=first|omega|(simp only [lenr];try omega)) only [↓amPre,↓reduceIte,reduceCtorEq,Nat.reduceEqDiff,Nat.reduceBEq,Nat.reduceAdd,Nat.reduceLeDiff,Nat.reduceSub,Nat.reduceMul,Int.reduceToNat,MM,bu0,cbJ1,cbJ7]
  refine awp_loopN 4 25 1 (by simp -dsimp -implicitDefEqProofs (disch:=first|omega|(simp only [lenr];try omega)) only [↓amPre,↓reduceIte,reduceCtorEq,Nat.reduceEqDiff,Nat.reduceBEq,Nat.reduceAdd,Nat.reduceLeDiff,Nat.reduceSub,Nat.reduceMul,Int.reduceToNat,MM,bu0,cbJ1,cbJ7]) (by decide) (fun k st=>k≤ws.length∧st.fr 11=.i64 k∧st.fr 9=.sl 1 (ws.map AV.st)∧st.fr 10=.i64 ws.length∧st.fr 4=.ref 25 [] 1 0 k∧st.mem 25=some (itr ((ws.take k).map fun w=>(rn w).1))∧(∀ w∈ws.take k,(rn w).2=true)) (ws.length) ?_ ?_
  · simp -dsimp -implicitDefEqProofs (disch:=first|omega|(simp only [lenr];try omega)) only [↓amPre,↓reduceIte,reduceCtorEq,Nat.reduceEqDiff,Nat.reduceBEq,Nat.reduceAdd,Nat.reduceLeDiff,Nat.reduceSub,Nat.reduceMul,Int.reduceToNat,MM,bu0,cbJ1,cbJ7,nilAs_eq]
    simp
  rintro k st _ ⟨hk,f11,f9,f10,f4,m25,ek⟩
  have hkl:((ws.take k).map fun w=>(rn w).1).length=k:=by rw [List.length_map,List.length_take];omega
  by_cases hlt:k<ws.length
  · have hq:=readNumberI (ws.getD k []) (hw _ (mem_getD ws k [] hlt))
    cases hb:(rn (ws.getD k [])).2 with
    | false =>
      rw [hb] at hq
      have hr:rns ws=([],false):=if_neg fun q=>by
        have:=q _ (mem_getD ws k [] hlt)
        rw [hb] at this;cases this
      rw [hr]
      simp -dsimp -implicitDefEqProofs (disch:=first|omega|(simp only [lenr];try omega)) only [↓amPre,↓reduceIte,reduceCtorEq,Nat.reduceEqDiff,Nat.reduceBEq,Nat.reduceAdd,Nat.reduceLeDiff,Nat.reduceSub,Nat.reduceMul,Int.reduceToNat,MM,bu0,cbJ1,cbJ7,f11,f9,f10,f4,m25]
      refine callP_of (hq) ?_
      simp -dsimp -implicitDefEqProofs (disch:=first|omega|(simp only [lenr];try omega)) only [↓amPre,↓reduceIte,reduceCtorEq,Nat.reduceEqDiff,Nat.reduceBEq,Nat.reduceAdd,Nat.reduceLeDiff,Nat.reduceSub,Nat.reduceMul,Int.reduceToNat,MM,bu0,cbJ1,cbJ7,f11,f9,f10,f4,m25]
    | true =>
      rw [hb] at hq
      have hs:=map_take_succ (fun w=>(rn w).1) ws k [] hlt
      simp -dsimp -implicitDefEqProofs (disch:=first|omega|(simp only [lenr];try omega)) only [↓amPre,↓reduceIte,reduceCtorEq,Nat.reduceEqDiff,Nat.reduceBEq,Nat.reduceAdd,Nat.reduceLeDiff,Nat.reduceSub,Nat.reduceMul,Int.reduceToNat,MM,bu0,cbJ1,cbJ7,f11,f9,f10,f4,m25,hkl]
      refine callP_of (hq) ?_
      simp -dsimp -implicitDefEqProofs (disch:=first|omega|(simp only [lenr];try omega)) only [↓amPre,↓reduceIte,reduceCtorEq,Nat.reduceEqDiff,Nat.reduceBEq,Nat.reduceAdd,Nat.reduceLeDiff,Nat.reduceSub,Nat.reduceMul,Int.reduceToNat,MM,bu0,cbJ1,cbJ7,f11,f9,f10,f4,m25,hkl,isnoc]
      refine ⟨hlt,by omega,by rw [hs],(mem_take_succ (d:=[]) hlt).2 ⟨ek,hb⟩⟩
  · have hke:k=ws.length:=by omega
    subst hke
    rw [List.take_length] at ek hkl
    have hr:rns ws=(ws.map fun w=>(rn w).1,true):=if_pos ek
    rw [hr]
    simp -dsimp -implicitDefEqProofs (disch:=first|omega|(simp only [lenr];try omega)) only [↓amPre,↓reduceIte,reduceCtorEq,Nat.reduceEqDiff,Nat.reduceBEq,Nat.reduceAdd,Nat.reduceLeDiff,Nat.reduceSub,Nat.reduceMul,Int.reduceToNat,MM,bu0,cbJ1,cbJ7,f11,f9,f10,f4,m25,hkl,List.take_length]
theorem nums_rns (ws:List Tx):match numsW ws with
    | some l=>rns ws=(l,true)∧(l.any fun x=>!within x 0 999)=false
    | none=>(rns ws).2=false∨((rns ws).2=true∧((rns ws).1.any fun x=>!within x 0 999)=true):=by
  have hwi:∀ x:Int,within x 0 999=true↔0≤x∧x≤999:=fun x=>by simp [within]
  split
  · rename_i l hl
    have h1:=numsW_some hl
    have hall:∀ w∈ws,(rn w).2=true:=fun w hw=>by
      rw [← h1.2.2] at hw
      obtain ⟨y,hy,rfl⟩:=List.mem_map.1 hw
      obtain ⟨n,rfl⟩:∃ n:Nat,y=n:=⟨y.toNat,by have:=h1.2.1 y hy;unfold inNum at this;omega⟩
      have hb:=h1.2.1 _ hy
      unfold inNum at hb
      have:=(rn_num _ _).1 (num_itoa n (by omega))
      rw [this.1]
    refine ⟨?_,?_⟩
    · unfold rns
      rw [if_pos hall]
      congr 1
      rw [← h1.2.2,List.map_map]
      conv=>rhs;rw [← List.map_id l]
      refine List.map_congr_left fun y hy=>?_
      obtain ⟨n,rfl⟩:∃ n:Nat,y=n:=⟨y.toNat,by have:=h1.2.1 y hy;unfold inNum at this;omega⟩
      have hb:=h1.2.1 _ hy
      unfold inNum at hb
      have:=(rn_num _ _).1 (num_itoa n (by omega))
      show (rn (Lib.itoa (n:Int))).1=_
      rw [this.1];rfl
    · rw [List.any_eq_false]
      intro x hx
      have:=h1.2.1 x hx
      unfold inNum at this
      simp [(hwi x).2 this]
  · rename_i hn
    by_cases hall:∀ w∈ws,(rn w).2=true
    · right
      have e:rns ws=(ws.map fun w=>(rn w).1,true):=if_pos hall
      rw [e]
      refine ⟨rfl,?_⟩
      apply Decidable.byContradiction
      intro hc
      have hc:((ws.map fun w=>(rn w).1).any fun x=>!within x 0 999)=false:=by simpa using hc
      rw [List.any_eq_false] at hc
      have:numsW ws=some (ws.map fun w=>(rn w).1):=numsW_all (by simp) fun i hi=>by
        have hm:=mem_getD ws i [] hi
        have h2:=hc ((rn (ws.getD i [])).1) (List.mem_map.2 ⟨_,hm,rfl⟩)
        have h2:within (rn (ws.getD i [])).1 0 999=true:=by simpa using h2
        have e:(ws.map fun w=>(rn w).1).getD i 0=(rn (ws.getD i [])).1:=by
          rw [getD_eq _ _ _ (by simpa using hi),List.getElem_map,← getD_eq _ _ [] hi]
        rw [e]
        refine (rn_num _ _).2 ⟨?_,(hwi _).1 h2⟩
        rw [← hall _ hm]
      rw [hn] at this;cases this
    · left
      have e:rns ws=([],false):=if_neg hall
      rw [e]
theorem numbersI (L:List Ln) (ws:List Tx) (r:Rd) (ha:r.a≤1048576) (hl:ws.length≤1048576) (hw:∀ w∈ws,w.length≤1048576):SpecX Tryz.prog 69 [rdT L r,wsl ws] [some (rdT L (numbersS ws r).1)] (itr (numbersS ws r).2):=by
  have hq:=readNumbersI ws (by omega) hw
  have hr:=rejI L r ha
  have hN:=nums_rns ws
  have hc:∀ l:List Int,l.length≤1048576→SpecAt Tryz.prog 113 [isl l,.fn 114 []] (.bl (l.any fun x=>!within x 0 999)):=fun l hl=>containsFunc l _ _ _ rfl rfl (fun _=>rfl) (fun x _=>nums1 x) (by omega)
  have hrl:(rns ws).1.length≤ws.length:=by unfold rns;split <;> simp
  cases hs:numsW ws with
  | some l =>
    rw [hs] at hN
    obtain ⟨h1,h2⟩:=hN
    rw [h1] at hq
    have hcl:=hc l (by rw [h1] at hrl;exact Nat.le_trans hrl hl)
    rw [h2] at hcl
    have e:numbersS ws r=(r,l):=by unfold numbersS;rw [hs]
    rw [e]
    refine spec_of_awp (M:=MM) (np:=2) (fz:=false) mixed Tryz.func69 rfl rfl (by decide) rfl (Nat.le_refl _) (by decide +kernel) (.inl rfl) (by first | trivial | simp only [sigsOk_nil,sigsOk_some,sigsOk_none,sig_tr,sig_pt,sig_mt,sig_agg,List.map_cons,List.map_nil,sig1_tr,sig1_pt,sig1_v,and_self,true_and,List.length_map,List.length_set]) ?_
    simp -dsimp -implicitDefEqProofs (disch:=first|omega|(simp only [lenr];try omega)) only [↓amPre,↓reduceIte,reduceCtorEq,Nat.reduceEqDiff,Nat.reduceBEq,Nat.reduceAdd,Nat.reduceLeDiff,Nat.reduceSub,Nat.reduceMul,Int.reduceToNat,MM,bu0,cbJ1,cbJ7]
    refine callP_of (hq) ?_
    simp -dsimp -implicitDefEqProofs (disch:=first|omega|(simp only [lenr];try omega)) only [↓amPre,↓reduceIte,reduceCtorEq,Nat.reduceEqDiff,Nat.reduceBEq,Nat.reduceAdd,Nat.reduceLeDiff,Nat.reduceSub,Nat.reduceMul,Int.reduceToNat,MM,bu0,cbJ1,cbJ7]
    refine callP_of (hcl) ?_
    simp -dsimp -implicitDefEqProofs (disch:=first|omega|(simp only [lenr];try omega)) only [↓amPre,↓reduceIte,reduceCtorEq,Nat.reduceEqDiff,Nat.reduceBEq,Nat.reduceAdd,Nat.reduceLeDiff,Nat.reduceSub,Nat.reduceMul,Int.reduceToNat,MM,bu0,cbJ1,cbJ7]
  | none =>
    rw [hs] at hN
    have e:numbersS ws r=(rej r,List.replicate ws.length 0):=by unfold numbersS;rw [hs]
    rw [e]
    rcases hN with h1 | ⟨h1,h2⟩
    · rw [h1] at hq
      refine spec_of_awp (M:=MM) (np:=2) (fz:=false) mixed Tryz.func69 rfl rfl (by decide) rfl (Nat.le_refl _) (by decide +kernel) (.inl rfl) (by first | trivial | simp only [sigsOk_nil,sigsOk_some,sigsOk_none,sig_tr,sig_pt,sig_mt,sig_agg,List.map_cons,List.map_nil,sig1_tr,sig1_pt,sig1_v,and_self,true_and,List.length_map,List.length_set]) ?_
      simp -dsimp -implicitDefEqProofs (disch:=first|omega|(simp only [lenr];try omega)) only [↓amPre,↓reduceIte,reduceCtorEq,Nat.reduceEqDiff,Nat.reduceBEq,Nat.reduceAdd,Nat.reduceLeDiff,Nat.reduceSub,Nat.reduceMul,Int.reduceToNat,MM,bu0,cbJ1,cbJ7]
      refine callP_of (hq) ?_
      simp -dsimp -implicitDefEqProofs (disch:=first|omega|(simp only [lenr];try omega)) only [↓amPre,↓reduceIte,reduceCtorEq,Nat.reduceEqDiff,Nat.reduceBEq,Nat.reduceAdd,Nat.reduceLeDiff,Nat.reduceSub,Nat.reduceMul,Int.reduceToNat,MM,bu0,cbJ1,cbJ7]
      refine callX_of (hr) ?_
      simp -dsimp -implicitDefEqProofs (disch:=first|omega|(simp only [lenr];try omega)) only [↓amPre,↓reduceIte,reduceCtorEq,Nat.reduceEqDiff,Nat.reduceBEq,Nat.reduceAdd,Nat.reduceLeDiff,Nat.reduceSub,Nat.reduceMul,Int.reduceToNat,MM,bu0,cbJ1,cbJ7]
    · rw [h1] at hq
      have hcl:=hc _ (Nat.le_trans hrl hl)
      rw [h2] at hcl
      refine spec_of_awp (M:=MM) (np:=2) (fz:=false) mixed Tryz.func69 rfl rfl (by decide) rfl (Nat.le_refl _) (by decide +kernel) (.inl rfl) (by first | trivial | simp only [sigsOk_nil,sigsOk_some,sigsOk_none,sig_tr,sig_pt,sig_mt,sig_agg,List.map_cons,List.map_nil,sig1_tr,sig1_pt,sig1_v,and_self,true_and,List.length_map,List.length_set]) ?_
      simp -dsimp -implicitDefEqProofs (disch:=first|omega|(simp only [lenr];try omega)) only [↓amPre,↓reduceIte,reduceCtorEq,Nat.reduceEqDiff,Nat.reduceBEq,Nat.reduceAdd,Nat.reduceLeDiff,Nat.reduceSub,Nat.reduceMul,Int.reduceToNat,MM,bu0,cbJ1,cbJ7]
      refine callP_of (hq) ?_
      simp -dsimp -implicitDefEqProofs (disch:=first|omega|(simp only [lenr];try omega)) only [↓amPre,↓reduceIte,reduceCtorEq,Nat.reduceEqDiff,Nat.reduceBEq,Nat.reduceAdd,Nat.reduceLeDiff,Nat.reduceSub,Nat.reduceMul,Int.reduceToNat,MM,bu0,cbJ1,cbJ7]
      refine callP_of (hcl) ?_
      simp -dsimp -implicitDefEqProofs (disch:=first|omega|(simp only [lenr];try omega)) only [↓amPre,↓reduceIte,reduceCtorEq,Nat.reduceEqDiff,Nat.reduceBEq,Nat.reduceAdd,Nat.reduceLeDiff,Nat.reduceSub,Nat.reduceMul,Int.reduceToNat,MM,bu0,cbJ1,cbJ7]
      refine callX_of (hr) ?_
      simp -dsimp -implicitDefEqProofs (disch:=first|omega|(simp only [lenr];try omega)) only [↓amPre,↓reduceIte,reduceCtorEq,Nat.reduceEqDiff,Nat.reduceBEq,Nat.reduceAdd,Nat.reduceLeDiff,Nat.reduceSub,Nat.reduceMul,Int.reduceToNat,MM,bu0,cbJ1,cbJ7]
end Ps
end Go.AM
set_option maxRecDepth 8000
namespace Go.AM
namespace Ps
open Go.Proofs
theorem wordsS_mem {L:List Ln} (hL:okL L) (f:Tx) (c:Nat) (r:Rd):∀ w∈(wordsS L f c r).2,w.length≤1048576:=by
  have hz:∀ w∈List.replicate c ([]:Tx),w.length≤1048576:=fun w hw=>by rw [(List.mem_replicate.1 hw).2];simp
  unfold wordsS
  split
  · split
    · exact hz
    · rename_i h
      split
      · rename_i ws hw
        intro w hm
        unfold lineW at hw
        split at hw
        · cases hw
          have h1:=spl_mem 32 _ w (List.mem_of_mem_drop hm)
          have h2:=(okL_at hL (show r.a<L.length by omega)).2
          omega
        · cases hw
      · exact hz
  · exact hz
theorem twistsI (L:List Ln) (ks:List Kind) (r:Rd) (hL:okL L) (ha:r.a≤L.length) (hl:ks.length≤1048576) (hkc:∀ k∈ks,0≤k.c∧k.c≤1048575):SpecX Tryz.prog 48 [rdT L r,ksl ks] [some (rdT L (twS L ks r ks.length).1)] (ttr (twS L ks r ks.length).2):=by
  have hll:=hL.1
  refine spec_of_awp (M:=MM) (np:=2) (fz:=false) mixed Tryz.func48 rfl rfl (by decide) rfl (Nat.le_refl _) (by decide +kernel) (.inl rfl) (by first | trivial | simp only [sigsOk_nil,sigsOk_some,sigsOk_none,sig_tr,sig_pt,sig_mt,sig_agg,List.map_cons,List.map_nil,sig1_tr,sig1_pt,sig1_v,and_self,true_and,List.length_map,List.length_set]) ?_
  simp -dsimp -implicitDefEqProofs (disch:=first|omega|(simp only [lenr];try omega)) only [↓amPre,↓reduceIte,reduceCtorEq,Nat.reduceEqDiff,Nat.reduceBEq,Nat.reduceAdd,Nat.reduceLeDiff,Nat.reduceSub,Nat.reduceMul,Int.reduceToNat,MM,bu0,cbJ1,cbJ7]
  refine awp_loopN 5 33 2 (by simp -dsimp -implicitDefEqProofs (disch:=first|omega|(simp only [lenr];try omega)) only [↓amPre,↓reduceIte,reduceCtorEq,Nat.reduceEqDiff,Nat.reduceBEq,Nat.reduceAdd,Nat.reduceLeDiff,Nat.reduceSub,Nat.reduceMul,Int.reduceToNat,MM,bu0,cbJ1,cbJ7]) (by decide) (fun k st=>k≤ks.length∧st.fr 12=.i64 k∧st.fr 11=.i64 ks.length∧st.fr 10=ksl ks∧st.fr 0=.loc 0 [] 0 0∧st.fr 5=.ref 33 [] 2 0 k∧st.mem 33=some (ttr (twS L ks r k).2)∧st.mem 0=some (rdT L (twS L ks r k).1)) (ks.length) ?_ ?_
  · simp -dsimp -implicitDefEqProofs (disch:=first|omega|(simp only [lenr];try omega)) only [↓amPre,↓reduceIte,reduceCtorEq,Nat.reduceEqDiff,Nat.reduceBEq,Nat.reduceAdd,Nat.reduceLeDiff,Nat.reduceSub,Nat.reduceMul,Int.reduceToNat,MM,bu0,cbJ1,cbJ7,nilAs_eq]
    simp [twS]
  rintro k st _ ⟨hk,f12,f11,f10,f0,f5,m33,m0⟩
  have hkl:=twS_len L ks r k
  by_cases hlt:k<ks.length
  · have hak:=twS_a (ks:=ks) ha k
    have hc:(ks.getD k default).c=((cOf ks k:Nat):Int):=by
      have:=(hkc _ (mem_getD ks k default hlt)).1
      unfold cOf;omega
    have hcb:cOf ks k≤1048575:=by
      have:=(hkc _ (mem_getD ks k default hlt)).2
      unfold cOf;omega
    have hst:twS L ks r (k+1)=((lnS L byT (cOf ks k) (lnS L toT (cOf ks k) (twS L ks r k).1).1).1,
      (twS L ks r k).2++[(⟨(lnS L toT (cOf ks k) (twS L ks r k).1).2,(lnS L byT (cOf ks k) (lnS L toT (cOf ks k) (twS L ks r k).1).1).2⟩:Twist)]):=rfl
    rw [hst]
    generalize (twS L ks r k).2=T at *
    generalize (twS L ks r k).1=r1 at *
    have w1:=wordsI L toT (cOf ks k) r1 hL hak (by omega)
    have n1:=numbersI L (wordsS L toT (cOf ks k) r1).2 (wordsS L toT (cOf ks k) r1).1 (by have:=wordsS_a (f:=toT) (c:=cOf ks k) hak;omega) (by rw [wordsS_len];omega) (wordsS_mem hL _ _ _)
    have hq:=lnS_a (f:=toT) (c:=cOf ks k) hak
    have e1:numbersS (wordsS L toT (cOf ks k) r1).2 (wordsS L toT (cOf ks k) r1).1=lnS L toT (cOf ks k) r1:=rfl
    rw [e1] at n1
    generalize lnS L toT (cOf ks k) r1=q at *
    generalize wordsS L toT (cOf ks k) r1=u at *
    have w2:=wordsI L byT (cOf ks k) q.1 hL hq (by omega)
    have n2:=numbersI L (wordsS L byT (cOf ks k) q.1).2 (wordsS L byT (cOf ks k) q.1).1 (by have:=wordsS_a (f:=byT) (c:=cOf ks k) hq;omega) (by rw [wordsS_len];omega) (wordsS_mem hL _ _ _)
    have e2:numbersS (wordsS L byT (cOf ks k) q.1).2 (wordsS L byT (cOf ks k) q.1).1=lnS L byT (cOf ks k) q.1:=rfl
    rw [e2] at n2
    generalize lnS L byT (cOf ks k) q.1=p at *
    generalize wordsS L byT (cOf ks k) q.1=v at *
    simp -dsimp -implicitDefEqProofs (disch:=first|omega|(simp only [lenr];try omega)) only [↓amPre,↓reduceIte,reduceCtorEq,Nat.reduceEqDiff,Nat.reduceBEq,Nat.reduceAdd,Nat.reduceLeDiff,Nat.reduceSub,Nat.reduceMul,Int.reduceToNat,MM,bu0,cbJ1,cbJ7,f12,f11,f10,f0,f5,m33,m0,hc]
    refine callX_of (w1) ?_
    simp -dsimp -implicitDefEqProofs (disch:=first|omega|(simp only [lenr];try omega)) only [↓amPre,↓reduceIte,reduceCtorEq,Nat.reduceEqDiff,Nat.reduceBEq,Nat.reduceAdd,Nat.reduceLeDiff,Nat.reduceSub,Nat.reduceMul,Int.reduceToNat,MM,bu0,cbJ1,cbJ7,f12,f11,f10,f0,f5,m33,m0,hc]
    refine callX_of (n1) ?_
    simp -dsimp -implicitDefEqProofs (disch:=first|omega|(simp only [lenr];try omega)) only [↓amPre,↓reduceIte,reduceCtorEq,Nat.reduceEqDiff,Nat.reduceBEq,Nat.reduceAdd,Nat.reduceLeDiff,Nat.reduceSub,Nat.reduceMul,Int.reduceToNat,MM,bu0,cbJ1,cbJ7,f12,f11,f10,f0,f5,m33,m0,hc]
    refine callX_of (w2) ?_
    simp -dsimp -implicitDefEqProofs (disch:=first|omega|(simp only [lenr];try omega)) only [↓amPre,↓reduceIte,reduceCtorEq,Nat.reduceEqDiff,Nat.reduceBEq,Nat.reduceAdd,Nat.reduceLeDiff,Nat.reduceSub,Nat.reduceMul,Int.reduceToNat,MM,bu0,cbJ1,cbJ7,f12,f11,f10,f0,f5,m33,m0,hc]
    refine callX_of (n2) ?_
    simp -dsimp -implicitDefEqProofs (disch:=first|omega|(simp only [lenr];try omega)) only [↓amPre,↓reduceIte,reduceCtorEq,Nat.reduceEqDiff,Nat.reduceBEq,Nat.reduceAdd,Nat.reduceLeDiff,Nat.reduceSub,Nat.reduceMul,Int.reduceToNat,MM,bu0,cbJ1,cbJ7,f12,f11,f10,f0,f5,m33,m0,hc,hkl]
    exact ⟨hlt,by omega⟩
  · have hke:k=ks.length:=by omega
    subst hke
    simp -dsimp -implicitDefEqProofs (disch:=first|omega|(simp only [lenr];try omega)) only [↓amPre,↓reduceIte,reduceCtorEq,Nat.reduceEqDiff,Nat.reduceBEq,Nat.reduceAdd,Nat.reduceLeDiff,Nat.reduceSub,Nat.reduceMul,Int.reduceToNat,MM,bu0,cbJ1,cbJ7,f12,f11,f10,f0,f5,m33,m0,hkl]
end Ps
end Go.AM
namespace Go.Proofs
open Go.Shelf
def Tryz.collectL_ren:Go.Shelf.Ren:=⟨fun | 8=>101 | 11=>129 | n=>n,fun | 26=>9 | 28=>125 | 24=>78 | 0=>0 | 33=>43 | 4=>4 | n=>n,fun | n=>n⟩
theorem Tryz.collectL:Go.Proofs.SlLaysZ.n8 Tryz.prog Tryz.collectL_ren:={
  mixed:=by kernel_rfl
  f8:=⟨Tryz.f101.name,by decide,Tryz.func101.trans (congrArg some (by kernel_rfl))⟩
  f11:=⟨Tryz.f129.name,by decide,Tryz.func129.trans (congrArg some (by kernel_rfl))⟩
  t0:=Tryz.underlying0
  a0:=Tryz.isAgg0
  z0:=Tryz.sizeOf0
  v0:=Tryz.zeroValue0
  t24:=Tryz.underlying78
  a24:=Tryz.isAgg78
  z24:=Tryz.sizeOf78
  v24:=Tryz.zeroValue78
  t26:=Tryz.underlying9
  a26:=Tryz.isAgg9
  z26:=Tryz.sizeOf9
  v26:=Tryz.zeroValue9
  t28:=Tryz.underlying125
  a28:=Tryz.isAgg125
  z28:=Tryz.sizeOf125
  v28:=Tryz.zeroValue125
  i26:=by kernel_rfl }
end Go.Proofs
namespace Go.Proofs
open Go.RowKit Go.Shelf
open Go.AM.Ps (lnsOf full)
attribute [local go_sem] Oper.semAt_some
/-! strings.Lines collected: the iterator shortens the text that it has captured -/
def Dn.cut (W:World) (n:Nat):World:={ W with heap:=W.heap.extract 0 n }
theorem Dn.cut_size {W:World} {n:Nat} (h:n≤W.heap.size):(Dn.cut W n).heap.size=n:=by
  simp [Dn.cut];omega
theorem Dn.cut_get {W:World} {n k:Nat} (h:k<n):(Dn.cut W n).heap[k]? = W.heap[k]?:=by
  simp [Dn.cut,Array.getElem?_extract,h]
  omega
theorem Dn.cut_below {W:World} {n:Nat} (h:n≤W.heap.size):Below (Dn.cut W n).heap.size (Dn.cut W n) W:=by
  rw [Dn.cut_size h]
  exact ⟨rfl,rfl,rfl,by rw [Dn.cut_size h];exact h,fun b hb=>(Dn.cut_get hb).symm⟩
structure Dn.Inv (w0:World) (n1:Nat) (fn:FuncId) (sv:Value) (q Bs l D:Nat) (rest:List UInt8) (ss:List (List UInt8)) (W:World):Prop where
  qbox:W.heap[q]? = some (.cells #[.string ⟨rest.toArray⟩] 9 (0,0))
  ap:AnyZ.ApAt Tryz.collectL_ren (Dn.cut W n1) fn sv Bs l D ss W
  below:Below w0.heap.size w0 W
  size:n1≤W.heap.size
theorem Dn.yield (F:Fence) (m:Nat) (w0:World) (n1:Nat) (fn:FuncId) (hfn:F.fn fn) (sv:Value) (q Bs l D:Nat) (hq:q<n1) (h01:w0.heap.size≤n1) (hBl:Bs≠l) (hDl:D≠l) (hDB:D≠Bs) (h1B:n1≤Bs) (h1l:n1≤l)
    (N:Nat) (hN:N≤maxLen) (hNb:N*16≤140737488355328) (rest:List UInt8) (ss:List (List UInt8)) (x:List UInt8) (W:World) (h:Dn.Inv w0 n1 fn sv q Bs l D rest ss W) (hlen:ss.length<N) :
    YieldAt F m Tryz.prog l #[encStr x] W fun e W'=>e=.returned (.bool true)∧Dn.Inv w0 n1 fn sv q Bs l D rest (ss++[x]) W':=by
  have hcs:=Dn.cut_size h.size
  refine (AnyZ.apYield { Tryz.collectL with } F m (Dn.cut W n1) fn hfn sv Bs l D hBl hDl hDB (by rw [hcs];exact h1B) (by rw [hcs];exact h1l) N hN hNb ss x W h.ap hlen).mono ?_
  rintro e W' ⟨rfl,hap,_⟩
  have hb:=hap.below
  have hsz:n1≤W'.heap.size:=by have:=hb.size;rw [hcs] at this;exact this
  have hblk:∀ k,k<n1→W'.heap[k]? = W.heap[k]?:=fun k hk=>(hb.block k (by rw [hcs];exact hk)).trans (Dn.cut_get hk)
  refine ⟨rfl,(hblk q hq).trans h.qbox,⟨?_,hap.L,hap.K,Dn.cut_below hsz⟩,?_,hsz⟩
  · obtain ⟨v,h1,h2,h3⟩:=hap.box
    rw [hcs] at h2
    exact ⟨v,h1,by rw [Dn.cut_size hsz];exact h2,h3⟩
  · have:=h.below
    exact ⟨hb.os.trans this.os,hb.tape.trans this.tape,hb.output.trans this.output,by omega,fun k hk=>(hblk k (by omega)).trans (this.block k hk)⟩
theorem Dn.Inv.store {w0:World} {n1:Nat} {fn:FuncId} {sv:Value} {q Bs l D:Nat} {rest:List UInt8} {ss:List (List UInt8)} {W:World} (h:Dn.Inv w0 n1 fn sv q Bs l D rest ss W) (hq:q<n1) (h0q:w0.heap.size≤q) (h1B:n1≤Bs) (h1l:n1≤l) (h1D:n1≤D) (r2:List UInt8) :
    Dn.Inv w0 n1 fn sv q Bs l D r2 ss (W.setCell ⟨q,0,none⟩ (.string ⟨r2.toArray⟩)):=by
  have hg:W.grownBy (W.setCell ⟨q,0,none⟩ (.string ⟨r2.toArray⟩)) (some q):=grownBy_setCell0_a _ _ _
  have hsz:n1≤(W.setCell ⟨q,0,none⟩ (.string ⟨r2.toArray⟩)).heap.size:=Nat.le_trans h.size (Nat.le_of_eq (by simp))
  have hblk:∀ k,k≠q→k<W.heap.size→(W.setCell ⟨q,0,none⟩ (.string ⟨r2.toArray⟩)).heap[k]? = W.heap[k]?:=fun k hk hl=>hg.block k hl (fun e=>hk (by cases e;rfl))
  have hlt:∀ {k:Nat} {o:Obj},W.heap[k]? = some o→k<W.heap.size:=fun hk=>(Array.getElem?_eq_some_iff.1 hk).1
  obtain ⟨v,b1,b2,b3⟩:=h.ap.box
  rw [Dn.cut_size h.size] at b2
  refine ⟨heap_setCell_box_a _ h.qbox,⟨⟨v,(hblk Bs (by omega) (hlt b1)).trans b1,?_,b3⟩,(hblk l (by omega) (hlt h.ap.L)).trans h.ap.L,(hblk D (by omega) (hlt h.ap.K)).trans h.ap.K,Dn.cut_below hsz⟩,?_,hsz⟩
  · rw [Dn.cut_size hsz]
    refine b2.kept hg ?_
    rcases b2.2 with ⟨rfl,_⟩ | ⟨g,cap,cur,rfl,hgn,_⟩
    · exact .inl rfl
    · refine .inr fun e'=>?_
      have:g=q:=by simpa [Value.ownBlock] using e'
      omega
  · exact h.below.grown hg h.below.size (fun k e=>by cases e;exact h0q)
theorem Dn.Inv.drew {w0:World} {n1:Nat} {fn:FuncId} {sv:Value} {q Bs l D:Nat} {rest:List UInt8} {ss:List (List UInt8)} {W:World} (h:Dn.Inv w0 n1 fn sv q Bs l D rest ss W):Dn.Inv w0 n1 fn sv q Bs l D rest ss W.drew :=
  ⟨h.qbox,⟨h.ap.box,h.ap.L,h.ap.K,Dn.cut_below (W:=W.drew) h.size⟩,h.below.drew,h.size⟩
def Dn.left (W:World) (q:Nat):Nat:=match W.cell? ⟨q,0,none⟩ with | some (.string b)=>b.size | _=>0
theorem Dn.box_cell {W:World} {q:Nat} {v:Value} {t:TypeId} (h:W.heap[q]? = some (.cells #[v] t (0,0))):W.cell? ⟨q,0,none⟩=some v∧W.frozen? ⟨q,0,none⟩=false:=cell_of_box_a h
def Dn.lines (s:List UInt8):List (List UInt8):=(lnsOf s).map full
theorem Dn.ib_spec:∀ r:List UInt8,(Lib.indexByte r 10 = -1∧(10:UInt8)∉r)∨∃ i:Nat,Lib.indexByte r 10=i∧∃ a b,r=a++10 :: b∧a.length=i∧(10:UInt8)∉a
  | []=>.inl ⟨rfl,by simp⟩
  | x :: r=>by
    by_cases hx:x=10
    · subst hx
      exact .inr ⟨0,by simp [Lib.indexByte],[],r,rfl,rfl,by simp⟩
    · have hb:(x == 10)=false:=by simpa using hx
      rcases Dn.ib_spec r with ⟨h1,h2⟩ | ⟨i,h1,a,b,h2,h3,h4⟩
      · refine .inl ⟨by simp [Lib.indexByte,hb,h1],?_⟩
        simp only [List.mem_cons,not_or]
        exact ⟨Ne.symm hx,h2⟩
      · refine .inr ⟨i+1,?_,x :: a,b,by rw [h2];rfl,by simp [h3],?_⟩
        · have hn:¬ ((i:Int) == -1)=true:=fun q=>by have:=beq_iff_eq.1 q;omega
          unfold Lib.indexByte
          rw [hb,h1,if_neg (by decide),if_neg hn];omega
        · simp only [List.mem_cons,not_or]
          exact ⟨Ne.symm hx,h4⟩
theorem Dn.lines_one {r:List UInt8} (h:(10:UInt8)∉r) (hr:r≠[]):Dn.lines r=[r]:=by
  unfold Dn.lines
  rw [Go.AM.Ps.lns_one r hr h];rfl
theorem Dn.lines_cut {a b:List UInt8} (h:(10:UInt8)∉a):Dn.lines (a++10 :: b)=(a++[10]) :: Dn.lines b:=by
  unfold Dn.lines
  rw [Go.AM.Ps.lns_cut a b h];rfl
theorem Dn.lines_len (s:List UInt8):(Dn.lines s).length≤s.length:=by
  unfold Dn.lines
  rw [List.length_map];exact Go.AM.Ps.lns_len s
theorem Dn.ext1 (a b:List UInt8):(ByteArray.mk (a++10 :: b).toArray).extract 0 (a.length+1)=⟨(a++[10]).toArray⟩:=by
  rw [Go.AM.stext]
  congr 2
  simp [List.take_append]
  exact List.take_of_length_le (by omega)
theorem Dn.ext2 (a b:List UInt8):(ByteArray.mk (a++10 :: b).toArray).extract (a.length+1) (a++10 :: b).length=⟨b.toArray⟩:=by
  rw [Go.AM.stext]
  congr 2
  simp [List.take_of_length_le,List.drop_append]
theorem Dn.left_of {w0:World} {n1:Nat} {fn:FuncId} {sv:Value} {q Bs l D:Nat} {rest:List UInt8} {ss:List (List UInt8)} {W:World} (h:Dn.Inv w0 n1 fn sv q Bs l D rest ss W):Dn.left W q=rest.length:=by
  unfold Dn.left
  rw [(Dn.box_cell h.qbox).1];rfl
theorem Dn.size_mk (r:List UInt8):(ByteArray.mk r.toArray).size=r.length:=rfl
set_option maxRecDepth 100000 in set_option maxHeartbeats 2000000 in
theorem Dn.lines1_in (n:Nat) (hn:1≤n) (w0:World) (n1:Nat) (fn:FuncId) (sv:Value) (q Bs l D:Nat) (hq:q<n1) (h0q:w0.heap.size≤q) (hBl:Bs≠l) (hDl:D≠l) (hDB:D≠Bs) (h1B:n1≤Bs) (h1l:n1≤l) (h1D:n1≤D)
    (s:List UInt8) (hs:s.length≤1048576) (W:World) (h:Dn.Inv w0 n1 fn sv q Bs l D s [] W) :
    CallsIn Fence.wide n Tryz.prog 130 #[.func (.yield l) #[] #[],.pointer (some ⟨q,0,none⟩)] W fun e W'=>(∃ v,e=.returned v)∧Dn.Inv w0 n1 fn sv q Bs l D [] (Dn.lines s) W':=by
  refine callsIn_of_wp Tryz.func130 rfl trivial ?_ rfl
  simp only [Tryz.ntmps130,List.size_toArray,List.length_cons,List.length_nil,Nat.reduceAdd,Nat.reduceSub,Array.replicate_succ,Array.replicate_zero,List.push_toArray,List.append_toArray,List.nil_append,List.cons_append]
  gi_wp2
  gi_loopw [] (fun wr=>∃ (ss:List (List UInt8)) (r:List UInt8),Dn.Inv w0 n1 fn sv q Bs l D r ss wr∧ss++Dn.lines r=Dn.lines s∧r.length≤s.length) (fun wr=>Dn.left wr q)
  case atStart=>exact ⟨[],s,h,rfl,Nat.le_refl _⟩
  case round =>
    obtain ⟨ss,r,hI,hss,hrl⟩:=hrel
    obtain ⟨hc,hf⟩:=Dn.box_cell hI.qbox
    have hmx:(1048577:Nat)≤maxLen:=by decide
    by_cases hr:r=[]
    · subst hr
      gi_wp2
      go_end0
      refine ⟨⟨_,rfl⟩,?_⟩
      rw [← hss,show Dn.lines []=[] from rfl,List.append_nil];exact hI
    · have hpos:0<r.length:=List.length_pos_iff.2 hr
      have hsz:=Dn.size_mk r
      have hll:=Dn.lines_len s
      have hib:=Any.strings_IndexByte Tryz.indexL ⟨r.toArray⟩ 10 wr
      rcases Dn.ib_spec r with ⟨h1,h2⟩ | ⟨i,h1,a,b,h2,h3,h4⟩
      · have hl1:=Dn.lines_one h2 hr
        have hI2:=hI.store hq h0q h1B h1l h1D []
        have hlen:ss.length<1048577:=by rw [← hss,hl1] at hll;simp at hll;omega
        obtain ⟨fn',tmps,assign,body,hy,hR⟩:=Dn.yield Fence.wide (n - 1) w0 n1 fn trivial sv q Bs l D hq (by omega) hBl hDl hDB h1B h1l 1048577 hmx (by omega) [] ss r _ hI2 hlen
        have hib2:Calls Tryz.prog 131 #[.string ⟨r.toArray⟩,.int .u8 10] wr fun e w'=>e=.returned (.int .i64 (-1))∧w'=wr:=hib.mono fun e w' hh=>⟨by rw [hh.1,← h1];rfl,hh.2⟩
        clear hib
        gi_wp2_with (refine ⟨trivial,?_⟩;gi_at_call 131;refine (callsIn_wide.2 hib2).mono ?_;rintro e w' ⟨rfl,rfl⟩)
        refine hR.mono ?_
        rintro e W3 ⟨rfl,hI3⟩
        gi_wp2
        go_roundw
        case rel=>exact ⟨ss++[r],[],hI3,by rw [← hss,hl1,show Dn.lines []=[] from rfl,List.append_nil],Nat.zero_le _⟩
        case measure=>rw [Dn.left_of hI3,Dn.left_of hI];exact hpos
      · have hl1:Dn.lines r=(a++[10]) :: Dn.lines b:=by rw [h2];exact Dn.lines_cut h4
        have hI2:=(hI.store hq h0q h1B h1l h1D b).drew
        have hlen:ss.length<1048577:=by rw [← hss,hl1] at hll;simp at hll;omega
        obtain ⟨fn',tmps,assign,body,hy,hR⟩:=Dn.yield Fence.wide (n - 1) w0 n1 fn trivial sv q Bs l D hq (by omega) hBl hDl hDB h1B h1l 1048577 hmx (by omega) b ss (a++[10]) _ hI2 hlen
        have hib2:Calls Tryz.prog 131 #[.string ⟨r.toArray⟩,.int .u8 10] wr fun e w'=>e=.returned (.int .i64 (i:Int))∧w'=wr:=hib.mono fun e w' hh=>⟨by rw [hh.1,← h1];rfl,hh.2⟩
        have e1:(ByteArray.mk r.toArray).extract 0 (i+1)=⟨(a++[10]).toArray⟩:=by rw [h2,← h3];exact Dn.ext1 a b
        have e2:(ByteArray.mk r.toArray).extract (i+1) r.length=⟨b.toArray⟩:=by rw [h2,← h3];exact Dn.ext2 a b
        have hb1:i+1≤r.length:=by rw [h2,← h3];simp
        have hb2:b.length<r.length:=by rw [h2];simp;omega
        clear hib h1 h2 h3 h4 hll
        gi_wp2_with (refine ⟨trivial,?_⟩;gi_at_call 131;refine (callsIn_wide.2 hib2).mono ?_;rintro e w' ⟨rfl,rfl⟩)
        have mixed:=Go.AM.mixed
        gi_region
        gi_wp2
        refine hR.mono ?_
        rintro e W3 ⟨rfl,hI3⟩
        gi_wp2
        go_roundw
        case rel=>exact ⟨ss++[a++[10]],b,hI3,by rw [← hss,hl1,List.append_assoc];rfl,by omega⟩
        case measure=>rw [Dn.left_of hI3,Dn.left_of hI];exact hb2
set_option maxRecDepth 100000 in set_option maxHeartbeats 2000000 in
theorem Dn.append_in (n:Nat) (hn:2≤n) (w0:World) (q:Nat) (s:List UInt8) (hs:s.length≤1048576) (w:World) (hq:q<w.heap.size) (h0q:w0.heap.size≤q) (hbox:w.heap[q]? = some (.cells #[.string ⟨s.toArray⟩] 9 (0,0))) (hb:Below w0.heap.size w0 w) :
    CallsIn Fence.wide n Tryz.prog 129 #[.slice none 0 0,.func (.func 130) #[] #[.pointer (some ⟨q,0,none⟩)]] w fun e w'=>∃ v,e=.returned v∧w'.ownsRow w.heap.size 9 1 v (Dn.lines s).length ((Dn.lines s).map encStr)∧Below w0.heap.size w0 w':=by
  have h1:1≤n:=by omega
  refine callsIn_of_wp_marks Tryz.func129 rfl trivial ?_ rfl
  simp only [Tryz.ntmps129,List.size_toArray,List.length_cons,List.length_nil,Nat.reduceAdd,Nat.reduceSub,Array.replicate_succ,Array.replicate_zero,List.push_toArray,List.append_toArray,List.nil_append,List.cons_append]
  gi_wp2
  refine wpIn_rangeFunc ?_
  intro fn hfn
  rw [show Fence.wide.round=none from rfl]
  obtain ⟨sv,hsv⟩:∃ sv:Value,sv=.func (.func 130) #[] #[.pointer (some ⟨q,0,none⟩)]:=⟨_,rfl⟩
  obtain ⟨W0,hW0⟩:∃ W0,w.alloc (.cells #[.slice none 0 0] 78)=W0:=⟨_,rfl⟩
  have hs0:W0.heap.size=w.heap.size+1:=by rw [← hW0];simp
  have hv0:W0.heap[w.heap.size]? = some (.cells #[.slice none 0 0] 78 (0,0)):=by rw [← hW0];exact World.alloc_heap_new w _
  have hb0:Below w0.heap.size w0 W0:=by rw [← hW0];exact hb.alloc hb.size _
  have hq0:W0.heap[q]? = w.heap[q]?:=by rw [← hW0];exact Below.heap_alloc _ _ q hq
  rw [hW0]
  obtain ⟨W1,hW1⟩:∃ W1,(W0.alloc (.deferred (some []))).alloc (.loop (AnyZ.apRec Tryz.collectL_ren fn sv w.heap.size W0.heap.size .ready none))=W1:=⟨_,rfl⟩
  have hold:∀ k,k<W0.heap.size→W1.heap[k]? = W0.heap[k]?:=fun k hk=>by
    rw [← hW1];exact (Below.heap_alloc _ _ k (by simp;omega)).trans (Below.heap_alloc _ _ k hk)
  have hb1:Below w0.heap.size w0 W1:=by rw [← hW1];exact (hb0.alloc hb0.size _).alloc (by have:=hb0.size;simp;omega) _
  have hs1:W1.heap.size=W0.heap.size+2:=by rw [← hW1];simp
  have hM:Dn.Inv w0 w.heap.size fn sv q w.heap.size (W0.heap.size+1) W0.heap.size s [] W1 :=
    ⟨(hold q (by omega)).trans (hq0.trans hbox),
     ⟨⟨_,(hold w.heap.size (by omega)).trans hv0,⟨rfl,.inl ⟨rfl,rfl⟩⟩,by simp⟩,
      by rw [← hW1];have:=World.alloc_heap_new (W0.alloc (.deferred (some []))) (.loop (AnyZ.apRec Tryz.collectL_ren fn sv w.heap.size W0.heap.size .ready none));rwa [World.size_alloc] at this,
      by rw [← hW1];exact (Below.heap_alloc _ _ _ (by simp)).trans (World.alloc_heap_new W0 _),Dn.cut_below (by omega)⟩,hb1,by omega⟩
  have e130:∀ args w,(callFunc 130 args).run Tryz.prog w=.ok (.enter 130 args) w:=enters_of Tryz.func130 (by kernel_rfl) rfl
  refine ⟨W0.heap.size+1,[{ target:=.collected W0.heap.size,args:=#[] }],W1,{ target:=.fn (.func 130) #[.pointer (some ⟨q,0,none⟩)],args:=#[.func (.yield (W0.heap.size+1)) #[] #[]] },W1,130,
    #[.func (.yield (W0.heap.size+1)) #[] #[]] ++ #[.pointer (some ⟨q,0,none⟩)],W1,?_,?_,?_,?_,fun _=>h1,?_⟩
  · rw [← hW1,hsv];exact run_enterLoop_outer _ _ _ _ _
  · simp [resolve,go_sem]
  · intro f' hf';trivial
  · simp [invoke,go_sem,e130]
  · refine (Dn.lines1_in (n - 1) (by omega) w0 w.heap.size fn sv q w.heap.size (W0.heap.size+1) W0.heap.size hq h0q (by omega) (by omega) (by omega) (Nat.le_refl _) (by omega) (by omega) s hs W1 hM).mono ?_
    rintro e W2 ⟨⟨v0,rfl⟩,h2⟩
    obtain ⟨v,hv,hrow,hnil⟩:=h2.ap.box
    rw [Dn.cut_size h2.size] at hrow
    have hend:=run_endLoop (P:=Tryz.prog) h2.ap.L (by simp [AnyZ.apRec])
    obtain ⟨W3,hW3⟩:∃ W3,W2.putObj (W0.heap.size+1) (.loop { AnyZ.apRec Tryz.collectL_ren fn sv w.heap.size W0.heap.size .ready none with state:=.exhausted })=W3:=⟨_,rfl⟩
    rw [hW3] at hend
    have hg3:W2.grownBy W3 (some (W0.heap.size+1)):=by rw [← hW3];exact grownBy_putObj_a _ _ _
    have hv3:W3.heap[w.heap.size]? = some (.cells #[v] 78 (0,0)):=by rw [← hW3];exact (World.putObj_heap_other (by omega)).trans hv
    have hK3:W3.heap[W0.heap.size]? = some (.deferred (some [])):=by rw [← hW3];exact (World.putObj_heap_other (by omega)).trans h2.ap.K
    have hrow3:=hrow.kept hg3 (ownsRow_ne_a hrow h2.ap.L (fun cur e=>by cases e))
    have hb3:Below w0.heap.size w0 W3:=h2.below.grown hg3 h2.below.size (fun k e=>by cases e;have:=hb.size;omega)
    obtain ⟨hc3,hf3⟩:=cell_of_box_a hv3
    clear hW3
    refine ⟨none,W3,hend,?_⟩
    gi_wp2
    rw [← hs0]
    refine ⟨by simp,.inl ⟨_,_,rfl,run_takeDeferred hK3,?_⟩⟩
    exact ⟨_,results_tmp rfl _ _ _,v,rfl,hrow3.kept (grownBy_putObj_a _ _ _) (ownsRow_ne_a hrow3 hK3 (fun cur e=>by cases e)),hb3.grown (grownBy_putObj_a _ _ _) hb3.size (fun k e=>by cases e;have:=hb.size;omega)⟩
set_option maxHeartbeats 1000000 in
theorem Dn.collect_in (n:Nat) (hn:3≤n) (w0:World) (q:Nat) (s:List UInt8) (hs:s.length≤1048576) (w:World) (hq:q<w.heap.size) (h0q:w0.heap.size≤q) (hbox:w.heap[q]? = some (.cells #[.string ⟨s.toArray⟩] 9 (0,0))) (hb:Below w0.heap.size w0 w) :
    CallsIn Fence.wide n Tryz.prog 101 #[.func (.func 130) #[] #[.pointer (some ⟨q,0,none⟩)]] w fun e w'=>∃ v,e=.returned v∧w'.ownsRow w.heap.size 9 1 v (Dn.lines s).length ((Dn.lines s).map encStr)∧Below w0.heap.size w0 w':=by
  have h1:1≤n:=by omega
  refine callsIn_of_wp Tryz.func101 rfl trivial ?_ rfl
  simp only [Tryz.ntmps101,List.size_toArray,List.length_cons,List.length_nil,Nat.reduceAdd,Nat.reduceSub,Array.replicate_succ,Array.replicate_zero,List.push_toArray,List.append_toArray,List.nil_append,List.cons_append]
  gi_wp2_with (refine ⟨trivial,?_⟩;gi_at_call 129;refine (Dn.append_in (n - 1) (by omega) w0 q s hs _ hq h0q hbox hb).mono ?_;rintro e w' ⟨v,rfl,hrow,hbl⟩)
  go_ret
  exact ⟨v,rfl,hrow,hbl⟩
set_option maxHeartbeats 1000000 in
theorem Dn.mk_in (n:Nat) (s:List UInt8) (w:World) :
    CallsIn Fence.wide n Tryz.prog 102 #[.string ⟨s.toArray⟩] w fun e w'=>e=.returned (.func (.func 130) #[] #[.pointer (some ⟨w.heap.size,0,none⟩)])∧w'=w.alloc (.cells #[.string ⟨s.toArray⟩] 9):=by
  refine callsIn_of_wp Tryz.func102 rfl trivial ?_ rfl
  simp only [Tryz.ntmps102,List.size_toArray,List.length_cons,List.length_nil,Nat.reduceAdd,Nat.reduceSub,Array.replicate_succ,Array.replicate_zero,List.push_toArray,List.append_toArray,List.nil_append,List.cons_append]
  gi_wp2
  go_ret
  exact ⟨rfl,rfl⟩
theorem Dn.row_slice {W:World} {base:Nat} {e:TypeId} {size:Nat} {v:Value} {k:Nat} {xs:List Value} (h:W.ownsRow base e size v k xs):∃ a n c,v=.slice a n c:=by
  rcases h.2 with ⟨rfl,_⟩ | ⟨g,cap,cur,rfl,_⟩ <;> exact ⟨_,_,_,rfl⟩
set_option maxHeartbeats 1000000 in
theorem Dn.new_in (n:Nat) (hn:4≤n) (s:List UInt8) (hs:s.length≤1048576) (w:World) :
    CallsIn Fence.wide n Tryz.prog 47 #[.string ⟨s.toArray⟩] w fun e w'=>∃ B v,e=.returned (.pointer (some ⟨B,0,none⟩))∧w.heap.size≤B∧w'.heap[B]? = some (.cells #[v,.int .i64 0,.int .i64 (if 2000<s.length then -2 else -1)] 80 (0,0))∧v.oneCell'=true∧v.ownBlock≠some B∧w'.ownsRow w.heap.size 9 1 v (Dn.lines s).length ((Dn.lines s).map encStr)∧Below w.heap.size w w':=by
  have h1:1≤n:=by omega
  refine callsIn_of_wp Tryz.func47 rfl trivial ?_ rfl
  simp only [Tryz.ntmps47,List.size_toArray,List.length_cons,List.length_nil,Nat.reduceAdd,Nat.reduceSub,Array.replicate_succ,Array.replicate_zero,List.push_toArray,List.append_toArray,List.nil_append,List.cons_append]
  have hsz:=Dn.size_mk s
  gi_wp2_with (first
    | (refine ⟨trivial,?_⟩;gi_at_call 102;refine (Dn.mk_in (n - 1) s w).mono ?_;rintro e w1 ⟨rfl,hw1⟩;have hb1:Below w.heap.size w w1:=by rw [hw1];exact (Below.refl _ w).alloc (Nat.le_refl _) _
       have hq1:w1.heap[w.heap.size]? = some (.cells #[.string ⟨s.toArray⟩] 9 (0,0)):=by rw [hw1];exact World.alloc_heap_new w _
       have hs1:w.heap.size<w1.heap.size:=by rw [hw1];simp
       clear hw1)
    | (refine ⟨trivial,?_⟩;gi_at_call 101;refine (Dn.collect_in (n - 1) (by omega) w w.heap.size s hs w1 hs1 (Nat.le_refl _) hq1 hb1).mono ?_;rintro e w2 ⟨v,rfl,hrow,hb2⟩;obtain ⟨va,vn,vc,rfl⟩:=Dn.row_slice hrow))
  all_goals go_ret
  all_goals
    refine ⟨w2.heap.size,rfl,hb2.size,.slice va vn vc,World.alloc_heap_new w2 _,rfl,?_,?_,hb2.alloc hb2.size _⟩
    · intro e
      have:=(hrow.lt _ e).2
      omega
    · exact ownsRow_base_a (hrow.alloc _) (Nat.le_of_lt hs1)
end Go.Proofs
namespace Go.AM
namespace Ps
open Go.Proofs
open Go.Shelf
theorem newI (s:Tx) (hs:s.length≤1048576):SpecAt Tryz.prog 47 [.st s] (rdT (lnsOf s) ⟨0,if 2000<s.length then -2 else -1⟩):=by
  have e:rdT (lnsOf s) ⟨0,if 2000<s.length then -2 else -1⟩=rdr ((Dn.lines s).map encStr) (.int .i64 0) (.int .i64 (if 2000<s.length then -2 else -1)):=by
    unfold rdT rdr Dn.lines
    rw [List.map_map,List.map_map];rfl
  rw [e]
  refine spec_rdr (f:=47) ⟨_,_,Tryz.func47,rfl,by decide⟩ _ rfl _ (fun x hx=>?_) _ _ rfl rfl 9 80 fun I w vals hI hvs hr=>?_
  · obtain ⟨l,_,rfl⟩:=List.mem_map.1 hx;rfl
  obtain ⟨v0,rfl⟩:∃ v0,vals = #[v0]:=by
    match vals,hvs with
    | ⟨[a]⟩,_=>exact ⟨a,rfl⟩
  obtain rfl:=arg_st (hr 0 (by simp) (by simp))
  refine (callsIn_wide.1 (Dn.new_in 4 (Nat.le_refl _) s hs w)).mono ?_
  rintro e w' ⟨B,v,rfl,h1,h2,h3,h4,h5,h6⟩
  exact ⟨B,v,rfl,h1,h2,h3,h4,by rw [List.length_map];exact h5,h6⟩
end Ps
end Go.AM
set_option maxRecDepth 8000
namespace Go.AM
namespace Ps
open Go.Proofs
theorem okL_lns {s:Tx} (hs:s.length≤1048576):okL (lnsOf s):=⟨by have:=lns_len s;omega,fun l hl=>⟨lns_no s l hl,by have:=(lns_mem s l hl).1;omega⟩⟩
def pzT (n:Nat) (X:Except Int (Tx×List (List Int))):Except Int Puzz:=match X with
  | .error e=>.error e
  | .ok (nm,mv)=>if puzzOk ⟨n,nm,mv⟩ then .ok ⟨n,nm,mv⟩ else .error (-4)
end Ps
end Go.AM
set_option maxRecDepth 8000
namespace Go.AM
namespace Ps
open Go.Proofs
def mdT (ks:List Kind) (X:Except Int (Tx×List (List Twist))):Except Int Model:=match X with
  | .error e=>.error e
  | .ok (nm,mv)=>if modelOk ⟨ks,nm,mv⟩ then .ok ⟨ks,nm,mv⟩ else .error (-4)
theorem twS_small {L:List Ln} {ks:List Kind} {r:Rd} (h:ks.length≤4) (hk:∀ k∈ks,inNum k.c∧inNum k.o):smallT (twS L ks r ks.length).2:=by
  refine ⟨by rw [twS_len];omega,fun t ht=>?_⟩
  obtain ⟨i,hi,rfl⟩:=List.getElem_of_mem ht
  have hi':i<ks.length:=by rw [twS_len] at hi;exact hi
  have:=twS_num L ks r ks.length i hi'
  rw [getD_eq _ _ _ hi] at this
  have hc:cOf ks i≤999:=by
    have:=(hk _ (mem_getD ks i default hi')).1
    unfold cOf;unfold inNum at this;omega
  unfold numT at this
  omega
end Ps
end Go.AM
set_option maxRecDepth 8000
namespace Go.AM
namespace Ps
open Go.Proofs
theorem parseStateI (ks:List Kind) (s:Tx) (hs:s.length≤1048576) (hkl:ks.length≤1099511627776):SpecAt Tryz.prog 12 [ksl ks,.st s] (.tup [ttr (pst ks s).1,.i64 (pst ks s).2]):=by
  have hK:=iAreValidKinds ks hkl
  by_cases c1:kindsOk ks
  case neg =>
    rw [decide_eq_false c1] at hK
    have hres:pst ks s=([],-4):=by unfold pst pstE;rw [if_neg c1];rfl
    rw [hres]
    refine spec_of_awp_any (M:=MM) (np:=2) (X:=[6]) (fz:=false) mixed Tryz.func12 rfl rfl (by decide) rfl (Nat.le_refl _) (by decide +kernel) (.inl rfl) (by first | trivial | simp only [sigsOk_nil,sigsOk_some,sigsOk_none,sig_tr,sig_pt,sig_mt,sig_agg,List.map_cons,List.map_nil,sig1_tr,sig1_pt,sig1_v,and_self,true_and,List.length_map,List.length_set]) ?_
    simp -dsimp -implicitDefEqProofs (disch:=first|omega|(simp only [lenr];try omega)) only [↓amPre,↓reduceIte,reduceCtorEq,Nat.reduceEqDiff,Nat.reduceBEq,Nat.reduceAdd,Nat.reduceLeDiff,Nat.reduceSub,Nat.reduceMul,Int.reduceToNat,MM,bu0,cbJ1,cbJ7]
    refine callP_of (hK) ?_
    simp -dsimp -implicitDefEqProofs (disch:=first|omega|(simp only [lenr];try omega)) only [↓amPre,↓reduceIte,reduceCtorEq,Nat.reduceEqDiff,Nat.reduceBEq,Nat.reduceAdd,Nat.reduceLeDiff,Nat.reduceSub,Nat.reduceMul,Int.reduceToNat,MM,bu0,cbJ1,cbJ7]
  rw [decide_eq_true c1] at hK
  obtain ⟨L,hLe⟩:∃ L,L=lnsOf s:=⟨_,rfl⟩
  obtain ⟨t0,ht0⟩:∃ t0:Int,t0=if 2000<s.length then -2 else -1:=⟨_,rfl⟩
  have hL:okL L:=by rw [hLe];exact okL_lns hs
  have hll:=hL.1
  have hnew:=newI s hs
  rw [← hLe,← ht0] at hnew
  obtain ⟨RS,hRS⟩:∃ RS,RS=pstE ks s:=⟨_,rfl⟩
  have hres:pst ks s=outP [] RS:=by rw [hRS];rfl
  have hkn:=c1.1
  have hkb:∀ k∈ks,1≤k.c∧k.c≤20:=fun k hk=>by have:=kindsOk_kind c1 hk;omega
  have hkc:∀ k∈ks,0≤k.c∧k.c≤1048575:=fun k hk=>by have:=hkb k hk;omega
  have hki:∀ k∈ks,inNum k.c∧inNum k.o:=fun k hk=>by have:=kindsOk_kind c1 hk;unfold inNum;omega
  have htw:=twistsI L ks ⟨0,t0⟩ hL (Nat.zero_le _) (by omega) hkc
  have hxl:=twS_len L ks ⟨0,t0⟩ ks.length
  have hxs:=twS_small (L:=L) (r:=⟨0,t0⟩) (show ks.length≤4 by omega) hki
  have hxa:=twS_a (L:=L) (ks:=ks) (r:=⟨0,t0⟩) (Nat.zero_le _) ks.length
  have hmid:((twS L ks ⟨0,t0⟩ ks.length).1.t = -1→(twS L ks ⟨0,t0⟩ ks.length).1.a=2*ks.length∧RS=(if 2*ks.length<L.length then .error (2*ks.length:Nat) else if psOk ks (twS L ks ⟨0,t0⟩ ks.length).2 then .ok (twS L ks ⟨0,t0⟩ ks.length).2 else .error (-4)))∧((twS L ks ⟨0,t0⟩ ks.length).1.t≠-1→RS=.error (twS L ks ⟨0,t0⟩ ks.length).1.t):=by
    by_cases c0:2000<s.length
    · rw [if_pos c0] at ht0
      subst ht0
      rw [twS_bad (r:=⟨0,-2⟩) (by decide)]
      refine ⟨fun h=>absurd (show (-2:Int) = -1 from h) (by decide),fun _=>?_⟩
      rw [hRS];unfold pstE;rw [if_pos c1,if_pos c0]
    · rw [if_neg c0] at ht0
      subst ht0
      have hR2:RS=stR ks L:=by rw [hRS];unfold pstE;rw [if_pos c1,if_neg c0,← hLe]
      rw [hR2]
      have hg:=twS_good L ks 0
      unfold stR
      cases hk:twR L ks 0 with
      | error e =>
        rw [hk] at hg
        obtain ⟨h1,h2⟩:=hg
        rw [h1]
        exact ⟨fun q=>absurd q h2,fun _=>rfl⟩
      | ok x =>
        rw [hk] at hg
        rw [hg]
        exact ⟨fun _=>⟨by show 0+2*ks.length=_;omega,rfl⟩,fun q=>absurd rfl q⟩
  generalize twS L ks ⟨0,t0⟩ ks.length=v at *
  obtain ⟨r,x⟩:=v
  replace hxl:x.length=ks.length:=hxl
  replace hxa:r.a≤L.length:=hxa
  replace hmid:(r.t = -1→r.a=2*ks.length∧RS=(if 2*ks.length<L.length then .error (2*ks.length:Nat) else if psOk ks x then .ok x else .error (-4)))∧(r.t≠-1→RS=.error r.t):=hmid
  replace hxs:smallT x:=hxs
  have hmo:=moreI L r hll
  have hP:=iIsPieceState ks x hkl hxs.1 hxs.2
  by_cases d:r.t = -1
  case neg =>
    have hres2:pst ks s=([],r.t):=by rw [hres,hmid.2 d];rfl
    have hmf:moreS L r=false:=by simp [moreS,d]
    rw [hmf] at hmo
    have hF:=finI L r (decide (psOk ks x))
    rw [if_neg (fun q=>d q.1)] at hF
    rw [hres2]
    refine spec_of_awp_any (M:=MM) (np:=2) (X:=[6]) (fz:=false) mixed Tryz.func12 rfl rfl (by decide) rfl (Nat.le_refl _) (by decide +kernel) (.inl rfl) (by first | trivial | simp only [sigsOk_nil,sigsOk_some,sigsOk_none,sig_tr,sig_pt,sig_mt,sig_agg,List.map_cons,List.map_nil,sig1_tr,sig1_pt,sig1_v,and_self,true_and,List.length_map,List.length_set]) ?_
    simp -dsimp -implicitDefEqProofs (disch:=first|omega|(simp only [lenr];try omega)) only [↓amPre,↓reduceIte,reduceCtorEq,Nat.reduceEqDiff,Nat.reduceBEq,Nat.reduceAdd,Nat.reduceLeDiff,Nat.reduceSub,Nat.reduceMul,Int.reduceToNat,MM,bu0,cbJ1,cbJ7]
    refine callP_of (hK) ?_
    simp -dsimp -implicitDefEqProofs (disch:=first|omega|(simp only [lenr];try omega)) only [↓amPre,↓reduceIte,reduceCtorEq,Nat.reduceEqDiff,Nat.reduceBEq,Nat.reduceAdd,Nat.reduceLeDiff,Nat.reduceSub,Nat.reduceMul,Int.reduceToNat,MM,bu0,cbJ1,cbJ7]
    refine callP_of (hnew) ?_
    simp -dsimp -implicitDefEqProofs (disch:=first|omega|(simp only [lenr];try omega)) only [↓amPre,↓reduceIte,reduceCtorEq,Nat.reduceEqDiff,Nat.reduceBEq,Nat.reduceAdd,Nat.reduceLeDiff,Nat.reduceSub,Nat.reduceMul,Int.reduceToNat,MM,bu0,cbJ1,cbJ7]
    refine callX_of (htw) ?_
    simp -dsimp -implicitDefEqProofs (disch:=first|omega|(simp only [lenr];try omega)) only [↓amPre,↓reduceIte,reduceCtorEq,Nat.reduceEqDiff,Nat.reduceBEq,Nat.reduceAdd,Nat.reduceLeDiff,Nat.reduceSub,Nat.reduceMul,Int.reduceToNat,MM,bu0,cbJ1,cbJ7]
    refine callP_of (hmo) ?_
    simp -dsimp -implicitDefEqProofs (disch:=first|omega|(simp only [lenr];try omega)) only [↓amPre,↓reduceIte,reduceCtorEq,Nat.reduceEqDiff,Nat.reduceBEq,Nat.reduceAdd,Nat.reduceLeDiff,Nat.reduceSub,Nat.reduceMul,Int.reduceToNat,MM,bu0,cbJ1,cbJ7,tfz]
    refine callP_of (hP) ?_
    simp -dsimp -implicitDefEqProofs (disch:=first|omega|(simp only [lenr];try omega)) only [↓amPre,↓reduceIte,reduceCtorEq,Nat.reduceEqDiff,Nat.reduceBEq,Nat.reduceAdd,Nat.reduceLeDiff,Nat.reduceSub,Nat.reduceMul,Int.reduceToNat,MM,bu0,cbJ1,cbJ7]
    refine callP_of (hF) ?_
    simp -dsimp -implicitDefEqProofs (disch:=first|omega|(simp only [lenr];try omega)) only [↓amPre,↓reduceIte,reduceCtorEq,Nat.reduceEqDiff,Nat.reduceBEq,Nat.reduceAdd,Nat.reduceLeDiff,Nat.reduceSub,Nat.reduceMul,Int.reduceToNat,MM,bu0,cbJ1,cbJ7,ne_true d]
  obtain ⟨g1,g2⟩:=hmid.1 d
  by_cases e:2*ks.length<L.length
  · have hres2:pst ks s=([],(r.a:Int)):=by rw [hres,g2,if_pos e,g1];rfl
    have hmt:moreS L r=true:=by simp [moreS,d,g1,e]
    rw [hmt] at hmo
    rw [hres2]
    refine spec_of_awp_any (M:=MM) (np:=2) (X:=[6]) (fz:=false) mixed Tryz.func12 rfl rfl (by decide) rfl (Nat.le_refl _) (by decide +kernel) (.inl rfl) (by first | trivial | simp only [sigsOk_nil,sigsOk_some,sigsOk_none,sig_tr,sig_pt,sig_mt,sig_agg,List.map_cons,List.map_nil,sig1_tr,sig1_pt,sig1_v,and_self,true_and,List.length_map,List.length_set]) ?_
    simp -dsimp -implicitDefEqProofs (disch:=first|omega|(simp only [lenr];try omega)) only [↓amPre,↓reduceIte,reduceCtorEq,Nat.reduceEqDiff,Nat.reduceBEq,Nat.reduceAdd,Nat.reduceLeDiff,Nat.reduceSub,Nat.reduceMul,Int.reduceToNat,MM,bu0,cbJ1,cbJ7]
    refine callP_of (hK) ?_
    simp -dsimp -implicitDefEqProofs (disch:=first|omega|(simp only [lenr];try omega)) only [↓amPre,↓reduceIte,reduceCtorEq,Nat.reduceEqDiff,Nat.reduceBEq,Nat.reduceAdd,Nat.reduceLeDiff,Nat.reduceSub,Nat.reduceMul,Int.reduceToNat,MM,bu0,cbJ1,cbJ7]
    refine callP_of (hnew) ?_
    simp -dsimp -implicitDefEqProofs (disch:=first|omega|(simp only [lenr];try omega)) only [↓amPre,↓reduceIte,reduceCtorEq,Nat.reduceEqDiff,Nat.reduceBEq,Nat.reduceAdd,Nat.reduceLeDiff,Nat.reduceSub,Nat.reduceMul,Int.reduceToNat,MM,bu0,cbJ1,cbJ7]
    refine callX_of (htw) ?_
    simp -dsimp -implicitDefEqProofs (disch:=first|omega|(simp only [lenr];try omega)) only [↓amPre,↓reduceIte,reduceCtorEq,Nat.reduceEqDiff,Nat.reduceBEq,Nat.reduceAdd,Nat.reduceLeDiff,Nat.reduceSub,Nat.reduceMul,Int.reduceToNat,MM,bu0,cbJ1,cbJ7]
    refine callP_of (hmo) ?_
    simp -dsimp -implicitDefEqProofs (disch:=first|omega|(simp only [lenr];try omega)) only [↓amPre,↓reduceIte,reduceCtorEq,Nat.reduceEqDiff,Nat.reduceBEq,Nat.reduceAdd,Nat.reduceLeDiff,Nat.reduceSub,Nat.reduceMul,Int.reduceToNat,MM,bu0,cbJ1,cbJ7]
    refine split_go 5 (by decide +kernel) ?_
    simp -dsimp -implicitDefEqProofs (disch:=first|omega|(simp only [lenr];try omega)) only [↓amPre,↓reduceIte,reduceCtorEq,Nat.reduceEqDiff,Nat.reduceBEq,Nat.reduceAdd,Nat.reduceLeDiff,Nat.reduceSub,Nat.reduceMul,Int.reduceToNat,MM,bu0,cbJ1,cbJ7]
  have hmf:moreS L r=false:=by simp [moreS,d,g1,e]
  rw [hmf] at hmo
  by_cases c9:psOk ks x
  · have hres2:pst ks s=(x,-1):=by rw [hres,g2,if_neg e,if_pos c9];rfl
    rw [decide_eq_true c9] at hP
    have hF:=finI L r true
    rw [d,if_neg (by decide)] at hF
    rw [hres2]
    refine spec_of_awp_any (M:=MM) (np:=2) (X:=[6]) (fz:=false) mixed Tryz.func12 rfl rfl (by decide) rfl (Nat.le_refl _) (by decide +kernel) (.inl rfl) (by first | trivial | simp only [sigsOk_nil,sigsOk_some,sigsOk_none,sig_tr,sig_pt,sig_mt,sig_agg,List.map_cons,List.map_nil,sig1_tr,sig1_pt,sig1_v,and_self,true_and,List.length_map,List.length_set]) ?_
    simp -dsimp -implicitDefEqProofs (disch:=first|omega|(simp only [lenr];try omega)) only [↓amPre,↓reduceIte,reduceCtorEq,Nat.reduceEqDiff,Nat.reduceBEq,Nat.reduceAdd,Nat.reduceLeDiff,Nat.reduceSub,Nat.reduceMul,Int.reduceToNat,MM,bu0,cbJ1,cbJ7]
    refine callP_of (hK) ?_
    simp -dsimp -implicitDefEqProofs (disch:=first|omega|(simp only [lenr];try omega)) only [↓amPre,↓reduceIte,reduceCtorEq,Nat.reduceEqDiff,Nat.reduceBEq,Nat.reduceAdd,Nat.reduceLeDiff,Nat.reduceSub,Nat.reduceMul,Int.reduceToNat,MM,bu0,cbJ1,cbJ7]
    refine callP_of (hnew) ?_
    simp -dsimp -implicitDefEqProofs (disch:=first|omega|(simp only [lenr];try omega)) only [↓amPre,↓reduceIte,reduceCtorEq,Nat.reduceEqDiff,Nat.reduceBEq,Nat.reduceAdd,Nat.reduceLeDiff,Nat.reduceSub,Nat.reduceMul,Int.reduceToNat,MM,bu0,cbJ1,cbJ7]
    refine callX_of (htw) ?_
    simp -dsimp -implicitDefEqProofs (disch:=first|omega|(simp only [lenr];try omega)) only [↓amPre,↓reduceIte,reduceCtorEq,Nat.reduceEqDiff,Nat.reduceBEq,Nat.reduceAdd,Nat.reduceLeDiff,Nat.reduceSub,Nat.reduceMul,Int.reduceToNat,MM,bu0,cbJ1,cbJ7,hxl]
    refine callP_of (hmo) ?_
    simp -dsimp -implicitDefEqProofs (disch:=first|omega|(simp only [lenr];try omega)) only [↓amPre,↓reduceIte,reduceCtorEq,Nat.reduceEqDiff,Nat.reduceBEq,Nat.reduceAdd,Nat.reduceLeDiff,Nat.reduceSub,Nat.reduceMul,Int.reduceToNat,MM,bu0,cbJ1,cbJ7,tfz,hxl]
    refine callP_of (hP) ?_
    simp -dsimp -implicitDefEqProofs (disch:=first|omega|(simp only [lenr];try omega)) only [↓amPre,↓reduceIte,reduceCtorEq,Nat.reduceEqDiff,Nat.reduceBEq,Nat.reduceAdd,Nat.reduceLeDiff,Nat.reduceSub,Nat.reduceMul,Int.reduceToNat,MM,bu0,cbJ1,cbJ7,hxl]
    refine callP_of (hF) ?_
    simp -dsimp -implicitDefEqProofs (disch:=first|omega|(simp only [lenr];try omega)) only [↓amPre,↓reduceIte,reduceCtorEq,Nat.reduceEqDiff,Nat.reduceBEq,Nat.reduceAdd,Nat.reduceLeDiff,Nat.reduceSub,Nat.reduceMul,Int.reduceToNat,MM,bu0,cbJ1,cbJ7,hxl]
  · have hres2:pst ks s=([],-4):=by rw [hres,g2,if_neg e,if_neg c9];rfl
    rw [decide_eq_false c9] at hP
    have hF:=finI L r false
    rw [d,if_pos (by decide)] at hF
    rw [hres2]
    refine spec_of_awp_any (M:=MM) (np:=2) (X:=[6]) (fz:=false) mixed Tryz.func12 rfl rfl (by decide) rfl (Nat.le_refl _) (by decide +kernel) (.inl rfl) (by first | trivial | simp only [sigsOk_nil,sigsOk_some,sigsOk_none,sig_tr,sig_pt,sig_mt,sig_agg,List.map_cons,List.map_nil,sig1_tr,sig1_pt,sig1_v,and_self,true_and,List.length_map,List.length_set]) ?_
    simp -dsimp -implicitDefEqProofs (disch:=first|omega|(simp only [lenr];try omega)) only [↓amPre,↓reduceIte,reduceCtorEq,Nat.reduceEqDiff,Nat.reduceBEq,Nat.reduceAdd,Nat.reduceLeDiff,Nat.reduceSub,Nat.reduceMul,Int.reduceToNat,MM,bu0,cbJ1,cbJ7]
    refine callP_of (hK) ?_
    simp -dsimp -implicitDefEqProofs (disch:=first|omega|(simp only [lenr];try omega)) only [↓amPre,↓reduceIte,reduceCtorEq,Nat.reduceEqDiff,Nat.reduceBEq,Nat.reduceAdd,Nat.reduceLeDiff,Nat.reduceSub,Nat.reduceMul,Int.reduceToNat,MM,bu0,cbJ1,cbJ7]
    refine callP_of (hnew) ?_
    simp -dsimp -implicitDefEqProofs (disch:=first|omega|(simp only [lenr];try omega)) only [↓amPre,↓reduceIte,reduceCtorEq,Nat.reduceEqDiff,Nat.reduceBEq,Nat.reduceAdd,Nat.reduceLeDiff,Nat.reduceSub,Nat.reduceMul,Int.reduceToNat,MM,bu0,cbJ1,cbJ7]
    refine callX_of (htw) ?_
    simp -dsimp -implicitDefEqProofs (disch:=first|omega|(simp only [lenr];try omega)) only [↓amPre,↓reduceIte,reduceCtorEq,Nat.reduceEqDiff,Nat.reduceBEq,Nat.reduceAdd,Nat.reduceLeDiff,Nat.reduceSub,Nat.reduceMul,Int.reduceToNat,MM,bu0,cbJ1,cbJ7]
    refine callP_of (hmo) ?_
    simp -dsimp -implicitDefEqProofs (disch:=first|omega|(simp only [lenr];try omega)) only [↓amPre,↓reduceIte,reduceCtorEq,Nat.reduceEqDiff,Nat.reduceBEq,Nat.reduceAdd,Nat.reduceLeDiff,Nat.reduceSub,Nat.reduceMul,Int.reduceToNat,MM,bu0,cbJ1,cbJ7,tfz]
    refine callP_of (hP) ?_
    simp -dsimp -implicitDefEqProofs (disch:=first|omega|(simp only [lenr];try omega)) only [↓amPre,↓reduceIte,reduceCtorEq,Nat.reduceEqDiff,Nat.reduceBEq,Nat.reduceAdd,Nat.reduceLeDiff,Nat.reduceSub,Nat.reduceMul,Int.reduceToNat,MM,bu0,cbJ1,cbJ7]
    refine callP_of (hF) ?_
    simp -dsimp -implicitDefEqProofs (disch:=first|omega|(simp only [lenr];try omega)) only [↓amPre,↓reduceIte,reduceCtorEq,Nat.reduceEqDiff,Nat.reduceBEq,Nat.reduceAdd,Nat.reduceLeDiff,Nat.reduceSub,Nat.reduceMul,Int.reduceToNat,MM,bu0,cbJ1,cbJ7]
end Ps
end Go.AM
set_option maxRecDepth 8000
namespace Go.AM
namespace Ps
open Go.Proofs
theorem splitTextS (s:Tx) (c:UInt8) (hs:s.length≤1048576):SpecAt Tryz.prog 54 [.st s,.u8 c.toNat] (wtr (spl c s)):=by
  refine spec_of_awp (M:=MM) (np:=2) (fz:=false) mixed Tryz.func54 rfl rfl (by decide) rfl (Nat.le_refl _) (by decide +kernel) (.inl rfl) (by first | trivial | simp only [sigsOk_nil,sigsOk_some,sigsOk_none,sig_tr,sig_pt,sig_mt,sig_agg,List.map_cons,List.map_nil,sig1_tr,sig1_pt,sig1_v,and_self,true_and,List.length_map,List.length_set]) ?_
  simp -dsimp -implicitDefEqProofs (disch:=first|omega|(simp only [lenr];try omega)) only [↓amPre,↓reduceIte,reduceCtorEq,Nat.reduceEqDiff,Nat.reduceBEq,Nat.reduceAdd,Nat.reduceLeDiff,Nat.reduceSub,Nat.reduceMul,Int.reduceToNat,MM,bu0,cbJ7]
  refine awp_loopR 8 32 (.tr 1 []) (by simp -dsimp -implicitDefEqProofs (disch:=first|omega|(simp only [lenr];try omega)) only [↓amPre,↓reduceIte,reduceCtorEq,Nat.reduceEqDiff,Nat.reduceBEq,Nat.reduceAdd,Nat.reduceLeDiff,Nat.reduceSub,Nat.reduceMul,Int.reduceToNat,MM,bu0,cbJ7]) (by decide) (by decide) (by decide) (fun k st=>k≤(s.length+1)∧st.fr 7=.i64 k∧st.fr 0=.st s∧st.fr 1=.u8 c.toNat∧st.fr 5=.ref 32 [] 1 0 (spS c s k).1.length∧st.fr 6=.i64 (spS c s k).2∧st.mem 32=some (.tr 1 ((spS c s k).1.map AV.st))) ((s.length+1)) ?_ ?_
  · simp -dsimp -implicitDefEqProofs (disch:=first|omega|(simp only [lenr];try omega)) only [↓amPre,↓reduceIte,reduceCtorEq,Nat.reduceEqDiff,Nat.reduceBEq,Nat.reduceAdd,Nat.reduceLeDiff,Nat.reduceSub,Nat.reduceMul,Int.reduceToNat,MM,bu0,cbJ7,ren_eq]
    exact ⟨rfl,rfl,rfl,rfl⟩
  rintro k st _ ⟨hk,f7,f0,f1,f5,f6,m32⟩
  obtain ⟨g1,g2⟩:=spS_le c s k
  by_cases hlt:k<s.length+1
  · by_cases c1:k<s.length
    · have c1':((k:Nat):Int)≠s.length:=by omega
      by_cases c2:s.getD k 0=c
      · have hst:spS c s (k+1)=((spS c s k).1++[(s.take k).drop (spS c s k).2],k+1):=by
          rw [spS,if_neg (fun q=>q.2 c2)]
        rw [hst]
        generalize (spS c s k).1=ws at *
        generalize (spS c s k).2=fr at *
        simp -dsimp -implicitDefEqProofs (disch:=first|omega|(simp only [lenr];try omega)) only [↓amPre,↓reduceIte,reduceCtorEq,Nat.reduceEqDiff,Nat.reduceBEq,Nat.reduceAdd,Nat.reduceLeDiff,Nat.reduceSub,Nat.reduceMul,Int.reduceToNat,MM,bu0,cbJ7,f7,f0,f1,f5,f6,m32,le_true (show ((k:Nat):Int)≤s.length by omega),eq_false c1',u8eq,c2]
        exact ⟨hlt,by omega⟩
      · have hst:spS c s (k+1)=spS c s k:=by
          rw [spS,if_pos ⟨c1,c2⟩]
        rw [hst]
        generalize (spS c s k).1=ws at *
        generalize (spS c s k).2=fr at *
        simp -dsimp -implicitDefEqProofs (disch:=first|omega|(simp only [lenr];try omega)) only [↓amPre,↓reduceIte,reduceCtorEq,Nat.reduceEqDiff,Nat.reduceBEq,Nat.reduceAdd,Nat.reduceLeDiff,Nat.reduceSub,Nat.reduceMul,Int.reduceToNat,MM,bu0,cbJ7,f7,f0,f1,f5,f6,m32,le_true (show ((k:Nat):Int)≤s.length by omega),eq_false c1',u8eq,c2,decide_eq_false c2]
        exact ⟨hlt,by omega⟩
    · have hke:k=s.length:=by omega
      subst hke
      have hst:spS c s (s.length+1)=((spS c s s.length).1++[(s.take s.length).drop (spS c s s.length).2],s.length+1):=by
        rw [spS,if_neg (fun q=>c1 q.1)]
      rw [hst]
      generalize (spS c s s.length).1=ws at *
      generalize (spS c s s.length).2=fr at *
      simp -dsimp -implicitDefEqProofs (disch:=first|omega|(simp only [lenr];try omega)) only [↓amPre,↓reduceIte,reduceCtorEq,Nat.reduceEqDiff,Nat.reduceBEq,Nat.reduceAdd,Nat.reduceLeDiff,Nat.reduceSub,Nat.reduceMul,Int.reduceToNat,MM,bu0,cbJ7,f7,f0,f1,f5,f6,m32,le_true (Int.le_refl ((s.length:Nat):Int)),eq_true (rfl:((s.length:Nat):Int)=s.length)]
      exact ⟨hlt,by omega⟩
  · have hke:k=s.length+1:=by omega
    subst hke
    rw [spS_all] at f5 m32
    simp -dsimp -implicitDefEqProofs (disch:=first|omega|(simp only [lenr];try omega)) only [↓amPre,↓reduceIte,reduceCtorEq,Nat.reduceEqDiff,Nat.reduceBEq,Nat.reduceAdd,Nat.reduceLeDiff,Nat.reduceSub,Nat.reduceMul,Int.reduceToNat,MM,bu0,cbJ7,f7,f0,f1,f5,f6,m32,le_false (show ((s.length:Nat):Int)<((s.length+1:Nat):Int) by omega)]
/-! numbers -/
def digs (w:Tx):Prop:=∀ x∈w,48≤x.toNat∧x.toNat≤57
theorem val_lt:∀ (w:Tx) (n:Nat),digs w→w.foldl (fun n x=>n*10+(x.toNat - 48)) n<(n+1)*10 ^ w.length
  | [],n,_=>by simp
  | x :: r,n,h=>by
    have hx:=h x (by simp)
    have ih:=val_lt r (n*10+(x.toNat - 48)) fun y hy=>h y (by simp [hy])
    rw [List.foldl_cons,List.length_cons]
    refine Nat.lt_of_lt_of_le ih ?_
    rw [Nat.pow_succ,Nat.mul_comm (10 ^ r.length) 10,← Nat.mul_assoc]
    exact Nat.mul_le_mul_right _ (by omega)
theorem val_b {w:Tx} (h:digs w) (hl:w.length≤9):valW w<1000000000:=by
  have h1:=val_lt w 0 h
  have h2:10 ^ w.length≤10 ^ 9:=Nat.pow_le_pow_right (by decide) hl
  unfold valW
  omega
theorem val_take (w:Tx) (k:Nat) (h:k<w.length):valW (w.take (k+1))=valW (w.take k)*10+((w.getD k 0).toNat - 48):=by
  rw [take_succ_eq w k 0 h,val_app];rfl
def pI (w:Tx):Int×Bool:=if isNum w then ((valW w:Int),true) else (0,false)
theorem parseIntS (w:Tx) (hw:w.length≤1048576):SpecAt Tryz.prog 141 [.st w] (.tup [.i64 (pI w).1,.bl (pI w).2]):=by
  by_cases c1:w.length<1
  · have e:pI w=(0,false):=if_neg fun q=>by have:=q.1.1;omega
    rw [e]
    refine spec_of_awp (M:=MM) (np:=1) (fz:=true) mixed Tryz.func141 rfl rfl (by decide) rfl (Nat.le_refl _) (by decide +kernel) (.inr ⟨rfl,rfl⟩) trivial ?_
    simp -dsimp -implicitDefEqProofs (disch:=first|omega|(simp only [lenr];try omega)) only [↓amPre,↓reduceIte,reduceCtorEq,Nat.reduceEqDiff,Nat.reduceBEq,Nat.reduceAdd,Nat.reduceLeDiff,Nat.reduceSub,Nat.reduceMul,Int.reduceToNat,MM,bu0,cbJ7,lt_true (show ((w.length:Nat):Int)<1 by omega)]
  have hpos:0<w.length:=by omega
  by_cases c2:9<w.length
  · have e:pI w=(0,false):=if_neg fun q=>by have:=q.1.2;omega
    rw [e]
    refine spec_of_awp (M:=MM) (np:=1) (fz:=true) mixed Tryz.func141 rfl rfl (by decide) rfl (Nat.le_refl _) (by decide +kernel) (.inr ⟨rfl,rfl⟩) trivial ?_
    simp -dsimp -implicitDefEqProofs (disch:=first|omega|(simp only [lenr];try omega)) only [↓amPre,↓reduceIte,reduceCtorEq,Nat.reduceEqDiff,Nat.reduceBEq,Nat.reduceAdd,Nat.reduceLeDiff,Nat.reduceSub,Nat.reduceMul,Int.reduceToNat,MM,bu0,cbJ7,lt_false (show (1:Int)≤((w.length:Nat):Int) by omega),lt_true (show (9:Int)<((w.length:Nat):Int) by omega)]
  obtain ⟨x,hx⟩:∃ x,x=w.getD 0 0:=⟨_,rfl⟩
  by_cases c3:x=48∧1<w.length
  · have e:pI w=(0,false):=if_neg fun q=>q.2.1 (by rw [← hx];exact c3)
    rw [e]
    have hx48:((x.toNat:Nat):Int)=48:=by rw [c3.1];rfl
    refine spec_of_awp (M:=MM) (np:=1) (fz:=true) mixed Tryz.func141 rfl rfl (by decide) rfl (Nat.le_refl _) (by decide +kernel) (.inr ⟨rfl,rfl⟩) trivial ?_
    simp -dsimp -implicitDefEqProofs (disch:=first|omega|(simp only [lenr];try omega)) only [↓amPre,↓reduceIte,reduceCtorEq,Nat.reduceEqDiff,Nat.reduceBEq,Nat.reduceAdd,Nat.reduceLeDiff,Nat.reduceSub,Nat.reduceMul,Int.reduceToNat,MM,bu0,cbJ7,lt_false (show (1:Int)≤((w.length:Nat):Int) by omega),lt_false (show ((w.length:Nat):Int)≤(9:Int) by omega),lt_true (show (1:Int)<((w.length:Nat):Int) by omega),← hx,eq_true hx48]
  have hw9:w.length≤9:=by omega
  have hno:∀ k,k<w.length→¬ (48≤(w.getD k 0).toNat∧(w.getD k 0).toNat≤57)→pI w=(0,false):=fun k hk hb=>if_neg fun q=>hb (q.2.2 _ (mem_getD w k 0 hk))
  have hyes:digs w→pI w=((valW w:Int),true):=fun hd=>if_pos ⟨⟨by omega,hw9⟩,fun q=>c3 ⟨by rw [hx];exact q.1,q.2⟩,hd⟩
  refine spec_of_awp (M:=MM) (np:=1) (fz:=true) mixed Tryz.func141 rfl rfl (by decide) rfl (Nat.le_refl _) (by decide +kernel) (.inr ⟨rfl,rfl⟩) trivial ?_
  by_cases c4:x=48
  · have hx48:((x.toNat:Nat):Int)=48:=by rw [c4];rfl
    have hl1:¬ 1<w.length:=fun q=>c3 ⟨c4,q⟩
    simp -dsimp -implicitDefEqProofs (disch:=first|omega|(simp only [lenr];try omega)) only [↓amPre,↓reduceIte,reduceCtorEq,Nat.reduceEqDiff,Nat.reduceBEq,Nat.reduceAdd,Nat.reduceLeDiff,Nat.reduceSub,Nat.reduceMul,Int.reduceToNat,MM,bu0,cbJ7,lt_false (show (1:Int)≤((w.length:Nat):Int) by omega),lt_false (show ((w.length:Nat):Int)≤(9:Int) by omega),← hx,eq_true hx48,lt_false (show ((w.length:Nat):Int)≤(1:Int) by omega)]
    refine awp_loop (fun k st=>k≤w.length∧st.fr 5=.i64 k∧st.fr 0=.st w∧st.fr 4=.i64 (valW (w.take k))∧(digs (w.take k))) (w.length) ?_ ?_
    · simp -dsimp -implicitDefEqProofs (disch:=first|omega|(simp only [lenr];try omega)) only [↓amPre,↓reduceIte,reduceCtorEq,Nat.reduceEqDiff,Nat.reduceBEq,Nat.reduceAdd,Nat.reduceLeDiff,Nat.reduceSub,Nat.reduceMul,Int.reduceToNat,MM,bu0,cbJ7]
      exact ⟨Nat.zero_le _,rfl,rfl,fun y hy=>(by cases hy)⟩
    rintro k st _ ⟨hk,f5,f0,f4,ek⟩
    by_cases hlt:k<w.length
    · have hd9:=val_b ek (by rw [List.length_take];omega)
      have hno:=hno k hlt
      have hvt:=val_take w k hlt
      have hdg:(48≤(w.getD k 0).toNat∧(w.getD k 0).toNat≤57)→digs (w.take (k+1)):=fun q=>(mem_take_succ (d:=0) hlt).2 ⟨ek,q⟩
      have hlt':((k:Nat):Int)<w.length:=by omega
      generalize hy:w.getD k 0=y at *
      have hyb:=y.toNat_lt
      by_cases e1:y.toNat<48
      · rw [hno (by omega)]
        simp -dsimp -implicitDefEqProofs (disch:=first|omega|(simp only [lenr];try omega)) only [↓amPre,↓reduceIte,reduceCtorEq,Nat.reduceEqDiff,Nat.reduceBEq,Nat.reduceAdd,Nat.reduceLeDiff,Nat.reduceSub,Nat.reduceMul,Int.reduceToNat,MM,bu0,cbJ7,f5,f0,f4,lt_true hlt',hy,lt_true (show ((y.toNat:Nat):Int)<48 by omega)]
      by_cases e2:57<y.toNat
      · rw [hno (by omega)]
        simp -dsimp -implicitDefEqProofs (disch:=first|omega|(simp only [lenr];try omega)) only [↓amPre,↓reduceIte,reduceCtorEq,Nat.reduceEqDiff,Nat.reduceBEq,Nat.reduceAdd,Nat.reduceLeDiff,Nat.reduceSub,Nat.reduceMul,Int.reduceToNat,MM,bu0,cbJ7,f5,f0,f4,lt_true hlt',hy,lt_false (show (48:Int)≤((y.toNat:Nat):Int) by omega),lt_true (show (57:Int)<((y.toNat:Nat):Int) by omega)]
      have a1:IntKind.u8.wrap ((y.toNat:Int) - 48)=((y.toNat - 48:Nat):Int):=by rw [IntWalk.u8_in _ (by omega)];omega
      have a2:IntKind.i64.wrap ((y.toNat - 48:Nat):Int)=((y.toNat - 48:Nat):Int):=wrap64_id (by omega)
      have a3:IntKind.i64.wrap (((valW (w.take k):Nat):Int)*10)=((valW (w.take k)*10:Nat):Int):=by rw [wrap64_id (by omega)];omega
      have a4:IntKind.i64.wrap (((valW (w.take k)*10:Nat):Int)+((y.toNat - 48:Nat):Int))=((valW (w.take (k+1)):Nat):Int):=by rw [wrap64_id (by omega),hvt];omega
      simp -dsimp -implicitDefEqProofs (disch:=first|omega|(simp only [lenr];try omega)) only [↓amPre,↓reduceIte,reduceCtorEq,Nat.reduceEqDiff,Nat.reduceBEq,Nat.reduceAdd,Nat.reduceLeDiff,Nat.reduceSub,Nat.reduceMul,Int.reduceToNat,MM,bu0,cbJ7,f5,f0,f4,lt_true hlt',hy,lt_false (show (48:Int)≤((y.toNat:Nat):Int) by omega),lt_false (show ((y.toNat:Nat):Int)≤(57:Int) by omega),a1,a2,a3,a4]
      exact ⟨hlt,by omega,by have q:=hdg (by omega);first | exact q | (rw [List.take_of_length_le (by omega)] at q;exact q)⟩
    · have hke:k=w.length:=by omega
      subst hke
      rw [List.take_length] at f4 ek
      rw [hyes ek]
      simp -dsimp -implicitDefEqProofs (disch:=first|omega|(simp only [lenr];try omega)) only [↓amPre,↓reduceIte,reduceCtorEq,Nat.reduceEqDiff,Nat.reduceBEq,Nat.reduceAdd,Nat.reduceLeDiff,Nat.reduceSub,Nat.reduceMul,Int.reduceToNat,MM,bu0,cbJ7,f5,f0,f4,lt_false (Int.le_refl ((w.length:Nat):Int))]
  · have hx48:((x.toNat:Nat):Int)≠48:=fun q=>c4 (UInt8.toNat_inj.1 (by show x.toNat=48;omega))
    simp -dsimp -implicitDefEqProofs (disch:=first|omega|(simp only [lenr];try omega)) only [↓amPre,↓reduceIte,reduceCtorEq,Nat.reduceEqDiff,Nat.reduceBEq,Nat.reduceAdd,Nat.reduceLeDiff,Nat.reduceSub,Nat.reduceMul,Int.reduceToNat,MM,bu0,cbJ7,lt_false (show (1:Int)≤((w.length:Nat):Int) by omega),lt_false (show ((w.length:Nat):Int)≤(9:Int) by omega),← hx,eq_false hx48]
    refine awp_loop (fun k st=>k≤w.length∧st.fr 5=.i64 k∧st.fr 0=.st w∧st.fr 4=.i64 (valW (w.take k))∧(digs (w.take k))) (w.length) ?_ ?_
    · simp -dsimp -implicitDefEqProofs (disch:=first|omega|(simp only [lenr];try omega)) only [↓amPre,↓reduceIte,reduceCtorEq,Nat.reduceEqDiff,Nat.reduceBEq,Nat.reduceAdd,Nat.reduceLeDiff,Nat.reduceSub,Nat.reduceMul,Int.reduceToNat,MM,bu0,cbJ7]
      exact ⟨Nat.zero_le _,rfl,rfl,fun y hy=>(by cases hy)⟩
    rintro k st _ ⟨hk,f5,f0,f4,ek⟩
    by_cases hlt:k<w.length
    · have hd9:=val_b ek (by rw [List.length_take];omega)
      have hno:=hno k hlt
      have hvt:=val_take w k hlt
      have hdg:(48≤(w.getD k 0).toNat∧(w.getD k 0).toNat≤57)→digs (w.take (k+1)):=fun q=>(mem_take_succ (d:=0) hlt).2 ⟨ek,q⟩
      have hlt':((k:Nat):Int)<w.length:=by omega
      generalize hy:w.getD k 0=y at *
      have hyb:=y.toNat_lt
      by_cases e1:y.toNat<48
      · rw [hno (by omega)]
        simp -dsimp -implicitDefEqProofs (disch:=first|omega|(simp only [lenr];try omega)) only [↓amPre,↓reduceIte,reduceCtorEq,Nat.reduceEqDiff,Nat.reduceBEq,Nat.reduceAdd,Nat.reduceLeDiff,Nat.reduceSub,Nat.reduceMul,Int.reduceToNat,MM,bu0,cbJ7,f5,f0,f4,lt_true hlt',hy,lt_true (show ((y.toNat:Nat):Int)<48 by omega)]
      by_cases e2:57<y.toNat
      · rw [hno (by omega)]
        simp -dsimp -implicitDefEqProofs (disch:=first|omega|(simp only [lenr];try omega)) only [↓amPre,↓reduceIte,reduceCtorEq,Nat.reduceEqDiff,Nat.reduceBEq,Nat.reduceAdd,Nat.reduceLeDiff,Nat.reduceSub,Nat.reduceMul,Int.reduceToNat,MM,bu0,cbJ7,f5,f0,f4,lt_true hlt',hy,lt_false (show (48:Int)≤((y.toNat:Nat):Int) by omega),lt_true (show (57:Int)<((y.toNat:Nat):Int) by omega)]
      have a1:IntKind.u8.wrap ((y.toNat:Int) - 48)=((y.toNat - 48:Nat):Int):=by rw [IntWalk.u8_in _ (by omega)];omega
      have a2:IntKind.i64.wrap ((y.toNat - 48:Nat):Int)=((y.toNat - 48:Nat):Int):=wrap64_id (by omega)
      have a3:IntKind.i64.wrap (((valW (w.take k):Nat):Int)*10)=((valW (w.take k)*10:Nat):Int):=by rw [wrap64_id (by omega)];omega
      have a4:IntKind.i64.wrap (((valW (w.take k)*10:Nat):Int)+((y.toNat - 48:Nat):Int))=((valW (w.take (k+1)):Nat):Int):=by rw [wrap64_id (by omega),hvt];omega
      simp -dsimp -implicitDefEqProofs (disch:=first|omega|(simp only [lenr];try omega)) only [↓amPre,↓reduceIte,reduceCtorEq,Nat.reduceEqDiff,Nat.reduceBEq,Nat.reduceAdd,Nat.reduceLeDiff,Nat.reduceSub,Nat.reduceMul,Int.reduceToNat,MM,bu0,cbJ7,f5,f0,f4,lt_true hlt',hy,lt_false (show (48:Int)≤((y.toNat:Nat):Int) by omega),lt_false (show ((y.toNat:Nat):Int)≤(57:Int) by omega),a1,a2,a3,a4]
      exact ⟨hlt,by omega,by have q:=hdg (by omega);first | exact q | (rw [List.take_of_length_le (by omega)] at q;exact q)⟩
    · have hke:k=w.length:=by omega
      subst hke
      rw [List.take_length] at f4 ek
      rw [hyes ek]
      simp -dsimp -implicitDefEqProofs (disch:=first|omega|(simp only [lenr];try omega)) only [↓amPre,↓reduceIte,reduceCtorEq,Nat.reduceEqDiff,Nat.reduceBEq,Nat.reduceAdd,Nat.reduceLeDiff,Nat.reduceSub,Nat.reduceMul,Int.reduceToNat,MM,bu0,cbJ7,f5,f0,f4,lt_false (Int.le_refl ((w.length:Nat):Int))]
end Ps
end Go.AM
set_option maxRecDepth 8000
namespace Go.AM
namespace Ps
open Go.Proofs
def lnP (l:Ln):AV:=.st l.1
theorem lpgm (L:List Ln) (i:Nat) (h:i<L.length):(L.map lnP).getD i .any=.st (lat L i).1:=by
  simp [List.getD,h,lat];rfl
theorem lpfz (L:List Ln):(L.map lnP).map AV.fz=L.map lnP:=map_fz _ _ _ fun _=>fz_v _
theorem lpfzL (L:List Ln):AV.fzL (L.map lnP)=L.map lnP:=by rw [fzL_map,lpfz]
theorem stfzL (xs:List Tx):AV.fzL (xs.map AV.st)=xs.map AV.st:=by rw [fzL_map,stfz]
theorem kfzL (ks:List Kind):AV.fzL (ks.map Kind.av)=ks.map Kind.av:=by rw [fzL_map,kfz]
def iI (w:Tx):Int×Bool:=((pI w).1,(pI w).2 && decide ((pI w).1<1000))
theorem iI_num (w:Tx):num w=if (iI w).2=true then some (iI w).1 else none:=by
  unfold num iI pI
  by_cases c:isNum w
  · rw [if_pos c]
    by_cases c2:valW w<1000
    · rw [if_pos ⟨c,c2⟩,if_pos (by simp;omega)]
    · rw [if_neg (fun q=>c2 q.2),if_neg (by simp;omega)]
  · rw [if_neg c,if_neg (fun q=>c q.1),if_neg (by simp)]
theorem intS (w:Tx) (hw:w.length≤1048576):SpecAt Tryz.prog 116 [.st w] (.tup [.i64 (iI w).1,.bl (iI w).2]):=by
  have hp:=parseIntS w hw
  unfold iI
  cases hb:(pI w).2 with
  | true =>
    rw [hb] at hp
    refine spec_of_awp (M:=MM) (np:=1) (fz:=true) mixed Tryz.func116 rfl rfl (by decide) rfl (Nat.le_refl _) (by decide +kernel) (.inr ⟨rfl,rfl⟩) trivial ?_
    simp -dsimp -implicitDefEqProofs (disch:=first|omega|(simp only [lenr];try omega)) only [↓amPre,↓reduceIte,reduceCtorEq,Nat.reduceEqDiff,Nat.reduceBEq,Nat.reduceAdd,Nat.reduceLeDiff,Nat.reduceSub,Nat.reduceMul,Int.reduceToNat,MM,bu0,cbJ7,Ps.lpgm,Ps.lpfz,Ps.lpfzL,Ps.stfzL,Ps.kfzL]
    refine callP_of (hp) ?_
    simp -dsimp -implicitDefEqProofs (disch:=first|omega|(simp only [lenr];try omega)) only [↓amPre,↓reduceIte,reduceCtorEq,Nat.reduceEqDiff,Nat.reduceBEq,Nat.reduceAdd,Nat.reduceLeDiff,Nat.reduceSub,Nat.reduceMul,Int.reduceToNat,MM,bu0,cbJ7,Ps.lpgm,Ps.lpfz,Ps.lpfzL,Ps.stfzL,Ps.kfzL]
  | false =>
    rw [hb] at hp
    refine spec_of_awp (M:=MM) (np:=1) (fz:=true) mixed Tryz.func116 rfl rfl (by decide) rfl (Nat.le_refl _) (by decide +kernel) (.inr ⟨rfl,rfl⟩) trivial ?_
    simp -dsimp -implicitDefEqProofs (disch:=first|omega|(simp only [lenr];try omega)) only [↓amPre,↓reduceIte,reduceCtorEq,Nat.reduceEqDiff,Nat.reduceBEq,Nat.reduceAdd,Nat.reduceLeDiff,Nat.reduceSub,Nat.reduceMul,Int.reduceToNat,MM,bu0,cbJ7,Ps.lpgm,Ps.lpfz,Ps.lpfzL,Ps.stfzL,Ps.kfzL]
    refine callP_of (hp) ?_
    simp -dsimp -implicitDefEqProofs (disch:=first|omega|(simp only [lenr];try omega)) only [↓amPre,↓reduceIte,reduceCtorEq,Nat.reduceEqDiff,Nat.reduceBEq,Nat.reduceAdd,Nat.reduceLeDiff,Nat.reduceSub,Nat.reduceMul,Int.reduceToNat,MM,bu0,cbJ7,Ps.lpgm,Ps.lpfz,Ps.lpfzL,Ps.stfzL,Ps.kfzL]
def endN (L:List Ln):Nat:=if endd L then L.length else L.length - 1
theorem linesS (s:Tx) (hs:s.length≤1048576):SpecAt Tryz.prog 52 [.st s] (.tup [.tr 1 ((lnsOf s).map lnP),.i64 (endN (lnsOf s))]):=by
  by_cases c0:s=[]
  · subst c0
    refine spec_of_awp (M:=MM) (np:=1) (fz:=false) mixed Tryz.func52 rfl rfl (by decide) rfl (Nat.le_refl _) (by decide +kernel) (.inl rfl) (by first | trivial | simp only [sigsOk_nil,sigsOk_some,sigsOk_none,sig_tr,sig_pt,sig_mt,sig_agg,List.map_cons,List.map_nil,sig1_tr,sig1_pt,sig1_v,and_self,true_and,List.length_map,List.length_set]) ?_
    simp -dsimp -implicitDefEqProofs (disch:=first|omega|(simp only [lenr];try omega)) only [↓amPre,↓reduceIte,reduceCtorEq,Nat.reduceEqDiff,Nat.reduceBEq,Nat.reduceAdd,Nat.reduceLeDiff,Nat.reduceSub,Nat.reduceMul,Int.reduceToNat,MM,bu0,cbJ7,Ps.lpgm,Ps.lpfz,Ps.lpfzL,Ps.stfzL,Ps.kfzL,txeq (rfl:([]:Tx)=[])]
    exact ⟨rfl,rfl⟩
  have hsp:=splitTextS s 10 hs
  have hl:=spl_lns s
  have hne:lnsOf s≠[]:=fun q=>c0 (lns_nil.1 q)
  have hpos:0<(lnsOf s).length:=List.length_pos_iff.2 hne
  have hll:=lns_len s
  by_cases ce:endd (lnsOf s)=true
  · rw [if_pos ce] at hl
    have hlen:(spl 10 s).length=(lnsOf s).length+1:=by rw [hl];simp
    have hlast:(spl 10 s).getD (lnsOf s).length []=[]:=by rw [hl,List.getD_eq_getElem?_getD,List.getElem?_append_right (by simp)];simp
    have hE:endN (lnsOf s)=(lnsOf s).length:=if_pos ce
    have htk:((spl 10 s).map AV.st).take (lnsOf s).length=(lnsOf s).map lnP:=by
      rw [hl,List.map_append,List.take_append_of_le_length (by simp),List.take_of_length_le (by simp),List.map_map];rfl
    rw [hE]
    generalize (lnsOf s).length=N at *
    have hN:(((N+1:Nat):Int) - 1).toNat=N:=by omega
    refine spec_of_awp (M:=MM) (np:=1) (fz:=false) mixed Tryz.func52 rfl rfl (by decide) rfl (Nat.le_refl _) (by decide +kernel) (.inl rfl) (by first | trivial | simp only [sigsOk_nil,sigsOk_some,sigsOk_none,sig_tr,sig_pt,sig_mt,sig_agg,List.map_cons,List.map_nil,sig1_tr,sig1_pt,sig1_v,and_self,true_and,List.length_map,List.length_set]) ?_
    simp -dsimp -implicitDefEqProofs (disch:=first|omega|(simp only [lenr];try omega)) only [↓amPre,↓reduceIte,reduceCtorEq,Nat.reduceEqDiff,Nat.reduceBEq,Nat.reduceAdd,Nat.reduceLeDiff,Nat.reduceSub,Nat.reduceMul,Int.reduceToNat,MM,bu0,cbJ7,Ps.lpgm,Ps.lpfz,Ps.lpfzL,Ps.stfzL,Ps.kfzL,txne c0]
    refine callP_of (hsp) ?_
    simp -dsimp -implicitDefEqProofs (disch:=first|omega|(simp only [lenr];try omega)) only [↓amPre,↓reduceIte,reduceCtorEq,Nat.reduceEqDiff,Nat.reduceBEq,Nat.reduceAdd,Nat.reduceLeDiff,Nat.reduceSub,Nat.reduceMul,Int.reduceToNat,MM,bu0,cbJ7,Ps.lpgm,Ps.lpfz,Ps.lpfzL,Ps.stfzL,Ps.kfzL,hlen,hN,hlast,txeq (rfl:([]:Tx)=[])]
    exact ⟨by rw [Nat.sub_zero,List.map_take];exact htk,rfl⟩
  · have ce:endd (lnsOf s)=false:=by simpa using ce
    rw [if_neg (by rw [ce];decide),List.append_nil] at hl
    obtain ⟨N,hN0⟩:∃ N,(lnsOf s).length=N+1:=⟨(lnsOf s).length - 1,by omega⟩
    have hlen:(spl 10 s).length=N+1:=by rw [hl];simp [hN0]
    have hlast:(spl 10 s).getD N []≠[]:=by
      have h1:((lnsOf s).getD N default).2=false:=by
        apply Decidable.byContradiction
        intro q
        have q:((lnsOf s).getD N default).2=true:=by simpa using q
        have:endd (lnsOf s)=true:=by
          unfold endd
          rw [List.all_eq_true]
          intro x hx
          obtain ⟨j,hj,rfl⟩:=List.getElem_of_mem hx
          by_cases hjn:j<N
          · have:=lns_end s j (by omega)
            rw [getD_eq _ _ _ hj] at this
            exact this
          · have:j=N:=by omega
            subst this
            rw [getD_eq _ _ _ hj] at q
            exact q
        rw [ce] at this;cases this
      have h2:=(lns_mem s _ (mem_getD (lnsOf s) N default (by omega))).2 h1
      have h3:(spl 10 s).getD N []=((lnsOf s).getD N default).1:=by
        rw [hl,getD_eq _ _ _ (by simp [hN0]),List.getElem_map,← getD_eq _ _ default]
      rw [h3];exact h2
    have hE:endN (lnsOf s)=N:=by unfold endN;rw [ce,hN0];rfl
    have hmp:(spl 10 s).map AV.st=(lnsOf s).map lnP:=by rw [hl,List.map_map];rfl
    have hN:(((N+1:Nat):Int) - 1).toNat=N:=by omega
    rw [hE]
    refine spec_of_awp (M:=MM) (np:=1) (fz:=false) mixed Tryz.func52 rfl rfl (by decide) rfl (Nat.le_refl _) (by decide +kernel) (.inl rfl) (by first | trivial | simp only [sigsOk_nil,sigsOk_some,sigsOk_none,sig_tr,sig_pt,sig_mt,sig_agg,List.map_cons,List.map_nil,sig1_tr,sig1_pt,sig1_v,and_self,true_and,List.length_map,List.length_set]) ?_
    simp -dsimp -implicitDefEqProofs (disch:=first|omega|(simp only [lenr];try omega)) only [↓amPre,↓reduceIte,reduceCtorEq,Nat.reduceEqDiff,Nat.reduceBEq,Nat.reduceAdd,Nat.reduceLeDiff,Nat.reduceSub,Nat.reduceMul,Int.reduceToNat,MM,bu0,cbJ7,Ps.lpgm,Ps.lpfz,Ps.lpfzL,Ps.stfzL,Ps.kfzL,txne c0]
    refine callP_of (hsp) ?_
    simp -dsimp -implicitDefEqProofs (disch:=first|omega|(simp only [lenr];try omega)) only [↓amPre,↓reduceIte,reduceCtorEq,Nat.reduceEqDiff,Nat.reduceBEq,Nat.reduceAdd,Nat.reduceLeDiff,Nat.reduceSub,Nat.reduceMul,Int.reduceToNat,MM,bu0,cbJ7,Ps.lpgm,Ps.lpfz,Ps.lpfzL,Ps.stfzL,Ps.kfzL,hlen,hN,txne hlast]
    exact ⟨hmp,vic (by omega)⟩
theorem numsW_iI:∀ us:List Tx,numsW us=if ∀ w∈us,(iI w).2=true then some (us.map fun w=>(iI w).1) else none
  | []=>rfl
  | w :: r=>by
    have ih:=numsW_iI r
    rw [numsW,iI_num w,ih]
    by_cases h1:(iI w).2=true
    · rw [if_pos h1]
      by_cases h2:∀ w∈r,(iI w).2=true
      · rw [if_pos h2,if_pos (fun x hx=>by
          rcases List.mem_cons.1 hx with rfl | hx
          · exact h1
          · exact h2 x hx)]
        rfl
      · rw [if_neg h2,if_neg (fun q=>h2 fun x hx=>q x (List.mem_cons_of_mem _ hx))]
    · have hn:¬ ∀ x∈w :: r,(iI x).2=true:=fun q=>h1 (q w (by simp))
      rw [if_neg h1,if_neg hn]
def liR (t f:Tx) (c:Nat):List Int×Bool:=match lineI (t,true) f c with | some l=>(l,true) | none=>([],false)
theorem intsS (t f:Tx) (c:Nat) (ht:t.length≤1048576) (hc:c≤1048576):SpecAt Tryz.prog 73 [.st t,.st f,.i64 c] (.tup [itr (liR t f c).1,.bl (liR t f c).2]):=by
  have hsp:=splitTextS t 32 ht
  have hsl:=spl_len 32 t
  have hpos:0<(spl 32 t).length:=List.length_pos_iff.2 (spl_ne _ _)
  have hmem:∀ w∈spl 32 t,w.length≤1048576:=fun w hw=>by have:=spl_mem 32 t w hw;omega
  obtain ⟨ws,hws⟩:∃ ws,ws=spl 32 t:=⟨_,rfl⟩
  have hw1:IntKind.i64.wrap (1+(c:Int))=1+(c:Int):=wrap64_id (by omega)
  have hno:¬ (ws.getD 0 []=f∧ws.length=c+1)→liR t f c=([],false):=fun q=>by
    unfold liR lineI lineW
    dsimp only
    rw [← hws,if_neg (fun q2=>q q2.2)]
  rw [← hws] at hsp hsl hpos hmem
  by_cases c1:ws.length=c+1
  case neg =>
    rw [hno (fun q=>c1 q.2)]
    refine spec_of_awp (M:=MM) (np:=3) (fz:=false) mixed Tryz.func73 rfl rfl (by decide) rfl (Nat.le_refl _) (by decide +kernel) (.inl rfl) (by first | trivial | simp only [sigsOk_nil,sigsOk_some,sigsOk_none,sig_tr,sig_pt,sig_mt,sig_agg,List.map_cons,List.map_nil,sig1_tr,sig1_pt,sig1_v,and_self,true_and,List.length_map,List.length_set]) ?_
    simp -dsimp -implicitDefEqProofs (disch:=first|omega|(simp only [lenr];try omega)) only [↓amPre,↓reduceIte,reduceCtorEq,Nat.reduceEqDiff,Nat.reduceBEq,Nat.reduceAdd,Nat.reduceLeDiff,Nat.reduceSub,Nat.reduceMul,Int.reduceToNat,MM,bu0,cbJ7,Ps.lpgm,Ps.lpfz,Ps.lpfzL,Ps.stfzL,Ps.kfzL]
    refine callP_of (hsp) ?_
    simp -dsimp -implicitDefEqProofs (disch:=first|omega|(simp only [lenr];try omega)) only [↓amPre,↓reduceIte,reduceCtorEq,Nat.reduceEqDiff,Nat.reduceBEq,Nat.reduceAdd,Nat.reduceLeDiff,Nat.reduceSub,Nat.reduceMul,Int.reduceToNat,MM,bu0,cbJ7,Ps.lpgm,Ps.lpfz,Ps.lpfzL,Ps.stfzL,Ps.kfzL,hw1,ne_true (show ((ws.length:Nat):Int)≠1+(c:Int) by omega)]
  by_cases c2:ws.getD 0 []=f
  case neg =>
    rw [hno (fun q=>c2 q.1)]
    refine spec_of_awp (M:=MM) (np:=3) (fz:=false) mixed Tryz.func73 rfl rfl (by decide) rfl (Nat.le_refl _) (by decide +kernel) (.inl rfl) (by first | trivial | simp only [sigsOk_nil,sigsOk_some,sigsOk_none,sig_tr,sig_pt,sig_mt,sig_agg,List.map_cons,List.map_nil,sig1_tr,sig1_pt,sig1_v,and_self,true_and,List.length_map,List.length_set]) ?_
    simp -dsimp -implicitDefEqProofs (disch:=first|omega|(simp only [lenr];try omega)) only [↓amPre,↓reduceIte,reduceCtorEq,Nat.reduceEqDiff,Nat.reduceBEq,Nat.reduceAdd,Nat.reduceLeDiff,Nat.reduceSub,Nat.reduceMul,Int.reduceToNat,MM,bu0,cbJ7,Ps.lpgm,Ps.lpfz,Ps.lpfzL,Ps.stfzL,Ps.kfzL]
    refine callP_of (hsp) ?_
    simp -dsimp -implicitDefEqProofs (disch:=first|omega|(simp only [lenr];try omega)) only [↓amPre,↓reduceIte,reduceCtorEq,Nat.reduceEqDiff,Nat.reduceBEq,Nat.reduceAdd,Nat.reduceLeDiff,Nat.reduceSub,Nat.reduceMul,Int.reduceToNat,MM,bu0,cbJ7,Ps.lpgm,Ps.lpfz,Ps.lpfzL,Ps.stfzL,Ps.kfzL,hw1,ne_false (show ((ws.length:Nat):Int)=1+(c:Int) by omega),txne c2]
  obtain ⟨us,hus⟩:∃ us,us=ws.drop 1:=⟨_,rfl⟩
  have hul:us.length=c:=by rw [hus,List.length_drop];omega
  have hli:liR t f c=(match numsW us with | some l=>(l,true) | none=>([],false)):=by
    unfold liR lineI lineW
    dsimp only
    rw [← hws,if_pos ⟨rfl,c2,c1⟩,← hus]
  rw [numsW_iI] at hli
  have hget:∀ k,ws.getD (k+1) []=us.getD k []:=fun k=>by
    rw [hus,List.getD_eq_getElem?_getD,List.getD_eq_getElem?_getD,List.getElem?_drop,Nat.add_comm]
  refine spec_of_awp (M:=MM) (np:=3) (fz:=false) mixed Tryz.func73 rfl rfl (by decide) rfl (Nat.le_refl _) (by decide +kernel) (.inl rfl) (by first | trivial | simp only [sigsOk_nil,sigsOk_some,sigsOk_none,sig_tr,sig_pt,sig_mt,sig_agg,List.map_cons,List.map_nil,sig1_tr,sig1_pt,sig1_v,and_self,true_and,List.length_map,List.length_set]) ?_
  simp -dsimp -implicitDefEqProofs (disch:=first|omega|(simp only [lenr];try omega)) only [↓amPre,↓reduceIte,reduceCtorEq,Nat.reduceEqDiff,Nat.reduceBEq,Nat.reduceAdd,Nat.reduceLeDiff,Nat.reduceSub,Nat.reduceMul,Int.reduceToNat,MM,bu0,cbJ7,Ps.lpgm,Ps.lpfz,Ps.lpfzL,Ps.stfzL,Ps.kfzL]
  refine callP_of (hsp) ?_
  simp -dsimp -implicitDefEqProofs (disch:=first|omega|(simp only [lenr];try omega)) only [↓amPre,↓reduceIte,reduceCtorEq,Nat.reduceEqDiff,Nat.reduceBEq,Nat.reduceAdd,Nat.reduceLeDiff,Nat.reduceSub,Nat.reduceMul,Int.reduceToNat,MM,bu0,cbJ7,Ps.lpgm,Ps.lpfz,Ps.lpfzL,Ps.stfzL,Ps.kfzL,hw1,ne_false (show ((ws.length:Nat):Int)=1+(c:Int) by omega),txeq c2]
  refine awp_loopR 28 49 (.tr 1 []) (by simp -dsimp -implicitDefEqProofs (disch:=first|omega|(simp only [lenr];try omega)) only [↓amPre,↓reduceIte,reduceCtorEq,Nat.reduceEqDiff,Nat.reduceBEq,Nat.reduceAdd,Nat.reduceLeDiff,Nat.reduceSub,Nat.reduceMul,Int.reduceToNat,MM,bu0,cbJ7,Ps.lpgm,Ps.lpfz,Ps.lpfzL,Ps.stfzL,Ps.kfzL]) (by decide) (by decide) (by decide) (fun k st=>k≤c∧st.fr 10=.i64 (k+1:Nat)∧st.fr 8=.ref 14 [] 1 0 ws.length∧st.fr 9=.ref 49 [] 1 0 k∧st.mem 14=some (.tr 1 (ws.map AV.st))∧st.mem 49=some (itr ((us.take k).map fun w=>(iI w).1))∧(∀ w∈us.take k,(iI w).2=true)) (c) ?_ ?_
  · simp -dsimp -implicitDefEqProofs (disch:=first|omega|(simp only [lenr];try omega)) only [↓amPre,↓reduceIte,reduceCtorEq,Nat.reduceEqDiff,Nat.reduceBEq,Nat.reduceAdd,Nat.reduceLeDiff,Nat.reduceSub,Nat.reduceMul,Int.reduceToNat,MM,bu0,cbJ7,Ps.lpgm,Ps.lpfz,Ps.lpfzL,Ps.stfzL,Ps.kfzL,ren_eq,hw1,ne_false (show ((ws.length:Nat):Int)=1+(c:Int) by omega),txeq c2]
    exact ⟨Nat.zero_le _,rfl,rfl,fun w hw=>(by cases hw)⟩
  rintro k st _ ⟨hk,f10,f8,f9,m14,m49,ek⟩
  have hkl:((us.take k).map fun w=>(iI w).1).length=k:=by rw [List.length_map,List.length_take];omega
  by_cases hlt:k<c
  · have hlt':((k+1:Nat):Int)<ws.length:=by omega
    have hm:=mem_getD us k [] (by omega)
    have hq:=intS (us.getD k []) (hmem _ (by rw [hus] at hm ⊢;exact List.mem_of_mem_drop hm))
    have hg:=hget k
    cases hb:(iI (us.getD k [])).2 with
    | false =>
      rw [hb] at hq
      have:liR t f c=([],false):=by
        rw [hli,if_neg (fun q=>by have:=q _ hm;rw [hb] at this;cases this)]
      rw [this]
      simp -dsimp -implicitDefEqProofs (disch:=first|omega|(simp only [lenr];try omega)) only [↓amPre,↓reduceIte,reduceCtorEq,Nat.reduceEqDiff,Nat.reduceBEq,Nat.reduceAdd,Nat.reduceLeDiff,Nat.reduceSub,Nat.reduceMul,Int.reduceToNat,MM,bu0,cbJ7,Ps.lpgm,Ps.lpfz,Ps.lpfzL,Ps.stfzL,Ps.kfzL,f10,f8,f9,m14,m49,lt_true hlt',hg]
      refine callP_of (hq) ?_
      simp -dsimp -implicitDefEqProofs (disch:=first|omega|(simp only [lenr];try omega)) only [↓amPre,↓reduceIte,reduceCtorEq,Nat.reduceEqDiff,Nat.reduceBEq,Nat.reduceAdd,Nat.reduceLeDiff,Nat.reduceSub,Nat.reduceMul,Int.reduceToNat,MM,bu0,cbJ7,Ps.lpgm,Ps.lpfz,Ps.lpfzL,Ps.stfzL,Ps.kfzL,f10,f8,f9,m14,m49]
    | true =>
      rw [hb] at hq
      have hs:=map_take_succ (fun w=>(iI w).1) us k [] (by omega)
      simp -dsimp -implicitDefEqProofs (disch:=first|omega|(simp only [lenr];try omega)) only [↓amPre,↓reduceIte,reduceCtorEq,Nat.reduceEqDiff,Nat.reduceBEq,Nat.reduceAdd,Nat.reduceLeDiff,Nat.reduceSub,Nat.reduceMul,Int.reduceToNat,MM,bu0,cbJ7,Ps.lpgm,Ps.lpfz,Ps.lpfzL,Ps.stfzL,Ps.kfzL,f10,f8,f9,m14,m49,lt_true hlt',hg,hkl]
      refine callP_of (hq) ?_
      simp -dsimp -implicitDefEqProofs (disch:=first|omega|(simp only [lenr];try omega)) only [↓amPre,↓reduceIte,reduceCtorEq,Nat.reduceEqDiff,Nat.reduceBEq,Nat.reduceAdd,Nat.reduceLeDiff,Nat.reduceSub,Nat.reduceMul,Int.reduceToNat,MM,bu0,cbJ7,Ps.lpgm,Ps.lpfz,Ps.lpfzL,Ps.stfzL,Ps.kfzL,f10,f8,f9,m14,m49,hkl,isnoc]
      exact ⟨hlt,by omega,by rw [hs],(mem_take_succ (d:=[]) (by omega)).2 ⟨ek,hb⟩⟩
  · have hke:k=c:=by omega
    subst hke
    rw [List.take_of_length_le (by omega)] at ek hkl m49
    have:liR t f k=(us.map fun w=>(iI w).1,true):=by rw [hli,if_pos ek]
    rw [this]
    simp -dsimp -implicitDefEqProofs (disch:=first|omega|(simp only [lenr];try omega)) only [↓amPre,↓reduceIte,reduceCtorEq,Nat.reduceEqDiff,Nat.reduceBEq,Nat.reduceAdd,Nat.reduceLeDiff,Nat.reduceSub,Nat.reduceMul,Int.reduceToNat,MM,bu0,cbJ7,Ps.lpgm,Ps.lpfz,Ps.lpfzL,Ps.stfzL,Ps.kfzL,f10,f8,f9,m14,m49,lt_false (show ((ws.length:Nat):Int)≤((k+1:Nat):Int) by omega),hkl]
def mvR (t:Tx) (n:Nat):Tx×List Int×Bool:=match lineM (t,true) n with | some (w,x)=>(w,x,true) | none=>([],[],false)
end Ps
def cbJ16:=(ai (ai (cbJ7) (ai (@Ps.lpgm) (@Ps.lpfz))) (ai (@Ps.lpfzL) (ai (@Ps.stfzL) (@Ps.kfzL))))

end Go.AM
set_option maxRecDepth 8000
namespace Go.AM
namespace Ps
open Go.Proofs
def endOk (L:List Ln):Prop:=∀ k,k<L.length→((lat L k).2=true↔k<endN L)
theorem endOk_lns (s:Tx):endOk (lnsOf s):=fun k hk=>by
  unfold endN
  by_cases ce:endd (lnsOf s)=true
  · rw [if_pos ce]
    refine ⟨fun _=>hk,fun _=>?_⟩
    unfold endd at ce
    rw [List.all_eq_true] at ce
    exact ce _ (mem_getD (lnsOf s) k default hk)
  · rw [if_neg ce]
    by_cases hlt:k+1<(lnsOf s).length
    · refine ⟨fun _=>by omega,fun _=>?_⟩
      have:=lns_end s k hlt
      rw [getD_eq _ _ _ hk] at this
      unfold lat
      rw [getD_eq _ _ _ hk];exact this
    · refine ⟨fun q=>?_,fun q=>by omega⟩
      exfalso
      apply ce
      unfold endd
      rw [List.all_eq_true]
      intro x hx
      obtain ⟨j,hj,rfl⟩:=List.getElem_of_mem hx
      by_cases hjn:j+1<(lnsOf s).length
      · have:=lns_end s j hjn
        rw [getD_eq _ _ _ hj] at this
        exact this
      · have:j=k:=by omega
        subst this
        unfold lat at q
        rw [getD_eq _ _ _ hj] at q
        exact q
def stOf {α:Type} (r:Except Int α):Int:=match r with | .ok _=>-1 | .error e=>e
theorem lineI_bool (l:Ln) (f:Tx) (c:Nat):lineI l f c=if l.2=true then lineI (l.1,true) f c else none:=by
  obtain ⟨t,e⟩:=l
  cases e with
  | true=>rw [if_pos rfl]
  | false =>
    rw [if_neg (fun q=>by cases q)]
    unfold lineI lineW
    rw [if_neg (fun q=>by cases q.1)]
end Ps
end Go.AM
set_option maxRecDepth 8000
namespace Go.AM
namespace Ps
open Go.Proofs
def prA:List (List Int)→List AV
  | []=>[]
  | [x]=>[.agg [itr x,.nilsl]]
  | x :: y :: r=>.agg [itr x,itr y] :: prA r
theorem prA_even:∀ (m:Nat) (l:List (List Int)),l.length=2*m→prA l=(pr l).map Twist.tr
  | 0,l,h=>by
    have:l=[]:=List.eq_nil_of_length_eq_zero (by omega)
    subst this;rfl
  | m+1,a :: b :: r,h=>by
    have ih:=prA_even m r (by simp only [List.length_cons] at h;omega)
    show AV.agg [itr a,itr b] :: prA r=Twist.tr ⟨a,b⟩ :: (pr r).map Twist.tr
    rw [ih];rfl
  | m+1,[a],h=>by simp at h;omega
  | m+1,[],h=>by simp at h
theorem prA_odd (x:List Int):∀ (m:Nat) (l:List (List Int)),l.length=2*m→prA (l++[x])=prA l++[.agg [itr x,.nilsl]]
  | 0,l,h=>by
    have:l=[]:=List.eq_nil_of_length_eq_zero (by omega)
    subst this;rfl
  | m+1,a :: b :: r,h=>by
    have ih:=prA_odd x m r (by simp only [List.length_cons] at h;omega)
    show AV.agg [itr a,itr b] :: prA (r++[x])=_
    rw [ih];rfl
  | m+1,[a],h=>by simp at h;omega
  | m+1,[],h=>by simp at h
theorem prA_two (x y:List Int):∀ (m:Nat) (l:List (List Int)),l.length=2*m→prA (l++[x]++[y])=prA l++[.agg [itr x,itr y]]
  | 0,l,h=>by
    have:l=[]:=List.eq_nil_of_length_eq_zero (by omega)
    subst this;rfl
  | m+1,a :: b :: r,h=>by
    have ih:=prA_two x y m r (by simp only [List.length_cons] at h;omega)
    show AV.agg [itr a,itr b] :: prA (r++[x]++[y])=_
    rw [ih];rfl
  | m+1,[a],h=>by simp at h;omega
  | m+1,[],h=>by simp at h
theorem prA_len:∀ (m:Nat) (l:List (List Int)),l.length=2*m→(prA l).length=m:=fun m l h=>by
  rw [prA_even m l h,List.length_map,pr_len m l h]
theorem prA_len2:∀ l:List (List Int),(prA l).length=(l.length+1) / 2
  | []=>rfl
  | [x]=>by simp [prA]
  | x :: y :: r=>by
    have ih:=prA_len2 r
    show (prA r).length+1=(r.length+2+1) / 2
    omega
theorem get_last (A:List AV) (E:AV) (m:Nat) (h:A.length=m):(A++[E]).getD m .any=E:=by
  rw [List.getD_eq_getElem?_getD,List.getElem?_append_right (by omega),h,Nat.sub_self];rfl
theorem set_last (A:List AV) (E E':AV) (m:Nat) (h:A.length=m):(A++[E]).set m E'=A++[E']:=by
  rw [List.set_append_right _ _ (by omega),h,Nat.sub_self];rfl
theorem twists_spec (L:List Ln) (ks:List Kind) (a:Nat) (hL:okL L) (hE:endOk L) (ha:a≤1048577) (hks:ks.length≤1048576) (hkc:∀ k∈ks,0≤k.c∧k.c≤1048575) :
    SpecAt Tryz.prog 56 [ksl ks,.sl 1 (L.map lnP),.i64 (endN L),.i64 a] (.tup [.tr 2 (prA (hls L ks a)),.i64 (stOf (twR L ks a))]):=by
  have hll:=hL.1
  have hle:=hls_le L ks a
  obtain ⟨n,hn⟩:∃ n,n=(hls L ks a).length:=⟨_,rfl⟩
  have hw0:IntKind.i64.wrap (2*((ks.length:Nat):Int))=((2*ks.length:Nat):Int):=by rw [wrap64_id (by omega)];omega
  refine spec_of_awp (M:=MM) (np:=4) (fz:=false) mixed Tryz.func56 rfl rfl (by decide) rfl (Nat.le_refl _) (by decide +kernel) (.inl rfl) (by first | trivial | simp only [sigsOk_nil,sigsOk_some,sigsOk_none,sig_tr,sig_pt,sig_mt,sig_agg,List.map_cons,List.map_nil,sig1_tr,sig1_pt,sig1_v,and_self,true_and,List.length_map,List.length_set]) ?_
  simp -dsimp -implicitDefEqProofs (disch:=first|omega|(simp only [lenr];try omega)) only [↓amPre,↓reduceIte,reduceCtorEq,Nat.reduceEqDiff,Nat.reduceBEq,Nat.reduceAdd,Nat.reduceLeDiff,Nat.reduceSub,Nat.reduceMul,Int.reduceToNat,MM,bu0,cbJ1,cbJ16]
  refine awp_loopR 16 72 (.tr 2 []) (by simp -dsimp -implicitDefEqProofs (disch:=first|omega|(simp only [lenr];try omega)) only [↓amPre,↓reduceIte,reduceCtorEq,Nat.reduceEqDiff,Nat.reduceBEq,Nat.reduceAdd,Nat.reduceLeDiff,Nat.reduceSub,Nat.reduceMul,Int.reduceToNat,MM,bu0,cbJ1,cbJ16]) (by decide) (by decide) (by decide) (fun k st=>k≤n∧st.fr 11=.i64 k∧st.fr 0=ksl ks∧st.fr 1=.sl 1 (L.map lnP)∧st.fr 2=.i64 (endN L)∧st.fr 3=.i64 a∧st.fr 10=.ref 72 [] 2 0 ((k+1) / 2)∧st.mem 72=some (.tr 2 (prA ((hls L ks a).take k)))) (n) ?_ ?_
  · simp -dsimp -implicitDefEqProofs (disch:=first|omega|(simp only [lenr];try omega)) only [↓amPre,↓reduceIte,reduceCtorEq,Nat.reduceEqDiff,Nat.reduceBEq,Nat.reduceAdd,Nat.reduceLeDiff,Nat.reduceSub,Nat.reduceMul,Int.reduceToNat,MM,bu0,cbJ1,cbJ16,ren_eq]
    exact ⟨Nat.zero_le _,rfl,rfl⟩
  rintro k st _ ⟨hk,f11,f0,f1,f2,f3,f10,m72⟩
  have hwa:IntKind.i64.wrap ((a:Int)+(k:Int))=((a+k:Nat):Int):=by rw [wrap64_id (by omega)];omega
  by_cases hlt:k<2*ks.length
  · have hlt':((k:Nat):Int)<((2*ks.length:Nat):Int):=by omega
    have hdiv:IntKind.i64.wrap (((k:Nat):Int).tdiv 2)=((k / 2:Nat):Int):=by
      rw [Int.tdiv_eq_ediv_of_nonneg (by omega),wrap64_id (by omega)];omega
    have hmod:((k:Nat):Int).tmod 2=((k % 2:Nat):Int):=by
      rw [Int.tmod_eq_emod_of_nonneg (by omega)];omega
    have hk2l:k / 2<ks.length:=by omega
    have hc:(ks.getD (k / 2) default).c=((cOf ks (k / 2):Nat):Int):=by
      have:=(hkc _ (mem_getD ks (k / 2) default hk2l)).1
      unfold cOf;omega
    have hcb:cOf ks (k / 2)≤1048575:=by
      have:=(hkc _ (mem_getD ks (k / 2) default hk2l)).2
      unfold cOf;omega
    have hpl:(prA ((hls L ks a).take k)).length=(k+1) / 2:=by
      rw [prA_len2,List.length_take];congr 2;omega
    by_cases par:k % 2=0
    · have m0:((k % 2:Nat):Int)≠1:=by omega
      have m1:((k % 2:Nat):Int)=0:=by omega
      by_cases c1:k<n
      · have he:=hls_get L ks a k (by omega)
        have hgx:=he
        unfold hl at he
        rw [if_pos par] at he
        obtain ⟨hak,hI⟩:=ln_ok he
        obtain ⟨x,hxe⟩:∃ x,x=(hls L ks a).getD k []:=⟨_,rfl⟩
        rw [← hxe] at hI
        obtain ⟨hnl,htx⟩:=okL_at hL hak
        have hin:=intsS (lat L (a+k)).1 toT (cOf ks (k / 2)) htx (by omega)
        have hEk:=hE (a+k) hak
        rw [lineI_bool] at hI
        obtain ⟨l,hlq⟩:∃ l,l=lat L (a+k):=⟨_,rfl⟩
        rw [← hlq] at hI hin hEk
        have hq:l.2=true:=by
          apply Decidable.byContradiction
          intro q
          rw [if_neg q] at hI
          cases hI
        rw [if_pos hq] at hI
        have hli:liR l.1 toT (cOf ks (k / 2))=(x,true):=by unfold liR;rw [hI]
        rw [hli] at hin
        have hke:=hEk.1 hq
        have hts:(hls L ks a).take (k+1)=(hls L ks a).take k++[x]:=by rw [take_succ_eq _ k [] (by omega),hxe]
        have htl:((hls L ks a).take k).length=k:=by rw [List.length_take];omega
        rw [hts]
        have hpo:=prA_odd x (k / 2) ((hls L ks a).take k) (by omega)
        rw [hpo]
        generalize prA ((hls L ks a).take k)=A at *
        have hk2:(k+1) / 2=k / 2:=by omega
        have hk3:(k+1+1) / 2=k / 2+1:=by omega
        rw [hk2] at f10 hpl
        rw [hk3]
        simp -dsimp -implicitDefEqProofs (disch:=first|omega|(simp only [lenr];try omega)) only [↓amPre,↓reduceIte,reduceCtorEq,Nat.reduceEqDiff,Nat.reduceBEq,Nat.reduceAdd,Nat.reduceLeDiff,Nat.reduceSub,Nat.reduceMul,Int.reduceToNat,MM,bu0,cbJ1,cbJ16,f11,f0,f1,f2,f3,f10,m72,hw0,hwa,lt_true hlt',le_false (show ((a+k:Nat):Int)<((L.length:Nat):Int) by omega),hdiv,hmod,hc,eq_false m0]
        simp -dsimp -implicitDefEqProofs (disch:=first|omega|(simp only [lenr];try omega)) only [↓amPre,↓reduceIte,reduceCtorEq,Nat.reduceEqDiff,Nat.reduceBEq,Nat.reduceAdd,Nat.reduceLeDiff,Nat.reduceSub,Nat.reduceMul,Int.reduceToNat,MM,bu0,cbJ1,cbJ16,f11,f0,f1,f2,f3,f10,m72,← hlq]
        refine callP_of (hin) ?_
        simp -dsimp -implicitDefEqProofs (disch:=first|omega|(simp only [lenr];try omega)) only [↓amPre,↓reduceIte,reduceCtorEq,Nat.reduceEqDiff,Nat.reduceBEq,Nat.reduceAdd,Nat.reduceLeDiff,Nat.reduceSub,Nat.reduceMul,Int.reduceToNat,MM,bu0,cbJ1,cbJ16,f11,f0,f1,f2,f3,f10,m72,hwa,hpl,le_false (show ((a+k:Nat):Int)<((endN L:Nat):Int) by omega),hmod,eq_true m1]
        first | rfl | exact ⟨by omega,by omega⟩
      · -- no further line that fits
        have hkn:k=n:=by omega
        have hpl2:(prA (hls L ks a)).length=(k+1) / 2:=by rw [prA_len2];omega
        obtain ⟨e,he,hR,_⟩:=twR_err (L:=L) (ks:=ks) (a:=a) (by omega)
        rw [← hn,← hkn] at he
        unfold hl ln at he
        rw [hR]
        by_cases c2:L.length≤a+k
        · rw [if_pos c2] at he
          injection he with he
          subst he
          simp -dsimp -implicitDefEqProofs (disch:=first|omega|(simp only [lenr];try omega)) only [↓amPre,↓reduceIte,reduceCtorEq,Nat.reduceEqDiff,Nat.reduceBEq,Nat.reduceAdd,Nat.reduceLeDiff,Nat.reduceSub,Nat.reduceMul,Int.reduceToNat,MM,bu0,cbJ1,cbJ16,f11,f0,f1,f2,f3,f10,m72,hw0,hwa,lt_true hlt',le_true (show ((L.length:Nat):Int)≤((a+k:Nat):Int) by omega),hpl,hpl2]
          first | rfl | exact ⟨by omega,by omega⟩
        · rw [if_neg c2,if_pos par] at he
          obtain ⟨hnl,htx⟩:=okL_at hL (show a+k<L.length by omega)
          have hin:=intsS (lat L (a+k)).1 toT (cOf ks (k / 2)) htx (by omega)
          have hEk:=hE (a+k) (by omega)
          rw [lineI_bool] at he
          obtain ⟨l,hlq⟩:∃ l,l=lat L (a+k):=⟨_,rfl⟩
          rw [← hlq] at he hin hEk
          cases hx:lineI (l.1,true) toT (cOf ks (k / 2)) with
          | none =>
            have hli:liR l.1 toT (cOf ks (k / 2))=([],false):=by unfold liR;rw [hx]
            rw [hli] at hin
            have he2:e=((a+k:Nat):Int):=by
              rw [hx] at he
              by_cases q:l.2=true
              · rw [if_pos q] at he;injection he with he;exact he.symm
              · rw [if_neg q] at he;injection he with he;exact he.symm
            subst he2
            simp -dsimp -implicitDefEqProofs (disch:=first|omega|(simp only [lenr];try omega)) only [↓amPre,↓reduceIte,reduceCtorEq,Nat.reduceEqDiff,Nat.reduceBEq,Nat.reduceAdd,Nat.reduceLeDiff,Nat.reduceSub,Nat.reduceMul,Int.reduceToNat,MM,bu0,cbJ1,cbJ16,f11,f0,f1,f2,f3,f10,m72,hw0,hwa,lt_true hlt',le_false (show ((a+k:Nat):Int)<((L.length:Nat):Int) by omega),hdiv,hmod,hc,eq_false m0]
            simp -dsimp -implicitDefEqProofs (disch:=first|omega|(simp only [lenr];try omega)) only [↓amPre,↓reduceIte,reduceCtorEq,Nat.reduceEqDiff,Nat.reduceBEq,Nat.reduceAdd,Nat.reduceLeDiff,Nat.reduceSub,Nat.reduceMul,Int.reduceToNat,MM,bu0,cbJ1,cbJ16,f11,f0,f1,f2,f3,f10,m72,← hlq]
            refine callP_of (hin) ?_
            simp -dsimp -implicitDefEqProofs (disch:=first|omega|(simp only [lenr];try omega)) only [↓amPre,↓reduceIte,reduceCtorEq,Nat.reduceEqDiff,Nat.reduceBEq,Nat.reduceAdd,Nat.reduceLeDiff,Nat.reduceSub,Nat.reduceMul,Int.reduceToNat,MM,bu0,cbJ1,cbJ16,f11,f0,f1,f2,f3,f10,m72,hwa,hpl,hpl2]
            first | rfl | exact ⟨by omega,by omega⟩
          | some x =>
            have hli:liR l.1 toT (cOf ks (k / 2))=(x,true):=by unfold liR;rw [hx]
            rw [hli] at hin
            have hq:¬ l.2=true:=fun q=>by
              rw [if_pos q,hx] at he;cases he
            have he2:e=((a+k:Nat):Int):=by
              rw [if_neg hq] at he;injection he with he;exact he.symm
            subst he2
            have hke:¬ a+k<endN L:=fun q=>hq (hEk.2 q)
            simp -dsimp -implicitDefEqProofs (disch:=first|omega|(simp only [lenr];try omega)) only [↓amPre,↓reduceIte,reduceCtorEq,Nat.reduceEqDiff,Nat.reduceBEq,Nat.reduceAdd,Nat.reduceLeDiff,Nat.reduceSub,Nat.reduceMul,Int.reduceToNat,MM,bu0,cbJ1,cbJ16,f11,f0,f1,f2,f3,f10,m72,hw0,hwa,lt_true hlt',le_false (show ((a+k:Nat):Int)<((L.length:Nat):Int) by omega),hdiv,hmod,hc,eq_false m0]
            simp -dsimp -implicitDefEqProofs (disch:=first|omega|(simp only [lenr];try omega)) only [↓amPre,↓reduceIte,reduceCtorEq,Nat.reduceEqDiff,Nat.reduceBEq,Nat.reduceAdd,Nat.reduceLeDiff,Nat.reduceSub,Nat.reduceMul,Int.reduceToNat,MM,bu0,cbJ1,cbJ16,f11,f0,f1,f2,f3,f10,m72,← hlq]
            refine callP_of (hin) ?_
            simp -dsimp -implicitDefEqProofs (disch:=first|omega|(simp only [lenr];try omega)) only [↓amPre,↓reduceIte,reduceCtorEq,Nat.reduceEqDiff,Nat.reduceBEq,Nat.reduceAdd,Nat.reduceLeDiff,Nat.reduceSub,Nat.reduceMul,Int.reduceToNat,MM,bu0,cbJ1,cbJ16,f11,f0,f1,f2,f3,f10,m72,hwa,hpl,hpl2,le_true (show ((endN L:Nat):Int)≤((a+k:Nat):Int) by omega)]
            first | rfl | exact ⟨by omega,by omega⟩
    · have m0:((k % 2:Nat):Int)=1:=by omega
      have m1:((k % 2:Nat):Int)≠0:=by omega
      by_cases c1:k<n
      · have he:=hls_get L ks a k (by omega)
        have hgx:=he
        unfold hl at he
        rw [if_neg par] at he
        obtain ⟨hak,hI⟩:=ln_ok he
        obtain ⟨x,hxe⟩:∃ x,x=(hls L ks a).getD k []:=⟨_,rfl⟩
        rw [← hxe] at hI
        obtain ⟨hnl,htx⟩:=okL_at hL hak
        have hin:=intsS (lat L (a+k)).1 byT (cOf ks (k / 2)) htx (by omega)
        have hEk:=hE (a+k) hak
        rw [lineI_bool] at hI
        obtain ⟨l,hlq⟩:∃ l,l=lat L (a+k):=⟨_,rfl⟩
        rw [← hlq] at hI hin hEk
        have hq:l.2=true:=by
          apply Decidable.byContradiction
          intro q
          rw [if_neg q] at hI
          cases hI
        rw [if_pos hq] at hI
        have hli:liR l.1 byT (cOf ks (k / 2))=(x,true):=by unfold liR;rw [hI]
        rw [hli] at hin
        have hke:=hEk.1 hq
        have hts:(hls L ks a).take (k+1)=(hls L ks a).take k++[x]:=by rw [take_succ_eq _ k [] (by omega),hxe]
        have htl:((hls L ks a).take k).length=k:=by rw [List.length_take];omega
        rw [hts]
        obtain ⟨y,B,hB,hBl⟩:∃ (y:List Int) (B:List (List Int)),(hls L ks a).take k=B++[y]∧B.length=2*(k / 2):=by
          refine ⟨(hls L ks a).getD (2*(k / 2)) [],(hls L ks a).take (2*(k / 2)),?_,by rw [List.length_take];omega⟩
          rw [← take_succ_eq _ _ [] (by omega)]
          congr 1;omega
        have hpo:=prA_odd y (k / 2) B hBl
        have hpt:=prA_two y x (k / 2) B hBl
        have hAl:=prA_len (k / 2) B hBl
        rw [hB,hpo] at m72
        rw [hB,hpt]
        generalize prA B=A at *
        have hk2:(k+1) / 2=k / 2+1:=by omega
        have hk3:(k+1+1) / 2=k / 2+1:=by omega
        rw [hk2] at f10
        rw [hk3]
        have hgl:=fun E=>get_last A E (k / 2) hAl
        have hsl:=fun E E'=>set_last A E E' (k / 2) hAl
        have hall:∀ E,(A++[E]).length=k / 2+1:=fun E=>by rw [List.length_append,hAl];rfl
        simp -dsimp -implicitDefEqProofs (disch:=first|omega|(simp only [lenr];try omega)) only [↓amPre,↓reduceIte,reduceCtorEq,Nat.reduceEqDiff,Nat.reduceBEq,Nat.reduceAdd,Nat.reduceLeDiff,Nat.reduceSub,Nat.reduceMul,Int.reduceToNat,MM,bu0,cbJ1,cbJ16,f11,f0,f1,f2,f3,f10,m72,hw0,hwa,lt_true hlt',le_false (show ((a+k:Nat):Int)<((L.length:Nat):Int) by omega),hdiv,hmod,hc,eq_true m0]
        simp -dsimp -implicitDefEqProofs (disch:=first|omega|(simp only [lenr];try omega)) only [↓amPre,↓reduceIte,reduceCtorEq,Nat.reduceEqDiff,Nat.reduceBEq,Nat.reduceAdd,Nat.reduceLeDiff,Nat.reduceSub,Nat.reduceMul,Int.reduceToNat,MM,bu0,cbJ1,cbJ16,f11,f0,f1,f2,f3,f10,m72,← hlq]
        refine callP_of (hin) ?_
        simp -dsimp -implicitDefEqProofs (disch:=first|omega|(simp only [lenr];try omega)) only [↓amPre,↓reduceIte,reduceCtorEq,Nat.reduceEqDiff,Nat.reduceBEq,Nat.reduceAdd,Nat.reduceLeDiff,Nat.reduceSub,Nat.reduceMul,Int.reduceToNat,MM,bu0,cbJ1,cbJ16,f11,f0,f1,f2,f3,f10,m72,hwa,hall,le_false (show ((a+k:Nat):Int)<((endN L:Nat):Int) by omega),hmod,hdiv,hgl,hsl,eq_false m1]
        first | rfl | exact ⟨by omega,by omega⟩
      · -- no further line that fits
        have hkn:k=n:=by omega
        have hpl2:(prA (hls L ks a)).length=(k+1) / 2:=by rw [prA_len2];omega
        obtain ⟨e,he,hR,_⟩:=twR_err (L:=L) (ks:=ks) (a:=a) (by omega)
        rw [← hn,← hkn] at he
        unfold hl ln at he
        rw [hR]
        by_cases c2:L.length≤a+k
        · rw [if_pos c2] at he
          injection he with he
          subst he
          simp -dsimp -implicitDefEqProofs (disch:=first|omega|(simp only [lenr];try omega)) only [↓amPre,↓reduceIte,reduceCtorEq,Nat.reduceEqDiff,Nat.reduceBEq,Nat.reduceAdd,Nat.reduceLeDiff,Nat.reduceSub,Nat.reduceMul,Int.reduceToNat,MM,bu0,cbJ1,cbJ16,f11,f0,f1,f2,f3,f10,m72,hw0,hwa,lt_true hlt',le_true (show ((L.length:Nat):Int)≤((a+k:Nat):Int) by omega),hpl,hpl2]
          first | rfl | exact ⟨by omega,by omega⟩
        · rw [if_neg c2,if_neg par] at he
          obtain ⟨hnl,htx⟩:=okL_at hL (show a+k<L.length by omega)
          have hin:=intsS (lat L (a+k)).1 byT (cOf ks (k / 2)) htx (by omega)
          have hEk:=hE (a+k) (by omega)
          rw [lineI_bool] at he
          obtain ⟨l,hlq⟩:∃ l,l=lat L (a+k):=⟨_,rfl⟩
          rw [← hlq] at he hin hEk
          cases hx:lineI (l.1,true) byT (cOf ks (k / 2)) with
          | none =>
            have hli:liR l.1 byT (cOf ks (k / 2))=([],false):=by unfold liR;rw [hx]
            rw [hli] at hin
            have he2:e=((a+k:Nat):Int):=by
              rw [hx] at he
              by_cases q:l.2=true
              · rw [if_pos q] at he;injection he with he;exact he.symm
              · rw [if_neg q] at he;injection he with he;exact he.symm
            subst he2
            simp -dsimp -implicitDefEqProofs (disch:=first|omega|(simp only [lenr];try omega)) only [↓amPre,↓reduceIte,reduceCtorEq,Nat.reduceEqDiff,Nat.reduceBEq,Nat.reduceAdd,Nat.reduceLeDiff,Nat.reduceSub,Nat.reduceMul,Int.reduceToNat,MM,bu0,cbJ1,cbJ16,f11,f0,f1,f2,f3,f10,m72,hw0,hwa,lt_true hlt',le_false (show ((a+k:Nat):Int)<((L.length:Nat):Int) by omega),hdiv,hmod,hc,eq_true m0]
            simp -dsimp -implicitDefEqProofs (disch:=first|omega|(simp only [lenr];try omega)) only [↓amPre,↓reduceIte,reduceCtorEq,Nat.reduceEqDiff,Nat.reduceBEq,Nat.reduceAdd,Nat.reduceLeDiff,Nat.reduceSub,Nat.reduceMul,Int.reduceToNat,MM,bu0,cbJ1,cbJ16,f11,f0,f1,f2,f3,f10,m72,← hlq]
            refine callP_of (hin) ?_
            simp -dsimp -implicitDefEqProofs (disch:=first|omega|(simp only [lenr];try omega)) only [↓amPre,↓reduceIte,reduceCtorEq,Nat.reduceEqDiff,Nat.reduceBEq,Nat.reduceAdd,Nat.reduceLeDiff,Nat.reduceSub,Nat.reduceMul,Int.reduceToNat,MM,bu0,cbJ1,cbJ16,f11,f0,f1,f2,f3,f10,m72,hwa,hpl,hpl2]
            first | rfl | exact ⟨by omega,by omega⟩
          | some x =>
            have hli:liR l.1 byT (cOf ks (k / 2))=(x,true):=by unfold liR;rw [hx]
            rw [hli] at hin
            have hq:¬ l.2=true:=fun q=>by
              rw [if_pos q,hx] at he;cases he
            have he2:e=((a+k:Nat):Int):=by
              rw [if_neg hq] at he;injection he with he;exact he.symm
            subst he2
            have hke:¬ a+k<endN L:=fun q=>hq (hEk.2 q)
            simp -dsimp -implicitDefEqProofs (disch:=first|omega|(simp only [lenr];try omega)) only [↓amPre,↓reduceIte,reduceCtorEq,Nat.reduceEqDiff,Nat.reduceBEq,Nat.reduceAdd,Nat.reduceLeDiff,Nat.reduceSub,Nat.reduceMul,Int.reduceToNat,MM,bu0,cbJ1,cbJ16,f11,f0,f1,f2,f3,f10,m72,hw0,hwa,lt_true hlt',le_false (show ((a+k:Nat):Int)<((L.length:Nat):Int) by omega),hdiv,hmod,hc,eq_true m0]
            simp -dsimp -implicitDefEqProofs (disch:=first|omega|(simp only [lenr];try omega)) only [↓amPre,↓reduceIte,reduceCtorEq,Nat.reduceEqDiff,Nat.reduceBEq,Nat.reduceAdd,Nat.reduceLeDiff,Nat.reduceSub,Nat.reduceMul,Int.reduceToNat,MM,bu0,cbJ1,cbJ16,f11,f0,f1,f2,f3,f10,m72,← hlq]
            refine callP_of (hin) ?_
            simp -dsimp -implicitDefEqProofs (disch:=first|omega|(simp only [lenr];try omega)) only [↓amPre,↓reduceIte,reduceCtorEq,Nat.reduceEqDiff,Nat.reduceBEq,Nat.reduceAdd,Nat.reduceLeDiff,Nat.reduceSub,Nat.reduceMul,Int.reduceToNat,MM,bu0,cbJ1,cbJ16,f11,f0,f1,f2,f3,f10,m72,hwa,hpl,hpl2,le_true (show ((endN L:Nat):Int)≤((a+k:Nat):Int) by omega)]
            first | rfl | exact ⟨by omega,by omega⟩
  · have hke:k=2*ks.length:=by omega
    subst hke
    have hR:twR L ks a=.ok (pr (hls L ks a)):=if_pos (by omega)
    rw [hR]
    rw [List.take_of_length_le (by omega)] at m72
    have hpl:=prA_len ks.length (hls L ks a) (by omega)
    simp -dsimp -implicitDefEqProofs (disch:=first|omega|(simp only [lenr];try omega)) only [↓amPre,↓reduceIte,reduceCtorEq,Nat.reduceEqDiff,Nat.reduceBEq,Nat.reduceAdd,Nat.reduceLeDiff,Nat.reduceSub,Nat.reduceMul,Int.reduceToNat,MM,bu0,cbJ1,cbJ16,f11,f0,f1,f2,f3,f10,m72,hw0,lt_false (Int.le_refl ((2*ks.length:Nat):Int)),hpl]
    rfl
end Ps
end Go.AM
set_option maxRecDepth 8000
namespace Go.AM
namespace Ps
open Go.Proofs
theorem okL_ln {s:Tx} (hs:s.length≤1048576):okL (lnsOf s):=⟨by have:=lns_len s;omega,fun l hl=>⟨lns_no s l hl,by have:=(lns_mem s l hl).1;omega⟩⟩
def pzU (n:Nat) (X:Except Int (Tx×List (List Int))):Except Int Puzz:=match X with
  | .error e=>.error e
  | .ok (nm,mv)=>if puzzOk ⟨n,nm,mv⟩ then .ok ⟨n,nm,mv⟩ else .error (-4)
end Ps
end Go.AM
set_option maxRecDepth 8000
namespace Go.AM
namespace Ps
open Go.Proofs
def mdU (ks:List Kind) (X:Except Int (Tx×List (List Twist))):Except Int Model:=match X with
  | .error e=>.error e
  | .ok (nm,mv)=>if modelOk ⟨ks,nm,mv⟩ then .ok ⟨ks,nm,mv⟩ else .error (-4)
theorem twR_ok {L:List Ln} {ks:List Kind} {a:Nat} {t:List Twist} (h:twR L ks a=.ok t) (hks:1≤ks.length):t=pr (hls L ks a)∧(hls L ks a).length=2*ks.length∧a+2*ks.length≤L.length:=by
  unfold twR at h
  split at h
  · rename_i q
    cases h
    refine ⟨rfl,q,?_⟩
    have:=hls_get L ks a (2*ks.length - 1) (by omega)
    unfold hl at this
    have:=(ln_ok this).1
    omega
  · split at h
    · cases h
    · cases h
theorem tw_smallT {L:List Ln} {ks:List Kind} {a:Nat} {t:List Twist} (h:twR L ks a=.ok t) (hk:kindsOk ks):smallT t:=by
  have hg:=twS_good L ks a
  rw [h] at hg
  have hlen:=twS_len L ks ⟨a,-1⟩ ks.length
  have hnum:=twS_num L ks ⟨a,-1⟩ ks.length
  rw [hg] at hlen hnum
  replace hlen:t.length=ks.length:=hlen
  have:=hk.1
  refine ⟨by omega,fun x hx=>?_⟩
  obtain ⟨i,hi,rfl⟩:=List.getElem_of_mem hx
  have h1:=hnum i (by omega)
  replace h1:numT (t.getD i default) (cOf ks i):=h1
  rw [getD_eq _ _ _ hi] at h1
  have hc:cOf ks i≤20:=by
    have:=kindsOk_kind hk (mem_getD ks i default (by omega))
    unfold cOf;omega
  unfold numT at h1
  omega
end Ps
end Go.AM
set_option maxRecDepth 8000
namespace Go.AM
namespace Ps
open Go.Proofs
theorem parseStateS (ks:List Kind) (s:Tx) (hs:s.length≤1048576) (hkl:ks.length≤1099511627776):SpecAt Tryz.prog 33 [ksl ks,.st s] (.tup [ttr (pst ks s).1,.i64 (pst ks s).2]):=by
  have hK:=sAreValidKinds ks hkl
  by_cases c1:kindsOk ks
  case neg =>
    rw [decide_eq_false c1] at hK
    have hres:pst ks s=([],-4):=by unfold pst pstE;rw [if_neg c1];rfl
    rw [hres]
    refine spec_of_awp (M:=MM) (np:=2) (fz:=false) mixed Tryz.func33 rfl rfl (by decide) rfl (Nat.le_refl _) (by decide +kernel) (.inl rfl) (by first | trivial | simp only [sigsOk_nil,sigsOk_some,sigsOk_none,sig_tr,sig_pt,sig_mt,sig_agg,List.map_cons,List.map_nil,sig1_tr,sig1_pt,sig1_v,and_self,true_and,List.length_map,List.length_set]) ?_
    simp -dsimp -implicitDefEqProofs (disch:=first|omega|(simp only [lenr];try omega)) only [↓amPre,↓reduceIte,reduceCtorEq,Nat.reduceEqDiff,Nat.reduceBEq,Nat.reduceAdd,Nat.reduceLeDiff,Nat.reduceSub,Nat.reduceMul,Int.reduceToNat,MM,bu0,cbJ1,cbJ16]
    refine callP_of (hK) ?_
    simp -dsimp -implicitDefEqProofs (disch:=first|omega|(simp only [lenr];try omega)) only [↓amPre,↓reduceIte,reduceCtorEq,Nat.reduceEqDiff,Nat.reduceBEq,Nat.reduceAdd,Nat.reduceLeDiff,Nat.reduceSub,Nat.reduceMul,Int.reduceToNat,MM,bu0,cbJ1,cbJ16]
  rw [decide_eq_true c1] at hK
  by_cases c0:2000<s.length
  · have hres:pst ks s=([],-2):=by unfold pst pstE;rw [if_pos c1,if_pos c0];rfl
    rw [hres]
    refine spec_of_awp (M:=MM) (np:=2) (fz:=false) mixed Tryz.func33 rfl rfl (by decide) rfl (Nat.le_refl _) (by decide +kernel) (.inl rfl) (by first | trivial | simp only [sigsOk_nil,sigsOk_some,sigsOk_none,sig_tr,sig_pt,sig_mt,sig_agg,List.map_cons,List.map_nil,sig1_tr,sig1_pt,sig1_v,and_self,true_and,List.length_map,List.length_set]) ?_
    simp -dsimp -implicitDefEqProofs (disch:=first|omega|(simp only [lenr];try omega)) only [↓amPre,↓reduceIte,reduceCtorEq,Nat.reduceEqDiff,Nat.reduceBEq,Nat.reduceAdd,Nat.reduceLeDiff,Nat.reduceSub,Nat.reduceMul,Int.reduceToNat,MM,bu0,cbJ1,cbJ16]
    refine callP_of (hK) ?_
    simp -dsimp -implicitDefEqProofs (disch:=first|omega|(simp only [lenr];try omega)) only [↓amPre,↓reduceIte,reduceCtorEq,Nat.reduceEqDiff,Nat.reduceBEq,Nat.reduceAdd,Nat.reduceLeDiff,Nat.reduceSub,Nat.reduceMul,Int.reduceToNat,MM,bu0,cbJ1,cbJ16,lt_true (show (2000:Int)<((s.length:Nat):Int) by omega)]
  have hli:=linesS s hs
  have hE:=endOk_lns s
  have hL:=okL_ln hs
  have hres:pst ks s=outP [] (stR ks (lnsOf s)):=by unfold pst pstE;rw [if_pos c1,if_neg c0]
  generalize lnsOf s=L at *
  have hll:=hL.1
  have hltf:=lt_false (show ((s.length:Nat):Int)≤(2000:Int) by omega)
  have hkn:=c1.1
  have hkc:∀ k∈ks,0≤k.c∧k.c≤1048575:=fun k hk=>by have:=kindsOk_kind c1 hk;omega
  have htw:=twists_spec L ks 0 hL hE (by omega) (by omega) hkc
  have hw2:IntKind.i64.wrap (2*((ks.length:Nat):Int))=((2*ks.length:Nat):Int):=by rw [wrap64_id (by omega)];omega
  unfold stR at hres
  cases ht:twR L ks 0 with
  | error e =>
    rw [ht] at hres htw
    have hg:=twS_good L ks 0
    rw [ht] at hg
    have hres2:pst ks s=([],e):=hres
    rw [hres2]
    refine spec_of_awp (M:=MM) (np:=2) (fz:=false) mixed Tryz.func33 rfl rfl (by decide) rfl (Nat.le_refl _) (by decide +kernel) (.inl rfl) (by first | trivial | simp only [sigsOk_nil,sigsOk_some,sigsOk_none,sig_tr,sig_pt,sig_mt,sig_agg,List.map_cons,List.map_nil,sig1_tr,sig1_pt,sig1_v,and_self,true_and,List.length_map,List.length_set]) ?_
    simp -dsimp -implicitDefEqProofs (disch:=first|omega|(simp only [lenr];try omega)) only [↓amPre,↓reduceIte,reduceCtorEq,Nat.reduceEqDiff,Nat.reduceBEq,Nat.reduceAdd,Nat.reduceLeDiff,Nat.reduceSub,Nat.reduceMul,Int.reduceToNat,MM,bu0,cbJ1,cbJ16]
    refine callP_of (hK) ?_
    simp -dsimp -implicitDefEqProofs (disch:=first|omega|(simp only [lenr];try omega)) only [↓amPre,↓reduceIte,reduceCtorEq,Nat.reduceEqDiff,Nat.reduceBEq,Nat.reduceAdd,Nat.reduceLeDiff,Nat.reduceSub,Nat.reduceMul,Int.reduceToNat,MM,bu0,cbJ1,cbJ16,hltf]
    refine callP_frz hli ?_
    simp -dsimp -implicitDefEqProofs (disch:=first|omega|(simp only [lenr];try omega)) only [↓amPre,↓reduceIte,reduceCtorEq,Nat.reduceEqDiff,Nat.reduceBEq,Nat.reduceAdd,Nat.reduceLeDiff,Nat.reduceSub,Nat.reduceMul,Int.reduceToNat,MM,bu0,cbJ1,cbJ16]
    refine callP_of (htw) ?_
    simp -dsimp -implicitDefEqProofs (disch:=first|omega|(simp only [lenr];try omega)) only [↓amPre,↓reduceIte,reduceCtorEq,Nat.reduceEqDiff,Nat.reduceBEq,Nat.reduceAdd,Nat.reduceLeDiff,Nat.reduceSub,Nat.reduceMul,Int.reduceToNat,MM,bu0,cbJ1,cbJ16,stOf,ne_true hg.2]
  | ok t =>
    rw [ht] at hres htw
    dsimp only at hres
    obtain ⟨h1,h2,h3⟩:=twR_ok ht hkn.1
    have hts:=tw_smallT ht c1
    have htl:t.length=ks.length:=by rw [h1];exact pr_len _ _ h2
    rw [prA_even ks.length _ h2,← h1] at htw
    by_cases c3:2*ks.length<L.length
    · rw [if_pos c3] at hres
      have hres2:pst ks s=([],((2*ks.length:Nat):Int)):=hres
      rw [hres2]
      refine spec_of_awp (M:=MM) (np:=2) (fz:=false) mixed Tryz.func33 rfl rfl (by decide) rfl (Nat.le_refl _) (by decide +kernel) (.inl rfl) (by first | trivial | simp only [sigsOk_nil,sigsOk_some,sigsOk_none,sig_tr,sig_pt,sig_mt,sig_agg,List.map_cons,List.map_nil,sig1_tr,sig1_pt,sig1_v,and_self,true_and,List.length_map,List.length_set]) ?_
      simp -dsimp -implicitDefEqProofs (disch:=first|omega|(simp only [lenr];try omega)) only [↓amPre,↓reduceIte,reduceCtorEq,Nat.reduceEqDiff,Nat.reduceBEq,Nat.reduceAdd,Nat.reduceLeDiff,Nat.reduceSub,Nat.reduceMul,Int.reduceToNat,MM,bu0,cbJ1,cbJ16]
      refine callP_of (hK) ?_
      simp -dsimp -implicitDefEqProofs (disch:=first|omega|(simp only [lenr];try omega)) only [↓amPre,↓reduceIte,reduceCtorEq,Nat.reduceEqDiff,Nat.reduceBEq,Nat.reduceAdd,Nat.reduceLeDiff,Nat.reduceSub,Nat.reduceMul,Int.reduceToNat,MM,bu0,cbJ1,cbJ16,hltf]
      refine callP_frz hli ?_
      simp -dsimp -implicitDefEqProofs (disch:=first|omega|(simp only [lenr];try omega)) only [↓amPre,↓reduceIte,reduceCtorEq,Nat.reduceEqDiff,Nat.reduceBEq,Nat.reduceAdd,Nat.reduceLeDiff,Nat.reduceSub,Nat.reduceMul,Int.reduceToNat,MM,bu0,cbJ1,cbJ16]
      refine callP_of (htw) ?_
      simp -dsimp -implicitDefEqProofs (disch:=first|omega|(simp only [lenr];try omega)) only [↓amPre,↓reduceIte,reduceCtorEq,Nat.reduceEqDiff,Nat.reduceBEq,Nat.reduceAdd,Nat.reduceLeDiff,Nat.reduceSub,Nat.reduceMul,Int.reduceToNat,MM,bu0,cbJ1,cbJ16,stOf,ne_false (rfl:(-1:Int) = -1),hw2,lt_true (show ((2*ks.length:Nat):Int)<((L.length:Nat):Int) by omega)]
    rw [if_neg c3] at hres
    have c3f:=lt_false (show ((L.length:Nat):Int)≤((2*ks.length:Nat):Int) by omega)
    have hP:=sIsPieceState ks t hkl hts.1 hts.2
    by_cases c9:psOk ks t
    · rw [if_pos c9] at hres
      have hres2:pst ks s=(t,-1):=hres
      rw [decide_eq_true c9] at hP
      rw [hres2]
      refine spec_of_awp (M:=MM) (np:=2) (fz:=false) mixed Tryz.func33 rfl rfl (by decide) rfl (Nat.le_refl _) (by decide +kernel) (.inl rfl) (by first | trivial | simp only [sigsOk_nil,sigsOk_some,sigsOk_none,sig_tr,sig_pt,sig_mt,sig_agg,List.map_cons,List.map_nil,sig1_tr,sig1_pt,sig1_v,and_self,true_and,List.length_map,List.length_set]) ?_
      simp -dsimp -implicitDefEqProofs (disch:=first|omega|(simp only [lenr];try omega)) only [↓amPre,↓reduceIte,reduceCtorEq,Nat.reduceEqDiff,Nat.reduceBEq,Nat.reduceAdd,Nat.reduceLeDiff,Nat.reduceSub,Nat.reduceMul,Int.reduceToNat,MM,bu0,cbJ1,cbJ16]
      refine callP_of (hK) ?_
      simp -dsimp -implicitDefEqProofs (disch:=first|omega|(simp only [lenr];try omega)) only [↓amPre,↓reduceIte,reduceCtorEq,Nat.reduceEqDiff,Nat.reduceBEq,Nat.reduceAdd,Nat.reduceLeDiff,Nat.reduceSub,Nat.reduceMul,Int.reduceToNat,MM,bu0,cbJ1,cbJ16,hltf]
      refine callP_frz hli ?_
      simp -dsimp -implicitDefEqProofs (disch:=first|omega|(simp only [lenr];try omega)) only [↓amPre,↓reduceIte,reduceCtorEq,Nat.reduceEqDiff,Nat.reduceBEq,Nat.reduceAdd,Nat.reduceLeDiff,Nat.reduceSub,Nat.reduceMul,Int.reduceToNat,MM,bu0,cbJ1,cbJ16]
      refine callP_of (htw) ?_
      simp -dsimp -implicitDefEqProofs (disch:=first|omega|(simp only [lenr];try omega)) only [↓amPre,↓reduceIte,reduceCtorEq,Nat.reduceEqDiff,Nat.reduceBEq,Nat.reduceAdd,Nat.reduceLeDiff,Nat.reduceSub,Nat.reduceMul,Int.reduceToNat,MM,bu0,cbJ1,cbJ16,stOf,ne_false (rfl:(-1:Int) = -1),hw2,c3f,tfz,htl]
      refine callP_of (hP) ?_
      simp -dsimp -implicitDefEqProofs (disch:=first|omega|(simp only [lenr];try omega)) only [↓amPre,↓reduceIte,reduceCtorEq,Nat.reduceEqDiff,Nat.reduceBEq,Nat.reduceAdd,Nat.reduceLeDiff,Nat.reduceSub,Nat.reduceMul,Int.reduceToNat,MM,bu0,cbJ1,cbJ16,htl]
    · rw [if_neg c9] at hres
      have hres2:pst ks s=([],-4):=hres
      rw [decide_eq_false c9] at hP
      rw [hres2]
      refine spec_of_awp (M:=MM) (np:=2) (fz:=false) mixed Tryz.func33 rfl rfl (by decide) rfl (Nat.le_refl _) (by decide +kernel) (.inl rfl) (by first | trivial | simp only [sigsOk_nil,sigsOk_some,sigsOk_none,sig_tr,sig_pt,sig_mt,sig_agg,List.map_cons,List.map_nil,sig1_tr,sig1_pt,sig1_v,and_self,true_and,List.length_map,List.length_set]) ?_
      simp -dsimp -implicitDefEqProofs (disch:=first|omega|(simp only [lenr];try omega)) only [↓amPre,↓reduceIte,reduceCtorEq,Nat.reduceEqDiff,Nat.reduceBEq,Nat.reduceAdd,Nat.reduceLeDiff,Nat.reduceSub,Nat.reduceMul,Int.reduceToNat,MM,bu0,cbJ1,cbJ16]
      refine callP_of (hK) ?_
      simp -dsimp -implicitDefEqProofs (disch:=first|omega|(simp only [lenr];try omega)) only [↓amPre,↓reduceIte,reduceCtorEq,Nat.reduceEqDiff,Nat.reduceBEq,Nat.reduceAdd,Nat.reduceLeDiff,Nat.reduceSub,Nat.reduceMul,Int.reduceToNat,MM,bu0,cbJ1,cbJ16,hltf]
      refine callP_frz hli ?_
      simp -dsimp -implicitDefEqProofs (disch:=first|omega|(simp only [lenr];try omega)) only [↓amPre,↓reduceIte,reduceCtorEq,Nat.reduceEqDiff,Nat.reduceBEq,Nat.reduceAdd,Nat.reduceLeDiff,Nat.reduceSub,Nat.reduceMul,Int.reduceToNat,MM,bu0,cbJ1,cbJ16]
      refine callP_of (htw) ?_
      simp -dsimp -implicitDefEqProofs (disch:=first|omega|(simp only [lenr];try omega)) only [↓amPre,↓reduceIte,reduceCtorEq,Nat.reduceEqDiff,Nat.reduceBEq,Nat.reduceAdd,Nat.reduceLeDiff,Nat.reduceSub,Nat.reduceMul,Int.reduceToNat,MM,bu0,cbJ1,cbJ16,stOf,ne_false (rfl:(-1:Int) = -1),hw2,c3f,tfz,htl]
      refine callP_of (hP) ?_
      simp -dsimp -implicitDefEqProofs (disch:=first|omega|(simp only [lenr];try omega)) only [↓amPre,↓reduceIte,reduceCtorEq,Nat.reduceEqDiff,Nat.reduceBEq,Nat.reduceAdd,Nat.reduceLeDiff,Nat.reduceSub,Nat.reduceMul,Int.reduceToNat,MM,bu0,cbJ1,cbJ16,htl]
end Ps
end Go.AM
namespace Go.AM
/-! the effect of a word;the points that it moves -/
def letP (mv:List (List Int)) (x:Int):List Int:=if 0<x then mv.getD (x - 1).toNat default else invI (mv.getD (-x - 1).toNat default)
def effK (n:Int) (mv:List (List Int)) (w:List Int):Nat→List Int
  | 0=>runI 0 n.toNat
  | k+1=>compI (effK n mv w k) (letP mv (w.getD k 0))
def movL (p:List Int) (k:Nat):List Int:=((List.range k).filter fun i=>p.getD i 0 != (i:Int)).map fun (i:Nat)=>(i:Int)
def imgL (p:List Int) (k:Nat):List Int:=((List.range k).filter fun i=>p.getD i 0 != (i:Int)).map fun i=>p.getD i 0
end Go.AM
set_option maxRecDepth 8000
namespace Go.AM
open Go.Proofs
def supR (p:Puzz) (w:List Int):List Int:=if puzzOk p∧wordOk p.mv.length w then movL (effK p.n p.mv w w.length) p.n.toNat else []
end Go.AM
set_option maxRecDepth 8000
namespace Go.AM
open Go.Proofs
def canScr (p:Puzz) (x c:Int):Prop:=puzzOk p∧within x 0 2147483646=true∧within c 0 200=true
instance (p:Puzz) (x c:Int):Decidable (canScr p x c):=by unfold canScr;infer_instance
def scrR (p:Puzz) (x c:Int):List Int:=if canScr p x c then scrW p.mv.length x c.toNat else []
end Go.AM
set_option maxRecDepth 8000
namespace Go.AM
open Go.Proofs
def pwL (e:List Int) (k:Nat):List Int:=(List.range e.length).map fun x=>((itN (fOf e) k x:Nat):Int)
def lcmK (L:List (List Int)):Nat→Nat
  | 0=>1
  | j+1=>Nat.lcm (lcmK L j) (L.getD j default).length
def ordE (e:List Int):Nat:=lcmK (longC (cycI e)) (longC (cycI e)).length
def spK (e:List Int):Nat→Nat×Nat
  | 0=>(0,0)
  | j+1=>if (spK e j).1=0∨(movL (pwL e (j+1)) e.length).length<(spK e j).2 then (j+1,(movL (pwL e (j+1)) e.length).length) else spK e j
end Go.AM
set_option maxRecDepth 8000
namespace Go.AM
open Go.Proofs
def treeGcd:OT:=(.alt 0 (.alt 1 (.alt 2 (.alt 3 (.alt 4 (.alt 5 .done .stop) .stop) (.alt 4 (.alt 3 (.alt 5 .done .stop) .stop) .stop)) (.alt 4 (.alt 2 (.alt 3 (.alt 5 .done .stop) .stop) .stop) .stop)) (.alt 2 (.alt 1 (.alt 3 (.alt 4 (.alt 5 .done .stop) .stop) (.alt 4 (.alt 3 (.alt 5 .done .stop) .stop) .stop)) .stop) .stop)) (.alt 1 (.alt 0 (.alt 2 (.alt 3 (.alt 4 (.alt 5 .done .stop) .stop) (.alt 4 (.alt 3 (.alt 5 .done .stop) .stop) .stop)) (.alt 4 (.alt 2 (.alt 3 (.alt 5 .done .stop) .stop) .stop) .stop)) (.alt 2 (.alt 0 (.alt 3 (.alt 4 (.alt 5 .done .stop) .stop) (.alt 4 (.alt 3 (.alt 5 .done .stop) .stop) .stop)) (.alt 3 (.alt 0 (.alt 4 (.alt 5 .done .stop) .stop) .stop) .stop)) .stop)) (.alt 2 (.alt 0 (.alt 1 (.alt 3 (.alt 4 (.alt 5 .done .stop) .stop) (.alt 4 (.alt 3 (.alt 5 .done .stop) .stop) .stop)) .stop) (.alt 1 (.alt 0 (.alt 3 (.alt 4 (.alt 5 .done .stop) .stop) (.alt 4 (.alt 3 (.alt 5 .done .stop) .stop) .stop)) (.alt 3 (.alt 0 (.alt 4 (.alt 5 .done .stop) .stop) .stop) .stop)) .stop)) .stop)))
def gcK (a b:Nat):Nat→Nat×Nat
  | 0=>(a,b)
  | k+1=>((gcK a b k).2,(gcK a b k).1 % (gcK a b k).2)
end Go.AM
set_option maxRecDepth 8000
namespace Go.AM
open Go.Proofs
def spR (p:Puzz) (w:List Int):Nat×Nat:=if puzzOk p∧wordOk p.mv.length w then spK (effK p.n p.mv w w.length) (ordE (effK p.n p.mv w w.length) - 1) else (0,0)
abbrev spA (x:Nat×Nat):AV:=.tup [.i64 x.1,.i64 x.2]
end Go.AM
set_option maxRecDepth 8000
namespace Go.AM
open Go.Proofs
def pwK (p:List Int) (k i:Nat):List Int:=(List.range i).map fun x=>((itN (fOf p) k x:Nat):Int)
end Go.AM
set_option maxRecDepth 8000
namespace Go.AM
open Go.Proofs
def scrS (p:Puzz) (x c:Int):List Int:=if canScr p x c then effK p.n p.mv (scrR p x c) (scrR p x c).length else []
end Go.AM
set_option maxRecDepth 8000
namespace Go.AM
open Go.Proofs
theorem keyB_str (s:ByteArray):keyB true (.string s)=true:=rfl
theorem keyB_int (n:Int):keyB false (.int .i64 n)=true:=rfl
def cbU49:=(ai (cbP9) (ai (@keyB_str) (@keyB_int)))

end Go.AM
set_option maxRecDepth 8000
namespace Go.AM
open Go.Proofs
def MF:FuncId→List Bool:=fun f=>if f=4294967295 then [true] else MM f
def cmpP (m:Model):Puzz:=⟨facets m.ks,m.nm,m.mv.map (permOf m.ks)⟩
def cmpR (m:Model):Puzz:=if modelOk m then cmpP m else ⟨0,[],[]⟩
end Go.AM
set_option maxRecDepth 8000
namespace Go.AM
open Go.Proofs
open Ps (ppz pmd pst)
theorem ps_cnt {ks:List Kind} {s:List Twist} (h:psOk ks s):smallT s∧s.length≤3∧cnts s≤120:=by
  have hk:=h.1.1
  have hl:=h.2.1
  have ht:∀ t∈s,t.to.length≤20∧t.by'.length≤20:=fun t ht=>by
    obtain ⟨i,hi,rfl⟩:=List.getElem_of_mem ht
    have h1:=h.2.2 i (by omega)
    rw [getD_eq _ _ _ hi] at h1
    have h2:=kindsOk_kind h.1 (mem_getD ks i default (by omega))
    have:=h1.1;have:=h1.2.1
    omega
  have hc:=cnts_bound s 40 fun t h2=>by have:=ht t h2;show t.to.length+t.by'.length≤40;omega
  exact ⟨⟨by omega,fun t h2=>by have:=ht t h2;omega⟩,by omega,by omega⟩
theorem pst_small (ks:List Kind) (s:List UInt8):smallT (pst ks s).1∧cnts (pst ks s).1≤120:=by
  rcases Ps.pst_cases ks s with ⟨t,ht,_,ok⟩ | ⟨e,he,_⟩
  · rw [ht]
    have:=ps_cnt ok
    exact ⟨this.1,this.2.2⟩
  · rw [he]
    exact ⟨⟨by simp,fun s hs=>by cases hs⟩,by simp [cnts]⟩
theorem lawParseState (ks:List Kind) (s:List UInt8) (h1:ks.length≤9223372036854775807):SpecAt Tryz.prog 7 [ksl ks,.st s] (.bl true):=by
  refine spec_of_awp (M:=MM) (np:=2) (fz:=true) mixed Tryz.func7 rfl rfl (by decide) rfl (Nat.le_refl _) (by decide +kernel) (.inr ⟨rfl,rfl⟩) trivial ?_
  by_cases c:(1048576:Int)<((s.length:Nat):Int)
  · simp -dsimp -implicitDefEqProofs (disch:=first|omega|(simp only [lenr];try omega)) only [↓amPre,↓reduceIte,reduceCtorEq,Nat.reduceEqDiff,Nat.reduceBEq,Nat.reduceAdd,Nat.reduceLeDiff,Nat.reduceSub,Nat.reduceMul,Int.reduceToNat,MM,bu0,cbJ1,cbJ16,cbU49,MF,lt_true c]
  simp -dsimp -implicitDefEqProofs (disch:=first|omega|(simp only [lenr];try omega)) only [↓amPre,↓reduceIte,reduceCtorEq,Nat.reduceEqDiff,Nat.reduceBEq,Nat.reduceAdd,Nat.reduceLeDiff,Nat.reduceSub,Nat.reduceMul,Int.reduceToNat,MM,bu0,cbJ1,cbJ16,cbU49,MF,lt_false (Int.not_lt.1 c)]
  refine callP_of (szKindS ks 1048576 (by unfold intOk;omega) (by omega) h1) ?_
  by_cases c2:(1048576:Int) - ks.length<0
  · simp -dsimp -implicitDefEqProofs (disch:=first|omega|(simp only [lenr];try omega)) only [↓amPre,↓reduceIte,reduceCtorEq,Nat.reduceEqDiff,Nat.reduceBEq,Nat.reduceAdd,Nat.reduceLeDiff,Nat.reduceSub,Nat.reduceMul,Int.reduceToNat,MM,bu0,cbJ1,cbJ16,cbU49,MF,szR_neg c2]
  have hb:ks.length≤1099511627776:=by omega
  have hc2:0≤(1048576:Int) - ks.length:=by omega
  obtain ⟨hr,hc⟩:=pst_small ks s
  have q1:=Ps.parseStateS ks s (by omega) hb
  have q2:=Ps.parseStateI ks s (by omega) hb
  generalize (pst ks s).1=r at *
  generalize (pst ks s).2=b at *
  simp -dsimp -implicitDefEqProofs (disch:=first|omega|(simp only [lenr];try omega)) only [↓amPre,↓reduceIte,reduceCtorEq,Nat.reduceEqDiff,Nat.reduceBEq,Nat.reduceAdd,Nat.reduceLeDiff,Nat.reduceSub,Nat.reduceMul,Int.reduceToNat,MM,bu0,cbJ1,cbJ16,cbU49,MF,szR_pos hc2]
  refine callP_of (toKindS ks hb) ?_
  simp -dsimp -implicitDefEqProofs (disch:=first|omega|(simp only [lenr];try omega)) only [↓amPre,↓reduceIte,reduceCtorEq,Nat.reduceEqDiff,Nat.reduceBEq,Nat.reduceAdd,Nat.reduceLeDiff,Nat.reduceSub,Nat.reduceMul,Int.reduceToNat,MM,bu0,cbJ1,cbJ16,cbU49,MF,kfz,tfz,mks_len,bne_self_eq_false]
  refine callP_of (q1) ?_
  simp -dsimp -implicitDefEqProofs (disch:=first|omega|(simp only [lenr];try omega)) only [↓amPre,↓reduceIte,reduceCtorEq,Nat.reduceEqDiff,Nat.reduceBEq,Nat.reduceAdd,Nat.reduceLeDiff,Nat.reduceSub,Nat.reduceMul,Int.reduceToNat,MM,bu0,cbJ1,cbJ16,cbU49,MF,kfz,tfz,mks_len,bne_self_eq_false]
  refine callP_of (toKindS ks hb) ?_
  simp -dsimp -implicitDefEqProofs (disch:=first|omega|(simp only [lenr];try omega)) only [↓amPre,↓reduceIte,reduceCtorEq,Nat.reduceEqDiff,Nat.reduceBEq,Nat.reduceAdd,Nat.reduceLeDiff,Nat.reduceSub,Nat.reduceMul,Int.reduceToNat,MM,bu0,cbJ1,cbJ16,cbU49,MF,kfz,tfz,mks_len,bne_self_eq_false]
  refine callP_of (q2) ?_
  simp -dsimp -implicitDefEqProofs (disch:=first|omega|(simp only [lenr];try omega)) only [↓amPre,↓reduceIte,reduceCtorEq,Nat.reduceEqDiff,Nat.reduceBEq,Nat.reduceAdd,Nat.reduceLeDiff,Nat.reduceSub,Nat.reduceMul,Int.reduceToNat,MM,bu0,cbJ1,cbJ16,cbU49,MF,kfz,tfz,mks_len,bne_self_eq_false]
  refine callP_of (eqTwistS r r hr.1 hr.2) ?_
  simp -dsimp -implicitDefEqProofs (disch:=first|omega|(simp only [lenr];try omega)) only [↓amPre,↓reduceIte,reduceCtorEq,Nat.reduceEqDiff,Nat.reduceBEq,Nat.reduceAdd,Nat.reduceLeDiff,Nat.reduceSub,Nat.reduceMul,Int.reduceToNat,MM,bu0,cbJ1,cbJ16,cbU49,MF,kfz,tfz,mks_len,bne_self_eq_false]
  refine callP_of (toKindS ks hb) ?_
  simp -dsimp -implicitDefEqProofs (disch:=first|omega|(simp only [lenr];try omega)) only [↓amPre,↓reduceIte,reduceCtorEq,Nat.reduceEqDiff,Nat.reduceBEq,Nat.reduceAdd,Nat.reduceLeDiff,Nat.reduceSub,Nat.reduceMul,Int.reduceToNat,MM,bu0,cbJ1,cbJ16,cbU49,MF,kfz,tfz,mks_len,bne_self_eq_false]
  refine callP_of (eqKindS ks ks hb) ?_
  simp -dsimp -implicitDefEqProofs (disch:=first|omega|(simp only [lenr];try omega)) only [↓amPre,↓reduceIte,reduceCtorEq,Nat.reduceEqDiff,Nat.reduceBEq,Nat.reduceAdd,Nat.reduceLeDiff,Nat.reduceSub,Nat.reduceMul,Int.reduceToNat,MM,bu0,cbJ1,cbJ16,cbU49,MF,kfz,tfz,mks_len,bne_self_eq_false]
  refine callX_of (markKindS ks 1 (by omega) (by omega) hb) ?_
  simp -dsimp -implicitDefEqProofs (disch:=first|omega|(simp only [lenr];try omega)) only [↓amPre,↓reduceIte,reduceCtorEq,Nat.reduceEqDiff,Nat.reduceBEq,Nat.reduceAdd,Nat.reduceLeDiff,Nat.reduceSub,Nat.reduceMul,Int.reduceToNat,MM,bu0,cbJ1,cbJ16,cbU49,MF,kfz,tfz,mks_len,bne_self_eq_false]
  refine callP_of (eqTwistS r r hr.1 hr.2) ?_
  simp -dsimp -implicitDefEqProofs (disch:=first|omega|(simp only [lenr];try omega)) only [↓amPre,↓reduceIte,reduceCtorEq,Nat.reduceEqDiff,Nat.reduceBEq,Nat.reduceAdd,Nat.reduceLeDiff,Nat.reduceSub,Nat.reduceMul,Int.reduceToNat,MM,bu0,cbJ1,cbJ16,cbU49,MF,kfz,tfz,mks_len,bne_self_eq_false]
  refine callX_of (markTwistS r 1 (by omega) (by omega) hr.1) ?_
  simp -dsimp -implicitDefEqProofs (disch:=first|omega|(simp only [lenr];try omega)) only [↓amPre,↓reduceIte,reduceCtorEq,Nat.reduceEqDiff,Nat.reduceBEq,Nat.reduceAdd,Nat.reduceLeDiff,Nat.reduceSub,Nat.reduceMul,Int.reduceToNat,MM,bu0,cbJ1,cbJ16,cbU49,MF,kfz,tfz,mks_len,bne_self_eq_false]
  refine callP_of (heldTwistS r 1 (by omega) (by omega) hr.1) ?_
  simp -dsimp -implicitDefEqProofs (disch:=first|omega|(simp only [lenr];try omega)) only [↓amPre,↓reduceIte,reduceCtorEq,Nat.reduceEqDiff,Nat.reduceBEq,Nat.reduceAdd,Nat.reduceLeDiff,Nat.reduceSub,Nat.reduceMul,Int.reduceToNat,MM,bu0,cbJ1,cbJ16,cbU49,MF,kfz,tfz,mks_len,bne_self_eq_false]
  refine callP_of (toKindS ks hb) ?_
  simp -dsimp -implicitDefEqProofs (disch:=first|omega|(simp only [lenr];try omega)) only [↓amPre,↓reduceIte,reduceCtorEq,Nat.reduceEqDiff,Nat.reduceBEq,Nat.reduceAdd,Nat.reduceLeDiff,Nat.reduceSub,Nat.reduceMul,Int.reduceToNat,MM,bu0,cbJ1,cbJ16,cbU49,MF,kfz,tfz,mks_len,bne_self_eq_false]
  refine callP_of (q2) ?_
  simp -dsimp -implicitDefEqProofs (disch:=first|omega|(simp only [lenr];try omega)) only [↓amPre,↓reduceIte,reduceCtorEq,Nat.reduceEqDiff,Nat.reduceBEq,Nat.reduceAdd,Nat.reduceLeDiff,Nat.reduceSub,Nat.reduceMul,Int.reduceToNat,MM,bu0,cbJ1,cbJ16,cbU49,MF,kfz,tfz,mks_len,bne_self_eq_false]
  refine callP_of (eqTwistS r r hr.1 hr.2) ?_
  simp -dsimp -implicitDefEqProofs (disch:=first|omega|(simp only [lenr];try omega)) only [↓amPre,↓reduceIte,reduceCtorEq,Nat.reduceEqDiff,Nat.reduceBEq,Nat.reduceAdd,Nat.reduceLeDiff,Nat.reduceSub,Nat.reduceMul,Int.reduceToNat,MM,bu0,cbJ1,cbJ16,cbU49,MF,kfz,tfz,mks_len,bne_self_eq_false]
  refine callP_of (heldTwistS r 1 (by omega) (by omega) hr.1) ?_
  simp -dsimp -implicitDefEqProofs (disch:=first|omega|(simp only [lenr];try omega)) only [↓amPre,↓reduceIte,reduceCtorEq,Nat.reduceEqDiff,Nat.reduceBEq,Nat.reduceAdd,Nat.reduceLeDiff,Nat.reduceSub,Nat.reduceMul,Int.reduceToNat,MM,bu0,cbJ1,cbJ16,cbU49,MF,kfz,tfz,mks_len,bne_self_eq_false]
end Go.AM
