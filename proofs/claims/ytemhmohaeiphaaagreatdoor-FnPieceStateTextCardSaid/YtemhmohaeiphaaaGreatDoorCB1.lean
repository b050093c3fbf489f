/-
  CONTRACTS of functions of the program,and what they compute,by content.
-/
import Derived.Test.YtemhmohaeiphaaaGreatDoorM2Facts
import Derived.Test.YtemhmohaeiphaaaGreatDoorCB0
import Derived.Test.YtemhmohaeiphaaaGreatDoorM2SD
import Derived.Handed
import Derived.SizedLaws
import Derived.ShapedOpen
import Derived.Shelf.Vars
import Derived.Lib.LaidTab
import Derived.Sort.Grow
import Derived.Deep.Draws
import Derived.Sort.Row
import Derived.Lib.Join
import Derived.Lib.ItoaLen
import Derived.Laws.AppendOwn
import Derived.Shelf.Strconv.Itoa4
import Derived.Shelf.Strings.OnBuilder
import Derived.Shelf.Small.Strs
import Derived.Shelf.Strings.SplitShaped
import Derived.Shelf.Strconv.ParseIntPublic10
import Derived.Lib.SplitLaws
import Derived.RangeFuncRecord
import Derived.Shelf.SlIter.Collect
import Derived.RangeFuncBox
import Derived.RangeFuncBound
import Derived.RangeFuncLeaves
import Derived.Shelf.Abstract
import Derived.Shelf.RegionOpen
import Derived.OwnWalkIn
import Derived.TacticsInMore
import Derived.LoopNIn
import Derived.LoopIn
import Derived.Maps.AppendAt
set_option linter.unusedVariables false
set_option linter.defProp false
set_option linter.unusedSimpArgs false
namespace Go.AM
open Go.Proofs
open Go.ChangeShapes Go.WideShapes Go.RowKit
theorem wrapS {H:Type} {enc:TypeId×Value→H} {a:Assume} {C:Checked} {os:Os} {f:FuncId} {fn:Func} {s:ChangeSpec} {conds:List PathCond} {apart fresh handsOn again:Bool} {X:World→Array Value→Prop}
    (hX:∀ (w w':World) (args:Array Value),w.heap=w'.heap→X w args→X w' args)
    (own:ownKnob C.prog.godebug=none) (started:os.Started) (noInit:C.prog.inits.idxOf? f=none) (hfn:C.prog.funcs[f]? = some fn)
    (witness:∃ (w:World) (tape:Tape) (i:Input),w.os=os∧(w.forCall tape i).Shaped C.prog∧i.vars=[]∧Input.okWide C.prog (w.forCall tape i) .any w.heap.size f i ∧
      ((s.pre enc C.prog fn conds apart (w.forCall tape i).memory i.args∧X (w.forCall tape i).memory i.args)∧sizedMet enc C.prog fn (OpenSpec.ofChange s) apart (w.forCall tape i).memory i.args)∧a.holds C.prog (lone (Frame.enter C.prog f i.args .normal) [] (w.forCall tape i)))
    (contract:∀ (W:World) (base:Nat) (args:Array Value) (ds gs:List (DataW H)) (before:List MemPlace),
      (∀ (j:Nat) t v,fn.params[j]? = some t→args[j]? = some v→Value.okWide C.prog W .any base t v) →
      DataW.Whole enc C.prog fn.params.toList s.vars apart W args.toList ds gs before →
      conds.all (PathCond.test C.prog ⟨fn.params.toList,ds,s.plain.varTypes C.prog,gs⟩)=true →
      X W args→W.ShapedOpen C.prog →
      Calls C.prog f args W fun e W'=>∃ v,e=.returned v∧s.post enc C.prog fn apart fresh handsOn again W args v W') :
    ReturnsInHanded a C os f .any (fun w args=>(s.pre enc C.prog fn conds apart w args∧X w args)∧sizedMet enc C.prog fn (OpenSpec.ofChange s) apart w args) (s.post enc C.prog fn apart fresh handsOn again):=by
  refine returnsInHanded_of_calls own started noInit witness ?_
  intro w tape i _ hsh _ hok hpre hholds
  obtain ⟨_,_,_,fn',hfn',_,_,_,_,hval⟩:=hok
  have e:fn'=fn:=Option.some.inj (hfn'.symm.trans hfn)
  subst e
  obtain ⟨⟨⟨ds,gs,before,hw,hc⟩,hx⟩,hz⟩:=hpre
  have hw':=DataW.Whole.of_heap (w':=w.forCall tape i) (by rfl) hw
  refine (contract (w.forCall tape i) w.heap.size i.args ds gs before hval hw' hc (hX _ _ _ (by rfl) hx) hsh).mono fun e W' ⟨v,he,hp⟩=>?_
  subst he
  exact ChangeSpec.post_blind hp
theorem trod_iface {H:Type} {enc:TypeId×Value→H} {P:Program} {w:World} {base:Nat} {sp:Nat→Bool} {held:Bool} {fuel:Nat} {t:TypeId} {cs:List Value} {ms:Array (String×TypeId)} {name:String} {d:DataW H} {p:List MemPlace}
    (ht:P.underlying t=some (.interface ms)) (h:DataW.trod enc P w base sp held fuel t cs=some (.iface name d,p)):∃ u v,cs=[.iface u v]:=by
  cases fuel with
  | zero=>simp [DataW.trod] at h
  | succ n =>
    unfold DataW.trod at h
    rw [ht] at h
    match cs,h with
    | [.iface u v],_=>exact ⟨u,v,rfl⟩
    | [.nilIface],h=>simp at h
    | [],h=>simp at h
    | _ :: _ :: _,h=>simp at h
theorem base_mk {W:World} {b:Nat} {cs:Array Value} {t:TypeId} {f:Nat×Nat} {x:Value} (hh:W.heap[b]? = some (.cells cs t f)) (h0:cs[0]? = some x) (h1:x.oneCell'=true):gho W b 0=some x :=
  gho_cell (by simp [World.cell?,hh];exact h0) h1
end Go.AM
namespace Go.AM
/-! the library's contracts in this machine's words: plain values in,a plain value out -/
theorem Held.same {I:Gh} {w w':World} (hh:Held I w) (h:∀ b o x,I b o=some x→w'.heap[b]? = w.heap[b]?):Held I w' :=
  ⟨fun b o x hx=>by
    have h1:=hh.cell b o x hx
    exact ⟨(World.cell?_of_block (w:=w) (a:=⟨b,o,none⟩) (h b o x hx)).trans h1.1,h1.2⟩,
   fun b cs hc=>by
    obtain ⟨t,f,x,h1,h2⟩:=hh.base b cs hc
    exact ⟨t,f,x,(h b 0 x h2).trans h1,h2⟩⟩
theorem grow_block (w:World) (k:Nat) (os:Array Obj) {b:Nat} (h:b<w.heap.size):(Sort.grow (w.drewN k) os).heap[b]? = w.heap[b]?:=by
  simp only [Sort.grow,World.drewN]
  rw [Array.getElem?_append_left h]
theorem grow_size (w:World) (k:Nat) (os:Array Obj):w.heap.size≤(Sort.grow (w.drewN k) os).heap.size:=by
  simp only [Sort.grow,World.drewN,Array.size_append];omega
theorem tab_of {P:Program} {w:World} {name:String} {k:IntKind} {zs:List Int} {g t:Nat} {f:Nat×Nat} (hg:P.globalNamed name=some g) (h:w.heap[g]? = some (.cells (zs.map fun z=>Value.int k z).toArray t f)):Lib.TabIs P w name k zs:=by
  unfold Lib.TabIs World.var?
  rw [hg]
  simp [h]
theorem spec_static {P:Program} {f:FuncId} (hb:HasBody P f) (xs:List Value) (y:Value)
    (hs:∀ I w,Held I w→Calls P f xs.toArray w fun e w'=>e=.returned y∧∃ k os,w'=Sort.grow (w.drewN k) os):SpecAt P f (xs.map .v) (.v y):=by
  refine ⟨hb,by simp,fun j T hj=>by simp at hj,fun I π w vals hI hvs hsep htop=>?_⟩
  obtain rfl:vals=xs.toArray:=by
    apply Array.ext
    · simpa using hvs
    · intro j h1 h2
      have h2':j<(xs.map AV.v).length:=by simpa using h2
      have q0:=htop j h2' h1
      have e:(xs.map AV.v)[j]=.v (xs[j]'(by simpa using h2)):=by simp
      rw [e] at q0
      have q:=rep_v (ρ:=π) (.stat (top_stat q0 rfl))
      rw [q]
      simp
  have hn:∀ p,((AV.v y).at p).isNode=false:=fun p=>rs_at (RepS.v (I:=I) y) p
  have hm:∀ {i T p},outMem (xs.map AV.v).length [] (.v y) i=some T→(T.at p).isNode=true→False:=fun {i T p} h1 h2=>by
    unfold outMem at h1
    split at h1
    · cases h1;rw [hn p] at h2;cases h2
    · simp at h1
  refine (hs I w hI).mono ?_
  rintro e w' ⟨rfl,k,os,rfl⟩
  refine ⟨I,π,y,rfl,hI.same fun b o x hx=>grow_block w k os (hI.lt hx),⟨fun i T p h1=>?_,fun i T p k h1 h2 _=>(hm h1 h2).elim,fun i T p k i' T' p' k' h1 h2 _ _ _ _ _=>(hm h1 h2).elim⟩,.inr ⟨rfl,.v y⟩,fun j T hT=>by simp at hT,⟨rfl,rfl,rfl,grow_size w k os,fun b h1 _=>grow_block w k os h1⟩,fun _ _ _=>rfl,fun b ⟨i,T,p,k,h1,h2,_⟩=>(hm h1 h2).elim⟩
  cases hnn:(T.at p).isNode with
  | false=>exact node_false hnn
  | true=>exact (hm h1 hnn).elim
end Go.AM
namespace Go.AM
/-! a sort of the library's,as its own contract tells it,in this machine's words -/
def srt (l:List Int):List Int:=l.mergeSort fun x y=>decide (x≤y)
end Go.AM
set_option maxRecDepth 8000
namespace Go.AM
namespace Door
/-! texts that are joined,plainly;the library's Join in this machine's words -/
theorem lens_le (b:Nat):∀ xs:List (List UInt8),(∀ x∈xs,x.length≤b)→Lib.lens xs≤b*xs.length
  | [],_=>by simp [Lib.lens]
  | x :: r,h=>by
    have h1:=lens_le b r fun y hy=>h y (List.mem_cons_of_mem _ hy)
    have h2:=h x List.mem_cons_self
    simp only [Lib.lens,List.map_cons,List.sum_cons,List.length_cons] at h1 ⊢
    rw [Nat.mul_succ];omega
theorem join_len (xs:List (List UInt8)) (sep:List UInt8) (b:Nat) (h:∀ x∈xs,x.length≤b):(Lib.join xs sep).length≤(b+sep.length)*xs.length:=by
  cases xs with
  | nil=>simp [Lib.join_nil]
  | cons x r =>
    rw [Lib.join_cons,List.length_append,Lib.joinTail_length]
    have h1:=lens_le b r fun y hy=>h y (List.mem_cons_of_mem _ hy)
    have h2:=h x List.mem_cons_self
    simp only [List.length_cons]
    rw [Nat.add_mul,Nat.mul_succ,Nat.mul_succ];omega
def jn (l:List Int):List UInt8:=Lib.join (l.map Lib.itoa) [32]
theorem itoa_len {x:Int} (h:intOk x):(Lib.itoa x).length≤21:=Lib.itoa_length_le x h.1 h.2
theorem jn_len (l:List Int) (h:∀ x∈l,intOk x):(jn l).length≤22*l.length:=by
  have:=join_len (l.map Lib.itoa) [32] 21 (fun x hx=>by
    obtain ⟨y,hy,rfl⟩:=List.mem_map.1 hx
    exact itoa_len (h y hy))
  simpa [jn] using this
theorem spec_stat {P:Program} {f:FuncId} (hb:HasBody P f) (args:List AV) (hst:args.all (fun a=>!a.nodeB)=true) (y:Value)
    (hs:∀ I w (vals:Array Value),Held I w→vals.size=args.length→(∀ j (hj:j<args.length) (hk:j<vals.size),RepS I (args[j]) (vals[j]))→Calls P f vals w fun e w'=>e=.returned y∧RowKit.Below w.heap.size w w'):SpecAt P f args (.v y):=by
  refine ⟨hb,by simp,fun j T hj=>by simp at hj,fun I π w vals hI hvs hsep htop=>?_⟩
  have hn:∀ p,((AV.v y).at p).isNode=false:=fun p=>rs_at (RepS.v (I:=I) y) p
  have hm:∀ {i T p},outMem args.length [] (.v y) i=some T→(T.at p).isNode=true→False:=fun {i T p} h1 h2=>by
    unfold outMem at h1
    split at h1
    · cases h1;rw [hn p] at h2;cases h2
    · simp at h1
  refine (hs I w vals hI hvs fun j hj hk=>top_stat (htop j hj hk) (by
    have:=List.all_eq_true.1 hst _ (List.getElem_mem hj)
    simpa using this)).mono ?_
  rintro e w' ⟨rfl,hbel⟩
  refine ⟨I,π,y,rfl,hI.same fun b o x hx=>hbel.block b (hI.lt hx),⟨fun i T p h1=>?_,fun i T p k h1 h2 _=>(hm h1 h2).elim,fun i T p k i' T' p' k' h1 h2 _ _ _ _ _=>(hm h1 h2).elim⟩,.inr ⟨rfl,.v y⟩,fun j T hT=>by simp at hT,⟨hbel.os,hbel.tape,hbel.output,hbel.size,fun b h1 _=>hbel.block b h1⟩,fun _ _ _=>rfl,fun b ⟨i,T,p,k,h1,h2,_⟩=>(hm h1 h2).elim⟩
  cases hnn:(T.at p).isNode with
  | false=>exact node_false hnn
  | true=>exact (hm h1 hnn).elim
theorem spec_join {P:Program} {f:FuncId} (hb:HasBody P f)
    (hs:∀ (bk o c:Nat) (xs:List ByteArray) (sep:ByteArray) (w:World),(∀ (j:Nat) x,xs[j]? = some x→w.cell? ⟨bk,o+j,none⟩=some (.string x))→bk<w.heap.size→xs.length≤140737488355328→xs.length≤c →
      (Lib.join (xs.map (·.data.toList)) sep.data.toList).length≤140737488355328 →
      Calls P f #[.slice (some ⟨bk,o,none⟩) xs.length c,.string sep] w fun e w'=>e=.returned (.string ⟨(Lib.join (xs.map (·.data.toList)) sep.data.toList).toArray⟩)∧RowKit.Below w.heap.size w w')
    (hn:∀ (a:Option Addr) (c:Nat) (sep:ByteArray) (w:World),Calls P f #[.slice a 0 c,.string sep] w fun e w'=>e=.returned (.string ⟨#[]⟩)∧w'=w)
    (xs:List (List UInt8)) (sep:List UInt8) (hN:xs.length≤1099511627776) (hl:(Lib.join xs sep).length≤140737488355328):SpecAt P f [.sl 1 (xs.map AV.st),.st sep] (.st (Lib.join xs sep)):=by
  refine spec_stat hb _ rfl _ fun I w vals hI hvs hr=>?_
  obtain ⟨v0,v1,rfl⟩:∃ v0 v1,vals = #[v0,v1]:=by
    match vals,hvs with
    | ⟨[a,b]⟩,_=>exact ⟨a,b,rfl⟩
  have h0:=hr 0 (by simp) (by simp)
  have h1:=hr 1 (by simp) (by simp)
  have e1:v1=.string ⟨sep.toArray⟩:=by
    have h1:RepS I (.st sep) v1:=h1
    cases h1;rfl
  subst e1
  have h0:RepS I (.sl 1 (xs.map AV.st)) v0:=h0
  have nil:∀ a c,xs=[]→v0=.slice a 0 c→Calls P f #[v0,.string ⟨sep.toArray⟩] w fun e w'=>e=.returned (.string ⟨(Lib.join xs sep).toArray⟩)∧RowKit.Below w.heap.size w w':=by
    rintro a c rfl rfl
    refine (hn a c _ w).mono ?_
    rintro e w' ⟨rfl,rfl⟩
    exact ⟨by rw [Lib.join_nil],⟨rfl,rfl,rfl,Nat.le_refl _,fun _ _=>rfl⟩⟩
  generalize hes:xs.map AV.st=es at h0
  cases h0 with
  | nil _ a=>exact nil a 0 (by simpa using hes) rfl
  | nila _ a c=>exact nil (some a) c (by simpa using hes) rfl
  | sl _ _ b off cap vs hsz hc hI' hr' =>
    subst hes
    by_cases hx:xs=[]
    · have:=nil (some ⟨b,off,none⟩) cap hx (by simp [hx])
      exact this
    have hcell:∀ i (hi:i<xs.length),w.cell? ⟨b,off+i,none⟩=some (.string ⟨(xs[i]).toArray⟩):=fun i hi=>by
      have hi':i<(xs.map AV.st).length:=by simpa using hi
      have q:=(hI.cell b (off+i*1+0) _ (hI' i hi' 0 (by omega))).1
      have hlen:0<(((xs.map AV.st)[i]).cells).length:=by simp [AV.cells]
      have q2:=hr' i hi' 0 hlen
      have e:(((xs.map AV.st)[i]).cells)[0]=AV.st (xs[i]):=by simp [AV.cells]
      rw [e] at q2
      have q3:vs i 0=.string ⟨(xs[i]).toArray⟩:=by
        generalize hv:vs i 0=v at q2
        cases q2;rfl
      rw [q3] at q
      simpa using q
    have hblk:b<w.heap.size:=by
      have hpos:0<xs.length:=List.length_pos_iff.2 hx
      exact hI.lt (hI' 0 (by simpa using hpos) 0 (by omega))
    have key:=hs b off cap (xs.map fun l=>⟨l.toArray⟩) ⟨sep.toArray⟩ w (fun j x hj=>by
      rw [List.getElem?_map] at hj
      obtain ⟨l,hl1,rfl⟩:=Option.map_eq_some_iff.1 hj
      obtain ⟨hlt,rfl⟩:=List.getElem?_eq_some_iff.1 hl1
      exact hcell j hlt) hblk (by simp;omega) (by simpa using hc) (by
        have e:((xs.map fun l=>(⟨l.toArray⟩:ByteArray)).map (·.data.toList))=xs:=by simp [List.map_map,Function.comp_def]
        rw [e];exact hl)
    have e:((xs.map fun l=>(⟨l.toArray⟩:ByteArray)).map (·.data.toList))=xs:=by simp [List.map_map,Function.comp_def]
    rw [e] at key
    simpa using key
end Door
end Go.AM
namespace Go.AM
namespace Ps
/-! more of the kit's words as contracts: rows of one-cell values,a reader,pairs -/
theorem vat (x:Value):∀ p,((AV.v x).at p).isNode=false:=fun p=>rs_at (RepS.v (I:=fun _ _=>none) x) p
theorem vL_at (vs:List Value):∀ (ij:Nat×Nat) (p:Path),(((.tr 1 (vs.map AV.v):AV)).at (ij :: p)).isNode=false:=fun ij p=>by
  show (AV.at (((vs.map AV.v).getD ij.1 .any).cells.getD ij.2 .any) p).isNode=false
  by_cases h:ij.1<vs.length
  · have e:(vs.map AV.v).getD ij.1 .any=.v (vs[ij.1]):=by simp [List.getD,h]
    rw [e]
    show (AV.at (([AV.v (vs[ij.1])]:List AV).getD ij.2 .any) p).isNode=false
    cases ij.2 with
    | zero=>exact vat _ p
    | succ j =>
      show (AV.at .any p).isNode=false
      rw [any_at];rfl
  · have e:(vs.map AV.v).getD ij.1 .any=.any:=getD_ge (by simp;omega)
    rw [e]
    have e2:(AV.any).cells.getD ij.2 .any=.any:=by cases ij.2 <;> rfl
    rw [e2,any_at];rfl
theorem node_vL {vs:List Value} {p:Path} (h:(((.tr 1 (vs.map AV.v):AV)).at p).isNode=true):p=[]:=by
  cases p with
  | nil=>rfl
  | cons ij p=>rw [vL_at] at h;cases h
def plcOf (v:Value):Option Plc:=match v with | .slice (some a) _ cap=>some ⟨a.block,0,1,cap⟩ | _=>none
theorem row_ok {I:Gh} {π:Path→Option Plc} {w:World} {p:Path} {vs:List Value} {E:TypeId} {base:Nat} {v:Value} (hone:∀ x∈vs,x.oneCell'=true)
    (hrow:w.ownsRow base E 1 v vs.length vs) (hπ:π p=plcOf v):RowOk I π w p 1 (vs.map AV.v)∧Hdr (π p) (.tr 1 (vs.map AV.v)) v:=by
  obtain ⟨_,hrow⟩:=hrow
  rcases hrow with ⟨rfl,hn⟩ | ⟨g,cap,cur,rfl,hg,hblk,hc,hcm,hcs,hvals⟩
  · have hL:vs=[]:=List.length_eq_zero_iff.1 hn
    subst hL
    exact ⟨.inl ⟨hπ,rfl⟩,.inr ⟨rfl,none,rfl⟩⟩
  · have hget:∀ i (hi:i<vs.length),cur.getD i undef=vs[i]:=fun i hi=>by
      have h2:(cur.toList.take (vs.length*1))[i]? = some (vs[i]):=by
        rw [hvals,List.getElem?_eq_getElem hi]
      rw [List.getElem?_take,if_pos (by omega)] at h2
      rw [Array.getD_eq_getD_getElem?]
      have h3:cur[i]? = some (vs[i]):=by simpa using h2
      rw [h3];rfl
    refine ⟨.inr ⟨⟨g,0,1,cap⟩,E,cur,hπ,rfl,by simpa using hc,hcm,hblk,by simp [hcs],fun i hi=>⟨by simp [AV.cells],fun j hj=>?_⟩⟩,.inl ⟨⟨g,0,1,cap⟩,hπ,rfl,by simpa using hc,by simp⟩⟩
    have hi':i<vs.length:=by simpa using hi
    have hj':j=0:=by simp [AV.cells] at hj;omega
    subst hj'
    have e:=hget i hi'
    simp only [Nat.zero_add,Nat.mul_one,Nat.add_zero]
    rw [e]
    have e2:((List.map AV.v vs)[i]).cells[0]=AV.v (vs[i]):=by simp [AV.cells]
    refine ⟨.inr ⟨by rw [e2];rfl,by rw [e2];exact .v _⟩,hone _ (List.getElem_mem hi')⟩
theorem own_blk {v:Value} {w:World} {base:Nat} {E:TypeId} {vs:List Value} (hrow:w.ownsRow base E 1 v vs.length vs) {k:Plc} (h:(plcOf v)=some k):base≤k.b∧v.ownBlock=some k.b:=by
  obtain ⟨_,hrow⟩:=hrow
  rcases hrow with ⟨rfl,hn⟩ | ⟨g,cap,cur,rfl,hg,_⟩
  · cases h
  · cases h;exact ⟨hg,rfl⟩
theorem spec_vrow {P:Program} {f:FuncId} (hb:HasBody P f) (args:List AV) (hst:args.all (fun a=>!a.nodeB)=true) (vs:List Value) (hone:∀ x∈vs,x.oneCell'=true) (E:TypeId)
    (hs:∀ I w (vals:Array Value),Held I w→vals.size=args.length→(∀ j (hj:j<args.length) (hk:j<vals.size),RepS I (args[j]) (vals[j])) →
      Calls P f vals w fun e w'=>∃ v,e=.returned v∧w'.ownsRow w.heap.size E 1 v vs.length vs∧Go.RowKit.Below w.heap.size w w'):SpecAt P f args (.tr 1 (vs.map AV.v)):=by
  refine ⟨hb,by simp,fun j T hj=>by simp at hj,fun I π w vals hI hvs hsep htop=>?_⟩
  refine (hs I w vals hI hvs fun j hj hk=>top_stat (htop j hj hk) (by
    have:=List.all_eq_true.1 hst _ (List.getElem_mem hj)
    simpa using this)).mono ?_
  rintro e w' ⟨v,rfl,hrow,hbel⟩
  have hmem:∀ {i T},outMem args.length [] (.tr 1 (vs.map AV.v)) i=some T→i=args.length∧T=.tr 1 (vs.map AV.v):=fun {i T} h1=>by
    unfold outMem at h1
    split at h1
    · rename_i h;cases h1;exact ⟨h,rfl⟩
    · simp at h1
  have hHeld:Held I w':=hI.same fun b o x hx=>hbel.block b (hI.lt hx)
  have hend:BelowX (Owns π (fun i=>args[i]?)) w.heap.size w w':=⟨hbel.os,hbel.tape,hbel.output,hbel.size,fun b h1 _=>hbel.block b h1⟩
  refine ⟨I,fun i p=>if i=args.length∧p=[] then (plcOf v) else none,v,rfl,hHeld,⟨fun i T p h1=>?_,fun i T p k h1 h2 h3 o=>?_,fun i T p k i' T' p' k' h1 h2 h3 h4 h5 h6 _=>?_⟩,.inl ⟨rfl,?_⟩,fun j T hT=>by simp at hT,hend,fun _ _ _=>rfl,fun b ⟨i,T,p,k,h1,h2,h3,h4⟩=>?_⟩
  · obtain ⟨rfl,rfl⟩:=hmem h1
    cases hnn:(((.tr 1 (vs.map AV.v):AV)).at p).isNode with
    | false=>exact node_false hnn
    | true =>
      have:=node_vL hnn;subst this
      exact (row_ok (I:=I) (π:=fun p=>if args.length=args.length∧p=[] then (plcOf v) else none) (p:=[]) hone hrow (by rw [if_pos ⟨rfl,rfl⟩])).1
  · obtain ⟨rfl,rfl⟩:=hmem h1
    simp only at h3
    split at h3
    · have hk:=(own_blk hrow h3).1
      cases hx:I k.b o with
      | none=>rfl
      | some x=>exact absurd (hI.lt hx) (by omega)
    · cases h3
  · obtain ⟨rfl,rfl⟩:=hmem h1
    obtain ⟨rfl,rfl⟩:=hmem h4
    exact ⟨rfl,by rw [node_vL h2,node_vL h5]⟩
  · exact (row_ok (I:=I) (π:=fun p=>if args.length=args.length∧p=[] then (plcOf v) else none) (p:=[]) hone hrow (by rw [if_pos ⟨rfl,rfl⟩])).2
  · simp only at h3
    split at h3
    · have hk:=(own_blk hrow h3).1
      subst h4;exact .inr hk
    · cases h3
theorem one_max:1≤maxLen:=by decide
def rdr (vs:List Value) (a b:Value):AV:=.pt 3 (.agg [.tr 1 (vs.map AV.v),.v a,.v b])
theorem rdr_cell (vs:List Value) (a b:Value) (p:Path):∀ i j,(((rdr vs a b).cellAt i j).at p).isNode=true→i=0∧j=0∧p=[]
  | 0,0,h=>by
    have h:(((.tr 1 (vs.map AV.v):AV)).at p).isNode=true:=h
    exact ⟨rfl,rfl,node_vL h⟩
  | 0,1,h=>by
    have h:((AV.v a).at p).isNode=true:=h
    rw [vat] at h;cases h
  | 0,2,h=>by
    have h:((AV.v b).at p).isNode=true:=h
    rw [vat] at h;cases h
  | 0,j+3,h=>by
    have h:((AV.any).at p).isNode=true:=h
    rw [any_at] at h;cases h
  | i+1,j,h=>by
    have h:((AV.any).at p).isNode=true:=h
    rw [any_at] at h;cases h
theorem rdr_node {vs:List Value} {a b:Value} {p:Path} (h:((rdr vs a b).at p).isNode=true):p=[]∨p=[(0,0)]:=by
  cases p with
  | nil=>exact .inl rfl
  | cons ij p =>
    obtain ⟨i,j⟩:=ij
    obtain ⟨rfl,rfl,rfl⟩:=rdr_cell vs a b p i j h
    exact .inr rfl
theorem spec_rdr {P:Program} {f:FuncId} (hb:HasBody P f) (args:List AV) (hst:args.all (fun a=>!a.nodeB)=true) (vs:List Value) (hone:∀ x∈vs,x.oneCell'=true) (a b:Value) (ha:a.oneCell'=true) (hb':b.oneCell'=true) (E T:TypeId)
    (hs:∀ I w (vals:Array Value),Held I w→vals.size=args.length→(∀ j (hj:j<args.length) (hk:j<vals.size),RepS I (args[j]) (vals[j])) →
      Calls P f vals w fun e w'=>∃ B v,e=.returned (.pointer (some ⟨B,0,none⟩))∧w.heap.size≤B∧w'.heap[B]? = some (.cells #[v,a,b] T (0,0))∧v.oneCell'=true∧v.ownBlock≠some B∧w'.ownsRow w.heap.size E 1 v vs.length vs∧Go.RowKit.Below w.heap.size w w'):SpecAt P f args (rdr vs a b):=by
  refine ⟨hb,by simp,fun j T hj=>by simp at hj,fun I π w vals hI hvs hsep htop=>?_⟩
  refine (hs I w vals hI hvs fun j hj hk=>top_stat (htop j hj hk) (by
    have:=List.all_eq_true.1 hst _ (List.getElem_mem hj)
    simpa using this)).mono ?_
  rintro e w' ⟨B,v,rfl,hB,hBc,hv1,hvB,hrow,hbel⟩
  have hmem:∀ {i T},outMem args.length [] (rdr vs a b) i=some T→i=args.length∧T=rdr vs a b:=fun {i T} h1=>by
    unfold outMem at h1
    split at h1
    · rename_i h;cases h1;exact ⟨h,rfl⟩
    · simp at h1
  have hHeld:Held I w':=hI.same fun b o x hx=>hbel.block b (hI.lt hx)
  have hend:BelowX (Owns π (fun i=>args[i]?)) w.heap.size w w':=⟨hbel.os,hbel.tape,hbel.output,hbel.size,fun b h1 _=>hbel.block b h1⟩
  obtain ⟨Q,hQ⟩:∃ Q:Pl,Q=fun i p=>if i=args.length∧p=[] then some ⟨B,0,3,1⟩ else if i=args.length∧p=[(0,0)] then (plcOf v) else none:=⟨_,rfl⟩
  have Q0:Q args.length []=some ⟨B,0,3,1⟩:=by rw [hQ];simp
  have Q1:Q args.length [(0,0)]=plcOf v:=by rw [hQ];simp
  have hk:∀ p k,(p=[]∨p=[(0,0)])→Q args.length p=some k→w.heap.size≤k.b∧((p=[]∧k.b=B)∨(p=[(0,0)]∧v.ownBlock=some k.b)):=fun p k hp h3=>by
    rcases hp with rfl | rfl
    · rw [Q0] at h3;cases h3;exact ⟨hB,.inl ⟨rfl,rfl⟩⟩
    · rw [Q1] at h3
      obtain ⟨h1,h2⟩:=own_blk hrow h3
      exact ⟨h1,.inr ⟨rfl,h2⟩⟩
  refine ⟨I,Q,.pointer (some ⟨B,0,none⟩),rfl,hHeld,⟨fun i T p h1=>?_,fun i T p k h1 h2 h3 o=>?_,fun i T p k i' T' p' k' h1 h2 h3 h4 h5 h6 hbb=>?_⟩,.inl ⟨rfl,⟨⟨B,0,3,1⟩,Q0,rfl,Nat.le_refl _,rfl⟩⟩,fun j T hT=>by simp at hT,hend,fun _ _ _=>rfl,fun bb ⟨i,T,p,k,h1,h2,h3,h4⟩=>?_⟩
  · obtain ⟨rfl,rfl⟩:=hmem h1
    cases hnn:((rdr vs a b).at p).isNode with
    | false=>exact node_false hnn
    | true =>
      have hr:=row_ok (I:=I) (π:=Q args.length) (p:=[(0,0)]) hone hrow Q1
      rcases rdr_node hnn with rfl | rfl
      · refine .inr ⟨⟨B,0,3,1⟩,T,#[v,a,b],Q0,rfl,Nat.le_refl _,one_max,hBc,by simp,fun i hi=>⟨?_,fun j hj=>?_⟩⟩
        · have:i=0:=by simpa using hi
          subst this;rfl
        · have:i=0:=by simpa using hi
          subst this
          match j,hj with
          | 0,_=>exact ⟨.inl ⟨rfl,hr.2⟩,hv1⟩
          | 1,_=>exact ⟨.inr ⟨rfl,.v _⟩,ha⟩
          | 2,_=>exact ⟨.inr ⟨rfl,.v _⟩,hb'⟩
          | j+3,hj =>
            have hj:j+3<3:=hj
            omega
      · exact hr.1
  · obtain ⟨rfl,rfl⟩:=hmem h1
    have hq:=(hk p k (rdr_node h2) h3).1
    cases hx:I k.b o with
    | none=>rfl
    | some x=>exact absurd (hI.lt hx) (by omega)
  · obtain ⟨rfl,rfl⟩:=hmem h1
    obtain ⟨rfl,rfl⟩:=hmem h4
    refine ⟨rfl,?_⟩
    rcases (hk p k (rdr_node h2) h3).2 with ⟨rfl,e1⟩ | ⟨rfl,e1⟩ <;> rcases (hk p' k' (rdr_node h5) h6).2 with ⟨rfl,e2⟩ | ⟨rfl,e2⟩
    · rfl
    · exact absurd (by rw [e2,← hbb,e1]) hvB
    · exact absurd (by rw [e1,hbb,e2]) hvB
    · rfl
  · have hi:i=args.length∧T=rdr vs a b:=hmem h1
    obtain ⟨rfl,rfl⟩:=hi
    subst h4
    exact .inr (hk p k (rdr_node h2) h3).1
theorem spec_two {P:Program} {f:FuncId} (hb:HasBody P f) (args:List AV) (hst:args.all (fun a=>!a.nodeB)=true) (x y:AV) (hx:∀ p,(x.at p).isNode=false) (hy:∀ p,(y.at p).isNode=false) (hxa:∀ fs,x≠.agg fs) (hya:∀ fs,y≠.agg fs)
    (hs:∀ I w (vals:Array Value),Held I w→vals.size=args.length→(∀ j (hj:j<args.length) (hk:j<vals.size),RepS I (args[j]) (vals[j])) →
      Calls P f vals w fun e w'=>∃ u v,e=.returned (.tuple #[u,v])∧RepS I x u∧RepS I y v∧RowKit.Below w.heap.size w w'):SpecAt P f args (.tup [x,y]):=by
  refine ⟨hb,by simp,fun j T hj=>by simp at hj,fun I π w vals hI hvs hsep htop=>?_⟩
  have hn:∀ p,((AV.tup [x,y]).at p).isNode=false:=fun p=>by
    match p with
    | []=>rfl
    | (i,j) :: p =>
      have e:(AV.tup [x,y]).at ((i,j) :: p)=AV.at (match i with | 0=>([x,y]:List AV).getD j .any | _+1=>.any) p:=by cases i <;> rfl
      rw [e]
      match i,j with
      | 0,0=>exact hx p
      | 0,1=>exact hy p
      | 0,j+2=>show ((AV.any).at p).isNode=false;rw [any_at];rfl
      | i+1,j=>show ((AV.any).at p).isNode=false;rw [any_at];rfl
  have hm:∀ {i T p},outMem args.length [] (.tup [x,y]) i=some T→(T.at p).isNode=true→False:=fun {i T p} h1 h2=>by
    unfold outMem at h1
    split at h1
    · cases h1;rw [hn p] at h2;cases h2
    · simp at h1
  refine (hs I w vals hI hvs fun j hj hk=>top_stat (htop j hj hk) (by
    have:=List.all_eq_true.1 hst _ (List.getElem_mem hj)
    simpa using this)).mono ?_
  rintro e w' ⟨u,v,rfl,hu,hv,hbel⟩
  have t1:∀ {z:AV} {q:Value} {r:Path},(∀ fs,z≠.agg fs)→(z.at []).isNode=false→RepS I z q→TopOk1 I (π args.length) r z q:=fun {z q r} hz hzn hzr=>by
    unfold TopOk1
    split
    · rename_i fs;exact absurd rfl (hz fs)
    · exact .inr ⟨hzn,hzr⟩
  refine ⟨I,π,_,rfl,hI.same fun b o x hx=>hbel.block b (hI.lt hx),⟨fun i T p h1=>?_,fun i T p k h1 h2 _=>(hm h1 h2).elim,fun i T p k i' T' p' k' h1 h2 _ _ _ _ _=>(hm h1 h2).elim⟩,⟨#[u,v],rfl,rfl,fun j hj hk=>?_⟩,fun j T hT=>by simp at hT,⟨hbel.os,hbel.tape,hbel.output,hbel.size,fun b h1 _=>hbel.block b h1⟩,fun _ _ _=>rfl,fun b ⟨i,T,p,k,h1,h2,_⟩=>(hm h1 h2).elim⟩
  · cases hnn:(T.at p).isNode with
    | false=>exact node_false hnn
    | true=>exact (hm h1 hnn).elim
  · match j,hj with
    | 0,_=>exact t1 hxa (hx []) hu
    | 1,_=>exact t1 hya (hy []) hv
    | j+2,hj =>
      have hj:j+2<2:=hj
      omega
end Ps
end Go.AM
namespace Go.Proofs
open Go.Shelf
def Tryz.fmtL_ren:Go.Shelf.Ren:=⟨fun | 173=>119 | 246=>142 | 283=>154 | 284=>155 | 285=>156 | 286=>157 | 129=>168 | 317=>167 | 318=>169 | 319=>170 | 320=>171 | 337=>183 | 338=>184 | n=>n,fun | 2=>2 | 3=>3 | 9=>9 | 4=>4 | 171=>170 | 0=>0 | 53=>171 | 37=>22 | 5=>5 | 173=>174 | 212=>183 | 51=>184 | 20=>20 | 213=>185 | 46=>162 | 232=>208 | 233=>209 | n=>n,fun | 17=>0 | 18=>6 | 19=>7 | n=>n⟩
theorem Tryz.fmtL:Go.Proofs.LaysM.n173 Tryz.prog Tryz.fmtL_ren:={
  mixed:=by kernel_rfl
  f129:=Tryz.func168.trans (congrArg some (by kernel_rfl))
  f173:=Tryz.func119.trans (congrArg some (by kernel_rfl))
  f246:=Tryz.func142.trans (congrArg some (by kernel_rfl))
  f283:=Tryz.func154.trans (congrArg some (by kernel_rfl))
  f284:=Tryz.func155.trans (congrArg some (by kernel_rfl))
  f285:=Tryz.func156.trans (congrArg some (by kernel_rfl))
  f286:=Tryz.func157.trans (congrArg some (by kernel_rfl))
  f317:=Tryz.func167.trans (congrArg some (by kernel_rfl))
  f318:=Tryz.func169.trans (congrArg some (by kernel_rfl))
  f319:=Tryz.func170.trans (congrArg some (by kernel_rfl))
  f320:=Tryz.func171.trans (congrArg some (by kernel_rfl))
  f337:=Tryz.func183.trans (congrArg some (by kernel_rfl))
  f338:=Tryz.func184.trans (congrArg some (by kernel_rfl))
  t0:=Tryz.underlying0
  a0:=Tryz.isAgg0
  z0:=Tryz.sizeOf0
  v0:=Tryz.zeroValue0
  t2:=Tryz.underlying2
  a2:=Tryz.isAgg2
  z2:=Tryz.sizeOf2
  v2:=Tryz.zeroValue2
  t3:=Tryz.underlying3
  a3:=Tryz.isAgg3
  z3:=Tryz.sizeOf3
  v3:=Tryz.zeroValue3
  t4:=Tryz.underlying4
  a4:=Tryz.isAgg4
  z4:=Tryz.sizeOf4
  v4:=Tryz.zeroValue4
  t5:=Tryz.underlying5
  a5:=Tryz.isAgg5
  z5:=Tryz.sizeOf5
  v5:=Tryz.zeroValue5
  t9:=Tryz.underlying9
  a9:=Tryz.isAgg9
  z9:=Tryz.sizeOf9
  v9:=Tryz.zeroValue9
  t20:=Tryz.underlying20
  a20:=Tryz.isAgg20
  z20:=Tryz.sizeOf20
  v20:=Tryz.zeroValue20
  t37:=Tryz.underlying22
  a37:=Tryz.isAgg22
  z37:=Tryz.sizeOf22
  v37:=Tryz.zeroValue22
  t46:=Tryz.underlying162
  a46:=Tryz.isAgg162
  z46:=Tryz.sizeOf162
  v46:=Tryz.zeroValue162
  t51:=Tryz.underlying184
  a51:=Tryz.isAgg184
  z51:=Tryz.sizeOf184
  v51:=Tryz.zeroValue184
  t53:=Tryz.underlying171
  a53:=Tryz.isAgg171
  z53:=Tryz.sizeOf171
  v53:=Tryz.zeroValue171
  t171:=Tryz.underlying170
  a171:=Tryz.isAgg170
  z171:=Tryz.sizeOf170
  v171:=Tryz.zeroValue170
  t173:=Tryz.underlying174
  a173:=Tryz.isAgg174
  z173:=Tryz.sizeOf174
  v173:=Tryz.zeroValue174
  t212:=Tryz.underlying183
  a212:=Tryz.isAgg183
  z212:=Tryz.sizeOf183
  v212:=Tryz.zeroValue183
  t213:=Tryz.underlying185
  a213:=Tryz.isAgg185
  z213:=Tryz.sizeOf185
  t232:=Tryz.underlying208
  a232:=Tryz.isAgg208
  z232:=Tryz.sizeOf208
  v232:=Tryz.zeroValue208
  t233:=Tryz.underlying209
  a233:=Tryz.isAgg209
  z233:=Tryz.sizeOf209
  v233:=Tryz.zeroValue209
  g17:=by kernel_rfl
  g18:=by kernel_rfl
  g19:=by kernel_rfl
  i0:=by kernel_rfl
  i2:=by kernel_rfl
  i3:=by kernel_rfl
  i4:=by kernel_rfl
  i5:=by kernel_rfl
  i9:=by kernel_rfl
  i20:=by kernel_rfl
  i37:=by kernel_rfl
  i46:=by kernel_rfl
  i51:=by kernel_rfl
  i53:=by kernel_rfl
  i171:=by kernel_rfl
  i173:=by kernel_rfl
  i212:=by kernel_rfl
  i232:=by kernel_rfl
  i233:=by kernel_rfl
  m17:=by kernel_rfl
  m18:=by kernel_rfl
  m19:=by kernel_rfl }
def Tryz.joinL_ren:Go.Shelf.Ren:=⟨fun | 156=>120 | 165=>143 | 166=>144 | 169=>145 | 240=>158 | 241=>159 | 276=>172 | 277=>173 | n=>n,fun | 31=>78 | 9=>9 | 3=>3 | 4=>4 | 0=>0 | 20=>20 | 72=>156 | 76=>160 | 70=>154 | 37=>22 | 75=>159 | 127=>176 | 164=>188 | 5=>5 | 80=>128 | n=>n,fun | n=>n⟩
theorem Tryz.joinL:Go.Proofs.Lays.n156 Tryz.prog Tryz.joinL_ren:={
  mixed:=by kernel_rfl
  f156:=Tryz.func120.trans (congrArg some (by kernel_rfl))
  f165:=Tryz.func143.trans (congrArg some (by kernel_rfl))
  f166:=Tryz.func144.trans (congrArg some (by kernel_rfl))
  f169:=Tryz.func145.trans (congrArg some (by kernel_rfl))
  f240:=Tryz.func158.trans (congrArg some (by kernel_rfl))
  f241:=Tryz.func159.trans (congrArg some (by kernel_rfl))
  f276:=Tryz.func172.trans (congrArg some (by kernel_rfl))
  f277:=Tryz.func173.trans (congrArg some (by kernel_rfl))
  t0:=Tryz.underlying0
  a0:=Tryz.isAgg0
  z0:=Tryz.sizeOf0
  v0:=Tryz.zeroValue0
  t3:=Tryz.underlying3
  a3:=Tryz.isAgg3
  z3:=Tryz.sizeOf3
  v3:=Tryz.zeroValue3
  t4:=Tryz.underlying4
  a4:=Tryz.isAgg4
  z4:=Tryz.sizeOf4
  v4:=Tryz.zeroValue4
  t9:=Tryz.underlying9
  a9:=Tryz.isAgg9
  z9:=Tryz.sizeOf9
  v9:=Tryz.zeroValue9
  t20:=Tryz.underlying20
  a20:=Tryz.isAgg20
  z20:=Tryz.sizeOf20
  v20:=Tryz.zeroValue20
  t31:=Tryz.underlying78
  a31:=Tryz.isAgg78
  z31:=Tryz.sizeOf78
  v31:=Tryz.zeroValue78
  t37:=Tryz.underlying22
  a37:=Tryz.isAgg22
  z37:=Tryz.sizeOf22
  v37:=Tryz.zeroValue22
  t70:=Tryz.underlying154
  a70:=Tryz.isAgg154
  z70:=Tryz.sizeOf154
  v70:=Tryz.zeroValue154
  t72:=Tryz.underlying156
  a72:=Tryz.isAgg156
  z72:=Tryz.sizeOf156
  v72:=Tryz.zeroValue156
  t75:=Tryz.underlying159
  a75:=Tryz.isAgg159
  z75:=Tryz.sizeOf159
  v75:=Tryz.zeroValue159
  t76:=Tryz.underlying160
  a76:=Tryz.isAgg160
  z76:=Tryz.sizeOf160
  v76:=Tryz.zeroValue160
  t127:=Tryz.underlying176
  a127:=Tryz.isAgg176
  z127:=Tryz.sizeOf176
  v127:=Tryz.zeroValue176
  t164:=Tryz.underlying188
  a164:=Tryz.isAgg188
  z164:=Tryz.sizeOf188
  v164:=Tryz.zeroValue188 }
theorem Tryz.joinX:Builder.Extra Tryz.prog Tryz.joinL_ren:={
  sizeBuilder:=by kernel_rfl
  liesBuilder:=by kernel_rfl
  t5:=Tryz.underlying5
  a5:=Tryz.isAgg5
  z5:=Tryz.sizeOf5
  v5:=Tryz.zeroValue5
  infoByte:=by kernel_rfl
  cellsByte:=by kernel_rfl
  sizeByte:=by kernel_rfl
  neB5:=by decide }
def Tryz.indexL_ren:Go.Shelf.Ren:=⟨fun | 137=>131 | 217=>146 | 266=>160 | n=>n,fun | 9=>9 | 5=>5 | 3=>3 | n=>n,fun | n=>n⟩
theorem Tryz.indexL:Go.Proofs.Lays.n137 Tryz.prog Tryz.indexL_ren:={
  mixed:=by kernel_rfl
  f137:=Tryz.func131.trans (congrArg some (by kernel_rfl))
  f217:=Tryz.func146.trans (congrArg some (by kernel_rfl))
  f266:=Tryz.func160.trans (congrArg some (by kernel_rfl))
  t3:=Tryz.underlying3
  a3:=Tryz.isAgg3
  z3:=Tryz.sizeOf3
  v3:=Tryz.zeroValue3
  t5:=Tryz.underlying5
  a5:=Tryz.isAgg5
  z5:=Tryz.sizeOf5
  v5:=Tryz.zeroValue5
  t9:=Tryz.underlying9
  a9:=Tryz.isAgg9
  z9:=Tryz.sizeOf9
  v9:=Tryz.zeroValue9 }
def Tryz.splitL_ren:Go.Shelf.Ren:=⟨fun | 146=>106 | 221=>134 | 268=>149 | 138=>150 | 143=>151 | 195=>161 | 197=>162 | 218=>163 | 219=>164 | 260=>174 | 217=>146 | 225=>175 | 224=>176 | 267=>177 | 266=>160 | 314=>185 | n=>n,fun | 9=>9 | 31=>78 | 3=>3 | 4=>4 | 0=>0 | 105=>178 | 21=>21 | 5=>5 | 46=>162 | 119=>198 | 139=>201 | 138=>200 | 146=>202 | 51=>184 | n=>n,fun | 1=>1 | 3=>2 | 4=>3 | n=>n⟩
theorem Tryz.splitL:Go.Proofs.LaysM.n146 Tryz.prog Tryz.splitL_ren:={
  mixed:=by kernel_rfl
  f138:=Tryz.func150.trans (congrArg some (by kernel_rfl))
  f143:=Tryz.func151.trans (congrArg some (by kernel_rfl))
  f146:=Tryz.func106.trans (congrArg some (by kernel_rfl))
  f195:=Tryz.func161.trans (congrArg some (by kernel_rfl))
  f197:=Tryz.func162.trans (congrArg some (by kernel_rfl))
  f217:=Tryz.func146.trans (congrArg some (by kernel_rfl))
  f218:=Tryz.func163.trans (congrArg some (by kernel_rfl))
  f219:=Tryz.func164.trans (congrArg some (by kernel_rfl))
  f221:=Tryz.func134.trans (congrArg some (by kernel_rfl))
  f224:=Tryz.func176.trans (congrArg some (by kernel_rfl))
  f225:=Tryz.func175.trans (congrArg some (by kernel_rfl))
  f260:=Tryz.func174.trans (congrArg some (by kernel_rfl))
  f266:=Tryz.func160.trans (congrArg some (by kernel_rfl))
  f267:=Tryz.func177.trans (congrArg some (by kernel_rfl))
  f268:=Tryz.func149.trans (congrArg some (by kernel_rfl))
  f314:=Tryz.func185.trans (congrArg some (by kernel_rfl))
  t0:=Tryz.underlying0
  a0:=Tryz.isAgg0
  z0:=Tryz.sizeOf0
  v0:=Tryz.zeroValue0
  t3:=Tryz.underlying3
  a3:=Tryz.isAgg3
  z3:=Tryz.sizeOf3
  v3:=Tryz.zeroValue3
  t4:=Tryz.underlying4
  a4:=Tryz.isAgg4
  z4:=Tryz.sizeOf4
  v4:=Tryz.zeroValue4
  t5:=Tryz.underlying5
  a5:=Tryz.isAgg5
  z5:=Tryz.sizeOf5
  v5:=Tryz.zeroValue5
  t9:=Tryz.underlying9
  a9:=Tryz.isAgg9
  z9:=Tryz.sizeOf9
  v9:=Tryz.zeroValue9
  t21:=Tryz.underlying21
  a21:=Tryz.isAgg21
  z21:=Tryz.sizeOf21
  v21:=Tryz.zeroValue21
  t31:=Tryz.underlying78
  a31:=Tryz.isAgg78
  z31:=Tryz.sizeOf78
  v31:=Tryz.zeroValue78
  t46:=Tryz.underlying162
  a46:=Tryz.isAgg162
  z46:=Tryz.sizeOf162
  v46:=Tryz.zeroValue162
  t51:=Tryz.underlying184
  a51:=Tryz.isAgg184
  z51:=Tryz.sizeOf184
  v51:=Tryz.zeroValue184
  t105:=Tryz.underlying178
  a105:=Tryz.isAgg178
  z105:=Tryz.sizeOf178
  v105:=Tryz.zeroValue178
  t119:=Tryz.underlying198
  a119:=Tryz.isAgg198
  z119:=Tryz.sizeOf198
  t138:=Tryz.underlying200
  a138:=Tryz.isAgg200
  z138:=Tryz.sizeOf200
  v138:=Tryz.zeroValue200
  t139:=Tryz.underlying201
  a139:=Tryz.isAgg201
  z139:=Tryz.sizeOf201
  v139:=Tryz.zeroValue201
  t146:=Tryz.underlying202
  a146:=Tryz.isAgg202
  z146:=Tryz.sizeOf202
  v146:=Tryz.zeroValue202
  g1:=by kernel_rfl
  g3:=by kernel_rfl
  g4:=by kernel_rfl
  i0:=by kernel_rfl
  i3:=by kernel_rfl
  i4:=by kernel_rfl
  i5:=by kernel_rfl
  i9:=by kernel_rfl
  i21:=by kernel_rfl
  i31:=by kernel_rfl
  i46:=by kernel_rfl
  i51:=by kernel_rfl
  i105:=by kernel_rfl
  i138:=by kernel_rfl
  i139:=by kernel_rfl
  i146:=by kernel_rfl
  m1:=by kernel_rfl
  s1_3:=fun w h=>Go.Proofs.cell_of_shapedOpen_int (zero:=#[.int .i64 0]) (t:=3) h (of_decide_eq_true (by kernel_rfl)) (by kernel_rfl) rfl (by kernel_rfl) (by kernel_rfl) Tryz.underlying3
  m3:=by kernel_rfl
  m4:=by kernel_rfl }
def Tryz.parseL_ren:Go.Shelf.Ren:=⟨fun | 174=>152 | 247=>165 | 245=>166 | 287=>178 | 279=>179 | 280=>180 | 281=>181 | 282=>182 | 321=>186 | 322=>187 | 316=>188 | 171=>190 | 205=>189 | 243=>191 | 246=>142 | 283=>154 | 284=>155 | 285=>156 | 286=>157 | 129=>168 | 317=>167 | 318=>169 | 319=>170 | 320=>171 | 337=>183 | 338=>184 | n=>n,fun | 9=>9 | 3=>3 | 2=>2 | 75=>159 | 85=>166 | 4=>4 | 167=>191 | 5=>5 | 53=>171 | 175=>192 | 46=>162 | 168=>194 | 37=>22 | 0=>0 | 210=>206 | 21=>21 | 127=>176 | 145=>212 | 143=>210 | 171=>170 | 173=>174 | 212=>183 | 51=>184 | 20=>20 | 213=>185 | 232=>208 | 233=>209 | 80=>128 | n=>n,fun | 15=>4 | 16=>5 | 17=>0 | 18=>6 | 19=>7 | n=>n⟩
theorem Tryz.parseL:Go.Proofs.LaysC.n174 Tryz.prog Tryz.parseL_ren:={
  mixed:=by kernel_rfl
  f129:=Tryz.func168.trans (congrArg some (by kernel_rfl))
  f171:=Tryz.func190.trans (congrArg some (by kernel_rfl))
  f174:=Tryz.func152.trans (congrArg some (by kernel_rfl))
  f205:=Tryz.func189.trans (congrArg some (by kernel_rfl))
  f243:=Tryz.func191.trans (congrArg some (by kernel_rfl))
  f245:=Tryz.func166.trans (congrArg some (by kernel_rfl))
  f246:=Tryz.func142.trans (congrArg some (by kernel_rfl))
  f247:=Tryz.func165.trans (congrArg some (by kernel_rfl))
  f279:=Tryz.func179.trans (congrArg some (by kernel_rfl))
  f280:=Tryz.func180.trans (congrArg some (by kernel_rfl))
  f281:=Tryz.func181.trans (congrArg some (by kernel_rfl))
  f282:=Tryz.func182.trans (congrArg some (by kernel_rfl))
  f283:=Tryz.func154.trans (congrArg some (by kernel_rfl))
  f284:=Tryz.func155.trans (congrArg some (by kernel_rfl))
  f285:=Tryz.func156.trans (congrArg some (by kernel_rfl))
  f286:=Tryz.func157.trans (congrArg some (by kernel_rfl))
  f287:=Tryz.func178.trans (congrArg some (by kernel_rfl))
  f316:=Tryz.func188.trans (congrArg some (by kernel_rfl))
  f317:=Tryz.func167.trans (congrArg some (by kernel_rfl))
  f318:=Tryz.func169.trans (congrArg some (by kernel_rfl))
  f319:=Tryz.func170.trans (congrArg some (by kernel_rfl))
  f320:=Tryz.func171.trans (congrArg some (by kernel_rfl))
  f321:=Tryz.func186.trans (congrArg some (by kernel_rfl))
  f322:=Tryz.func187.trans (congrArg some (by kernel_rfl))
  f337:=Tryz.func183.trans (congrArg some (by kernel_rfl))
  f338:=Tryz.func184.trans (congrArg some (by kernel_rfl))
  t0:=Tryz.underlying0
  a0:=Tryz.isAgg0
  z0:=Tryz.sizeOf0
  v0:=Tryz.zeroValue0
  t2:=Tryz.underlying2
  a2:=Tryz.isAgg2
  z2:=Tryz.sizeOf2
  v2:=Tryz.zeroValue2
  t3:=Tryz.underlying3
  a3:=Tryz.isAgg3
  z3:=Tryz.sizeOf3
  v3:=Tryz.zeroValue3
  t4:=Tryz.underlying4
  a4:=Tryz.isAgg4
  z4:=Tryz.sizeOf4
  v4:=Tryz.zeroValue4
  t5:=Tryz.underlying5
  a5:=Tryz.isAgg5
  z5:=Tryz.sizeOf5
  v5:=Tryz.zeroValue5
  t9:=Tryz.underlying9
  a9:=Tryz.isAgg9
  z9:=Tryz.sizeOf9
  v9:=Tryz.zeroValue9
  t20:=Tryz.underlying20
  a20:=Tryz.isAgg20
  z20:=Tryz.sizeOf20
  v20:=Tryz.zeroValue20
  t21:=Tryz.underlying21
  a21:=Tryz.isAgg21
  z21:=Tryz.sizeOf21
  v21:=Tryz.zeroValue21
  t37:=Tryz.underlying22
  a37:=Tryz.isAgg22
  z37:=Tryz.sizeOf22
  v37:=Tryz.zeroValue22
  t46:=Tryz.underlying162
  a46:=Tryz.isAgg162
  z46:=Tryz.sizeOf162
  v46:=Tryz.zeroValue162
  t51:=Tryz.underlying184
  a51:=Tryz.isAgg184
  z51:=Tryz.sizeOf184
  v51:=Tryz.zeroValue184
  t53:=Tryz.underlying171
  a53:=Tryz.isAgg171
  z53:=Tryz.sizeOf171
  v53:=Tryz.zeroValue171
  t75:=Tryz.underlying159
  a75:=Tryz.isAgg159
  z75:=Tryz.sizeOf159
  v75:=Tryz.zeroValue159
  t85:=Tryz.underlying166
  a85:=Tryz.isAgg166
  z85:=Tryz.sizeOf166
  v85:=Tryz.zeroValue166
  t127:=Tryz.underlying176
  a127:=Tryz.isAgg176
  z127:=Tryz.sizeOf176
  v127:=Tryz.zeroValue176
  t143:=Tryz.underlying210
  a143:=Tryz.isAgg210
  z143:=Tryz.sizeOf210
  v143:=Tryz.zeroValue210
  t145:=Tryz.underlying212
  a145:=Tryz.isAgg212
  z145:=Tryz.sizeOf212
  v145:=Tryz.zeroValue212
  t167:=Tryz.underlying191
  a167:=Tryz.isAgg191
  z167:=Tryz.sizeOf191
  v167:=Tryz.zeroValue191
  t168:=Tryz.underlying194
  a168:=Tryz.isAgg194
  z168:=Tryz.sizeOf194
  v168:=Tryz.zeroValue194
  t171:=Tryz.underlying170
  a171:=Tryz.isAgg170
  z171:=Tryz.sizeOf170
  v171:=Tryz.zeroValue170
  t173:=Tryz.underlying174
  a173:=Tryz.isAgg174
  z173:=Tryz.sizeOf174
  v173:=Tryz.zeroValue174
  t175:=Tryz.underlying192
  a175:=Tryz.isAgg192
  z175:=Tryz.sizeOf192
  v175:=Tryz.zeroValue192
  t210:=Tryz.underlying206
  a210:=Tryz.isAgg206
  z210:=Tryz.sizeOf206
  v210:=Tryz.zeroValue206
  t212:=Tryz.underlying183
  a212:=Tryz.isAgg183
  z212:=Tryz.sizeOf183
  v212:=Tryz.zeroValue183
  t213:=Tryz.underlying185
  a213:=Tryz.isAgg185
  z213:=Tryz.sizeOf185
  t232:=Tryz.underlying208
  a232:=Tryz.isAgg208
  z232:=Tryz.sizeOf208
  v232:=Tryz.zeroValue208
  t233:=Tryz.underlying209
  a233:=Tryz.isAgg209
  z233:=Tryz.sizeOf209
  v233:=Tryz.zeroValue209
  g15:=by kernel_rfl
  g16:=by kernel_rfl
  g17:=by kernel_rfl
  g18:=by kernel_rfl
  g19:=by kernel_rfl
  t80:=Tryz.underlying128
  a80:=Tryz.isAgg128
  z80:=Tryz.sizeOf128
  v80:=Tryz.zeroValue128
  i0:=by kernel_rfl
  i2:=by kernel_rfl
  i3:=by kernel_rfl
  i4:=by kernel_rfl
  i5:=by kernel_rfl
  i9:=by kernel_rfl
  i20:=by kernel_rfl
  i21:=by kernel_rfl
  i37:=by kernel_rfl
  i46:=by kernel_rfl
  i51:=by kernel_rfl
  i53:=by kernel_rfl
  i75:=by kernel_rfl
  i80:=by kernel_rfl
  i85:=by kernel_rfl
  i127:=by kernel_rfl
  i143:=by kernel_rfl
  i145:=by kernel_rfl
  i167:=by kernel_rfl
  i168:=by kernel_rfl
  i171:=by kernel_rfl
  i173:=by kernel_rfl
  i175:=by kernel_rfl
  i210:=by kernel_rfl
  i212:=by kernel_rfl
  i232:=by kernel_rfl
  i233:=by kernel_rfl
  m15:=by kernel_rfl
  m16:=by kernel_rfl
  m17:=by kernel_rfl
  m18:=by kernel_rfl
  m19:=by kernel_rfl
  c0:=by kernel_rfl
  c2:=by kernel_rfl
  c3:=by kernel_rfl
  c4:=by kernel_rfl
  c5:=by kernel_rfl
  c9:=by kernel_rfl
  c20:=by kernel_rfl
  c21:=by kernel_rfl
  c37:=by kernel_rfl
  c46:=by kernel_rfl
  c51:=by kernel_rfl
  c53:=by kernel_rfl
  c75:=by kernel_rfl
  c80:=by kernel_rfl
  c85:=by kernel_rfl
  c127:=by kernel_rfl
  c143:=by kernel_rfl
  c145:=by kernel_rfl
  c167:=by kernel_rfl
  c168:=by kernel_rfl
  c171:=by kernel_rfl
  c173:=by kernel_rfl
  c175:=by kernel_rfl
  c210:=by kernel_rfl
  c212:=by kernel_rfl
  c213:=by kernel_rfl
  c232:=by kernel_rfl
  c233:=by kernel_rfl }
end Go.Proofs
set_option maxRecDepth 8000
namespace Go.AM
namespace Door
open Go.Proofs
def wtr (xs:List (List UInt8)):AV:=.tr 1 (xs.map AV.st)
theorem stset (xs:List (List UInt8)) (i:Nat) (x:List UInt8):(xs.map AV.st).set i (.st x)=(xs.set i x).map AV.st:=by rw [List.map_set]
theorem stfz (xs:List (List UInt8)):(xs.map AV.st).map AV.fz=xs.map AV.st:=map_fz _ _ _ fun _=>fz_v _
theorem joinS (xs:List (List UInt8)) (sep:List UInt8) (hN:xs.length≤1099511627776) (hl:(Lib.join xs sep).length≤140737488355328):SpecAt Tryz.prog 120 [.sl 1 (xs.map AV.st),.st sep] (.st (Lib.join xs sep)) :=
  spec_join (f:=120) ⟨_,_,Tryz.func120,rfl,by decide⟩ (fun bk o c xs sep w h1 h2 h3 h4 h5=>Any.strings_Join Tryz.joinL Tryz.joinX bk o c xs sep w h1 h2 h3 h4 h5) (fun a c sep w=>Any.strings_Join_none Tryz.joinL Tryz.joinX a c sep w) xs sep hN hl
theorem pow10_row {I:Gh} {w:World} (h:Held I w):∃ t f,w.heap[powG]? = some (.cells (Lib.pow10Tab.map fun z=>Value.int .u64 z).toArray t f):=by
  obtain ⟨⟨⟨cs,t⟩,hc⟩,f,x,h1,_⟩:=h.base powG _ (List.mem_cons_self ..)
  obtain rfl:cs=_:=hc
  exact ⟨t,f,h1⟩
theorem fmtInt_gen (n:Int) (hn:intOk n):SpecAt Tryz.prog 119 [.i64 n,.i64 10] (AV.st (Lib.itoa n)) :=
  spec_static (f:=119) ⟨_,_,Tryz.func119,rfl,by decide⟩ [.int .i64 n,.int .i64 10] (.string ⟨(Lib.itoa n).toArray⟩) fun I w hI=>by
    obtain ⟨t,f,h1⟩:=pow10_row hI
    exact Any.strconv_FormatInt_10 Tryz.fmtL n hn.1 hn.2 w (tab_of (by kernel_rfl) h1)
theorem decimal_spec (n:Int) (hn:intOk n):SpecAt Tryz.prog 77 [.i64 n] (AV.st (Lib.itoa n)):=by
  refine spec_of_awp (M:=MM) (np:=1) (fz:=true) mixed Tryz.func77 rfl rfl (by decide) rfl (Nat.le_refl _) (by decide +kernel) (.inr ⟨rfl,rfl⟩) trivial ?_
  simp -dsimp -implicitDefEqProofs (disch:=first|omega|(simp only [lenr];try omega)) only [↓amPre,↓reduceIte,reduceCtorEq,Nat.reduceEqDiff,Nat.reduceBEq,Nat.reduceAdd,Nat.reduceLeDiff,Nat.reduceSub,Nat.reduceMul,Int.reduceToNat,MM,bu0,cbP9,cbQ2,Door.stset,Door.stfz]
  refine callP_of (fmtInt_gen n hn) ?_
  simp -dsimp -implicitDefEqProofs (disch:=first|omega|(simp only [lenr];try omega)) only [↓amPre,↓reduceIte,reduceCtorEq,Nat.reduceEqDiff,Nat.reduceBEq,Nat.reduceAdd,Nat.reduceLeDiff,Nat.reduceSub,Nat.reduceMul,Int.reduceToNat,MM,bu0,cbP9,cbQ2,Door.stset,Door.stfz]
theorem joinNumbers (l:List Int) (hl:l.length≤1048576) (hi:∀ x∈l,intOk x):SpecAt Tryz.prog 78 [isl l,.st [32]] (.st (jn l)):=by
  refine spec_of_awp (M:=MM) (np:=2) (fz:=true) mixed Tryz.func78 rfl rfl (by decide) rfl (Nat.le_refl _) (by decide +kernel) (.inr ⟨rfl,rfl⟩) trivial ?_
  simp -dsimp -implicitDefEqProofs (disch:=first|omega|(simp only [lenr];try omega)) only [↓amPre,↓reduceIte,reduceCtorEq,Nat.reduceEqDiff,Nat.reduceBEq,Nat.reduceAdd,Nat.reduceLeDiff,Nat.reduceSub,Nat.reduceMul,Int.reduceToNat,MM,bu0,cbP9,cbQ2,Door.stset,Door.stfz]
  refine awp_loop (fun j st=>j≤l.length∧st.fr 13=.i64 j∧st.fr 11=isl l∧st.fr 12=.i64 l.length∧st.fr 5=.ref 10 [] 1 0 l.length∧st.fr 1=.st [32]∧st.mem 10=some (wtr (mixL (l.map Lib.itoa) (List.replicate l.length []) j))) (l.length) ?_ ?_
  · simp -dsimp -implicitDefEqProofs (disch:=first|omega|(simp only [lenr];try omega)) only [↓amPre,↓reduceIte,reduceCtorEq,Nat.reduceEqDiff,Nat.reduceBEq,Nat.reduceAdd,Nat.reduceLeDiff,Nat.reduceSub,Nat.reduceMul,Int.reduceToNat,MM,bu0,cbP9,cbQ2,Door.stset,Door.stfz,mixL_zero]
    simp [wtr]
  rintro j st _ ⟨hj,f13,f11,f12,f5,f1,m10⟩
  have hr:(l.map Lib.itoa).length=(List.replicate l.length ([]:List UInt8)).length:=by simp
  have hm:=mixL_len (l.map Lib.itoa) (List.replicate l.length []) j hr
  have hrl:(List.replicate l.length ([]:List UInt8)).length=l.length:=by simp
  by_cases hlt:j<l.length
  · have hs:=mixL_set (l.map Lib.itoa) (List.replicate l.length []) j [] hr (by omega)
    have hg:(l.map Lib.itoa).getD j []=Lib.itoa (l.getD j 0):=by simp [List.getD,hlt]
    rw [hg] at hs
    have hx:intOk (l.getD j 0):=by rw [getD_eq _ _ _ hlt];exact hi _ (List.getElem_mem hlt)
    simp -dsimp -implicitDefEqProofs (disch:=first|omega|(simp only [lenr];try omega)) only [↓amPre,↓reduceIte,reduceCtorEq,Nat.reduceEqDiff,Nat.reduceBEq,Nat.reduceAdd,Nat.reduceLeDiff,Nat.reduceSub,Nat.reduceMul,Int.reduceToNat,MM,bu0,cbP9,cbQ2,Door.stset,Door.stfz,f13,f11,f12,f5,f1,m10,hm,hrl]
    refine callP_of (decimal_spec _ hx) ?_
    simp -dsimp -implicitDefEqProofs (disch:=first|omega|(simp only [lenr];try omega)) only [↓amPre,↓reduceIte,reduceCtorEq,Nat.reduceEqDiff,Nat.reduceBEq,Nat.reduceAdd,Nat.reduceLeDiff,Nat.reduceSub,Nat.reduceMul,Int.reduceToNat,MM,bu0,cbP9,cbQ2,Door.stset,Door.stfz,f13,f11,f12,f5,f1,m10,hm,hrl,wtr,stset,hs]
    repeat' (first|omega|rfl|exact i64c (by omega)|exact vic (by omega)|apply ai)
  · have hj':j=l.length:=by omega
    subst hj'
    have:=mixL_all (l.map Lib.itoa) (List.replicate l.length []) l.length (by simp) (by simp)
    have hjl:=jn_len l hi
    have hN:(l.map Lib.itoa).length≤1099511627776:=by simp;omega
    have hJ:=joinS (l.map Lib.itoa) [32] hN (by unfold jn at hjl;omega)
    simp -dsimp -implicitDefEqProofs (disch:=first|omega|(simp only [lenr];try omega)) only [↓amPre,↓reduceIte,reduceCtorEq,Nat.reduceEqDiff,Nat.reduceBEq,Nat.reduceAdd,Nat.reduceLeDiff,Nat.reduceSub,Nat.reduceMul,Int.reduceToNat,MM,bu0,cbP9,cbQ2,Door.stset,Door.stfz,f13,f11,f12,f5,f1,m10,hm,hrl,this,wtr]
    refine callP_of (hJ) ?_
    simp -dsimp -implicitDefEqProofs (disch:=first|omega|(simp only [lenr];try omega)) only [↓amPre,↓reduceIte,reduceCtorEq,Nat.reduceEqDiff,Nat.reduceBEq,Nat.reduceAdd,Nat.reduceLeDiff,Nat.reduceSub,Nat.reduceMul,Int.reduceToNat,MM,bu0,cbP9,cbQ2,Door.stset,Door.stfz,f13,f11,f12,f5,f1,m10,this]
    rfl
end Door
def cbJ1:=(ai (ai (cbP9) (cbQ2)) (ai (@Door.stset) (@Door.stfz)))

end Go.AM
set_option maxRecDepth 8000
namespace Go.AM
namespace Ps
open Go.Proofs
open Go.Shelf
def sv (l:Tx):Value:=.string ⟨l.toArray⟩
theorem st_sv (xs:List Tx):xs.map AV.st=(xs.map sv).map AV.v:=by rw [List.map_map];rfl
theorem sv_one (xs:List Tx):∀ x∈xs.map sv,x.oneCell'=true:=fun x hx=>by
  obtain ⟨l,_,rfl⟩:=List.mem_map.1 hx
  rfl
theorem arg_st {I:Gh} {l:Tx} {v:Value} (h:RepS I (.st l) v):v=.string ⟨l.toArray⟩:=by
  have h:RepS I (.v (.string ⟨l.toArray⟩)) v:=h
  cases h;rfl
theorem arg_i {I:Gh} {n:Int} {v:Value} (h:RepS I (.i64 n) v):v=.int .i64 n:=by
  have h:RepS I (.v (.int .i64 n)) v:=h
  cases h;rfl
theorem numb_at {I:Gh} {w:World} (h:Held I w):∃ m,w.cell? ⟨1,0,none⟩=some (.int .i64 m):=by
  obtain ⟨⟨⟨cs,t⟩,m,hm⟩,f,x,h1,_⟩:=h.base 1 isNumb (by simp [baseRows])
  exact ⟨m,by simp [World.cell?,h1];exact hm⟩
theorem err_at {I:Gh} {w:World} (h:Held I w) (g:Nat) (hg:g=4∨g=5):∃ t x,w.cell? ⟨g,0,none⟩=some (.iface t x):=by
  obtain ⟨⟨⟨cs,t⟩,te,pe,hm⟩,f,x,h1,_⟩:=h.base g isErr (by rcases hg with rfl | rfl <;> simp [baseRows])
  exact ⟨te,pe,by simp [World.cell?,h1];exact hm⟩
theorem splitW (s:Tx) (c:UInt8) (hs:s.length≤1048576):SpecAt Tryz.prog 106 [.st s,.st [c]] (.tr 1 ((spl c s).map AV.st)):=by
  rw [st_sv]
  refine spec_vrow (f:=106) ⟨_,_,Tryz.func106,rfl,by decide⟩ _ rfl _ (sv_one _) 9 fun I w vals hI hvs hr=>?_
  obtain ⟨v0,v1,rfl⟩:∃ v0 v1,vals = #[v0,v1]:=by
    match vals,hvs with
    | ⟨[a,b]⟩,_=>exact ⟨a,b,rfl⟩
  obtain rfl:=arg_st (hr 0 (by simp) (by simp))
  obtain rfl:=arg_st (hr 1 (by simp) (by simp))
  obtain ⟨m,hm⟩:=numb_at hI
  refine (Any.strings_Split { Tryz.splitL with } Tryz.splitL.i9 ⟨s.toArray⟩ ⟨[c].toArray⟩ m w (by simp [ByteArray.size];omega) hm (by simp [ByteArray.size])).mono ?_
  rintro e w' ⟨rfl,rfl⟩
  have h1:((Lib.splitB ⟨[c].toArray⟩ 0 (Lib.countB ⟨s.toArray⟩ ⟨[c].toArray⟩) ⟨s.toArray⟩).map Value.string)=(spl c s).map sv:=by
    have h2:=Lib.splitB_data ⟨[c].toArray⟩ 0 (Lib.countB ⟨s.toArray⟩ ⟨[c].toArray⟩) ⟨s.toArray⟩
    have h3:Lib.countB ⟨s.toArray⟩ ⟨[c].toArray⟩=Lib.count s [c]:=rfl
    have h4:=split_one c s
    rw [h3] at h2 ⊢
    rw [show (ByteArray.mk s.toArray).data.toList=s by simp,show (ByteArray.mk [c].toArray).data.toList=[c] by simp,h4] at h2
    rw [← h2,List.map_map]
    refine List.map_congr_left fun b _=>?_
    show Value.string b=Value.string ⟨b.data.toList.toArray⟩
    simp
  have h5:Lib.countB ⟨s.toArray⟩ ⟨[c].toArray⟩+1=((spl c s).map sv).length:=by
    rw [← h1,List.length_map,Lib.splitB_all ⟨[c].toArray⟩ (by simp [ByteArray.size]) 0 _ _ rfl]
  have h6:=spl_len c s
  refine ⟨_,rfl,⟨by simp,.inr ⟨w.heap.size,_,_,by rw [h5],Nat.le_refl _,World.alloc_heap_new w _,Nat.le_of_eq h5.symm,?_,?_,?_⟩⟩,(RowKit.Below.refl _ w).alloc (Nat.le_refl _) _⟩
  · rw [h5,List.length_map];unfold maxLen;omega
  · rw [h1,h5];simp
  · rw [h1];simp only [Nat.mul_one,List.length_map];exact List.take_of_length_le (by rw [List.length_map];exact Nat.le_refl _)
def piR (s:Tx):Int×AV:=match Lib.parseIntB 64 s with | .ok v=>(v,.v .nilIface) | .range=>(Lib.intSat 64 s,.ifc) | _=>(0,.ifc)
theorem parseW (s:Tx) (hs:s.length≤1048576):SpecAt Tryz.prog 152 [.st s,.i64 10,.i64 64] (.tup [.i64 (piR s).1,(piR s).2]):=by
  have hat:∀ p,(((piR s).2).at p).isNode=false:=fun p=>by
    unfold piR
    split
    · exact vat _ p
    · cases p with
      | nil=>rfl
      | cons a p=>show ((AV.any).at p).isNode=false;rw [any_at];rfl
    · cases p with
      | nil=>rfl
      | cons a p=>show ((AV.any).at p).isNode=false;rw [any_at];rfl
  refine spec_two (f:=152) ⟨_,_,Tryz.func152,rfl,by decide⟩ _ rfl _ _ (vat _) hat (fun fs h=>by cases h) (fun fs h=>by unfold piR at h;split at h <;> cases h) fun I w vals hI hvs hr=>?_
  obtain ⟨v0,v1,v2,rfl⟩:∃ v0 v1 v2,vals = #[v0,v1,v2]:=by
    match vals,hvs with
    | ⟨[a,b,c]⟩,_=>exact ⟨a,b,c,rfl⟩
  obtain rfl:=arg_st (hr 0 (by simp) (by simp))
  obtain rfl:=arg_i (hr 1 (by simp) (by simp))
  obtain rfl:=arg_i (hr 2 (by simp) (by simp))
  have hsz:(⟨s.toArray⟩:ByteArray).size=s.length:=by simp [ByteArray.size]
  have hl:(⟨s.toArray⟩:ByteArray).data.toList=s:=by simp
  obtain ⟨t4,x4,h4⟩:=err_at hI 4 (.inl rfl)
  obtain ⟨t5,x5,h5⟩:=err_at hI 5 (.inr rfl)
  unfold piR
  split
  · rename_i v h
    refine (Any.strconv_ParseInt_10_at64_ok Tryz.parseL ⟨s.toArray⟩ (by omega) v (by rw [hl];exact h) w).mono ?_
    rintro e w' ⟨rfl,hw⟩
    refine ⟨_,_,rfl,.v _,.v _,?_⟩
    rcases hw with rfl | ⟨t,rfl⟩
    · exact RowKit.Below.refl _ _
    · exact Lib.bytesWorld_below _ _ _
  · rename_i h
    refine (Any.strconv_ParseInt_10_at64_range Tryz.parseL ⟨s.toArray⟩ (by omega) (by rw [hl];exact h) _ w h5 (.inr ⟨_,_,rfl⟩)).mono ?_
    rintro e w' ⟨N,rfl,_,_,hb⟩
    rw [hl]
    exact ⟨_,_,rfl,.v _,.ifc _ _,hb⟩
  · rename_i h1 h2
    have h:Lib.parseIntB 64 s=Lib.NumEnd.syntax:=by
      cases q:Lib.parseIntB 64 s with
      | ok v=>exact absurd q (h1 v)
      | range=>exact absurd q h2
      | _=>rfl
    refine (Any.strconv_ParseInt_10_at64_syntax Tryz.parseL ⟨s.toArray⟩ (by omega) (by rw [hl];exact h) _ w h4 (.inr ⟨_,_,rfl⟩)).mono ?_
    rintro e w' ⟨N,rfl,_,_,hb⟩
    exact ⟨_,_,rfl,.v _,.ifc _ _,hb⟩
end Ps
end Go.AM
set_option maxRecDepth 8000
namespace Go.AM
namespace Ps
open Go.Proofs
def MM:FuncId→List Bool:=fun f=>if f=71 then [true] else if f=58 then [true,false,false] else if f=69 then [true,false] else if f=59 then [true,false] else if f=57 then [true] else if f=48 then [true,false] else []
def lnA (l:Ln):AV:=.st (full l)
theorem lnfz (L:List Ln):(L.map lnA).map AV.fz=L.map lnA:=map_fz _ _ _ fun _=>fz_v _
theorem lnfzL (L:List Ln):AV.fzL (L.map lnA)=L.map lnA:=by rw [fzL_map,lnfz]
theorem lnpure (L:List Ln):AV.pureL (L.map lnA)=true:=pureL_map _ (fun _=>rfl) L
theorem stpure (L:List Tx):AV.pureL (L.map AV.st)=true:=pureL_map _ (fun _=>rfl) L
theorem lngm (L:List Ln) (i:Nat) (h:i<L.length):(L.map lnA).getD i .any=.st (full (lat L i)):=by
  simp [List.getD,h,lat];rfl
theorem stgm (L:List Tx) (i:Nat) (h:i<L.length):(L.map AV.st).getD i .any=.st (L.getD i []):=by
  simp [List.getD,h]
theorem stfz (xs:List Tx):(xs.map AV.st).map AV.fz=xs.map AV.st:=map_fz _ _ _ fun _=>fz_v _
theorem txeq {a b:Tx} (h:a=b):(a == b)=true:=by simp [h]
theorem txne {a b:Tx} (h:a≠b):(a == b)=false:=by simp [h]
theorem isnoc (l:List Int) (x:Int):l.map AV.i64++[AV.i64 x]=(l++[x]).map AV.i64:=by simp
def wsl (ws:List Tx):AV:=.sl 1 (ws.map AV.st)
def wtr (ws:List Tx):AV:=.tr 1 (ws.map AV.st)
def rdT (L:List Ln) (r:Rd):AV:=.pt 3 (.agg [.tr 1 (L.map lnA),.i64 r.a,.i64 r.t])
def rdV (L:List Ln) (r:Rd):AV:=.ep [.sl 1 (L.map lnA),.i64 r.a,.i64 r.t]
theorem hasSuf (l:Ln) (h:(10:UInt8)∉l.1) (hs:l.1.length≤1048576):SpecAt Tryz.prog 148 [.st (full l),.st [10]] (.bl l.2):=by
  obtain ⟨t,e⟩:=l
  replace h:(10:UInt8)∉t:=h
  replace hs:t.length≤1048576:=hs
  cases e with
  | true =>
    have e1:full (t,true)=t++[10]:=rfl
    have e2:(t++[(10:UInt8)]).length=t.length+1:=by simp
    rw [e1]
    refine spec_of_awp (M:=MM) (np:=2) (fz:=true) mixed Tryz.func148 rfl rfl (by decide) rfl (Nat.le_refl _) (by decide +kernel) (.inr ⟨rfl,rfl⟩) trivial ?_
    simp -dsimp -implicitDefEqProofs (disch:=first|omega|(simp only [lenr];try omega)) only [↓amPre,↓reduceIte,reduceCtorEq,Nat.reduceEqDiff,Nat.reduceBEq,Nat.reduceAdd,Nat.reduceLeDiff,Nat.reduceSub,Nat.reduceMul,Int.reduceToNat,MM,bu0,cbP9,Ps.lnfz,Ps.lnfzL,Ps.lnpure,Ps.stpure,Ps.lngm,Ps.stgm,Ps.stfz,Ps.rdT,Ps.rdV,Ps.wsl,Ps.wtr,e2]
    refine bl_eq ?_
    rw [show ((((t.length+1:Nat):Int) - ((1:Nat):Int)).toNat)=t.length by omega]
    simp
  | false =>
    have e1:full (t,false)=t:=rfl
    rw [e1]
    by_cases c0:t=[]
    · subst c0
      refine spec_of_awp (M:=MM) (np:=2) (fz:=true) mixed Tryz.func148 rfl rfl (by decide) rfl (Nat.le_refl _) (by decide +kernel) (.inr ⟨rfl,rfl⟩) trivial ?_
      simp -dsimp -implicitDefEqProofs (disch:=first|omega|(simp only [lenr];try omega)) only [↓amPre,↓reduceIte,reduceCtorEq,Nat.reduceEqDiff,Nat.reduceBEq,Nat.reduceAdd,Nat.reduceLeDiff,Nat.reduceSub,Nat.reduceMul,Int.reduceToNat,MM,bu0,cbP9,Ps.lnfz,Ps.lnfzL,Ps.lnpure,Ps.stpure,Ps.lngm,Ps.stgm,Ps.stfz,Ps.rdT,Ps.rdV,Ps.wsl,Ps.wtr,le_false (show ((0:Nat):Int)<((1:Nat):Int) by omega)]
    · have hp:0<t.length:=List.length_pos_iff.2 c0
      refine spec_of_awp (M:=MM) (np:=2) (fz:=true) mixed Tryz.func148 rfl rfl (by decide) rfl (Nat.le_refl _) (by decide +kernel) (.inr ⟨rfl,rfl⟩) trivial ?_
      simp -dsimp -implicitDefEqProofs (disch:=first|omega|(simp only [lenr];try omega)) only [↓amPre,↓reduceIte,reduceCtorEq,Nat.reduceEqDiff,Nat.reduceBEq,Nat.reduceAdd,Nat.reduceLeDiff,Nat.reduceSub,Nat.reduceMul,Int.reduceToNat,MM,bu0,cbP9,Ps.lnfz,Ps.lnfzL,Ps.lnpure,Ps.stpure,Ps.lngm,Ps.stgm,Ps.stfz,Ps.rdT,Ps.rdV,Ps.wsl,Ps.wtr,le_true (show ((1:Nat):Int)≤((t.length:Nat):Int) by omega)]
      refine bl_eq ?_
      simp only [Bool.false_eq_true,iff_false]
      intro q
      have q:=beq_iff_eq.1 q
      refine h (List.mem_of_mem_drop (i:=((t.length:Int) - ((1:Nat):Int)).toNat) ?_)
      rw [q];simp
theorem cutSuf1 (l:Ln) (h:(10:UInt8)∉l.1) (hs:l.1.length≤1048576):SpecAt Tryz.prog 133 [.st (full l),.st [10]] (.tup [.st l.1,.bl l.2]):=by
  have q:=hasSuf l h hs
  obtain ⟨t,e⟩:=l
  cases e with
  | true =>
    have e1:full (t,true)=t++[10]:=rfl
    have e2:(t++[(10:UInt8)]).length=t.length+1:=by simp
    have hs:t.length≤1048576:=hs
    rw [e1] at q ⊢
    refine spec_of_awp (M:=MM) (np:=2) (fz:=true) mixed Tryz.func133 rfl rfl (by decide) rfl (Nat.le_refl _) (by decide +kernel) (.inr ⟨rfl,rfl⟩) trivial ?_
    simp -dsimp -implicitDefEqProofs (disch:=first|omega|(simp only [lenr];try omega)) only [↓amPre,↓reduceIte,reduceCtorEq,Nat.reduceEqDiff,Nat.reduceBEq,Nat.reduceAdd,Nat.reduceLeDiff,Nat.reduceSub,Nat.reduceMul,Int.reduceToNat,MM,bu0,cbP9,Ps.lnfz,Ps.lnfzL,Ps.lnpure,Ps.stpure,Ps.lngm,Ps.stgm,Ps.stfz,Ps.rdT,Ps.rdV,Ps.wsl,Ps.wtr]
    refine callP_of (q) ?_
    simp -dsimp -implicitDefEqProofs (disch:=first|omega|(simp only [lenr];try omega)) only [↓amPre,↓reduceIte,reduceCtorEq,Nat.reduceEqDiff,Nat.reduceBEq,Nat.reduceAdd,Nat.reduceLeDiff,Nat.reduceSub,Nat.reduceMul,Int.reduceToNat,MM,bu0,cbP9,Ps.lnfz,Ps.lnfzL,Ps.lnpure,Ps.stpure,Ps.lngm,Ps.stgm,Ps.stfz,Ps.rdT,Ps.rdV,Ps.wsl,Ps.wtr,e2]
    rw [show ((((t.length+1:Nat):Int) - ((1:Nat):Int)).toNat)=t.length by omega]
    simp
  | false =>
    have e1:full (t,false)=t:=rfl
    rw [e1] at q ⊢
    refine spec_of_awp (M:=MM) (np:=2) (fz:=true) mixed Tryz.func133 rfl rfl (by decide) rfl (Nat.le_refl _) (by decide +kernel) (.inr ⟨rfl,rfl⟩) trivial ?_
    simp -dsimp -implicitDefEqProofs (disch:=first|omega|(simp only [lenr];try omega)) only [↓amPre,↓reduceIte,reduceCtorEq,Nat.reduceEqDiff,Nat.reduceBEq,Nat.reduceAdd,Nat.reduceLeDiff,Nat.reduceSub,Nat.reduceMul,Int.reduceToNat,MM,bu0,cbP9,Ps.lnfz,Ps.lnfzL,Ps.lnpure,Ps.stpure,Ps.lngm,Ps.stgm,Ps.stfz,Ps.rdT,Ps.rdV,Ps.wsl,Ps.wtr]
    refine callP_of (q) ?_
    simp -dsimp -implicitDefEqProofs (disch:=first|omega|(simp only [lenr];try omega)) only [↓amPre,↓reduceIte,reduceCtorEq,Nat.reduceEqDiff,Nat.reduceBEq,Nat.reduceAdd,Nat.reduceLeDiff,Nat.reduceSub,Nat.reduceMul,Int.reduceToNat,MM,bu0,cbP9,Ps.lnfz,Ps.lnfzL,Ps.lnpure,Ps.stpure,Ps.lngm,Ps.stgm,Ps.stfz,Ps.rdT,Ps.rdV,Ps.wsl,Ps.wtr]
theorem cutSuf (l:Ln) (h:(10:UInt8)∉l.1) (hs:l.1.length≤1048576):SpecAt Tryz.prog 105 [.st (full l),.st [10]] (.tup [.st l.1,.bl l.2]):=by
  refine spec_of_awp (M:=MM) (np:=2) (fz:=true) mixed Tryz.func105 rfl rfl (by decide) rfl (Nat.le_refl _) (by decide +kernel) (.inr ⟨rfl,rfl⟩) trivial ?_
  simp -dsimp -implicitDefEqProofs (disch:=first|omega|(simp only [lenr];try omega)) only [↓amPre,↓reduceIte,reduceCtorEq,Nat.reduceEqDiff,Nat.reduceBEq,Nat.reduceAdd,Nat.reduceLeDiff,Nat.reduceSub,Nat.reduceMul,Int.reduceToNat,MM,bu0,cbP9,Ps.lnfz,Ps.lnfzL,Ps.lnpure,Ps.stpure,Ps.lngm,Ps.stgm,Ps.stfz,Ps.rdT,Ps.rdV,Ps.wsl,Ps.wtr]
  refine callP_of (cutSuf1 l h hs) ?_
  simp -dsimp -implicitDefEqProofs (disch:=first|omega|(simp only [lenr];try omega)) only [↓amPre,↓reduceIte,reduceCtorEq,Nat.reduceEqDiff,Nat.reduceBEq,Nat.reduceAdd,Nat.reduceLeDiff,Nat.reduceSub,Nat.reduceMul,Int.reduceToNat,MM,bu0,cbP9,Ps.lnfz,Ps.lnfzL,Ps.lnpure,Ps.stpure,Ps.lngm,Ps.stgm,Ps.stfz,Ps.rdT,Ps.rdV,Ps.wsl,Ps.wtr]
theorem lenL (L:List Ln):SpecAt Tryz.prog 103 [.sl 1 (L.map lnA)] (.i64 L.length):=by
  refine spec_of_awp (M:=MM) (np:=1) (fz:=true) mixed Tryz.func103 rfl rfl (by decide) rfl (Nat.le_refl _) (by decide +kernel) (.inr ⟨rfl,rfl⟩) trivial ?_
  simp -dsimp -implicitDefEqProofs (disch:=first|omega|(simp only [lenr];try omega)) only [↓amPre,↓reduceIte,reduceCtorEq,Nat.reduceEqDiff,Nat.reduceBEq,Nat.reduceAdd,Nat.reduceLeDiff,Nat.reduceSub,Nat.reduceMul,Int.reduceToNat,MM,bu0,cbP9,Ps.lnfz,Ps.lnfzL,Ps.lnpure,Ps.stpure,Ps.lngm,Ps.stgm,Ps.stfz,Ps.rdT,Ps.rdV,Ps.wsl,Ps.wtr]
theorem lenW (L:List Tx):SpecAt Tryz.prog 103 [wsl L] (.i64 L.length):=by
  refine spec_of_awp (M:=MM) (np:=1) (fz:=true) mixed Tryz.func103 rfl rfl (by decide) rfl (Nat.le_refl _) (by decide +kernel) (.inr ⟨rfl,rfl⟩) trivial ?_
  simp -dsimp -implicitDefEqProofs (disch:=first|omega|(simp only [lenr];try omega)) only [↓amPre,↓reduceIte,reduceCtorEq,Nat.reduceEqDiff,Nat.reduceBEq,Nat.reduceAdd,Nat.reduceLeDiff,Nat.reduceSub,Nat.reduceMul,Int.reduceToNat,MM,bu0,cbP9,Ps.lnfz,Ps.lnfzL,Ps.lnpure,Ps.stpure,Ps.lngm,Ps.stgm,Ps.stfz,Ps.rdT,Ps.rdV,Ps.wsl,Ps.wtr,wsl]
def moreS (L:List Ln) (r:Rd):Bool:=decide (r.t = -1∧r.a<L.length)
theorem moreI (L:List Ln) (r:Rd) (hl:L.length≤1048576):SpecAt Tryz.prog 49 [rdV L r] (.bl (moreS L r)):=by
  refine spec_of_awp (M:=MM) (np:=1) (fz:=true) mixed Tryz.func49 rfl rfl (by decide) rfl (Nat.le_refl _) (by decide +kernel) (.inr ⟨rfl,rfl⟩) trivial ?_
  by_cases c:r.t = -1
  · simp -dsimp -implicitDefEqProofs (disch:=first|omega|(simp only [lenr];try omega)) only [↓amPre,↓reduceIte,reduceCtorEq,Nat.reduceEqDiff,Nat.reduceBEq,Nat.reduceAdd,Nat.reduceLeDiff,Nat.reduceSub,Nat.reduceMul,Int.reduceToNat,MM,bu0,cbP9,Ps.lnfz,Ps.lnfzL,Ps.lnpure,Ps.stpure,Ps.lngm,Ps.stgm,Ps.stfz,Ps.rdT,Ps.rdV,Ps.wsl,Ps.wtr,rdV,eq_true c]
    refine callP_of (lenL L) ?_
    simp -dsimp -implicitDefEqProofs (disch:=first|omega|(simp only [lenr];try omega)) only [↓amPre,↓reduceIte,reduceCtorEq,Nat.reduceEqDiff,Nat.reduceBEq,Nat.reduceAdd,Nat.reduceLeDiff,Nat.reduceSub,Nat.reduceMul,Int.reduceToNat,MM,bu0,cbP9,Ps.lnfz,Ps.lnfzL,Ps.lnpure,Ps.stpure,Ps.lngm,Ps.stgm,Ps.stfz,Ps.rdT,Ps.rdV,Ps.wsl,Ps.wtr,rdV,eq_true c]
    refine bl_eq ?_
    simp only [decide_eq_true_eq,moreS,c,true_and]
    omega
  · simp -dsimp -implicitDefEqProofs (disch:=first|omega|(simp only [lenr];try omega)) only [↓amPre,↓reduceIte,reduceCtorEq,Nat.reduceEqDiff,Nat.reduceBEq,Nat.reduceAdd,Nat.reduceLeDiff,Nat.reduceSub,Nat.reduceMul,Int.reduceToNat,MM,bu0,cbP9,Ps.lnfz,Ps.lnfzL,Ps.lnpure,Ps.stpure,Ps.lngm,Ps.stgm,Ps.stfz,Ps.rdT,Ps.rdV,Ps.wsl,Ps.wtr,rdV,eq_false c]
    refine bl_eq ?_
    simp [moreS,c]
theorem rejI (L:List Ln) (r:Rd) (hl:r.a≤1048576):SpecX Tryz.prog 71 [rdT L r] [some (rdT L (rej r))] (.tup []):=by
  have hw:IntKind.i64.wrap ((r.a:Int) - 1)=(r.a:Int) - 1:=wrap64_id (by omega)
  by_cases c:r.t = -1
  · refine spec_of_awp (M:=MM) (np:=1) (fz:=false) mixed Tryz.func71 rfl rfl (by decide) rfl (Nat.le_refl _) (by decide +kernel) (.inl rfl) (by first | trivial | simp only [sigsOk_nil,sigsOk_some,sigsOk_none,sig_tr,sig_pt,sig_mt,sig_agg,List.map_cons,List.map_nil,sig1_tr,sig1_pt,sig1_v,and_self,true_and,List.length_map,List.length_set]) ?_
    simp -dsimp -implicitDefEqProofs (disch:=first|omega|(simp only [lenr];try omega)) only [↓amPre,↓reduceIte,reduceCtorEq,Nat.reduceEqDiff,Nat.reduceBEq,Nat.reduceAdd,Nat.reduceLeDiff,Nat.reduceSub,Nat.reduceMul,Int.reduceToNat,MM,bu0,cbP9,Ps.lnfz,Ps.lnfzL,Ps.lnpure,Ps.stpure,Ps.lngm,Ps.stgm,Ps.stfz,Ps.rdT,Ps.rdV,Ps.wsl,Ps.wtr,rdT,eq_true c,hw,rej,c]
  · rw [rej_bad c]
    refine spec_of_awp (M:=MM) (np:=1) (fz:=false) mixed Tryz.func71 rfl rfl (by decide) rfl (Nat.le_refl _) (by decide +kernel) (.inl rfl) (by first | trivial | simp only [sigsOk_nil,sigsOk_some,sigsOk_none,sig_tr,sig_pt,sig_mt,sig_agg,List.map_cons,List.map_nil,sig1_tr,sig1_pt,sig1_v,and_self,true_and,List.length_map,List.length_set]) ?_
    simp -dsimp -implicitDefEqProofs (disch:=first|omega|(simp only [lenr];try omega)) only [↓amPre,↓reduceIte,reduceCtorEq,Nat.reduceEqDiff,Nat.reduceBEq,Nat.reduceAdd,Nat.reduceLeDiff,Nat.reduceSub,Nat.reduceMul,Int.reduceToNat,MM,bu0,cbP9,Ps.lnfz,Ps.lnfzL,Ps.lnpure,Ps.stpure,Ps.lngm,Ps.stgm,Ps.stfz,Ps.rdT,Ps.rdV,Ps.wsl,Ps.wtr,rdT,eq_false c]
theorem finI (L:List Ln) (r:Rd) (b:Bool):SpecAt Tryz.prog 50 [rdV L r,.bl b] (.i64 (if r.t = -1∧b=false then -4 else r.t)):=by
  refine spec_of_awp (M:=MM) (np:=2) (fz:=true) mixed Tryz.func50 rfl rfl (by decide) rfl (Nat.le_refl _) (by decide +kernel) (.inr ⟨rfl,rfl⟩) trivial ?_
  by_cases c:r.t = -1
  · cases b with
    | true=>simp -dsimp -implicitDefEqProofs (disch:=first|omega|(simp only [lenr];try omega)) only [↓amPre,↓reduceIte,reduceCtorEq,Nat.reduceEqDiff,Nat.reduceBEq,Nat.reduceAdd,Nat.reduceLeDiff,Nat.reduceSub,Nat.reduceMul,Int.reduceToNat,MM,bu0,cbP9,Ps.lnfz,Ps.lnfzL,Ps.lnpure,Ps.stpure,Ps.lngm,Ps.stgm,Ps.stfz,Ps.rdT,Ps.rdV,Ps.wsl,Ps.wtr,rdV,eq_true c,c]
    | false=>simp -dsimp -implicitDefEqProofs (disch:=first|omega|(simp only [lenr];try omega)) only [↓amPre,↓reduceIte,reduceCtorEq,Nat.reduceEqDiff,Nat.reduceBEq,Nat.reduceAdd,Nat.reduceLeDiff,Nat.reduceSub,Nat.reduceMul,Int.reduceToNat,MM,bu0,cbP9,Ps.lnfz,Ps.lnfzL,Ps.lnpure,Ps.stpure,Ps.lngm,Ps.stgm,Ps.stfz,Ps.rdT,Ps.rdV,Ps.wsl,Ps.wtr,rdV,eq_true c,c]
  · simp -dsimp -implicitDefEqProofs (disch:=first|omega|(simp only [lenr];try omega)) only [↓amPre,↓reduceIte,reduceCtorEq,Nat.reduceEqDiff,Nat.reduceBEq,Nat.reduceAdd,Nat.reduceLeDiff,Nat.reduceSub,Nat.reduceMul,Int.reduceToNat,MM,bu0,cbP9,Ps.lnfz,Ps.lnfzL,Ps.lnpure,Ps.stpure,Ps.lngm,Ps.stgm,Ps.stfz,Ps.rdT,Ps.rdV,Ps.wsl,Ps.wtr,rdV,eq_false c,c]
theorem nums1 (x:Int):SpecAt Tryz.prog 114 [.i64 x] (.bl (!within x 0 999)):=by
  refine spec_of_awp (M:=MM) (np:=1) (fz:=true) mixed Tryz.func114 rfl rfl (by decide) rfl (Nat.le_refl _) (by decide +kernel) (.inr ⟨rfl,rfl⟩) trivial ?_
  simp -dsimp -implicitDefEqProofs (disch:=first|omega|(simp only [lenr];try omega)) only [↓amPre,↓reduceIte,reduceCtorEq,Nat.reduceEqDiff,Nat.reduceBEq,Nat.reduceAdd,Nat.reduceLeDiff,Nat.reduceSub,Nat.reduceMul,Int.reduceToNat,MM,bu0,cbP9,Ps.lnfz,Ps.lnfzL,Ps.lnpure,Ps.stpure,Ps.lngm,Ps.stgm,Ps.stfz,Ps.rdT,Ps.rdV,Ps.wsl,Ps.wtr]
  refine callP_of (iwithin _ _ _) ?_
  simp -dsimp -implicitDefEqProofs (disch:=first|omega|(simp only [lenr];try omega)) only [↓amPre,↓reduceIte,reduceCtorEq,Nat.reduceEqDiff,Nat.reduceBEq,Nat.reduceAdd,Nat.reduceLeDiff,Nat.reduceSub,Nat.reduceMul,Int.reduceToNat,MM,bu0,cbP9,Ps.lnfz,Ps.lnfzL,Ps.lnpure,Ps.stpure,Ps.lngm,Ps.stgm,Ps.stfz,Ps.rdT,Ps.rdV,Ps.wsl,Ps.wtr]
end Ps
def cbJ7:=(ai (ai (ai (cbP9) (ai (@Ps.lnfz) (@Ps.lnfzL))) (ai (@Ps.lnpure) (ai (@Ps.stpure) (@Ps.lngm)))) (ai (ai (@Ps.stgm) (ai (@Ps.stfz) (@Ps.rdT.eq_1))) (ai (@Ps.rdV.eq_1) (ai (@Ps.wsl.eq_1) (@Ps.wtr.eq_1)))))

end Go.AM
set_option maxRecDepth 8000
namespace Go.AM
namespace Ps
open Go.Proofs
def okL (L:List Ln):Prop:=L.length≤1048576∧∀ l∈L,(10:UInt8)∉l.1∧l.1.length≤1048576
theorem okL_at {L:List Ln} (h:okL L) {a:Nat} (ha:a<L.length):(10:UInt8)∉(lat L a).1∧(lat L a).1.length≤1048576:=h.2 _ (by
  unfold lat;rw [getD_eq _ _ _ ha];exact List.getElem_mem ha)
theorem rep_st (c:Nat):List.replicate c (AV.v (Value.string { data:=#[] }))=(List.replicate c ([]:Tx)).map AV.st:=by rw [List.map_replicate]
theorem wordsI (L:List Ln) (f:Tx) (c:Nat) (r:Rd) (hL:okL L) (ha:r.a≤L.length) (hc:c≤1048576):SpecX Tryz.prog 58 [rdT L r,.st f,.i64 c] [some (rdT L (wordsS L f c r).1)] (wtr (wordsS L f c r).2):=by
  have hl:=hL.1
  by_cases c1:r.t = -1
  case neg =>
    have hm:=moreI L r hl
    rw [wordsS_bad c1]
    have hmf:moreS L r=false:=by simp [moreS,c1]
    rw [hmf] at hm
    refine spec_of_awp_any (M:=MM) (np:=3) (X:=[5]) (fz:=false) mixed Tryz.func58 rfl rfl (by decide) rfl (Nat.le_refl _) (by decide +kernel) (.inl rfl) (by first | trivial | simp only [sigsOk_nil,sigsOk_some,sigsOk_none,sig_tr,sig_pt,sig_mt,sig_agg,List.map_cons,List.map_nil,sig1_tr,sig1_pt,sig1_v,and_self,true_and,List.length_map,List.length_set]) ?_
    simp -dsimp -implicitDefEqProofs (disch:=first|omega|(simp only [lenr];try omega)) only [↓amPre,↓reduceIte,reduceCtorEq,Nat.reduceEqDiff,Nat.reduceBEq,Nat.reduceAdd,Nat.reduceLeDiff,Nat.reduceSub,Nat.reduceMul,Int.reduceToNat,MM,bu0,cbJ1,cbJ7,eq_false c1]
    refine callP_of (hm) ?_
    simp -dsimp -implicitDefEqProofs (disch:=first|omega|(simp only [lenr];try omega)) only [↓amPre,↓reduceIte,reduceCtorEq,Nat.reduceEqDiff,Nat.reduceBEq,Nat.reduceAdd,Nat.reduceLeDiff,Nat.reduceSub,Nat.reduceMul,Int.reduceToNat,MM,bu0,cbJ1,cbJ7]
    exact rep_st c
  obtain ⟨a,t⟩:=r
  replace c1:t = -1:=c1
  replace ha:a≤L.length:=ha
  subst c1
  by_cases c2:L.length≤a
  · have hae:a=L.length:=by omega
    subst hae
    have hm:=moreI L ⟨L.length,-3⟩ hl
    have hmf:moreS L ⟨L.length,-3⟩=false:=by simp [moreS]
    rw [hmf] at hm
    have hw:wordsS L f c ⟨L.length,-1⟩=(⟨L.length,-3⟩,List.replicate c []):=by
      unfold wordsS
      rw [if_pos rfl,if_pos (Nat.le_refl _)]
    rw [hw]
    refine spec_of_awp_any (M:=MM) (np:=3) (X:=[5]) (fz:=false) mixed Tryz.func58 rfl rfl (by decide) rfl (Nat.le_refl _) (by decide +kernel) (.inl rfl) (by first | trivial | simp only [sigsOk_nil,sigsOk_some,sigsOk_none,sig_tr,sig_pt,sig_mt,sig_agg,List.map_cons,List.map_nil,sig1_tr,sig1_pt,sig1_v,and_self,true_and,List.length_map,List.length_set]) ?_
    simp -dsimp -implicitDefEqProofs (disch:=first|omega|(simp only [lenr];try omega)) only [↓amPre,↓reduceIte,reduceCtorEq,Nat.reduceEqDiff,Nat.reduceBEq,Nat.reduceAdd,Nat.reduceLeDiff,Nat.reduceSub,Nat.reduceMul,Int.reduceToNat,MM,bu0,cbJ1,cbJ7,eq_true (rfl:(-1:Int) = -1)]
    refine callP_of (lenL L) ?_
    simp -dsimp -implicitDefEqProofs (disch:=first|omega|(simp only [lenr];try omega)) only [↓amPre,↓reduceIte,reduceCtorEq,Nat.reduceEqDiff,Nat.reduceBEq,Nat.reduceAdd,Nat.reduceLeDiff,Nat.reduceSub,Nat.reduceMul,Int.reduceToNat,MM,bu0,cbJ1,cbJ7,eq_true (rfl:((L.length:Nat):Int)=L.length)]
    refine callP_of (hm) ?_
    simp -dsimp -implicitDefEqProofs (disch:=first|omega|(simp only [lenr];try omega)) only [↓amPre,↓reduceIte,reduceCtorEq,Nat.reduceEqDiff,Nat.reduceBEq,Nat.reduceAdd,Nat.reduceLeDiff,Nat.reduceSub,Nat.reduceMul,Int.reduceToNat,MM,bu0,cbJ1,cbJ7]
    exact rep_st c
  have hlt:a<L.length:=by omega
  have hne:(a:Int)≠L.length:=by omega
  have hm:=moreI L ⟨a,-1⟩ hl
  have hmt:moreS L ⟨a,-1⟩=true:=by simp [moreS,hlt]
  rw [hmt] at hm
  obtain ⟨hn,hs⟩:=okL_at hL hlt
  obtain ⟨l,hle⟩:∃ l,l=lat L a:=⟨_,rfl⟩
  have hcut:=cutSuf (lat L a) hn hs
  have hsp:=splitW (lat L a).1 32 hs
  have hpos:0<(spl 32 (lat L a).1).length:=List.length_pos_iff.2 (spl_ne _ _)
  have hslen:=spl_len 32 (lat L a).1
  have hr:=rejI L ⟨a+1,-1⟩ (by show a+1≤_;omega)
  have hrj:rej ⟨a+1,-1⟩=⟨a+1,a⟩:=by
    unfold rej;rw [if_pos rfl]
    show (⟨a+1,((a+1:Nat):Int) - 1⟩:Rd)=_
    congr 1;omega
  rw [hrj] at hr
  have hca:((a:Int)+1)=((a+1:Nat):Int):=by omega
  have hbad:lineW (lat L a) f c=none→wordsS L f c ⟨a,-1⟩=(⟨a+1,a⟩,List.replicate c []):=fun q=>by
    unfold wordsS
    rw [if_pos rfl,if_neg c2]
    dsimp only
    rw [q]
  rw [← hle] at hcut hsp hpos hslen hbad hs
  by_cases d1:l.2=true
  case neg =>
    have d1':l.2=false:=by simpa using d1
    rw [d1'] at hcut
    rw [hbad (if_neg (fun q=>d1 q.1))]
    refine spec_of_awp_any (M:=MM) (np:=3) (X:=[5]) (fz:=false) mixed Tryz.func58 rfl rfl (by decide) rfl (Nat.le_refl _) (by decide +kernel) (.inl rfl) (by first | trivial | simp only [sigsOk_nil,sigsOk_some,sigsOk_none,sig_tr,sig_pt,sig_mt,sig_agg,List.map_cons,List.map_nil,sig1_tr,sig1_pt,sig1_v,and_self,true_and,List.length_map,List.length_set]) ?_
    simp -dsimp -implicitDefEqProofs (disch:=first|omega|(simp only [lenr];try omega)) only [↓amPre,↓reduceIte,reduceCtorEq,Nat.reduceEqDiff,Nat.reduceBEq,Nat.reduceAdd,Nat.reduceLeDiff,Nat.reduceSub,Nat.reduceMul,Int.reduceToNat,MM,bu0,cbJ1,cbJ7,eq_true (rfl:(-1:Int) = -1)]
    refine callP_of (lenL L) ?_
    simp -dsimp -implicitDefEqProofs (disch:=first|omega|(simp only [lenr];try omega)) only [↓amPre,↓reduceIte,reduceCtorEq,Nat.reduceEqDiff,Nat.reduceBEq,Nat.reduceAdd,Nat.reduceLeDiff,Nat.reduceSub,Nat.reduceMul,Int.reduceToNat,MM,bu0,cbJ1,cbJ7,eq_false hne]
    refine callP_of (hm) ?_
    simp -dsimp -implicitDefEqProofs (disch:=first|omega|(simp only [lenr];try omega)) only [↓amPre,↓reduceIte,reduceCtorEq,Nat.reduceEqDiff,Nat.reduceBEq,Nat.reduceAdd,Nat.reduceLeDiff,Nat.reduceSub,Nat.reduceMul,Int.reduceToNat,MM,bu0,cbJ1,cbJ7]
    refine split_go 15 (by decide +kernel) ?_
    simp -dsimp -implicitDefEqProofs (disch:=first|omega|(simp only [lenr];try omega)) only [↓amPre,↓reduceIte,reduceCtorEq,Nat.reduceEqDiff,Nat.reduceBEq,Nat.reduceAdd,Nat.reduceLeDiff,Nat.reduceSub,Nat.reduceMul,Int.reduceToNat,MM,bu0,cbJ1,cbJ7,← hle]
    refine callP_of (hcut) ?_
    simp -dsimp -implicitDefEqProofs (disch:=first|omega|(simp only [lenr];try omega)) only [↓amPre,↓reduceIte,reduceCtorEq,Nat.reduceEqDiff,Nat.reduceBEq,Nat.reduceAdd,Nat.reduceLeDiff,Nat.reduceSub,Nat.reduceMul,Int.reduceToNat,MM,bu0,cbJ1,cbJ7,hca]
    refine callP_of (hsp) ?_
    simp -dsimp -implicitDefEqProofs (disch:=first|omega|(simp only [lenr];try omega)) only [↓amPre,↓reduceIte,reduceCtorEq,Nat.reduceEqDiff,Nat.reduceBEq,Nat.reduceAdd,Nat.reduceLeDiff,Nat.reduceSub,Nat.reduceMul,Int.reduceToNat,MM,bu0,cbJ1,cbJ7]
    refine callX_of (hr) ?_
    simp -dsimp -implicitDefEqProofs (disch:=first|omega|(simp only [lenr];try omega)) only [↓amPre,↓reduceIte,reduceCtorEq,Nat.reduceEqDiff,Nat.reduceBEq,Nat.reduceAdd,Nat.reduceLeDiff,Nat.reduceSub,Nat.reduceMul,Int.reduceToNat,MM,bu0,cbJ1,cbJ7]
    exact rep_st c
  by_cases d2:(spl 32 l.1).getD 0 []=f
  case neg =>
    rw [hbad (if_neg (fun q=>d2 q.2.1))]
    rw [d1] at hcut
    refine spec_of_awp_any (M:=MM) (np:=3) (X:=[5]) (fz:=false) mixed Tryz.func58 rfl rfl (by decide) rfl (Nat.le_refl _) (by decide +kernel) (.inl rfl) (by first | trivial | simp only [sigsOk_nil,sigsOk_some,sigsOk_none,sig_tr,sig_pt,sig_mt,sig_agg,List.map_cons,List.map_nil,sig1_tr,sig1_pt,sig1_v,and_self,true_and,List.length_map,List.length_set]) ?_
    simp -dsimp -implicitDefEqProofs (disch:=first|omega|(simp only [lenr];try omega)) only [↓amPre,↓reduceIte,reduceCtorEq,Nat.reduceEqDiff,Nat.reduceBEq,Nat.reduceAdd,Nat.reduceLeDiff,Nat.reduceSub,Nat.reduceMul,Int.reduceToNat,MM,bu0,cbJ1,cbJ7,eq_true (rfl:(-1:Int) = -1)]
    refine callP_of (lenL L) ?_
    simp -dsimp -implicitDefEqProofs (disch:=first|omega|(simp only [lenr];try omega)) only [↓amPre,↓reduceIte,reduceCtorEq,Nat.reduceEqDiff,Nat.reduceBEq,Nat.reduceAdd,Nat.reduceLeDiff,Nat.reduceSub,Nat.reduceMul,Int.reduceToNat,MM,bu0,cbJ1,cbJ7,eq_false hne]
    refine callP_of (hm) ?_
    simp -dsimp -implicitDefEqProofs (disch:=first|omega|(simp only [lenr];try omega)) only [↓amPre,↓reduceIte,reduceCtorEq,Nat.reduceEqDiff,Nat.reduceBEq,Nat.reduceAdd,Nat.reduceLeDiff,Nat.reduceSub,Nat.reduceMul,Int.reduceToNat,MM,bu0,cbJ1,cbJ7]
    refine split_go 15 (by decide +kernel) ?_
    simp -dsimp -implicitDefEqProofs (disch:=first|omega|(simp only [lenr];try omega)) only [↓amPre,↓reduceIte,reduceCtorEq,Nat.reduceEqDiff,Nat.reduceBEq,Nat.reduceAdd,Nat.reduceLeDiff,Nat.reduceSub,Nat.reduceMul,Int.reduceToNat,MM,bu0,cbJ1,cbJ7,← hle]
    refine callP_of (hcut) ?_
    simp -dsimp -implicitDefEqProofs (disch:=first|omega|(simp only [lenr];try omega)) only [↓amPre,↓reduceIte,reduceCtorEq,Nat.reduceEqDiff,Nat.reduceBEq,Nat.reduceAdd,Nat.reduceLeDiff,Nat.reduceSub,Nat.reduceMul,Int.reduceToNat,MM,bu0,cbJ1,cbJ7,hca]
    refine callP_of (hsp) ?_
    simp -dsimp -implicitDefEqProofs (disch:=first|omega|(simp only [lenr];try omega)) only [↓amPre,↓reduceIte,reduceCtorEq,Nat.reduceEqDiff,Nat.reduceBEq,Nat.reduceAdd,Nat.reduceLeDiff,Nat.reduceSub,Nat.reduceMul,Int.reduceToNat,MM,bu0,cbJ1,cbJ7,txne d2]
    refine callX_of (hr) ?_
    simp -dsimp -implicitDefEqProofs (disch:=first|omega|(simp only [lenr];try omega)) only [↓amPre,↓reduceIte,reduceCtorEq,Nat.reduceEqDiff,Nat.reduceBEq,Nat.reduceAdd,Nat.reduceLeDiff,Nat.reduceSub,Nat.reduceMul,Int.reduceToNat,MM,bu0,cbJ1,cbJ7]
    exact rep_st c
  by_cases d3:(spl 32 l.1).length=c+1
  case neg =>
    have d3':(((spl 32 l.1).length:Nat):Int)≠(c:Int)+1:=by omega
    rw [hbad (if_neg (fun q=>d3 q.2.2))]
    rw [d1] at hcut
    refine spec_of_awp_any (M:=MM) (np:=3) (X:=[5]) (fz:=false) mixed Tryz.func58 rfl rfl (by decide) rfl (Nat.le_refl _) (by decide +kernel) (.inl rfl) (by first | trivial | simp only [sigsOk_nil,sigsOk_some,sigsOk_none,sig_tr,sig_pt,sig_mt,sig_agg,List.map_cons,List.map_nil,sig1_tr,sig1_pt,sig1_v,and_self,true_and,List.length_map,List.length_set]) ?_
    simp -dsimp -implicitDefEqProofs (disch:=first|omega|(simp only [lenr];try omega)) only [↓amPre,↓reduceIte,reduceCtorEq,Nat.reduceEqDiff,Nat.reduceBEq,Nat.reduceAdd,Nat.reduceLeDiff,Nat.reduceSub,Nat.reduceMul,Int.reduceToNat,MM,bu0,cbJ1,cbJ7,eq_true (rfl:(-1:Int) = -1)]
    refine callP_of (lenL L) ?_
    simp -dsimp -implicitDefEqProofs (disch:=first|omega|(simp only [lenr];try omega)) only [↓amPre,↓reduceIte,reduceCtorEq,Nat.reduceEqDiff,Nat.reduceBEq,Nat.reduceAdd,Nat.reduceLeDiff,Nat.reduceSub,Nat.reduceMul,Int.reduceToNat,MM,bu0,cbJ1,cbJ7,eq_false hne]
    refine callP_of (hm) ?_
    simp -dsimp -implicitDefEqProofs (disch:=first|omega|(simp only [lenr];try omega)) only [↓amPre,↓reduceIte,reduceCtorEq,Nat.reduceEqDiff,Nat.reduceBEq,Nat.reduceAdd,Nat.reduceLeDiff,Nat.reduceSub,Nat.reduceMul,Int.reduceToNat,MM,bu0,cbJ1,cbJ7]
    refine split_go 15 (by decide +kernel) ?_
    simp -dsimp -implicitDefEqProofs (disch:=first|omega|(simp only [lenr];try omega)) only [↓amPre,↓reduceIte,reduceCtorEq,Nat.reduceEqDiff,Nat.reduceBEq,Nat.reduceAdd,Nat.reduceLeDiff,Nat.reduceSub,Nat.reduceMul,Int.reduceToNat,MM,bu0,cbJ1,cbJ7,← hle]
    refine callP_of (hcut) ?_
    simp -dsimp -implicitDefEqProofs (disch:=first|omega|(simp only [lenr];try omega)) only [↓amPre,↓reduceIte,reduceCtorEq,Nat.reduceEqDiff,Nat.reduceBEq,Nat.reduceAdd,Nat.reduceLeDiff,Nat.reduceSub,Nat.reduceMul,Int.reduceToNat,MM,bu0,cbJ1,cbJ7,hca]
    refine callP_of (hsp) ?_
    simp -dsimp -implicitDefEqProofs (disch:=first|omega|(simp only [lenr];try omega)) only [↓amPre,↓reduceIte,reduceCtorEq,Nat.reduceEqDiff,Nat.reduceBEq,Nat.reduceAdd,Nat.reduceLeDiff,Nat.reduceSub,Nat.reduceMul,Int.reduceToNat,MM,bu0,cbJ1,cbJ7,txeq d2]
    refine callP_of (lenW _) ?_
    simp -dsimp -implicitDefEqProofs (disch:=first|omega|(simp only [lenr];try omega)) only [↓amPre,↓reduceIte,reduceCtorEq,Nat.reduceEqDiff,Nat.reduceBEq,Nat.reduceAdd,Nat.reduceLeDiff,Nat.reduceSub,Nat.reduceMul,Int.reduceToNat,MM,bu0,cbJ1,cbJ7,ne_true d3']
    refine callX_of (hr) ?_
    simp -dsimp -implicitDefEqProofs (disch:=first|omega|(simp only [lenr];try omega)) only [↓amPre,↓reduceIte,reduceCtorEq,Nat.reduceEqDiff,Nat.reduceBEq,Nat.reduceAdd,Nat.reduceLeDiff,Nat.reduceSub,Nat.reduceMul,Int.reduceToNat,MM,bu0,cbJ1,cbJ7]
    exact rep_st c
  have d3':(((spl 32 l.1).length:Nat):Int)=(c:Int)+1:=by omega
  have hgood:wordsS L f c ⟨a,-1⟩=(⟨a+1,-1⟩,(spl 32 l.1).drop 1):=by
    unfold wordsS
    rw [if_pos rfl,if_neg c2]
    dsimp only
    rw [← hle]
    unfold lineW
    rw [if_pos ⟨d1,d2,d3⟩]
  rw [hgood]
  rw [d1] at hcut
  refine spec_of_awp_any (M:=MM) (np:=3) (X:=[5]) (fz:=false) mixed Tryz.func58 rfl rfl (by decide) rfl (Nat.le_refl _) (by decide +kernel) (.inl rfl) (by first | trivial | simp only [sigsOk_nil,sigsOk_some,sigsOk_none,sig_tr,sig_pt,sig_mt,sig_agg,List.map_cons,List.map_nil,sig1_tr,sig1_pt,sig1_v,and_self,true_and,List.length_map,List.length_set]) ?_
  simp -dsimp -implicitDefEqProofs (disch:=first|omega|(simp only [lenr];try omega)) only [↓amPre,↓reduceIte,reduceCtorEq,Nat.reduceEqDiff,Nat.reduceBEq,Nat.reduceAdd,Nat.reduceLeDiff,Nat.reduceSub,Nat.reduceMul,Int.reduceToNat,MM,bu0,cbJ1,cbJ7,eq_true (rfl:(-1:Int) = -1)]
  refine callP_of (lenL L) ?_
  simp -dsimp -implicitDefEqProofs (disch:=first|omega|(simp only [lenr];try omega)) only [↓amPre,↓reduceIte,reduceCtorEq,Nat.reduceEqDiff,Nat.reduceBEq,Nat.reduceAdd,Nat.reduceLeDiff,Nat.reduceSub,Nat.reduceMul,Int.reduceToNat,MM,bu0,cbJ1,cbJ7,eq_false hne]
  refine callP_of (hm) ?_
  simp -dsimp -implicitDefEqProofs (disch:=first|omega|(simp only [lenr];try omega)) only [↓amPre,↓reduceIte,reduceCtorEq,Nat.reduceEqDiff,Nat.reduceBEq,Nat.reduceAdd,Nat.reduceLeDiff,Nat.reduceSub,Nat.reduceMul,Int.reduceToNat,MM,bu0,cbJ1,cbJ7]
  refine split_go 15 (by decide +kernel) ?_
  simp -dsimp -implicitDefEqProofs (disch:=first|omega|(simp only [lenr];try omega)) only [↓amPre,↓reduceIte,reduceCtorEq,Nat.reduceEqDiff,Nat.reduceBEq,Nat.reduceAdd,Nat.reduceLeDiff,Nat.reduceSub,Nat.reduceMul,Int.reduceToNat,MM,bu0,cbJ1,cbJ7,← hle]
  refine callP_of (hcut) ?_
  simp -dsimp -implicitDefEqProofs (disch:=first|omega|(simp only [lenr];try omega)) only [↓amPre,↓reduceIte,reduceCtorEq,Nat.reduceEqDiff,Nat.reduceBEq,Nat.reduceAdd,Nat.reduceLeDiff,Nat.reduceSub,Nat.reduceMul,Int.reduceToNat,MM,bu0,cbJ1,cbJ7,hca]
  refine callP_of (hsp) ?_
  simp -dsimp -implicitDefEqProofs (disch:=first|omega|(simp only [lenr];try omega)) only [↓amPre,↓reduceIte,reduceCtorEq,Nat.reduceEqDiff,Nat.reduceBEq,Nat.reduceAdd,Nat.reduceLeDiff,Nat.reduceSub,Nat.reduceMul,Int.reduceToNat,MM,bu0,cbJ1,cbJ7,txeq d2]
  refine callP_of (lenW _) ?_
  simp -dsimp -implicitDefEqProofs (disch:=first|omega|(simp only [lenr];try omega)) only [↓amPre,↓reduceIte,reduceCtorEq,Nat.reduceEqDiff,Nat.reduceBEq,Nat.reduceAdd,Nat.reduceLeDiff,Nat.reduceSub,Nat.reduceMul,Int.reduceToNat,MM,bu0,cbJ1,cbJ7,ne_false d3']
end Ps
end Go.AM
set_option maxRecDepth 8000
namespace Go.AM
namespace Ps
open Go.Proofs
open Door (decimal_spec)
theorem parse_in {w:Tx} {v:Int} (h:Lib.parseIntB 64 w=.ok v):intOk v:=by
  unfold Lib.parseIntB at h
  split at h
  · cases h
  · dsimp only at h
    split at h
    · cases h
    · cases h
    · rename_i u _
      split at h
      · cases h
      · split at h
        · cases h
        · rename_i h1 h2
          cases h
          unfold intOk
          simp only [not_and,Nat.not_le,Nat.not_lt] at h1 h2
          split
          · rename_i q
            have:=h2 q
            omega
          · rename_i q
            have:=h1 q
            omega
theorem readNumberI (w:Tx) (hw:w.length≤1048576):SpecAt Tryz.prog 137 [.st w] (.tup [.i64 (rn w).1,.bl (rn w).2]):=by
  have hp:=parseW w hw
  unfold piR at hp
  unfold rn
  split at hp
  · rename_i v hv
    have hd:=decimal_spec v (parse_in hv)
    rw [hv]
    refine spec_of_awp (M:=MM) (np:=1) (fz:=true) mixed Tryz.func137 rfl rfl (by decide) rfl (Nat.le_refl _) (by decide +kernel) (.inr ⟨rfl,rfl⟩) trivial ?_
    simp -dsimp -implicitDefEqProofs (disch:=first|omega|(simp only [lenr];try omega)) only [↓amPre,↓reduceIte,reduceCtorEq,Nat.reduceEqDiff,Nat.reduceBEq,Nat.reduceAdd,Nat.reduceLeDiff,Nat.reduceSub,Nat.reduceMul,Int.reduceToNat,MM,bu0,cbJ1,cbJ7]
    refine callP_of (hp) ?_
    simp -dsimp -implicitDefEqProofs (disch:=first|omega|(simp only [lenr];try omega)) only [↓amPre,↓reduceIte,reduceCtorEq,Nat.reduceEqDiff,Nat.reduceBEq,Nat.reduceAdd,Nat.reduceLeDiff,Nat.reduceSub,Nat.reduceMul,Int.reduceToNat,MM,bu0,cbJ1,cbJ7]
    refine callP_of (hd) ?_
    by_cases d1:Lib.itoa v=w
    · simp -dsimp -implicitDefEqProofs (disch:=first|omega|(simp only [lenr];try omega)) only [↓amPre,↓reduceIte,reduceCtorEq,Nat.reduceEqDiff,Nat.reduceBEq,Nat.reduceAdd,Nat.reduceLeDiff,Nat.reduceSub,Nat.reduceMul,Int.reduceToNat,MM,bu0,cbJ1,cbJ7,txeq d1]
      refine callP_of (iwithin _ _ _) ?_
      simp -dsimp -implicitDefEqProofs (disch:=first|omega|(simp only [lenr];try omega)) only [↓amPre,↓reduceIte,reduceCtorEq,Nat.reduceEqDiff,Nat.reduceBEq,Nat.reduceAdd,Nat.reduceLeDiff,Nat.reduceSub,Nat.reduceMul,Int.reduceToNat,MM,bu0,cbJ1,cbJ7,txeq d1]
      refine bl_eq ?_
      simp [d1,within]
    · simp -dsimp -implicitDefEqProofs (disch:=first|omega|(simp only [lenr];try omega)) only [↓amPre,↓reduceIte,reduceCtorEq,Nat.reduceEqDiff,Nat.reduceBEq,Nat.reduceAdd,Nat.reduceLeDiff,Nat.reduceSub,Nat.reduceMul,Int.reduceToNat,MM,bu0,cbJ1,cbJ7,txne d1]
      refine bl_eq ?_
      simp [d1]
  · rename_i hv
    rw [hv]
    refine spec_of_awp (M:=MM) (np:=1) (fz:=true) mixed Tryz.func137 rfl rfl (by decide) rfl (Nat.le_refl _) (by decide +kernel) (.inr ⟨rfl,rfl⟩) trivial ?_
    simp -dsimp -implicitDefEqProofs (disch:=first|omega|(simp only [lenr];try omega)) only [↓amPre,↓reduceIte,reduceCtorEq,Nat.reduceEqDiff,Nat.reduceBEq,Nat.reduceAdd,Nat.reduceLeDiff,Nat.reduceSub,Nat.reduceMul,Int.reduceToNat,MM,bu0,cbJ1,cbJ7]
    refine callP_of (hp) ?_
    simp -dsimp -implicitDefEqProofs (disch:=first|omega|(simp only [lenr];try omega)) only [↓amPre,↓reduceIte,reduceCtorEq,Nat.reduceEqDiff,Nat.reduceBEq,Nat.reduceAdd,Nat.reduceLeDiff,Nat.reduceSub,Nat.reduceMul,Int.reduceToNat,MM,bu0,cbJ1,cbJ7]
  · rename_i h1 h2
    have h:Lib.parseIntB 64 w=Lib.NumEnd.syntax:=by
      cases q:Lib.parseIntB 64 w with
      | ok v=>exact absurd q (h1 v)
      | range=>exact absurd q h2
      | _=>rfl
    rw [h]
    refine spec_of_awp (M:=MM) (np:=1) (fz:=true) mixed Tryz.func137 rfl rfl (by decide) rfl (Nat.le_refl _) (by decide +kernel) (.inr ⟨rfl,rfl⟩) trivial ?_
    simp -dsimp -implicitDefEqProofs (disch:=first|omega|(simp only [lenr];try omega)) only [↓amPre,↓reduceIte,reduceCtorEq,Nat.reduceEqDiff,Nat.reduceBEq,Nat.reduceAdd,Nat.reduceLeDiff,Nat.reduceSub,Nat.reduceMul,Int.reduceToNat,MM,bu0,cbJ1,cbJ7]
    refine callP_of (hp) ?_
    simp -dsimp -implicitDefEqProofs (disch:=first|omega|(simp only [lenr];try omega)) only [↓amPre,↓reduceIte,reduceCtorEq,Nat.reduceEqDiff,Nat.reduceBEq,Nat.reduceAdd,Nat.reduceLeDiff,Nat.reduceSub,Nat.reduceMul,Int.reduceToNat,MM,bu0,cbJ1,cbJ7]
def rns (ws:List Tx):List Int×Bool:=if ∀ w∈ws,(rn w).2=true then (ws.map fun w=>(rn w).1,true) else ([],false)
theorem readNumbersI (ws:List Tx) (hl:ws.length≤1048577) (hw:∀ w∈ws,w.length≤1048576):SpecAt Tryz.prog 112 [wsl ws] (.tup [itr (rns ws).1,.bl (rns ws).2]):=by
  refine spec_of_awp (M:=MM) (np:=1) (fz:=false) mixed Tryz.func112 rfl rfl (by decide) rfl (Nat.le_refl _) (by decide +kernel) (.inl rfl) (by first | trivial | simp only [sigsOk_nil,sigsOk_some,sigsOk_none,sig_tr,sig_pt,sig_mt,sig_agg,List.map_cons,List.map_nil,sig1_tr,sig1_pt,sig1_v,and_self,true_and,List.length_map,List.length_set]) ?_
  simp -dsimp -implicitDefEqProofs (disch:=first|omega|(simp only [lenr];try omega)) only [↓amPre,↓reduceIte,reduceCtorEq,Nat.reduceEqDiff,Nat.reduceBEq,Nat.reduceAdd,Nat.reduceLeDiff,Nat.reduceSub,Nat.reduceMul,Int.reduceToNat,MM,bu0,cbJ1,cbJ7]
  refine awp_loopN 4 25 1 (by simp -dsimp -implicitDefEqProofs (disch:=first|omega|(simp only [lenr];try omega)) only [↓amPre,↓reduceIte,reduceCtorEq,Nat.reduceEqDiff,Nat.reduceBEq,Nat.reduceAdd,Nat.reduceLeDiff,Nat.reduceSub,Nat.reduceMul,Int.reduceToNat,MM,bu0,cbJ1,cbJ7]) (by decide) (fun k st=>k≤ws.length∧st.fr 11=.i64 k∧st.fr 9=.sl 1 (ws.map AV.st)∧st.fr 10=.i64 ws.length∧st.fr 4=.ref 25 [] 1 0 k∧st.mem 25=some (itr ((ws.take k).map fun w=>(rn w).1))∧(∀ w∈ws.take k,(rn w).2=true)) (ws.length) ?_ ?_
  · simp -dsimp -implicitDefEqProofs (disch:=first|omega|(simp only [lenr];try omega)) only [↓amPre,↓reduceIte,reduceCtorEq,Nat.reduceEqDiff,Nat.reduceBEq,Nat.reduceAdd,Nat.reduceLeDiff,Nat.reduceSub,Nat.reduceMul,Int.reduceToNat,MM,bu0,cbJ1,cbJ7,nilAs_eq]
    simp
  rintro k st _ ⟨hk,f11,f9,f10,f4,m25,ek⟩
  have hkl:((ws.take k).map fun w=>(rn w).1).length=k:=by rw [List.length_map,List.length_take];omega
  by_cases hlt:k<ws.length
  · have hq:=readNumberI (ws.getD k []) (hw _ (mem_getD ws k [] hlt))
    cases hb:(rn (ws.getD k [])).2 with
    | false =>
      rw [hb] at hq
      have hr:rns ws=([],false):=if_neg fun q=>by
        have:=q _ (mem_getD ws k [] hlt)
        rw [hb] at this;cases this
      rw [hr]
      simp -dsimp -implicitDefEqProofs (disch:=first|omega|(simp only [lenr];try omega)) only [↓amPre,↓reduceIte,reduceCtorEq,Nat.reduceEqDiff,Nat.reduceBEq,Nat.reduceAdd,Nat.reduceLeDiff,Nat.reduceSub,Nat.reduceMul,Int.reduceToNat,MM,bu0,cbJ1,cbJ7,f11,f9,f10,f4,m25]
      refine callP_of (hq) ?_
      simp -dsimp -implicitDefEqProofs (disch:=first|omega|(simp only [lenr];try omega)) only [↓amPre,↓reduceIte,reduceCtorEq,Nat.reduceEqDiff,Nat.reduceBEq,Nat.reduceAdd,Nat.reduceLeDiff,Nat.reduceSub,Nat.reduceMul,Int.reduceToNat,MM,bu0,cbJ1,cbJ7,f11,f9,f10,f4,m25]
    | true =>
      rw [hb] at hq
      have hs:=map_take_succ (fun w=>(rn w).1) ws k [] hlt
      simp -dsimp -implicitDefEqProofs (disch:=first|omega|(simp only [lenr];try omega)) only [↓amPre,↓reduceIte,reduceCtorEq,Nat.reduceEqDiff,Nat.reduceBEq,Nat.reduceAdd,Nat.reduceLeDiff,Nat.reduceSub,Nat.reduceMul,Int.reduceToNat,MM,bu0,cbJ1,cbJ7,f11,f9,f10,f4,m25,hkl]
      refine callP_of (hq) ?_
      simp -dsimp -implicitDefEqProofs (disch:=first|omega|(simp only [lenr];try omega)) only [↓amPre,↓reduceIte,reduceCtorEq,Nat.reduceEqDiff,Nat.reduceBEq,Nat.reduceAdd,Nat.reduceLeDiff,Nat.reduceSub,Nat.reduceMul,Int.reduceToNat,MM,bu0,cbJ1,cbJ7,f11,f9,f10,f4,m25,hkl,isnoc]
      refine ⟨hlt,by omega,by rw [hs],(mem_take_succ (d:=[]) hlt).2 ⟨ek,hb⟩⟩
  · have hke:k=ws.length:=by omega
    subst hke
    rw [List.take_length] at ek hkl
    have hr:rns ws=(ws.map fun w=>(rn w).1,true):=if_pos ek
    rw [hr]
    simp -dsimp -implicitDefEqProofs (disch:=first|omega|(simp only [lenr];try omega)) only [↓amPre,↓reduceIte,reduceCtorEq,Nat.reduceEqDiff,Nat.reduceBEq,Nat.reduceAdd,Nat.reduceLeDiff,Nat.reduceSub,Nat.reduceMul,Int.reduceToNat,MM,bu0,cbJ1,cbJ7,f11,f9,f10,f4,m25,hkl,List.take_length]
theorem nums_rns (ws:List Tx):match numsW ws with
    | some l=>rns ws=(l,true)∧(l.any fun x=>!within x 0 999)=false
    | none=>(rns ws).2=false∨((rns ws).2=true∧((rns ws).1.any fun x=>!within x 0 999)=true):=by
  have hwi:∀ x:Int,within x 0 999=true↔0≤x∧x≤999:=fun x=>by simp [within]
  split
  · rename_i l hl
    have h1:=numsW_some hl
    have hall:∀ w∈ws,(rn w).2=true:=fun w hw=>by
      rw [← h1.2.2] at hw
      obtain ⟨y,hy,rfl⟩:=List.mem_map.1 hw
      obtain ⟨n,rfl⟩:∃ n:Nat,y=n:=⟨y.toNat,by have:=h1.2.1 y hy;unfold inNum at this;omega⟩
      have hb:=h1.2.1 _ hy
      unfold inNum at hb
      have:=(rn_num _ _).1 (num_itoa n (by omega))
      rw [this.1]
    refine ⟨?_,?_⟩
    · unfold rns
      rw [if_pos hall]
      congr 1
      rw [← h1.2.2,List.map_map]
      conv=>rhs;rw [← List.map_id l]
      refine List.map_congr_left fun y hy=>?_
      obtain ⟨n,rfl⟩:∃ n:Nat,y=n:=⟨y.toNat,by have:=h1.2.1 y hy;unfold inNum at this;omega⟩
      have hb:=h1.2.1 _ hy
      unfold inNum at hb
      have:=(rn_num _ _).1 (num_itoa n (by omega))
      show (rn (Lib.itoa (n:Int))).1=_
      rw [this.1];rfl
    · rw [List.any_eq_false]
      intro x hx
      have:=h1.2.1 x hx
      unfold inNum at this
      simp [(hwi x).2 this]
  · rename_i hn
    by_cases hall:∀ w∈ws,(rn w).2=true
    · right
      have e:rns ws=(ws.map fun w=>(rn w).1,true):=if_pos hall
      rw [e]
      refine ⟨rfl,?_⟩
      apply Decidable.byContradiction
      intro hc
      have hc:((ws.map fun w=>(rn w).1).any fun x=>!within x 0 999)=false:=by simpa using hc
      rw [List.any_eq_false] at hc
      have:numsW ws=some (ws.map fun w=>(rn w).1):=numsW_all (by simp) fun i hi=>by
        have hm:=mem_getD ws i [] hi
        have h2:=hc ((rn (ws.getD i [])).1) (List.mem_map.2 ⟨_,hm,rfl⟩)
        have h2:within (rn (ws.getD i [])).1 0 999=true:=by simpa using h2
        have e:(ws.map fun w=>(rn w).1).getD i 0=(rn (ws.getD i [])).1:=by
          rw [getD_eq _ _ _ (by simpa using hi),List.getElem_map,← getD_eq _ _ [] hi]
        rw [e]
        refine (rn_num _ _).2 ⟨?_,(hwi _).1 h2⟩
        rw [← hall _ hm]
      rw [hn] at this;cases this
    · left
      have e:rns ws=([],false):=if_neg hall
      rw [e]
theorem numbersI (L:List Ln) (ws:List Tx) (r:Rd) (ha:r.a≤1048576) (hl:ws.length≤1048576) (hw:∀ w∈ws,w.length≤1048576):SpecX Tryz.prog 69 [rdT L r,wsl ws] [some (rdT L (numbersS ws r).1)] (itr (numbersS ws r).2):=by
  have hq:=readNumbersI ws (by omega) hw
  have hr:=rejI L r ha
  have hN:=nums_rns ws
  have hc:∀ l:List Int,l.length≤1048576→SpecAt Tryz.prog 113 [isl l,.fn 114 []] (.bl (l.any fun x=>!within x 0 999)):=fun l hl=>containsFunc l _ _ _ rfl rfl (fun _=>rfl) (fun x _=>nums1 x) (by omega)
  have hrl:(rns ws).1.length≤ws.length:=by unfold rns;split <;> simp
  cases hs:numsW ws with
  | some l =>
    rw [hs] at hN
    obtain ⟨h1,h2⟩:=hN
    rw [h1] at hq
    have hcl:=hc l (by rw [h1] at hrl;exact Nat.le_trans hrl hl)
    rw [h2] at hcl
    have e:numbersS ws r=(r,l):=by unfold numbersS;rw [hs]
    rw [e]
    refine spec_of_awp (M:=MM) (np:=2) (fz:=false) mixed Tryz.func69 rfl rfl (by decide) rfl (Nat.le_refl _) (by decide +kernel) (.inl rfl) (by first | trivial | simp only [sigsOk_nil,sigsOk_some,sigsOk_none,sig_tr,sig_pt,sig_mt,sig_agg,List.map_cons,List.map_nil,sig1_tr,sig1_pt,sig1_v,and_self,true_and,List.length_map,List.length_set]) ?_
    simp -dsimp -implicitDefEqProofs (disch:=first|omega|(simp only [lenr];try omega)) only [↓amPre,↓reduceIte,reduceCtorEq,Nat.reduceEqDiff,Nat.reduceBEq,Nat.reduceAdd,Nat.reduceLeDiff,Nat.reduceSub,Nat.reduceMul,Int.reduceToNat,MM,bu0,cbJ1,cbJ7]
    refine callP_of (hq) ?_
    simp -dsimp -implicitDefEqProofs (disch:=first|omega|(simp only [lenr];try omega)) only [↓amPre,↓reduceIte,reduceCtorEq,Nat.reduceEqDiff,Nat.reduceBEq,Nat.reduceAdd,Nat.reduceLeDiff,Nat.reduceSub,Nat.reduceMul,Int.reduceToNat,MM,bu0,cbJ1,cbJ7]
    refine callP_of (hcl) ?_
    simp -dsimp -implicitDefEqProofs (disch:=first|omega|(simp only [lenr];try omega)) only [↓amPre,↓reduceIte,reduceCtorEq,Nat.reduceEqDiff,Nat.reduceBEq,Nat.reduceAdd,Nat.reduceLeDiff,Nat.reduceSub,Nat.reduceMul,Int.reduceToNat,MM,bu0,cbJ1,cbJ7]
  | none =>
    rw [hs] at hN
    have e:numbersS ws r=(rej r,List.replicate ws.length 0):=by unfold numbersS;rw [hs]
    rw [e]
    rcases hN with h1 | ⟨h1,h2⟩
    · rw [h1] at hq
      refine spec_of_awp (M:=MM) (np:=2) (fz:=false) mixed Tryz.func69 rfl rfl (by decide) rfl (Nat.le_refl _) (by decide +kernel) (.inl rfl) (by first | trivial | simp only [sigsOk_nil,sigsOk_some,sigsOk_none,sig_tr,sig_pt,sig_mt,sig_agg,List.map_cons,List.map_nil,sig1_tr,sig1_pt,sig1_v,and_self,true_and,List.length_map,List.length_set]) ?_
      simp -dsimp -implicitDefEqProofs (disch:=first|omega|(simp only [lenr];try omega)) only [↓amPre,↓reduceIte,reduceCtorEq,Nat.reduceEqDiff,Nat.reduceBEq,Nat.reduceAdd,Nat.reduceLeDiff,Nat.reduceSub,Nat.reduceMul,Int.reduceToNat,MM,bu0,cbJ1,cbJ7]
      refine callP_of (hq) ?_
      simp -dsimp -implicitDefEqProofs (disch:=first|omega|(simp only [lenr];try omega)) only [↓amPre,↓reduceIte,reduceCtorEq,Nat.reduceEqDiff,Nat.reduceBEq,Nat.reduceAdd,Nat.reduceLeDiff,Nat.reduceSub,Nat.reduceMul,Int.reduceToNat,MM,bu0,cbJ1,cbJ7]
      refine callX_of (hr) ?_
      simp -dsimp -implicitDefEqProofs (disch:=first|omega|(simp only [lenr];try omega)) only [↓amPre,↓reduceIte,reduceCtorEq,Nat.reduceEqDiff,Nat.reduceBEq,Nat.reduceAdd,Nat.reduceLeDiff,Nat.reduceSub,Nat.reduceMul,Int.reduceToNat,MM,bu0,cbJ1,cbJ7]
    · rw [h1] at hq
      have hcl:=hc _ (Nat.le_trans hrl hl)
      rw [h2] at hcl
      refine spec_of_awp (M:=MM) (np:=2) (fz:=false) mixed Tryz.func69 rfl rfl (by decide) rfl (Nat.le_refl _) (by decide +kernel) (.inl rfl) (by first | trivial | simp only [sigsOk_nil,sigsOk_some,sigsOk_none,sig_tr,sig_pt,sig_mt,sig_agg,List.map_cons,List.map_nil,sig1_tr,sig1_pt,sig1_v,and_self,true_and,List.length_map,List.length_set]) ?_
      simp -dsimp -implicitDefEqProofs (disch:=first|omega|(simp only [lenr];try omega)) only [↓amPre,↓reduceIte,reduceCtorEq,Nat.reduceEqDiff,Nat.reduceBEq,Nat.reduceAdd,Nat.reduceLeDiff,Nat.reduceSub,Nat.reduceMul,Int.reduceToNat,MM,bu0,cbJ1,cbJ7]
      refine callP_of (hq) ?_
      simp -dsimp -implicitDefEqProofs (disch:=first|omega|(simp only [lenr];try omega)) only [↓amPre,↓reduceIte,reduceCtorEq,Nat.reduceEqDiff,Nat.reduceBEq,Nat.reduceAdd,Nat.reduceLeDiff,Nat.reduceSub,Nat.reduceMul,Int.reduceToNat,MM,bu0,cbJ1,cbJ7]
      refine callP_of (hcl) ?_
      simp -dsimp -implicitDefEqProofs (disch:=first|omega|(simp only [lenr];try omega)) only [↓amPre,↓reduceIte,reduceCtorEq,Nat.reduceEqDiff,Nat.reduceBEq,Nat.reduceAdd,Nat.reduceLeDiff,Nat.reduceSub,Nat.reduceMul,Int.reduceToNat,MM,bu0,cbJ1,cbJ7]
      refine callX_of (hr) ?_
      simp -dsimp -implicitDefEqProofs (disch:=first|omega|(simp only [lenr];try omega)) only [↓amPre,↓reduceIte,reduceCtorEq,Nat.reduceEqDiff,Nat.reduceBEq,Nat.reduceAdd,Nat.reduceLeDiff,Nat.reduceSub,Nat.reduceMul,Int.reduceToNat,MM,bu0,cbJ1,cbJ7]
end Ps
end Go.AM
set_option maxRecDepth 8000
namespace Go.AM
namespace Ps
open Go.Proofs
theorem wordsS_mem {L:List Ln} (hL:okL L) (f:Tx) (c:Nat) (r:Rd):∀ w∈(wordsS L f c r).2,w.length≤1048576:=by
  have hz:∀ w∈List.replicate c ([]:Tx),w.length≤1048576:=fun w hw=>by rw [(List.mem_replicate.1 hw).2];simp
  unfold wordsS
  split
  · split
    · exact hz
    · rename_i h
      split
      · rename_i ws hw
        intro w hm
        unfold lineW at hw
        split at hw
        · cases hw
          have h1:=spl_mem 32 _ w (List.mem_of_mem_drop hm)
          have h2:=(okL_at hL (show r.a<L.length by omega)).2
          omega
        · cases hw
      · exact hz
  · exact hz
theorem twistsI (L:List Ln) (ks:List Kind) (r:Rd) (hL:okL L) (ha:r.a≤L.length) (hl:ks.length≤1048576) (hkc:∀ k∈ks,0≤k.c∧k.c≤1048575):SpecX Tryz.prog 48 [rdT L r,ksl ks] [some (rdT L (twS L ks r ks.length).1)] (ttr (twS L ks r ks.length).2):=by
  have hll:=hL.1
  refine spec_of_awp (M:=MM) (np:=2) (fz:=false) mixed Tryz.func48 rfl rfl (by decide) rfl (Nat.le_refl _) (by decide +kernel) (.inl rfl) (by first | trivial | simp only [sigsOk_nil,sigsOk_some,sigsOk_none,sig_tr,sig_pt,sig_mt,sig_agg,List.map_cons,List.map_nil,sig1_tr,sig1_pt,sig1_v,and_self,true_and,List.length_map,List.length_set]) ?_
  simp -dsimp -implicitDefEqProofs (disch:=first|omega|(simp only [lenr];try omega)) only [↓amPre,↓reduceIte,reduceCtorEq,Nat.reduceEqDiff,Nat.reduceBEq,Nat.reduceAdd,Nat.reduceLeDiff,Nat.reduceSub,Nat.reduceMul,Int.reduceToNat,MM,bu0,cbJ1,cbJ7]
  refine awp_loopN 5 33 2 (by simp -dsimp -implicitDefEqProofs (disch:=first|omega|(simp only [lenr];try omega)) only [↓amPre,↓reduceIte,reduceCtorEq,Nat.reduceEqDiff,Nat.reduceBEq,Nat.reduceAdd,Nat.reduceLeDiff,Nat.reduceSub,Nat.reduceMul,Int.reduceToNat,MM,bu0,cbJ1,cbJ7]) (by decide) (fun k st=>k≤ks.length∧st.fr 12=.i64 k∧st.fr 11=.i64 ks.length∧st.fr 10=ksl ks∧st.fr 0=.loc 0 [] 0 0∧st.fr 5=.ref 33 [] 2 0 k∧st.mem 33=some (ttr (twS L ks r k).2)∧st.mem 0=some (rdT L (twS L ks r k).1)) (ks.length) ?_ ?_
  · simp -dsimp -implicitDefEqProofs (disch:=first|omega|(simp only [lenr];try omega)) only [↓amPre,↓reduceIte,reduceCtorEq,Nat.reduceEqDiff,Nat.reduceBEq,Nat.reduceAdd,Nat.reduceLeDiff,Nat.reduceSub,Nat.reduceMul,Int.reduceToNat,MM,bu0,cbJ1,cbJ7,nilAs_eq]
    simp [twS]
  rintro k st _ ⟨hk,f12,f11,f10,f0,f5,m33,m0⟩
  have hkl:=twS_len L ks r k
  by_cases hlt:k<ks.length
  · have hak:=twS_a (ks:=ks) ha k
    have hc:(ks.getD k default).c=((cOf ks k:Nat):Int):=by
      have:=(hkc _ (mem_getD ks k default hlt)).1
      unfold cOf;omega
    have hcb:cOf ks k≤1048575:=by
      have:=(hkc _ (mem_getD ks k default hlt)).2
      unfold cOf;omega
    have hst:twS L ks r (k+1)=((lnS L byT (cOf ks k) (lnS L toT (cOf ks k) (twS L ks r k).1).1).1,
      (twS L ks r k).2++[(⟨(lnS L toT (cOf ks k) (twS L ks r k).1).2,(lnS L byT (cOf ks k) (lnS L toT (cOf ks k) (twS L ks r k).1).1).2⟩:Twist)]):=rfl
    rw [hst]
    generalize (twS L ks r k).2=T at *
    generalize (twS L ks r k).1=r1 at *
    have w1:=wordsI L toT (cOf ks k) r1 hL hak (by omega)
    have n1:=numbersI L (wordsS L toT (cOf ks k) r1).2 (wordsS L toT (cOf ks k) r1).1 (by have:=wordsS_a (f:=toT) (c:=cOf ks k) hak;omega) (by rw [wordsS_len];omega) (wordsS_mem hL _ _ _)
    have hq:=lnS_a (f:=toT) (c:=cOf ks k) hak
    have e1:numbersS (wordsS L toT (cOf ks k) r1).2 (wordsS L toT (cOf ks k) r1).1=lnS L toT (cOf ks k) r1:=rfl
    rw [e1] at n1
    generalize lnS L toT (cOf ks k) r1=q at *
    generalize wordsS L toT (cOf ks k) r1=u at *
    have w2:=wordsI L byT (cOf ks k) q.1 hL hq (by omega)
    have n2:=numbersI L (wordsS L byT (cOf ks k) q.1).2 (wordsS L byT (cOf ks k) q.1).1 (by have:=wordsS_a (f:=byT) (c:=cOf ks k) hq;omega) (by rw [wordsS_len];omega) (wordsS_mem hL _ _ _)
    have e2:numbersS (wordsS L byT (cOf ks k) q.1).2 (wordsS L byT (cOf ks k) q.1).1=lnS L byT (cOf ks k) q.1:=rfl
    rw [e2] at n2
    generalize lnS L byT (cOf ks k) q.1=p at *
    generalize wordsS L byT (cOf ks k) q.1=v at *
    simp -dsimp -implicitDefEqProofs (disch:=first|omega|(simp only [lenr];try omega)) only [↓amPre,↓reduceIte,reduceCtorEq,Nat.reduceEqDiff,Nat.reduceBEq,Nat.reduceAdd,Nat.reduceLeDiff,Nat.reduceSub,Nat.reduceMul,Int.reduceToNat,MM,bu0,cbJ1,cbJ7,f12,f11,f10,f0,f5,m33,m0,hc]
    refine callX_of (w1) ?_
    simp -dsimp -implicitDefEqProofs (disch:=first|omega|(simp only [lenr];try omega)) only [↓amPre,↓reduceIte,reduceCtorEq,Nat.reduceEqDiff,Nat.reduceBEq,Nat.reduceAdd,Nat.reduceLeDiff,Nat.reduceSub,Nat.reduceMul,Int.reduceToNat,MM,bu0,cbJ1,cbJ7,f12,f11,f10,f0,f5,m33,m0,hc]
    refine callX_of (n1) ?_
    simp -dsimp -implicitDefEqProofs (disch:=first|omega|(simp only [lenr];try omega)) only [↓amPre,↓reduceIte,reduceCtorEq,Nat.reduceEqDiff,Nat.reduceBEq,Nat.reduceAdd,Nat.reduceLeDiff,Nat.reduceSub,Nat.reduceMul,Int.reduceToNat,MM,bu0,cbJ1,cbJ7,f12,f11,f10,f0,f5,m33,m0,hc]
    refine callX_of (w2) ?_
    simp -dsimp -implicitDefEqProofs (disch:=first|omega|(simp only [lenr];try omega)) only [↓amPre,↓reduceIte,reduceCtorEq,Nat.reduceEqDiff,Nat.reduceBEq,Nat.reduceAdd,Nat.reduceLeDiff,Nat.reduceSub,Nat.reduceMul,Int.reduceToNat,MM,bu0,cbJ1,cbJ7,f12,f11,f10,f0,f5,m33,m0,hc]
    refine callX_of (n2) ?_
    simp -dsimp -implicitDefEqProofs (disch:=first|omega|(simp only [lenr];try omega)) only [↓amPre,↓reduceIte,reduceCtorEq,Nat.reduceEqDiff,Nat.reduceBEq,Nat.reduceAdd,Nat.reduceLeDiff,Nat.reduceSub,Nat.reduceMul,Int.reduceToNat,MM,bu0,cbJ1,cbJ7,f12,f11,f10,f0,f5,m33,m0,hc,hkl]
    exact ⟨hlt,by omega⟩
  · have hke:k=ks.length:=by omega
    subst hke
    simp -dsimp -implicitDefEqProofs (disch:=first|omega|(simp only [lenr];try omega)) only [↓amPre,↓reduceIte,reduceCtorEq,Nat.reduceEqDiff,Nat.reduceBEq,Nat.reduceAdd,Nat.reduceLeDiff,Nat.reduceSub,Nat.reduceMul,Int.reduceToNat,MM,bu0,cbJ1,cbJ7,f12,f11,f10,f0,f5,m33,m0,hkl]
end Ps
end Go.AM
namespace Go.Proofs
open Go.Shelf
def Tryz.collectL_ren:Go.Shelf.Ren:=⟨fun | 8=>101 | 11=>129 | n=>n,fun | 26=>9 | 28=>125 | 24=>78 | 0=>0 | 33=>43 | 4=>4 | n=>n,fun | n=>n⟩
theorem Tryz.collectL:Go.Proofs.SlLaysZ.n8 Tryz.prog Tryz.collectL_ren:={
  mixed:=by kernel_rfl
  f8:=⟨Tryz.f101.name,by decide,Tryz.func101.trans (congrArg some (by kernel_rfl))⟩
  f11:=⟨Tryz.f129.name,by decide,Tryz.func129.trans (congrArg some (by kernel_rfl))⟩
  t0:=Tryz.underlying0
  a0:=Tryz.isAgg0
  z0:=Tryz.sizeOf0
  v0:=Tryz.zeroValue0
  t24:=Tryz.underlying78
  a24:=Tryz.isAgg78
  z24:=Tryz.sizeOf78
  v24:=Tryz.zeroValue78
  t26:=Tryz.underlying9
  a26:=Tryz.isAgg9
  z26:=Tryz.sizeOf9
  v26:=Tryz.zeroValue9
  t28:=Tryz.underlying125
  a28:=Tryz.isAgg125
  z28:=Tryz.sizeOf125
  v28:=Tryz.zeroValue125
  i26:=by kernel_rfl }
end Go.Proofs
namespace Go.Proofs
open Go.RowKit Go.Shelf
open Go.AM.Ps (lnsOf full)
attribute [local go_sem] Oper.semAt_some
/-! strings.Lines collected: the iterator shortens the text that it has captured -/
def Dn.cut (W:World) (n:Nat):World:={ W with heap:=W.heap.extract 0 n }
theorem Dn.cut_size {W:World} {n:Nat} (h:n≤W.heap.size):(Dn.cut W n).heap.size=n:=by
  simp [Dn.cut];omega
theorem Dn.cut_get {W:World} {n k:Nat} (h:k<n):(Dn.cut W n).heap[k]? = W.heap[k]?:=by
  simp [Dn.cut,Array.getElem?_extract,h]
  omega
theorem Dn.cut_below {W:World} {n:Nat} (h:n≤W.heap.size):Below (Dn.cut W n).heap.size (Dn.cut W n) W:=by
  rw [Dn.cut_size h]
  exact ⟨rfl,rfl,rfl,by rw [Dn.cut_size h];exact h,fun b hb=>(Dn.cut_get hb).symm⟩
structure Dn.Inv (w0:World) (n1:Nat) (fn:FuncId) (sv:Value) (q Bs l D:Nat) (rest:List UInt8) (ss:List (List UInt8)) (W:World):Prop where
  qbox:W.heap[q]? = some (.cells #[.string ⟨rest.toArray⟩] 9 (0,0))
  ap:AnyZ.ApAt Tryz.collectL_ren (Dn.cut W n1) fn sv Bs l D ss W
  below:Below w0.heap.size w0 W
  size:n1≤W.heap.size
theorem Dn.yield (F:Fence) (m:Nat) (w0:World) (n1:Nat) (fn:FuncId) (hfn:F.fn fn) (sv:Value) (q Bs l D:Nat) (hq:q<n1) (h01:w0.heap.size≤n1) (hBl:Bs≠l) (hDl:D≠l) (hDB:D≠Bs) (h1B:n1≤Bs) (h1l:n1≤l)
    (N:Nat) (hN:N≤maxLen) (hNb:N*16≤140737488355328) (rest:List UInt8) (ss:List (List UInt8)) (x:List UInt8) (W:World) (h:Dn.Inv w0 n1 fn sv q Bs l D rest ss W) (hlen:ss.length<N) :
    YieldAt F m Tryz.prog l #[encStr x] W fun e W'=>e=.returned (.bool true)∧Dn.Inv w0 n1 fn sv q Bs l D rest (ss++[x]) W':=by
  have hcs:=Dn.cut_size h.size
  refine (AnyZ.apYield { Tryz.collectL with } F m (Dn.cut W n1) fn hfn sv Bs l D hBl hDl hDB (by rw [hcs];exact h1B) (by rw [hcs];exact h1l) N hN hNb ss x W h.ap hlen).mono ?_
  rintro e W' ⟨rfl,hap,_⟩
  have hb:=hap.below
  have hsz:n1≤W'.heap.size:=by have:=hb.size;rw [hcs] at this;exact this
  have hblk:∀ k,k<n1→W'.heap[k]? = W.heap[k]?:=fun k hk=>(hb.block k (by rw [hcs];exact hk)).trans (Dn.cut_get hk)
  refine ⟨rfl,(hblk q hq).trans h.qbox,⟨?_,hap.L,hap.K,Dn.cut_below hsz⟩,?_,hsz⟩
  · obtain ⟨v,h1,h2,h3⟩:=hap.box
    rw [hcs] at h2
    exact ⟨v,h1,by rw [Dn.cut_size hsz];exact h2,h3⟩
  · have:=h.below
    exact ⟨hb.os.trans this.os,hb.tape.trans this.tape,hb.output.trans this.output,by omega,fun k hk=>(hblk k (by omega)).trans (this.block k hk)⟩
theorem Dn.Inv.store {w0:World} {n1:Nat} {fn:FuncId} {sv:Value} {q Bs l D:Nat} {rest:List UInt8} {ss:List (List UInt8)} {W:World} (h:Dn.Inv w0 n1 fn sv q Bs l D rest ss W) (hq:q<n1) (h0q:w0.heap.size≤q) (h1B:n1≤Bs) (h1l:n1≤l) (h1D:n1≤D) (r2:List UInt8) :
    Dn.Inv w0 n1 fn sv q Bs l D r2 ss (W.setCell ⟨q,0,none⟩ (.string ⟨r2.toArray⟩)):=by
  have hg:W.grownBy (W.setCell ⟨q,0,none⟩ (.string ⟨r2.toArray⟩)) (some q):=grownBy_setCell0_a _ _ _
  have hsz:n1≤(W.setCell ⟨q,0,none⟩ (.string ⟨r2.toArray⟩)).heap.size:=Nat.le_trans h.size (Nat.le_of_eq (by simp))
  have hblk:∀ k,k≠q→k<W.heap.size→(W.setCell ⟨q,0,none⟩ (.string ⟨r2.toArray⟩)).heap[k]? = W.heap[k]?:=fun k hk hl=>hg.block k hl (fun e=>hk (by cases e;rfl))
  have hlt:∀ {k:Nat} {o:Obj},W.heap[k]? = some o→k<W.heap.size:=fun hk=>(Array.getElem?_eq_some_iff.1 hk).1
  obtain ⟨v,b1,b2,b3⟩:=h.ap.box
  rw [Dn.cut_size h.size] at b2
  refine ⟨heap_setCell_box_a _ h.qbox,⟨⟨v,(hblk Bs (by omega) (hlt b1)).trans b1,?_,b3⟩,(hblk l (by omega) (hlt h.ap.L)).trans h.ap.L,(hblk D (by omega) (hlt h.ap.K)).trans h.ap.K,Dn.cut_below hsz⟩,?_,hsz⟩
  · rw [Dn.cut_size hsz]
    refine b2.kept hg ?_
    rcases b2.2 with ⟨rfl,_⟩ | ⟨g,cap,cur,rfl,hgn,_⟩
    · exact .inl rfl
    · refine .inr fun e'=>?_
      have:g=q:=by simpa [Value.ownBlock] using e'
      omega
  · exact h.below.grown hg h.below.size (fun k e=>by cases e;exact h0q)
theorem Dn.Inv.drew {w0:World} {n1:Nat} {fn:FuncId} {sv:Value} {q Bs l D:Nat} {rest:List UInt8} {ss:List (List UInt8)} {W:World} (h:Dn.Inv w0 n1 fn sv q Bs l D rest ss W):Dn.Inv w0 n1 fn sv q Bs l D rest ss W.drew :=
  ⟨h.qbox,⟨h.ap.box,h.ap.L,h.ap.K,Dn.cut_below (W:=W.drew) h.size⟩,h.below.drew,h.size⟩
def Dn.left (W:World) (q:Nat):Nat:=match W.cell? ⟨q,0,none⟩ with | some (.string b)=>b.size | _=>0
theorem Dn.box_cell {W:World} {q:Nat} {v:Value} {t:TypeId} (h:W.heap[q]? = some (.cells #[v] t (0,0))):W.cell? ⟨q,0,none⟩=some v∧W.frozen? ⟨q,0,none⟩=false:=cell_of_box_a h
def Dn.lines (s:List UInt8):List (List UInt8):=(lnsOf s).map full
theorem Dn.ib_spec:∀ r:List UInt8,(Lib.indexByte r 10 = -1∧(10:UInt8)∉r)∨∃ i:Nat,Lib.indexByte r 10=i∧∃ a b,r=a++10 :: b∧a.length=i∧(10:UInt8)∉a
  | []=>.inl ⟨rfl,by simp⟩
  | x :: r=>by
    by_cases hx:x=10
    · subst hx
      exact .inr ⟨0,by simp [Lib.indexByte],[],r,rfl,rfl,by simp⟩
    · have hb:(x == 10)=false:=by simpa using hx
      rcases Dn.ib_spec r with ⟨h1,h2⟩ | ⟨i,h1,a,b,h2,h3,h4⟩
      · refine .inl ⟨by simp [Lib.indexByte,hb,h1],?_⟩
        simp only [List.mem_cons,not_or]
        exact ⟨Ne.symm hx,h2⟩
      · refine .inr ⟨i+1,?_,x :: a,b,by rw [h2];rfl,by simp [h3],?_⟩
        · have hn:¬ ((i:Int) == -1)=true:=fun q=>by have:=beq_iff_eq.1 q;omega
          unfold Lib.indexByte
          rw [hb,h1,if_neg (by decide),if_neg hn];omega
        · simp only [List.mem_cons,not_or]
          exact ⟨Ne.symm hx,h4⟩
theorem Dn.lines_one {r:List UInt8} (h:(10:UInt8)∉r) (hr:r≠[]):Dn.lines r=[r]:=by
  unfold Dn.lines
  rw [Go.AM.Ps.lns_one r hr h];rfl
theorem Dn.lines_cut {a b:List UInt8} (h:(10:UInt8)∉a):Dn.lines (a++10 :: b)=(a++[10]) :: Dn.lines b:=by
  unfold Dn.lines
  rw [Go.AM.Ps.lns_cut a b h];rfl
theorem Dn.lines_len (s:List UInt8):(Dn.lines s).length≤s.length:=by
  unfold Dn.lines
  rw [List.length_map];exact Go.AM.Ps.lns_len s
theorem Dn.ext1 (a b:List UInt8):(ByteArray.mk (a++10 :: b).toArray).extract 0 (a.length+1)=⟨(a++[10]).toArray⟩:=by
  rw [Go.AM.stext]
  congr 2
  simp [List.take_append]
  exact List.take_of_length_le (by omega)
theorem Dn.ext2 (a b:List UInt8):(ByteArray.mk (a++10 :: b).toArray).extract (a.length+1) (a++10 :: b).length=⟨b.toArray⟩:=by
  rw [Go.AM.stext]
  congr 2
  simp [List.take_of_length_le,List.drop_append]
theorem Dn.left_of {w0:World} {n1:Nat} {fn:FuncId} {sv:Value} {q Bs l D:Nat} {rest:List UInt8} {ss:List (List UInt8)} {W:World} (h:Dn.Inv w0 n1 fn sv q Bs l D rest ss W):Dn.left W q=rest.length:=by
  unfold Dn.left
  rw [(Dn.box_cell h.qbox).1];rfl
theorem Dn.size_mk (r:List UInt8):(ByteArray.mk r.toArray).size=r.length:=rfl
set_option maxRecDepth 100000 in set_option maxHeartbeats 2000000 in
theorem Dn.lines1_in (n:Nat) (hn:1≤n) (w0:World) (n1:Nat) (fn:FuncId) (sv:Value) (q Bs l D:Nat) (hq:q<n1) (h0q:w0.heap.size≤q) (hBl:Bs≠l) (hDl:D≠l) (hDB:D≠Bs) (h1B:n1≤Bs) (h1l:n1≤l) (h1D:n1≤D)
    (s:List UInt8) (hs:s.length≤1048576) (W:World) (h:Dn.Inv w0 n1 fn sv q Bs l D s [] W) :
    CallsIn Fence.wide n Tryz.prog 130 #[.func (.yield l) #[] #[],.pointer (some ⟨q,0,none⟩)] W fun e W'=>(∃ v,e=.returned v)∧Dn.Inv w0 n1 fn sv q Bs l D [] (Dn.lines s) W':=by
  refine callsIn_of_wp Tryz.func130 rfl trivial ?_ rfl
  simp only [Tryz.ntmps130,List.size_toArray,List.length_cons,List.length_nil,Nat.reduceAdd,Nat.reduceSub,Array.replicate_succ,Array.replicate_zero,List.push_toArray,List.append_toArray,List.nil_append,List.cons_append]
  gi_wp2
  gi_loopw [] (fun wr=>∃ (ss:List (List UInt8)) (r:List UInt8),Dn.Inv w0 n1 fn sv q Bs l D r ss wr∧ss++Dn.lines r=Dn.lines s∧r.length≤s.length) (fun wr=>Dn.left wr q)
  case atStart=>exact ⟨[],s,h,rfl,Nat.le_refl _⟩
  case round =>
    obtain ⟨ss,r,hI,hss,hrl⟩:=hrel
    obtain ⟨hc,hf⟩:=Dn.box_cell hI.qbox
    have hmx:(1048577:Nat)≤maxLen:=by decide
    by_cases hr:r=[]
    · subst hr
      gi_wp2
      go_end0
      refine ⟨⟨_,rfl⟩,?_⟩
      rw [← hss,show Dn.lines []=[] from rfl,List.append_nil];exact hI
    · have hpos:0<r.length:=List.length_pos_iff.2 hr
      have hsz:=Dn.size_mk r
      have hll:=Dn.lines_len s
      have hib:=Any.strings_IndexByte Tryz.indexL ⟨r.toArray⟩ 10 wr
      rcases Dn.ib_spec r with ⟨h1,h2⟩ | ⟨i,h1,a,b,h2,h3,h4⟩
      · have hl1:=Dn.lines_one h2 hr
        have hI2:=hI.store hq h0q h1B h1l h1D []
        have hlen:ss.length<1048577:=by rw [← hss,hl1] at hll;simp at hll;omega
        obtain ⟨fn',tmps,assign,body,hy,hR⟩:=Dn.yield Fence.wide (n - 1) w0 n1 fn trivial sv q Bs l D hq (by omega) hBl hDl hDB h1B h1l 1048577 hmx (by omega) [] ss r _ hI2 hlen
        have hib2:Calls Tryz.prog 131 #[.string ⟨r.toArray⟩,.int .u8 10] wr fun e w'=>e=.returned (.int .i64 (-1))∧w'=wr:=hib.mono fun e w' hh=>⟨by rw [hh.1,← h1];rfl,hh.2⟩
        clear hib
        gi_wp2_with (refine ⟨trivial,?_⟩;gi_at_call 131;refine (callsIn_wide.2 hib2).mono ?_;rintro e w' ⟨rfl,rfl⟩)
        refine hR.mono ?_
        rintro e W3 ⟨rfl,hI3⟩
        gi_wp2
        go_roundw
        case rel=>exact ⟨ss++[r],[],hI3,by rw [← hss,hl1,show Dn.lines []=[] from rfl,List.append_nil],Nat.zero_le _⟩
        case measure=>rw [Dn.left_of hI3,Dn.left_of hI];exact hpos
      · have hl1:Dn.lines r=(a++[10]) :: Dn.lines b:=by rw [h2];exact Dn.lines_cut h4
        have hI2:=(hI.store hq h0q h1B h1l h1D b).drew
        have hlen:ss.length<1048577:=by rw [← hss,hl1] at hll;simp at hll;omega
        obtain ⟨fn',tmps,assign,body,hy,hR⟩:=Dn.yield Fence.wide (n - 1) w0 n1 fn trivial sv q Bs l D hq (by omega) hBl hDl hDB h1B h1l 1048577 hmx (by omega) b ss (a++[10]) _ hI2 hlen
        have hib2:Calls Tryz.prog 131 #[.string ⟨r.toArray⟩,.int .u8 10] wr fun e w'=>e=.returned (.int .i64 (i:Int))∧w'=wr:=hib.mono fun e w' hh=>⟨by rw [hh.1,← h1];rfl,hh.2⟩
        have e1:(ByteArray.mk r.toArray).extract 0 (i+1)=⟨(a++[10]).toArray⟩:=by rw [h2,← h3];exact Dn.ext1 a b
        have e2:(ByteArray.mk r.toArray).extract (i+1) r.length=⟨b.toArray⟩:=by rw [h2,← h3];exact Dn.ext2 a b
        have hb1:i+1≤r.length:=by rw [h2,← h3];simp
        have hb2:b.length<r.length:=by rw [h2];simp;omega
        clear hib h1 h2 h3 h4 hll
        gi_wp2_with (refine ⟨trivial,?_⟩;gi_at_call 131;refine (callsIn_wide.2 hib2).mono ?_;rintro e w' ⟨rfl,rfl⟩)
        have mixed:=Go.AM.mixed
        gi_region
        gi_wp2
        refine hR.mono ?_
        rintro e W3 ⟨rfl,hI3⟩
        gi_wp2
        go_roundw
        case rel=>exact ⟨ss++[a++[10]],b,hI3,by rw [← hss,hl1,List.append_assoc];rfl,by omega⟩
        case measure=>rw [Dn.left_of hI3,Dn.left_of hI];exact hb2
set_option maxRecDepth 100000 in set_option maxHeartbeats 2000000 in
theorem Dn.append_in (n:Nat) (hn:2≤n) (w0:World) (q:Nat) (s:List UInt8) (hs:s.length≤1048576) (w:World) (hq:q<w.heap.size) (h0q:w0.heap.size≤q) (hbox:w.heap[q]? = some (.cells #[.string ⟨s.toArray⟩] 9 (0,0))) (hb:Below w0.heap.size w0 w) :
    CallsIn Fence.wide n Tryz.prog 129 #[.slice none 0 0,.func (.func 130) #[] #[.pointer (some ⟨q,0,none⟩)]] w fun e w'=>∃ v,e=.returned v∧w'.ownsRow w.heap.size 9 1 v (Dn.lines s).length ((Dn.lines s).map encStr)∧Below w0.heap.size w0 w':=by
  have h1:1≤n:=by omega
  refine callsIn_of_wp_marks Tryz.func129 rfl trivial ?_ rfl
  simp only [Tryz.ntmps129,List.size_toArray,List.length_cons,List.length_nil,Nat.reduceAdd,Nat.reduceSub,Array.replicate_succ,Array.replicate_zero,List.push_toArray,List.append_toArray,List.nil_append,List.cons_append]
  gi_wp2
  refine wpIn_rangeFunc ?_
  intro fn hfn
  rw [show Fence.wide.round=none from rfl]
  obtain ⟨sv,hsv⟩:∃ sv:Value,sv=.func (.func 130) #[] #[.pointer (some ⟨q,0,none⟩)]:=⟨_,rfl⟩
  obtain ⟨W0,hW0⟩:∃ W0,w.alloc (.cells #[.slice none 0 0] 78)=W0:=⟨_,rfl⟩
  have hs0:W0.heap.size=w.heap.size+1:=by rw [← hW0];simp
  have hv0:W0.heap[w.heap.size]? = some (.cells #[.slice none 0 0] 78 (0,0)):=by rw [← hW0];exact World.alloc_heap_new w _
  have hb0:Below w0.heap.size w0 W0:=by rw [← hW0];exact hb.alloc hb.size _
  have hq0:W0.heap[q]? = w.heap[q]?:=by rw [← hW0];exact Below.heap_alloc _ _ q hq
  rw [hW0]
  obtain ⟨W1,hW1⟩:∃ W1,(W0.alloc (.deferred (some []))).alloc (.loop (AnyZ.apRec Tryz.collectL_ren fn sv w.heap.size W0.heap.size .ready none))=W1:=⟨_,rfl⟩
  have hold:∀ k,k<W0.heap.size→W1.heap[k]? = W0.heap[k]?:=fun k hk=>by
    rw [← hW1];exact (Below.heap_alloc _ _ k (by simp;omega)).trans (Below.heap_alloc _ _ k hk)
  have hb1:Below w0.heap.size w0 W1:=by rw [← hW1];exact (hb0.alloc hb0.size _).alloc (by have:=hb0.size;simp;omega) _
  have hs1:W1.heap.size=W0.heap.size+2:=by rw [← hW1];simp
  have hM:Dn.Inv w0 w.heap.size fn sv q w.heap.size (W0.heap.size+1) W0.heap.size s [] W1 :=
    ⟨(hold q (by omega)).trans (hq0.trans hbox),
     ⟨⟨_,(hold w.heap.size (by omega)).trans hv0,⟨rfl,.inl ⟨rfl,rfl⟩⟩,by simp⟩,
      by rw [← hW1];have:=World.alloc_heap_new (W0.alloc (.deferred (some []))) (.loop (AnyZ.apRec Tryz.collectL_ren fn sv w.heap.size W0.heap.size .ready none));rwa [World.size_alloc] at this,
      by rw [← hW1];exact (Below.heap_alloc _ _ _ (by simp)).trans (World.alloc_heap_new W0 _),Dn.cut_below (by omega)⟩,hb1,by omega⟩
  have e130:∀ args w,(callFunc 130 args).run Tryz.prog w=.ok (.enter 130 args) w:=enters_of Tryz.func130 (by kernel_rfl) rfl
  refine ⟨W0.heap.size+1,[{ target:=.collected W0.heap.size,args:=#[] }],W1,{ target:=.fn (.func 130) #[.pointer (some ⟨q,0,none⟩)],args:=#[.func (.yield (W0.heap.size+1)) #[] #[]] },W1,130,
    #[.func (.yield (W0.heap.size+1)) #[] #[]] ++ #[.pointer (some ⟨q,0,none⟩)],W1,?_,?_,?_,?_,fun _=>h1,?_⟩
  · rw [← hW1,hsv];exact run_enterLoop_outer _ _ _ _ _
  · simp [resolve,go_sem]
  · intro f' hf';trivial
  · simp [invoke,go_sem,e130]
  · refine (Dn.lines1_in (n - 1) (by omega) w0 w.heap.size fn sv q w.heap.size (W0.heap.size+1) W0.heap.size hq h0q (by omega) (by omega) (by omega) (Nat.le_refl _) (by omega) (by omega) s hs W1 hM).mono ?_
    rintro e W2 ⟨⟨v0,rfl⟩,h2⟩
    obtain ⟨v,hv,hrow,hnil⟩:=h2.ap.box
    rw [Dn.cut_size h2.size] at hrow
    have hend:=run_endLoop (P:=Tryz.prog) h2.ap.L (by simp [AnyZ.apRec])
    obtain ⟨W3,hW3⟩:∃ W3,W2.putObj (W0.heap.size+1) (.loop { AnyZ.apRec Tryz.collectL_ren fn sv w.heap.size W0.heap.size .ready none with state:=.exhausted })=W3:=⟨_,rfl⟩
    rw [hW3] at hend
    have hg3:W2.grownBy W3 (some (W0.heap.size+1)):=by rw [← hW3];exact grownBy_putObj_a _ _ _
    have hv3:W3.heap[w.heap.size]? = some (.cells #[v] 78 (0,0)):=by rw [← hW3];exact (World.putObj_heap_other (by omega)).trans hv
    have hK3:W3.heap[W0.heap.size]? = some (.deferred (some [])):=by rw [← hW3];exact (World.putObj_heap_other (by omega)).trans h2.ap.K
    have hrow3:=hrow.kept hg3 (ownsRow_ne_a hrow h2.ap.L (fun cur e=>by cases e))
    have hb3:Below w0.heap.size w0 W3:=h2.below.grown hg3 h2.below.size (fun k e=>by cases e;have:=hb.size;omega)
    obtain ⟨hc3,hf3⟩:=cell_of_box_a hv3
    clear hW3
    refine ⟨none,W3,hend,?_⟩
    gi_wp2
    rw [← hs0]
    refine ⟨by simp,.inl ⟨_,_,rfl,run_takeDeferred hK3,?_⟩⟩
    exact ⟨_,results_tmp rfl _ _ _,v,rfl,hrow3.kept (grownBy_putObj_a _ _ _) (ownsRow_ne_a hrow3 hK3 (fun cur e=>by cases e)),hb3.grown (grownBy_putObj_a _ _ _) hb3.size (fun k e=>by cases e;have:=hb.size;omega)⟩
set_option maxHeartbeats 1000000 in
theorem Dn.collect_in (n:Nat) (hn:3≤n) (w0:World) (q:Nat) (s:List UInt8) (hs:s.length≤1048576) (w:World) (hq:q<w.heap.size) (h0q:w0.heap.size≤q) (hbox:w.heap[q]? = some (.cells #[.string ⟨s.toArray⟩] 9 (0,0))) (hb:Below w0.heap.size w0 w) :
    CallsIn Fence.wide n Tryz.prog 101 #[.func (.func 130) #[] #[.pointer (some ⟨q,0,none⟩)]] w fun e w'=>∃ v,e=.returned v∧w'.ownsRow w.heap.size 9 1 v (Dn.lines s).length ((Dn.lines s).map encStr)∧Below w0.heap.size w0 w':=by
  have h1:1≤n:=by omega
  refine callsIn_of_wp Tryz.func101 rfl trivial ?_ rfl
  simp only [Tryz.ntmps101,List.size_toArray,List.length_cons,List.length_nil,Nat.reduceAdd,Nat.reduceSub,Array.replicate_succ,Array.replicate_zero,List.push_toArray,List.append_toArray,List.nil_append,List.cons_append]
  gi_wp2_with (refine ⟨trivial,?_⟩;gi_at_call 129;refine (Dn.append_in (n - 1) (by omega) w0 q s hs _ hq h0q hbox hb).mono ?_;rintro e w' ⟨v,rfl,hrow,hbl⟩)
  go_ret
  exact ⟨v,rfl,hrow,hbl⟩
set_option maxHeartbeats 1000000 in
theorem Dn.mk_in (n:Nat) (s:List UInt8) (w:World) :
    CallsIn Fence.wide n Tryz.prog 102 #[.string ⟨s.toArray⟩] w fun e w'=>e=.returned (.func (.func 130) #[] #[.pointer (some ⟨w.heap.size,0,none⟩)])∧w'=w.alloc (.cells #[.string ⟨s.toArray⟩] 9):=by
  refine callsIn_of_wp Tryz.func102 rfl trivial ?_ rfl
  simp only [Tryz.ntmps102,List.size_toArray,List.length_cons,List.length_nil,Nat.reduceAdd,Nat.reduceSub,Array.replicate_succ,Array.replicate_zero,List.push_toArray,List.append_toArray,List.nil_append,List.cons_append]
  gi_wp2
  go_ret
  exact ⟨rfl,rfl⟩
theorem Dn.row_slice {W:World} {base:Nat} {e:TypeId} {size:Nat} {v:Value} {k:Nat} {xs:List Value} (h:W.ownsRow base e size v k xs):∃ a n c,v=.slice a n c:=by
  rcases h.2 with ⟨rfl,_⟩ | ⟨g,cap,cur,rfl,_⟩ <;> exact ⟨_,_,_,rfl⟩
set_option maxHeartbeats 1000000 in
theorem Dn.new_in (n:Nat) (hn:4≤n) (s:List UInt8) (hs:s.length≤1048576) (w:World) :
    CallsIn Fence.wide n Tryz.prog 47 #[.string ⟨s.toArray⟩] w fun e w'=>∃ B v,e=.returned (.pointer (some ⟨B,0,none⟩))∧w.heap.size≤B∧w'.heap[B]? = some (.cells #[v,.int .i64 0,.int .i64 (if 2000<s.length then -2 else -1)] 80 (0,0))∧v.oneCell'=true∧v.ownBlock≠some B∧w'.ownsRow w.heap.size 9 1 v (Dn.lines s).length ((Dn.lines s).map encStr)∧Below w.heap.size w w':=by
  have h1:1≤n:=by omega
  refine callsIn_of_wp Tryz.func47 rfl trivial ?_ rfl
  simp only [Tryz.ntmps47,List.size_toArray,List.length_cons,List.length_nil,Nat.reduceAdd,Nat.reduceSub,Array.replicate_succ,Array.replicate_zero,List.push_toArray,List.append_toArray,List.nil_append,List.cons_append]
  have hsz:=Dn.size_mk s
  gi_wp2_with (first
    | (refine ⟨trivial,?_⟩;gi_at_call 102;refine (Dn.mk_in (n - 1) s w).mono ?_;rintro e w1 ⟨rfl,hw1⟩;have hb1:Below w.heap.size w w1:=by rw [hw1];exact (Below.refl _ w).alloc (Nat.le_refl _) _
       have hq1:w1.heap[w.heap.size]? = some (.cells #[.string ⟨s.toArray⟩] 9 (0,0)):=by rw [hw1];exact World.alloc_heap_new w _
       have hs1:w.heap.size<w1.heap.size:=by rw [hw1];simp
       clear hw1)
    | (refine ⟨trivial,?_⟩;gi_at_call 101;refine (Dn.collect_in (n - 1) (by omega) w w.heap.size s hs w1 hs1 (Nat.le_refl _) hq1 hb1).mono ?_;rintro e w2 ⟨v,rfl,hrow,hb2⟩;obtain ⟨va,vn,vc,rfl⟩:=Dn.row_slice hrow))
  all_goals go_ret
  all_goals
    refine ⟨w2.heap.size,rfl,hb2.size,.slice va vn vc,World.alloc_heap_new w2 _,rfl,?_,?_,hb2.alloc hb2.size _⟩
    · intro e
      have:=(hrow.lt _ e).2
      omega
    · exact ownsRow_base_a (hrow.alloc _) (Nat.le_of_lt hs1)
end Go.Proofs
namespace Go.AM
namespace Ps
open Go.Proofs
open Go.Shelf
theorem newI (s:Tx) (hs:s.length≤1048576):SpecAt Tryz.prog 47 [.st s] (rdT (lnsOf s) ⟨0,if 2000<s.length then -2 else -1⟩):=by
  have e:rdT (lnsOf s) ⟨0,if 2000<s.length then -2 else -1⟩=rdr ((Dn.lines s).map encStr) (.int .i64 0) (.int .i64 (if 2000<s.length then -2 else -1)):=by
    unfold rdT rdr Dn.lines
    rw [List.map_map,List.map_map];rfl
  rw [e]
  refine spec_rdr (f:=47) ⟨_,_,Tryz.func47,rfl,by decide⟩ _ rfl _ (fun x hx=>?_) _ _ rfl rfl 9 80 fun I w vals hI hvs hr=>?_
  · obtain ⟨l,_,rfl⟩:=List.mem_map.1 hx;rfl
  obtain ⟨v0,rfl⟩:∃ v0,vals = #[v0]:=by
    match vals,hvs with
    | ⟨[a]⟩,_=>exact ⟨a,rfl⟩
  obtain rfl:=arg_st (hr 0 (by simp) (by simp))
  refine (callsIn_wide.1 (Dn.new_in 4 (Nat.le_refl _) s hs w)).mono ?_
  rintro e w' ⟨B,v,rfl,h1,h2,h3,h4,h5,h6⟩
  exact ⟨B,v,rfl,h1,h2,h3,h4,by rw [List.length_map];exact h5,h6⟩
end Ps
end Go.AM
set_option maxRecDepth 8000
namespace Go.AM
namespace Ps
open Go.Proofs
theorem okL_lns {s:Tx} (hs:s.length≤1048576):okL (lnsOf s):=⟨by have:=lns_len s;omega,fun l hl=>⟨lns_no s l hl,by have:=(lns_mem s l hl).1;omega⟩⟩
def pzT (n:Nat) (X:Except Int (Tx×List (List Int))):Except Int Puzz:=match X with
  | .error e=>.error e
  | .ok (nm,mv)=>if puzzOk ⟨n,nm,mv⟩ then .ok ⟨n,nm,mv⟩ else .error (-4)
end Ps
end Go.AM
set_option maxRecDepth 8000
namespace Go.AM
namespace Ps
open Go.Proofs
def mdEnd (ks:List Kind) (X:Except Int (Tx×List (List Twist))):Except Int Model:=match X with
  | .error e=>.error e
  | .ok (nm,mv)=>if modelOk ⟨ks,nm,mv⟩ then .ok ⟨ks,nm,mv⟩ else .error (-4)
theorem twS_small {L:List Ln} {ks:List Kind} {r:Rd} (h:ks.length≤4) (hk:∀ k∈ks,inNum k.c∧inNum k.o):smallT (twS L ks r ks.length).2:=by
  refine ⟨by rw [twS_len];omega,fun t ht=>?_⟩
  obtain ⟨i,hi,rfl⟩:=List.getElem_of_mem ht
  have hi':i<ks.length:=by rw [twS_len] at hi;exact hi
  have:=twS_num L ks r ks.length i hi'
  rw [getD_eq _ _ _ hi] at this
  have hc:cOf ks i≤999:=by
    have:=(hk _ (mem_getD ks i default hi')).1
    unfold cOf;unfold inNum at this;omega
  unfold numT at this
  omega
end Ps
end Go.AM
set_option maxRecDepth 8000
namespace Go.AM
namespace Ps
open Go.Proofs
theorem parseStateI (ks:List Kind) (s:Tx) (hs:s.length≤1048576) (hkl:ks.length≤1099511627776):SpecAt Tryz.prog 12 [ksl ks,.st s] (.tup [ttr (pst ks s).1,.i64 (pst ks s).2]):=by
  have hK:=iAreValidKinds ks hkl
  by_cases c1:kindsOk ks
  case neg =>
    rw [decide_eq_false c1] at hK
    have hres:pst ks s=([],-4):=by unfold pst pstE;rw [if_neg c1];rfl
    rw [hres]
    refine spec_of_awp_any (M:=MM) (np:=2) (X:=[6]) (fz:=false) mixed Tryz.func12 rfl rfl (by decide) rfl (Nat.le_refl _) (by decide +kernel) (.inl rfl) (by first | trivial | simp only [sigsOk_nil,sigsOk_some,sigsOk_none,sig_tr,sig_pt,sig_mt,sig_agg,List.map_cons,List.map_nil,sig1_tr,sig1_pt,sig1_v,and_self,true_and,List.length_map,List.length_set]) ?_
    simp -dsimp -implicitDefEqProofs (disch:=first|omega|(simp only [lenr];try omega)) only [↓amPre,↓reduceIte,reduceCtorEq,Nat.reduceEqDiff,Nat.reduceBEq,Nat.reduceAdd,Nat.reduceLeDiff,Nat.reduceSub,Nat.reduceMul,Int.reduceToNat,MM,bu0,cbJ1,cbJ7]
    refine callP_of (hK) ?_
    simp -dsimp -implicitDefEqProofs (disch:=first|omega|(simp only [lenr];try omega)) only [↓amPre,↓reduceIte,reduceCtorEq,Nat.reduceEqDiff,Nat.reduceBEq,Nat.reduceAdd,Nat.reduceLeDiff,Nat.reduceSub,Nat.reduceMul,Int.reduceToNat,MM,bu0,cbJ1,cbJ7]
  rw [decide_eq_true c1] at hK
  obtain ⟨L,hLe⟩:∃ L,L=lnsOf s:=⟨_,rfl⟩
  obtain ⟨t0,ht0⟩:∃ t0:Int,t0=if 2000<s.length then -2 else -1:=⟨_,rfl⟩
  have hL:okL L:=by rw [hLe];exact okL_lns hs
  have hll:=hL.1
  have hnew:=newI s hs
  rw [← hLe,← ht0] at hnew
  obtain ⟨RS,hRS⟩:∃ RS,RS=pstE ks s:=⟨_,rfl⟩
  have hres:pst ks s=outP [] RS:=by rw [hRS];rfl
  have hkn:=c1.1
  have hkb:∀ k∈ks,1≤k.c∧k.c≤20:=fun k hk=>by have:=kindsOk_kind c1 hk;omega
  have hkc:∀ k∈ks,0≤k.c∧k.c≤1048575:=fun k hk=>by have:=hkb k hk;omega
  have hki:∀ k∈ks,inNum k.c∧inNum k.o:=fun k hk=>by have:=kindsOk_kind c1 hk;unfold inNum;omega
  have htw:=twistsI L ks ⟨0,t0⟩ hL (Nat.zero_le _) (by omega) hkc
  have hxl:=twS_len L ks ⟨0,t0⟩ ks.length
  have hxs:=twS_small (L:=L) (r:=⟨0,t0⟩) (show ks.length≤4 by omega) hki
  have hxa:=twS_a (L:=L) (ks:=ks) (r:=⟨0,t0⟩) (Nat.zero_le _) ks.length
  have hmid:((twS L ks ⟨0,t0⟩ ks.length).1.t = -1→(twS L ks ⟨0,t0⟩ ks.length).1.a=2*ks.length∧RS=(if 2*ks.length<L.length then .error (2*ks.length:Nat) else if psOk ks (twS L ks ⟨0,t0⟩ ks.length).2 then .ok (twS L ks ⟨0,t0⟩ ks.length).2 else .error (-4)))∧((twS L ks ⟨0,t0⟩ ks.length).1.t≠-1→RS=.error (twS L ks ⟨0,t0⟩ ks.length).1.t):=by
    by_cases c0:2000<s.length
    · rw [if_pos c0] at ht0
      subst ht0
      rw [twS_bad (r:=⟨0,-2⟩) (by decide)]
      refine ⟨fun h=>absurd (show (-2:Int) = -1 from h) (by decide),fun _=>?_⟩
      rw [hRS];unfold pstE;rw [if_pos c1,if_pos c0]
    · rw [if_neg c0] at ht0
      subst ht0
      have hR2:RS=stR ks L:=by rw [hRS];unfold pstE;rw [if_pos c1,if_neg c0,← hLe]
      rw [hR2]
      have hg:=twS_good L ks 0
      unfold stR
      cases hk:twR L ks 0 with
      | error e =>
        rw [hk] at hg
        obtain ⟨h1,h2⟩:=hg
        rw [h1]
        exact ⟨fun q=>absurd q h2,fun _=>rfl⟩
      | ok x =>
        rw [hk] at hg
        rw [hg]
        exact ⟨fun _=>⟨by show 0+2*ks.length=_;omega,rfl⟩,fun q=>absurd rfl q⟩
  generalize twS L ks ⟨0,t0⟩ ks.length=v at *
  obtain ⟨r,x⟩:=v
  replace hxl:x.length=ks.length:=hxl
  replace hxa:r.a≤L.length:=hxa
  replace hmid:(r.t = -1→r.a=2*ks.length∧RS=(if 2*ks.length<L.length then .error (2*ks.length:Nat) else if psOk ks x then .ok x else .error (-4)))∧(r.t≠-1→RS=.error r.t):=hmid
  replace hxs:smallT x:=hxs
  have hmo:=moreI L r hll
  have hP:=iIsPieceState ks x hkl hxs.1 hxs.2
  by_cases d:r.t = -1
  case neg =>
    have hres2:pst ks s=([],r.t):=by rw [hres,hmid.2 d];rfl
    have hmf:moreS L r=false:=by simp [moreS,d]
    rw [hmf] at hmo
    have hF:=finI L r (decide (psOk ks x))
    rw [if_neg (fun q=>d q.1)] at hF
    rw [hres2]
    refine spec_of_awp_any (M:=MM) (np:=2) (X:=[6]) (fz:=false) mixed Tryz.func12 rfl rfl (by decide) rfl (Nat.le_refl _) (by decide +kernel) (.inl rfl) (by first | trivial | simp only [sigsOk_nil,sigsOk_some,sigsOk_none,sig_tr,sig_pt,sig_mt,sig_agg,List.map_cons,List.map_nil,sig1_tr,sig1_pt,sig1_v,and_self,true_and,List.length_map,List.length_set]) ?_
    simp -dsimp -implicitDefEqProofs (disch:=first|omega|(simp only [lenr];try omega)) only [↓amPre,↓reduceIte,reduceCtorEq,Nat.reduceEqDiff,Nat.reduceBEq,Nat.reduceAdd,Nat.reduceLeDiff,Nat.reduceSub,Nat.reduceMul,Int.reduceToNat,MM,bu0,cbJ1,cbJ7]
    refine callP_of (hK) ?_
    simp -dsimp -implicitDefEqProofs (disch:=first|omega|(simp only [lenr];try omega)) only [↓amPre,↓reduceIte,reduceCtorEq,Nat.reduceEqDiff,Nat.reduceBEq,Nat.reduceAdd,Nat.reduceLeDiff,Nat.reduceSub,Nat.reduceMul,Int.reduceToNat,MM,bu0,cbJ1,cbJ7]
    refine callP_of (hnew) ?_
    simp -dsimp -implicitDefEqProofs (disch:=first|omega|(simp only [lenr];try omega)) only [↓amPre,↓reduceIte,reduceCtorEq,Nat.reduceEqDiff,Nat.reduceBEq,Nat.reduceAdd,Nat.reduceLeDiff,Nat.reduceSub,Nat.reduceMul,Int.reduceToNat,MM,bu0,cbJ1,cbJ7]
    refine callX_of (htw) ?_
    simp -dsimp -implicitDefEqProofs (disch:=first|omega|(simp only [lenr];try omega)) only [↓amPre,↓reduceIte,reduceCtorEq,Nat.reduceEqDiff,Nat.reduceBEq,Nat.reduceAdd,Nat.reduceLeDiff,Nat.reduceSub,Nat.reduceMul,Int.reduceToNat,MM,bu0,cbJ1,cbJ7]
    refine callP_of (hmo) ?_
    simp -dsimp -implicitDefEqProofs (disch:=first|omega|(simp only [lenr];try omega)) only [↓amPre,↓reduceIte,reduceCtorEq,Nat.reduceEqDiff,Nat.reduceBEq,Nat.reduceAdd,Nat.reduceLeDiff,Nat.reduceSub,Nat.reduceMul,Int.reduceToNat,MM,bu0,cbJ1,cbJ7,tfz]
    refine callP_of (hP) ?_
    simp -dsimp -implicitDefEqProofs (disch:=first|omega|(simp only [lenr];try omega)) only [↓amPre,↓reduceIte,reduceCtorEq,Nat.reduceEqDiff,Nat.reduceBEq,Nat.reduceAdd,Nat.reduceLeDiff,Nat.reduceSub,Nat.reduceMul,Int.reduceToNat,MM,bu0,cbJ1,cbJ7]
    refine callP_of (hF) ?_
    simp -dsimp -implicitDefEqProofs (disch:=first|omega|(simp only [lenr];try omega)) only [↓amPre,↓reduceIte,reduceCtorEq,Nat.reduceEqDiff,Nat.reduceBEq,Nat.reduceAdd,Nat.reduceLeDiff,Nat.reduceSub,Nat.reduceMul,Int.reduceToNat,MM,bu0,cbJ1,cbJ7,ne_true d]
  obtain ⟨g1,g2⟩:=hmid.1 d
  by_cases e:2*ks.length<L.length
  · have hres2:pst ks s=([],(r.a:Int)):=by rw [hres,g2,if_pos e,g1];rfl
    have hmt:moreS L r=true:=by simp [moreS,d,g1,e]
    rw [hmt] at hmo
    rw [hres2]
    refine spec_of_awp_any (M:=MM) (np:=2) (X:=[6]) (fz:=false) mixed Tryz.func12 rfl rfl (by decide) rfl (Nat.le_refl _) (by decide +kernel) (.inl rfl) (by first | trivial | simp only [sigsOk_nil,sigsOk_some,sigsOk_none,sig_tr,sig_pt,sig_mt,sig_agg,List.map_cons,List.map_nil,sig1_tr,sig1_pt,sig1_v,and_self,true_and,List.length_map,List.length_set]) ?_
    simp -dsimp -implicitDefEqProofs (disch:=first|omega|(simp only [lenr];try omega)) only [↓amPre,↓reduceIte,reduceCtorEq,Nat.reduceEqDiff,Nat.reduceBEq,Nat.reduceAdd,Nat.reduceLeDiff,Nat.reduceSub,Nat.reduceMul,Int.reduceToNat,MM,bu0,cbJ1,cbJ7]
    refine callP_of (hK) ?_
    simp -dsimp -implicitDefEqProofs (disch:=first|omega|(simp only [lenr];try omega)) only [↓amPre,↓reduceIte,reduceCtorEq,Nat.reduceEqDiff,Nat.reduceBEq,Nat.reduceAdd,Nat.reduceLeDiff,Nat.reduceSub,Nat.reduceMul,Int.reduceToNat,MM,bu0,cbJ1,cbJ7]
    refine callP_of (hnew) ?_
    simp -dsimp -implicitDefEqProofs (disch:=first|omega|(simp only [lenr];try omega)) only [↓amPre,↓reduceIte,reduceCtorEq,Nat.reduceEqDiff,Nat.reduceBEq,Nat.reduceAdd,Nat.reduceLeDiff,Nat.reduceSub,Nat.reduceMul,Int.reduceToNat,MM,bu0,cbJ1,cbJ7]
    refine callX_of (htw) ?_
    simp -dsimp -implicitDefEqProofs (disch:=first|omega|(simp only [lenr];try omega)) only [↓amPre,↓reduceIte,reduceCtorEq,Nat.reduceEqDiff,Nat.reduceBEq,Nat.reduceAdd,Nat.reduceLeDiff,Nat.reduceSub,Nat.reduceMul,Int.reduceToNat,MM,bu0,cbJ1,cbJ7]
    refine callP_of (hmo) ?_
    simp -dsimp -implicitDefEqProofs (disch:=first|omega|(simp only [lenr];try omega)) only [↓amPre,↓reduceIte,reduceCtorEq,Nat.reduceEqDiff,Nat.reduceBEq,Nat.reduceAdd,Nat.reduceLeDiff,Nat.reduceSub,Nat.reduceMul,Int.reduceToNat,MM,bu0,cbJ1,cbJ7]
    refine split_go 5 (by decide +kernel) ?_
    simp -dsimp -implicitDefEqProofs (disch:=first|omega|(simp only [lenr];try omega)) only [↓amPre,↓reduceIte,reduceCtorEq,Nat.reduceEqDiff,Nat.reduceBEq,Nat.reduceAdd,Nat.reduceLeDiff,Nat.reduceSub,Nat.reduceMul,Int.reduceToNat,MM,bu0,cbJ1,cbJ7]
  have hmf:moreS L r=false:=by simp [moreS,d,g1,e]
  rw [hmf] at hmo
  by_cases c9:psOk ks x
  · have hres2:pst ks s=(x,-1):=by rw [hres,g2,if_neg e,if_pos c9];rfl
    rw [decide_eq_true c9] at hP
    have hF:=finI L r true
    rw [d,if_neg (by decide)] at hF
    rw [hres2]
    refine spec_of_awp_any (M:=MM) (np:=2) (X:=[6]) (fz:=false) mixed Tryz.func12 rfl rfl (by decide) rfl (Nat.le_refl _) (by decide +kernel) (.inl rfl) (by first | trivial | simp only [sigsOk_nil,sigsOk_some,sigsOk_none,sig_tr,sig_pt,sig_mt,sig_agg,List.map_cons,List.map_nil,sig1_tr,sig1_pt,sig1_v,and_self,true_and,List.length_map,List.length_set]) ?_
    simp -dsimp -implicitDefEqProofs (disch:=first|omega|(simp only [lenr];try omega)) only [↓amPre,↓reduceIte,reduceCtorEq,Nat.reduceEqDiff,Nat.reduceBEq,Nat.reduceAdd,Nat.reduceLeDiff,Nat.reduceSub,Nat.reduceMul,Int.reduceToNat,MM,bu0,cbJ1,cbJ7]
    refine callP_of (hK) ?_
    simp -dsimp -implicitDefEqProofs (disch:=first|omega|(simp only [lenr];try omega)) only [↓amPre,↓reduceIte,reduceCtorEq,Nat.reduceEqDiff,Nat.reduceBEq,Nat.reduceAdd,Nat.reduceLeDiff,Nat.reduceSub,Nat.reduceMul,Int.reduceToNat,MM,bu0,cbJ1,cbJ7]
    refine callP_of (hnew) ?_
    simp -dsimp -implicitDefEqProofs (disch:=first|omega|(simp only [lenr];try omega)) only [↓amPre,↓reduceIte,reduceCtorEq,Nat.reduceEqDiff,Nat.reduceBEq,Nat.reduceAdd,Nat.reduceLeDiff,Nat.reduceSub,Nat.reduceMul,Int.reduceToNat,MM,bu0,cbJ1,cbJ7]
    refine callX_of (htw) ?_
    simp -dsimp -implicitDefEqProofs (disch:=first|omega|(simp only [lenr];try omega)) only [↓amPre,↓reduceIte,reduceCtorEq,Nat.reduceEqDiff,Nat.reduceBEq,Nat.reduceAdd,Nat.reduceLeDiff,Nat.reduceSub,Nat.reduceMul,Int.reduceToNat,MM,bu0,cbJ1,cbJ7,hxl]
    refine callP_of (hmo) ?_
    simp -dsimp -implicitDefEqProofs (disch:=first|omega|(simp only [lenr];try omega)) only [↓amPre,↓reduceIte,reduceCtorEq,Nat.reduceEqDiff,Nat.reduceBEq,Nat.reduceAdd,Nat.reduceLeDiff,Nat.reduceSub,Nat.reduceMul,Int.reduceToNat,MM,bu0,cbJ1,cbJ7,tfz,hxl]
    refine callP_of (hP) ?_
    simp -dsimp -implicitDefEqProofs (disch:=first|omega|(simp only [lenr];try omega)) only [↓amPre,↓reduceIte,reduceCtorEq,Nat.reduceEqDiff,Nat.reduceBEq,Nat.reduceAdd,Nat.reduceLeDiff,Nat.reduceSub,Nat.reduceMul,Int.reduceToNat,MM,bu0,cbJ1,cbJ7,hxl]
    refine callP_of (hF) ?_
    simp -dsimp -implicitDefEqProofs (disch:=first|omega|(simp only [lenr];try omega)) only [↓amPre,↓reduceIte,reduceCtorEq,Nat.reduceEqDiff,Nat.reduceBEq,Nat.reduceAdd,Nat.reduceLeDiff,Nat.reduceSub,Nat.reduceMul,Int.reduceToNat,MM,bu0,cbJ1,cbJ7,hxl]
  · have hres2:pst ks s=([],-4):=by rw [hres,g2,if_neg e,if_neg c9];rfl
    rw [decide_eq_false c9] at hP
    have hF:=finI L r false
    rw [d,if_pos (by decide)] at hF
    rw [hres2]
    refine spec_of_awp_any (M:=MM) (np:=2) (X:=[6]) (fz:=false) mixed Tryz.func12 rfl rfl (by decide) rfl (Nat.le_refl _) (by decide +kernel) (.inl rfl) (by first | trivial | simp only [sigsOk_nil,sigsOk_some,sigsOk_none,sig_tr,sig_pt,sig_mt,sig_agg,List.map_cons,List.map_nil,sig1_tr,sig1_pt,sig1_v,and_self,true_and,List.length_map,List.length_set]) ?_
    simp -dsimp -implicitDefEqProofs (disch:=first|omega|(simp only [lenr];try omega)) only [↓amPre,↓reduceIte,reduceCtorEq,Nat.reduceEqDiff,Nat.reduceBEq,Nat.reduceAdd,Nat.reduceLeDiff,Nat.reduceSub,Nat.reduceMul,Int.reduceToNat,MM,bu0,cbJ1,cbJ7]
    refine callP_of (hK) ?_
    simp -dsimp -implicitDefEqProofs (disch:=first|omega|(simp only [lenr];try omega)) only [↓amPre,↓reduceIte,reduceCtorEq,Nat.reduceEqDiff,Nat.reduceBEq,Nat.reduceAdd,Nat.reduceLeDiff,Nat.reduceSub,Nat.reduceMul,Int.reduceToNat,MM,bu0,cbJ1,cbJ7]
    refine callP_of (hnew) ?_
    simp -dsimp -implicitDefEqProofs (disch:=first|omega|(simp only [lenr];try omega)) only [↓amPre,↓reduceIte,reduceCtorEq,Nat.reduceEqDiff,Nat.reduceBEq,Nat.reduceAdd,Nat.reduceLeDiff,Nat.reduceSub,Nat.reduceMul,Int.reduceToNat,MM,bu0,cbJ1,cbJ7]
    refine callX_of (htw) ?_
    simp -dsimp -implicitDefEqProofs (disch:=first|omega|(simp only [lenr];try omega)) only [↓amPre,↓reduceIte,reduceCtorEq,Nat.reduceEqDiff,Nat.reduceBEq,Nat.reduceAdd,Nat.reduceLeDiff,Nat.reduceSub,Nat.reduceMul,Int.reduceToNat,MM,bu0,cbJ1,cbJ7]
    refine callP_of (hmo) ?_
    simp -dsimp -implicitDefEqProofs (disch:=first|omega|(simp only [lenr];try omega)) only [↓amPre,↓reduceIte,reduceCtorEq,Nat.reduceEqDiff,Nat.reduceBEq,Nat.reduceAdd,Nat.reduceLeDiff,Nat.reduceSub,Nat.reduceMul,Int.reduceToNat,MM,bu0,cbJ1,cbJ7,tfz]
    refine callP_of (hP) ?_
    simp -dsimp -implicitDefEqProofs (disch:=first|omega|(simp only [lenr];try omega)) only [↓amPre,↓reduceIte,reduceCtorEq,Nat.reduceEqDiff,Nat.reduceBEq,Nat.reduceAdd,Nat.reduceLeDiff,Nat.reduceSub,Nat.reduceMul,Int.reduceToNat,MM,bu0,cbJ1,cbJ7]
    refine callP_of (hF) ?_
    simp -dsimp -implicitDefEqProofs (disch:=first|omega|(simp only [lenr];try omega)) only [↓amPre,↓reduceIte,reduceCtorEq,Nat.reduceEqDiff,Nat.reduceBEq,Nat.reduceAdd,Nat.reduceLeDiff,Nat.reduceSub,Nat.reduceMul,Int.reduceToNat,MM,bu0,cbJ1,cbJ7]
end Ps
end Go.AM
set_option maxRecDepth 8000
namespace Go.AM
namespace Door
open Go.Proofs
def lineT (nm:List UInt8) (k:Nat) (m:List Int):List UInt8:=[109,111,118,101,32]++(nm.take (k+1)).drop k++[32]++jn m++[10]
def puzK (p:Puzz):Nat→List UInt8
  | 0=>[112,111,105,110,116,115,32]++Lib.itoa p.n++[10]
  | k+1=>puzK p k++lineT p.nm k (p.mv.getD k default)
def puzT (p:Puzz):List UInt8:=if puzzOk p then puzK p p.mv.length else []
end Door
end Go.AM
set_option maxRecDepth 8000
namespace Go.AM
namespace Door
open Go.Proofs
def twT (t:Twist):List UInt8:=[116,111,32]++jn t.to++[10,98,121,32]++jn t.by'++[10]
def twK (s:List Twist):Nat→List UInt8
  | 0=>[]
  | k+1=>twK s k++twT (s.getD k default)
def nums (l:List Int):Prop:=l.length≤20∧(∀ x∈l,intOk x)∧∀ x∈l,0≤x
def okT (s:List Twist):Prop:=∀ k,k<s.length→nums (s.getD k default).to∧nums (s.getD k default).by'
theorem ps_okT {ks:List Kind} {s:List Twist} (h:psOk ks s):okT s∧s.length≤3:=by
  refine ⟨fun k hk=>?_,by have:=h.1.1;have:=h.2.1;omega⟩
  have hk':k<ks.length:=by have:=h.2.1;omega
  obtain ⟨h1,h2,h3,h4⟩:=h.2.2 k hk'
  have hko:=h.1.2.1 _ (show ks.getD k default∈ks by rw [getD_eq _ _ _ hk'];exact List.getElem_mem hk')
  obtain ⟨hc,ho⟩:=hko
  refine ⟨⟨by omega,fun x hx=>?_,fun x hx=>?_⟩,by omega,fun x hx=>?_,fun x hx=>?_⟩
  · have:=h3.2.1 x hx;unfold intOk;omega
  · have:=h3.2.1 x hx;omega
  · have:=h4 x hx;unfold intOk;omega
  · have:=h4 x hx;omega
theorem twT_len {t:Twist} (h1:nums t.to) (h2:nums t.by'):(twT t).length≤888:=by
  have a:=jn_len _ h1.2.1
  have b:=jn_len _ h2.2.1
  have:=h1.1
  have:=h2.1
  simp only [twT,List.length_append,List.length_cons,List.length_nil]
  omega
theorem twK_len {s:List Twist} (h:okT s):∀ k,k≤s.length→(twK s k).length≤888*k
  | 0,_=>by simp [twK]
  | k+1,hk=>by
    have h1:=twK_len h k (by omega)
    have h2:=h k (by omega)
    have h3:=twT_len h2.1 h2.2
    simp only [twK,List.length_append]
    omega
theorem twistsText (s:List Twist) (h:okT s) (hl:s.length≤3):SpecAt Tryz.prog 43 [tsl s] (.st (twK s s.length)):=by
  refine spec_of_awp (M:=MM) (np:=1) (fz:=true) mixed Tryz.func43 rfl rfl (by decide) rfl (Nat.le_refl _) (by decide +kernel) (.inr ⟨rfl,rfl⟩) trivial ?_
  simp -dsimp -implicitDefEqProofs (disch:=first|omega|(simp only [lenr];try omega)) only [↓amPre,↓reduceIte,reduceCtorEq,Nat.reduceEqDiff,Nat.reduceBEq,Nat.reduceAdd,Nat.reduceLeDiff,Nat.reduceSub,Nat.reduceMul,Int.reduceToNat,MM,bu0,cbJ1]
  refine awp_loop (fun k st=>k≤s.length∧st.fr 8=.i64 k∧st.fr 6=tsl s∧st.fr 7=.i64 s.length∧st.fr 3=.st (twK s k)) (s.length) ?_ ?_
  · simp -dsimp -implicitDefEqProofs (disch:=first|omega|(simp only [lenr];try omega)) only [↓amPre,↓reduceIte,reduceCtorEq,Nat.reduceEqDiff,Nat.reduceBEq,Nat.reduceAdd,Nat.reduceLeDiff,Nat.reduceSub,Nat.reduceMul,Int.reduceToNat,MM,bu0,cbJ1]
    exact ⟨by omega,rfl,rfl⟩
  rintro k st _ ⟨hk,f8,f6,f7,f3⟩
  have hkl:=twK_len h k (by omega)
  by_cases hlt:k<s.length
  · have hk:=h k hlt
    have l1:=jn_len _ hk.1.2.1
    have l2:=jn_len _ hk.2.2.1
    have q1:=hk.1.1
    have q2:=hk.2.1
    simp -dsimp -implicitDefEqProofs (disch:=first|omega|(simp only [lenr];try omega)) only [↓amPre,↓reduceIte,reduceCtorEq,Nat.reduceEqDiff,Nat.reduceBEq,Nat.reduceAdd,Nat.reduceLeDiff,Nat.reduceSub,Nat.reduceMul,Int.reduceToNat,MM,bu0,cbJ1,f8,f6,f7,f3]
    refine callP_of (joinNumbers _ (by omega) hk.1.2.1) ?_
    simp -dsimp -implicitDefEqProofs (disch:=first|omega|(simp only [lenr];try omega)) only [↓amPre,↓reduceIte,reduceCtorEq,Nat.reduceEqDiff,Nat.reduceBEq,Nat.reduceAdd,Nat.reduceLeDiff,Nat.reduceSub,Nat.reduceMul,Int.reduceToNat,MM,bu0,cbJ1,f8,f6,f7,f3]
    refine callP_of (joinNumbers _ (by omega) hk.2.2.1) ?_
    simp -dsimp -implicitDefEqProofs (disch:=first|omega|(simp only [lenr];try omega)) only [↓amPre,↓reduceIte,reduceCtorEq,Nat.reduceEqDiff,Nat.reduceBEq,Nat.reduceAdd,Nat.reduceLeDiff,Nat.reduceSub,Nat.reduceMul,Int.reduceToNat,MM,bu0,cbJ1,f8,f6,f7,f3]
    refine ⟨hlt,by omega,?_⟩
    simp [twK,twT,List.append_assoc]
  · have hk:k=s.length:=by omega
    subst hk
    simp -dsimp -implicitDefEqProofs (disch:=first|omega|(simp only [lenr];try omega)) only [↓amPre,↓reduceIte,reduceCtorEq,Nat.reduceEqDiff,Nat.reduceBEq,Nat.reduceAdd,Nat.reduceLeDiff,Nat.reduceSub,Nat.reduceMul,Int.reduceToNat,MM,bu0,cbJ1,f8,f6,f7,f3]
def psT (ks:List Kind) (s:List Twist):List UInt8:=if psOk ks s then twK s s.length else []
theorem iFormatPS (ks:List Kind) (s:List Twist) (h1:ks.length≤1099511627776) (h2:s.length≤1099511627776) (h3:∀ t∈s,t.to.length≤1099511627776∧t.by'.length≤1099511627776):SpecAt Tryz.prog 10 [ksl ks,tsl s] (.st (psT ks s)):=by
  refine spec_of_awp (M:=MM) (np:=2) (fz:=true) mixed Tryz.func10 rfl rfl (by decide) rfl (Nat.le_refl _) (by decide +kernel) (.inr ⟨rfl,rfl⟩) trivial ?_
  simp -dsimp -implicitDefEqProofs (disch:=first|omega|(simp only [lenr];try omega)) only [↓amPre,↓reduceIte,reduceCtorEq,Nat.reduceEqDiff,Nat.reduceBEq,Nat.reduceAdd,Nat.reduceLeDiff,Nat.reduceSub,Nat.reduceMul,Int.reduceToNat,MM,bu0,cbJ1]
  refine callP_of (iIsPieceState ks s h1 h2 h3) ?_
  by_cases c:psOk ks s
  · have hT:=ps_okT c
    simp -dsimp -implicitDefEqProofs (disch:=first|omega|(simp only [lenr];try omega)) only [↓amPre,↓reduceIte,reduceCtorEq,Nat.reduceEqDiff,Nat.reduceBEq,Nat.reduceAdd,Nat.reduceLeDiff,Nat.reduceSub,Nat.reduceMul,Int.reduceToNat,MM,bu0,cbJ1,c]
    refine callP_of (twistsText s hT.1 hT.2) ?_
    simp -dsimp -implicitDefEqProofs (disch:=first|omega|(simp only [lenr];try omega)) only [↓amPre,↓reduceIte,reduceCtorEq,Nat.reduceEqDiff,Nat.reduceBEq,Nat.reduceAdd,Nat.reduceLeDiff,Nat.reduceSub,Nat.reduceMul,Int.reduceToNat,MM,bu0,cbJ1,c,psT]
  · simp -dsimp -implicitDefEqProofs (disch:=first|omega|(simp only [lenr];try omega)) only [↓amPre,↓reduceIte,reduceCtorEq,Nat.reduceEqDiff,Nat.reduceBEq,Nat.reduceAdd,Nat.reduceLeDiff,Nat.reduceSub,Nat.reduceMul,Int.reduceToNat,MM,bu0,cbJ1,c,psT]
end Door
end Go.AM
set_option maxRecDepth 8000
namespace Go.AM
namespace Door
open Go.Proofs
def knT (k:Kind):List UInt8:=[107,105,110,100,32]++Lib.itoa k.c++[32]++Lib.itoa k.o++[10]
def knK (ks:List Kind):Nat→List UInt8
  | 0=>[]
  | k+1=>knK ks k++knT (ks.getD k default)
def mdK (m:Model):Nat→List UInt8
  | 0=>knK m.ks m.ks.length
  | k+1=>mdK m k++([109,111,118,101,32]++(m.nm.take (k+1)).drop k++[10]++twK (m.mv.getD k default) (m.mv.getD k default).length)
def mdT (m:Model):List UInt8:=if modelOk m then mdK m m.mv.length else []
end Door
end Go.AM
namespace Go.AM
namespace Ps
open Door (jn lineT puzK puzT twT twK psT knT knK mdK mdT)
/-! there and back,plainly -/
theorem lns_join:∀ s:Tx,(lnsOf s).flatMap full=s
  | []=>rfl
  | x :: r=>by
    have ih:=lns_join r
    rw [lnsOf]
    split
    · rename_i h
      rw [List.flatMap_cons,ih,h];rfl
    · cases hr:lnsOf r with
      | nil =>
        rw [hr] at ih
        have ih:[]=r:=ih
        subst ih;rfl
      | cons z l =>
        obtain ⟨t,e⟩:=z
        rw [hr,List.flatMap_cons] at ih
        rw [List.flatMap_cons,← ih]
        cases e <;> rfl
theorem join_two (a:Tx) {l:List Tx} (sep:Tx) (h:l≠[]):Lib.join (a :: l) sep=a++sep++Lib.join l sep:=by
  cases l with
  | nil=>exact absurd rfl h
  | cons w r =>
    rw [Lib.join_cons,Lib.join_cons]
    simp [Lib.joinTail,List.append_assoc]
theorem join_pre (a:Tx) {l:List Tx} (sep:Tx) (h:l≠[]):Lib.join (pre a l) sep=a++Lib.join l sep:=by
  cases l with
  | nil=>exact absurd rfl h
  | cons w r=>rw [pre,Lib.join_cons,Lib.join_cons,List.append_assoc]
theorem spl_join (c:UInt8):∀ s:Tx,Lib.join (spl c s) [c]=s
  | []=>Lib.join_one _ _
  | x :: r=>by
    have ih:=spl_join c r
    by_cases hx:x=c
    · subst hx
      rw [spl,if_pos rfl,join_two _ _ (spl_ne x r),ih];rfl
    · rw [spl_cons_ne hx,join_pre _ _ (spl_ne c r),ih];rfl
theorem spl_app (c:UInt8):∀ (a b:Tx),c∉a→spl c (a++b)=pre a (spl c b)
  | [],b,_=>(pre_nil (spl_ne c b)).symm
  | x :: r,b,h=>by
    have ih:=spl_app c r b (fun q=>h (List.mem_cons_of_mem _ q))
    rw [List.cons_append,spl_cons_ne (fun q=>h (by simp [q])),ih,pre_pre _ _ (spl_ne c b)];rfl
theorem spl_of (c:UInt8):∀ (ws:List Tx),ws≠[]→(∀ w∈ws,c∉w)→spl c (Lib.join ws [c])=ws
  | [],h,_=>absurd rfl h
  | [w],_,h=>by
    rw [Lib.join_one]
    have:=spl_app c w [] (h w (by simp))
    rw [List.append_nil] at this
    rw [this];simp [spl,pre]
  | w :: u :: r,_,h=>by
    have ih:=spl_of c (u :: r) (by simp) (fun x hx=>h x (List.mem_cons_of_mem _ hx))
    rw [join_two _ _ (by simp),List.append_assoc,spl_app c w _ (h w (by simp)),List.singleton_append,spl,if_pos rfl,ih,pre,List.append_nil]
theorem itoa_no:∀ v:Nat,v<1000→(32:UInt8)∉Lib.itoa (v:Int)∧(10:UInt8)∉Lib.itoa (v:Int):=by decide +kernel
theorem itoa_lt:∀ v:Nat,v<100→(Lib.itoa (v:Int)).length≤2:=by decide +kernel
theorem in_no {x:Int} (h:inNum x):(32:UInt8)∉Lib.itoa x∧(10:UInt8)∉Lib.itoa x:=by
  unfold inNum at h
  obtain ⟨n,rfl⟩:∃ n:Nat,x=n:=⟨x.toNat,by omega⟩
  exact itoa_no n (by omega)
theorem in_num {x:Int} (h:inNum x):num (Lib.itoa x)=some x:=by
  unfold inNum at h
  obtain ⟨n,rfl⟩:∃ n:Nat,x=n:=⟨x.toNat,by omega⟩
  exact num_itoa n (by omega)
theorem nums_of:∀ {x:List Int},(∀ y∈x,inNum y)→numsW (x.map Lib.itoa)=some x
  | [],_=>rfl
  | v :: r,h=>by
    have ih:=nums_of (x:=r) fun y hy=>h y (List.mem_cons_of_mem _ hy)
    rw [List.map_cons,numsW,in_num (h v (by simp)),ih]
theorem lineW_full {l:Ln} {f:Tx} {c:Nat} {ws:List Tx} (h:lineW l f c=some ws):full l=Lib.join (f :: ws) [32]++[10]:=by
  unfold lineW at h
  split at h
  · rename_i q
    cases h
    have e:f :: (spl 32 l.1).drop 1=spl 32 l.1:=by
      rw [← q.2.1]
      cases hs:spl 32 l.1 with
      | nil=>exact absurd hs (spl_ne _ _)
      | cons a r=>rfl
    rw [e,spl_join]
    unfold full
    rw [if_pos q.1]
  · cases h
theorem lineW_of {f:Tx} {ws:List Tx} (h:∀ w∈f :: ws,(32:UInt8)∉w):lineW (Lib.join (f :: ws) [32],true) f ws.length=some ws:=by
  unfold lineW
  have e:=spl_of 32 (f :: ws) (by simp) h
  dsimp only
  rw [e,if_pos ⟨rfl,rfl,rfl⟩];rfl
theorem lineI_full {l:Ln} {f:Tx} {c:Nat} {x:List Int} (h:lineI l f c=some x) (hc:1≤c):full l=f++[32]++jn x++[10]:=by
  unfold lineI at h
  split at h
  · rename_i ws hw
    have h1:=lineW_len hw
    have h2:=numsW_some h
    rw [lineW_full hw,join_two _ _ (by intro q;rw [q] at h1;simp at h1;omega),← h2.2.2];rfl
  · cases h
def lnI (f:Tx) (x:List Int):Ln:=(f++[32]++jn x,true)
theorem lineI_of {f:Tx} {x:List Int} (hf:(32:UInt8)∉f) (hx:x≠[]) (h:∀ y∈x,inNum y):lineI (lnI f x) f x.length=some x:=by
  have e:f++[32]++jn x=Lib.join (f :: x.map Lib.itoa) [32]:=by rw [join_two _ _ (by simpa using hx)];rfl
  have hw:lineW (lnI f x) f x.length=some (x.map Lib.itoa):=by
    unfold lnI
    rw [e]
    have:=lineW_of (f:=f) (ws:=x.map Lib.itoa) fun w hw=>by
      rcases List.mem_cons.1 hw with rfl | hw
      · exact hf
      · obtain ⟨y,hy,rfl⟩:=List.mem_map.1 hw
        exact (in_no (h y hy)).1
    rw [List.length_map] at this
    exact this
  unfold lineI
  rw [hw];exact nums_of h
/-! a puzzle that was read -/
def txtP (n:Int) (nm:Tx) (mv:List (List Int)):Tx:=puzK ⟨n,nm,mv⟩ mv.length
theorem puzK_app (n:Int) (nm w:Tx) (mv mw:List (List Int)) (h:nm.length=mv.length):∀ k,k≤mv.length→puzK ⟨n,nm++w,mv++mw⟩ k=puzK ⟨n,nm,mv⟩ k
  | 0,_=>rfl
  | k+1,hk=>by
    have ih:=puzK_app n nm w mv mw h k (by omega)
    rw [puzK,puzK,ih]
    congr 1
    have e1:(nm++w).take (k+1)=nm.take (k+1):=List.take_append_of_le_length (by omega)
    have e2:(mv++mw).getD k default=mv.getD k default:=by
      rw [List.getD_eq_getElem?_getD,List.getElem?_append_left (by omega),← List.getD_eq_getElem?_getD]
    show lineT (nm++w) k ((mv++mw).getD k default)=lineT nm k (mv.getD k default)
    rw [e2];unfold lineT;rw [e1]
theorem lineM_full {l:Ln} {n:Nat} {w:Tx} {x:List Int} (h:lineM l n=some (w,x)) (hn:1≤n):isLet w∧x.length=n∧(∀ y∈x,inNum y)∧full l=moveT++[32]++w++[32]++jn x++[10]:=by
  unfold lineM at h
  split at h
  · rename_i u us hu
    split at h
    · rename_i hlet
      split at h
      · rename_i y hy
        cases h
        have h1:=lineW_len hu
        have h2:=numsW_some hy
        have hl:us.length=n:=by have:=h1.1;simp only [List.length_cons] at this;omega
        have hne:us≠[]:=by intro q;rw [q] at hl;simp at hl;omega
        refine ⟨hlet,by omega,h2.2.1,?_⟩
        rw [lineW_full hu,join_two _ _ (by simp),join_two _ _ hne,← h2.2.2]
        show _=moveT++[32]++w++[32]++Lib.join (x.map Lib.itoa) [32]++[10]
        simp only [List.append_assoc]
      · cases h
    · cases h
  · cases h
theorem txtP_snoc (n:Int) (nm w:Tx) (mv:List (List Int)) (x:List Int) (h:nm.length=mv.length) (hw:w.length=1):txtP n (nm++w) (mv++[x])=txtP n nm mv++(moveT++[32]++w++[32]++jn x++[10]):=by
  unfold txtP
  rw [List.length_append,List.length_singleton,puzK,puzK_app n nm w mv [x] h _ (Nat.le_refl _)]
  congr 1
  have e2:(mv++[x]).getD mv.length default=x:=by
    rw [List.getD_eq_getElem?_getD,List.getElem?_append_right (Nat.le_refl _),Nat.sub_self];rfl
  show lineT (nm++w) mv.length ((mv++[x]).getD mv.length default)=_
  rw [e2]
  unfold lineT
  rw [show (nm++w).take (mv.length+1)=nm++w from List.take_of_length_le (by rw [List.length_append];omega),← h,List.drop_left]
  rfl
theorem take_flat (L:List Ln) (a:Nat) (h:a<L.length):(L.take (a+1)).flatMap full=(L.take a).flatMap full++full (lat L a):=by
  rw [take_succ_eq L a default h,List.flatMap_append]
  simp [lat]
theorem pzL_txt (L:List Ln) (n:Nat) (hn:1≤n):∀ f a nm mv nm' mv',pzL L n f a nm mv=.ok (nm',mv')→nm.length=mv.length→(L.take a).flatMap full=txtP n nm mv→L.flatMap full=txtP n nm' mv'∧nm'.length=mv'.length
  | 0,a,nm,mv,nm',mv',h,_,_=>by cases h
  | f+1,a,nm,mv,nm',mv',h,hl,ht=>by
    rw [pzL] at h
    split at h
    · rename_i q
      split at h
      · cases h
      · cases h
        rw [List.take_of_length_le q] at ht
        exact ⟨ht,hl⟩
    · rename_i q
      split at h
      · cases h
      · rename_i w x hx
        obtain ⟨h1,h2,h3,h4⟩:=lineM_full hx hn
        exact pzL_txt L n hn f (a+1) _ _ nm' mv' h (by simp [h1.1,hl]) (by rw [take_flat L a (by omega),ht,h4,txtP_snoc _ _ _ _ _ hl h1.1])
theorem pzH_ok {L:List Ln} {n:Nat} (h:pzH L=.ok n):1≤n∧n≤20∧0<L.length∧lineI (lat L 0) pointsT 1=some [(n:Int)]:=by
  unfold pzH at h
  split at h
  · cases h
  · rename_i l hl
    obtain ⟨h1,h2⟩:=ln_ok hl
    have h3:=lineI_some h2
    split at h
    · rename_i q
      cases h
      obtain ⟨x,rfl⟩:∃ x,l=[x]:=by
        match l,h3.1 with
        | [x],_=>exact ⟨x,rfl⟩
      have q:1≤x∧x≤20:=q
      have e:([x]:List Int).getD 0 0=x:=rfl
      rw [e]
      refine ⟨by omega,by omega,h1,?_⟩
      rw [show ((x.toNat:Nat):Int)=x by omega];exact h2
    · cases h
theorem puz_back {s:Tx} {p:Puzz} (h:ppzE s=.ok p):puzT p=s:=by
  unfold ppzE at h
  split at h
  · cases h
  · unfold pzR at h
    split at h
    · cases h
    · rename_i n hn
      obtain ⟨n1,n2,hpos,h0⟩:=pzH_ok hn
      split at h
      · cases h
      · rename_i nm mv hL
        split at h
        · rename_i hok
          cases h
          have e0:((lnsOf s).take 1).flatMap full=txtP n [] []:=by
            have:=take_flat (lnsOf s) 0 hpos
            rw [Nat.zero_add] at this
            rw [this,lineI_full h0 (Nat.le_refl _)]
            show []++_=_
            simp [txtP,puzK,pointsT,jn,Lib.join_one]
          have:=(pzL_txt (lnsOf s) n n1 _ _ _ _ _ _ hL rfl e0).1
          rw [lns_join] at this
          rw [puzT,if_pos hok]
          exact this.symm
        · cases h
end Ps
end Go.AM
namespace Go.AM
namespace Ps
open Door (jn lineT puzK puzT twT twK psT knT knK mdK mdT)
/-! models and states,there and back -/
theorem jn_one (x:Int):jn [x]=Lib.itoa x:=Lib.join_one _ _
theorem jn_two (x y:Int):jn [x,y]=Lib.itoa x++[32]++Lib.itoa y:=by
  show Lib.join [Lib.itoa x,Lib.itoa y] [32]=_
  rw [join_two _ _ (by simp),Lib.join_one]
theorem kline_full {l:Ln} {k:Kind} (h:kline l=some k):full l=knT k:=by
  unfold kline at h
  split at h
  · rename_i x hx
    cases h
    have h1:=(lineI_some hx).1
    rw [lineI_full hx (by decide)]
    obtain ⟨a,b,rfl⟩:∃ a b,x=[a,b]:=by
      match x,h1 with
      | [a,b],_=>exact ⟨a,b,rfl⟩
    rw [jn_two]
    show kindT++[32]++_++[10]=[107,105,110,100,32]++Lib.itoa a++[32]++Lib.itoa b++[10]
    simp [kindT,List.append_assoc]
  · cases h
theorem kinds_txt (L:List Ln):∀ k,k≤(kpre L).length→(L.take k).flatMap full=knK (kpre L) k
  | 0,_=>rfl
  | k+1,h=>by
    have ih:=kinds_txt L k (by omega)
    have hl:=kpre_le L
    rw [take_flat L k (by omega),ih,knK,kline_full (kpre_get L k (by omega))]
theorem twists_txt {L:List Ln} {ks:List Kind} {a:Nat} (hk:kindsOk ks):∀ k,2*k≤(hls L ks a).length→(L.take (a+2*k)).flatMap full=(L.take a).flatMap full++twK (pr (hls L ks a)) k
  | 0,_=>by simp [twK]
  | k+1,h=>by
    have ih:=twists_txt hk (L:=L) (a:=a) k (by omega)
    have g1:=hls_get L ks a (2*k) (by omega)
    have g2:=hls_get L ks a (2*k+1) (by omega)
    have hle:=hls_le L ks a
    unfold hl at g1 g2
    rw [if_pos (by omega),show 2*k / 2=k by omega] at g1
    rw [if_neg (by omega),show (2*k+1) / 2=k by omega] at g2
    obtain ⟨b1,i1⟩:=ln_ok g1
    obtain ⟨b2,i2⟩:=ln_ok g2
    have hc:1≤cOf ks k:=by
      have:=kindsOk_kind hk (mem_getD ks k default (by omega))
      unfold cOf;omega
    rw [show a+2*(k+1)=a+(2*k+1)+1 by omega,take_flat L _ b2,show a+(2*k+1)=a+2*k+1 by omega,take_flat L _ b1,ih,twK,pr_get _ k (by omega)]
    rw [lineI_full i1 hc,show lat L (a+2*k+1)=lat L (a+(2*k+1)) by rw [Nat.add_assoc],lineI_full i2 hc]
    simp [twT,toT,byT,List.append_assoc]
theorem lineN_full {l:Ln} {w:Tx} (h:lineN l=some w):isLet w∧full l=moveT++[32]++w++[10]:=by
  unfold lineN at h
  split at h
  · rename_i u us hu
    have h1:=(lineW_len hu).1
    split at h
    · rename_i hl
      cases h
      have:us=[]:=by
        cases us with
        | nil=>rfl
        | cons a r=>simp at h1
      subst this
      refine ⟨hl,?_⟩
      rw [lineW_full hu,join_two _ _ (by simp),Lib.join_one]
    · cases h
  · cases h
def txtM (ks:List Kind) (nm:Tx) (mv:List (List Twist)):Tx:=mdK ⟨ks,nm,mv⟩ mv.length
theorem mdK_app (ks:List Kind) (nm w:Tx) (mv mw:List (List Twist)) (h:nm.length=mv.length):∀ k,k≤mv.length→mdK ⟨ks,nm++w,mv++mw⟩ k=mdK ⟨ks,nm,mv⟩ k
  | 0,_=>rfl
  | k+1,hk=>by
    have ih:=mdK_app ks nm w mv mw h k (by omega)
    rw [mdK,mdK,ih]
    have e1:(nm++w).take (k+1)=nm.take (k+1):=List.take_append_of_le_length (by omega)
    have e2:(mv++mw).getD k default=mv.getD k default:=by
      rw [List.getD_eq_getElem?_getD,List.getElem?_append_left (by omega),← List.getD_eq_getElem?_getD]
    dsimp only
    rw [e1,e2]
theorem txtM_snoc (ks:List Kind) (nm w:Tx) (mv:List (List Twist)) (t:List Twist) (h:nm.length=mv.length) (hw:w.length=1):txtM ks (nm++w) (mv++[t])=txtM ks nm mv++(moveT++[32]++w++[10]++twK t t.length):=by
  unfold txtM
  rw [List.length_append,List.length_singleton,mdK,mdK_app ks nm w mv [t] h _ (Nat.le_refl _)]
  have e2:(mv++[t]).getD mv.length default=t:=by
    rw [List.getD_eq_getElem?_getD,List.getElem?_append_right (Nat.le_refl _),Nat.sub_self];rfl
  dsimp only
  rw [e2,show (nm++w).take (mv.length+1)=nm++w from List.take_of_length_le (by rw [List.length_append];omega),← h,List.drop_left]
  rfl
theorem mdL_txt (L:List Ln) (ks:List Kind) (hk:kindsOk ks):∀ f a nm mv nm' mv',mdL L ks f a nm mv=.ok (nm',mv')→nm.length=mv.length→(L.take a).flatMap full=txtM ks nm mv→L.flatMap full=txtM ks nm' mv'
  | 0,a,nm,mv,nm',mv',h,_,_=>by cases h
  | f+1,a,nm,mv,nm',mv',h,hl,ht=>by
    rw [mdL] at h
    split at h
    · rename_i q
      split at h
      · cases h
      · cases h
        rw [List.take_of_length_le q] at ht
        exact ht
    · rename_i q
      split at h
      · cases h
      · rename_i w hw
        obtain ⟨h1,h2⟩:=lineN_full hw
        split at h
        · cases h
        · rename_i t htw
          have hn1:=hk.1.1
          have hsum:(hls L ks (a+1)).length=2*ks.length∧t=pr (hls L ks (a+1)):=by
            unfold twR at htw
            split at htw
            · rename_i q2;cases htw;exact ⟨q2,rfl⟩
            · split at htw <;> cases htw
          have htt:=twists_txt hk (L:=L) (a:=a+1) ks.length (by omega)
          have hpl:=pr_len ks.length (hls L ks (a+1)) hsum.1
          refine mdL_txt L ks hk f (a+1+2*ks.length) _ _ nm' mv' h (by simp [h1.1,hl]) ?_
          rw [htt,take_flat L a (by omega),ht,h2,txtM_snoc _ _ _ _ _ hl h1.1,hsum.2,hpl]
          simp [List.append_assoc]
theorem mod_back {s:Tx} {m:Model} (h:pmdE s=.ok m):mdT m=s:=by
  unfold pmdE at h
  split at h
  · cases h
  · unfold mdR at h
    split at h
    · cases h
    · split at h
      · cases h
      · rename_i ks hk
        obtain ⟨hko,hkp⟩:=kdR_ok hk
        split at h
        · cases h
        · rename_i nm mv hL
          split at h
          · rename_i hok
            cases h
            have e0:((lnsOf s).take ks.length).flatMap full=txtM ks [] []:=by
              have:=kinds_txt (lnsOf s) (kpre (lnsOf s)).length (Nat.le_refl _)
              rw [← hkp] at this
              rw [this];rfl
            have:=mdL_txt (lnsOf s) ks hko _ _ _ _ _ _ hL rfl e0
            rw [lns_join] at this
            rw [mdT,if_pos hok]
            exact this.symm
          · cases h
/-! forth -/
theorem lns_of:∀ Ls:List Ln,(∀ l∈Ls,l.2=true∧(10:UInt8)∉l.1)→lnsOf (Ls.flatMap full)=Ls
  | [],_=>rfl
  | l :: r,h=>by
    have ih:=lns_of r fun x hx=>h x (List.mem_cons_of_mem _ hx)
    obtain ⟨h1,h2⟩:=h l (by simp)
    obtain ⟨t,e⟩:=l
    have h1:e=true:=h1
    subst h1
    rw [List.flatMap_cons,show full (t,true)=t++[10] from rfl,List.append_assoc,List.singleton_append,lns_cut t _ h2,ih]
theorem jn_no:∀ x:List Int,(∀ y∈x,inNum y)→(10:UInt8)∉jn x
  | [],_=>by show (10:UInt8)∉Lib.join [] [32];rw [Lib.join_nil];simp
  | [a],h=>by rw [jn_one];exact (in_no (h a (by simp))).2
  | a :: b :: r,h=>by
    have ih:=jn_no (b :: r) fun y hy=>h y (List.mem_cons_of_mem _ hy)
    have e:jn (a :: b :: r)=Lib.itoa a++[32]++jn (b :: r):=by
      show Lib.join (Lib.itoa a :: (b :: r).map Lib.itoa) [32]=_
      rw [join_two _ _ (by simp)];rfl
    rw [e]
    simp only [List.mem_append,List.mem_singleton,not_or]
    exact ⟨⟨(in_no (h a (by simp))).2,by decide⟩,ih⟩
theorem lnI_no {f:Tx} {x:List Int} (hf:(10:UInt8)∉f) (h:∀ y∈x,inNum y):(lnI f x).2=true∧(10:UInt8)∉(lnI f x).1:=by
  refine ⟨rfl,?_⟩
  show (10:UInt8)∉f++[32]++jn x
  simp only [List.mem_append,List.mem_singleton,not_or]
  exact ⟨⟨hf,by decide⟩,jn_no x h⟩
def twL (t:List Twist):List Ln:=t.flatMap fun x=>[lnI toT x.to,lnI byT x.by']
theorem twL_len (t:List Twist):(twL t).length=2*t.length:=by
  induction t with
  | nil=>rfl
  | cons x r ih=>simp only [twL,List.flatMap_cons,List.length_append,List.length_cons,List.length_nil] at ih ⊢;omega
theorem twL_get:∀ (t:List Twist) (R:List Ln) (k:Nat),k<t.length→(twL t++R).getD (2*k) default=lnI toT (t.getD k default).to∧(twL t++R).getD (2*k+1) default=lnI byT (t.getD k default).by'
  | x :: r,R,0,_=>⟨rfl,rfl⟩
  | x :: r,R,k+1,h=>by
    have ih:=twL_get r R k (by simpa using h)
    have e:twL (x :: r)++R=lnI toT x.to :: lnI byT x.by' :: (twL r++R):=rfl
    rw [e,show 2*(k+1)=2*k+1+1 by omega]
    exact ih
def twN (ks:List Kind) (t:List Twist):Prop:=t.length=ks.length∧∀ k,k<ks.length→numT (t.getD k default) (cOf ks k)
theorem ps_twN {ks:List Kind} {t:List Twist} (h:psOk ks t):twN ks t:=by
  refine ⟨h.2.1,fun k hk=>?_⟩
  obtain ⟨h1,h2,h3,h4⟩:=h.2.2 k hk
  have hb:=kindsOk_kind h.1 (mem_getD ks k default hk)
  refine ⟨⟨by unfold cOf;omega,fun x hx=>?_⟩,by unfold cOf;omega,fun x hx=>?_⟩
  · have:=h3.2.1 x hx;unfold inNum;omega
  · have:=h4 x hx;unfold inNum;omega
theorem lat_drop (L:List Ln) (b i:Nat):lat L (b+i)=(L.drop b).getD i default:=by
  unfold lat
  rw [List.getD_eq_getElem?_getD,List.getD_eq_getElem?_getD,List.getElem?_drop]
theorem tw_fwd {L:List Ln} {ks:List Kind} {b:Nat} {t:List Twist} {R:List Ln} (hk:kindsOk ks) (ht:twN ks t) (hL:L.drop b=twL t++R):twR L ks b=.ok t:=by
  have hlen:b+2*ks.length≤L.length:=by
    have h1:(L.drop b).length=(twL t++R).length:=by rw [hL]
    rw [List.length_drop,List.length_append,twL_len,ht.1] at h1
    have:=hk.1.1
    omega
  have hev:∀ k,k<ks.length→hl L ks b (2*k)=.ok (t.getD k default).to∧hl L ks b (2*k+1)=.ok (t.getD k default).by':=fun k hkl=>by
    obtain ⟨g1,g2⟩:=twL_get t R k (by rw [ht.1];exact hkl)
    obtain ⟨⟨n1,n2⟩,n3,n4⟩:=ht.2 k hkl
    have hc:1≤cOf ks k:=by
      have:=kindsOk_kind hk (mem_getD ks k default hkl)
      unfold cOf;omega
    have i1:=lineI_of (f:=toT) (x:=(t.getD k default).to) (by decide) (by intro q;rw [q] at n1;simp at n1;omega) n2
    have i2:=lineI_of (f:=byT) (x:=(t.getD k default).by') (by decide) (by intro q;rw [q] at n3;simp at n3;omega) n4
    rw [n1] at i1
    rw [n3] at i2
    constructor
    · unfold hl ln
      have hp:2*k % 2=0:=by omega
      rw [if_pos hp,show 2*k / 2=k by omega,if_neg (show ¬ L.length≤b+2*k by omega),lat_drop,hL,g1,i1]
    · unfold hl ln
      have hp:¬ (2*k+1) % 2=0:=by omega
      rw [if_neg hp,show (2*k+1) / 2=k by omega,if_neg (show ¬ L.length≤b+(2*k+1) by omega),lat_drop,hL,g2,i2]
  have hall:∀ i,i<2*ks.length→∃ l,hl L ks b i=.ok l:=fun i hi=>by
    have h:=hev (i / 2) (by omega)
    by_cases q:i % 2=0
    · exact ⟨_,by have:=h.1;rw [show 2*(i / 2)=i by omega] at this;exact this⟩
    · exact ⟨_,by have:=h.2;rw [show 2*(i / 2)+1=i by omega] at this;exact this⟩
  have hfull:(hls L ks b).length=2*ks.length:=by
    apply Decidable.byContradiction
    intro q
    obtain ⟨e,he⟩:=hls_end L ks b (by have:=hls_le L ks b;omega)
    obtain ⟨l,hl2⟩:=hall (hls L ks b).length (by have:=hls_le L ks b;omega)
    rw [he] at hl2;cases hl2
  unfold twR
  rw [if_pos hfull]
  congr 1
  have hpl:=pr_len ks.length _ hfull
  refine List.ext_getElem (by rw [hpl,ht.1]) fun k h1 h2=>?_
  have hkl:k<ks.length:=by omega
  have e:=pr_get (hls L ks b) k (by omega)
  have a1:=hls_get L ks b (2*k) (by omega)
  have a2:=hls_get L ks b (2*k+1) (by omega)
  rw [(hev k hkl).1] at a1
  rw [(hev k hkl).2] at a2
  injection a1 with a1
  injection a2 with a2
  rw [getD_eq _ _ _ h1,← a1,← a2] at e
  rw [e,← getD_eq t k default h2]
theorem twL_full (t:List Twist):∀ k,k≤t.length→(twL (t.take k)).flatMap full=twK t k
  | 0,_=>rfl
  | k+1,h=>by
    have ih:=twL_full t k (by omega)
    rw [take_succ_eq t k default (by omega)]
    unfold twL at ih ⊢
    rw [List.flatMap_append,List.flatMap_append,ih,twK]
    congr 1
    simp [lnI,full,twT,toT,byT,List.append_assoc]
theorem twL_all (t:List Twist):(twL t).flatMap full=twK t t.length:=by
  have:=twL_full t t.length (Nat.le_refl _)
  rw [List.take_length] at this
  exact this
theorem twL_no {ks:List Kind} {t:List Twist} (h:twN ks t):∀ l∈twL t,l.2=true∧(10:UInt8)∉l.1:=fun l hl=>by
  unfold twL at hl
  obtain ⟨x,hx,hl⟩:=List.mem_flatMap.1 hl
  obtain ⟨k,hk,rfl⟩:=List.getElem_of_mem hx
  have hn:=h.2 k (by rw [← h.1];exact hk)
  rw [getD_eq _ _ _ hk] at hn
  simp only [List.mem_cons,List.not_mem_nil,or_false] at hl
  rcases hl with rfl | rfl
  · exact lnI_no (by decide) hn.1.2
  · exact lnI_no (by decide) hn.2.2
/-! lengths -/
theorem itoa_two {x:Int} (h0:0≤x) (h1:x≤20):(Lib.itoa x).length≤2:=by
  obtain ⟨n,rfl⟩:∃ n:Nat,x=n:=⟨x.toNat,by omega⟩
  exact itoa_lt n (by omega)
theorem jn_short (l:List Int) (h:∀ x∈l,0≤x∧x≤20):(jn l).length≤3*l.length:=by
  have:=Door.join_len (l.map Lib.itoa) [32] 2 (fun x hx=>by
    obtain ⟨y,hy,rfl⟩:=List.mem_map.1 hx
    exact itoa_two (h y hy).1 (h y hy).2)
  simpa [jn] using this
theorem twK_short {ks:List Kind} {t:List Twist} (h:psOk ks t):∀ k,k≤ks.length→((twK t k).length:Int)≤8*k+6*facets (ks.take k)
  | 0,_=>by simp [twK,facets]
  | k+1,hk=>by
    have ih:=twK_short h k (by omega)
    obtain ⟨h1,h2,h3,h4⟩:=h.2.2 k (by omega)
    have hb:=kindsOk_kind h.1 (mem_getD ks k default (by omega))
    have hp:=kOk_prod (h.1.2.1 _ (mem_getD ks k default (by omega)))
    have hf:=facets_take ks k (by omega)
    have j1:=jn_short (t.getD k default).to (fun x hx=>by have:=h3.2.1 x hx;omega)
    have j2:=jn_short (t.getD k default).by' (fun x hx=>by have:=h4 x hx;omega)
    rw [hf,twK]
    simp only [twT,List.length_append,List.length_cons,List.length_nil]
    omega
theorem tw_short {ks:List Kind} {t:List Twist} (h:psOk ks t):(twK t t.length).length≤144:=by
  have h1:=twK_short h ks.length (Nat.le_refl _)
  rw [List.take_length] at h1
  have:=h.1.2.2
  have:=h.1.1
  rw [h.2.1]
  omega
theorem st_fwd {ks:List Kind} {s:List Twist} (h:psOk ks s):pstE ks (psT ks s)=.ok s:=by
  have hn:=ps_twN h
  have e:psT ks s=twK s s.length:=if_pos h
  have hs:=tw_short h
  unfold pstE
  rw [if_pos h.1,e,if_neg (by omega)]
  have hl:lnsOf (twK s s.length)=twL s:=by rw [← twL_all];exact lns_of _ (twL_no hn)
  rw [hl]
  unfold stR
  have:=tw_fwd (b:=0) (R:=[]) (L:=twL s) h.1 hn (by simp)
  rw [this]
  dsimp only
  rw [if_neg (by rw [twL_len,hn.1];omega),if_pos h]
/-! a model's lines -/
def mvL (w:Tx) (t:List Twist):List Ln:=(moveT++[32]++w,true) :: twL t
def mlines:Tx→List (List Twist)→List Ln
  | w :: ws,t :: ts=>mvL [w] t++mlines ws ts
  | _,_=>[]
def klines (ks:List Kind):List Ln:=ks.map fun k=>lnI kindT [k.c,k.o]
theorem kind_in {ks:List Kind} (h:kindsOk ks) {k:Kind} (hk:k∈ks):∀ y∈[k.c,k.o],inNum y:=fun y hy=>by
  have:=kindsOk_kind h hk
  simp only [List.mem_cons,List.not_mem_nil,or_false] at hy
  unfold inNum
  rcases hy with rfl | rfl <;> omega
theorem kline_of {ks:List Kind} (h:kindsOk ks) {k:Kind} (hk:k∈ks):kline (lnI kindT [k.c,k.o])=some k:=by
  have:=lineI_of (f:=kindT) (x:=[k.c,k.o]) (by decide) (by simp) (kind_in h hk)
  unfold kline
  rw [show ([k.c,k.o]:List Int).length=2 from rfl] at this
  rw [this];rfl
theorem move_word (w:Tx) (hw:isLet w):spl 32 (moveT++[32]++w)=[moveT,w]:=by
  have h1:(32:UInt8)∉w:=fun q=>by
    obtain ⟨h1,h2,_⟩:=hw
    obtain ⟨x,rfl⟩:∃ x,w=[x]:=by
      match w,h1 with
      | [x],_=>exact ⟨x,rfl⟩
    have:x=32:=(List.mem_singleton.1 q).symm
    subst this
    exact absurd h2 (by decide)
  have:=spl_of 32 [moveT,w] (by simp) (fun u hu=>by
    simp only [List.mem_cons,List.not_mem_nil,or_false] at hu
    rcases hu with rfl | rfl
    · decide
    · exact h1)
  rw [join_two _ _ (by simp),Lib.join_one] at this
  exact this
theorem lineN_of (w:Tx) (hw:isLet w):lineN (moveT++[32]++w,true)=some w:=by
  unfold lineN lineW
  dsimp only
  rw [move_word w hw,if_pos ⟨rfl,rfl,rfl⟩]
  dsimp only [List.drop]
  rw [if_pos hw]
theorem kline_move (w:Tx) (hw:isLet w):kline (moveT++[32]++w,true)=none:=by
  unfold kline lineI lineW
  dsimp only
  rw [move_word w hw,if_neg (fun q=>by
    have q2:moveT=kindT:=q.2.1
    exact absurd q2 (by decide))]
theorem kpre_lines (R:List Ln) (hR:∀ l r,R=l :: r→kline l=none):∀ (ks0 ks:List Kind),kindsOk ks0→(∀ k∈ks,k∈ks0)→kpre (klines ks++R)=ks
  | ks0,[],_,_=>by
    show kpre R=[]
    cases R with
    | nil=>rfl
    | cons l r=>rw [kpre,hR l r rfl]
  | ks0,k :: r,h,hm=>by
    have ih:=kpre_lines R hR ks0 r h fun x hx=>hm x (List.mem_cons_of_mem _ hx)
    show kpre (lnI kindT [k.c,k.o] :: (klines r++R))=_
    rw [kpre,kline_of h (hm k (by simp)),ih]
theorem mdL_fwd {L:List Ln} {ks:List Kind} (hk:kindsOk ks):∀ (ws:Tx) (ts:List (List Twist)) (f a:Nat) (nm:Tx) (mv:List (List Twist)),ws.length=ts.length→(∀ w∈ws,isLet [w])→(∀ t∈ts,psOk ks t)→L.drop a=mlines ws ts→a≤L.length→ts.length<f→mv++ts≠[]→mdL L ks f a nm mv=.ok (nm++ws,mv++ts)
  | [],[],f,a,nm,mv,_,_,_,hd,ha,hf,hne=>by
    obtain ⟨f,rfl⟩:∃ g,f=g+1:=⟨f - 1,by simp at hf;omega⟩
    have:L.length≤a:=by
      have h1:(L.drop a).length=0:=by rw [hd];rfl
      rw [List.length_drop] at h1;omega
    rw [List.append_nil] at hne
    rw [mdL,if_pos this,if_neg hne,List.append_nil,List.append_nil]
  | w :: ws,t :: ts,f,a,nm,mv,hl,hw,ht,hd,ha,hf,hne=>by
    obtain ⟨f,rfl⟩:∃ g,f=g+1:=⟨f - 1,by simp at hf;omega⟩
    have hd2:L.drop a=(moveT++[32]++[w],true) :: (twL t++mlines ws ts):=hd
    have hlt:a<L.length:=by
      apply Decidable.byContradiction
      intro q
      rw [List.drop_eq_nil_of_le (by omega)] at hd2
      cases hd2
    have hcons:=List.drop_eq_getElem_cons hlt
    rw [hd2] at hcons
    injection hcons with c1 c2
    have hlat:lat L a=(moveT++[32]++[w],true):=by
      unfold lat;rw [getD_eq _ _ _ hlt];exact c1.symm
    have hp:=ht t (by simp)
    have hn:=ps_twN hp
    have htw:=tw_fwd (b:=a+1) (R:=mlines ws ts) hk hn c2.symm
    have hd3:L.drop (a+1+2*ks.length)=mlines ws ts:=by
      rw [← List.drop_drop,← c2,List.drop_append_of_le_length (by rw [twL_len,hn.1];omega),List.drop_of_length_le (by rw [twL_len,hn.1];omega),List.nil_append]
    have hle:a+1+2*ks.length≤L.length:=by
      have h1:(L.drop (a+1)).length=(twL t++mlines ws ts).length:=by rw [← c2]
      rw [List.length_drop,List.length_append,twL_len,hn.1] at h1
      have:=hk.1.1
      omega
    have ih:=mdL_fwd hk ws ts f (a+1+2*ks.length) (nm++[w]) (mv++[t]) (by simpa using hl) (fun x hx=>hw x (by simp [hx])) (fun x hx=>ht x (by simp [hx])) hd3 hle (by simp at hf;omega) (by simp)
    rw [mdL,if_neg (by omega),hlat,lineN_of [w] (hw w (by simp))]
    dsimp only
    rw [htw]
    dsimp only
    rw [ih,List.append_assoc,List.append_assoc];rfl
  | [],t :: ts,f,a,nm,mv,h,_,_,_,_,_,_=>by simp at h
  | w :: ws,[],f,a,nm,mv,h,_,_,_,_,_,_=>by simp at h
theorem klines_full (ks:List Kind):∀ k,k≤ks.length→(klines (ks.take k)).flatMap full=knK ks k
  | 0,_=>rfl
  | k+1,h=>by
    have ih:=klines_full ks k (by omega)
    rw [take_succ_eq ks k default (by omega)]
    unfold klines at ih ⊢
    rw [List.map_append,List.flatMap_append,ih,knK]
    congr 1
    simp [lnI,full,knT,kindT,jn_two,List.append_assoc]
theorem mlines_full (m:Model) (h:m.nm.length=m.mv.length):∀ k,k≤m.mv.length→(klines m.ks).flatMap full++(mlines (m.nm.take k) (m.mv.take k)).flatMap full=mdK m k
  | 0,_=>by
    have:=klines_full m.ks m.ks.length (Nat.le_refl _)
    rw [List.take_length] at this
    rw [mdK,this]
    simp [mlines]
  | k+1,hk=>by
    have ih:=mlines_full m h k (by omega)
    have hsn:∀ (a:Tx) (b:List (List Twist)) (w:UInt8) (t:List Twist),a.length=b.length→mlines (a++[w]) (b++[t])=mlines a b++mvL [w] t:=fun a=>by
      induction a with
      | nil =>
        intro b w t hb
        have:b=[]:=List.eq_nil_of_length_eq_zero hb.symm
        subst this
        simp [mlines]
      | cons x a iha =>
        intro b w t hb
        cases b with
        | nil=>simp at hb
        | cons y b =>
          have:=iha b w t (by simpa using hb)
          show mvL [x] y++mlines (a++[w]) (b++[t])=mvL [x] y++mlines a b++mvL [w] t
          rw [this,List.append_assoc]
    rw [take_succ_eq m.nm k 0 (by omega),take_succ_eq m.mv k default (by omega),hsn _ _ _ _ (by rw [List.length_take,List.length_take,h]),List.flatMap_append,← List.append_assoc,ih,mdK]
    congr 1
    have e1:(m.nm.take k++[m.nm.getD k 0]).drop k=[m.nm.getD k 0]:=by
      have:(m.nm.take k).length=k:=by rw [List.length_take];omega
      conv=>lhs;rw [show k=(m.nm.take k).length from this.symm]
      rw [this,List.drop_append_of_le_length (by omega),List.drop_of_length_le (by omega)];rfl
    unfold mvL
    rw [List.flatMap_cons,twL_all,take_succ_eq m.nm k 0 (by omega),e1]
    simp [full,moveT,List.append_assoc]
theorem mod_let {m:Model} (h:modelOk m):∀ w∈m.nm,isLet [w]:=fun w hw=>⟨rfl,(h.2.1.1.1 w hw).1,(h.2.1.1.1 w hw).2⟩
theorem mdK_short {m:Model} (h:modelOk m):∀ k,k≤m.mv.length→(mdK m k).length≤33+151*k
  | 0,_=>by
    have hk:∀ j,j≤m.ks.length→(knK m.ks j).length≤11*j:=fun j=>by
      induction j with
      | zero=>intro _;simp [knK]
      | succ j ih =>
        intro hj
        have h1:=ih (by omega)
        have hb:=kindsOk_kind h.1 (mem_getD m.ks j default (by omega))
        have i1:=itoa_two (x:=(m.ks.getD j default).c) (by omega) (by omega)
        have i2:=itoa_two (x:=(m.ks.getD j default).o) (by omega) (by omega)
        rw [knK]
        simp only [knT,List.length_append,List.length_cons,List.length_nil]
        omega
    have:=hk m.ks.length (Nat.le_refl _)
    have:=h.1.1
    rw [mdK];omega
  | k+1,hk=>by
    have ih:=mdK_short h k (by omega)
    have hp:=h.2.2.2 _ (mem_getD m.mv k default (by omega))
    have:=tw_short hp
    rw [mdK]
    simp only [List.length_append,List.length_cons,List.length_nil,List.length_drop,List.length_take]
    omega
theorem mod_fwd {m:Model} (h:modelOk m):pmdE (mdT m)=.ok m:=by
  have hml:1≤m.mv.length∧m.mv.length≤8:=by have:=h.2.1.2;have:=h.2.2.1;omega
  have e:mdT m=mdK m m.mv.length:=if_pos h
  have hs:=mdK_short h m.mv.length (Nat.le_refl _)
  obtain ⟨Ls,hLs⟩:∃ Ls,Ls=klines m.ks++mlines m.nm m.mv:=⟨_,rfl⟩
  have htx:Ls.flatMap full=mdK m m.mv.length:=by
    have:=mlines_full m h.2.2.1 m.mv.length (Nat.le_refl _)
    rw [List.take_length,List.take_of_length_le (by rw [h.2.2.1];exact Nat.le_refl _)] at this
    rw [hLs,List.flatMap_append];exact this
  have hno:∀ l∈Ls,l.2=true∧(10:UInt8)∉l.1:=fun l hl=>by
    rw [hLs] at hl
    rcases List.mem_append.1 hl with hl | hl
    · unfold klines at hl
      obtain ⟨k,hk,rfl⟩:=List.mem_map.1 hl
      exact lnI_no (by decide) (kind_in h.1 hk)
    · have hall:∀ (ws:Tx) (ts:List (List Twist)),(∀ w∈ws,isLet [w])→(∀ t∈ts,psOk m.ks t)→∀ l∈mlines ws ts,l.2=true∧(10:UInt8)∉l.1:=fun ws=>by
        induction ws with
        | nil=>intro ts _ _ l hl;simp [mlines] at hl
        | cons w ws ih =>
          intro ts hw ht l hl
          cases ts with
          | nil=>simp [mlines] at hl
          | cons t ts =>
            have hl:l∈((moveT++[32]++[w],true):Ln) :: twL t++mlines ws ts:=hl
            rcases List.mem_append.1 hl with hl | hl
            · rcases List.mem_cons.1 hl with rfl | hl
              · refine ⟨rfl,?_⟩
                have hw1:=hw w (by simp)
                simp only [List.mem_append,List.mem_singleton,not_or]
                refine ⟨⟨by decide,by decide⟩,fun q=>?_⟩
                subst q
                exact absurd hw1.2.1 (by decide)
              · exact twL_no (ps_twN (ht t (by simp))) l hl
            · exact ih ts (fun x hx=>hw x (by simp [hx])) (fun x hx=>ht x (by simp [hx])) l hl
      exact hall m.nm m.mv (mod_let h) h.2.2.2 l hl
  have hln:lnsOf (mdT m)=Ls:=by rw [e,← htx];exact lns_of Ls hno
  unfold pmdE
  rw [if_neg (by rw [e];omega),hln]
  obtain ⟨w,ws,hnm⟩:∃ w ws,m.nm=w :: ws:=by
    cases hq:m.nm with
    | nil=>have:=h.2.2.1;rw [hq] at this;simp at this;omega
    | cons w ws=>exact ⟨w,ws,rfl⟩
  obtain ⟨t,ts,hmv⟩:∃ t ts,m.mv=t :: ts:=by
    cases hq:m.mv with
    | nil=>rw [hq] at hml;simp at hml
    | cons t ts=>exact ⟨t,ts,rfl⟩
  have hMl:mlines m.nm m.mv=(moveT++[32]++[w],true) :: (twL t++mlines ws ts):=by rw [hnm,hmv];rfl
  have hwl:=mod_let h w (by rw [hnm];simp)
  have hkp:kpre Ls=m.ks:=by
    rw [hLs]
    refine kpre_lines _ (fun l r hl=>?_) m.ks m.ks h.1 fun k hk=>hk
    rw [hMl] at hl
    injection hl with h1 _
    rw [← h1];exact kline_move [w] hwl
  have hne:Ls≠[]:=fun q=>by
    have:(klines m.ks++mlines m.nm m.mv).length=0:=by rw [← hLs,q];rfl
    rw [List.length_append,hMl] at this
    simp at this
  have hkl:(klines m.ks).length=m.ks.length:=by unfold klines;rw [List.length_map]
  have hdrop:Ls.drop m.ks.length=mlines m.nm m.mv:=by
    rw [hLs,← hkl,List.drop_left]
  have hLl:m.ks.length+m.mv.length≤Ls.length:=by
    have hall:∀ (ws:Tx) (ts:List (List Twist)),ws.length=ts.length→ts.length≤(mlines ws ts).length:=fun ws=>by
      induction ws with
      | nil=>intro ts hl;have:ts=[]:=List.eq_nil_of_length_eq_zero hl.symm;subst this;simp
      | cons w ws ih =>
        intro ts hl
        cases ts with
        | nil=>simp at hl
        | cons t ts =>
          have:=ih ts (by simpa using hl)
          show ts.length+1≤(((moveT++[32]++[w],true):Ln) :: (twL t++mlines ws ts)).length
          simp only [List.length_cons,List.length_append];omega
    have:=hall m.nm m.mv h.2.2.1
    rw [hLs,List.length_append,hkl];omega
  have hlat:lat Ls m.ks.length=(moveT++[32]++[w],true):=by
    have:=lat_drop Ls m.ks.length 0
    rw [Nat.add_zero] at this
    rw [this,hdrop,hMl];rfl
  have hkd:kdR Ls=.ok m.ks:=by
    have:=h.1.1
    unfold kdR
    rw [hkp,if_neg (by omega),if_neg (fun q=>by
      have q2:=q.2
      rw [hlat,move_word [w] hwl] at q2
      have q3:moveT=kindT:=q2
      exact absurd q3 (by decide)),if_neg (by omega),if_pos h.1]
  unfold mdR
  rw [if_neg hne,hkd]
  dsimp only
  rw [mdL_fwd h.1 m.nm m.mv (Ls.length+1) m.ks.length [] [] h.2.2.1 (mod_let h) h.2.2.2 hdrop (by omega) (by omega) (by rw [hmv];simp)]
  dsimp only [List.nil_append]
  rw [if_pos h]
end Ps
end Go.AM
set_option maxRecDepth 8000
namespace Go.AM
namespace Draws
open Go.Proofs
open Ps (pst pmd ppz pstE pmdE ppzE st_fwd mod_fwd mod_back puz_back parseStateI)
open Door (psT twK iFormatPS ps_okT twK_len)
theorem psT_ok {ks:List Kind} {s:List Twist} (h:psOk ks s):pst ks (psT ks s)=(s,-1):=by
  unfold pst;rw [st_fwd h];rfl
theorem psT_len {ks:List Kind} {s:List Twist} (h:psOk ks s):(psT ks s).length≤2664:=by
  have e:psT ks s=twK s s.length:=if_pos h
  have hT:=ps_okT h
  have:=twK_len hT.1 s.length (Nat.le_refl _)
  rw [e];omega
theorem psT_ne {ks:List Kind} {s:List Twist} (h:¬ psOk ks s):psT ks s=[]:=if_neg h
theorem drawFPS (l:List UInt8) (hl:l.length≤4096):∃ (ks:List Kind) (s:List Twist),SpecAt Tryz.prog 9 [bsl l] (.tup [ksl ks,tsl s])∧ks.length≤5∧fewT s:=by
  have q0:=newSource l hl
  have k0:(⟨l,0,sdK l l.length⟩:Draws.Src).ok:=⟨hl,by simp,by have:=sdK_ok l hl l.length;unfold intOk;simp only;omega⟩
  generalize (⟨l,0,sdK l l.length⟩:Draws.Src)=s0 at q0 k0
  obtain ⟨s1,ks,tw,q1,k1,a1⟩:=drawAny s0 k0
  refine ⟨ks,tw,?_,a1.1,a1.2⟩
  refine spec_of_awp (M:=MM) (np:=1) (fz:=true) mixed Tryz.func9 rfl rfl (by decide) rfl (Nat.le_refl _) (by decide +kernel) (.inr ⟨rfl,rfl⟩) trivial ?_
  simp -dsimp -implicitDefEqProofs (disch:=first|omega|(simp only [lenr];try omega)) only [↓amPre,↓reduceIte,reduceCtorEq,Nat.reduceEqDiff,Nat.reduceBEq,Nat.reduceAdd,Nat.reduceLeDiff,Nat.reduceSub,Nat.reduceMul,Int.reduceToNat,MM,bu0,cbJ1,cbJ7]
  refine callP_of (q0) ?_
  simp -dsimp -implicitDefEqProofs (disch:=first|omega|(simp only [lenr];try omega)) only [↓amPre,↓reduceIte,reduceCtorEq,Nat.reduceEqDiff,Nat.reduceBEq,Nat.reduceAdd,Nat.reduceLeDiff,Nat.reduceSub,Nat.reduceMul,Int.reduceToNat,MM,bu0,cbJ1,cbJ7]
  refine callX_of (q1) ?_
  simp -dsimp -implicitDefEqProofs (disch:=first|omega|(simp only [lenr];try omega)) only [↓amPre,↓reduceIte,reduceCtorEq,Nat.reduceEqDiff,Nat.reduceBEq,Nat.reduceAdd,Nat.reduceLeDiff,Nat.reduceSub,Nat.reduceMul,Int.reduceToNat,MM,bu0,cbJ1,cbJ7,kfz,tfz]
theorem lawStateText (l:List UInt8) (w:l.length≤9223372036854775807):SpecAt Tryz.prog 3 [bsl l] (.bl true):=by
  have qb:=bigF l
  by_cases c:(4096:Int)<l.length
  · refine spec_of_awp (M:=MM) (np:=1) (fz:=true) mixed Tryz.func3 rfl rfl (by decide) rfl (Nat.le_refl _) (by decide +kernel) (.inr ⟨rfl,rfl⟩) trivial ?_
    simp -dsimp -implicitDefEqProofs (disch:=first|omega|(simp only [lenr];try omega)) only [↓amPre,↓reduceIte,reduceCtorEq,Nat.reduceEqDiff,Nat.reduceBEq,Nat.reduceAdd,Nat.reduceLeDiff,Nat.reduceSub,Nat.reduceMul,Int.reduceToNat,MM,bu0,cbJ1,cbJ7]
    refine callP_of (qb) ?_
    simp -dsimp -implicitDefEqProofs (disch:=first|omega|(simp only [lenr];try omega)) only [↓amPre,↓reduceIte,reduceCtorEq,Nat.reduceEqDiff,Nat.reduceBEq,Nat.reduceAdd,Nat.reduceLeDiff,Nat.reduceSub,Nat.reduceMul,Int.reduceToNat,MM,bu0,cbJ1,cbJ7,decide_eq_true c]
  rw [decide_eq_false c] at qb
  obtain ⟨ks,s,q0,h1,h2⟩:=drawFPS l (by omega)
  have hs:=fewT_small h2
  have q1:=iFormatPS ks s (by omega) hs.1 hs.2
  have q2:=sIsPieceState ks s (by omega) hs.1 hs.2
  by_cases hp:psOk ks s
  case neg =>
    rw [decide_eq_false hp] at q2
    rw [psT_ne hp] at q1
    refine spec_of_awp (M:=MM) (np:=1) (fz:=true) mixed Tryz.func3 rfl rfl (by decide) rfl (Nat.le_refl _) (by decide +kernel) (.inr ⟨rfl,rfl⟩) trivial ?_
    simp -dsimp -implicitDefEqProofs (disch:=first|omega|(simp only [lenr];try omega)) only [↓amPre,↓reduceIte,reduceCtorEq,Nat.reduceEqDiff,Nat.reduceBEq,Nat.reduceAdd,Nat.reduceLeDiff,Nat.reduceSub,Nat.reduceMul,Int.reduceToNat,MM,bu0,cbJ1,cbJ7]
    refine callP_of (qb) ?_
    simp -dsimp -implicitDefEqProofs (disch:=first|omega|(simp only [lenr];try omega)) only [↓amPre,↓reduceIte,reduceCtorEq,Nat.reduceEqDiff,Nat.reduceBEq,Nat.reduceAdd,Nat.reduceLeDiff,Nat.reduceSub,Nat.reduceMul,Int.reduceToNat,MM,bu0,cbJ1,cbJ7]
    refine callP_of (q0) ?_
    simp -dsimp -implicitDefEqProofs (disch:=first|omega|(simp only [lenr];try omega)) only [↓amPre,↓reduceIte,reduceCtorEq,Nat.reduceEqDiff,Nat.reduceBEq,Nat.reduceAdd,Nat.reduceLeDiff,Nat.reduceSub,Nat.reduceMul,Int.reduceToNat,MM,bu0,cbJ1,cbJ7,kfz,tfz]
    refine callP_of (q1) ?_
    simp -dsimp -implicitDefEqProofs (disch:=first|omega|(simp only [lenr];try omega)) only [↓amPre,↓reduceIte,reduceCtorEq,Nat.reduceEqDiff,Nat.reduceBEq,Nat.reduceAdd,Nat.reduceLeDiff,Nat.reduceSub,Nat.reduceMul,Int.reduceToNat,MM,bu0,cbJ1,cbJ7,kfz,tfz]
    refine callP_of (q2) ?_
    simp -dsimp -implicitDefEqProofs (disch:=first|omega|(simp only [lenr];try omega)) only [↓amPre,↓reduceIte,reduceCtorEq,Nat.reduceEqDiff,Nat.reduceBEq,Nat.reduceAdd,Nat.reduceLeDiff,Nat.reduceSub,Nat.reduceMul,Int.reduceToNat,MM,bu0,cbJ1,cbJ7,kfz,tfz]
    rfl
  rw [decide_eq_true hp] at q2
  have hlen:=psT_len hp
  have q3:=parseStateI ks (psT ks s) (by omega) (by omega)
  rw [psT_ok hp] at q3
  have q4:=sPiecesToPerm ks s (by omega) hs
  rw [decide_eq_true hp] at q4
  have hpl:=permR_le ks s
  have q5:=likeInts (permR ks s) (permR ks s) (by omega)
  rw [decide_eq_true rfl] at q5
  generalize psT ks s=T at *
  generalize permR ks s=P at *
  refine spec_of_awp (M:=MM) (np:=1) (fz:=true) mixed Tryz.func3 rfl rfl (by decide) rfl (Nat.le_refl _) (by decide +kernel) (.inr ⟨rfl,rfl⟩) trivial ?_
  simp -dsimp -implicitDefEqProofs (disch:=first|omega|(simp only [lenr];try omega)) only [↓amPre,↓reduceIte,reduceCtorEq,Nat.reduceEqDiff,Nat.reduceBEq,Nat.reduceAdd,Nat.reduceLeDiff,Nat.reduceSub,Nat.reduceMul,Int.reduceToNat,MM,bu0,cbJ1,cbJ7]
  refine callP_of (qb) ?_
  simp -dsimp -implicitDefEqProofs (disch:=first|omega|(simp only [lenr];try omega)) only [↓amPre,↓reduceIte,reduceCtorEq,Nat.reduceEqDiff,Nat.reduceBEq,Nat.reduceAdd,Nat.reduceLeDiff,Nat.reduceSub,Nat.reduceMul,Int.reduceToNat,MM,bu0,cbJ1,cbJ7]
  refine callP_of (q0) ?_
  simp -dsimp -implicitDefEqProofs (disch:=first|omega|(simp only [lenr];try omega)) only [↓amPre,↓reduceIte,reduceCtorEq,Nat.reduceEqDiff,Nat.reduceBEq,Nat.reduceAdd,Nat.reduceLeDiff,Nat.reduceSub,Nat.reduceMul,Int.reduceToNat,MM,bu0,cbJ1,cbJ7,kfz,tfz]
  refine callP_of (q1) ?_
  simp -dsimp -implicitDefEqProofs (disch:=first|omega|(simp only [lenr];try omega)) only [↓amPre,↓reduceIte,reduceCtorEq,Nat.reduceEqDiff,Nat.reduceBEq,Nat.reduceAdd,Nat.reduceLeDiff,Nat.reduceSub,Nat.reduceMul,Int.reduceToNat,MM,bu0,cbJ1,cbJ7,kfz,tfz]
  refine callP_of (q2) ?_
  simp -dsimp -implicitDefEqProofs (disch:=first|omega|(simp only [lenr];try omega)) only [↓amPre,↓reduceIte,reduceCtorEq,Nat.reduceEqDiff,Nat.reduceBEq,Nat.reduceAdd,Nat.reduceLeDiff,Nat.reduceSub,Nat.reduceMul,Int.reduceToNat,MM,bu0,cbJ1,cbJ7,kfz,tfz]
  refine callP_of (q3) ?_
  simp -dsimp -implicitDefEqProofs (disch:=first|omega|(simp only [lenr];try omega)) only [↓amPre,↓reduceIte,reduceCtorEq,Nat.reduceEqDiff,Nat.reduceBEq,Nat.reduceAdd,Nat.reduceLeDiff,Nat.reduceSub,Nat.reduceMul,Int.reduceToNat,MM,bu0,cbJ1,cbJ7,kfz,tfz]
  refine callP_of (q4) ?_
  simp -dsimp -implicitDefEqProofs (disch:=first|omega|(simp only [lenr];try omega)) only [↓amPre,↓reduceIte,reduceCtorEq,Nat.reduceEqDiff,Nat.reduceBEq,Nat.reduceAdd,Nat.reduceLeDiff,Nat.reduceSub,Nat.reduceMul,Int.reduceToNat,MM,bu0,cbJ1,cbJ7,kfz,tfz]
  refine callP_of (q4) ?_
  simp -dsimp -implicitDefEqProofs (disch:=first|omega|(simp only [lenr];try omega)) only [↓amPre,↓reduceIte,reduceCtorEq,Nat.reduceEqDiff,Nat.reduceBEq,Nat.reduceAdd,Nat.reduceLeDiff,Nat.reduceSub,Nat.reduceMul,Int.reduceToNat,MM,bu0,cbJ1,cbJ7,kfz,tfz]
  refine callP_of (q5) ?_
  simp -dsimp -implicitDefEqProofs (disch:=first|omega|(simp only [lenr];try omega)) only [↓amPre,↓reduceIte,reduceCtorEq,Nat.reduceEqDiff,Nat.reduceBEq,Nat.reduceAdd,Nat.reduceLeDiff,Nat.reduceSub,Nat.reduceMul,Int.reduceToNat,MM,bu0,cbJ1,cbJ7,kfz,tfz]
end Draws
end Go.AM
