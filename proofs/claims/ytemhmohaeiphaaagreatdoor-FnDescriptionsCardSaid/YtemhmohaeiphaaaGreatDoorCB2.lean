/-
 CONTRACTS of functions of the program,and what they compute,by content.
-/
import Derived.Test.YtemhmohaeiphaaaGreatDoorM2Facts
import Derived.Test.YtemhmohaeiphaaaGreatDoorCB0
import Derived.Test.YtemhmohaeiphaaaGreatDoorM2SD
import Derived.Handed
import Derived.SizedLaws
import Derived.ShapedOpen
import Derived.Shelf.Vars
import Derived.Lib.LaidTab
import Derived.Sort.Grow
import Derived.Deep.Draws
import Derived.Lib.Join
import Derived.Lib.ItoaLen
import Derived.Shelf.Strconv.Itoa4
import Derived.Shelf.Strings.OnBuilder
import Derived.Shelf.Small.Strs
import Derived.Shelf.Strings.SplitShaped
import Derived.Shelf.Strconv.ParseIntPublic10
import Derived.Test.YtemhmohaeiphaaaGreatDoorCB1
import Derived.Sort.Row
import Derived.Laws.AppendOwn
open Nat (reduceEqDiff reduceAdd reduceLeDiff reduceSub reduceMul)
open Int (reduceToNat)
set_option linter.unusedVariables false
set_option linter.defProp false
set_option linter.unusedSimpArgs false
namespace Go.AM
open Go.Proofs
open Go.ChangeShapes Go.WideShapes Go.RowKit
theorem wrapS {H:Type} {enc:TypeId×Value→H} {a:Assume} {C:Checked} {os:Os} {f:FuncId} {fn:Func} {s:ChangeSpec} {conds:List PathCond} {apart fresh handsOn again:Bool} {X:World→Array Value→Prop}
  (hX:∀ (w w':World) (args:Array Value),w.heap=w'.heap→X w args→X w' args)
  (own:ownKnob C.prog.godebug=none) (started:os.Started) (noInit:C.prog.inits.idxOf? f=none) (hfn:C.prog.funcs[f]? = some fn)
  (witness:∃ (w:World) (tape:Tape) (i:Input),w.os=os∧(w.forCall tape i).Shaped C.prog∧i.vars=[]∧Input.okWide C.prog (w.forCall tape i) .any w.heap.size f i ∧
   ((s.pre enc C.prog fn conds apart (w.forCall tape i).memory i.args∧X (w.forCall tape i).memory i.args)∧sizedMet enc C.prog fn (OpenSpec.ofChange s) apart (w.forCall tape i).memory i.args)∧a.holds C.prog (lone (Frame.enter C.prog f i.args .normal) [] (w.forCall tape i)))
  (contract:∀ (W:World) (base:Nat) (args:Array Value) (ds gs:List (DataW H)) (before:List MemPlace),
   (∀ (j:Nat) t v,fn.params[j]? = some t→args[j]? = some v→Value.okWide C.prog W .any base t v) →
   DataW.Whole enc C.prog fn.params.toList s.vars apart W args.toList ds gs before →
   conds.all (PathCond.test C.prog ⟨fn.params.toList,ds,s.plain.varTypes C.prog,gs⟩)=true →
   X W args→W.ShapedOpen C.prog →
   Calls C.prog f args W fun e W'=>∃ v,e=.returned v∧s.post enc C.prog fn apart fresh handsOn again W args v W') :
  ReturnsInHanded a C os f .any (fun w args=>(s.pre enc C.prog fn conds apart w args∧X w args)∧sizedMet enc C.prog fn (OpenSpec.ofChange s) apart w args) (s.post enc C.prog fn apart fresh handsOn again):=by
 refine returnsInHanded_of_calls own started noInit witness ?_
 intro w tape i _ hsh _ hok hpre hholds
 obtain ⟨_,_,_,fn',hfn',_,_,_,_,hval⟩:=hok
 have e:fn'=fn:=Option.some.inj (hfn'.symm.trans hfn)
 subst e
 obtain ⟨⟨⟨ds,gs,before,hw,hc⟩,hx⟩,hz⟩:=hpre
 have hw':=DataW.Whole.of_heap (w':=w.forCall tape i) (by rfl) hw
 refine (contract (w.forCall tape i) w.heap.size i.args ds gs before hval hw' hc (hX _ _ _ (by rfl) hx) hsh).mono fun e W' ⟨v,he,hp⟩=>?_
 subst he
 exact ChangeSpec.post_blind hp
theorem trod_iface {H:Type} {enc:TypeId×Value→H} {P:Program} {w:World} {base:Nat} {sp:Nat→Bool} {held:Bool} {fuel:Nat} {t:TypeId} {cs:List Value} {ms:Array (String×TypeId)} {name:String} {d:DataW H} {p:List MemPlace}
  (ht:P.underlying t=some (.interface ms)) (h:DataW.trod enc P w base sp held fuel t cs=some (.iface name d,p)):∃ u v,cs=[.iface u v]:=by
 cases fuel with
 | zero=>simp [DataW.trod] at h
 | succ n =>
  unfold DataW.trod at h
  rw [ht] at h
  match cs,h with
  | [.iface u v],_=>exact ⟨u,v,rfl⟩
  | [.nilIface],h=>simp at h
  | [],h=>simp at h
  | _ :: _ :: _,h=>simp at h
theorem base_mk {W:World} {b:Nat} {cs:Array Value} {t:TypeId} {f:Nat×Nat} {x:Value} (hh:W.heap[b]? = some (.cells cs t f)) (h0:cs[0]? = some x) (h1:x.oneCell'=true):gho W b 0=some x :=
 gho_cell (by simp [World.cell?,hh];exact h0) h1
end Go.AM
namespace Go.AM
/-! the library's contracts in this machine's words: plain values in,a plain value out -/
theorem Held.same {I:Gh} {w w':World} (hh:Held I w) (h:∀ b o x,I b o=some x→w'.heap[b]? = w.heap[b]?):Held I w' :=
  ⟨fun b o x hx=>by
    have h1:=hh.cell b o x hx
    exact ⟨(World.cell?_of_block (w:=w) (a:=⟨b,o,none⟩) (h b o x hx)).trans h1.1,h1.2⟩,
   fun b cs hc=>by
    obtain ⟨t,f,x,h1,h2⟩:=hh.base b cs hc
    exact ⟨t,f,x,(h b 0 x h2).trans h1,h2⟩⟩
theorem grow_block (w:World) (k:Nat) (os:Array Obj) {b:Nat} (h:b<w.heap.size):(Sort.grow (w.drewN k) os).heap[b]? = w.heap[b]?:=by
 simp only [Sort.grow,World.drewN]
 rw [Array.getElem?_append_left h]
theorem grow_size (w:World) (k:Nat) (os:Array Obj):w.heap.size≤(Sort.grow (w.drewN k) os).heap.size:=by
 simp only [Sort.grow,World.drewN,Array.size_append];omega
theorem tab_of {P:Program} {w:World} {name:String} {k:IntKind} {zs:List Int} {g t:Nat} {f:Nat×Nat} (hg:P.globalNamed name=some g) (h:w.heap[g]? = some (.cells (zs.map fun z=>Value.int k z).toArray t f)):Lib.TabIs P w name k zs:=by
 unfold Lib.TabIs World.var?
 rw [hg]
 simp [h]
theorem spec_static {P:Program} {f:FuncId} (hb:HasBody P f) (xs:List Value) (y:Value)
  (hs:∀ I w,Held I w→Calls P f xs.toArray w fun e w'=>e=.returned y∧∃ k os,w'=Sort.grow (w.drewN k) os):SpecAt P f (xs.map .v) (.v y):=by
 refine ⟨hb,by simp,fun j T hj=>by simp at hj,fun I π w vals hI hvs hsep htop=>?_⟩
 obtain rfl:vals=xs.toArray:=by
  apply Array.ext
  ·simpa using hvs
  ·intro j h1 h2
   have h2':j<(xs.map AV.v).length:=by simpa using h2
   have q0:=htop j h2' h1
   have e:(xs.map AV.v)[j]=.v (xs[j]'(by simpa using h2)):=by simp
   rw [e] at q0
   have q:=rep_v (ρ:=π) (.stat (top_stat q0 rfl))
   rw [q]
   simp
 have hn:∀ p,((AV.v y).at p).isNode=false:=fun p=>rs_at (RepS.v (I:=I) y) p
 have hm:∀ {i T p},outMem (xs.map AV.v).length [] (.v y) i=some T→(T.at p).isNode=true→False:=fun {i T p} h1 h2=>by
  unfold outMem at h1
  split at h1
  ·cases h1;rw [hn p] at h2;cases h2
  ·simp at h1
 refine (hs I w hI).mono ?_
 rintro e w' ⟨rfl,k,os,rfl⟩
 refine ⟨I,π,y,rfl,hI.same fun b o x hx=>grow_block w k os (hI.lt hx),⟨fun i T p h1=>?_,fun i T p k h1 h2 _=>(hm h1 h2).elim,fun i T p k i' T' p' k' h1 h2 _ _ _ _ _=>(hm h1 h2).elim⟩,.inr ⟨rfl,.v y⟩,fun j T hT=>by simp at hT,⟨rfl,rfl,rfl,grow_size w k os,fun b h1 _=>grow_block w k os h1⟩,fun _ _ _=>rfl,fun b ⟨i,T,p,k,h1,h2,_⟩=>(hm h1 h2).elim⟩
 cases hnn:(T.at p).isNode with
 | false=>exact node_false hnn
 | true=>exact (hm h1 hnn).elim
end Go.AM
set_option maxRecDepth 8000
namespace Go.AM
namespace Door
/-! texts that are joined,plainly;the library's Join in this machine's words -/
theorem join_snoc (xs:List (List UInt8)) (x sep:List UInt8):Lib.join (xs++[x]) sep=Lib.join xs sep++(if xs=[] then [] else sep)++x:=by
 cases xs with
 | nil=>simp [Lib.join_nil,Lib.join_one]
 | cons a r =>
  rw [List.cons_append,Lib.join_cons,Lib.join_cons]
  simp [Lib.joinTail,List.append_assoc]
theorem join_take (xs:List (List UInt8)) (sep:List UInt8) (k:Nat) (h:k<xs.length):Lib.join (xs.take (k+1)) sep=Lib.join (xs.take k) sep++(if k=0 then [] else sep)++xs.getD k []:=by
 rw [take_succ_eq xs k [] h,join_snoc]
 by_cases hk:k=0
 ·subst hk;simp
 ·have:xs.take k≠[]:=by
   intro e
   have:=congrArg List.length e
   rw [List.length_take,List.length_nil] at this
   omega
  simp [hk,this]
theorem lens_le (b:Nat):∀ xs:List (List UInt8),(∀ x∈xs,x.length≤b)→Lib.lens xs≤b*xs.length
 | [],_=>by simp [Lib.lens]
 | x :: r,h=>by
  have h1:=lens_le b r fun y hy=>h y (List.mem_cons_of_mem _ hy)
  have h2:=h x List.mem_cons_self
  simp only [Lib.lens,List.map_cons,List.sum_cons,List.length_cons] at h1 ⊢
  rw [Nat.mul_succ];omega
theorem join_len (xs:List (List UInt8)) (sep:List UInt8) (b:Nat) (h:∀ x∈xs,x.length≤b):(Lib.join xs sep).length≤(b+sep.length)*xs.length:=by
 cases xs with
 | nil=>simp [Lib.join_nil]
 | cons x r =>
  rw [Lib.join_cons,List.length_append,Lib.joinTail_length]
  have h1:=lens_le b r fun y hy=>h y (List.mem_cons_of_mem _ hy)
  have h2:=h x List.mem_cons_self
  simp only [List.length_cons]
  rw [Nat.add_mul,Nat.mul_succ,Nat.mul_succ];omega
def jn (l:List Int):List UInt8:=Lib.join (l.map Lib.itoa) [32]
theorem itoa_len {x:Int} (h:intOk x):(Lib.itoa x).length≤21:=Lib.itoa_length_le x h.1 h.2
theorem jn_len (l:List Int) (h:∀ x∈l,intOk x):(jn l).length≤22*l.length:=by
 have:=join_len (l.map Lib.itoa) [32] 21 (fun x hx=>by
  obtain ⟨y,hy,rfl⟩:=List.mem_map.1 hx
  exact itoa_len (h y hy))
 simpa [jn] using this
theorem spec_stat {P:Program} {f:FuncId} (hb:HasBody P f) (args:List AV) (hst:args.all (fun a=>!a.nodeB)=true) (y:Value)
  (hs:∀ I w (vals:Array Value),Held I w→vals.size=args.length→(∀ j (hj:j<args.length) (hk:j<vals.size),RepS I (args[j]) (vals[j]))→Calls P f vals w fun e w'=>e=.returned y∧RowKit.Below w.heap.size w w'):SpecAt P f args (.v y):=by
 refine ⟨hb,by simp,fun j T hj=>by simp at hj,fun I π w vals hI hvs hsep htop=>?_⟩
 have hn:∀ p,((AV.v y).at p).isNode=false:=fun p=>rs_at (RepS.v (I:=I) y) p
 have hm:∀ {i T p},outMem args.length [] (.v y) i=some T→(T.at p).isNode=true→False:=fun {i T p} h1 h2=>by
  unfold outMem at h1
  split at h1
  ·cases h1;rw [hn p] at h2;cases h2
  ·simp at h1
 refine (hs I w vals hI hvs fun j hj hk=>top_stat (htop j hj hk) (by
  have:=List.all_eq_true.1 hst _ (List.getElem_mem hj)
  simpa using this)).mono ?_
 rintro e w' ⟨rfl,hbel⟩
 refine ⟨I,π,y,rfl,hI.same fun b o x hx=>hbel.block b (hI.lt hx),⟨fun i T p h1=>?_,fun i T p k h1 h2 _=>(hm h1 h2).elim,fun i T p k i' T' p' k' h1 h2 _ _ _ _ _=>(hm h1 h2).elim⟩,.inr ⟨rfl,.v y⟩,fun j T hT=>by simp at hT,⟨hbel.os,hbel.tape,hbel.output,hbel.size,fun b h1 _=>hbel.block b h1⟩,fun _ _ _=>rfl,fun b ⟨i,T,p,k,h1,h2,_⟩=>(hm h1 h2).elim⟩
 cases hnn:(T.at p).isNode with
 | false=>exact node_false hnn
 | true=>exact (hm h1 hnn).elim
theorem spec_join {P:Program} {f:FuncId} (hb:HasBody P f)
  (hs:∀ (bk o c:Nat) (xs:List ByteArray) (sep:ByteArray) (w:World),(∀ (j:Nat) x,xs[j]? = some x→w.cell? ⟨bk,o+j,none⟩=some (.string x))→bk<w.heap.size→xs.length≤140737488355328→xs.length≤c →
   (Lib.join (xs.map (·.data.toList)) sep.data.toList).length≤140737488355328 →
   Calls P f #[.slice (some ⟨bk,o,none⟩) xs.length c,.string sep] w fun e w'=>e=.returned (.string ⟨(Lib.join (xs.map (·.data.toList)) sep.data.toList).toArray⟩)∧RowKit.Below w.heap.size w w')
  (hn:∀ (a:Option Addr) (c:Nat) (sep:ByteArray) (w:World),Calls P f #[.slice a 0 c,.string sep] w fun e w'=>e=.returned (.string ⟨#[]⟩)∧w'=w)
  (xs:List (List UInt8)) (sep:List UInt8) (hN:xs.length≤1099511627776) (hl:(Lib.join xs sep).length≤140737488355328):SpecAt P f [.sl 1 (xs.map AV.st),.st sep] (.st (Lib.join xs sep)):=by
 refine spec_stat hb _ rfl _ fun I w vals hI hvs hr=>?_
 obtain ⟨v0,v1,rfl⟩:∃ v0 v1,vals = #[v0,v1]:=by
  match vals,hvs with
  | ⟨[a,b]⟩,_=>exact ⟨a,b,rfl⟩
 have h0:=hr 0 (by simp) (by simp)
 have h1:=hr 1 (by simp) (by simp)
 have e1:v1=.string ⟨sep.toArray⟩:=by
  have h1:RepS I (.st sep) v1:=h1
  cases h1;rfl
 subst e1
 have h0:RepS I (.sl 1 (xs.map AV.st)) v0:=h0
 have nil:∀ a c,xs=[]→v0=.slice a 0 c→Calls P f #[v0,.string ⟨sep.toArray⟩] w fun e w'=>e=.returned (.string ⟨(Lib.join xs sep).toArray⟩)∧RowKit.Below w.heap.size w w':=by
  rintro a c rfl rfl
  refine (hn a c _ w).mono ?_
  rintro e w' ⟨rfl,rfl⟩
  exact ⟨by rw [Lib.join_nil],⟨rfl,rfl,rfl,Nat.le_refl _,fun _ _=>rfl⟩⟩
 generalize hes:xs.map AV.st=es at h0
 cases h0 with
 | nil _ a=>exact nil a 0 (by simpa using hes) rfl
 | nila _ a c=>exact nil (some a) c (by simpa using hes) rfl
 | sl _ _ b off cap vs hsz hc hI' hr' =>
  subst hes
  by_cases hx:xs=[]
  ·have:=nil (some ⟨b,off,none⟩) cap hx (by simp [hx])
   exact this
  have hcell:∀ i (hi:i<xs.length),w.cell? ⟨b,off+i,none⟩=some (.string ⟨(xs[i]).toArray⟩):=fun i hi=>by
   have hi':i<(xs.map AV.st).length:=by simpa using hi
   have q:=(hI.cell b (off+i*1+0) _ (hI' i hi' 0 (by omega))).1
   have hlen:0<(((xs.map AV.st)[i]).cells).length:=by simp [AV.cells]
   have q2:=hr' i hi' 0 hlen
   have e:(((xs.map AV.st)[i]).cells)[0]=AV.st (xs[i]):=by simp [AV.cells]
   rw [e] at q2
   have q3:vs i 0=.string ⟨(xs[i]).toArray⟩:=by
    generalize hv:vs i 0=v at q2
    cases q2;rfl
   rw [q3] at q
   simpa using q
  have hblk:b<w.heap.size:=by
   have hpos:0<xs.length:=List.length_pos_iff.2 hx
   exact hI.lt (hI' 0 (by simpa using hpos) 0 (by omega))
  have key:=hs b off cap (xs.map fun l=>⟨l.toArray⟩) ⟨sep.toArray⟩ w (fun j x hj=>by
   rw [List.getElem?_map] at hj
   obtain ⟨l,hl1,rfl⟩:=Option.map_eq_some_iff.1 hj
   obtain ⟨hlt,rfl⟩:=List.getElem?_eq_some_iff.1 hl1
   exact hcell j hlt) hblk (by simp;omega) (by simpa using hc) (by
    have e:((xs.map fun l=>(⟨l.toArray⟩:ByteArray)).map (·.data.toList))=xs:=by simp [List.map_map,Function.comp_def]
    rw [e];exact hl)
  have e:((xs.map fun l=>(⟨l.toArray⟩:ByteArray)).map (·.data.toList))=xs:=by simp [List.map_map,Function.comp_def]
  rw [e] at key
  simpa using key
end Door
end Go.AM
namespace Go.Proofs
open Go.Shelf
def Tryz.fmtL_ren:Go.Shelf.Ren:=⟨fun | 173=>119 | 246=>142 | 283=>154 | 284=>155 | 285=>156 | 286=>157 | 129=>168 | 317=>167 | 318=>169 | 319=>170 | 320=>171 | 337=>183 | 338=>184 | n=>n,fun | 2=>2 | 3=>3 | 9=>9 | 4=>4 | 171=>170 | 0=>0 | 53=>171 | 37=>22 | 5=>5 | 173=>174 | 212=>183 | 51=>184 | 20=>20 | 213=>185 | 46=>162 | 232=>208 | 233=>209 | n=>n,fun | 17=>0 | 18=>6 | 19=>7 | n=>n⟩
theorem Tryz.fmtL:Go.Proofs.LaysM.n173 Tryz.prog Tryz.fmtL_ren:={
 mixed:=by kernel_rfl
 f129:=Tryz.func168.trans (congrArg some (by kernel_rfl))
 f173:=Tryz.func119.trans (congrArg some (by kernel_rfl))
 f246:=Tryz.func142.trans (congrArg some (by kernel_rfl))
 f283:=Tryz.func154.trans (congrArg some (by kernel_rfl))
 f284:=Tryz.func155.trans (congrArg some (by kernel_rfl))
 f285:=Tryz.func156.trans (congrArg some (by kernel_rfl))
 f286:=Tryz.func157.trans (congrArg some (by kernel_rfl))
 f317:=Tryz.func167.trans (congrArg some (by kernel_rfl))
 f318:=Tryz.func169.trans (congrArg some (by kernel_rfl))
 f319:=Tryz.func170.trans (congrArg some (by kernel_rfl))
 f320:=Tryz.func171.trans (congrArg some (by kernel_rfl))
 f337:=Tryz.func183.trans (congrArg some (by kernel_rfl))
 f338:=Tryz.func184.trans (congrArg some (by kernel_rfl))
 t0:=Tryz.underlying0
 a0:=Tryz.isAgg0
 z0:=Tryz.sizeOf0
 v0:=Tryz.zeroValue0
 t2:=Tryz.underlying2
 a2:=Tryz.isAgg2
 z2:=Tryz.sizeOf2
 v2:=Tryz.zeroValue2
 t3:=Tryz.underlying3
 a3:=Tryz.isAgg3
 z3:=Tryz.sizeOf3
 v3:=Tryz.zeroValue3
 t4:=Tryz.underlying4
 a4:=Tryz.isAgg4
 z4:=Tryz.sizeOf4
 v4:=Tryz.zeroValue4
 t5:=Tryz.underlying5
 a5:=Tryz.isAgg5
 z5:=Tryz.sizeOf5
 v5:=Tryz.zeroValue5
 t9:=Tryz.underlying9
 a9:=Tryz.isAgg9
 z9:=Tryz.sizeOf9
 v9:=Tryz.zeroValue9
 t20:=Tryz.underlying20
 a20:=Tryz.isAgg20
 z20:=Tryz.sizeOf20
 v20:=Tryz.zeroValue20
 t37:=Tryz.underlying22
 a37:=Tryz.isAgg22
 z37:=Tryz.sizeOf22
 v37:=Tryz.zeroValue22
 t46:=Tryz.underlying162
 a46:=Tryz.isAgg162
 z46:=Tryz.sizeOf162
 v46:=Tryz.zeroValue162
 t51:=Tryz.underlying184
 a51:=Tryz.isAgg184
 z51:=Tryz.sizeOf184
 v51:=Tryz.zeroValue184
 t53:=Tryz.underlying171
 a53:=Tryz.isAgg171
 z53:=Tryz.sizeOf171
 v53:=Tryz.zeroValue171
 t171:=Tryz.underlying170
 a171:=Tryz.isAgg170
 z171:=Tryz.sizeOf170
 v171:=Tryz.zeroValue170
 t173:=Tryz.underlying174
 a173:=Tryz.isAgg174
 z173:=Tryz.sizeOf174
 v173:=Tryz.zeroValue174
 t212:=Tryz.underlying183
 a212:=Tryz.isAgg183
 z212:=Tryz.sizeOf183
 v212:=Tryz.zeroValue183
 t213:=Tryz.underlying185
 a213:=Tryz.isAgg185
 z213:=Tryz.sizeOf185
 t232:=Tryz.underlying208
 a232:=Tryz.isAgg208
 z232:=Tryz.sizeOf208
 v232:=Tryz.zeroValue208
 t233:=Tryz.underlying209
 a233:=Tryz.isAgg209
 z233:=Tryz.sizeOf209
 v233:=Tryz.zeroValue209
 g17:=by kernel_rfl
 g18:=by kernel_rfl
 g19:=by kernel_rfl
 i0:=by kernel_rfl
 i2:=by kernel_rfl
 i3:=by kernel_rfl
 i4:=by kernel_rfl
 i5:=by kernel_rfl
 i9:=by kernel_rfl
 i20:=by kernel_rfl
 i37:=by kernel_rfl
 i46:=by kernel_rfl
 i51:=by kernel_rfl
 i53:=by kernel_rfl
 i171:=by kernel_rfl
 i173:=by kernel_rfl
 i212:=by kernel_rfl
 i232:=by kernel_rfl
 i233:=by kernel_rfl
 m17:=by kernel_rfl
 m18:=by kernel_rfl
 m19:=by kernel_rfl }
def Tryz.joinL_ren:Go.Shelf.Ren:=⟨fun | 156=>120 | 165=>143 | 166=>144 | 169=>145 | 240=>158 | 241=>159 | 276=>172 | 277=>173 | n=>n,fun | 31=>78 | 9=>9 | 3=>3 | 4=>4 | 0=>0 | 20=>20 | 72=>156 | 76=>160 | 70=>154 | 37=>22 | 75=>159 | 127=>176 | 164=>188 | 5=>5 | 80=>128 | n=>n,fun | n=>n⟩
theorem Tryz.joinL:Go.Proofs.Lays.n156 Tryz.prog Tryz.joinL_ren:={
 mixed:=by kernel_rfl
 f156:=Tryz.func120.trans (congrArg some (by kernel_rfl))
 f165:=Tryz.func143.trans (congrArg some (by kernel_rfl))
 f166:=Tryz.func144.trans (congrArg some (by kernel_rfl))
 f169:=Tryz.func145.trans (congrArg some (by kernel_rfl))
 f240:=Tryz.func158.trans (congrArg some (by kernel_rfl))
 f241:=Tryz.func159.trans (congrArg some (by kernel_rfl))
 f276:=Tryz.func172.trans (congrArg some (by kernel_rfl))
 f277:=Tryz.func173.trans (congrArg some (by kernel_rfl))
 t0:=Tryz.underlying0
 a0:=Tryz.isAgg0
 z0:=Tryz.sizeOf0
 v0:=Tryz.zeroValue0
 t3:=Tryz.underlying3
 a3:=Tryz.isAgg3
 z3:=Tryz.sizeOf3
 v3:=Tryz.zeroValue3
 t4:=Tryz.underlying4
 a4:=Tryz.isAgg4
 z4:=Tryz.sizeOf4
 v4:=Tryz.zeroValue4
 t9:=Tryz.underlying9
 a9:=Tryz.isAgg9
 z9:=Tryz.sizeOf9
 v9:=Tryz.zeroValue9
 t20:=Tryz.underlying20
 a20:=Tryz.isAgg20
 z20:=Tryz.sizeOf20
 v20:=Tryz.zeroValue20
 t31:=Tryz.underlying78
 a31:=Tryz.isAgg78
 z31:=Tryz.sizeOf78
 v31:=Tryz.zeroValue78
 t37:=Tryz.underlying22
 a37:=Tryz.isAgg22
 z37:=Tryz.sizeOf22
 v37:=Tryz.zeroValue22
 t70:=Tryz.underlying154
 a70:=Tryz.isAgg154
 z70:=Tryz.sizeOf154
 v70:=Tryz.zeroValue154
 t72:=Tryz.underlying156
 a72:=Tryz.isAgg156
 z72:=Tryz.sizeOf156
 v72:=Tryz.zeroValue156
 t75:=Tryz.underlying159
 a75:=Tryz.isAgg159
 z75:=Tryz.sizeOf159
 v75:=Tryz.zeroValue159
 t76:=Tryz.underlying160
 a76:=Tryz.isAgg160
 z76:=Tryz.sizeOf160
 v76:=Tryz.zeroValue160
 t127:=Tryz.underlying176
 a127:=Tryz.isAgg176
 z127:=Tryz.sizeOf176
 v127:=Tryz.zeroValue176
 t164:=Tryz.underlying188
 a164:=Tryz.isAgg188
 z164:=Tryz.sizeOf188
 v164:=Tryz.zeroValue188 }
theorem Tryz.joinX:Builder.Extra Tryz.prog Tryz.joinL_ren:={
 sizeBuilder:=by kernel_rfl
 liesBuilder:=by kernel_rfl
 t5:=Tryz.underlying5
 a5:=Tryz.isAgg5
 z5:=Tryz.sizeOf5
 v5:=Tryz.zeroValue5
 infoByte:=by kernel_rfl
 cellsByte:=by kernel_rfl
 sizeByte:=by kernel_rfl
 neB5:=by decide }
def Tryz.indexL_ren:Go.Shelf.Ren:=⟨fun | 137=>131 | 217=>146 | 266=>160 | n=>n,fun | 9=>9 | 5=>5 | 3=>3 | n=>n,fun | n=>n⟩
theorem Tryz.indexL:Go.Proofs.Lays.n137 Tryz.prog Tryz.indexL_ren:={
 mixed:=by kernel_rfl
 f137:=Tryz.func131.trans (congrArg some (by kernel_rfl))
 f217:=Tryz.func146.trans (congrArg some (by kernel_rfl))
 f266:=Tryz.func160.trans (congrArg some (by kernel_rfl))
 t3:=Tryz.underlying3
 a3:=Tryz.isAgg3
 z3:=Tryz.sizeOf3
 v3:=Tryz.zeroValue3
 t5:=Tryz.underlying5
 a5:=Tryz.isAgg5
 z5:=Tryz.sizeOf5
 v5:=Tryz.zeroValue5
 t9:=Tryz.underlying9
 a9:=Tryz.isAgg9
 z9:=Tryz.sizeOf9
 v9:=Tryz.zeroValue9 }
def Tryz.splitL_ren:Go.Shelf.Ren:=⟨fun | 146=>106 | 221=>134 | 268=>149 | 138=>150 | 143=>151 | 195=>161 | 197=>162 | 218=>163 | 219=>164 | 260=>174 | 217=>146 | 225=>175 | 224=>176 | 267=>177 | 266=>160 | 314=>185 | n=>n,fun | 9=>9 | 31=>78 | 3=>3 | 4=>4 | 0=>0 | 105=>178 | 21=>21 | 5=>5 | 46=>162 | 119=>198 | 139=>201 | 138=>200 | 146=>202 | 51=>184 | n=>n,fun | 1=>1 | 3=>2 | 4=>3 | n=>n⟩
theorem Tryz.splitL:Go.Proofs.LaysM.n146 Tryz.prog Tryz.splitL_ren:={
 mixed:=by kernel_rfl
 f138:=Tryz.func150.trans (congrArg some (by kernel_rfl))
 f143:=Tryz.func151.trans (congrArg some (by kernel_rfl))
 f146:=Tryz.func106.trans (congrArg some (by kernel_rfl))
 f195:=Tryz.func161.trans (congrArg some (by kernel_rfl))
 f197:=Tryz.func162.trans (congrArg some (by kernel_rfl))
 f217:=Tryz.func146.trans (congrArg some (by kernel_rfl))
 f218:=Tryz.func163.trans (congrArg some (by kernel_rfl))
 f219:=Tryz.func164.trans (congrArg some (by kernel_rfl))
 f221:=Tryz.func134.trans (congrArg some (by kernel_rfl))
 f224:=Tryz.func176.trans (congrArg some (by kernel_rfl))
 f225:=Tryz.func175.trans (congrArg some (by kernel_rfl))
 f260:=Tryz.func174.trans (congrArg some (by kernel_rfl))
 f266:=Tryz.func160.trans (congrArg some (by kernel_rfl))
 f267:=Tryz.func177.trans (congrArg some (by kernel_rfl))
 f268:=Tryz.func149.trans (congrArg some (by kernel_rfl))
 f314:=Tryz.func185.trans (congrArg some (by kernel_rfl))
 t0:=Tryz.underlying0
 a0:=Tryz.isAgg0
 z0:=Tryz.sizeOf0
 v0:=Tryz.zeroValue0
 t3:=Tryz.underlying3
 a3:=Tryz.isAgg3
 z3:=Tryz.sizeOf3
 v3:=Tryz.zeroValue3
 t4:=Tryz.underlying4
 a4:=Tryz.isAgg4
 z4:=Tryz.sizeOf4
 v4:=Tryz.zeroValue4
 t5:=Tryz.underlying5
 a5:=Tryz.isAgg5
 z5:=Tryz.sizeOf5
 v5:=Tryz.zeroValue5
 t9:=Tryz.underlying9
 a9:=Tryz.isAgg9
 z9:=Tryz.sizeOf9
 v9:=Tryz.zeroValue9
 t21:=Tryz.underlying21
 a21:=Tryz.isAgg21
 z21:=Tryz.sizeOf21
 v21:=Tryz.zeroValue21
 t31:=Tryz.underlying78
 a31:=Tryz.isAgg78
 z31:=Tryz.sizeOf78
 v31:=Tryz.zeroValue78
 t46:=Tryz.underlying162
 a46:=Tryz.isAgg162
 z46:=Tryz.sizeOf162
 v46:=Tryz.zeroValue162
 t51:=Tryz.underlying184
 a51:=Tryz.isAgg184
 z51:=Tryz.sizeOf184
 v51:=Tryz.zeroValue184
 t105:=Tryz.underlying178
 a105:=Tryz.isAgg178
 z105:=Tryz.sizeOf178
 v105:=Tryz.zeroValue178
 t119:=Tryz.underlying198
 a119:=Tryz.isAgg198
 z119:=Tryz.sizeOf198
 t138:=Tryz.underlying200
 a138:=Tryz.isAgg200
 z138:=Tryz.sizeOf200
 v138:=Tryz.zeroValue200
 t139:=Tryz.underlying201
 a139:=Tryz.isAgg201
 z139:=Tryz.sizeOf201
 v139:=Tryz.zeroValue201
 t146:=Tryz.underlying202
 a146:=Tryz.isAgg202
 z146:=Tryz.sizeOf202
 v146:=Tryz.zeroValue202
 g1:=by kernel_rfl
 g3:=by kernel_rfl
 g4:=by kernel_rfl
 i0:=by kernel_rfl
 i3:=by kernel_rfl
 i4:=by kernel_rfl
 i5:=by kernel_rfl
 i9:=by kernel_rfl
 i21:=by kernel_rfl
 i31:=by kernel_rfl
 i46:=by kernel_rfl
 i51:=by kernel_rfl
 i105:=by kernel_rfl
 i138:=by kernel_rfl
 i139:=by kernel_rfl
 i146:=by kernel_rfl
 m1:=by kernel_rfl
 s1_3:=fun w h=>Go.Proofs.cell_of_shapedOpen_int (zero:=#[.int .i64 0]) (t:=3) h (of_decide_eq_true (by kernel_rfl)) (by kernel_rfl) rfl (by kernel_rfl) (by kernel_rfl) Tryz.underlying3
 m3:=by kernel_rfl
 m4:=by kernel_rfl }
def Tryz.parseL_ren:Go.Shelf.Ren:=⟨fun | 174=>152 | 247=>165 | 245=>166 | 287=>178 | 279=>179 | 280=>180 | 281=>181 | 282=>182 | 321=>186 | 322=>187 | 316=>188 | 171=>190 | 205=>189 | 243=>191 | 246=>142 | 283=>154 | 284=>155 | 285=>156 | 286=>157 | 129=>168 | 317=>167 | 318=>169 | 319=>170 | 320=>171 | 337=>183 | 338=>184 | n=>n,fun | 9=>9 | 3=>3 | 2=>2 | 75=>159 | 85=>166 | 4=>4 | 167=>191 | 5=>5 | 53=>171 | 175=>192 | 46=>162 | 168=>194 | 37=>22 | 0=>0 | 210=>206 | 21=>21 | 127=>176 | 145=>212 | 143=>210 | 171=>170 | 173=>174 | 212=>183 | 51=>184 | 20=>20 | 213=>185 | 232=>208 | 233=>209 | 80=>128 | n=>n,fun | 15=>4 | 16=>5 | 17=>0 | 18=>6 | 19=>7 | n=>n⟩
theorem Tryz.parseL:Go.Proofs.LaysC.n174 Tryz.prog Tryz.parseL_ren:={
 mixed:=by kernel_rfl
 f129:=Tryz.func168.trans (congrArg some (by kernel_rfl))
 f171:=Tryz.func190.trans (congrArg some (by kernel_rfl))
 f174:=Tryz.func152.trans (congrArg some (by kernel_rfl))
 f205:=Tryz.func189.trans (congrArg some (by kernel_rfl))
 f243:=Tryz.func191.trans (congrArg some (by kernel_rfl))
 f245:=Tryz.func166.trans (congrArg some (by kernel_rfl))
 f246:=Tryz.func142.trans (congrArg some (by kernel_rfl))
 f247:=Tryz.func165.trans (congrArg some (by kernel_rfl))
 f279:=Tryz.func179.trans (congrArg some (by kernel_rfl))
 f280:=Tryz.func180.trans (congrArg some (by kernel_rfl))
 f281:=Tryz.func181.trans (congrArg some (by kernel_rfl))
 f282:=Tryz.func182.trans (congrArg some (by kernel_rfl))
 f283:=Tryz.func154.trans (congrArg some (by kernel_rfl))
 f284:=Tryz.func155.trans (congrArg some (by kernel_rfl))
 f285:=Tryz.func156.trans (congrArg some (by kernel_rfl))
 f286:=Tryz.func157.trans (congrArg some (by kernel_rfl))
 f287:=Tryz.func178.trans (congrArg some (by kernel_rfl))
 f316:=Tryz.func188.trans (congrArg some (by kernel_rfl))
 f317:=Tryz.func167.trans (congrArg some (by kernel_rfl))
 f318:=Tryz.func169.trans (congrArg some (by kernel_rfl))
 f319:=Tryz.func170.trans (congrArg some (by kernel_rfl))
 f320:=Tryz.func171.trans (congrArg some (by kernel_rfl))
 f321:=Tryz.func186.trans (congrArg some (by kernel_rfl))
 f322:=Tryz.func187.trans (congrArg some (by kernel_rfl))
 f337:=Tryz.func183.trans (congrArg some (by kernel_rfl))
 f338:=Tryz.func184.trans (congrArg some (by kernel_rfl))
 t0:=Tryz.underlying0
 a0:=Tryz.isAgg0
 z0:=Tryz.sizeOf0
 v0:=Tryz.zeroValue0
 t2:=Tryz.underlying2
 a2:=Tryz.isAgg2
 z2:=Tryz.sizeOf2
 v2:=Tryz.zeroValue2
 t3:=Tryz.underlying3
 a3:=Tryz.isAgg3
 z3:=Tryz.sizeOf3
 v3:=Tryz.zeroValue3
 t4:=Tryz.underlying4
 a4:=Tryz.isAgg4
 z4:=Tryz.sizeOf4
 v4:=Tryz.zeroValue4
 t5:=Tryz.underlying5
 a5:=Tryz.isAgg5
 z5:=Tryz.sizeOf5
 v5:=Tryz.zeroValue5
 t9:=Tryz.underlying9
 a9:=Tryz.isAgg9
 z9:=Tryz.sizeOf9
 v9:=Tryz.zeroValue9
 t20:=Tryz.underlying20
 a20:=Tryz.isAgg20
 z20:=Tryz.sizeOf20
 v20:=Tryz.zeroValue20
 t21:=Tryz.underlying21
 a21:=Tryz.isAgg21
 z21:=Tryz.sizeOf21
 v21:=Tryz.zeroValue21
 t37:=Tryz.underlying22
 a37:=Tryz.isAgg22
 z37:=Tryz.sizeOf22
 v37:=Tryz.zeroValue22
 t46:=Tryz.underlying162
 a46:=Tryz.isAgg162
 z46:=Tryz.sizeOf162
 v46:=Tryz.zeroValue162
 t51:=Tryz.underlying184
 a51:=Tryz.isAgg184
 z51:=Tryz.sizeOf184
 v51:=Tryz.zeroValue184
 t53:=Tryz.underlying171
 a53:=Tryz.isAgg171
 z53:=Tryz.sizeOf171
 v53:=Tryz.zeroValue171
 t75:=Tryz.underlying159
 a75:=Tryz.isAgg159
 z75:=Tryz.sizeOf159
 v75:=Tryz.zeroValue159
 t85:=Tryz.underlying166
 a85:=Tryz.isAgg166
 z85:=Tryz.sizeOf166
 v85:=Tryz.zeroValue166
 t127:=Tryz.underlying176
 a127:=Tryz.isAgg176
 z127:=Tryz.sizeOf176
 v127:=Tryz.zeroValue176
 t143:=Tryz.underlying210
 a143:=Tryz.isAgg210
 z143:=Tryz.sizeOf210
 v143:=Tryz.zeroValue210
 t145:=Tryz.underlying212
 a145:=Tryz.isAgg212
 z145:=Tryz.sizeOf212
 v145:=Tryz.zeroValue212
 t167:=Tryz.underlying191
 a167:=Tryz.isAgg191
 z167:=Tryz.sizeOf191
 v167:=Tryz.zeroValue191
 t168:=Tryz.underlying194
 a168:=Tryz.isAgg194
 z168:=Tryz.sizeOf194
 v168:=Tryz.zeroValue194
 t171:=Tryz.underlying170
 a171:=Tryz.isAgg170
 z171:=Tryz.sizeOf170
 v171:=Tryz.zeroValue170
 t173:=Tryz.underlying174
 a173:=Tryz.isAgg174
 z173:=Tryz.sizeOf174
 v173:=Tryz.zeroValue174
 t175:=Tryz.underlying192
 a175:=Tryz.isAgg192
 z175:=Tryz.sizeOf192
 v175:=Tryz.zeroValue192
 t210:=Tryz.underlying206
 a210:=Tryz.isAgg206
 z210:=Tryz.sizeOf206
 v210:=Tryz.zeroValue206
 t212:=Tryz.underlying183
 a212:=Tryz.isAgg183
 z212:=Tryz.sizeOf183
 v212:=Tryz.zeroValue183
 t213:=Tryz.underlying185
 a213:=Tryz.isAgg185
 z213:=Tryz.sizeOf185
 t232:=Tryz.underlying208
 a232:=Tryz.isAgg208
 z232:=Tryz.sizeOf208
 v232:=Tryz.zeroValue208
 t233:=Tryz.underlying209
 a233:=Tryz.isAgg209
 z233:=Tryz.sizeOf209
 v233:=Tryz.zeroValue209
 g15:=by kernel_rfl
 g16:=by kernel_rfl
 g17:=by kernel_rfl
 g18:=by kernel_rfl
 g19:=by kernel_rfl
 t80:=Tryz.underlying128
 a80:=Tryz.isAgg128
 z80:=Tryz.sizeOf128
 v80:=Tryz.zeroValue128
 i0:=by kernel_rfl
 i2:=by kernel_rfl
 i3:=by kernel_rfl
 i4:=by kernel_rfl
 i5:=by kernel_rfl
 i9:=by kernel_rfl
 i20:=by kernel_rfl
 i21:=by kernel_rfl
 i37:=by kernel_rfl
 i46:=by kernel_rfl
 i51:=by kernel_rfl
 i53:=by kernel_rfl
 i75:=by kernel_rfl
 i80:=by kernel_rfl
 i85:=by kernel_rfl
 i127:=by kernel_rfl
 i143:=by kernel_rfl
 i145:=by kernel_rfl
 i167:=by kernel_rfl
 i168:=by kernel_rfl
 i171:=by kernel_rfl
 i173:=by kernel_rfl
 i175:=by kernel_rfl
 i210:=by kernel_rfl
 i212:=by kernel_rfl
 i232:=by kernel_rfl
 i233:=by kernel_rfl
 m15:=by kernel_rfl
 m16:=by kernel_rfl
 m17:=by kernel_rfl
 m18:=by kernel_rfl
 m19:=by kernel_rfl
 c0:=by kernel_rfl
 c2:=by kernel_rfl
 c3:=by kernel_rfl
 c4:=by kernel_rfl
 c5:=by kernel_rfl
 c9:=by kernel_rfl
 c20:=by kernel_rfl
 c21:=by kernel_rfl
 c37:=by kernel_rfl
 c46:=by kernel_rfl
 c51:=by kernel_rfl
 c53:=by kernel_rfl
 c75:=by kernel_rfl
 c80:=by kernel_rfl
 c85:=by kernel_rfl
 c127:=by kernel_rfl
 c143:=by kernel_rfl
 c145:=by kernel_rfl
 c167:=by kernel_rfl
 c168:=by kernel_rfl
 c171:=by kernel_rfl
 c173:=by kernel_rfl
 c175:=by kernel_rfl
 c210:=by kernel_rfl
 c212:=by kernel_rfl
 c213:=by kernel_rfl
 c232:=by kernel_rfl
 c233:=by kernel_rfl }
end Go.Proofs
set_option maxRecDepth 8000
namespace Go.AM
namespace Door
open Go.Proofs
def wtr (xs:List (List UInt8)):AV:=.tr 1 (xs.map AV.st)
theorem stset (xs:List (List UInt8)) (i:Nat) (x:List UInt8):(xs.map AV.st).set i (.st x)=(xs.set i x).map AV.st:=by rw [List.map_set]
theorem stfz (xs:List (List UInt8)):(xs.map AV.st).map AV.fz=xs.map AV.st:=map_fz _ _ _ fun _=>fz_v _
theorem joinS (xs:List (List UInt8)) (sep:List UInt8) (hN:xs.length≤1099511627776) (hl:(Lib.join xs sep).length≤140737488355328):SpecAt Tryz.prog 120 [.sl 1 (xs.map AV.st),.st sep] (.st (Lib.join xs sep)) :=
 spec_join (f:=120) ⟨_,_,Tryz.func120,rfl,by decide⟩ (fun bk o c xs sep w h1 h2 h3 h4 h5=>Any.strings_Join Tryz.joinL Tryz.joinX bk o c xs sep w h1 h2 h3 h4 h5) (fun a c sep w=>Any.strings_Join_none Tryz.joinL Tryz.joinX a c sep w) xs sep hN hl
theorem pow10_row {I:Gh} {w:World} (h:Held I w):∃ t f,w.heap[powG]? = some (.cells (Lib.pow10Tab.map fun z=>Value.int .u64 z).toArray t f):=by
 obtain ⟨⟨⟨cs,t⟩,hc⟩,f,x,h1,_⟩:=h.base powG _ (List.mem_cons_self ..)
 obtain rfl:cs=_:=hc
 exact ⟨t,f,h1⟩
theorem fmtInt_gen (n:Int) (hn:intOk n):SpecAt Tryz.prog 119 [.i64 n,.i64 10] (AV.st (Lib.itoa n)) :=
 spec_static (f:=119) ⟨_,_,Tryz.func119,rfl,by decide⟩ [.int .i64 n,.int .i64 10] (.string ⟨(Lib.itoa n).toArray⟩) fun I w hI=>by
  obtain ⟨t,f,h1⟩:=pow10_row hI
  exact Any.strconv_FormatInt_10 Tryz.fmtL n hn.1 hn.2 w (tab_of (by kernel_rfl) h1)
theorem decimal_spec (n:Int) (hn:intOk n):SpecAt Tryz.prog 77 [.i64 n] (AV.st (Lib.itoa n)):=by
 refine spec_of_awp (M:=MM) (np:=1) (fz:=true) mixed Tryz.func77 rfl rfl (by decide) rfl (Nat.le_refl _) (by decide +kernel) (.inr ⟨rfl,rfl⟩) trivial ?_
 simp -dsimp -implicitDefEqProofs (disch:=first|omega|(simp only [lenr];try omega)) only [↓amPre,↓reduceIte,reduceCtorEq,reduceEqDiff,Nat.reduceBEq,reduceAdd,reduceLeDiff,reduceSub,reduceMul,reduceToNat,MM,bu0,cbP9,cbQ2,Door.stset,Door.stfz]
 refine callP_of (fmtInt_gen n hn) ?_
 simp -dsimp -implicitDefEqProofs (disch:=first|omega|(simp only [lenr];try omega)) only [↓amPre,↓reduceIte,reduceCtorEq,reduceEqDiff,Nat.reduceBEq,reduceAdd,reduceLeDiff,reduceSub,reduceMul,reduceToNat,MM,bu0,cbP9,cbQ2,Door.stset,Door.stfz]
theorem joinNumbers (l:List Int) (hl:l.length≤1048576) (hi:∀ x∈l,intOk x):SpecAt Tryz.prog 78 [isl l,.st [32]] (.st (jn l)):=by
 refine spec_of_awp (M:=MM) (np:=2) (fz:=true) mixed Tryz.func78 rfl rfl (by decide) rfl (Nat.le_refl _) (by decide +kernel) (.inr ⟨rfl,rfl⟩) trivial ?_
 simp -dsimp -implicitDefEqProofs (disch:=first|omega|(simp only [lenr];try omega)) only [↓amPre,↓reduceIte,reduceCtorEq,reduceEqDiff,Nat.reduceBEq,reduceAdd,reduceLeDiff,reduceSub,reduceMul,reduceToNat,MM,bu0,cbP9,cbQ2,Door.stset,Door.stfz]
 refine awp_loop (fun j st=>j≤l.length∧st.fr 13=.i64 j∧st.fr 11=isl l∧st.fr 12=.i64 l.length∧st.fr 5=.ref 10 [] 1 0 l.length∧st.fr 1=.st [32]∧st.mem 10=some (wtr (mixL (l.map Lib.itoa) (List.replicate l.length []) j))) (l.length) ?_ ?_
 ·simp -dsimp -implicitDefEqProofs (disch:=first|omega|(simp only [lenr];try omega)) only [↓amPre,↓reduceIte,reduceCtorEq,reduceEqDiff,Nat.reduceBEq,reduceAdd,reduceLeDiff,reduceSub,reduceMul,reduceToNat,MM,bu0,cbP9,cbQ2,Door.stset,Door.stfz,mixL_zero]
  simp [wtr]
 rintro j st _ ⟨hj,f13,f11,f12,f5,f1,m10⟩
 have hr:(l.map Lib.itoa).length=(List.replicate l.length ([]:List UInt8)).length:=by simp
 have hm:=mixL_len (l.map Lib.itoa) (List.replicate l.length []) j hr
 have hrl:(List.replicate l.length ([]:List UInt8)).length=l.length:=by simp
 by_cases hlt:j<l.length
 ·have hs:=mixL_set (l.map Lib.itoa) (List.replicate l.length []) j [] hr (by omega)
  have hg:(l.map Lib.itoa).getD j []=Lib.itoa (l.getD j 0):=by simp [List.getD,hlt]
  rw [hg] at hs
  have hx:intOk (l.getD j 0):=by rw [getD_eq _ _ _ hlt];exact hi _ (List.getElem_mem hlt)
  simp -dsimp -implicitDefEqProofs (disch:=first|omega|(simp only [lenr];try omega)) only [↓amPre,↓reduceIte,reduceCtorEq,reduceEqDiff,Nat.reduceBEq,reduceAdd,reduceLeDiff,reduceSub,reduceMul,reduceToNat,MM,bu0,cbP9,cbQ2,Door.stset,Door.stfz,f13,f11,f12,f5,f1,m10,hm,hrl]
  refine callP_of (decimal_spec _ hx) ?_
  simp -dsimp -implicitDefEqProofs (disch:=first|omega|(simp only [lenr];try omega)) only [↓amPre,↓reduceIte,reduceCtorEq,reduceEqDiff,Nat.reduceBEq,reduceAdd,reduceLeDiff,reduceSub,reduceMul,reduceToNat,MM,bu0,cbP9,cbQ2,Door.stset,Door.stfz,f13,f11,f12,f5,f1,m10,hm,hrl,wtr,stset,hs]
  repeat' (first|omega|rfl|exact i64c (by omega)|exact vic (by omega)|apply ai)
 ·have hj':j=l.length:=by omega
  subst hj'
  have:=mixL_all (l.map Lib.itoa) (List.replicate l.length []) l.length (by simp) (by simp)
  have hjl:=jn_len l hi
  have hN:(l.map Lib.itoa).length≤1099511627776:=by simp;omega
  have hJ:=joinS (l.map Lib.itoa) [32] hN (by unfold jn at hjl;omega)
  simp -dsimp -implicitDefEqProofs (disch:=first|omega|(simp only [lenr];try omega)) only [↓amPre,↓reduceIte,reduceCtorEq,reduceEqDiff,Nat.reduceBEq,reduceAdd,reduceLeDiff,reduceSub,reduceMul,reduceToNat,MM,bu0,cbP9,cbQ2,Door.stset,Door.stfz,f13,f11,f12,f5,f1,m10,hm,hrl,this,wtr]
  refine callP_of (hJ) ?_
  simp -dsimp -implicitDefEqProofs (disch:=first|omega|(simp only [lenr];try omega)) only [↓amPre,↓reduceIte,reduceCtorEq,reduceEqDiff,Nat.reduceBEq,reduceAdd,reduceLeDiff,reduceSub,reduceMul,reduceToNat,MM,bu0,cbP9,cbQ2,Door.stset,Door.stfz,f13,f11,f12,f5,f1,m10,this]
  rfl
theorem joinText (xs:List (List UInt8)) (sep:List UInt8) (hN:xs.length≤1048576) (hb:∀ x∈xs,x.length≤21) (hs:sep.length≤1):SpecAt Tryz.prog 136 [.sl 1 (xs.map AV.st),.st sep] (.st (Lib.join xs sep)):=by
 have jl:∀ k,(Lib.join (xs.take k) sep).length≤23068672:=fun k=>by
  have h1:=join_len (xs.take k) sep 21 fun x hx=>hb x (List.mem_of_mem_take hx)
  have h2:(xs.take k).length≤1048576:=by rw [List.length_take];omega
  calc _≤(21+sep.length)*(xs.take k).length:=h1
   _≤22*1048576:=Nat.mul_le_mul (by omega) h2
 refine spec_of_awp (M:=MM) (np:=2) (fz:=true) mixed Tryz.func136 rfl rfl (by decide) rfl (Nat.le_refl _) (by decide +kernel) (.inr ⟨rfl,rfl⟩) trivial ?_
 simp -dsimp -implicitDefEqProofs (disch:=first|omega|(simp only [lenr];try omega)) only [↓amPre,↓reduceIte,reduceCtorEq,reduceEqDiff,Nat.reduceBEq,reduceAdd,reduceLeDiff,reduceSub,reduceMul,reduceToNat,MM,bu0,cbP9,cbQ2,Door.stset,Door.stfz]
 refine awp_loop (fun k st=>k≤xs.length∧st.fr 6=.i64 k∧st.fr 0=.sl 1 (xs.map AV.st)∧st.fr 1=.st sep∧st.fr 5=.st (Lib.join (xs.take k) sep)) (xs.length) ?_ ?_
 ·simp -dsimp -implicitDefEqProofs (disch:=first|omega|(simp only [lenr];try omega)) only [↓amPre,↓reduceIte,reduceCtorEq,reduceEqDiff,Nat.reduceBEq,reduceAdd,reduceLeDiff,reduceSub,reduceMul,reduceToNat,MM,bu0,cbP9,cbQ2,Door.stset,Door.stfz]
  simp [Lib.join_nil]
 rintro k st _ ⟨hk,f6,f0,f1,f5⟩
 have j1:=jl k
 by_cases hlt:k<xs.length
 ·have e:=join_take xs sep k hlt
  have hg:(xs.map AV.st).getD k .any=.st (xs.getD k []):=by simp [List.getD,hlt]
  have hgl:(xs.getD k []).length≤21:=by rw [getD_eq _ _ _ hlt];exact hb _ (List.getElem_mem hlt)
  by_cases hk:k=0
  ·subst hk
   rw [if_pos rfl,List.append_nil] at e
   simp -dsimp -implicitDefEqProofs (disch:=first|omega|(simp only [lenr];try omega)) only [↓amPre,↓reduceIte,reduceCtorEq,reduceEqDiff,Nat.reduceBEq,reduceAdd,reduceLeDiff,reduceSub,reduceMul,reduceToNat,MM,bu0,cbP9,cbQ2,Door.stset,Door.stfz,f6,f0,f1,f5,hg,Lib.join_nil]
   refine ⟨by omega,by omega,?_⟩
   rw [e]
   simp [Lib.join_nil]
  ·rw [if_neg hk] at e
   have hk':(0:Int)<k:=by omega
   simp -dsimp -implicitDefEqProofs (disch:=first|omega|(simp only [lenr];try omega)) only [↓amPre,↓reduceIte,reduceCtorEq,reduceEqDiff,Nat.reduceBEq,reduceAdd,reduceLeDiff,reduceSub,reduceMul,reduceToNat,MM,bu0,cbP9,cbQ2,Door.stset,Door.stfz,f6,f0,f1,f5,hg,lt_true hk']
   refine ⟨by omega,by omega,?_⟩
   rw [e]
 ·have hk:k=xs.length:=by omega
  subst hk
  simp -dsimp -implicitDefEqProofs (disch:=first|omega|(simp only [lenr];try omega)) only [↓amPre,↓reduceIte,reduceCtorEq,reduceEqDiff,Nat.reduceBEq,reduceAdd,reduceLeDiff,reduceSub,reduceMul,reduceToNat,MM,bu0,cbP9,cbQ2,Door.stset,Door.stfz,f6,f0,f1,f5,List.take_length]
theorem stsnoc (xs:List (List UInt8)) (x:List UInt8):xs.map AV.st++[AV.st x]=(xs++[x]).map AV.st:=by simp
theorem formatInt_pos (n:Int) (h0:0≤n) (hn:intOk n):SpecAt Tryz.prog 81 [.i64 n] (AV.st (Lib.itoa n)):=by
 obtain ⟨m,rfl⟩:∃ m:Nat,n=m:=⟨n.toNat,by omega⟩
 unfold intOk at hn
 have:=formatInt_spec m (by omega)
 rw [Lib.itoa,if_neg (by omega)]
 exact this
theorem formatInts (l:List Int) (hl:l.length≤1048576) (hi:∀ x∈l,intOk x) (hp:∀ x∈l,0≤x):SpecAt Tryz.prog 111 [isl l] (.st (jn l)):=by
 refine spec_of_awp (M:=MM) (np:=1) (fz:=true) mixed Tryz.func111 rfl rfl (by decide) rfl (Nat.le_refl _) (by decide +kernel) (.inr ⟨rfl,rfl⟩) trivial ?_
 simp -dsimp -implicitDefEqProofs (disch:=first|omega|(simp only [lenr];try omega)) only [↓amPre,↓reduceIte,reduceCtorEq,reduceEqDiff,Nat.reduceBEq,reduceAdd,reduceLeDiff,reduceSub,reduceMul,reduceToNat,MM,bu0,cbP9,cbQ2,Door.stset,Door.stfz]
 refine awp_loop (fun k st=>k≤l.length∧st.fr 4=.i64 k∧st.fr 0=isl l∧((k=0∧st.fr 3=.ref 5 [] 1 0 0∧st.mem 5=some (.tr 1 []))∨(0<k∧st.fr 3=.ref 19 [] 1 0 k∧st.mem 19=some (wtr ((l.map Lib.itoa).take k))))) (l.length) ?_ ?_
 ·simp -dsimp -implicitDefEqProofs (disch:=first|omega|(simp only [lenr];try omega)) only [↓amPre,↓reduceIte,reduceCtorEq,reduceEqDiff,Nat.reduceBEq,reduceAdd,reduceLeDiff,reduceSub,reduceMul,reduceToNat,MM,bu0,cbP9,cbQ2,Door.stset,Door.stfz]
  exact ⟨by omega,rfl⟩
 rintro k st _ ⟨hk,f4,f0,ek⟩
 have hml:(l.map Lib.itoa).length=l.length:=by simp
 have htl:((l.map Lib.itoa).take k).length=k:=by rw [List.length_take];omega
 by_cases hlt:k<l.length
 ·have hx:intOk (l.getD k 0)∧0≤l.getD k 0:=by rw [getD_eq _ _ _ hlt];exact ⟨hi _ (List.getElem_mem hlt),hp _ (List.getElem_mem hlt)⟩
  have hs:=take_succ_eq (l.map Lib.itoa) k [] (by omega)
  have hg:(l.map Lib.itoa).getD k []=Lib.itoa (l.getD k 0):=by simp [List.getD,hlt]
  rw [hg] at hs
  rcases ek with ⟨rfl,f3,m5⟩ | ⟨hk0,f3,m19⟩
  ·simp -dsimp -implicitDefEqProofs (disch:=first|omega|(simp only [lenr];try omega)) only [↓amPre,↓reduceIte,reduceCtorEq,reduceEqDiff,Nat.reduceBEq,reduceAdd,reduceLeDiff,reduceSub,reduceMul,reduceToNat,MM,bu0,cbP9,cbQ2,Door.stset,Door.stfz,f4,f0,f3,m5]
   refine callP_of (formatInt_pos _ hx.2 hx.1) ?_
   simp -dsimp -implicitDefEqProofs (disch:=first|omega|(simp only [lenr];try omega)) only [↓amPre,↓reduceIte,reduceCtorEq,reduceEqDiff,Nat.reduceBEq,reduceAdd,reduceLeDiff,reduceSub,reduceMul,reduceToNat,MM,bu0,cbP9,cbQ2,Door.stset,Door.stfz,f4,f0,f3,m5]
   have:(l.map Lib.itoa).take 1=[Lib.itoa (l.getD 0 0)]:=by rw [hs];simp
   refine ⟨by omega,by omega,by omega,?_⟩
   rw [this];rfl
  ·simp -dsimp -implicitDefEqProofs (disch:=first|omega|(simp only [lenr];try omega)) only [↓amPre,↓reduceIte,reduceCtorEq,reduceEqDiff,Nat.reduceBEq,reduceAdd,reduceLeDiff,reduceSub,reduceMul,reduceToNat,MM,bu0,cbP9,cbQ2,Door.stset,Door.stfz,f4,f0,f3,m19,wtr,htl]
   refine callP_of (formatInt_pos _ hx.2 hx.1) ?_
   simp -dsimp -implicitDefEqProofs (disch:=first|omega|(simp only [lenr];try omega)) only [↓amPre,↓reduceIte,reduceCtorEq,reduceEqDiff,Nat.reduceBEq,reduceAdd,reduceLeDiff,reduceSub,reduceMul,reduceToNat,MM,bu0,cbP9,cbQ2,Door.stset,Door.stfz,f4,f0,f3,m19,wtr,htl,stsnoc]
   refine ⟨by omega,by omega,by omega,?_⟩
   rw [hs]
 ·have hk:k=l.length:=by omega
  subst hk
  have hT:(l.map Lib.itoa).take l.length=l.map Lib.itoa:=List.take_of_length_le (by simp)
  rcases ek with ⟨h0,f3,m5⟩ | ⟨hk0,f3,m19⟩
  ·have hl0:l=[]:=List.eq_nil_of_length_eq_zero h0
   subst hl0
   have hJ:=joinText [] [32] (by simp) (fun x hx=>by cases hx) (by simp)
   simp -dsimp -implicitDefEqProofs (disch:=first|omega|(simp only [lenr];try omega)) only [↓amPre,↓reduceIte,reduceCtorEq,reduceEqDiff,Nat.reduceBEq,reduceAdd,reduceLeDiff,reduceSub,reduceMul,reduceToNat,MM,bu0,cbP9,cbQ2,Door.stset,Door.stfz,f4,f0,f3,m5]
   refine callP_of (hJ) ?_
   simp -dsimp -implicitDefEqProofs (disch:=first|omega|(simp only [lenr];try omega)) only [↓amPre,↓reduceIte,reduceCtorEq,reduceEqDiff,Nat.reduceBEq,reduceAdd,reduceLeDiff,reduceSub,reduceMul,reduceToNat,MM,bu0,cbP9,cbQ2,Door.stset,Door.stfz,f4,f0]
   rfl
  ·have hJ:=joinText (l.map Lib.itoa) [32] (by simp;omega) (fun x hx=>by
    obtain ⟨y,hy,rfl⟩:=List.mem_map.1 hx
    exact itoa_len (hi y hy)) (by simp)
   simp -dsimp -implicitDefEqProofs (disch:=first|omega|(simp only [lenr];try omega)) only [↓amPre,↓reduceIte,reduceCtorEq,reduceEqDiff,Nat.reduceBEq,reduceAdd,reduceLeDiff,reduceSub,reduceMul,reduceToNat,MM,bu0,cbP9,cbQ2,Door.stset,Door.stfz,f4,f0,f3,m19,wtr,hT,hml]
   refine callP_of (hJ) ?_
   simp -dsimp -implicitDefEqProofs (disch:=first|omega|(simp only [lenr];try omega)) only [↓amPre,↓reduceIte,reduceCtorEq,reduceEqDiff,Nat.reduceBEq,reduceAdd,reduceLeDiff,reduceSub,reduceMul,reduceToNat,MM,bu0,cbP9,cbQ2,Door.stset,Door.stfz,f4,f0,hT]
   rfl
end Door
def cbJ1:=(ai (ai (cbP9) (cbQ2)) (ai (@Door.stset) (@Door.stfz)))

end Go.AM
set_option maxRecDepth 8000
namespace Go.AM
namespace Door
open Go.Proofs
def lineT (nm:List UInt8) (k:Nat) (m:List Int):List UInt8:=[109,111,118,101,32]++(nm.take (k+1)).drop k++[32]++jn m++[10]
def puzK (p:Puzz):Nat→List UInt8
 | 0=>[112,111,105,110,116,115,32]++Lib.itoa p.n++[10]
 | k+1=>puzK p k++lineT p.nm k (p.mv.getD k default)
def puzT (p:Puzz):List UInt8:=if puzzOk p then puzK p p.mv.length else []
theorem puzz_mv {p:Puzz} (h:puzzOk p) (k:Nat) (hk:k<p.mv.length):(p.mv.getD k default).length≤20∧(∀ x∈p.mv.getD k default,intOk x)∧∀ x∈p.mv.getD k default,0≤x:=by
 have hm:p.mv.getD k default∈p.mv:=by rw [getD_eq _ _ _ hk];exact List.getElem_mem hk
 obtain ⟨h1,h2⟩:=h.1.2.2 _ hm
 have hn:=h.1.1
 refine ⟨by omega,fun x hx=>?_,fun x hx=>?_⟩
 ·have:=h2.2.1 x hx;unfold intOk;omega
 ·have:=h2.2.1 x hx;omega
theorem lineT_len {nm:List UInt8} {k:Nat} {m:List Int} (h1:m.length≤20) (h2:∀ x∈m,intOk x):(lineT nm k m).length≤448:=by
 have:=jn_len m h2
 simp only [lineT,List.length_append,List.length_drop,List.length_take,List.length_cons,List.length_nil]
 omega
theorem puzK_len {p:Puzz} (h:puzzOk p):∀ k,k≤p.mv.length→(puzK p k).length≤29+448*k
 | 0,_=>by
  have hn:=h.1.1
  have:=itoa_len (x:=p.n) (by unfold intOk;omega)
  simp only [puzK,List.length_append,List.length_cons,List.length_nil]
  omega
 | k+1,hk=>by
  have h1:=puzK_len h k (by omega)
  have h2:=puzz_mv h k (by omega)
  have h3:=lineT_len (nm:=p.nm) (k:=k) h2.1 h2.2.1
  simp only [puzK,List.length_append]
  omega
theorem iFormatPuzzle (p:Puzz) (hs:smallP p):SpecAt Tryz.prog 23 [p.sl] (.st (puzT p)):=by
 by_cases c1:puzzOk p
 case neg =>
  refine spec_of_awp (M:=MM) (np:=1) (fz:=true) mixed Tryz.func23 rfl rfl (by decide) rfl (Nat.le_refl _) (by decide +kernel) (.inr ⟨rfl,rfl⟩) trivial ?_
  simp -dsimp -implicitDefEqProofs (disch:=first|omega|(simp only [lenr];try omega)) only [↓amPre,↓reduceIte,reduceCtorEq,reduceEqDiff,Nat.reduceBEq,reduceAdd,reduceLeDiff,reduceSub,reduceMul,reduceToNat,MM,bu0,cbJ1]
  refine callP_of (iPuzzle p hs) ?_
  simp -dsimp -implicitDefEqProofs (disch:=first|omega|(simp only [lenr];try omega)) only [↓amPre,↓reduceIte,reduceCtorEq,reduceEqDiff,Nat.reduceBEq,reduceAdd,reduceLeDiff,reduceSub,reduceMul,reduceToNat,MM,bu0,cbJ1,c1,puzT]
 have hmv:=puzz_nm c1
 have hnl:=c1.2.2
 have hn:intOk p.n:=by have:=c1.1.1;unfold intOk;omega
 have hil:=itoa_len hn
 rw [show puzT p=puzK p p.mv.length from if_pos c1]
 refine spec_of_awp (M:=MM) (np:=1) (fz:=true) mixed Tryz.func23 rfl rfl (by decide) rfl (Nat.le_refl _) (by decide +kernel) (.inr ⟨rfl,rfl⟩) trivial ?_
 simp -dsimp -implicitDefEqProofs (disch:=first|omega|(simp only [lenr];try omega)) only [↓amPre,↓reduceIte,reduceCtorEq,reduceEqDiff,Nat.reduceBEq,reduceAdd,reduceLeDiff,reduceSub,reduceMul,reduceToNat,MM,bu0,cbJ1]
 iterate 2 ((first|refine callP_of (iPuzzle p hs) ?_|refine callP_of (decimal_spec _ hn) ?_);simp -dsimp -implicitDefEqProofs (disch:=first|omega|(simp only [lenr];try omega)) only [↓amPre,↓reduceIte,reduceCtorEq,reduceEqDiff,Nat.reduceBEq,reduceAdd,reduceLeDiff,reduceSub,reduceMul,reduceToNat,MM,bu0,cbJ1,c1])
 refine awp_loop (fun k st=>k≤p.mv.length∧st.fr 17=.i64 k∧st.fr 15=ssl p.mv∧st.fr 16=.i64 p.mv.length∧st.fr 1=.loc 1 [] 0 0∧st.fr 3=.st (puzK p k)∧st.mem 1=some (.pt 3 p.sl)) (p.mv.length) ?_ ?_
 ·simp -dsimp -implicitDefEqProofs (disch:=first|omega|(simp only [lenr];try omega)) only [↓amPre,↓reduceIte,reduceCtorEq,reduceEqDiff,Nat.reduceBEq,reduceAdd,reduceLeDiff,reduceSub,reduceMul,reduceToNat,MM,bu0,cbJ1]
  exact ⟨by omega,rfl,by simp [puzK]⟩
 rintro k st _ ⟨hk,f17,f15,f16,f1,f3,m1⟩
 have hkl:=puzK_len c1 k (by omega)
 by_cases hlt:k<p.mv.length
 ·have hm:=puzz_mv c1 k hlt
  have hjl:=jn_len _ hm.2.1
  simp -dsimp -implicitDefEqProofs (disch:=first|omega|(simp only [lenr];try omega)) only [↓amPre,↓reduceIte,reduceCtorEq,reduceEqDiff,Nat.reduceBEq,reduceAdd,reduceLeDiff,reduceSub,reduceMul,reduceToNat,MM,bu0,cbJ1,f17,f15,f16,f1,f3,m1]
  refine callP_of (joinNumbers _ (by omega) hm.2.1) ?_
  simp -dsimp -implicitDefEqProofs (disch:=first|omega|(simp only [lenr];try omega)) only [↓amPre,↓reduceIte,reduceCtorEq,reduceEqDiff,Nat.reduceBEq,reduceAdd,reduceLeDiff,reduceSub,reduceMul,reduceToNat,MM,bu0,cbJ1,f17,f15,f16,f1,f3,m1]
  refine ⟨hlt,by omega,?_⟩
  simp [puzK,lineT,List.append_assoc]
 ·have hk:k=p.mv.length:=by omega
  subst hk
  simp -dsimp -implicitDefEqProofs (disch:=first|omega|(simp only [lenr];try omega)) only [↓amPre,↓reduceIte,reduceCtorEq,reduceEqDiff,Nat.reduceBEq,reduceAdd,reduceLeDiff,reduceSub,reduceMul,reduceToNat,MM,bu0,cbJ1,f17,f15,f16,f1,f3,m1]
theorem sFormatPuzzle (p:Puzz) (hs:smallP p):SpecAt Tryz.prog 68 [p.sl] (.st (puzT p)):=by
 by_cases c1:puzzOk p
 case neg =>
  refine spec_of_awp (M:=MM) (np:=1) (fz:=true) mixed Tryz.func68 rfl rfl (by decide) rfl (Nat.le_refl _) (by decide +kernel) (.inr ⟨rfl,rfl⟩) trivial ?_
  simp -dsimp -implicitDefEqProofs (disch:=first|omega|(simp only [lenr];try omega)) only [↓amPre,↓reduceIte,reduceCtorEq,reduceEqDiff,Nat.reduceBEq,reduceAdd,reduceLeDiff,reduceSub,reduceMul,reduceToNat,MM,bu0,cbJ1]
  refine callP_of (sPuzzle p hs) ?_
  simp -dsimp -implicitDefEqProofs (disch:=first|omega|(simp only [lenr];try omega)) only [↓amPre,↓reduceIte,reduceCtorEq,reduceEqDiff,Nat.reduceBEq,reduceAdd,reduceLeDiff,reduceSub,reduceMul,reduceToNat,MM,bu0,cbJ1,c1,puzT]
 have hmv:=puzz_nm c1
 have hnl:=c1.2.2
 have hn:intOk p.n:=by have:=c1.1.1;unfold intOk;omega
 have hil:=itoa_len hn
 rw [show puzT p=puzK p p.mv.length from if_pos c1]
 refine spec_of_awp (M:=MM) (np:=1) (fz:=true) mixed Tryz.func68 rfl rfl (by decide) rfl (Nat.le_refl _) (by decide +kernel) (.inr ⟨rfl,rfl⟩) trivial ?_
 simp -dsimp -implicitDefEqProofs (disch:=first|omega|(simp only [lenr];try omega)) only [↓amPre,↓reduceIte,reduceCtorEq,reduceEqDiff,Nat.reduceBEq,reduceAdd,reduceLeDiff,reduceSub,reduceMul,reduceToNat,MM,bu0,cbJ1]
 iterate 2 ((first|refine callP_of (sPuzzle p hs) ?_|refine callP_of (formatInt_pos _ (by have:=c1.1.1;omega) hn) ?_);simp -dsimp -implicitDefEqProofs (disch:=first|omega|(simp only [lenr];try omega)) only [↓amPre,↓reduceIte,reduceCtorEq,reduceEqDiff,Nat.reduceBEq,reduceAdd,reduceLeDiff,reduceSub,reduceMul,reduceToNat,MM,bu0,cbJ1,c1])
 refine awp_loop (fun k st=>k≤p.mv.length∧st.fr 4=.i64 k∧st.fr 1=.loc 1 [] 0 0∧st.fr 3=.st (puzK p k)∧st.mem 1=some (.pt 3 p.sl)) (p.mv.length) ?_ ?_
 ·simp -dsimp -implicitDefEqProofs (disch:=first|omega|(simp only [lenr];try omega)) only [↓amPre,↓reduceIte,reduceCtorEq,reduceEqDiff,Nat.reduceBEq,reduceAdd,reduceLeDiff,reduceSub,reduceMul,reduceToNat,MM,bu0,cbJ1]
  exact ⟨by omega,rfl,by simp [puzK]⟩
 rintro k st _ ⟨hk,f4,f1,f3,m1⟩
 have hkl:=puzK_len c1 k (by omega)
 by_cases hlt:k<p.mv.length
 ·have hm:=puzz_mv c1 k hlt
  have hjl:=jn_len _ hm.2.1
  simp -dsimp -implicitDefEqProofs (disch:=first|omega|(simp only [lenr];try omega)) only [↓amPre,↓reduceIte,reduceCtorEq,reduceEqDiff,Nat.reduceBEq,reduceAdd,reduceLeDiff,reduceSub,reduceMul,reduceToNat,MM,bu0,cbJ1,f4,f1,f3,m1]
  refine callP_of (formatInts _ (by omega) hm.2.1 hm.2.2) ?_
  simp -dsimp -implicitDefEqProofs (disch:=first|omega|(simp only [lenr];try omega)) only [↓amPre,↓reduceIte,reduceCtorEq,reduceEqDiff,Nat.reduceBEq,reduceAdd,reduceLeDiff,reduceSub,reduceMul,reduceToNat,MM,bu0,cbJ1,f4,f1,f3,m1]
  refine ⟨hlt,by omega,?_⟩
  simp [puzK,lineT,List.append_assoc]
 ·have hk:k=p.mv.length:=by omega
  subst hk
  simp -dsimp -implicitDefEqProofs (disch:=first|omega|(simp only [lenr];try omega)) only [↓amPre,↓reduceIte,reduceCtorEq,reduceEqDiff,Nat.reduceBEq,reduceAdd,reduceLeDiff,reduceSub,reduceMul,reduceToNat,MM,bu0,cbJ1,f4,f1,f3,m1]
end Door
end Go.AM
set_option maxRecDepth 8000
namespace Go.AM
namespace Door
open Go.Proofs
def twT (t:Twist):List UInt8:=[116,111,32]++jn t.to++[10,98,121,32]++jn t.by'++[10]
def twK (s:List Twist):Nat→List UInt8
 | 0=>[]
 | k+1=>twK s k++twT (s.getD k default)
def nums (l:List Int):Prop:=l.length≤20∧(∀ x∈l,intOk x)∧∀ x∈l,0≤x
def okT (s:List Twist):Prop:=∀ k,k<s.length→nums (s.getD k default).to∧nums (s.getD k default).by'
theorem ps_okT {ks:List Kind} {s:List Twist} (h:psOk ks s):okT s∧s.length≤3:=by
 refine ⟨fun k hk=>?_,by have:=h.1.1;have:=h.2.1;omega⟩
 have hk':k<ks.length:=by have:=h.2.1;omega
 obtain ⟨h1,h2,h3,h4⟩:=h.2.2 k hk'
 have hko:=h.1.2.1 _ (show ks.getD k default∈ks by rw [getD_eq _ _ _ hk'];exact List.getElem_mem hk')
 obtain ⟨hc,ho⟩:=hko
 refine ⟨⟨by omega,fun x hx=>?_,fun x hx=>?_⟩,by omega,fun x hx=>?_,fun x hx=>?_⟩
 ·have:=h3.2.1 x hx;unfold intOk;omega
 ·have:=h3.2.1 x hx;omega
 ·have:=h4 x hx;unfold intOk;omega
 ·have:=h4 x hx;omega
theorem twT_len {t:Twist} (h1:nums t.to) (h2:nums t.by'):(twT t).length≤888:=by
 have a:=jn_len _ h1.2.1
 have b:=jn_len _ h2.2.1
 have:=h1.1
 have:=h2.1
 simp only [twT,List.length_append,List.length_cons,List.length_nil]
 omega
theorem twK_len {s:List Twist} (h:okT s):∀ k,k≤s.length→(twK s k).length≤888*k
 | 0,_=>by simp [twK]
 | k+1,hk=>by
  have h1:=twK_len h k (by omega)
  have h2:=h k (by omega)
  have h3:=twT_len h2.1 h2.2
  simp only [twK,List.length_append]
  omega
theorem twistsText (s:List Twist) (h:okT s) (hl:s.length≤3):SpecAt Tryz.prog 43 [tsl s] (.st (twK s s.length)):=by
 refine spec_of_awp (M:=MM) (np:=1) (fz:=true) mixed Tryz.func43 rfl rfl (by decide) rfl (Nat.le_refl _) (by decide +kernel) (.inr ⟨rfl,rfl⟩) trivial ?_
 simp -dsimp -implicitDefEqProofs (disch:=first|omega|(simp only [lenr];try omega)) only [↓amPre,↓reduceIte,reduceCtorEq,reduceEqDiff,Nat.reduceBEq,reduceAdd,reduceLeDiff,reduceSub,reduceMul,reduceToNat,MM,bu0,cbJ1]
 refine awp_loop (fun k st=>k≤s.length∧st.fr 8=.i64 k∧st.fr 6=tsl s∧st.fr 7=.i64 s.length∧st.fr 3=.st (twK s k)) (s.length) ?_ ?_
 ·simp -dsimp -implicitDefEqProofs (disch:=first|omega|(simp only [lenr];try omega)) only [↓amPre,↓reduceIte,reduceCtorEq,reduceEqDiff,Nat.reduceBEq,reduceAdd,reduceLeDiff,reduceSub,reduceMul,reduceToNat,MM,bu0,cbJ1]
  exact ⟨by omega,rfl,rfl⟩
 rintro k st _ ⟨hk,f8,f6,f7,f3⟩
 have hkl:=twK_len h k (by omega)
 by_cases hlt:k<s.length
 ·have hk:=h k hlt
  have l1:=jn_len _ hk.1.2.1
  have l2:=jn_len _ hk.2.2.1
  have q1:=hk.1.1
  have q2:=hk.2.1
  simp -dsimp -implicitDefEqProofs (disch:=first|omega|(simp only [lenr];try omega)) only [↓amPre,↓reduceIte,reduceCtorEq,reduceEqDiff,Nat.reduceBEq,reduceAdd,reduceLeDiff,reduceSub,reduceMul,reduceToNat,MM,bu0,cbJ1,f8,f6,f7,f3]
  iterate 2 ((first|refine callP_of (joinNumbers _ (by omega) hk.1.2.1) ?_|refine callP_of (joinNumbers _ (by omega) hk.2.2.1) ?_);simp -dsimp -implicitDefEqProofs (disch:=first|omega|(simp only [lenr];try omega)) only [↓amPre,↓reduceIte,reduceCtorEq,reduceEqDiff,Nat.reduceBEq,reduceAdd,reduceLeDiff,reduceSub,reduceMul,reduceToNat,MM,bu0,cbJ1,f8,f6,f7,f3])
  refine ⟨hlt,by omega,?_⟩
  simp [twK,twT,List.append_assoc]
 ·have hk:k=s.length:=by omega
  subst hk
  simp -dsimp -implicitDefEqProofs (disch:=first|omega|(simp only [lenr];try omega)) only [↓amPre,↓reduceIte,reduceCtorEq,reduceEqDiff,Nat.reduceBEq,reduceAdd,reduceLeDiff,reduceSub,reduceMul,reduceToNat,MM,bu0,cbJ1,f8,f6,f7,f3]
theorem l23State (s:List Twist) (h:okT s) (hl:s.length≤3):SpecAt Tryz.prog 82 [tsl s] (.st (twK s s.length)):=by
 refine spec_of_awp (M:=MM) (np:=1) (fz:=true) mixed Tryz.func82 rfl rfl (by decide) rfl (Nat.le_refl _) (by decide +kernel) (.inr ⟨rfl,rfl⟩) trivial ?_
 simp -dsimp -implicitDefEqProofs (disch:=first|omega|(simp only [lenr];try omega)) only [↓amPre,↓reduceIte,reduceCtorEq,reduceEqDiff,Nat.reduceBEq,reduceAdd,reduceLeDiff,reduceSub,reduceMul,reduceToNat,MM,bu0,cbJ1]
 refine awp_loop (fun k st=>k≤s.length∧st.fr 4=.i64 k∧st.fr 0=tsl s∧st.fr 3=.st (twK s k)) (s.length) ?_ ?_
 ·simp -dsimp -implicitDefEqProofs (disch:=first|omega|(simp only [lenr];try omega)) only [↓amPre,↓reduceIte,reduceCtorEq,reduceEqDiff,Nat.reduceBEq,reduceAdd,reduceLeDiff,reduceSub,reduceMul,reduceToNat,MM,bu0,cbJ1]
  exact ⟨by omega,rfl,rfl⟩
 rintro k st _ ⟨hk,f4,f0,f3⟩
 have hkl:=twK_len h k (by omega)
 by_cases hlt:k<s.length
 ·have hk:=h k hlt
  have l1:=jn_len _ hk.1.2.1
  have l2:=jn_len _ hk.2.2.1
  have q1:=hk.1.1
  have q2:=hk.2.1
  simp -dsimp -implicitDefEqProofs (disch:=first|omega|(simp only [lenr];try omega)) only [↓amPre,↓reduceIte,reduceCtorEq,reduceEqDiff,Nat.reduceBEq,reduceAdd,reduceLeDiff,reduceSub,reduceMul,reduceToNat,MM,bu0,cbJ1,f4,f0,f3]
  iterate 2 ((first|refine callP_of (formatInts _ (by omega) hk.1.2.1 hk.1.2.2) ?_|refine callP_of (formatInts _ (by omega) hk.2.2.1 hk.2.2.2) ?_);simp -dsimp -implicitDefEqProofs (disch:=first|omega|(simp only [lenr];try omega)) only [↓amPre,↓reduceIte,reduceCtorEq,reduceEqDiff,Nat.reduceBEq,reduceAdd,reduceLeDiff,reduceSub,reduceMul,reduceToNat,MM,bu0,cbJ1,f4,f0,f3])
  refine ⟨hlt,by omega,?_⟩
  simp [twK,twT,List.append_assoc]
 ·have hk:k=s.length:=by omega
  subst hk
  simp -dsimp -implicitDefEqProofs (disch:=first|omega|(simp only [lenr];try omega)) only [↓amPre,↓reduceIte,reduceCtorEq,reduceEqDiff,Nat.reduceBEq,reduceAdd,reduceLeDiff,reduceSub,reduceMul,reduceToNat,MM,bu0,cbJ1,f4,f0,f3]
def psT (ks:List Kind) (s:List Twist):List UInt8:=if psOk ks s then twK s s.length else []
end Door
end Go.AM
set_option maxRecDepth 8000
namespace Go.AM
namespace Door
open Go.Proofs
def knT (k:Kind):List UInt8:=[107,105,110,100,32]++Lib.itoa k.c++[32]++Lib.itoa k.o++[10]
def knK (ks:List Kind):Nat→List UInt8
 | 0=>[]
 | k+1=>knK ks k++knT (ks.getD k default)
def mdK (m:Model):Nat→List UInt8
 | 0=>knK m.ks m.ks.length
 | k+1=>mdK m k++([109,111,118,101,32]++(m.nm.take (k+1)).drop k++[10]++twK (m.mv.getD k default) (m.mv.getD k default).length)
def mdT (m:Model):List UInt8:=if modelOk m then mdK m m.mv.length else []
theorem kn_ok {ks:List Kind} (h:kindsOk ks) (k:Nat) (hk:k<ks.length):(intOk (ks.getD k default).c∧0≤(ks.getD k default).c)∧intOk (ks.getD k default).o∧0≤(ks.getD k default).o:=by
 have hko:=h.2.1 _ (show ks.getD k default∈ks by rw [getD_eq _ _ _ hk];exact List.getElem_mem hk)
 obtain ⟨hc,ho⟩:=hko
 unfold intOk
 omega
theorem knK_len {ks:List Kind} (h:kindsOk ks):∀ k,k≤ks.length→(knK ks k).length≤49*k
 | 0,_=>by simp [knK]
 | k+1,hk=>by
  have h1:=knK_len h k (by omega)
  have h2:=kn_ok h k (by omega)
  have h3:=itoa_len h2.1.1
  have h4:=itoa_len h2.2.1
  simp only [knK,knT,List.length_append,List.length_cons,List.length_nil]
  omega
theorem md_ok {m:Model} (h:modelOk m) (k:Nat) (hk:k<m.mv.length):okT (m.mv.getD k default)∧(m.mv.getD k default).length≤3 :=
 ps_okT (h.2.2.2 _ (show m.mv.getD k default∈m.mv by rw [getD_eq _ _ _ hk];exact List.getElem_mem hk))
theorem mdK_len {m:Model} (h:modelOk m):∀ k,k≤m.mv.length→(mdK m k).length≤147+2671*k
 | 0,_=>by
  have h1:=knK_len h.1 m.ks.length (Nat.le_refl _)
  have h2:=h.1.1
  simp only [mdK];omega
 | k+1,hk=>by
  have h1:=mdK_len h k (by omega)
  have h2:=md_ok h k (by omega)
  have h3:=twK_len h2.1 _ (Nat.le_refl _)
  have h4:=h2.2
  simp only [mdK,List.length_append,List.length_cons,List.length_nil,List.length_drop,List.length_take]
  omega
theorem iFormatPM (m:Model) (hs:smallM m):SpecAt Tryz.prog 25 [m.sl] (.st (mdT m)):=by
 by_cases c1:modelOk m
 case neg =>
  refine spec_of_awp (M:=MM) (np:=1) (fz:=true) mixed Tryz.func25 rfl rfl (by decide) rfl (Nat.le_refl _) (by decide +kernel) (.inr ⟨rfl,rfl⟩) trivial ?_
  simp -dsimp -implicitDefEqProofs (disch:=first|omega|(simp only [lenr];try omega)) only [↓amPre,↓reduceIte,reduceCtorEq,reduceEqDiff,Nat.reduceBEq,reduceAdd,reduceLeDiff,reduceSub,reduceMul,reduceToNat,MM,bu0,cbJ1]
  refine callP_of (iIsValidPieceModel m hs) ?_
  simp -dsimp -implicitDefEqProofs (disch:=first|omega|(simp only [lenr];try omega)) only [↓amPre,↓reduceIte,reduceCtorEq,reduceEqDiff,Nat.reduceBEq,reduceAdd,reduceLeDiff,reduceSub,reduceMul,reduceToNat,MM,bu0,cbJ1,c1,mdT]
 have hnl:=c1.2.2.1
 have hml:m.mv.length≤8:=by have:=c1.2.1.2;omega
 have hkn:=c1.1.1
 rw [show mdT m=mdK m m.mv.length from if_pos c1]
 refine spec_of_awp (M:=MM) (np:=1) (fz:=true) mixed Tryz.func25 rfl rfl (by decide) rfl (Nat.le_refl _) (by decide +kernel) (.inr ⟨rfl,rfl⟩) trivial ?_
 simp -dsimp -implicitDefEqProofs (disch:=first|omega|(simp only [lenr];try omega)) only [↓amPre,↓reduceIte,reduceCtorEq,reduceEqDiff,Nat.reduceBEq,reduceAdd,reduceLeDiff,reduceSub,reduceMul,reduceToNat,MM,bu0,cbJ1]
 refine callP_of (iIsValidPieceModel m hs) ?_
 simp -dsimp -implicitDefEqProofs (disch:=first|omega|(simp only [lenr];try omega)) only [↓amPre,↓reduceIte,reduceCtorEq,reduceEqDiff,Nat.reduceBEq,reduceAdd,reduceLeDiff,reduceSub,reduceMul,reduceToNat,MM,bu0,cbJ1,c1]
 refine awp_loop (fun k st=>k≤m.ks.length∧st.fr 14=.i64 k∧st.fr 12=ksl m.ks∧st.fr 13=.i64 m.ks.length∧st.fr 1=.loc 1 [] 0 0∧st.fr 3=.st (knK m.ks k)∧st.mem 1=some (.pt 3 m.sl)) (m.ks.length) ?_ ?_
 ·simp -dsimp -implicitDefEqProofs (disch:=first|omega|(simp only [lenr];try omega)) only [↓amPre,↓reduceIte,reduceCtorEq,reduceEqDiff,Nat.reduceBEq,reduceAdd,reduceLeDiff,reduceSub,reduceMul,reduceToNat,MM,bu0,cbJ1]
  exact ⟨by omega,rfl,rfl⟩
 rintro k st _ ⟨hk,f14,f12,f13,f1,f3,m1⟩
 have hkl:=knK_len c1.1 k (by omega)
 by_cases hlt:k<m.ks.length
 ·have ho:=kn_ok c1.1 k hlt
  have l1:=itoa_len ho.1.1
  have l2:=itoa_len ho.2.1
  simp -dsimp -implicitDefEqProofs (disch:=first|omega|(simp only [lenr];try omega)) only [↓amPre,↓reduceIte,reduceCtorEq,reduceEqDiff,Nat.reduceBEq,reduceAdd,reduceLeDiff,reduceSub,reduceMul,reduceToNat,MM,bu0,cbJ1,f14,f12,f13,f1,f3,m1]
  iterate 2 ((first|refine callP_of (decimal_spec _ ho.1.1) ?_|refine callP_of (decimal_spec _ ho.2.1) ?_);simp -dsimp -implicitDefEqProofs (disch:=first|omega|(simp only [lenr];try omega)) only [↓amPre,↓reduceIte,reduceCtorEq,reduceEqDiff,Nat.reduceBEq,reduceAdd,reduceLeDiff,reduceSub,reduceMul,reduceToNat,MM,bu0,cbJ1,f14,f12,f13,f1,f3,m1])
  refine ⟨hlt,by omega,?_⟩
  simp [knK,knT,List.append_assoc]
 ·have hk:k=m.ks.length:=by omega
  subst hk
  simp -dsimp -implicitDefEqProofs (disch:=first|omega|(simp only [lenr];try omega)) only [↓amPre,↓reduceIte,reduceCtorEq,reduceEqDiff,Nat.reduceBEq,reduceAdd,reduceLeDiff,reduceSub,reduceMul,reduceToNat,MM,bu0,cbJ1,f14,f12,f13,f1,f3,m1]
  refine awp_loop (fun j st=>j≤m.mv.length∧st.fr 34=.i64 j∧st.fr 32=tssl m.mv∧st.fr 33=.i64 m.mv.length∧st.fr 1=.loc 1 [] 0 0∧st.fr 3=.st (mdK m j)∧st.mem 1=some (.pt 3 m.sl)) (m.mv.length) ?_ ?_
  ·simp -dsimp -implicitDefEqProofs (disch:=first|omega|(simp only [lenr];try omega)) only [↓amPre,↓reduceIte,reduceCtorEq,reduceEqDiff,Nat.reduceBEq,reduceAdd,reduceLeDiff,reduceSub,reduceMul,reduceToNat,MM,bu0,cbJ1,f14,f12,f13,f1,f3,m1]
   exact ⟨by omega,rfl,rfl⟩
  rintro j st _ ⟨hj,f34,f32,f33,f1,f3,m1⟩
  have hjl:=mdK_len c1 j (by omega)
  by_cases hlt:j<m.mv.length
  ·have hT:=md_ok c1 j hlt
   have l1:=twK_len hT.1 _ (Nat.le_refl _)
   have l2:=hT.2
   simp -dsimp -implicitDefEqProofs (disch:=first|omega|(simp only [lenr];try omega)) only [↓amPre,↓reduceIte,reduceCtorEq,reduceEqDiff,Nat.reduceBEq,reduceAdd,reduceLeDiff,reduceSub,reduceMul,reduceToNat,MM,bu0,cbJ1,f34,f32,f33,f1,f3,m1]
   refine callP_of (twistsText _ hT.1 hT.2) ?_
   simp -dsimp -implicitDefEqProofs (disch:=first|omega|(simp only [lenr];try omega)) only [↓amPre,↓reduceIte,reduceCtorEq,reduceEqDiff,Nat.reduceBEq,reduceAdd,reduceLeDiff,reduceSub,reduceMul,reduceToNat,MM,bu0,cbJ1,f34,f32,f33,f1,f3,m1]
   refine ⟨hlt,by omega,?_⟩
   simp [mdK,List.append_assoc]
  ·have hj:j=m.mv.length:=by omega
   subst hj
   simp -dsimp -implicitDefEqProofs (disch:=first|omega|(simp only [lenr];try omega)) only [↓amPre,↓reduceIte,reduceCtorEq,reduceEqDiff,Nat.reduceBEq,reduceAdd,reduceLeDiff,reduceSub,reduceMul,reduceToNat,MM,bu0,cbJ1,f34,f32,f33,f1,f3,m1]
theorem sFormatPM (m:Model) (hs:smallM m):SpecAt Tryz.prog 28 [m.sl] (.st (mdT m)):=by
 by_cases c1:modelOk m
 case neg =>
  refine spec_of_awp (M:=MM) (np:=1) (fz:=true) mixed Tryz.func28 rfl rfl (by decide) rfl (Nat.le_refl _) (by decide +kernel) (.inr ⟨rfl,rfl⟩) trivial ?_
  simp -dsimp -implicitDefEqProofs (disch:=first|omega|(simp only [lenr];try omega)) only [↓amPre,↓reduceIte,reduceCtorEq,reduceEqDiff,Nat.reduceBEq,reduceAdd,reduceLeDiff,reduceSub,reduceMul,reduceToNat,MM,bu0,cbJ1]
  refine callP_of (sIsValidPieceModel m hs) ?_
  simp -dsimp -implicitDefEqProofs (disch:=first|omega|(simp only [lenr];try omega)) only [↓amPre,↓reduceIte,reduceCtorEq,reduceEqDiff,Nat.reduceBEq,reduceAdd,reduceLeDiff,reduceSub,reduceMul,reduceToNat,MM,bu0,cbJ1,c1,mdT]
 have hnl:=c1.2.2.1
 have hml:m.mv.length≤8:=by have:=c1.2.1.2;omega
 have hkn:=c1.1.1
 rw [show mdT m=mdK m m.mv.length from if_pos c1]
 refine spec_of_awp (M:=MM) (np:=1) (fz:=true) mixed Tryz.func28 rfl rfl (by decide) rfl (Nat.le_refl _) (by decide +kernel) (.inr ⟨rfl,rfl⟩) trivial ?_
 simp -dsimp -implicitDefEqProofs (disch:=first|omega|(simp only [lenr];try omega)) only [↓amPre,↓reduceIte,reduceCtorEq,reduceEqDiff,Nat.reduceBEq,reduceAdd,reduceLeDiff,reduceSub,reduceMul,reduceToNat,MM,bu0,cbJ1]
 refine callP_of (sIsValidPieceModel m hs) ?_
 simp -dsimp -implicitDefEqProofs (disch:=first|omega|(simp only [lenr];try omega)) only [↓amPre,↓reduceIte,reduceCtorEq,reduceEqDiff,Nat.reduceBEq,reduceAdd,reduceLeDiff,reduceSub,reduceMul,reduceToNat,MM,bu0,cbJ1,c1]
 refine awp_loop (fun k st=>k≤m.ks.length∧st.fr 4=.i64 k∧st.fr 1=.loc 1 [] 0 0∧st.fr 3=.st (knK m.ks k)∧st.mem 1=some (.pt 3 m.sl)) (m.ks.length) ?_ ?_
 ·simp -dsimp -implicitDefEqProofs (disch:=first|omega|(simp only [lenr];try omega)) only [↓amPre,↓reduceIte,reduceCtorEq,reduceEqDiff,Nat.reduceBEq,reduceAdd,reduceLeDiff,reduceSub,reduceMul,reduceToNat,MM,bu0,cbJ1]
  exact ⟨by omega,rfl,rfl⟩
 rintro k st _ ⟨hk,f4,f1,f3,m1⟩
 have hkl:=knK_len c1.1 k (by omega)
 by_cases hlt:k<m.ks.length
 ·have ho:=kn_ok c1.1 k hlt
  have l1:=itoa_len ho.1.1
  have l2:=itoa_len ho.2.1
  simp -dsimp -implicitDefEqProofs (disch:=first|omega|(simp only [lenr];try omega)) only [↓amPre,↓reduceIte,reduceCtorEq,reduceEqDiff,Nat.reduceBEq,reduceAdd,reduceLeDiff,reduceSub,reduceMul,reduceToNat,MM,bu0,cbJ1,f4,f1,f3,m1]
  iterate 2 ((first|refine callP_of (formatInt_pos _ ho.1.2 ho.1.1) ?_|refine callP_of (formatInt_pos _ ho.2.2 ho.2.1) ?_);simp -dsimp -implicitDefEqProofs (disch:=first|omega|(simp only [lenr];try omega)) only [↓amPre,↓reduceIte,reduceCtorEq,reduceEqDiff,Nat.reduceBEq,reduceAdd,reduceLeDiff,reduceSub,reduceMul,reduceToNat,MM,bu0,cbJ1,f4,f1,f3,m1])
  refine ⟨hlt,by omega,?_⟩
  simp [knK,knT,List.append_assoc]
 ·have hk:k=m.ks.length:=by omega
  subst hk
  simp -dsimp -implicitDefEqProofs (disch:=first|omega|(simp only [lenr];try omega)) only [↓amPre,↓reduceIte,reduceCtorEq,reduceEqDiff,Nat.reduceBEq,reduceAdd,reduceLeDiff,reduceSub,reduceMul,reduceToNat,MM,bu0,cbJ1,f4,f1,f3,m1]
  refine awp_loop (fun j st=>j≤m.mv.length∧st.fr 5=.i64 j∧st.fr 1=.loc 1 [] 0 0∧st.fr 3=.st (mdK m j)∧st.mem 1=some (.pt 3 m.sl)) (m.mv.length) ?_ ?_
  ·simp -dsimp -implicitDefEqProofs (disch:=first|omega|(simp only [lenr];try omega)) only [↓amPre,↓reduceIte,reduceCtorEq,reduceEqDiff,Nat.reduceBEq,reduceAdd,reduceLeDiff,reduceSub,reduceMul,reduceToNat,MM,bu0,cbJ1,f4,f1,f3,m1]
   exact ⟨by omega,rfl,rfl⟩
  rintro j st _ ⟨hj,f5,f1,f3,m1⟩
  have hjl:=mdK_len c1 j (by omega)
  by_cases hlt:j<m.mv.length
  ·have hT:=md_ok c1 j hlt
   have l1:=twK_len hT.1 _ (Nat.le_refl _)
   have l2:=hT.2
   simp -dsimp -implicitDefEqProofs (disch:=first|omega|(simp only [lenr];try omega)) only [↓amPre,↓reduceIte,reduceCtorEq,reduceEqDiff,Nat.reduceBEq,reduceAdd,reduceLeDiff,reduceSub,reduceMul,reduceToNat,MM,bu0,cbJ1,f5,f1,f3,m1]
   refine callP_of (l23State _ hT.1 hT.2) ?_
   simp -dsimp -implicitDefEqProofs (disch:=first|omega|(simp only [lenr];try omega)) only [↓amPre,↓reduceIte,reduceCtorEq,reduceEqDiff,Nat.reduceBEq,reduceAdd,reduceLeDiff,reduceSub,reduceMul,reduceToNat,MM,bu0,cbJ1,f5,f1,f3,m1]
   refine ⟨hlt,by omega,?_⟩
   simp [mdK,List.append_assoc]
  ·have hj:j=m.mv.length:=by omega
   subst hj
   simp -dsimp -implicitDefEqProofs (disch:=first|omega|(simp only [lenr];try omega)) only [↓amPre,↓reduceIte,reduceCtorEq,reduceEqDiff,Nat.reduceBEq,reduceAdd,reduceLeDiff,reduceSub,reduceMul,reduceToNat,MM,bu0,cbJ1,f5,f1,f3,m1]
end Door
end Go.AM
namespace Go.AM
namespace Ps
open Door (jn lineT puzK puzT twT twK psT knT knK mdK mdT)
/-! there and back,plainly -/
theorem lns_join:∀ s:Tx,(lnsOf s).flatMap full=s
 | []=>rfl
 | x :: r=>by
  have ih:=lns_join r
  rw [lnsOf]
  split
  ·rename_i h
   rw [List.flatMap_cons,ih,h];rfl
  ·cases hr:lnsOf r with
   | nil =>
    rw [hr] at ih
    have ih:[]=r:=ih
    subst ih;rfl
   | cons z l =>
    obtain ⟨t,e⟩:=z
    rw [hr,List.flatMap_cons] at ih
    rw [List.flatMap_cons,← ih]
    cases e <;> rfl
theorem join_two (a:Tx) {l:List Tx} (sep:Tx) (h:l≠[]):Lib.join (a :: l) sep=a++sep++Lib.join l sep:=by
 cases l with
 | nil=>exact absurd rfl h
 | cons w r =>
  rw [Lib.join_cons,Lib.join_cons]
  simp [Lib.joinTail,List.append_assoc]
theorem join_pre (a:Tx) {l:List Tx} (sep:Tx) (h:l≠[]):Lib.join (pre a l) sep=a++Lib.join l sep:=by
 cases l with
 | nil=>exact absurd rfl h
 | cons w r=>rw [pre,Lib.join_cons,Lib.join_cons,List.append_assoc]
theorem spl_join (c:UInt8):∀ s:Tx,Lib.join (spl c s) [c]=s
 | []=>Lib.join_one _ _
 | x :: r=>by
  have ih:=spl_join c r
  by_cases hx:x=c
  ·subst hx
   rw [spl,if_pos rfl,join_two _ _ (spl_ne x r),ih];rfl
  ·rw [spl_cons_ne hx,join_pre _ _ (spl_ne c r),ih];rfl
theorem spl_app (c:UInt8):∀ (a b:Tx),c∉a→spl c (a++b)=pre a (spl c b)
 | [],b,_=>(pre_nil (spl_ne c b)).symm
 | x :: r,b,h=>by
  have ih:=spl_app c r b (fun q=>h (List.mem_cons_of_mem _ q))
  rw [List.cons_append,spl_cons_ne (fun q=>h (by simp [q])),ih,pre_pre _ _ (spl_ne c b)];rfl
theorem spl_of (c:UInt8):∀ (ws:List Tx),ws≠[]→(∀ w∈ws,c∉w)→spl c (Lib.join ws [c])=ws
 | [],h,_=>absurd rfl h
 | [w],_,h=>by
  rw [Lib.join_one]
  have:=spl_app c w [] (h w (by simp))
  rw [List.append_nil] at this
  rw [this];simp [spl,pre]
 | w :: u :: r,_,h=>by
  have ih:=spl_of c (u :: r) (by simp) (fun x hx=>h x (List.mem_cons_of_mem _ hx))
  rw [join_two _ _ (by simp),List.append_assoc,spl_app c w _ (h w (by simp)),List.singleton_append,spl,if_pos rfl,ih,pre,List.append_nil]
theorem itoa_no:∀ v:Nat,v<1000→(32:UInt8)∉Lib.itoa (v:Int)∧(10:UInt8)∉Lib.itoa (v:Int):=by decide +kernel
theorem itoa_lt:∀ v:Nat,v<100→(Lib.itoa (v:Int)).length≤2:=by decide +kernel
theorem in_no {x:Int} (h:inNum x):(32:UInt8)∉Lib.itoa x∧(10:UInt8)∉Lib.itoa x:=by
 unfold inNum at h
 obtain ⟨n,rfl⟩:∃ n:Nat,x=n:=⟨x.toNat,by omega⟩
 exact itoa_no n (by omega)
theorem in_num {x:Int} (h:inNum x):num (Lib.itoa x)=some x:=by
 unfold inNum at h
 obtain ⟨n,rfl⟩:∃ n:Nat,x=n:=⟨x.toNat,by omega⟩
 exact num_itoa n (by omega)
theorem nums_of:∀ {x:List Int},(∀ y∈x,inNum y)→numsW (x.map Lib.itoa)=some x
 | [],_=>rfl
 | v :: r,h=>by
  have ih:=nums_of (x:=r) fun y hy=>h y (List.mem_cons_of_mem _ hy)
  rw [List.map_cons,numsW,in_num (h v (by simp)),ih]
theorem lineW_full {l:Ln} {f:Tx} {c:Nat} {ws:List Tx} (h:lineW l f c=some ws):full l=Lib.join (f :: ws) [32]++[10]:=by
 unfold lineW at h
 split at h
 ·rename_i q
  cases h
  have e:f :: (spl 32 l.1).drop 1=spl 32 l.1:=by
   rw [← q.2.1]
   cases hs:spl 32 l.1 with
   | nil=>exact absurd hs (spl_ne _ _)
   | cons a r=>rfl
  rw [e,spl_join]
  unfold full
  rw [if_pos q.1]
 ·cases h
theorem lineW_of {f:Tx} {ws:List Tx} (h:∀ w∈f :: ws,(32:UInt8)∉w):lineW (Lib.join (f :: ws) [32],true) f ws.length=some ws:=by
 unfold lineW
 have e:=spl_of 32 (f :: ws) (by simp) h
 dsimp only
 rw [e,if_pos ⟨rfl,rfl,rfl⟩];rfl
theorem lineI_full {l:Ln} {f:Tx} {c:Nat} {x:List Int} (h:lineI l f c=some x) (hc:1≤c):full l=f++[32]++jn x++[10]:=by
 unfold lineI at h
 split at h
 ·rename_i ws hw
  have h1:=lineW_len hw
  have h2:=numsW_some h
  rw [lineW_full hw,join_two _ _ (by intro q;rw [q] at h1;simp at h1;omega),← h2.2.2];rfl
 ·cases h
def lnI (f:Tx) (x:List Int):Ln:=(f++[32]++jn x,true)
theorem lineI_of {f:Tx} {x:List Int} (hf:(32:UInt8)∉f) (hx:x≠[]) (h:∀ y∈x,inNum y):lineI (lnI f x) f x.length=some x:=by
 have e:f++[32]++jn x=Lib.join (f :: x.map Lib.itoa) [32]:=by rw [join_two _ _ (by simpa using hx)];rfl
 have hw:lineW (lnI f x) f x.length=some (x.map Lib.itoa):=by
  unfold lnI
  rw [e]
  have:=lineW_of (f:=f) (ws:=x.map Lib.itoa) fun w hw=>by
   rcases List.mem_cons.1 hw with rfl | hw
   ·exact hf
   ·obtain ⟨y,hy,rfl⟩:=List.mem_map.1 hw
    exact (in_no (h y hy)).1
  rw [List.length_map] at this
  exact this
 unfold lineI
 rw [hw];exact nums_of h
/-! a puzzle that was read -/
def txtP (n:Int) (nm:Tx) (mv:List (List Int)):Tx:=puzK ⟨n,nm,mv⟩ mv.length
theorem puzK_app (n:Int) (nm w:Tx) (mv mw:List (List Int)) (h:nm.length=mv.length):∀ k,k≤mv.length→puzK ⟨n,nm++w,mv++mw⟩ k=puzK ⟨n,nm,mv⟩ k
 | 0,_=>rfl
 | k+1,hk=>by
  have ih:=puzK_app n nm w mv mw h k (by omega)
  rw [puzK,puzK,ih]
  congr 1
  have e1:(nm++w).take (k+1)=nm.take (k+1):=List.take_append_of_le_length (by omega)
  have e2:(mv++mw).getD k default=mv.getD k default:=by
   rw [List.getD_eq_getElem?_getD,List.getElem?_append_left (by omega),← List.getD_eq_getElem?_getD]
  show lineT (nm++w) k ((mv++mw).getD k default)=lineT nm k (mv.getD k default)
  rw [e2];unfold lineT;rw [e1]
theorem lineM_full {l:Ln} {n:Nat} {w:Tx} {x:List Int} (h:lineM l n=some (w,x)) (hn:1≤n):isLet w∧x.length=n∧(∀ y∈x,inNum y)∧full l=moveT++[32]++w++[32]++jn x++[10]:=by
 unfold lineM at h
 split at h
 ·rename_i u us hu
  split at h
  ·rename_i hlet
   split at h
   ·rename_i y hy
    cases h
    have h1:=lineW_len hu
    have h2:=numsW_some hy
    have hl:us.length=n:=by have:=h1.1;simp only [List.length_cons] at this;omega
    have hne:us≠[]:=by intro q;rw [q] at hl;simp at hl;omega
    refine ⟨hlet,by omega,h2.2.1,?_⟩
    rw [lineW_full hu,join_two _ _ (by simp),join_two _ _ hne,← h2.2.2]
    show _=moveT++[32]++w++[32]++Lib.join (x.map Lib.itoa) [32]++[10]
    simp only [List.append_assoc]
   ·cases h
  ·cases h
 ·cases h
theorem txtP_snoc (n:Int) (nm w:Tx) (mv:List (List Int)) (x:List Int) (h:nm.length=mv.length) (hw:w.length=1):txtP n (nm++w) (mv++[x])=txtP n nm mv++(moveT++[32]++w++[32]++jn x++[10]):=by
 unfold txtP
 rw [List.length_append,List.length_singleton,puzK,puzK_app n nm w mv [x] h _ (Nat.le_refl _)]
 congr 1
 have e2:(mv++[x]).getD mv.length default=x:=by
  rw [List.getD_eq_getElem?_getD,List.getElem?_append_right (Nat.le_refl _),Nat.sub_self];rfl
 show lineT (nm++w) mv.length ((mv++[x]).getD mv.length default)=_
 rw [e2]
 unfold lineT
 rw [show (nm++w).take (mv.length+1)=nm++w from List.take_of_length_le (by rw [List.length_append];omega),← h,List.drop_left]
 rfl
theorem take_flat (L:List Ln) (a:Nat) (h:a<L.length):(L.take (a+1)).flatMap full=(L.take a).flatMap full++full (lat L a):=by
 rw [take_succ_eq L a default h,List.flatMap_append]
 simp [lat]
theorem pzL_txt (L:List Ln) (n:Nat) (hn:1≤n):∀ f a nm mv nm' mv',pzL L n f a nm mv=.ok (nm',mv')→nm.length=mv.length→(L.take a).flatMap full=txtP n nm mv→L.flatMap full=txtP n nm' mv'∧nm'.length=mv'.length
 | 0,a,nm,mv,nm',mv',h,_,_=>by cases h
 | f+1,a,nm,mv,nm',mv',h,hl,ht=>by
  rw [pzL] at h
  split at h
  ·rename_i q
   split at h
   ·cases h
   ·cases h
    rw [List.take_of_length_le q] at ht
    exact ⟨ht,hl⟩
  ·rename_i q
   split at h
   ·cases h
   ·rename_i w x hx
    obtain ⟨h1,h2,h3,h4⟩:=lineM_full hx hn
    exact pzL_txt L n hn f (a+1) _ _ nm' mv' h (by simp [h1.1,hl]) (by rw [take_flat L a (by omega),ht,h4,txtP_snoc _ _ _ _ _ hl h1.1])
theorem pzH_ok {L:List Ln} {n:Nat} (h:pzH L=.ok n):1≤n∧n≤20∧0<L.length∧lineI (lat L 0) pointsT 1=some [(n:Int)]:=by
 unfold pzH at h
 split at h
 ·cases h
 ·rename_i l hl
  obtain ⟨h1,h2⟩:=ln_ok hl
  have h3:=lineI_some h2
  split at h
  ·rename_i q
   cases h
   obtain ⟨x,rfl⟩:∃ x,l=[x]:=by
    match l,h3.1 with
    | [x],_=>exact ⟨x,rfl⟩
   have q:1≤x∧x≤20:=q
   have e:([x]:List Int).getD 0 0=x:=rfl
   rw [e]
   refine ⟨by omega,by omega,h1,?_⟩
   rw [show ((x.toNat:Nat):Int)=x by omega];exact h2
  ·cases h
theorem puz_back {s:Tx} {p:Puzz} (h:ppzE s=.ok p):puzT p=s:=by
 unfold ppzE at h
 split at h
 ·cases h
 ·unfold pzR at h
  split at h
  ·cases h
  ·rename_i n hn
   obtain ⟨n1,n2,hpos,h0⟩:=pzH_ok hn
   split at h
   ·cases h
   ·rename_i nm mv hL
    split at h
    ·rename_i hok
     cases h
     have e0:((lnsOf s).take 1).flatMap full=txtP n [] []:=by
      have:=take_flat (lnsOf s) 0 hpos
      rw [Nat.zero_add] at this
      rw [this,lineI_full h0 (Nat.le_refl _)]
      show []++_=_
      simp [txtP,puzK,pointsT,jn,Lib.join_one]
     have:=(pzL_txt (lnsOf s) n n1 _ _ _ _ _ _ hL rfl e0).1
     rw [lns_join] at this
     rw [puzT,if_pos hok]
     exact this.symm
    ·cases h
end Ps
end Go.AM
namespace Go.AM
namespace Ps
open Door (jn lineT puzK puzT twT twK psT knT knK mdK mdT)
/-! models and states,there and back -/
theorem jn_one (x:Int):jn [x]=Lib.itoa x:=Lib.join_one _ _
theorem jn_two (x y:Int):jn [x,y]=Lib.itoa x++[32]++Lib.itoa y:=by
 show Lib.join [Lib.itoa x,Lib.itoa y] [32]=_
 rw [join_two _ _ (by simp),Lib.join_one]
theorem kline_full {l:Ln} {k:Kind} (h:kline l=some k):full l=knT k:=by
 unfold kline at h
 split at h
 ·rename_i x hx
  cases h
  have h1:=(lineI_some hx).1
  rw [lineI_full hx (by decide)]
  obtain ⟨a,b,rfl⟩:∃ a b,x=[a,b]:=by
   match x,h1 with
   | [a,b],_=>exact ⟨a,b,rfl⟩
  rw [jn_two]
  show kindT++[32]++_++[10]=[107,105,110,100,32]++Lib.itoa a++[32]++Lib.itoa b++[10]
  simp [kindT,List.append_assoc]
 ·cases h
theorem kinds_txt (L:List Ln):∀ k,k≤(kpre L).length→(L.take k).flatMap full=knK (kpre L) k
 | 0,_=>rfl
 | k+1,h=>by
  have ih:=kinds_txt L k (by omega)
  have hl:=kpre_le L
  rw [take_flat L k (by omega),ih,knK,kline_full (kpre_get L k (by omega))]
theorem twists_txt {L:List Ln} {ks:List Kind} {a:Nat} (hk:kindsOk ks):∀ k,2*k≤(hls L ks a).length→(L.take (a+2*k)).flatMap full=(L.take a).flatMap full++twK (pr (hls L ks a)) k
 | 0,_=>by simp [twK]
 | k+1,h=>by
  have ih:=twists_txt hk (L:=L) (a:=a) k (by omega)
  have g1:=hls_get L ks a (2*k) (by omega)
  have g2:=hls_get L ks a (2*k+1) (by omega)
  have hle:=hls_le L ks a
  unfold hl at g1 g2
  rw [if_pos (by omega),show 2*k / 2=k by omega] at g1
  rw [if_neg (by omega),show (2*k+1) / 2=k by omega] at g2
  obtain ⟨b1,i1⟩:=ln_ok g1
  obtain ⟨b2,i2⟩:=ln_ok g2
  have hc:1≤cOf ks k:=by
   have:=kindsOk_kind hk (mem_getD ks k default (by omega))
   unfold cOf;omega
  rw [show a+2*(k+1)=a+(2*k+1)+1 by omega,take_flat L _ b2,show a+(2*k+1)=a+2*k+1 by omega,take_flat L _ b1,ih,twK,pr_get _ k (by omega)]
  rw [lineI_full i1 hc,show lat L (a+2*k+1)=lat L (a+(2*k+1)) by rw [Nat.add_assoc],lineI_full i2 hc]
  simp [twT,toT,byT,List.append_assoc]
theorem lineN_full {l:Ln} {w:Tx} (h:lineN l=some w):isLet w∧full l=moveT++[32]++w++[10]:=by
 unfold lineN at h
 split at h
 ·rename_i u us hu
  have h1:=(lineW_len hu).1
  split at h
  ·rename_i hl
   cases h
   have:us=[]:=by
    cases us with
    | nil=>rfl
    | cons a r=>simp at h1
   subst this
   refine ⟨hl,?_⟩
   rw [lineW_full hu,join_two _ _ (by simp),Lib.join_one]
  ·cases h
 ·cases h
def txtM (ks:List Kind) (nm:Tx) (mv:List (List Twist)):Tx:=mdK ⟨ks,nm,mv⟩ mv.length
theorem mdK_app (ks:List Kind) (nm w:Tx) (mv mw:List (List Twist)) (h:nm.length=mv.length):∀ k,k≤mv.length→mdK ⟨ks,nm++w,mv++mw⟩ k=mdK ⟨ks,nm,mv⟩ k
 | 0,_=>rfl
 | k+1,hk=>by
  have ih:=mdK_app ks nm w mv mw h k (by omega)
  rw [mdK,mdK,ih]
  have e1:(nm++w).take (k+1)=nm.take (k+1):=List.take_append_of_le_length (by omega)
  have e2:(mv++mw).getD k default=mv.getD k default:=by
   rw [List.getD_eq_getElem?_getD,List.getElem?_append_left (by omega),← List.getD_eq_getElem?_getD]
  dsimp only
  rw [e1,e2]
theorem txtM_snoc (ks:List Kind) (nm w:Tx) (mv:List (List Twist)) (t:List Twist) (h:nm.length=mv.length) (hw:w.length=1):txtM ks (nm++w) (mv++[t])=txtM ks nm mv++(moveT++[32]++w++[10]++twK t t.length):=by
 unfold txtM
 rw [List.length_append,List.length_singleton,mdK,mdK_app ks nm w mv [t] h _ (Nat.le_refl _)]
 have e2:(mv++[t]).getD mv.length default=t:=by
  rw [List.getD_eq_getElem?_getD,List.getElem?_append_right (Nat.le_refl _),Nat.sub_self];rfl
 dsimp only
 rw [e2,show (nm++w).take (mv.length+1)=nm++w from List.take_of_length_le (by rw [List.length_append];omega),← h,List.drop_left]
 rfl
theorem mdL_txt (L:List Ln) (ks:List Kind) (hk:kindsOk ks):∀ f a nm mv nm' mv',mdL L ks f a nm mv=.ok (nm',mv')→nm.length=mv.length→(L.take a).flatMap full=txtM ks nm mv→L.flatMap full=txtM ks nm' mv'
 | 0,a,nm,mv,nm',mv',h,_,_=>by cases h
 | f+1,a,nm,mv,nm',mv',h,hl,ht=>by
  rw [mdL] at h
  split at h
  ·rename_i q
   split at h
   ·cases h
   ·cases h
    rw [List.take_of_length_le q] at ht
    exact ht
  ·rename_i q
   split at h
   ·cases h
   ·rename_i w hw
    obtain ⟨h1,h2⟩:=lineN_full hw
    split at h
    ·cases h
    ·rename_i t htw
     have hn1:=hk.1.1
     have hsum:(hls L ks (a+1)).length=2*ks.length∧t=pr (hls L ks (a+1)):=by
      unfold twR at htw
      split at htw
      ·rename_i q2;cases htw;exact ⟨q2,rfl⟩
      ·split at htw <;> cases htw
     have htt:=twists_txt hk (L:=L) (a:=a+1) ks.length (by omega)
     have hpl:=pr_len ks.length (hls L ks (a+1)) hsum.1
     refine mdL_txt L ks hk f (a+1+2*ks.length) _ _ nm' mv' h (by simp [h1.1,hl]) ?_
     rw [htt,take_flat L a (by omega),ht,h2,txtM_snoc _ _ _ _ _ hl h1.1,hsum.2,hpl]
     simp [List.append_assoc]
theorem mod_back {s:Tx} {m:Model} (h:pmdE s=.ok m):mdT m=s:=by
 unfold pmdE at h
 split at h
 ·cases h
 ·unfold mdR at h
  split at h
  ·cases h
  ·split at h
   ·cases h
   ·rename_i ks hk
    obtain ⟨hko,hkp⟩:=kdR_ok hk
    split at h
    ·cases h
    ·rename_i nm mv hL
     split at h
     ·rename_i hok
      cases h
      have e0:((lnsOf s).take ks.length).flatMap full=txtM ks [] []:=by
       have:=kinds_txt (lnsOf s) (kpre (lnsOf s)).length (Nat.le_refl _)
       rw [← hkp] at this
       rw [this];rfl
      have:=mdL_txt (lnsOf s) ks hko _ _ _ _ _ _ hL rfl e0
      rw [lns_join] at this
      rw [mdT,if_pos hok]
      exact this.symm
     ·cases h
/-! forth -/
theorem lns_of:∀ Ls:List Ln,(∀ l∈Ls,l.2=true∧(10:UInt8)∉l.1)→lnsOf (Ls.flatMap full)=Ls
 | [],_=>rfl
 | l :: r,h=>by
  have ih:=lns_of r fun x hx=>h x (List.mem_cons_of_mem _ hx)
  obtain ⟨h1,h2⟩:=h l (by simp)
  obtain ⟨t,e⟩:=l
  have h1:e=true:=h1
  subst h1
  rw [List.flatMap_cons,show full (t,true)=t++[10] from rfl,List.append_assoc,List.singleton_append,lns_cut t _ h2,ih]
theorem jn_no:∀ x:List Int,(∀ y∈x,inNum y)→(10:UInt8)∉jn x
 | [],_=>by show (10:UInt8)∉Lib.join [] [32];rw [Lib.join_nil];simp
 | [a],h=>by rw [jn_one];exact (in_no (h a (by simp))).2
 | a :: b :: r,h=>by
  have ih:=jn_no (b :: r) fun y hy=>h y (List.mem_cons_of_mem _ hy)
  have e:jn (a :: b :: r)=Lib.itoa a++[32]++jn (b :: r):=by
   show Lib.join (Lib.itoa a :: (b :: r).map Lib.itoa) [32]=_
   rw [join_two _ _ (by simp)];rfl
  rw [e]
  simp only [List.mem_append,List.mem_singleton,not_or]
  exact ⟨⟨(in_no (h a (by simp))).2,by decide⟩,ih⟩
theorem lnI_no {f:Tx} {x:List Int} (hf:(10:UInt8)∉f) (h:∀ y∈x,inNum y):(lnI f x).2=true∧(10:UInt8)∉(lnI f x).1:=by
 refine ⟨rfl,?_⟩
 show (10:UInt8)∉f++[32]++jn x
 simp only [List.mem_append,List.mem_singleton,not_or]
 exact ⟨⟨hf,by decide⟩,jn_no x h⟩
def twL (t:List Twist):List Ln:=t.flatMap fun x=>[lnI toT x.to,lnI byT x.by']
theorem twL_len (t:List Twist):(twL t).length=2*t.length:=by
 induction t with
 | nil=>rfl
 | cons x r ih=>simp only [twL,List.flatMap_cons,List.length_append,List.length_cons,List.length_nil] at ih ⊢;omega
theorem twL_get:∀ (t:List Twist) (R:List Ln) (k:Nat),k<t.length→(twL t++R).getD (2*k) default=lnI toT (t.getD k default).to∧(twL t++R).getD (2*k+1) default=lnI byT (t.getD k default).by'
 | x :: r,R,0,_=>⟨rfl,rfl⟩
 | x :: r,R,k+1,h=>by
  have ih:=twL_get r R k (by simpa using h)
  have e:twL (x :: r)++R=lnI toT x.to :: lnI byT x.by' :: (twL r++R):=rfl
  rw [e,show 2*(k+1)=2*k+1+1 by omega]
  exact ih
def twN (ks:List Kind) (t:List Twist):Prop:=t.length=ks.length∧∀ k,k<ks.length→numT (t.getD k default) (cOf ks k)
theorem ps_twN {ks:List Kind} {t:List Twist} (h:psOk ks t):twN ks t:=by
 refine ⟨h.2.1,fun k hk=>?_⟩
 obtain ⟨h1,h2,h3,h4⟩:=h.2.2 k hk
 have hb:=kindsOk_kind h.1 (mem_getD ks k default hk)
 refine ⟨⟨by unfold cOf;omega,fun x hx=>?_⟩,by unfold cOf;omega,fun x hx=>?_⟩
 ·have:=h3.2.1 x hx;unfold inNum;omega
 ·have:=h4 x hx;unfold inNum;omega
theorem lat_drop (L:List Ln) (b i:Nat):lat L (b+i)=(L.drop b).getD i default:=by
 unfold lat
 rw [List.getD_eq_getElem?_getD,List.getD_eq_getElem?_getD,List.getElem?_drop]
theorem tw_fwd {L:List Ln} {ks:List Kind} {b:Nat} {t:List Twist} {R:List Ln} (hk:kindsOk ks) (ht:twN ks t) (hL:L.drop b=twL t++R):twR L ks b=.ok t:=by
 have hlen:b+2*ks.length≤L.length:=by
  have h1:(L.drop b).length=(twL t++R).length:=by rw [hL]
  rw [List.length_drop,List.length_append,twL_len,ht.1] at h1
  have:=hk.1.1
  omega
 have hev:∀ k,k<ks.length→hl L ks b (2*k)=.ok (t.getD k default).to∧hl L ks b (2*k+1)=.ok (t.getD k default).by':=fun k hkl=>by
  obtain ⟨g1,g2⟩:=twL_get t R k (by rw [ht.1];exact hkl)
  obtain ⟨⟨n1,n2⟩,n3,n4⟩:=ht.2 k hkl
  have hc:1≤cOf ks k:=by
   have:=kindsOk_kind hk (mem_getD ks k default hkl)
   unfold cOf;omega
  have i1:=lineI_of (f:=toT) (x:=(t.getD k default).to) (by decide) (by intro q;rw [q] at n1;simp at n1;omega) n2
  have i2:=lineI_of (f:=byT) (x:=(t.getD k default).by') (by decide) (by intro q;rw [q] at n3;simp at n3;omega) n4
  rw [n1] at i1
  rw [n3] at i2
  constructor
  ·unfold hl ln
   have hp:2*k % 2=0:=by omega
   rw [if_pos hp,show 2*k / 2=k by omega,if_neg (show ¬ L.length≤b+2*k by omega),lat_drop,hL,g1,i1]
  ·unfold hl ln
   have hp:¬ (2*k+1) % 2=0:=by omega
   rw [if_neg hp,show (2*k+1) / 2=k by omega,if_neg (show ¬ L.length≤b+(2*k+1) by omega),lat_drop,hL,g2,i2]
 have hall:∀ i,i<2*ks.length→∃ l,hl L ks b i=.ok l:=fun i hi=>by
  have h:=hev (i / 2) (by omega)
  by_cases q:i % 2=0
  ·exact ⟨_,by have:=h.1;rw [show 2*(i / 2)=i by omega] at this;exact this⟩
  ·exact ⟨_,by have:=h.2;rw [show 2*(i / 2)+1=i by omega] at this;exact this⟩
 have hfull:(hls L ks b).length=2*ks.length:=by
  apply Decidable.byContradiction
  intro q
  obtain ⟨e,he⟩:=hls_end L ks b (by have:=hls_le L ks b;omega)
  obtain ⟨l,hl2⟩:=hall (hls L ks b).length (by have:=hls_le L ks b;omega)
  rw [he] at hl2;cases hl2
 unfold twR
 rw [if_pos hfull]
 congr 1
 have hpl:=pr_len ks.length _ hfull
 refine List.ext_getElem (by rw [hpl,ht.1]) fun k h1 h2=>?_
 have hkl:k<ks.length:=by omega
 have e:=pr_get (hls L ks b) k (by omega)
 have a1:=hls_get L ks b (2*k) (by omega)
 have a2:=hls_get L ks b (2*k+1) (by omega)
 rw [(hev k hkl).1] at a1
 rw [(hev k hkl).2] at a2
 injection a1 with a1
 injection a2 with a2
 rw [getD_eq _ _ _ h1,← a1,← a2] at e
 rw [e,← getD_eq t k default h2]
theorem twL_full (t:List Twist):∀ k,k≤t.length→(twL (t.take k)).flatMap full=twK t k
 | 0,_=>rfl
 | k+1,h=>by
  have ih:=twL_full t k (by omega)
  rw [take_succ_eq t k default (by omega)]
  unfold twL at ih ⊢
  rw [List.flatMap_append,List.flatMap_append,ih,twK]
  congr 1
  simp [lnI,full,twT,toT,byT,List.append_assoc]
theorem twL_all (t:List Twist):(twL t).flatMap full=twK t t.length:=by
 have:=twL_full t t.length (Nat.le_refl _)
 rw [List.take_length] at this
 exact this
theorem twL_no {ks:List Kind} {t:List Twist} (h:twN ks t):∀ l∈twL t,l.2=true∧(10:UInt8)∉l.1:=fun l hl=>by
 unfold twL at hl
 obtain ⟨x,hx,hl⟩:=List.mem_flatMap.1 hl
 obtain ⟨k,hk,rfl⟩:=List.getElem_of_mem hx
 have hn:=h.2 k (by rw [← h.1];exact hk)
 rw [getD_eq _ _ _ hk] at hn
 simp only [List.mem_cons,List.not_mem_nil,or_false] at hl
 rcases hl with rfl | rfl
 ·exact lnI_no (by decide) hn.1.2
 ·exact lnI_no (by decide) hn.2.2
/-! lengths -/
theorem itoa_two {x:Int} (h0:0≤x) (h1:x≤20):(Lib.itoa x).length≤2:=by
 obtain ⟨n,rfl⟩:∃ n:Nat,x=n:=⟨x.toNat,by omega⟩
 exact itoa_lt n (by omega)
theorem jn_short (l:List Int) (h:∀ x∈l,0≤x∧x≤20):(jn l).length≤3*l.length:=by
 have:=Door.join_len (l.map Lib.itoa) [32] 2 (fun x hx=>by
  obtain ⟨y,hy,rfl⟩:=List.mem_map.1 hx
  exact itoa_two (h y hy).1 (h y hy).2)
 simpa [jn] using this
theorem twK_short {ks:List Kind} {t:List Twist} (h:psOk ks t):∀ k,k≤ks.length→((twK t k).length:Int)≤8*k+6*facets (ks.take k)
 | 0,_=>by simp [twK,facets]
 | k+1,hk=>by
  have ih:=twK_short h k (by omega)
  obtain ⟨h1,h2,h3,h4⟩:=h.2.2 k (by omega)
  have hb:=kindsOk_kind h.1 (mem_getD ks k default (by omega))
  have hp:=kOk_prod (h.1.2.1 _ (mem_getD ks k default (by omega)))
  have hf:=facets_take ks k (by omega)
  have j1:=jn_short (t.getD k default).to (fun x hx=>by have:=h3.2.1 x hx;omega)
  have j2:=jn_short (t.getD k default).by' (fun x hx=>by have:=h4 x hx;omega)
  rw [hf,twK]
  simp only [twT,List.length_append,List.length_cons,List.length_nil]
  omega
theorem tw_short {ks:List Kind} {t:List Twist} (h:psOk ks t):(twK t t.length).length≤144:=by
 have h1:=twK_short h ks.length (Nat.le_refl _)
 rw [List.take_length] at h1
 have:=h.1.2.2
 have:=h.1.1
 rw [h.2.1]
 omega
def mvL (w:Tx) (t:List Twist):List Ln:=(moveT++[32]++w,true) :: twL t
def mlines:Tx→List (List Twist)→List Ln
 | w :: ws,t :: ts=>mvL [w] t++mlines ws ts
 | _,_=>[]
def klines (ks:List Kind):List Ln:=ks.map fun k=>lnI kindT [k.c,k.o]
theorem kind_in {ks:List Kind} (h:kindsOk ks) {k:Kind} (hk:k∈ks):∀ y∈[k.c,k.o],inNum y:=fun y hy=>by
 have:=kindsOk_kind h hk
 simp only [List.mem_cons,List.not_mem_nil,or_false] at hy
 unfold inNum
 rcases hy with rfl | rfl <;> omega
theorem kline_of {ks:List Kind} (h:kindsOk ks) {k:Kind} (hk:k∈ks):kline (lnI kindT [k.c,k.o])=some k:=by
 have:=lineI_of (f:=kindT) (x:=[k.c,k.o]) (by decide) (by simp) (kind_in h hk)
 unfold kline
 rw [show ([k.c,k.o]:List Int).length=2 from rfl] at this
 rw [this];rfl
theorem move_word (w:Tx) (hw:isLet w):spl 32 (moveT++[32]++w)=[moveT,w]:=by
 have h1:(32:UInt8)∉w:=fun q=>by
  obtain ⟨h1,h2,_⟩:=hw
  obtain ⟨x,rfl⟩:∃ x,w=[x]:=by
   match w,h1 with
   | [x],_=>exact ⟨x,rfl⟩
  have:x=32:=(List.mem_singleton.1 q).symm
  subst this
  exact absurd h2 (by decide)
 have:=spl_of 32 [moveT,w] (by simp) (fun u hu=>by
  simp only [List.mem_cons,List.not_mem_nil,or_false] at hu
  rcases hu with rfl | rfl
  ·decide
  ·exact h1)
 rw [join_two _ _ (by simp),Lib.join_one] at this
 exact this
theorem lineN_of (w:Tx) (hw:isLet w):lineN (moveT++[32]++w,true)=some w:=by
 unfold lineN lineW
 dsimp only
 rw [move_word w hw,if_pos ⟨rfl,rfl,rfl⟩]
 dsimp only [List.drop]
 rw [if_pos hw]
theorem kline_move (w:Tx) (hw:isLet w):kline (moveT++[32]++w,true)=none:=by
 unfold kline lineI lineW
 dsimp only
 rw [move_word w hw,if_neg (fun q=>by
  have q2:moveT=kindT:=q.2.1
  exact absurd q2 (by decide))]
theorem kpre_lines (R:List Ln) (hR:∀ l r,R=l :: r→kline l=none):∀ (ks0 ks:List Kind),kindsOk ks0→(∀ k∈ks,k∈ks0)→kpre (klines ks++R)=ks
 | ks0,[],_,_=>by
  show kpre R=[]
  cases R with
  | nil=>rfl
  | cons l r=>rw [kpre,hR l r rfl]
 | ks0,k :: r,h,hm=>by
  have ih:=kpre_lines R hR ks0 r h fun x hx=>hm x (List.mem_cons_of_mem _ hx)
  show kpre (lnI kindT [k.c,k.o] :: (klines r++R))=_
  rw [kpre,kline_of h (hm k (by simp)),ih]
theorem mdL_fwd {L:List Ln} {ks:List Kind} (hk:kindsOk ks):∀ (ws:Tx) (ts:List (List Twist)) (f a:Nat) (nm:Tx) (mv:List (List Twist)),ws.length=ts.length→(∀ w∈ws,isLet [w])→(∀ t∈ts,psOk ks t)→L.drop a=mlines ws ts→a≤L.length→ts.length<f→mv++ts≠[]→mdL L ks f a nm mv=.ok (nm++ws,mv++ts)
 | [],[],f,a,nm,mv,_,_,_,hd,ha,hf,hne=>by
  obtain ⟨f,rfl⟩:∃ g,f=g+1:=⟨f - 1,by simp at hf;omega⟩
  have:L.length≤a:=by
   have h1:(L.drop a).length=0:=by rw [hd];rfl
   rw [List.length_drop] at h1;omega
  rw [List.append_nil] at hne
  rw [mdL,if_pos this,if_neg hne,List.append_nil,List.append_nil]
 | w :: ws,t :: ts,f,a,nm,mv,hl,hw,ht,hd,ha,hf,hne=>by
  obtain ⟨f,rfl⟩:∃ g,f=g+1:=⟨f - 1,by simp at hf;omega⟩
  have hd2:L.drop a=(moveT++[32]++[w],true) :: (twL t++mlines ws ts):=hd
  have hlt:a<L.length:=by
   apply Decidable.byContradiction
   intro q
   rw [List.drop_eq_nil_of_le (by omega)] at hd2
   cases hd2
  have hcons:=List.drop_eq_getElem_cons hlt
  rw [hd2] at hcons
  injection hcons with c1 c2
  have hlat:lat L a=(moveT++[32]++[w],true):=by
   unfold lat;rw [getD_eq _ _ _ hlt];exact c1.symm
  have hp:=ht t (by simp)
  have hn:=ps_twN hp
  have htw:=tw_fwd (b:=a+1) (R:=mlines ws ts) hk hn c2.symm
  have hd3:L.drop (a+1+2*ks.length)=mlines ws ts:=by
   rw [← List.drop_drop,← c2,List.drop_append_of_le_length (by rw [twL_len,hn.1];omega),List.drop_of_length_le (by rw [twL_len,hn.1];omega),List.nil_append]
  have hle:a+1+2*ks.length≤L.length:=by
   have h1:(L.drop (a+1)).length=(twL t++mlines ws ts).length:=by rw [← c2]
   rw [List.length_drop,List.length_append,twL_len,hn.1] at h1
   have:=hk.1.1
   omega
  have ih:=mdL_fwd hk ws ts f (a+1+2*ks.length) (nm++[w]) (mv++[t]) (by simpa using hl) (fun x hx=>hw x (by simp [hx])) (fun x hx=>ht x (by simp [hx])) hd3 hle (by simp at hf;omega) (by simp)
  rw [mdL,if_neg (by omega),hlat,lineN_of [w] (hw w (by simp))]
  dsimp only
  rw [htw]
  dsimp only
  rw [ih,List.append_assoc,List.append_assoc];rfl
 | [],t :: ts,f,a,nm,mv,h,_,_,_,_,_,_=>by simp at h
 | w :: ws,[],f,a,nm,mv,h,_,_,_,_,_,_=>by simp at h
theorem klines_full (ks:List Kind):∀ k,k≤ks.length→(klines (ks.take k)).flatMap full=knK ks k
 | 0,_=>rfl
 | k+1,h=>by
  have ih:=klines_full ks k (by omega)
  rw [take_succ_eq ks k default (by omega)]
  unfold klines at ih ⊢
  rw [List.map_append,List.flatMap_append,ih,knK]
  congr 1
  simp [lnI,full,knT,kindT,jn_two,List.append_assoc]
theorem mlines_full (m:Model) (h:m.nm.length=m.mv.length):∀ k,k≤m.mv.length→(klines m.ks).flatMap full++(mlines (m.nm.take k) (m.mv.take k)).flatMap full=mdK m k
 | 0,_=>by
  have:=klines_full m.ks m.ks.length (Nat.le_refl _)
  rw [List.take_length] at this
  rw [mdK,this]
  simp [mlines]
 | k+1,hk=>by
  have ih:=mlines_full m h k (by omega)
  have hsn:∀ (a:Tx) (b:List (List Twist)) (w:UInt8) (t:List Twist),a.length=b.length→mlines (a++[w]) (b++[t])=mlines a b++mvL [w] t:=fun a=>by
   induction a with
   | nil =>
    intro b w t hb
    have:b=[]:=List.eq_nil_of_length_eq_zero hb.symm
    subst this
    simp [mlines]
   | cons x a iha =>
    intro b w t hb
    cases b with
    | nil=>simp at hb
    | cons y b =>
     have:=iha b w t (by simpa using hb)
     show mvL [x] y++mlines (a++[w]) (b++[t])=mvL [x] y++mlines a b++mvL [w] t
     rw [this,List.append_assoc]
  rw [take_succ_eq m.nm k 0 (by omega),take_succ_eq m.mv k default (by omega),hsn _ _ _ _ (by rw [List.length_take,List.length_take,h]),List.flatMap_append,← List.append_assoc,ih,mdK]
  congr 1
  have e1:(m.nm.take k++[m.nm.getD k 0]).drop k=[m.nm.getD k 0]:=by
   have:(m.nm.take k).length=k:=by rw [List.length_take];omega
   conv=>lhs;rw [show k=(m.nm.take k).length from this.symm]
   rw [this,List.drop_append_of_le_length (by omega),List.drop_of_length_le (by omega)];rfl
  unfold mvL
  rw [List.flatMap_cons,twL_all,take_succ_eq m.nm k 0 (by omega),e1]
  simp [full,moveT,List.append_assoc]
theorem mod_let {m:Model} (h:modelOk m):∀ w∈m.nm,isLet [w]:=fun w hw=>⟨rfl,(h.2.1.1.1 w hw).1,(h.2.1.1.1 w hw).2⟩
theorem mdK_short {m:Model} (h:modelOk m):∀ k,k≤m.mv.length→(mdK m k).length≤33+151*k
 | 0,_=>by
  have hk:∀ j,j≤m.ks.length→(knK m.ks j).length≤11*j:=fun j=>by
   induction j with
   | zero=>intro _;simp [knK]
   | succ j ih =>
    intro hj
    have h1:=ih (by omega)
    have hb:=kindsOk_kind h.1 (mem_getD m.ks j default (by omega))
    have i1:=itoa_two (x:=(m.ks.getD j default).c) (by omega) (by omega)
    have i2:=itoa_two (x:=(m.ks.getD j default).o) (by omega) (by omega)
    rw [knK]
    simp only [knT,List.length_append,List.length_cons,List.length_nil]
    omega
  have:=hk m.ks.length (Nat.le_refl _)
  have:=h.1.1
  rw [mdK];omega
 | k+1,hk=>by
  have ih:=mdK_short h k (by omega)
  have hp:=h.2.2.2 _ (mem_getD m.mv k default (by omega))
  have:=tw_short hp
  rw [mdK]
  simp only [List.length_append,List.length_cons,List.length_nil,List.length_drop,List.length_take]
  omega
theorem mod_fwd {m:Model} (h:modelOk m):pmdE (mdT m)=.ok m:=by
 have hml:1≤m.mv.length∧m.mv.length≤8:=by have:=h.2.1.2;have:=h.2.2.1;omega
 have e:mdT m=mdK m m.mv.length:=if_pos h
 have hs:=mdK_short h m.mv.length (Nat.le_refl _)
 obtain ⟨Ls,hLs⟩:∃ Ls,Ls=klines m.ks++mlines m.nm m.mv:=⟨_,rfl⟩
 have htx:Ls.flatMap full=mdK m m.mv.length:=by
  have:=mlines_full m h.2.2.1 m.mv.length (Nat.le_refl _)
  rw [List.take_length,List.take_of_length_le (by rw [h.2.2.1];exact Nat.le_refl _)] at this
  rw [hLs,List.flatMap_append];exact this
 have hno:∀ l∈Ls,l.2=true∧(10:UInt8)∉l.1:=fun l hl=>by
  rw [hLs] at hl
  rcases List.mem_append.1 hl with hl | hl
  ·unfold klines at hl
   obtain ⟨k,hk,rfl⟩:=List.mem_map.1 hl
   exact lnI_no (by decide) (kind_in h.1 hk)
  ·have hall:∀ (ws:Tx) (ts:List (List Twist)),(∀ w∈ws,isLet [w])→(∀ t∈ts,psOk m.ks t)→∀ l∈mlines ws ts,l.2=true∧(10:UInt8)∉l.1:=fun ws=>by
    induction ws with
    | nil=>intro ts _ _ l hl;simp [mlines] at hl
    | cons w ws ih =>
     intro ts hw ht l hl
     cases ts with
     | nil=>simp [mlines] at hl
     | cons t ts =>
      have hl:l∈((moveT++[32]++[w],true):Ln) :: twL t++mlines ws ts:=hl
      rcases List.mem_append.1 hl with hl | hl
      ·rcases List.mem_cons.1 hl with rfl | hl
       ·refine ⟨rfl,?_⟩
        have hw1:=hw w (by simp)
        simp only [List.mem_append,List.mem_singleton,not_or]
        refine ⟨⟨by decide,by decide⟩,fun q=>?_⟩
        subst q
        exact absurd hw1.2.1 (by decide)
       ·exact twL_no (ps_twN (ht t (by simp))) l hl
      ·exact ih ts (fun x hx=>hw x (by simp [hx])) (fun x hx=>ht x (by simp [hx])) l hl
   exact hall m.nm m.mv (mod_let h) h.2.2.2 l hl
 have hln:lnsOf (mdT m)=Ls:=by rw [e,← htx];exact lns_of Ls hno
 unfold pmdE
 rw [if_neg (by rw [e];omega),hln]
 obtain ⟨w,ws,hnm⟩:∃ w ws,m.nm=w :: ws:=by
  cases hq:m.nm with
  | nil=>have:=h.2.2.1;rw [hq] at this;simp at this;omega
  | cons w ws=>exact ⟨w,ws,rfl⟩
 obtain ⟨t,ts,hmv⟩:∃ t ts,m.mv=t :: ts:=by
  cases hq:m.mv with
  | nil=>rw [hq] at hml;simp at hml
  | cons t ts=>exact ⟨t,ts,rfl⟩
 have hMl:mlines m.nm m.mv=(moveT++[32]++[w],true) :: (twL t++mlines ws ts):=by rw [hnm,hmv];rfl
 have hwl:=mod_let h w (by rw [hnm];simp)
 have hkp:kpre Ls=m.ks:=by
  rw [hLs]
  refine kpre_lines _ (fun l r hl=>?_) m.ks m.ks h.1 fun k hk=>hk
  rw [hMl] at hl
  injection hl with h1 _
  rw [← h1];exact kline_move [w] hwl
 have hne:Ls≠[]:=fun q=>by
  have:(klines m.ks++mlines m.nm m.mv).length=0:=by rw [← hLs,q];rfl
  rw [List.length_append,hMl] at this
  simp at this
 have hkl:(klines m.ks).length=m.ks.length:=by unfold klines;rw [List.length_map]
 have hdrop:Ls.drop m.ks.length=mlines m.nm m.mv:=by
  rw [hLs,← hkl,List.drop_left]
 have hLl:m.ks.length+m.mv.length≤Ls.length:=by
  have hall:∀ (ws:Tx) (ts:List (List Twist)),ws.length=ts.length→ts.length≤(mlines ws ts).length:=fun ws=>by
   induction ws with
   | nil=>intro ts hl;have:ts=[]:=List.eq_nil_of_length_eq_zero hl.symm;subst this;simp
   | cons w ws ih =>
    intro ts hl
    cases ts with
    | nil=>simp at hl
    | cons t ts =>
     have:=ih ts (by simpa using hl)
     show ts.length+1≤(((moveT++[32]++[w],true):Ln) :: (twL t++mlines ws ts)).length
     simp only [List.length_cons,List.length_append];omega
  have:=hall m.nm m.mv h.2.2.1
  rw [hLs,List.length_append,hkl];omega
 have hlat:lat Ls m.ks.length=(moveT++[32]++[w],true):=by
  have:=lat_drop Ls m.ks.length 0
  rw [Nat.add_zero] at this
  rw [this,hdrop,hMl];rfl
 have hkd:kdR Ls=.ok m.ks:=by
  have:=h.1.1
  unfold kdR
  rw [hkp,if_neg (by omega),if_neg (fun q=>by
   have q2:=q.2
   rw [hlat,move_word [w] hwl] at q2
   have q3:moveT=kindT:=q2
   exact absurd q3 (by decide)),if_neg (by omega),if_pos h.1]
 unfold mdR
 rw [if_neg hne,hkd]
 dsimp only
 rw [mdL_fwd h.1 m.nm m.mv (Ls.length+1) m.ks.length [] [] h.2.2.1 (mod_let h) h.2.2.2 hdrop (by omega) (by omega) (by rw [hmv];simp)]
 dsimp only [List.nil_append]
 rw [if_pos h]
theorem mdT_nil (m:Model):mdT m=[]↔¬ modelOk m:=by
 constructor
 ·intro q h
  have e:mdT m=mdK m m.mv.length:=if_pos h
  rw [e] at q
  have hx:∀ k,mdK m k≠[]:=fun k=>by
   induction k with
   | zero =>
    intro q
    have hk:=h.1.1
    obtain ⟨j,hj⟩:∃ j,m.ks.length=j+1:=⟨m.ks.length - 1,by omega⟩
    rw [mdK,hj,knK] at q
    simp [knT] at q
   | succ k ih=>intro q;rw [mdK] at q;simp at q
  exact hx _ q
 ·intro h;exact if_neg h
end Ps
end Go.AM
set_option maxRecDepth 8000
namespace Go.AM
namespace Draws
open Go.Proofs
open Ps (Tx)
theorem least_of:∀ (n:Nat) (P:Nat→Prop),¬ P n→∃ K,K≤n∧¬ P K∧∀ j,j<K→P j
 | 0,_,h=>⟨0,Nat.le_refl _,h,fun j hj=>by omega⟩
 | n+1,P,h=>by
  by_cases c:P 0
  ·obtain ⟨K,h1,h2,h3⟩:=least_of n (fun j=>P (j+1)) h
   refine ⟨K+1,by omega,h2,fun j hj=>?_⟩
   cases j with
   | zero=>exact c
   | succ j=>exact h3 j (by omega)
  ·exact ⟨0,by omega,c,fun j hj=>by omega⟩
noncomputable def fS (s:Src):Nat→Src
 | 0=>s
 | k+1=>bS (fS s k) 2
theorem fS_ok (s:Src) (h:s.ok):∀ k,(fS s k).ok
 | 0=>h
 | k+1=>(belowF (fS s k) 2 (fS_ok s h k) (by unfold intOk;omega)).2.1
def jk8:List Tx:=[[32],[10],[48],[57],[65],[107,105,110,100,32,49,32,49,10],[120]]
def jk3:List Tx:=[[10],[116,111,32,48,10],[109,111,118,101,32,90,10],[109,111,118,101,32,65,32,48,32,49,10],[32]]
def jk4:List Tx:=[[49],[48],[50],[32]]
theorem jk_get (J:List Tx) (n:Nat) (h:n<J.length) (hb:∀ u∈J,u.length≤11):∃ y:Tx,(J.map AV.st).getD n .any=.st y∧y.length≤11:=by
 refine ⟨J[n],?_,hb _ (List.getElem_mem h)⟩
 rw [getD_eq _ _ _ (by rw [List.length_map];exact h),List.getElem_map]
theorem bend (s:Src) (w:Tx) (h:s.ok) (hw:w.length≤1000000):∃ (s':Src) (u:Tx),SpecX Tryz.prog 67 [s.pt,.st w] [some s'.pt] (.st u)∧s'.ok∧u.length≤w.length+2001:=by
 by_cases c0:w=[]
 ·subst c0
  refine ⟨s,[],?_,h,by omega⟩
  have he:(([]:Tx) == [])=true:=rfl
  refine spec_of_awp (M:=MM) (np:=2) (fz:=false) mixed Tryz.func67 rfl rfl (by decide) rfl (Nat.le_refl _) (by decide +kernel) (.inl rfl) (by simp only [sigsOk_some,sigsOk_nil,and_true]) ?_
  simp -dsimp -implicitDefEqProofs (disch:=first|omega|(simp only [lenr];try omega)) only [↓amPre,↓reduceIte,reduceCtorEq,reduceEqDiff,Nat.reduceBEq,reduceAdd,reduceLeDiff,reduceSub,reduceMul,reduceToNat,MM,bu0,cbJ1,he]
 have hwp:1≤w.length:=by
  cases w with
  | nil=>exact absurd rfl c0
  | cons a r=>simp
 have hne:(w == ([]:Tx))=false:=by simpa using c0
 obtain ⟨s1,b,q1,k1⟩:=oneIn s 2 h (by unfold intOk;omega)
 cases b with
 | false =>
  refine ⟨s1,w,?_,k1,by omega⟩
  refine spec_of_awp (M:=MM) (np:=2) (fz:=false) mixed Tryz.func67 rfl rfl (by decide) rfl (Nat.le_refl _) (by decide +kernel) (.inl rfl) (by simp only [sigsOk_some,sigsOk_nil,and_true];rfl) ?_
  simp -dsimp -implicitDefEqProofs (disch:=first|omega|(simp only [lenr];try omega)) only [↓amPre,↓reduceIte,reduceCtorEq,reduceEqDiff,Nat.reduceBEq,reduceAdd,reduceLeDiff,reduceSub,reduceMul,reduceToNat,MM,bu0,cbJ1,hne]
  refine callX_of (q1) ?_
  simp -dsimp -implicitDefEqProofs (disch:=first|omega|(simp only [lenr];try omega)) only [↓amPre,↓reduceIte,reduceCtorEq,reduceEqDiff,Nat.reduceBEq,reduceAdd,reduceLeDiff,reduceSub,reduceMul,reduceToNat,MM,bu0,cbJ1,hne]
 | true =>
 obtain ⟨s2,x2,q2,k2,b1,b2,_⟩:=below s1 (w.length:Nat) k1 (by unfold intOk;omega)
 have b2:=b2 (by omega)
 obtain ⟨a,ha⟩:∃ a:Nat,x2=a:=⟨_,(Int.toNat_of_nonneg b1).symm⟩
 subst ha
 have hal:a<w.length:=by omega
 obtain ⟨s3,x3,q3,k3,e1,e2,_⟩:=below s2 6 k2 (by unfold intOk;omega)
 have e2:=e2 (by omega)
 obtain ⟨n,hn⟩:∃ n:Nat,x3=n:=⟨_,(Int.toNat_of_nonneg e1).symm⟩
 have hn6:n<6:=by omega
 subst hn
 match n,hn6 with
 | 0,_ =>
  refine ⟨s3,w.take a,?_,k3,by rw [List.length_take];omega⟩
  refine spec_of_awp (M:=MM) (np:=2) (fz:=false) mixed Tryz.func67 rfl rfl (by decide) rfl (Nat.le_refl _) (by decide +kernel) (.inl rfl) (by simp only [sigsOk_some,sigsOk_nil,and_true];rfl) ?_
  simp -dsimp -implicitDefEqProofs (disch:=first|omega|(simp only [lenr];try omega)) only [↓amPre,↓reduceIte,reduceCtorEq,reduceEqDiff,Nat.reduceBEq,reduceAdd,reduceLeDiff,reduceSub,reduceMul,reduceToNat,MM,bu0,cbJ1,hne]
  iterate 3 ((first|refine callX_of (q1) ?_|refine callX_of (q2) ?_|refine callX_of (q3) ?_);simp -dsimp -implicitDefEqProofs (disch:=first|omega|(simp only [lenr];try omega)) only [↓amPre,↓reduceIte,reduceCtorEq,reduceEqDiff,Nat.reduceBEq,reduceAdd,reduceLeDiff,reduceSub,reduceMul,reduceToNat,MM,bu0,cbJ1,hne])
 | 1,_ =>
  obtain ⟨s4,x4,q4,k4,f1,f2,_⟩:=below s3 7 k3 (by unfold intOk;omega)
  have f2:=f2 (by omega)
  obtain ⟨n,hn⟩:∃ n:Nat,x4=n:=⟨_,(Int.toNat_of_nonneg f1).symm⟩
  subst hn
  have hn7:n<7:=by omega
  obtain ⟨y,hy,hyl⟩:=jk_get jk8 n hn7 (by decide)
  refine ⟨s4,w.take a++y++w.drop a,?_,k4,by simp only [List.length_append,List.length_take,List.length_drop];omega⟩
  have hjl:(jk8.map AV.st).length=7:=rfl
  have hjd:jk8.map AV.st=[.st [32],.st [10],.st [48],.st [57],.st [65],.st [107,105,110,100,32,49,32,49,10],.st [120]]:=rfl
  refine spec_of_awp_any (M:=MM) (np:=2) (X:=[8,10,14]) (fz:=false) mixed Tryz.func67 rfl rfl (by decide) rfl (Nat.le_refl _) (by decide +kernel) (.inl rfl) (by simp only [sigsOk_some,sigsOk_nil,and_true];rfl) ?_
  simp -dsimp -implicitDefEqProofs (disch:=first|omega|(simp only [lenr];try omega)) only [↓amPre,↓reduceIte,reduceCtorEq,reduceEqDiff,Nat.reduceBEq,reduceAdd,reduceLeDiff,reduceSub,reduceMul,reduceToNat,MM,bu0,cbJ1,hne]
  iterate 3 ((first|refine callX_of (q1) ?_|refine callX_of (q2) ?_|refine callX_of (q3) ?_);simp -dsimp -implicitDefEqProofs (disch:=first|omega|(simp only [lenr];try omega)) only [↓amPre,↓reduceIte,reduceCtorEq,reduceEqDiff,Nat.reduceBEq,reduceAdd,reduceLeDiff,reduceSub,reduceMul,reduceToNat,MM,bu0,cbJ1,hne])
  refine lat_go [[],[],[0,1],[],[],[4],[3,4,5],[3,4,5,6],[0,1,2,3,4,5,6,7],[],[],[9,10],[0,1,2,3,4,5,6,7,8,9,10,11],[0,1,2,3,4,5,6,7,8,9,10,11,12]] [[2,8,12,13],[2,8,12,13],[8,12,13],[6,7,8,12,13],[5,6,7,8,12,13],[6,7,8,12,13],[7,8,12,13],[8,12,13],[12,13],[11,12,13],[11,12,13],[12,13],[13],[]] [0,1,2,3,4,5,6,7,8,9,10,11,12,13] (fun c st=>st.fr 0=.loc 0 [] 0 0∧st.fr 1=.st w∧st.fr 5=.i64 a∧(c 0=true→st.fr 27=.st w)∧(c 1=true→st.fr 28=.i64 a)∧(c 2=true→st.fr 29=.st (w.take a))∧(c 3=true→st.fr 30=.ref 30 [] 1 0 7)∧(c 4=true→st.fr 31=.loc 0 [] 0 0)∧(c 5=true→st.fr 32=.i64 n)∧(c 6=true→st.fr 33=.loc 30 [] n 0)∧(c 7=true→st.fr 34=.st y)∧(c 8=true→st.fr 35=.st (w.take a++y))∧(c 9=true→st.fr 36=.st w)∧(c 10=true→st.fr 37=.i64 a)∧(c 11=true→st.fr 38=.st (w.drop a))∧(c 12=true→st.fr 39=.st (w.take a++y++w.drop a))∧(c 13=true→st.fr 4=.st (w.take a++y++w.drop a))∧st.mem 0=some (bif c 5 then (s4.pt) else (s3.pt))∧(c 3=true→st.mem 30=some (.tr 1 (jk8.map AV.st)))) (by decide +kernel) ?_ ?_ ?_
  ·(try simp -dsimp -implicitDefEqProofs (disch:=first|omega|(simp only [lenr];try omega)) only [↓amPre,↓reduceIte,reduceCtorEq,reduceEqDiff,Nat.reduceBEq,reduceAdd,reduceLeDiff,reduceSub,reduceMul,reduceToNat,MM,bu0,cbJ1,latj,hy,hjl,← hjd])
   all_goals (try (repeat' (first | apply And.intro | rfl | (intro _;rfl) | (intro _ _;rfl))))
  ·refine ⟨?_,?_,?_,?_,?_,?_,?_,?_,?_,?_,?_,?_,?_,?_,trivial⟩
   all_goals rintro c st R hC hJ hR
   all_goals simp only [latm] at hC
   all_goals simp only [hC,latj] at hJ
   all_goals simp -dsimp -implicitDefEqProofs (disch:=first|omega|(simp only [lenr];try omega)) only [↓amPre,↓reduceIte,reduceCtorEq,reduceEqDiff,Nat.reduceBEq,reduceAdd,reduceLeDiff,reduceSub,reduceMul,reduceToNat,MM,bu0,cbJ1,hJ,hy,hjl,← hjd]
   all_goals (try (refine callX_of q4 ?_;simp -dsimp -implicitDefEqProofs (disch:=first|omega|(simp only [lenr];try omega)) only [↓amPre,↓reduceIte,reduceCtorEq,reduceEqDiff,Nat.reduceBEq,reduceAdd,reduceLeDiff,reduceSub,reduceMul,reduceToNat,MM,bu0,cbJ1,hJ,hy,hjl,← hjd]))
   all_goals refine hR _ ?_
   all_goals (simp +contextual -dsimp -implicitDefEqProofs only [amAll,↓reduceIte,reduceCtorEq,reduceEqDiff,Nat.reduceBEq,reduceAdd,latj,hC,hJ,hy,hjl,← hjd];try (repeat' (first | apply And.intro | rfl | (intro _;rfl) | (intro _ _;rfl))))
  intro c st hall hJ
  simp only [latm] at hall
  simp only [hall,latj] at hJ
  obtain ⟨f0,f1,f5,f27,f28,f29,f30,f31,f32,f33,f34,f35,f36,f37,f38,f39,f4,m0,m30⟩:=hJ
  clear hall
  simp -dsimp -implicitDefEqProofs (disch:=first|omega|(simp only [lenr];try omega)) only [↓amPre,↓reduceIte,reduceCtorEq,reduceEqDiff,Nat.reduceBEq,reduceAdd,reduceLeDiff,reduceSub,reduceMul,reduceToNat,MM,bu0,cbJ1,f0,f1,f5,f4,m0]
 | 2,_ =>
  refine ⟨s3,w.take a++w.drop (a+1),?_,k3,by simp only [List.length_append,List.length_take,List.length_drop];omega⟩
  have hw1:IntKind.i64.wrap ((a:Int)+1)=((a+1:Nat):Int):=by rw [wrap64_id (by omega)];rfl
  refine spec_of_awp_any (M:=MM) (np:=2) (X:=[8,10,14]) (fz:=false) mixed Tryz.func67 rfl rfl (by decide) rfl (Nat.le_refl _) (by decide +kernel) (.inl rfl) (by simp only [sigsOk_some,sigsOk_nil,and_true];rfl) ?_
  simp -dsimp -implicitDefEqProofs (disch:=first|omega|(simp only [lenr];try omega)) only [↓amPre,↓reduceIte,reduceCtorEq,reduceEqDiff,Nat.reduceBEq,reduceAdd,reduceLeDiff,reduceSub,reduceMul,reduceToNat,MM,bu0,cbJ1,hne]
  iterate 3 ((first|refine callX_of (q1) ?_|refine callX_of (q2) ?_|refine callX_of (q3) ?_);simp -dsimp -implicitDefEqProofs (disch:=first|omega|(simp only [lenr];try omega)) only [↓amPre,↓reduceIte,reduceCtorEq,reduceEqDiff,Nat.reduceBEq,reduceAdd,reduceLeDiff,reduceSub,reduceMul,reduceToNat,MM,bu0,cbJ1,hne])
  refine split_go 7 (by decide +kernel) ?_
  simp -dsimp -implicitDefEqProofs (disch:=first|omega|(simp only [lenr];try omega)) only [↓amPre,↓reduceIte,reduceCtorEq,reduceEqDiff,Nat.reduceBEq,reduceAdd,reduceLeDiff,reduceSub,reduceMul,reduceToNat,MM,bu0,cbJ1,hw1]
 | 3,_ =>
  obtain ⟨s4,x4,q4,k4,f1,f2,_⟩:=below s3 5 k3 (by unfold intOk;omega)
  have f2:=f2 (by omega)
  obtain ⟨n,hn⟩:∃ n:Nat,x4=n:=⟨_,(Int.toNat_of_nonneg f1).symm⟩
  subst hn
  have hn7:n<5:=by omega
  obtain ⟨y,hy,hyl⟩:=jk_get jk3 n hn7 (by decide)
  refine ⟨s4,w++y,?_,k4,by simp only [List.length_append];omega⟩
  have hy2:([.st [10],.st [116,111,32,48,10],.st [109,111,118,101,32,90,10],.st [109,111,118,101,32,65,32,48,32,49,10],.st [32]]:List AV).getD n .any=.st y:=hy
  refine spec_of_awp (M:=MM) (np:=2) (fz:=false) mixed Tryz.func67 rfl rfl (by decide) rfl (Nat.le_refl _) (by decide +kernel) (.inl rfl) (by simp only [sigsOk_some,sigsOk_nil,and_true];rfl) ?_
  simp -dsimp -implicitDefEqProofs (disch:=first|omega|(simp only [lenr];try omega)) only [↓amPre,↓reduceIte,reduceCtorEq,reduceEqDiff,Nat.reduceBEq,reduceAdd,reduceLeDiff,reduceSub,reduceMul,reduceToNat,MM,bu0,cbJ1,hne]
  iterate 3 ((first|refine callX_of (q1) ?_|refine callX_of (q2) ?_|refine callX_of (q3) ?_);simp -dsimp -implicitDefEqProofs (disch:=first|omega|(simp only [lenr];try omega)) only [↓amPre,↓reduceIte,reduceCtorEq,reduceEqDiff,Nat.reduceBEq,reduceAdd,reduceLeDiff,reduceSub,reduceMul,reduceToNat,MM,bu0,cbJ1,hne])
  refine callX_of (q4) ?_
  simp -dsimp -implicitDefEqProofs (disch:=first|omega|(simp only [lenr];try omega)) only [↓amPre,↓reduceIte,reduceCtorEq,reduceEqDiff,Nat.reduceBEq,reduceAdd,reduceLeDiff,reduceSub,reduceMul,reduceToNat,MM,bu0,cbJ1,hne,hy2]
 | 4,_ =>
  obtain ⟨s4,x4,q4,k4,f1,f2,_⟩:=below s3 4 k3 (by unfold intOk;omega)
  have f2:=f2 (by omega)
  obtain ⟨n,hn⟩:∃ n:Nat,x4=n:=⟨_,(Int.toNat_of_nonneg f1).symm⟩
  subst hn
  have hn7:n<4:=by omega
  obtain ⟨y,hy,hyl⟩:=jk_get jk4 n hn7 (by decide)
  refine ⟨s4,w.take a++y++w.drop (a+1),?_,k4,by simp only [List.length_append,List.length_take,List.length_drop];omega⟩
  have hjl:(jk4.map AV.st).length=4:=rfl
  have hjd:jk4.map AV.st=[.st [49],.st [48],.st [50],.st [32]]:=rfl
  have hw1:IntKind.i64.wrap ((a:Int)+1)=((a+1:Nat):Int):=by rw [wrap64_id (by omega)];rfl
  refine spec_of_awp_any (M:=MM) (np:=2) (X:=[8,10,14]) (fz:=false) mixed Tryz.func67 rfl rfl (by decide) rfl (Nat.le_refl _) (by decide +kernel) (.inl rfl) (by simp only [sigsOk_some,sigsOk_nil,and_true];rfl) ?_
  simp -dsimp -implicitDefEqProofs (disch:=first|omega|(simp only [lenr];try omega)) only [↓amPre,↓reduceIte,reduceCtorEq,reduceEqDiff,Nat.reduceBEq,reduceAdd,reduceLeDiff,reduceSub,reduceMul,reduceToNat,MM,bu0,cbJ1,hne]
  iterate 3 ((first|refine callX_of (q1) ?_|refine callX_of (q2) ?_|refine callX_of (q3) ?_);simp -dsimp -implicitDefEqProofs (disch:=first|omega|(simp only [lenr];try omega)) only [↓amPre,↓reduceIte,reduceCtorEq,reduceEqDiff,Nat.reduceBEq,reduceAdd,reduceLeDiff,reduceSub,reduceMul,reduceToNat,MM,bu0,cbJ1,hne])
  refine lat_go [[],[],[0,1],[],[],[4],[3,4,5],[3,4,5,6],[0,1,2,3,4,5,6,7],[],[],[10],[9,10,11],[0,1,2,3,4,5,6,7,8,9,10,11,12],[0,1,2,3,4,5,6,7,8,9,10,11,12,13]] [[2,8,13,14],[2,8,13,14],[8,13,14],[6,7,8,13,14],[5,6,7,8,13,14],[6,7,8,13,14],[7,8,13,14],[8,13,14],[13,14],[12,13,14],[11,12,13,14],[12,13,14],[13,14],[14],[]] [0,1,2,3,4,5,6,7,8,9,10,11,12,13,14] (fun c st=>st.fr 0=.loc 0 [] 0 0∧st.fr 1=.st w∧st.fr 5=.i64 a∧(c 0=true→st.fr 61=.st w)∧(c 1=true→st.fr 62=.i64 a)∧(c 2=true→st.fr 63=.st (w.take a))∧(c 3=true→st.fr 64=.ref 64 [] 1 0 4)∧(c 4=true→st.fr 65=.loc 0 [] 0 0)∧(c 5=true→st.fr 66=.i64 n)∧(c 6=true→st.fr 67=.loc 64 [] n 0)∧(c 7=true→st.fr 68=.st y)∧(c 8=true→st.fr 69=.st (w.take a++y))∧(c 9=true→st.fr 70=.st w)∧(c 10=true→st.fr 71=.i64 a)∧(c 11=true→st.fr 72=.i64 (a+1:Nat))∧(c 12=true→st.fr 73=.st (w.drop (a+1)))∧(c 13=true→st.fr 74=.st (w.take a++y++w.drop (a+1)))∧(c 14=true→st.fr 4=.st (w.take a++y++w.drop (a+1)))∧st.mem 0=some (bif c 5 then (s4.pt) else (s3.pt))∧(c 3=true→st.mem 64=some (.tr 1 (jk4.map AV.st)))) (by decide +kernel) ?_ ?_ ?_
  ·(try simp -dsimp -implicitDefEqProofs (disch:=first|omega|(simp only [lenr];try omega)) only [↓amPre,↓reduceIte,reduceCtorEq,reduceEqDiff,Nat.reduceBEq,reduceAdd,reduceLeDiff,reduceSub,reduceMul,reduceToNat,MM,bu0,cbJ1,latj,hy,hjl,hw1,← hjd])
   all_goals (try (repeat' (first | apply And.intro | rfl | (intro _;rfl) | (intro _ _;rfl))))
  ·refine ⟨?_,?_,?_,?_,?_,?_,?_,?_,?_,?_,?_,?_,?_,?_,?_,trivial⟩
   all_goals rintro c st R hC hJ hR
   all_goals simp only [latm] at hC
   all_goals simp only [hC,latj] at hJ
   all_goals simp -dsimp -implicitDefEqProofs (disch:=first|omega|(simp only [lenr];try omega)) only [↓amPre,↓reduceIte,reduceCtorEq,reduceEqDiff,Nat.reduceBEq,reduceAdd,reduceLeDiff,reduceSub,reduceMul,reduceToNat,MM,bu0,cbJ1,hJ,hy,hjl,hw1,← hjd]
   all_goals (try (refine callX_of q4 ?_;simp -dsimp -implicitDefEqProofs (disch:=first|omega|(simp only [lenr];try omega)) only [↓amPre,↓reduceIte,reduceCtorEq,reduceEqDiff,Nat.reduceBEq,reduceAdd,reduceLeDiff,reduceSub,reduceMul,reduceToNat,MM,bu0,cbJ1,hJ,hy,hjl,hw1,← hjd]))
   all_goals refine hR _ ?_
   all_goals (simp +contextual -dsimp -implicitDefEqProofs only [amAll,↓reduceIte,reduceCtorEq,reduceEqDiff,Nat.reduceBEq,reduceAdd,latj,hC,hJ,hy,hjl,hw1,← hjd];try (repeat' (first | apply And.intro | rfl | (intro _;rfl) | (intro _ _;rfl))))
  intro c st hall hJ
  simp only [latm] at hall
  simp only [hall,latj] at hJ
  obtain ⟨f0,f1,f5,f61,f62,f63,f64,f65,f66,f67,f68,f69,f70,f71,f72,f73,f74,f4,m0,m64⟩:=hJ
  clear hall
  simp -dsimp -implicitDefEqProofs (disch:=first|omega|(simp only [lenr];try omega)) only [↓amPre,↓reduceIte,reduceCtorEq,reduceEqDiff,Nat.reduceBEq,reduceAdd,reduceLeDiff,reduceSub,reduceMul,reduceToNat,MM,bu0,cbJ1,f0,f1,f5,f4,m0]
 | 5,_ =>
  have hfin:=fS_ok s3 k3
  have hbx:=fun j=>belowF (fS s3 j) 2 (hfin j) (by unfold intOk;omega)
  obtain ⟨K,hK1,hK2,hK3⟩:=least_of 2001 (fun j=>((w.length+j:Nat):Int)<2000+bX (fS s3 j) 2) (by
   have:=(hbx 2001).2.2.2.1 (by omega)
   omega)
  refine ⟨fS s3 (K+1),w++List.replicate K 57,?_,hfin _,by simp only [List.length_append,List.length_replicate];omega⟩
  refine spec_of_awp (M:=MM) (np:=2) (fz:=false) mixed Tryz.func67 rfl rfl (by decide) rfl (Nat.le_refl _) (by decide +kernel) (.inl rfl) (by simp only [sigsOk_some,sigsOk_nil,and_true];rfl) ?_
  simp -dsimp -implicitDefEqProofs (disch:=first|omega|(simp only [lenr];try omega)) only [↓amPre,↓reduceIte,reduceCtorEq,reduceEqDiff,Nat.reduceBEq,reduceAdd,reduceLeDiff,reduceSub,reduceMul,reduceToNat,MM,bu0,cbJ1,hne]
  iterate 3 ((first|refine callX_of (q1) ?_|refine callX_of (q2) ?_|refine callX_of (q3) ?_);simp -dsimp -implicitDefEqProofs (disch:=first|omega|(simp only [lenr];try omega)) only [↓amPre,↓reduceIte,reduceCtorEq,reduceEqDiff,Nat.reduceBEq,reduceAdd,reduceLeDiff,reduceSub,reduceMul,reduceToNat,MM,bu0,cbJ1,hne])
  refine awp_loop (fun k st=>k≤K∧st.fr 1=.st (w++List.replicate k 57)∧st.fr 0=.loc 0 [] 0 0∧st.mem 0=some ((fS s3 k).pt)) (K) ?_ ?_
  ·simp -dsimp -implicitDefEqProofs (disch:=first|omega|(simp only [lenr];try omega)) only [↓amPre,↓reduceIte,reduceCtorEq,reduceEqDiff,Nat.reduceBEq,reduceAdd,reduceLeDiff,reduceSub,reduceMul,reduceToNat,MM,bu0,cbJ1,hne]
   simp [fS]
  rintro k st _ ⟨hk,f1,f0,m0⟩
  obtain ⟨g1,g2,g3,g4,_⟩:=hbx k
  have g4:=g4 (by omega)
  have hst:fS s3 (k+1)=bS (fS s3 k) 2:=rfl
  have hrl:(w++List.replicate k (57:UInt8)).length=w.length+k:=by simp
  have hap:w++List.replicate k (57:UInt8)++[57]=w++List.replicate (k+1) 57:=by rw [List.append_assoc,← List.replicate_succ']
  rw [← hst] at g1
  by_cases hlt:k<K
  ·have hc:=hK3 k hlt
   have hc':((w.length+k:Nat):Int)<2000+bX (fS s3 k) 2:=hc
   generalize bX (fS s3 k) 2=z at *
   generalize fS s3 (k+1)=S2 at *
   generalize fS s3 k=S1 at *
   simp -dsimp -implicitDefEqProofs (disch:=first|omega|(simp only [lenr];try omega)) only [↓amPre,↓reduceIte,reduceCtorEq,reduceEqDiff,Nat.reduceBEq,reduceAdd,reduceLeDiff,reduceSub,reduceMul,reduceToNat,MM,bu0,cbJ1,f1,f0,m0]
   refine callX_of (g1) ?_
   simp -dsimp -implicitDefEqProofs (disch:=first|omega|(simp only [lenr];try omega)) only [↓amPre,↓reduceIte,reduceCtorEq,reduceEqDiff,Nat.reduceBEq,reduceAdd,reduceLeDiff,reduceSub,reduceMul,reduceToNat,MM,bu0,cbJ1,f1,f0,m0,hrl,lt_true hc',hap]
   exact ⟨hlt,by omega⟩
  ·have hke:k=K:=by omega
   subst hke
   have hc':¬ ((w.length+k:Nat):Int)<2000+bX (fS s3 k) 2:=hK2
   generalize bX (fS s3 k) 2=z at *
   generalize fS s3 (k+1)=S2 at *
   generalize fS s3 k=S1 at *
   simp -dsimp -implicitDefEqProofs (disch:=first|omega|(simp only [lenr];try omega)) only [↓amPre,↓reduceIte,reduceCtorEq,reduceEqDiff,Nat.reduceBEq,reduceAdd,reduceLeDiff,reduceSub,reduceMul,reduceToNat,MM,bu0,cbJ1,f1,f0,m0]
   refine callX_of (g1) ?_
   simp -dsimp -implicitDefEqProofs (disch:=first|omega|(simp only [lenr];try omega)) only [↓amPre,↓reduceIte,reduceCtorEq,reduceEqDiff,Nat.reduceBEq,reduceAdd,reduceLeDiff,reduceSub,reduceMul,reduceToNat,MM,bu0,cbJ1,f1,f0,m0,hrl,lt_false (Int.not_lt.1 hc')]
end Draws
end Go.AM
namespace Go.AM
/-! a sort of the library's,as its own contract tells it,in this machine's words -/
def srt (l:List Int):List Int:=l.mergeSort fun x y=>decide (x≤y)
end Go.AM
namespace Go.AM
namespace Ps
/-! more of the kit's words as contracts: rows of one-cell values,a reader,pairs -/
theorem vat (x:Value):∀ p,((AV.v x).at p).isNode=false:=fun p=>rs_at (RepS.v (I:=fun _ _=>none) x) p
theorem vL_at (vs:List Value):∀ (ij:Nat×Nat) (p:Path),(((.tr 1 (vs.map AV.v):AV)).at (ij :: p)).isNode=false:=fun ij p=>by
 show (AV.at (((vs.map AV.v).getD ij.1 .any).cells.getD ij.2 .any) p).isNode=false
 by_cases h:ij.1<vs.length
 ·have e:(vs.map AV.v).getD ij.1 .any=.v (vs[ij.1]):=by simp [List.getD,h]
  rw [e]
  show (AV.at (([AV.v (vs[ij.1])]:List AV).getD ij.2 .any) p).isNode=false
  cases ij.2 with
  | zero=>exact vat _ p
  | succ j =>
   show (AV.at .any p).isNode=false
   rw [any_at];rfl
 ·have e:(vs.map AV.v).getD ij.1 .any=.any:=getD_ge (by simp;omega)
  rw [e]
  have e2:(AV.any).cells.getD ij.2 .any=.any:=by cases ij.2 <;> rfl
  rw [e2,any_at];rfl
theorem node_vL {vs:List Value} {p:Path} (h:(((.tr 1 (vs.map AV.v):AV)).at p).isNode=true):p=[]:=by
 cases p with
 | nil=>rfl
 | cons ij p=>rw [vL_at] at h;cases h
def plcOf (v:Value):Option Plc:=match v with | .slice (some a) _ cap=>some ⟨a.block,0,1,cap⟩ | _=>none
theorem row_ok {I:Gh} {π:Path→Option Plc} {w:World} {p:Path} {vs:List Value} {E:TypeId} {base:Nat} {v:Value} (hone:∀ x∈vs,x.oneCell'=true)
  (hrow:w.ownsRow base E 1 v vs.length vs) (hπ:π p=plcOf v):RowOk I π w p 1 (vs.map AV.v)∧Hdr (π p) (.tr 1 (vs.map AV.v)) v:=by
 obtain ⟨_,hrow⟩:=hrow
 rcases hrow with ⟨rfl,hn⟩ | ⟨g,cap,cur,rfl,hg,hblk,hc,hcm,hcs,hvals⟩
 ·have hL:vs=[]:=List.length_eq_zero_iff.1 hn
  subst hL
  exact ⟨.inl ⟨hπ,rfl⟩,.inr ⟨rfl,none,rfl⟩⟩
 ·have hget:∀ i (hi:i<vs.length),cur.getD i undef=vs[i]:=fun i hi=>by
   have h2:(cur.toList.take (vs.length*1))[i]? = some (vs[i]):=by
    rw [hvals,List.getElem?_eq_getElem hi]
   rw [List.getElem?_take,if_pos (by omega)] at h2
   rw [Array.getD_eq_getD_getElem?]
   have h3:cur[i]? = some (vs[i]):=by simpa using h2
   rw [h3];rfl
  refine ⟨.inr ⟨⟨g,0,1,cap⟩,E,cur,hπ,rfl,by simpa using hc,hcm,hblk,by simp [hcs],fun i hi=>⟨by simp [AV.cells],fun j hj=>?_⟩⟩,.inl ⟨⟨g,0,1,cap⟩,hπ,rfl,by simpa using hc,by simp⟩⟩
  have hi':i<vs.length:=by simpa using hi
  have hj':j=0:=by simp [AV.cells] at hj;omega
  subst hj'
  have e:=hget i hi'
  simp only [Nat.zero_add,Nat.mul_one,Nat.add_zero]
  rw [e]
  have e2:((List.map AV.v vs)[i]).cells[0]=AV.v (vs[i]):=by simp [AV.cells]
  refine ⟨.inr ⟨by rw [e2];rfl,by rw [e2];exact .v _⟩,hone _ (List.getElem_mem hi')⟩
theorem own_blk {v:Value} {w:World} {base:Nat} {E:TypeId} {vs:List Value} (hrow:w.ownsRow base E 1 v vs.length vs) {k:Plc} (h:(plcOf v)=some k):base≤k.b∧v.ownBlock=some k.b:=by
 obtain ⟨_,hrow⟩:=hrow
 rcases hrow with ⟨rfl,hn⟩ | ⟨g,cap,cur,rfl,hg,_⟩
 ·cases h
 ·cases h;exact ⟨hg,rfl⟩
theorem spec_vrow {P:Program} {f:FuncId} (hb:HasBody P f) (args:List AV) (hst:args.all (fun a=>!a.nodeB)=true) (vs:List Value) (hone:∀ x∈vs,x.oneCell'=true) (E:TypeId)
  (hs:∀ I w (vals:Array Value),Held I w→vals.size=args.length→(∀ j (hj:j<args.length) (hk:j<vals.size),RepS I (args[j]) (vals[j])) →
   Calls P f vals w fun e w'=>∃ v,e=.returned v∧w'.ownsRow w.heap.size E 1 v vs.length vs∧Go.RowKit.Below w.heap.size w w'):SpecAt P f args (.tr 1 (vs.map AV.v)):=by
 refine ⟨hb,by simp,fun j T hj=>by simp at hj,fun I π w vals hI hvs hsep htop=>?_⟩
 refine (hs I w vals hI hvs fun j hj hk=>top_stat (htop j hj hk) (by
  have:=List.all_eq_true.1 hst _ (List.getElem_mem hj)
  simpa using this)).mono ?_
 rintro e w' ⟨v,rfl,hrow,hbel⟩
 have hmem:∀ {i T},outMem args.length [] (.tr 1 (vs.map AV.v)) i=some T→i=args.length∧T=.tr 1 (vs.map AV.v):=fun {i T} h1=>by
  unfold outMem at h1
  split at h1
  ·rename_i h;cases h1;exact ⟨h,rfl⟩
  ·simp at h1
 have hHeld:Held I w':=hI.same fun b o x hx=>hbel.block b (hI.lt hx)
 have hend:BelowX (Owns π (fun i=>args[i]?)) w.heap.size w w':=⟨hbel.os,hbel.tape,hbel.output,hbel.size,fun b h1 _=>hbel.block b h1⟩
 refine ⟨I,fun i p=>if i=args.length∧p=[] then (plcOf v) else none,v,rfl,hHeld,⟨fun i T p h1=>?_,fun i T p k h1 h2 h3 o=>?_,fun i T p k i' T' p' k' h1 h2 h3 h4 h5 h6 _=>?_⟩,.inl ⟨rfl,?_⟩,fun j T hT=>by simp at hT,hend,fun _ _ _=>rfl,fun b ⟨i,T,p,k,h1,h2,h3,h4⟩=>?_⟩
 ·obtain ⟨rfl,rfl⟩:=hmem h1
  cases hnn:(((.tr 1 (vs.map AV.v):AV)).at p).isNode with
  | false=>exact node_false hnn
  | true =>
   have:=node_vL hnn;subst this
   exact (row_ok (I:=I) (π:=fun p=>if args.length=args.length∧p=[] then (plcOf v) else none) (p:=[]) hone hrow (by rw [if_pos ⟨rfl,rfl⟩])).1
 ·obtain ⟨rfl,rfl⟩:=hmem h1
  simp only at h3
  split at h3
  ·have hk:=(own_blk hrow h3).1
   cases hx:I k.b o with
   | none=>rfl
   | some x=>exact absurd (hI.lt hx) (by omega)
  ·cases h3
 ·obtain ⟨rfl,rfl⟩:=hmem h1
  obtain ⟨rfl,rfl⟩:=hmem h4
  exact ⟨rfl,by rw [node_vL h2,node_vL h5]⟩
 ·exact (row_ok (I:=I) (π:=fun p=>if args.length=args.length∧p=[] then (plcOf v) else none) (p:=[]) hone hrow (by rw [if_pos ⟨rfl,rfl⟩])).2
 ·simp only at h3
  split at h3
  ·have hk:=(own_blk hrow h3).1
   subst h4;exact .inr hk
  ·cases h3
theorem one_max:1≤maxLen:=by decide
def rdr (vs:List Value) (a b:Value):AV:=.pt 3 (.agg [.tr 1 (vs.map AV.v),.v a,.v b])
theorem rdr_cell (vs:List Value) (a b:Value) (p:Path):∀ i j,(((rdr vs a b).cellAt i j).at p).isNode=true→i=0∧j=0∧p=[]
 | 0,0,h=>by
  have h:(((.tr 1 (vs.map AV.v):AV)).at p).isNode=true:=h
  exact ⟨rfl,rfl,node_vL h⟩
 | 0,1,h=>by
  have h:((AV.v a).at p).isNode=true:=h
  rw [vat] at h;cases h
 | 0,2,h=>by
  have h:((AV.v b).at p).isNode=true:=h
  rw [vat] at h;cases h
 | 0,j+3,h=>by
  have h:((AV.any).at p).isNode=true:=h
  rw [any_at] at h;cases h
 | i+1,j,h=>by
  have h:((AV.any).at p).isNode=true:=h
  rw [any_at] at h;cases h
theorem rdr_node {vs:List Value} {a b:Value} {p:Path} (h:((rdr vs a b).at p).isNode=true):p=[]∨p=[(0,0)]:=by
 cases p with
 | nil=>exact .inl rfl
 | cons ij p =>
  obtain ⟨i,j⟩:=ij
  obtain ⟨rfl,rfl,rfl⟩:=rdr_cell vs a b p i j h
  exact .inr rfl
theorem spec_rdr {P:Program} {f:FuncId} (hb:HasBody P f) (args:List AV) (hst:args.all (fun a=>!a.nodeB)=true) (vs:List Value) (hone:∀ x∈vs,x.oneCell'=true) (a b:Value) (ha:a.oneCell'=true) (hb':b.oneCell'=true) (E T:TypeId)
  (hs:∀ I w (vals:Array Value),Held I w→vals.size=args.length→(∀ j (hj:j<args.length) (hk:j<vals.size),RepS I (args[j]) (vals[j])) →
   Calls P f vals w fun e w'=>∃ B v,e=.returned (.pointer (some ⟨B,0,none⟩))∧w.heap.size≤B∧w'.heap[B]? = some (.cells #[v,a,b] T (0,0))∧v.oneCell'=true∧v.ownBlock≠some B∧w'.ownsRow w.heap.size E 1 v vs.length vs∧Go.RowKit.Below w.heap.size w w'):SpecAt P f args (rdr vs a b):=by
 refine ⟨hb,by simp,fun j T hj=>by simp at hj,fun I π w vals hI hvs hsep htop=>?_⟩
 refine (hs I w vals hI hvs fun j hj hk=>top_stat (htop j hj hk) (by
  have:=List.all_eq_true.1 hst _ (List.getElem_mem hj)
  simpa using this)).mono ?_
 rintro e w' ⟨B,v,rfl,hB,hBc,hv1,hvB,hrow,hbel⟩
 have hmem:∀ {i T},outMem args.length [] (rdr vs a b) i=some T→i=args.length∧T=rdr vs a b:=fun {i T} h1=>by
  unfold outMem at h1
  split at h1
  ·rename_i h;cases h1;exact ⟨h,rfl⟩
  ·simp at h1
 have hHeld:Held I w':=hI.same fun b o x hx=>hbel.block b (hI.lt hx)
 have hend:BelowX (Owns π (fun i=>args[i]?)) w.heap.size w w':=⟨hbel.os,hbel.tape,hbel.output,hbel.size,fun b h1 _=>hbel.block b h1⟩
 obtain ⟨Q,hQ⟩:∃ Q:Pl,Q=fun i p=>if i=args.length∧p=[] then some ⟨B,0,3,1⟩ else if i=args.length∧p=[(0,0)] then (plcOf v) else none:=⟨_,rfl⟩
 have Q0:Q args.length []=some ⟨B,0,3,1⟩:=by rw [hQ];simp
 have Q1:Q args.length [(0,0)]=plcOf v:=by rw [hQ];simp
 have hk:∀ p k,(p=[]∨p=[(0,0)])→Q args.length p=some k→w.heap.size≤k.b∧((p=[]∧k.b=B)∨(p=[(0,0)]∧v.ownBlock=some k.b)):=fun p k hp h3=>by
  rcases hp with rfl | rfl
  ·rw [Q0] at h3;cases h3;exact ⟨hB,.inl ⟨rfl,rfl⟩⟩
  ·rw [Q1] at h3
   obtain ⟨h1,h2⟩:=own_blk hrow h3
   exact ⟨h1,.inr ⟨rfl,h2⟩⟩
 refine ⟨I,Q,.pointer (some ⟨B,0,none⟩),rfl,hHeld,⟨fun i T p h1=>?_,fun i T p k h1 h2 h3 o=>?_,fun i T p k i' T' p' k' h1 h2 h3 h4 h5 h6 hbb=>?_⟩,.inl ⟨rfl,⟨⟨B,0,3,1⟩,Q0,rfl,Nat.le_refl _,rfl⟩⟩,fun j T hT=>by simp at hT,hend,fun _ _ _=>rfl,fun bb ⟨i,T,p,k,h1,h2,h3,h4⟩=>?_⟩
 ·obtain ⟨rfl,rfl⟩:=hmem h1
  cases hnn:((rdr vs a b).at p).isNode with
  | false=>exact node_false hnn
  | true =>
   have hr:=row_ok (I:=I) (π:=Q args.length) (p:=[(0,0)]) hone hrow Q1
   rcases rdr_node hnn with rfl | rfl
   ·refine .inr ⟨⟨B,0,3,1⟩,T,#[v,a,b],Q0,rfl,Nat.le_refl _,one_max,hBc,by simp,fun i hi=>⟨?_,fun j hj=>?_⟩⟩
    ·have:i=0:=by simpa using hi
     subst this;rfl
    ·have:i=0:=by simpa using hi
     subst this
     match j,hj with
     | 0,_=>exact ⟨.inl ⟨rfl,hr.2⟩,hv1⟩
     | 1,_=>exact ⟨.inr ⟨rfl,.v _⟩,ha⟩
     | 2,_=>exact ⟨.inr ⟨rfl,.v _⟩,hb'⟩
     | j+3,hj =>
      have hj:j+3<3:=hj
      omega
   ·exact hr.1
 ·obtain ⟨rfl,rfl⟩:=hmem h1
  have hq:=(hk p k (rdr_node h2) h3).1
  cases hx:I k.b o with
  | none=>rfl
  | some x=>exact absurd (hI.lt hx) (by omega)
 ·obtain ⟨rfl,rfl⟩:=hmem h1
  obtain ⟨rfl,rfl⟩:=hmem h4
  refine ⟨rfl,?_⟩
  rcases (hk p k (rdr_node h2) h3).2 with ⟨rfl,e1⟩ | ⟨rfl,e1⟩ <;> rcases (hk p' k' (rdr_node h5) h6).2 with ⟨rfl,e2⟩ | ⟨rfl,e2⟩
  ·rfl
  ·exact absurd (by rw [e2,← hbb,e1]) hvB
  ·exact absurd (by rw [e1,hbb,e2]) hvB
  ·rfl
 ·have hi:i=args.length∧T=rdr vs a b:=hmem h1
  obtain ⟨rfl,rfl⟩:=hi
  subst h4
  exact .inr (hk p k (rdr_node h2) h3).1
theorem spec_two {P:Program} {f:FuncId} (hb:HasBody P f) (args:List AV) (hst:args.all (fun a=>!a.nodeB)=true) (x y:AV) (hx:∀ p,(x.at p).isNode=false) (hy:∀ p,(y.at p).isNode=false) (hxa:∀ fs,x≠.agg fs) (hya:∀ fs,y≠.agg fs)
  (hs:∀ I w (vals:Array Value),Held I w→vals.size=args.length→(∀ j (hj:j<args.length) (hk:j<vals.size),RepS I (args[j]) (vals[j])) →
   Calls P f vals w fun e w'=>∃ u v,e=.returned (.tuple #[u,v])∧RepS I x u∧RepS I y v∧RowKit.Below w.heap.size w w'):SpecAt P f args (.tup [x,y]):=by
 refine ⟨hb,by simp,fun j T hj=>by simp at hj,fun I π w vals hI hvs hsep htop=>?_⟩
 have hn:∀ p,((AV.tup [x,y]).at p).isNode=false:=fun p=>by
  match p with
  | []=>rfl
  | (i,j) :: p =>
   have e:(AV.tup [x,y]).at ((i,j) :: p)=AV.at (match i with | 0=>([x,y]:List AV).getD j .any | _+1=>.any) p:=by cases i <;> rfl
   rw [e]
   match i,j with
   | 0,0=>exact hx p
   | 0,1=>exact hy p
   | 0,j+2=>show ((AV.any).at p).isNode=false;rw [any_at];rfl
   | i+1,j=>show ((AV.any).at p).isNode=false;rw [any_at];rfl
 have hm:∀ {i T p},outMem args.length [] (.tup [x,y]) i=some T→(T.at p).isNode=true→False:=fun {i T p} h1 h2=>by
  unfold outMem at h1
  split at h1
  ·cases h1;rw [hn p] at h2;cases h2
  ·simp at h1
 refine (hs I w vals hI hvs fun j hj hk=>top_stat (htop j hj hk) (by
  have:=List.all_eq_true.1 hst _ (List.getElem_mem hj)
  simpa using this)).mono ?_
 rintro e w' ⟨u,v,rfl,hu,hv,hbel⟩
 have t1:∀ {z:AV} {q:Value} {r:Path},(∀ fs,z≠.agg fs)→(z.at []).isNode=false→RepS I z q→TopOk1 I (π args.length) r z q:=fun {z q r} hz hzn hzr=>by
  unfold TopOk1
  split
  ·rename_i fs;exact absurd rfl (hz fs)
  ·exact .inr ⟨hzn,hzr⟩
 refine ⟨I,π,_,rfl,hI.same fun b o x hx=>hbel.block b (hI.lt hx),⟨fun i T p h1=>?_,fun i T p k h1 h2 _=>(hm h1 h2).elim,fun i T p k i' T' p' k' h1 h2 _ _ _ _ _=>(hm h1 h2).elim⟩,⟨#[u,v],rfl,rfl,fun j hj hk=>?_⟩,fun j T hT=>by simp at hT,⟨hbel.os,hbel.tape,hbel.output,hbel.size,fun b h1 _=>hbel.block b h1⟩,fun _ _ _=>rfl,fun b ⟨i,T,p,k,h1,h2,_⟩=>(hm h1 h2).elim⟩
 ·cases hnn:(T.at p).isNode with
  | false=>exact node_false hnn
  | true=>exact (hm h1 hnn).elim
 ·match j,hj with
  | 0,_=>exact t1 hxa (hx []) hu
  | 1,_=>exact t1 hya (hy []) hv
  | j+2,hj =>
   have hj:j+2<2:=hj
   omega
end Ps
end Go.AM
set_option maxRecDepth 8000
namespace Go.AM
namespace Ps
open Go.Proofs
def MM:FuncId→List Bool:=fun f=>if f=71 then [true] else if f=58 then [true,false,false] else if f=69 then [true,false] else if f=59 then [true,false] else if f=57 then [true] else if f=48 then [true,false] else []
def lnA (l:Ln):AV:=.st (full l)
theorem lnfz (L:List Ln):(L.map lnA).map AV.fz=L.map lnA:=map_fz _ _ _ fun _=>fz_v _
theorem lnfzL (L:List Ln):AV.fzL (L.map lnA)=L.map lnA:=by rw [fzL_map,lnfz]
theorem lnpure (L:List Ln):AV.pureL (L.map lnA)=true:=pureL_map _ (fun _=>rfl) L
theorem stpure (L:List Tx):AV.pureL (L.map AV.st)=true:=pureL_map _ (fun _=>rfl) L
theorem lngm (L:List Ln) (i:Nat) (h:i<L.length):(L.map lnA).getD i .any=.st (full (lat L i)):=by
 simp [List.getD,h,lat];rfl
theorem stgm (L:List Tx) (i:Nat) (h:i<L.length):(L.map AV.st).getD i .any=.st (L.getD i []):=by
 simp [List.getD,h]
theorem stfz (xs:List Tx):(xs.map AV.st).map AV.fz=xs.map AV.st:=map_fz _ _ _ fun _=>fz_v _
theorem txeq {a b:Tx} (h:a=b):(a == b)=true:=by simp [h]
theorem txne {a b:Tx} (h:a≠b):(a == b)=false:=by simp [h]
theorem isnoc (l:List Int) (x:Int):l.map AV.i64++[AV.i64 x]=(l++[x]).map AV.i64:=by simp
def wsl (ws:List Tx):AV:=.sl 1 (ws.map AV.st)
def wtr (ws:List Tx):AV:=.tr 1 (ws.map AV.st)
def rdT (L:List Ln) (r:Rd):AV:=.pt 3 (.agg [.tr 1 (L.map lnA),.i64 r.a,.i64 r.t])
def rdV (L:List Ln) (r:Rd):AV:=.ep [.sl 1 (L.map lnA),.i64 r.a,.i64 r.t]
theorem hasSuf (l:Ln) (h:(10:UInt8)∉l.1) (hs:l.1.length≤1048576):SpecAt Tryz.prog 148 [.st (full l),.st [10]] (.bl l.2):=by
 obtain ⟨t,e⟩:=l
 replace h:(10:UInt8)∉t:=h
 replace hs:t.length≤1048576:=hs
 cases e with
 | true =>
  have e1:full (t,true)=t++[10]:=rfl
  have e2:(t++[(10:UInt8)]).length=t.length+1:=by simp
  rw [e1]
  refine spec_of_awp (M:=MM) (np:=2) (fz:=true) mixed Tryz.func148 rfl rfl (by decide) rfl (Nat.le_refl _) (by decide +kernel) (.inr ⟨rfl,rfl⟩) trivial ?_
  simp -dsimp -implicitDefEqProofs (disch:=first|omega|(simp only [lenr];try omega)) only [↓amPre,↓reduceIte,reduceCtorEq,reduceEqDiff,Nat.reduceBEq,reduceAdd,reduceLeDiff,reduceSub,reduceMul,reduceToNat,MM,bu0,cbP9,Ps.lnfz,Ps.lnfzL,Ps.lnpure,Ps.stpure,Ps.lngm,Ps.stgm,Ps.stfz,Ps.rdT,Ps.rdV,Ps.wsl,Ps.wtr,e2]
  refine bl_eq ?_
  rw [show ((((t.length+1:Nat):Int) - ((1:Nat):Int)).toNat)=t.length by omega]
  simp
 | false =>
  have e1:full (t,false)=t:=rfl
  rw [e1]
  by_cases c0:t=[]
  ·subst c0
   refine spec_of_awp (M:=MM) (np:=2) (fz:=true) mixed Tryz.func148 rfl rfl (by decide) rfl (Nat.le_refl _) (by decide +kernel) (.inr ⟨rfl,rfl⟩) trivial ?_
   simp -dsimp -implicitDefEqProofs (disch:=first|omega|(simp only [lenr];try omega)) only [↓amPre,↓reduceIte,reduceCtorEq,reduceEqDiff,Nat.reduceBEq,reduceAdd,reduceLeDiff,reduceSub,reduceMul,reduceToNat,MM,bu0,cbP9,Ps.lnfz,Ps.lnfzL,Ps.lnpure,Ps.stpure,Ps.lngm,Ps.stgm,Ps.stfz,Ps.rdT,Ps.rdV,Ps.wsl,Ps.wtr,le_false (show ((0:Nat):Int)<((1:Nat):Int) by omega)]
  ·have hp:0<t.length:=List.length_pos_iff.2 c0
   refine spec_of_awp (M:=MM) (np:=2) (fz:=true) mixed Tryz.func148 rfl rfl (by decide) rfl (Nat.le_refl _) (by decide +kernel) (.inr ⟨rfl,rfl⟩) trivial ?_
   simp -dsimp -implicitDefEqProofs (disch:=first|omega|(simp only [lenr];try omega)) only [↓amPre,↓reduceIte,reduceCtorEq,reduceEqDiff,Nat.reduceBEq,reduceAdd,reduceLeDiff,reduceSub,reduceMul,reduceToNat,MM,bu0,cbP9,Ps.lnfz,Ps.lnfzL,Ps.lnpure,Ps.stpure,Ps.lngm,Ps.stgm,Ps.stfz,Ps.rdT,Ps.rdV,Ps.wsl,Ps.wtr,le_true (show ((1:Nat):Int)≤((t.length:Nat):Int) by omega)]
   refine bl_eq ?_
   simp only [Bool.false_eq_true,iff_false]
   intro q
   have q:=beq_iff_eq.1 q
   refine h (List.mem_of_mem_drop (i:=((t.length:Int) - ((1:Nat):Int)).toNat) ?_)
   rw [q];simp
theorem cutSuf1 (l:Ln) (h:(10:UInt8)∉l.1) (hs:l.1.length≤1048576):SpecAt Tryz.prog 133 [.st (full l),.st [10]] (.tup [.st l.1,.bl l.2]):=by
 have q:=hasSuf l h hs
 obtain ⟨t,e⟩:=l
 cases e with
 | true =>
  have e1:full (t,true)=t++[10]:=rfl
  have e2:(t++[(10:UInt8)]).length=t.length+1:=by simp
  have hs:t.length≤1048576:=hs
  rw [e1] at q ⊢
  refine spec_of_awp (M:=MM) (np:=2) (fz:=true) mixed Tryz.func133 rfl rfl (by decide) rfl (Nat.le_refl _) (by decide +kernel) (.inr ⟨rfl,rfl⟩) trivial ?_
  simp -dsimp -implicitDefEqProofs (disch:=first|omega|(simp only [lenr];try omega)) only [↓amPre,↓reduceIte,reduceCtorEq,reduceEqDiff,Nat.reduceBEq,reduceAdd,reduceLeDiff,reduceSub,reduceMul,reduceToNat,MM,bu0,cbP9,Ps.lnfz,Ps.lnfzL,Ps.lnpure,Ps.stpure,Ps.lngm,Ps.stgm,Ps.stfz,Ps.rdT,Ps.rdV,Ps.wsl,Ps.wtr]
  refine callP_of (q) ?_
  simp -dsimp -implicitDefEqProofs (disch:=first|omega|(simp only [lenr];try omega)) only [↓amPre,↓reduceIte,reduceCtorEq,reduceEqDiff,Nat.reduceBEq,reduceAdd,reduceLeDiff,reduceSub,reduceMul,reduceToNat,MM,bu0,cbP9,Ps.lnfz,Ps.lnfzL,Ps.lnpure,Ps.stpure,Ps.lngm,Ps.stgm,Ps.stfz,Ps.rdT,Ps.rdV,Ps.wsl,Ps.wtr,e2]
  rw [show ((((t.length+1:Nat):Int) - ((1:Nat):Int)).toNat)=t.length by omega]
  simp
 | false =>
  have e1:full (t,false)=t:=rfl
  rw [e1] at q ⊢
  refine spec_of_awp (M:=MM) (np:=2) (fz:=true) mixed Tryz.func133 rfl rfl (by decide) rfl (Nat.le_refl _) (by decide +kernel) (.inr ⟨rfl,rfl⟩) trivial ?_
  simp -dsimp -implicitDefEqProofs (disch:=first|omega|(simp only [lenr];try omega)) only [↓amPre,↓reduceIte,reduceCtorEq,reduceEqDiff,Nat.reduceBEq,reduceAdd,reduceLeDiff,reduceSub,reduceMul,reduceToNat,MM,bu0,cbP9,Ps.lnfz,Ps.lnfzL,Ps.lnpure,Ps.stpure,Ps.lngm,Ps.stgm,Ps.stfz,Ps.rdT,Ps.rdV,Ps.wsl,Ps.wtr]
  refine callP_of (q) ?_
  simp -dsimp -implicitDefEqProofs (disch:=first|omega|(simp only [lenr];try omega)) only [↓amPre,↓reduceIte,reduceCtorEq,reduceEqDiff,Nat.reduceBEq,reduceAdd,reduceLeDiff,reduceSub,reduceMul,reduceToNat,MM,bu0,cbP9,Ps.lnfz,Ps.lnfzL,Ps.lnpure,Ps.stpure,Ps.lngm,Ps.stgm,Ps.stfz,Ps.rdT,Ps.rdV,Ps.wsl,Ps.wtr]
theorem cutSuf (l:Ln) (h:(10:UInt8)∉l.1) (hs:l.1.length≤1048576):SpecAt Tryz.prog 105 [.st (full l),.st [10]] (.tup [.st l.1,.bl l.2]):=by
 refine spec_of_awp (M:=MM) (np:=2) (fz:=true) mixed Tryz.func105 rfl rfl (by decide) rfl (Nat.le_refl _) (by decide +kernel) (.inr ⟨rfl,rfl⟩) trivial ?_
 simp -dsimp -implicitDefEqProofs (disch:=first|omega|(simp only [lenr];try omega)) only [↓amPre,↓reduceIte,reduceCtorEq,reduceEqDiff,Nat.reduceBEq,reduceAdd,reduceLeDiff,reduceSub,reduceMul,reduceToNat,MM,bu0,cbP9,Ps.lnfz,Ps.lnfzL,Ps.lnpure,Ps.stpure,Ps.lngm,Ps.stgm,Ps.stfz,Ps.rdT,Ps.rdV,Ps.wsl,Ps.wtr]
 refine callP_of (cutSuf1 l h hs) ?_
 simp -dsimp -implicitDefEqProofs (disch:=first|omega|(simp only [lenr];try omega)) only [↓amPre,↓reduceIte,reduceCtorEq,reduceEqDiff,Nat.reduceBEq,reduceAdd,reduceLeDiff,reduceSub,reduceMul,reduceToNat,MM,bu0,cbP9,Ps.lnfz,Ps.lnfzL,Ps.lnpure,Ps.stpure,Ps.lngm,Ps.stgm,Ps.stfz,Ps.rdT,Ps.rdV,Ps.wsl,Ps.wtr]
theorem trimSuf1 (l:Ln) (h:(10:UInt8)∉l.1) (hs:l.1.length≤1048576):SpecAt Tryz.prog 147 [.st (full l),.st [10]] (.st l.1):=by
 have q:=hasSuf l h hs
 obtain ⟨t,e⟩:=l
 cases e with
 | true =>
  have e1:full (t,true)=t++[10]:=rfl
  have e2:(t++[(10:UInt8)]).length=t.length+1:=by simp
  have hs:t.length≤1048576:=hs
  rw [e1] at q ⊢
  refine spec_of_awp (M:=MM) (np:=2) (fz:=true) mixed Tryz.func147 rfl rfl (by decide) rfl (Nat.le_refl _) (by decide +kernel) (.inr ⟨rfl,rfl⟩) trivial ?_
  simp -dsimp -implicitDefEqProofs (disch:=first|omega|(simp only [lenr];try omega)) only [↓amPre,↓reduceIte,reduceCtorEq,reduceEqDiff,Nat.reduceBEq,reduceAdd,reduceLeDiff,reduceSub,reduceMul,reduceToNat,MM,bu0,cbP9,Ps.lnfz,Ps.lnfzL,Ps.lnpure,Ps.stpure,Ps.lngm,Ps.stgm,Ps.stfz,Ps.rdT,Ps.rdV,Ps.wsl,Ps.wtr]
  refine callP_of (q) ?_
  simp -dsimp -implicitDefEqProofs (disch:=first|omega|(simp only [lenr];try omega)) only [↓amPre,↓reduceIte,reduceCtorEq,reduceEqDiff,Nat.reduceBEq,reduceAdd,reduceLeDiff,reduceSub,reduceMul,reduceToNat,MM,bu0,cbP9,Ps.lnfz,Ps.lnfzL,Ps.lnpure,Ps.stpure,Ps.lngm,Ps.stgm,Ps.stfz,Ps.rdT,Ps.rdV,Ps.wsl,Ps.wtr,e2]
  rw [show ((((t.length+1:Nat):Int) - ((1:Nat):Int)).toNat)=t.length by omega]
  simp
 | false =>
  have e1:full (t,false)=t:=rfl
  rw [e1] at q ⊢
  refine spec_of_awp (M:=MM) (np:=2) (fz:=true) mixed Tryz.func147 rfl rfl (by decide) rfl (Nat.le_refl _) (by decide +kernel) (.inr ⟨rfl,rfl⟩) trivial ?_
  simp -dsimp -implicitDefEqProofs (disch:=first|omega|(simp only [lenr];try omega)) only [↓amPre,↓reduceIte,reduceCtorEq,reduceEqDiff,Nat.reduceBEq,reduceAdd,reduceLeDiff,reduceSub,reduceMul,reduceToNat,MM,bu0,cbP9,Ps.lnfz,Ps.lnfzL,Ps.lnpure,Ps.stpure,Ps.lngm,Ps.stgm,Ps.stfz,Ps.rdT,Ps.rdV,Ps.wsl,Ps.wtr]
  refine callP_of (q) ?_
  simp -dsimp -implicitDefEqProofs (disch:=first|omega|(simp only [lenr];try omega)) only [↓amPre,↓reduceIte,reduceCtorEq,reduceEqDiff,Nat.reduceBEq,reduceAdd,reduceLeDiff,reduceSub,reduceMul,reduceToNat,MM,bu0,cbP9,Ps.lnfz,Ps.lnfzL,Ps.lnpure,Ps.stpure,Ps.lngm,Ps.stgm,Ps.stfz,Ps.rdT,Ps.rdV,Ps.wsl,Ps.wtr]
theorem trimSuf (l:Ln) (h:(10:UInt8)∉l.1) (hs:l.1.length≤1048576):SpecAt Tryz.prog 132 [.st (full l),.st [10]] (.st l.1):=by
 refine spec_of_awp (M:=MM) (np:=2) (fz:=true) mixed Tryz.func132 rfl rfl (by decide) rfl (Nat.le_refl _) (by decide +kernel) (.inr ⟨rfl,rfl⟩) trivial ?_
 simp -dsimp -implicitDefEqProofs (disch:=first|omega|(simp only [lenr];try omega)) only [↓amPre,↓reduceIte,reduceCtorEq,reduceEqDiff,Nat.reduceBEq,reduceAdd,reduceLeDiff,reduceSub,reduceMul,reduceToNat,MM,bu0,cbP9,Ps.lnfz,Ps.lnfzL,Ps.lnpure,Ps.stpure,Ps.lngm,Ps.stgm,Ps.stfz,Ps.rdT,Ps.rdV,Ps.wsl,Ps.wtr]
 refine callP_of (trimSuf1 l h hs) ?_
 simp -dsimp -implicitDefEqProofs (disch:=first|omega|(simp only [lenr];try omega)) only [↓amPre,↓reduceIte,reduceCtorEq,reduceEqDiff,Nat.reduceBEq,reduceAdd,reduceLeDiff,reduceSub,reduceMul,reduceToNat,MM,bu0,cbP9,Ps.lnfz,Ps.lnfzL,Ps.lnpure,Ps.stpure,Ps.lngm,Ps.stgm,Ps.stfz,Ps.rdT,Ps.rdV,Ps.wsl,Ps.wtr]
theorem lenL (L:List Ln):SpecAt Tryz.prog 103 [.sl 1 (L.map lnA)] (.i64 L.length):=by
 refine spec_of_awp (M:=MM) (np:=1) (fz:=true) mixed Tryz.func103 rfl rfl (by decide) rfl (Nat.le_refl _) (by decide +kernel) (.inr ⟨rfl,rfl⟩) trivial ?_
 simp -dsimp -implicitDefEqProofs (disch:=first|omega|(simp only [lenr];try omega)) only [↓amPre,↓reduceIte,reduceCtorEq,reduceEqDiff,Nat.reduceBEq,reduceAdd,reduceLeDiff,reduceSub,reduceMul,reduceToNat,MM,bu0,cbP9,Ps.lnfz,Ps.lnfzL,Ps.lnpure,Ps.stpure,Ps.lngm,Ps.stgm,Ps.stfz,Ps.rdT,Ps.rdV,Ps.wsl,Ps.wtr]
theorem lenW (L:List Tx):SpecAt Tryz.prog 103 [wsl L] (.i64 L.length):=by
 refine spec_of_awp (M:=MM) (np:=1) (fz:=true) mixed Tryz.func103 rfl rfl (by decide) rfl (Nat.le_refl _) (by decide +kernel) (.inr ⟨rfl,rfl⟩) trivial ?_
 simp -dsimp -implicitDefEqProofs (disch:=first|omega|(simp only [lenr];try omega)) only [↓amPre,↓reduceIte,reduceCtorEq,reduceEqDiff,Nat.reduceBEq,reduceAdd,reduceLeDiff,reduceSub,reduceMul,reduceToNat,MM,bu0,cbP9,Ps.lnfz,Ps.lnfzL,Ps.lnpure,Ps.stpure,Ps.lngm,Ps.stgm,Ps.stfz,Ps.rdT,Ps.rdV,Ps.wsl,Ps.wtr,wsl]
def moreS (L:List Ln) (r:Rd):Bool:=decide (r.t = -1∧r.a<L.length)
theorem moreI (L:List Ln) (r:Rd) (hl:L.length≤1048576):SpecAt Tryz.prog 49 [rdV L r] (.bl (moreS L r)):=by
 refine spec_of_awp (M:=MM) (np:=1) (fz:=true) mixed Tryz.func49 rfl rfl (by decide) rfl (Nat.le_refl _) (by decide +kernel) (.inr ⟨rfl,rfl⟩) trivial ?_
 by_cases c:r.t = -1
 ·simp -dsimp -implicitDefEqProofs (disch:=first|omega|(simp only [lenr];try omega)) only [↓amPre,↓reduceIte,reduceCtorEq,reduceEqDiff,Nat.reduceBEq,reduceAdd,reduceLeDiff,reduceSub,reduceMul,reduceToNat,MM,bu0,cbP9,Ps.lnfz,Ps.lnfzL,Ps.lnpure,Ps.stpure,Ps.lngm,Ps.stgm,Ps.stfz,Ps.rdT,Ps.rdV,Ps.wsl,Ps.wtr,rdV,eq_true c]
  refine callP_of (lenL L) ?_
  simp -dsimp -implicitDefEqProofs (disch:=first|omega|(simp only [lenr];try omega)) only [↓amPre,↓reduceIte,reduceCtorEq,reduceEqDiff,Nat.reduceBEq,reduceAdd,reduceLeDiff,reduceSub,reduceMul,reduceToNat,MM,bu0,cbP9,Ps.lnfz,Ps.lnfzL,Ps.lnpure,Ps.stpure,Ps.lngm,Ps.stgm,Ps.stfz,Ps.rdT,Ps.rdV,Ps.wsl,Ps.wtr,rdV,eq_true c]
  refine bl_eq ?_
  simp only [decide_eq_true_eq,moreS,c,true_and]
  omega
 ·simp -dsimp -implicitDefEqProofs (disch:=first|omega|(simp only [lenr];try omega)) only [↓amPre,↓reduceIte,reduceCtorEq,reduceEqDiff,Nat.reduceBEq,reduceAdd,reduceLeDiff,reduceSub,reduceMul,reduceToNat,MM,bu0,cbP9,Ps.lnfz,Ps.lnfzL,Ps.lnpure,Ps.stpure,Ps.lngm,Ps.stgm,Ps.stfz,Ps.rdT,Ps.rdV,Ps.wsl,Ps.wtr,rdV,eq_false c]
  refine bl_eq ?_
  simp [moreS,c]
theorem rejI (L:List Ln) (r:Rd) (hl:r.a≤1048576):SpecX Tryz.prog 71 [rdT L r] [some (rdT L (rej r))] (.tup []):=by
 have hw:IntKind.i64.wrap ((r.a:Int) - 1)=(r.a:Int) - 1:=wrap64_id (by omega)
 by_cases c:r.t = -1
 ·refine spec_of_awp (M:=MM) (np:=1) (fz:=false) mixed Tryz.func71 rfl rfl (by decide) rfl (Nat.le_refl _) (by decide +kernel) (.inl rfl) (by first | trivial | simp only [sigsOk_nil,sigsOk_some,sigsOk_none,sig_tr,sig_pt,sig_mt,sig_agg,List.map_cons,List.map_nil,sig1_tr,sig1_pt,sig1_v,and_self,true_and,List.length_map,List.length_set]) ?_
  simp -dsimp -implicitDefEqProofs (disch:=first|omega|(simp only [lenr];try omega)) only [↓amPre,↓reduceIte,reduceCtorEq,reduceEqDiff,Nat.reduceBEq,reduceAdd,reduceLeDiff,reduceSub,reduceMul,reduceToNat,MM,bu0,cbP9,Ps.lnfz,Ps.lnfzL,Ps.lnpure,Ps.stpure,Ps.lngm,Ps.stgm,Ps.stfz,Ps.rdT,Ps.rdV,Ps.wsl,Ps.wtr,rdT,eq_true c,hw,rej,c]
 ·rw [rej_bad c]
  refine spec_of_awp (M:=MM) (np:=1) (fz:=false) mixed Tryz.func71 rfl rfl (by decide) rfl (Nat.le_refl _) (by decide +kernel) (.inl rfl) (by first | trivial | simp only [sigsOk_nil,sigsOk_some,sigsOk_none,sig_tr,sig_pt,sig_mt,sig_agg,List.map_cons,List.map_nil,sig1_tr,sig1_pt,sig1_v,and_self,true_and,List.length_map,List.length_set]) ?_
  simp -dsimp -implicitDefEqProofs (disch:=first|omega|(simp only [lenr];try omega)) only [↓amPre,↓reduceIte,reduceCtorEq,reduceEqDiff,Nat.reduceBEq,reduceAdd,reduceLeDiff,reduceSub,reduceMul,reduceToNat,MM,bu0,cbP9,Ps.lnfz,Ps.lnfzL,Ps.lnpure,Ps.stpure,Ps.lngm,Ps.stgm,Ps.stfz,Ps.rdT,Ps.rdV,Ps.wsl,Ps.wtr,rdT,eq_false c]
theorem finI (L:List Ln) (r:Rd) (b:Bool):SpecAt Tryz.prog 50 [rdV L r,.bl b] (.i64 (if r.t = -1∧b=false then -4 else r.t)):=by
 refine spec_of_awp (M:=MM) (np:=2) (fz:=true) mixed Tryz.func50 rfl rfl (by decide) rfl (Nat.le_refl _) (by decide +kernel) (.inr ⟨rfl,rfl⟩) trivial ?_
 by_cases c:r.t = -1
 ·cases b with
  | true=>simp -dsimp -implicitDefEqProofs (disch:=first|omega|(simp only [lenr];try omega)) only [↓amPre,↓reduceIte,reduceCtorEq,reduceEqDiff,Nat.reduceBEq,reduceAdd,reduceLeDiff,reduceSub,reduceMul,reduceToNat,MM,bu0,cbP9,Ps.lnfz,Ps.lnfzL,Ps.lnpure,Ps.stpure,Ps.lngm,Ps.stgm,Ps.stfz,Ps.rdT,Ps.rdV,Ps.wsl,Ps.wtr,rdV,eq_true c,c]
  | false=>simp -dsimp -implicitDefEqProofs (disch:=first|omega|(simp only [lenr];try omega)) only [↓amPre,↓reduceIte,reduceCtorEq,reduceEqDiff,Nat.reduceBEq,reduceAdd,reduceLeDiff,reduceSub,reduceMul,reduceToNat,MM,bu0,cbP9,Ps.lnfz,Ps.lnfzL,Ps.lnpure,Ps.stpure,Ps.lngm,Ps.stgm,Ps.stfz,Ps.rdT,Ps.rdV,Ps.wsl,Ps.wtr,rdV,eq_true c,c]
 ·simp -dsimp -implicitDefEqProofs (disch:=first|omega|(simp only [lenr];try omega)) only [↓amPre,↓reduceIte,reduceCtorEq,reduceEqDiff,Nat.reduceBEq,reduceAdd,reduceLeDiff,reduceSub,reduceMul,reduceToNat,MM,bu0,cbP9,Ps.lnfz,Ps.lnfzL,Ps.lnpure,Ps.stpure,Ps.lngm,Ps.stgm,Ps.stfz,Ps.rdT,Ps.rdV,Ps.wsl,Ps.wtr,rdV,eq_false c,c]
theorem nameI (L:List Ln) (w:Tx) (r:Rd) (hl:r.a≤1048576) (hw:w.length≤1048576):SpecX Tryz.prog 59 [rdT L r,.st w] [some (rdT L (nameS w r))] (.st w):=by
 have hr:=rejI L r hl
 by_cases c1:w.length=1
 ·have c1':((w.length:Nat):Int)=1:=by omega
  obtain ⟨x,hx⟩:∃ x,x=w.getD 0 0:=⟨_,rfl⟩
  have q:=iwithin (x.toNat:Int) 65 90
  have hb:within (x.toNat:Int) 65 90=decide (isLet w):=by
   rw [Bool.eq_iff_iff,decide_eq_true_iff]
   unfold isLet
   rw [← hx]
   simp [within,c1];omega
  have hwx:IntKind.i64.wrap (x.toNat:Int)=x.toNat:=wrap64_id (by have:=x.toNat_lt;omega)
  rw [hb] at q
  by_cases c2:isLet w
  ·rw [decide_eq_true c2] at q
   rw [show nameS w r=r from if_pos c2]
   refine spec_of_awp (M:=MM) (np:=2) (fz:=false) mixed Tryz.func59 rfl rfl (by decide) rfl (Nat.le_refl _) (by decide +kernel) (.inl rfl) (by first | trivial | simp only [sigsOk_nil,sigsOk_some,sigsOk_none,sig_tr,sig_pt,sig_mt,sig_agg,List.map_cons,List.map_nil,sig1_tr,sig1_pt,sig1_v,and_self,true_and,List.length_map,List.length_set]) ?_
   simp -dsimp -implicitDefEqProofs (disch:=first|omega|(simp only [lenr];try omega)) only [↓amPre,↓reduceIte,reduceCtorEq,reduceEqDiff,Nat.reduceBEq,reduceAdd,reduceLeDiff,reduceSub,reduceMul,reduceToNat,MM,bu0,cbP9,Ps.lnfz,Ps.lnfzL,Ps.lnpure,Ps.stpure,Ps.lngm,Ps.stgm,Ps.stfz,Ps.rdT,Ps.rdV,Ps.wsl,Ps.wtr,ne_false c1',c1,← hx,hwx]
   refine callP_of (q) ?_
   simp -dsimp -implicitDefEqProofs (disch:=first|omega|(simp only [lenr];try omega)) only [↓amPre,↓reduceIte,reduceCtorEq,reduceEqDiff,Nat.reduceBEq,reduceAdd,reduceLeDiff,reduceSub,reduceMul,reduceToNat,MM,bu0,cbP9,Ps.lnfz,Ps.lnfzL,Ps.lnpure,Ps.stpure,Ps.lngm,Ps.stgm,Ps.stfz,Ps.rdT,Ps.rdV,Ps.wsl,Ps.wtr]
  ·rw [decide_eq_false c2] at q
   rw [show nameS w r=rej r from if_neg c2]
   refine spec_of_awp (M:=MM) (np:=2) (fz:=false) mixed Tryz.func59 rfl rfl (by decide) rfl (Nat.le_refl _) (by decide +kernel) (.inl rfl) (by first | trivial | simp only [sigsOk_nil,sigsOk_some,sigsOk_none,sig_tr,sig_pt,sig_mt,sig_agg,List.map_cons,List.map_nil,sig1_tr,sig1_pt,sig1_v,and_self,true_and,List.length_map,List.length_set]) ?_
   simp -dsimp -implicitDefEqProofs (disch:=first|omega|(simp only [lenr];try omega)) only [↓amPre,↓reduceIte,reduceCtorEq,reduceEqDiff,Nat.reduceBEq,reduceAdd,reduceLeDiff,reduceSub,reduceMul,reduceToNat,MM,bu0,cbP9,Ps.lnfz,Ps.lnfzL,Ps.lnpure,Ps.stpure,Ps.lngm,Ps.stgm,Ps.stfz,Ps.rdT,Ps.rdV,Ps.wsl,Ps.wtr,ne_false c1',c1,← hx,hwx]
   iterate 2 ((first|refine callP_of (q) ?_|refine callX_of (hr) ?_);simp -dsimp -implicitDefEqProofs (disch:=first|omega|(simp only [lenr];try omega)) only [↓amPre,↓reduceIte,reduceCtorEq,reduceEqDiff,Nat.reduceBEq,reduceAdd,reduceLeDiff,reduceSub,reduceMul,reduceToNat,MM,bu0,cbP9,Ps.lnfz,Ps.lnfzL,Ps.lnpure,Ps.stpure,Ps.lngm,Ps.stgm,Ps.stfz,Ps.rdT,Ps.rdV,Ps.wsl,Ps.wtr])
 ·have c1':((w.length:Nat):Int)≠1:=by omega
  rw [show nameS w r=rej r from if_neg (fun q=>c1 q.1)]
  refine spec_of_awp (M:=MM) (np:=2) (fz:=false) mixed Tryz.func59 rfl rfl (by decide) rfl (Nat.le_refl _) (by decide +kernel) (.inl rfl) (by first | trivial | simp only [sigsOk_nil,sigsOk_some,sigsOk_none,sig_tr,sig_pt,sig_mt,sig_agg,List.map_cons,List.map_nil,sig1_tr,sig1_pt,sig1_v,and_self,true_and,List.length_map,List.length_set]) ?_
  simp -dsimp -implicitDefEqProofs (disch:=first|omega|(simp only [lenr];try omega)) only [↓amPre,↓reduceIte,reduceCtorEq,reduceEqDiff,Nat.reduceBEq,reduceAdd,reduceLeDiff,reduceSub,reduceMul,reduceToNat,MM,bu0,cbP9,Ps.lnfz,Ps.lnfzL,Ps.lnpure,Ps.stpure,Ps.lngm,Ps.stgm,Ps.stfz,Ps.rdT,Ps.rdV,Ps.wsl,Ps.wtr,ne_true c1']
  refine callX_of (hr) ?_
  simp -dsimp -implicitDefEqProofs (disch:=first|omega|(simp only [lenr];try omega)) only [↓amPre,↓reduceIte,reduceCtorEq,reduceEqDiff,Nat.reduceBEq,reduceAdd,reduceLeDiff,reduceSub,reduceMul,reduceToNat,MM,bu0,cbP9,Ps.lnfz,Ps.lnfzL,Ps.lnpure,Ps.stpure,Ps.lngm,Ps.stgm,Ps.stfz,Ps.rdT,Ps.rdV,Ps.wsl,Ps.wtr]
theorem nums1 (x:Int):SpecAt Tryz.prog 114 [.i64 x] (.bl (!within x 0 999)):=by
 refine spec_of_awp (M:=MM) (np:=1) (fz:=true) mixed Tryz.func114 rfl rfl (by decide) rfl (Nat.le_refl _) (by decide +kernel) (.inr ⟨rfl,rfl⟩) trivial ?_
 simp -dsimp -implicitDefEqProofs (disch:=first|omega|(simp only [lenr];try omega)) only [↓amPre,↓reduceIte,reduceCtorEq,reduceEqDiff,Nat.reduceBEq,reduceAdd,reduceLeDiff,reduceSub,reduceMul,reduceToNat,MM,bu0,cbP9,Ps.lnfz,Ps.lnfzL,Ps.lnpure,Ps.stpure,Ps.lngm,Ps.stgm,Ps.stfz,Ps.rdT,Ps.rdV,Ps.wsl,Ps.wtr]
 refine callP_of (iwithin _ _ _) ?_
 simp -dsimp -implicitDefEqProofs (disch:=first|omega|(simp only [lenr];try omega)) only [↓amPre,↓reduceIte,reduceCtorEq,reduceEqDiff,Nat.reduceBEq,reduceAdd,reduceLeDiff,reduceSub,reduceMul,reduceToNat,MM,bu0,cbP9,Ps.lnfz,Ps.lnfzL,Ps.lnpure,Ps.stpure,Ps.lngm,Ps.stgm,Ps.stfz,Ps.rdT,Ps.rdV,Ps.wsl,Ps.wtr]
end Ps
def cbJ7:=(ai (ai (ai (cbP9) (ai (@Ps.lnfz) (@Ps.lnfzL))) (ai (@Ps.lnpure) (ai (@Ps.stpure) (@Ps.lngm)))) (ai (ai (@Ps.stgm) (ai (@Ps.stfz) (@Ps.rdT.eq_1))) (ai (@Ps.rdV.eq_1) (ai (@Ps.wsl.eq_1) (@Ps.wtr.eq_1)))))

end Go.AM
set_option maxRecDepth 8000
namespace Go.AM
namespace Ps
open Go.Proofs
theorem splitTextS (s:Tx) (c:UInt8) (hs:s.length≤1048576):SpecAt Tryz.prog 54 [.st s,.u8 c.toNat] (wtr (spl c s)):=by
 refine spec_of_awp (M:=MM) (np:=2) (fz:=false) mixed Tryz.func54 rfl rfl (by decide) rfl (Nat.le_refl _) (by decide +kernel) (.inl rfl) (by first | trivial | simp only [sigsOk_nil,sigsOk_some,sigsOk_none,sig_tr,sig_pt,sig_mt,sig_agg,List.map_cons,List.map_nil,sig1_tr,sig1_pt,sig1_v,and_self,true_and,List.length_map,List.length_set]) ?_
 simp -dsimp -implicitDefEqProofs (disch:=first|omega|(simp only [lenr];try omega)) only [↓amPre,↓reduceIte,reduceCtorEq,reduceEqDiff,Nat.reduceBEq,reduceAdd,reduceLeDiff,reduceSub,reduceMul,reduceToNat,MM,bu0,cbJ7]
 refine awp_loopR 8 32 (.tr 1 []) (by simp -dsimp -implicitDefEqProofs (disch:=first|omega|(simp only [lenr];try omega)) only [↓amPre,↓reduceIte,reduceCtorEq,reduceEqDiff,Nat.reduceBEq,reduceAdd,reduceLeDiff,reduceSub,reduceMul,reduceToNat,MM,bu0,cbJ7]) (by decide) (by decide) (by decide) (fun k st=>k≤(s.length+1)∧st.fr 7=.i64 k∧st.fr 0=.st s∧st.fr 1=.u8 c.toNat∧st.fr 5=.ref 32 [] 1 0 (spS c s k).1.length∧st.fr 6=.i64 (spS c s k).2∧st.mem 32=some (.tr 1 ((spS c s k).1.map AV.st))) ((s.length+1)) ?_ ?_
 ·simp -dsimp -implicitDefEqProofs (disch:=first|omega|(simp only [lenr];try omega)) only [↓amPre,↓reduceIte,reduceCtorEq,reduceEqDiff,Nat.reduceBEq,reduceAdd,reduceLeDiff,reduceSub,reduceMul,reduceToNat,MM,bu0,cbJ7,ren_eq]
  exact ⟨rfl,rfl,rfl,rfl⟩
 rintro k st _ ⟨hk,f7,f0,f1,f5,f6,m32⟩
 obtain ⟨g1,g2⟩:=spS_le c s k
 by_cases hlt:k<s.length+1
 ·by_cases c1:k<s.length
  ·have c1':((k:Nat):Int)≠s.length:=by omega
   by_cases c2:s.getD k 0=c
   ·have hst:spS c s (k+1)=((spS c s k).1++[(s.take k).drop (spS c s k).2],k+1):=by
     rw [spS,if_neg (fun q=>q.2 c2)]
    rw [hst]
    generalize (spS c s k).1=ws at *
    generalize (spS c s k).2=fr at *
    simp -dsimp -implicitDefEqProofs (disch:=first|omega|(simp only [lenr];try omega)) only [↓amPre,↓reduceIte,reduceCtorEq,reduceEqDiff,Nat.reduceBEq,reduceAdd,reduceLeDiff,reduceSub,reduceMul,reduceToNat,MM,bu0,cbJ7,f7,f0,f1,f5,f6,m32,le_true (show ((k:Nat):Int)≤s.length by omega),eq_false c1',u8eq,c2]
    exact ⟨hlt,by omega⟩
   ·have hst:spS c s (k+1)=spS c s k:=by
     rw [spS,if_pos ⟨c1,c2⟩]
    rw [hst]
    generalize (spS c s k).1=ws at *
    generalize (spS c s k).2=fr at *
    simp -dsimp -implicitDefEqProofs (disch:=first|omega|(simp only [lenr];try omega)) only [↓amPre,↓reduceIte,reduceCtorEq,reduceEqDiff,Nat.reduceBEq,reduceAdd,reduceLeDiff,reduceSub,reduceMul,reduceToNat,MM,bu0,cbJ7,f7,f0,f1,f5,f6,m32,le_true (show ((k:Nat):Int)≤s.length by omega),eq_false c1',u8eq,c2,decide_eq_false c2]
    exact ⟨hlt,by omega⟩
  ·have hke:k=s.length:=by omega
   subst hke
   have hst:spS c s (s.length+1)=((spS c s s.length).1++[(s.take s.length).drop (spS c s s.length).2],s.length+1):=by
    rw [spS,if_neg (fun q=>c1 q.1)]
   rw [hst]
   generalize (spS c s s.length).1=ws at *
   generalize (spS c s s.length).2=fr at *
   simp -dsimp -implicitDefEqProofs (disch:=first|omega|(simp only [lenr];try omega)) only [↓amPre,↓reduceIte,reduceCtorEq,reduceEqDiff,Nat.reduceBEq,reduceAdd,reduceLeDiff,reduceSub,reduceMul,reduceToNat,MM,bu0,cbJ7,f7,f0,f1,f5,f6,m32,le_true (Int.le_refl ((s.length:Nat):Int)),eq_true (rfl:((s.length:Nat):Int)=s.length)]
   exact ⟨hlt,by omega⟩
 ·have hke:k=s.length+1:=by omega
  subst hke
  rw [spS_all] at f5 m32
  simp -dsimp -implicitDefEqProofs (disch:=first|omega|(simp only [lenr];try omega)) only [↓amPre,↓reduceIte,reduceCtorEq,reduceEqDiff,Nat.reduceBEq,reduceAdd,reduceLeDiff,reduceSub,reduceMul,reduceToNat,MM,bu0,cbJ7,f7,f0,f1,f5,f6,m32,le_false (show ((s.length:Nat):Int)<((s.length+1:Nat):Int) by omega)]
/-! numbers -/
def digs (w:Tx):Prop:=∀ x∈w,48≤x.toNat∧x.toNat≤57
theorem val_lt:∀ (w:Tx) (n:Nat),digs w→w.foldl (fun n x=>n*10+(x.toNat - 48)) n<(n+1)*10 ^ w.length
 | [],n,_=>by simp
 | x :: r,n,h=>by
  have hx:=h x (by simp)
  have ih:=val_lt r (n*10+(x.toNat - 48)) fun y hy=>h y (by simp [hy])
  rw [List.foldl_cons,List.length_cons]
  refine Nat.lt_of_lt_of_le ih ?_
  rw [Nat.pow_succ,Nat.mul_comm (10 ^ r.length) 10,← Nat.mul_assoc]
  exact Nat.mul_le_mul_right _ (by omega)
theorem val_b {w:Tx} (h:digs w) (hl:w.length≤9):valW w<1000000000:=by
 have h1:=val_lt w 0 h
 have h2:10 ^ w.length≤10 ^ 9:=Nat.pow_le_pow_right (by decide) hl
 unfold valW
 omega
theorem val_take (w:Tx) (k:Nat) (h:k<w.length):valW (w.take (k+1))=valW (w.take k)*10+((w.getD k 0).toNat - 48):=by
 rw [take_succ_eq w k 0 h,val_app];rfl
def pI (w:Tx):Int×Bool:=if isNum w then ((valW w:Int),true) else (0,false)
theorem parseIntS (w:Tx) (hw:w.length≤1048576):SpecAt Tryz.prog 141 [.st w] (.tup [.i64 (pI w).1,.bl (pI w).2]):=by
 by_cases c1:w.length<1
 ·have e:pI w=(0,false):=if_neg fun q=>by have:=q.1.1;omega
  rw [e]
  refine spec_of_awp (M:=MM) (np:=1) (fz:=true) mixed Tryz.func141 rfl rfl (by decide) rfl (Nat.le_refl _) (by decide +kernel) (.inr ⟨rfl,rfl⟩) trivial ?_
  simp -dsimp -implicitDefEqProofs (disch:=first|omega|(simp only [lenr];try omega)) only [↓amPre,↓reduceIte,reduceCtorEq,reduceEqDiff,Nat.reduceBEq,reduceAdd,reduceLeDiff,reduceSub,reduceMul,reduceToNat,MM,bu0,cbJ7,lt_true (show ((w.length:Nat):Int)<1 by omega)]
 have hpos:0<w.length:=by omega
 by_cases c2:9<w.length
 ·have e:pI w=(0,false):=if_neg fun q=>by have:=q.1.2;omega
  rw [e]
  refine spec_of_awp (M:=MM) (np:=1) (fz:=true) mixed Tryz.func141 rfl rfl (by decide) rfl (Nat.le_refl _) (by decide +kernel) (.inr ⟨rfl,rfl⟩) trivial ?_
  simp -dsimp -implicitDefEqProofs (disch:=first|omega|(simp only [lenr];try omega)) only [↓amPre,↓reduceIte,reduceCtorEq,reduceEqDiff,Nat.reduceBEq,reduceAdd,reduceLeDiff,reduceSub,reduceMul,reduceToNat,MM,bu0,cbJ7,lt_false (show (1:Int)≤((w.length:Nat):Int) by omega),lt_true (show (9:Int)<((w.length:Nat):Int) by omega)]
 obtain ⟨x,hx⟩:∃ x,x=w.getD 0 0:=⟨_,rfl⟩
 by_cases c3:x=48∧1<w.length
 ·have e:pI w=(0,false):=if_neg fun q=>q.2.1 (by rw [← hx];exact c3)
  rw [e]
  have hx48:((x.toNat:Nat):Int)=48:=by rw [c3.1];rfl
  refine spec_of_awp (M:=MM) (np:=1) (fz:=true) mixed Tryz.func141 rfl rfl (by decide) rfl (Nat.le_refl _) (by decide +kernel) (.inr ⟨rfl,rfl⟩) trivial ?_
  simp -dsimp -implicitDefEqProofs (disch:=first|omega|(simp only [lenr];try omega)) only [↓amPre,↓reduceIte,reduceCtorEq,reduceEqDiff,Nat.reduceBEq,reduceAdd,reduceLeDiff,reduceSub,reduceMul,reduceToNat,MM,bu0,cbJ7,lt_false (show (1:Int)≤((w.length:Nat):Int) by omega),lt_false (show ((w.length:Nat):Int)≤(9:Int) by omega),lt_true (show (1:Int)<((w.length:Nat):Int) by omega),← hx,eq_true hx48]
 have hw9:w.length≤9:=by omega
 have hno:∀ k,k<w.length→¬ (48≤(w.getD k 0).toNat∧(w.getD k 0).toNat≤57)→pI w=(0,false):=fun k hk hb=>if_neg fun q=>hb (q.2.2 _ (mem_getD w k 0 hk))
 have hyes:digs w→pI w=((valW w:Int),true):=fun hd=>if_pos ⟨⟨by omega,hw9⟩,fun q=>c3 ⟨by rw [hx];exact q.1,q.2⟩,hd⟩
 refine spec_of_awp (M:=MM) (np:=1) (fz:=true) mixed Tryz.func141 rfl rfl (by decide) rfl (Nat.le_refl _) (by decide +kernel) (.inr ⟨rfl,rfl⟩) trivial ?_
 by_cases c4:x=48
 ·have hx48:((x.toNat:Nat):Int)=48:=by rw [c4];rfl
  have hl1:¬ 1<w.length:=fun q=>c3 ⟨c4,q⟩
  simp -dsimp -implicitDefEqProofs (disch:=first|omega|(simp only [lenr];try omega)) only [↓amPre,↓reduceIte,reduceCtorEq,reduceEqDiff,Nat.reduceBEq,reduceAdd,reduceLeDiff,reduceSub,reduceMul,reduceToNat,MM,bu0,cbJ7,lt_false (show (1:Int)≤((w.length:Nat):Int) by omega),lt_false (show ((w.length:Nat):Int)≤(9:Int) by omega),← hx,eq_true hx48,lt_false (show ((w.length:Nat):Int)≤(1:Int) by omega)]
  refine awp_loop (fun k st=>k≤w.length∧st.fr 5=.i64 k∧st.fr 0=.st w∧st.fr 4=.i64 (valW (w.take k))∧(digs (w.take k))) (w.length) ?_ ?_
  ·simp -dsimp -implicitDefEqProofs (disch:=first|omega|(simp only [lenr];try omega)) only [↓amPre,↓reduceIte,reduceCtorEq,reduceEqDiff,Nat.reduceBEq,reduceAdd,reduceLeDiff,reduceSub,reduceMul,reduceToNat,MM,bu0,cbJ7]
   exact ⟨Nat.zero_le _,rfl,rfl,fun y hy=>(by cases hy)⟩
  rintro k st _ ⟨hk,f5,f0,f4,ek⟩
  by_cases hlt:k<w.length
  ·have hd9:=val_b ek (by rw [List.length_take];omega)
   have hno:=hno k hlt
   have hvt:=val_take w k hlt
   have hdg:(48≤(w.getD k 0).toNat∧(w.getD k 0).toNat≤57)→digs (w.take (k+1)):=fun q=>(mem_take_succ (d:=0) hlt).2 ⟨ek,q⟩
   have hlt':((k:Nat):Int)<w.length:=by omega
   generalize hy:w.getD k 0=y at *
   have hyb:=y.toNat_lt
   by_cases e1:y.toNat<48
   ·rw [hno (by omega)]
    simp -dsimp -implicitDefEqProofs (disch:=first|omega|(simp only [lenr];try omega)) only [↓amPre,↓reduceIte,reduceCtorEq,reduceEqDiff,Nat.reduceBEq,reduceAdd,reduceLeDiff,reduceSub,reduceMul,reduceToNat,MM,bu0,cbJ7,f5,f0,f4,lt_true hlt',hy,lt_true (show ((y.toNat:Nat):Int)<48 by omega)]
   by_cases e2:57<y.toNat
   ·rw [hno (by omega)]
    simp -dsimp -implicitDefEqProofs (disch:=first|omega|(simp only [lenr];try omega)) only [↓amPre,↓reduceIte,reduceCtorEq,reduceEqDiff,Nat.reduceBEq,reduceAdd,reduceLeDiff,reduceSub,reduceMul,reduceToNat,MM,bu0,cbJ7,f5,f0,f4,lt_true hlt',hy,lt_false (show (48:Int)≤((y.toNat:Nat):Int) by omega),lt_true (show (57:Int)<((y.toNat:Nat):Int) by omega)]
   have a1:IntKind.u8.wrap ((y.toNat:Int) - 48)=((y.toNat - 48:Nat):Int):=by rw [IntWalk.u8_in _ (by omega)];omega
   have a2:IntKind.i64.wrap ((y.toNat - 48:Nat):Int)=((y.toNat - 48:Nat):Int):=wrap64_id (by omega)
   have a3:IntKind.i64.wrap (((valW (w.take k):Nat):Int)*10)=((valW (w.take k)*10:Nat):Int):=by rw [wrap64_id (by omega)];omega
   have a4:IntKind.i64.wrap (((valW (w.take k)*10:Nat):Int)+((y.toNat - 48:Nat):Int))=((valW (w.take (k+1)):Nat):Int):=by rw [wrap64_id (by omega),hvt];omega
   simp -dsimp -implicitDefEqProofs (disch:=first|omega|(simp only [lenr];try omega)) only [↓amPre,↓reduceIte,reduceCtorEq,reduceEqDiff,Nat.reduceBEq,reduceAdd,reduceLeDiff,reduceSub,reduceMul,reduceToNat,MM,bu0,cbJ7,f5,f0,f4,lt_true hlt',hy,lt_false (show (48:Int)≤((y.toNat:Nat):Int) by omega),lt_false (show ((y.toNat:Nat):Int)≤(57:Int) by omega),a1,a2,a3,a4]
   exact ⟨hlt,by omega,by have q:=hdg (by omega);first | exact q | (rw [List.take_of_length_le (by omega)] at q;exact q)⟩
  ·have hke:k=w.length:=by omega
   subst hke
   rw [List.take_length] at f4 ek
   rw [hyes ek]
   simp -dsimp -implicitDefEqProofs (disch:=first|omega|(simp only [lenr];try omega)) only [↓amPre,↓reduceIte,reduceCtorEq,reduceEqDiff,Nat.reduceBEq,reduceAdd,reduceLeDiff,reduceSub,reduceMul,reduceToNat,MM,bu0,cbJ7,f5,f0,f4,lt_false (Int.le_refl ((w.length:Nat):Int))]
 ·have hx48:((x.toNat:Nat):Int)≠48:=fun q=>c4 (UInt8.toNat_inj.1 (by show x.toNat=48;omega))
  simp -dsimp -implicitDefEqProofs (disch:=first|omega|(simp only [lenr];try omega)) only [↓amPre,↓reduceIte,reduceCtorEq,reduceEqDiff,Nat.reduceBEq,reduceAdd,reduceLeDiff,reduceSub,reduceMul,reduceToNat,MM,bu0,cbJ7,lt_false (show (1:Int)≤((w.length:Nat):Int) by omega),lt_false (show ((w.length:Nat):Int)≤(9:Int) by omega),← hx,eq_false hx48]
  refine awp_loop (fun k st=>k≤w.length∧st.fr 5=.i64 k∧st.fr 0=.st w∧st.fr 4=.i64 (valW (w.take k))∧(digs (w.take k))) (w.length) ?_ ?_
  ·simp -dsimp -implicitDefEqProofs (disch:=first|omega|(simp only [lenr];try omega)) only [↓amPre,↓reduceIte,reduceCtorEq,reduceEqDiff,Nat.reduceBEq,reduceAdd,reduceLeDiff,reduceSub,reduceMul,reduceToNat,MM,bu0,cbJ7]
   exact ⟨Nat.zero_le _,rfl,rfl,fun y hy=>(by cases hy)⟩
  rintro k st _ ⟨hk,f5,f0,f4,ek⟩
  by_cases hlt:k<w.length
  ·have hd9:=val_b ek (by rw [List.length_take];omega)
   have hno:=hno k hlt
   have hvt:=val_take w k hlt
   have hdg:(48≤(w.getD k 0).toNat∧(w.getD k 0).toNat≤57)→digs (w.take (k+1)):=fun q=>(mem_take_succ (d:=0) hlt).2 ⟨ek,q⟩
   have hlt':((k:Nat):Int)<w.length:=by omega
   generalize hy:w.getD k 0=y at *
   have hyb:=y.toNat_lt
   by_cases e1:y.toNat<48
   ·rw [hno (by omega)]
    simp -dsimp -implicitDefEqProofs (disch:=first|omega|(simp only [lenr];try omega)) only [↓amPre,↓reduceIte,reduceCtorEq,reduceEqDiff,Nat.reduceBEq,reduceAdd,reduceLeDiff,reduceSub,reduceMul,reduceToNat,MM,bu0,cbJ7,f5,f0,f4,lt_true hlt',hy,lt_true (show ((y.toNat:Nat):Int)<48 by omega)]
   by_cases e2:57<y.toNat
   ·rw [hno (by omega)]
    simp -dsimp -implicitDefEqProofs (disch:=first|omega|(simp only [lenr];try omega)) only [↓amPre,↓reduceIte,reduceCtorEq,reduceEqDiff,Nat.reduceBEq,reduceAdd,reduceLeDiff,reduceSub,reduceMul,reduceToNat,MM,bu0,cbJ7,f5,f0,f4,lt_true hlt',hy,lt_false (show (48:Int)≤((y.toNat:Nat):Int) by omega),lt_true (show (57:Int)<((y.toNat:Nat):Int) by omega)]
   have a1:IntKind.u8.wrap ((y.toNat:Int) - 48)=((y.toNat - 48:Nat):Int):=by rw [IntWalk.u8_in _ (by omega)];omega
   have a2:IntKind.i64.wrap ((y.toNat - 48:Nat):Int)=((y.toNat - 48:Nat):Int):=wrap64_id (by omega)
   have a3:IntKind.i64.wrap (((valW (w.take k):Nat):Int)*10)=((valW (w.take k)*10:Nat):Int):=by rw [wrap64_id (by omega)];omega
   have a4:IntKind.i64.wrap (((valW (w.take k)*10:Nat):Int)+((y.toNat - 48:Nat):Int))=((valW (w.take (k+1)):Nat):Int):=by rw [wrap64_id (by omega),hvt];omega
   simp -dsimp -implicitDefEqProofs (disch:=first|omega|(simp only [lenr];try omega)) only [↓amPre,↓reduceIte,reduceCtorEq,reduceEqDiff,Nat.reduceBEq,reduceAdd,reduceLeDiff,reduceSub,reduceMul,reduceToNat,MM,bu0,cbJ7,f5,f0,f4,lt_true hlt',hy,lt_false (show (48:Int)≤((y.toNat:Nat):Int) by omega),lt_false (show ((y.toNat:Nat):Int)≤(57:Int) by omega),a1,a2,a3,a4]
   exact ⟨hlt,by omega,by have q:=hdg (by omega);first | exact q | (rw [List.take_of_length_le (by omega)] at q;exact q)⟩
  ·have hke:k=w.length:=by omega
   subst hke
   rw [List.take_length] at f4 ek
   rw [hyes ek]
   simp -dsimp -implicitDefEqProofs (disch:=first|omega|(simp only [lenr];try omega)) only [↓amPre,↓reduceIte,reduceCtorEq,reduceEqDiff,Nat.reduceBEq,reduceAdd,reduceLeDiff,reduceSub,reduceMul,reduceToNat,MM,bu0,cbJ7,f5,f0,f4,lt_false (Int.le_refl ((w.length:Nat):Int))]
end Ps
end Go.AM
