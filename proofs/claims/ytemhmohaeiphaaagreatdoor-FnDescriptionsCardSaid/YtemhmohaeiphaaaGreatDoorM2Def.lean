/-
 AN ABSTRACT MACHINE over the loaded code: values by their content,memory by owned trees;a predicate transformer. No statement of the program stands here.
-/
import Derived.WalkKit
import Derived.Lib.ItoaNum
import Derived.Orders
import Derived.StillTail
set_option linter.unusedVariables false
set_option linter.unusedSimpArgs false
namespace Go.AM
theorem ai {a b:Prop} (x:a) (y:b):a∧b:=⟨x,y⟩
def powG:Nat:=0
def isErr (cs:Array Value):Prop:=∃ t x,cs[0]? = some (.iface t x)
def isNumb (cs:Array Value):Prop:=∃ m,cs[0]? = some (.int .i64 m)
def baseRows:List (Nat×(Array Value→Prop)):=[(powG,fun cs=>cs=(Lib.pow10Tab.map fun z=>Value.int .u64 z).toArray),(1,isNumb),(4,isErr),(5,isErr)]
end Go.AM
namespace Go.AM

abbrev Path:=List (Nat×Nat)

inductive AV where
 | any
 | v (x:Value)
 | sl (sz:Nat) (es:List AV)
 | agg (fs:List AV)
 | tup (fs:List AV)
 | ep (cs:List AV)
 | fn (f:FuncId) (caps:List AV)
 | tr (sz:Nat) (es:List AV)
 | pt (sz:Nat) (x:AV)
 | mt (kd:Bool) (m:Value→Option Value)
 | ref (s:Nat) (p:Path) (z o n:Nat)
 | loc (s:Nat) (p:Path) (i j:Nat)
 | mref (s:Nat) (p:Path)
 | lst (sz:Nat) (es:List AV)
 | bx (cs:List AV)
 | ifc
 deriving Inhabited

abbrev AV.i64 (n:Int):AV:=.v (.int .i64 n)
abbrev AV.bl (b:Bool):AV:=.v (.bool b)
abbrev AV.u8 (n:Int):AV:=.v (.int .u8 n)
abbrev AV.st (l:List UInt8):AV:=.v (.string ⟨l.toArray⟩)
abbrev AV.nilsl:AV:=.v (.slice none 0 0)
abbrev AV.un:AV:=.v undef

def AV.cells:AV→List AV
 | .agg fs=>fs
 | a=>[a]
def AV.isNode:AV→Bool
 | .tr _ _=>true
 | .pt _ _=>true
 | .mt _ _=>true
 | _=>false
def AV.cellAt (a:AV) (i j:Nat):AV :=
 match a with
 | .tr _ es=>(es.getD i .any).cells.getD j .any
 | .pt _ x=>match i with | 0=>x.cells.getD j .any | _+1=>.any
 | .agg fs=>match i with | 0=>fs.getD j .any | _+1=>.any
 | .tup fs=>match i with | 0=>fs.getD j .any | _+1=>.any
 | _=>.any
def AV.at:AV→Path→AV
 | T,[]=>T
 | T,ij :: p=>AV.at (T.cellAt ij.1 ij.2) p
def AV.setC (a:AV) (j:Nat) (x:AV):AV :=
 match a with
 | .agg fs=>.agg (fs.set j x)
 | _=>x
def AV.setAt (a:AV) (i j:Nat) (x:AV):AV :=
 match a with
 | .tr z es=>.tr z (es.set i ((es.getD i .any).setC j x))
 | .pt z y=>.pt z (y.setC j x)
 | .agg fs=>.agg (fs.set j x)
 | .tup fs=>.tup (fs.set j x)
 | a=>a
def AV.setP:AV→Path→AV→AV
 | _,[],x=>x
 | T,ij :: p,x=>T.setAt ij.1 ij.2 (AV.setP (T.cellAt ij.1 ij.2) p x)

def AV.modP:AV→Path→(AV→AV)→AV
 | T,[],f=>f T
 | T,ij :: p,f=>T.setAt ij.1 ij.2 (AV.modP (T.cellAt ij.1 ij.2) p f)
def nodeAt (mem:Nat→Option AV) (s:Nat) (p:Path):AV:=match mem s with | some T=>T.at p | none=>.any

mutual
def AV.fz:AV→AV
 | .tr z es=>.sl z (AV.fzL es)
 | .pt _ x=>.ep (AV.fz x).cells
 | .agg fs=>.agg (AV.fzL fs)
 | .tup fs=>.tup (AV.fzL fs)
 | .any=>.any
 | .v x=>.v x
 | .sl z es=>.sl z es
 | .ep cs=>.ep cs
 | .fn f caps=>.fn f caps
 | .ifc=>.ifc
 | .mt _ _=>.any
 | .ref _ _ _ _ _=>.any
 | .loc _ _ _ _=>.any
 | .mref _ _=>.any
 | .lst _ _=>.any
 | .bx _=>.any
def AV.fzL:List AV→List AV
 | []=>[]
 | a :: r=>AV.fz a :: AV.fzL r
end
mutual
def AV.pure:AV→Bool
 | .tr _ es=>AV.pureL es
 | .pt _ x=>AV.pure x
 | .agg fs=>AV.pureL fs
 | .tup fs=>AV.pureL fs
 | .any=>true
 | .v _=>true
 | .sl _ es=>es.isEmpty
 | .ep _=>false
 | .fn _ caps=>caps.isEmpty
 | .ifc=>true
 | .mt _ _=>true
 | .ref _ _ _ _ _=>false
 | .loc _ _ _ _=>false
 | .mref _ _=>false
 | .lst _ _=>false
 | .bx _=>false
def AV.pureL:List AV→Bool
 | []=>true
 | a :: r=>AV.pure a && AV.pureL r
end
theorem fzL_map:∀ l:List AV,AV.fzL l=l.map AV.fz
 | []=>rfl
 | a :: r=>by rw [AV.fzL,List.map_cons,fzL_map r]
def AV.atom (a:AV) (s:Nat) (q:Path):AV :=
 match a with
 | .tr z es=>.ref s q z 0 es.length
 | .pt _ _=>.loc s q 0 0
 | .mt _ _=>.mref s q
 | a=>a
def atomL (s:Nat) (q:Path) (i:Nat):Nat→List AV→List AV
 | _,[]=>[]
 | j,a :: r=>a.atom s (q++[(i,j)]) :: atomL s q i (j+1) r
def AV.atom1 (a:AV) (s:Nat) (q:Path):AV :=
 match a with
 | .agg fs=>.agg (atomL s q 0 0 fs)
 | a=>a.atom s q
def atomT (s:Nat) (q:Path):Nat→List AV→List AV
 | _,[]=>[]
 | j,a :: r=>a.atom1 s (q++[(0,j)]) :: atomT s q (j+1) r
def AV.atoms (a:AV) (s:Nat) (q:Path):AV :=
 match a with
 | .tup fs=>.tup (atomT s q 0 fs)
 | a=>a.atom1 s q

abbrev Gh:=Nat→Nat→Option Value

inductive RepS (I:Gh):AV→Value→Prop
  | any (x:Value):RepS I .any x
  | v (x:Value):RepS I (.v x) x
  | nil (sz:Nat) (a:Option Addr):RepS I (.sl sz []) (.slice a 0 0)
  | nila (sz:Nat) (a:Addr) (cap:Nat):RepS I (.sl sz []) (.slice (some a) 0 cap)
  | sl (sz:Nat) (es:List AV) (b off cap:Nat) (vals:Nat→Nat→Value) (hsz:∀ i (hi:i<es.length),(es[i]).cells.length=sz) (hc:es.length≤cap)
      (hI:∀ i,i<es.length→∀ j,j<sz→I b (off+i*sz+j)=some (vals i j))
      (hr:∀ i (hi:i<es.length) j (hj:j<(es[i]).cells.length),RepS I ((es[i]).cells[j]) (vals i j)):RepS I (.sl sz es) (.slice (some ⟨b,off,none⟩) es.length cap)
  | agg (fs:List AV) (arr:Array Value) (hn:arr.size=fs.length) (hr:∀ j (hj:j<fs.length) (hk:j<arr.size),RepS I (fs[j]) (arr[j])):RepS I (.agg fs) (.agg arr)
  | tup (fs:List AV) (arr:Array Value) (hn:arr.size=fs.length) (hr:∀ j (hj:j<fs.length) (hk:j<arr.size),RepS I (fs[j]) (arr[j])):RepS I (.tup fs) (.tuple arr)
  | ep (cs:List AV) (b off:Nat) (vals:Nat→Value) (hI:∀ j,j<cs.length→I b (off+j)=some (vals j)) (hr:∀ j (hj:j<cs.length),RepS I (cs[j]) (vals j)):RepS I (.ep cs) (.pointer (some ⟨b,off,none⟩))
  | fn (f:FuncId) (caps:List AV) (arr:Array Value) (hn:arr.size=caps.length) (hr:∀ j (hj:j<caps.length) (hk:j<arr.size),RepS I (caps[j]) (arr[j])):RepS I (.fn f caps) (.func (.func f) #[] arr)
  | ifc (t:TypeId) (x:Value):RepS I .ifc (.iface t x)

structure Plc where
 b:Nat
 off:Nat
 z:Nat
 cap:Nat
abbrev Pl:=Nat→Path→Option Plc

def Hdr (k:Option Plc) (a:AV) (x:Value):Prop :=
 match a with
 | .tr z es=>(∃ k',k=some k'∧k'.z=z∧es.length≤k'.cap∧x=.slice (some ⟨k'.b,k'.off,none⟩) es.length k'.cap)∨(es=[]∧∃ a,x=.slice a 0 0)
 | .pt z _=>∃ k',k=some k'∧k'.z=z∧1≤k'.cap∧x=.pointer (some ⟨k'.b,k'.off,none⟩)
 | .mt _ _=>∃ k',k=some k'∧x=.map (some k'.b)
 | _=>False
def CellOk (I:Gh) (k:Option Plc) (a:AV) (x:Value):Prop:=(a.isNode=true∧Hdr k a x)∨(a.isNode=false∧RepS I a x)

def isKey (kd:Bool) (k:Value):Prop:=match kd with | true=>∃ s,k=.string s | false=>∃ n,k=.int .i64 n
def MapIs (kd:Bool) (m:Value→Option Value) (es:Array MapEntry):Prop :=
 (∀ e∈es.toList,m e.key=some e.val∧isKey kd e.key∧e.val.oneCell'=true)∧(∀ k x,m k=some x→∃ e∈es.toList,e.key=k)∧es.toList.Pairwise fun e e'=>e.key≠e'.key

def RowOk (I:Gh) (π:Path→Option Plc) (w:World) (p:Path) (z:Nat) (es:List AV):Prop :=
 (π p=none∧es=[])∨∃ k E arr,π p=some k∧k.z=z∧es.length≤k.cap∧k.cap≤maxLen∧w.heap[k.b]? = some (.cells arr E (0,0))∧k.off+k.cap*z≤arr.size ∧
  ∀ i (hi:i<es.length),(es[i]).cells.length=z∧∀ j (hj:j<(es[i]).cells.length),CellOk I (π (p++[(i,j)])) ((es[i]).cells[j]) (arr.getD (k.off+i*z+j) undef)∧(arr.getD (k.off+i*z+j) undef).oneCell'=true
def NodeOk (I:Gh) (π:Path→Option Plc) (w:World) (p:Path) (a:AV):Prop :=
 match a with
 | .tr z es=>RowOk I π w p z es
 | .pt z x=>RowOk I π w p z [x]
 | .mt kd m=>∃ k es c,π p=some k∧w.heap[k.b]? = some (.map es c)∧MapIs kd m es
 | _=>True

structure Sep (I:Gh) (π:Pl) (w:World) (mem:Nat→Option AV):Prop where
 row:∀ s T p,mem s=some T→NodeOk I (π s) w p (T.at p)
 free:∀ s T p k,mem s=some T→(T.at p).isNode=true→π s p=some k→∀ o,I k.b o=none
 inj:∀ s T p k s' T' p' k',mem s=some T→(T.at p).isNode=true→π s p=some k→mem s'=some T'→(T'.at p').isNode=true→π s' p'=some k'→k.b=k'.b→s=s'∧p=p'
def Owns (π:Pl) (mem:Nat→Option AV) (b:Nat):Prop:=∃ s T p k,mem s=some T∧(T.at p).isNode=true∧π s p=some k∧k.b=b

def TopOk1 (I:Gh) (π:Path→Option Plc) (q:Path) (T:AV) (x:Value):Prop :=
 match T with
 | .agg fs=>∃ arr:Array Value,x=.agg arr∧arr.size=fs.length∧∀ j (hj:j<fs.length) (hk:j<arr.size),CellOk I (π (q++[(0,j)])) (fs[j]) (arr[j])
 | a=>CellOk I (π q) a x
def TopOk (I:Gh) (π:Path→Option Plc) (q:Path) (T:AV) (x:Value):Prop :=
 match T with
 | .tup fs=>∃ arr:Array Value,x=.tuple arr∧arr.size=fs.length∧∀ j (hj:j<fs.length) (hk:j<arr.size),TopOk1 I π (q++[(0,j)]) (fs[j]) (arr[j])
 | a=>TopOk1 I π q a x

def BaseOk (I:Gh) (w:World):Prop:=∀ b cs,(b,cs)∈baseRows→∃ (t:{p:Array Value×TypeId // cs p.1}) (f:Nat×Nat) (x:Value),w.heap[b]? = some (.cells t.1.1 t.1.2 f)∧I b 0=some x
structure Held (I:Gh) (w:World):Prop where
 cell:∀ b o x,I b o=some x→w.cell? ⟨b,o,none⟩=some x∧x.oneCell'=true
 base:BaseOk I w

structure BelowX (B:Nat→Prop) (n:Nat) (w w':World):Prop where
 os:w'.os=w.os
 tape:w'.tape=w.tape
 output:w'.output=w.output
 size:w.heap.size≤w'.heap.size
 block:∀ k,k<n→¬ B k→w'.heap[k]? = w.heap[k]?

def HasBody (P:Program) (f:FuncId):Prop:=∃ fn c,P.funcs[f]? = some fn∧fn.body=some c∧fn.name ≠ "runtime.NumGoroutine"

def outMem (n:Nat) (outs:List (Option AV)) (r:AV):Nat→Option AV:=fun i=>if i=n then some r else (outs[i]?).join

def AV.sig1:AV→AV
 | .tr z es=>.ref 0 [] z 0 es.length
 | .pt z _=>.loc 0 [] z 0
 | .mt _ _=>.mref 0 []
 | a=>.tup [a]
def AV.sig:AV→AV
 | .agg fs=>.agg (fs.map AV.sig1)
 | a=>a.sig1
def TopPos (T:AV) (q:Path):Prop :=
 match T with
 | .agg _=>∃ j,q=[(0,j)]
 | .tup _=>False
 | _=>q=[]

def SpecX (P:Program) (f:FuncId) (args:List AV) (outs:List (Option AV)) (r:AV):Prop :=
 HasBody P f∧outs.length≤args.length∧(∀ j T,outs[j]? = some (some T)→T.sig=(args.getD j .any).sig) ∧
 ∀ (I:Gh) (π:Pl) (w:World) (vals:Array Value),Held I w→vals.size=args.length→Sep I π w (fun i=>args[i]?)→(∀ j (hj:j<args.length) (hk:j<vals.size),TopOk I (π j) [] (args[j]) (vals[j])) →
  Calls P f vals w fun e w'=>∃ I' π' x,e=.returned x∧Held I' w'∧Sep I' π' w' (outMem args.length outs r)∧TopOk I' (π' args.length) [] r x ∧
   (∀ j T,outs[j]? = some (some T)→∀ q,TopPos T q→π' j q=π j q) ∧
   BelowX (Owns π (fun i=>args[i]?)) w.heap.size w w'∧(∀ b o,b<w.heap.size→I' b o=I b o)∧(∀ b,Owns π' (outMem args.length outs r) b→Owns π (fun i=>args[i]?) b∨w.heap.size≤b)
def SpecP (P:Program) (f:FuncId) (args:List AV) (outs:List (Option AV)) (r:AV) (pins:Nat→Path→Bool):Prop :=
 HasBody P f∧outs.length≤args.length∧(∀ j T,outs[j]? = some (some T)→T.sig=(args.getD j .any).sig) ∧
 ∀ (I:Gh) (π:Pl) (w:World) (vals:Array Value),Held I w→vals.size=args.length→Sep I π w (fun i=>args[i]?)→(∀ j (hj:j<args.length) (hk:j<vals.size),TopOk I (π j) [] (args[j]) (vals[j])) →
  Calls P f vals w fun e w'=>∃ I' π' x,e=.returned x∧Held I' w'∧Sep I' π' w' (outMem args.length outs r)∧TopOk I' (π' args.length) [] r x ∧
   (∀ j T,outs[j]? = some (some T)→∀ q,TopPos T q∨pins j q=true→π' j q=π j q) ∧
   BelowX (Owns π (fun i=>args[i]?)) w.heap.size w w'∧(∀ b o,b<w.heap.size→I' b o=I b o)∧(∀ b,Owns π' (outMem args.length outs r) b→Owns π (fun i=>args[i]?) b∨w.heap.size≤b)
def pinsOf (po:Option (Nat→Path→Bool)):Nat→Path→Bool:=match po with | none=>fun _ _=>false | some f=>f
def SpecQ (P:Program) (f:FuncId) (args:List AV) (outs:List (Option AV)) (r:AV) (po:Option (Nat→Path→Bool)):Prop :=
 match po with
 | none=>SpecX P f args outs r
 | some g=>SpecP P f args outs r g
abbrev SpecAt (P:Program) (f:FuncId) (args:List AV) (r:AV):Prop:=SpecX P f args [] r

structure St where
 fr:Nat→AV
 mem:Nat→Option AV

inductive Rep (I:Gh) (ρ:Pl):AV→Value→Prop
  | stat {a:AV} {x:Value} (h:RepS I a x):Rep I ρ a x
  | ref (s:Nat) (p:Path) (z o n:Nat) (k:Plc) (h:ρ s p=some k) (hz:k.z=z) (hc:o+n≤k.cap):Rep I ρ (.ref s p z o n) (.slice (some ⟨k.b,k.off+o*z,none⟩) n (k.cap - o))
  | ref0 (s:Nat) (p:Path) (z o:Nat) (a:Option Addr):Rep I ρ (.ref s p z o 0) (.slice a 0 0)
  | loc (s:Nat) (p:Path) (i j:Nat) (k:Plc) (h:ρ s p=some k):Rep I ρ (.loc s p i j) (.pointer (some ⟨k.b,k.off+i*k.z+j,none⟩))
  | mref (s:Nat) (p:Path) (k:Plc) (h:ρ s p=some k):Rep I ρ (.mref s p) (.map (some k.b))
  | lst (sz:Nat) (es:List AV) (b off cap:Nat) (vals:Nat→Nat→Value) (hsz:∀ i (hi:i<es.length),(es[i]).cells.length=sz) (hc:es.length≤cap)
      (hI:∀ i,i<es.length→∀ j,j<sz→I b (off+i*sz+j)=some (vals i j))
      (hr:∀ i (hi:i<es.length) j (hj:j<(es[i]).cells.length),Rep I ρ ((es[i]).cells[j]) (vals i j)):Rep I ρ (.lst sz es) (.slice (some ⟨b,off,none⟩) es.length cap)
  | bx (cs:List AV) (b off:Nat) (vals:Nat→Value) (hI:∀ j,j<cs.length→I b (off+j)=some (vals j)) (hr:∀ j (hj:j<cs.length),Rep I ρ (cs[j]) (vals j)):Rep I ρ (.bx cs) (.pointer (some ⟨b,off,none⟩))
  | agg (fs:List AV) (arr:Array Value) (hn:arr.size=fs.length) (hr:∀ j (hj:j<fs.length) (hk:j<arr.size),Rep I ρ (fs[j]) (arr[j])):Rep I ρ (.agg fs) (.agg arr)
  | tup (fs:List AV) (arr:Array Value) (hn:arr.size=fs.length) (hr:∀ j (hj:j<fs.length) (hk:j<arr.size),Rep I ρ (fs[j]) (arr[j])):Rep I ρ (.tup fs) (.tuple arr)
  | fn (f:FuncId) (caps:List AV) (arr:Array Value) (hn:arr.size=caps.length) (hr:∀ j (hj:j<caps.length) (hk:j<arr.size),Rep I ρ (caps[j]) (arr[j])):Rep I ρ (.fn f caps) (.func (.func f) #[] arr)

structure Entry where
 w0:World
 I0:Gh
 args:List AV
 π0:Pl
def Entry.lent (E:Entry):Nat→Prop:=Owns E.π0 (fun i=>E.args[i]?)

structure Conc (N:Nat) (E:Entry) (st:St) (a:Act) (w:World) (I:Gh) (ρ:Pl):Prop where
 held:Held I w
 below:BelowX E.lent E.w0.heap.size E.w0 w
 keeps:∀ b o,b<E.w0.heap.size→I b o=E.I0 b o
 size:a.tmps.size=N
 defers:a.defers=[]
 fr:∀ i,Rep I ρ (st.fr i) (a.tmps.getD i undef)
 mem:Sep I ρ w st.mem
 lo:∀ b,Owns ρ st.mem b→E.w0.heap.size≤b∨E.lent b
 fix:∀ i c T q,E.args[i]? = some c→st.mem i=some T→TopPos T q→ρ i q=E.π0 i q

def CC (N:Nat) (E:Entry) (st:St) (a:Act) (w:World):Prop:=∃ I ρ,Conc N E st a w I ρ
def Ent (st st':St):Prop:=∀ N E a w,E.args.length≤6→CC N E st a w→CC N E st' a w

end Go.AM
namespace Go.AM

universe u
def aggT (P:Program) (t:TypeId):Option Bool:=match P.underlying t with | some (.struct _) | some (.array _ _)=>some true | some _=>some false | none=>none
def szT (P:Program) (t:TypeId):Option Nat:=(P.info? t).map (·.size)
def sizeT (P:Program) (t:TypeId):Nat:=match P.info? t with | some i=>i.size | none=>0
def bytesT (P:Program) (t:TypeId):Nat:=match P.info? t with | some i=>i.bytes | none=>0
def zeroT (P:Program) (t:TypeId):Option (List Value):=match P.info? t with | some i=>i.zero.map (·.cells.toList) | none=>none
def zeroV (P:Program) (t:TypeId):Option Value:=match P.info? t with | some i=>i.zero | none=>none
def elemT (P:Program) (t:TypeId):Option TypeId:=match P.underlying t with | some (.slice e)=>(match P.info? e with | some _=>some e | none=>none) | _=>none
def fieldT (P:Program) (t:TypeId) (i:Nat):Option (Nat×TypeId):=match P.underlying t with | some (.struct fs)=>(fs[i]?).bind fun f=>(match P.info? f.type with | some inf=>if inf.size=0 then none else some (f.offset,f.type) | none=>none) | _=>none
def structT (P:Program) (t:TypeId):Bool:=match P.underlying t with | some (.struct fs)=>fs.all (fun f=>(P.info? f.type).isSome) | _=>false
def boolT (P:Program) (t:TypeId):Bool:=match P.underlying t with | some .bool=>true | _=>false
def stringT (P:Program) (t:TypeId):Bool:=match P.underlying t with | some .string=>true | _=>false


def kindT (P:Program) (t:TypeId):Option Nat:=match P.underlying t with | some (.slice _)=>some 0 | some (.pointer _)=>some 1 | some (.interface _)=>some 2 | some (.func _ _ _)=>some 3 | _=>none
def intT (P:Program) (t:TypeId):Option IntKind:=match P.underlying t with | some (.int k)=>some k | _=>none
structure Lock {α:Sort u} (x:α):Type where mk ::

def vc (p:Prop) (K:Prop) (_:Lock K):Prop:=p∧K
theorem vc_ok {p K:Prop} {l:Lock K} (h:p):vc p K l=K:=by unfold vc;exact propext ⟨fun x=>x.2,fun x=>⟨h,x⟩⟩
theorem vc_true {K:Prop} {l:Lock K}:vc True K l=K:=vc_ok trivial
def ifP (b:Bool) (A B:Prop) (_:Lock A) (_:Lock B):Prop:=(b=true→A)∧(b=false→B)
theorem ifP_true {A B:Prop} {l:Lock A} {m:Lock B}:ifP true A B l m=A:=by unfold ifP;exact propext ⟨fun h=>h.1 rfl,fun h=>⟨fun _=>h,(fun k=>by cases k)⟩⟩
theorem ifP_false {A B:Prop} {l:Lock A} {m:Lock B}:ifP false A B l m=B:=by unfold ifP;exact propext ⟨fun h=>h.2 rfl,fun h=>⟨(fun k=>by cases k),fun _=>h⟩⟩
theorem ifP_mk {b:Bool} {A B:Prop} {l:Lock A} {m:Lock B} (h:b=true→A) (k:b=false→B):ifP b A B l m:=⟨h,k⟩

def bitsI (op:BinOp) (k:IntKind) (x y:Int):Int :=
 let a:=BitVec.ofInt k.bits x
 let b:=BitVec.ofInt k.bits y
 match op with
 | .and=>k.wrap (a &&& b).toNat
 | .or=>k.wrap (a ||| b).toNat
 | .xor=>k.wrap (a ^^^ b).toNat
 | _=>k.wrap (a &&& ~~~b).toNat

def optP {α:Type} (o:Option α) (K:α→Prop) (_:Lock K):Prop:=match o with | some a=>K a | none=>False
theorem optP_some {α:Type} (a:α) (K:α→Prop) (l:Lock K):optP (some a) K l=K a:=rfl


section
variable (K:AV→Prop) (l:Lock K)

def intBin (op:BinOp) (k:IntKind) (m n:Int) (K:AV→Prop) (_:Lock K):Prop :=
 match op with
 | .add=>K (.v (.int k (k.wrap (m+n))))
 | .sub=>K (.v (.int k (k.wrap (m - n))))
 | .mul=>K (.v (.int k (k.wrap (m*n))))
 | .quo=>vc (n≠0) (K (.v (.int k (k.wrap (m.tdiv n))))) .mk
 | .rem=>vc (n≠0) (K (.v (.int k (m.tmod n)))) .mk
 | .and=>K (.v (.int k (bitsI .and k m n)))
 | .or=>K (.v (.int k (bitsI .or k m n)))
 | .xor=>K (.v (.int k (bitsI .xor k m n)))
 | .andNot=>K (.v (.int k (bitsI .andNot k m n)))
 | .eql=>K (.bl (m == n))
 | .neq=>K (.bl (m != n))
 | .lss=>K (.bl (decide (m<n)))
 | .leq=>K (.bl (decide (m≤n)))
 | .gtr=>K (.bl (decide (n<m)))
 | .geq=>K (.bl (decide (n≤m)))
 | _=>False

def strBin (op:BinOp) (s t:ByteArray) (K:AV→Prop) (_:Lock K):Prop :=
 match op with
 | .add=>vc (s.size+t.size≤9223372036854775807) (K (.v (.string (s++t)))) .mk
 | .eql=>K (.bl (s.toList == t.toList))
 | .neq=>K (.bl (!(s.toList == t.toList)))
 | .lss=>K (.bl (Op.bytesLess s.toList t.toList))
 | _=>False

def boolBin (P:Program) (op:BinOp) (t:TypeId) (a b:Bool) (K:AV→Prop) (_:Lock K):Prop :=
 match op with
 | .eql=>vc (boolT P t=true) (K (.bl (a == b))) .mk
 | .neq=>vc (boolT P t=true) (K (.bl (!(a == b)))) .mk
 | _=>False

def eqK (P:Program) (f:Field):Option (Nat×Nat) :=
 if f.name = "_" then none else match P.underlying f.type with | some (.int _)=>some (f.offset,0) | some .bool=>some (f.offset,1) | some .string=>some (f.offset,2) | _=>none
def eqFs (P:Program):List Field→Option (List (Nat×Nat))
 | []=>some []
 | f :: r=>match eqK P f,eqFs P r with | some x,some l=>some (x :: l) | _,_=>none
def eqT (P:Program) (t:TypeId):Option (List (Nat×Nat)) :=
 if P.stoodInHeld t=false∧P.eqGuardType P.depth t=false then (match P.underlying t with | some (.struct fs)=>eqFs P fs.toList | _=>none) else none
def eqV:Nat→AV→AV→Option Bool
 | 0,.v (.int k a),.v (.int k' b)=>if k=k' then some (a == b) else none
 | 1,.v (.bool a),.v (.bool b)=>some (a == b)
 | 2,.v (.string a),.v (.string b)=>some (a.toList == b.toList)
 | _,_,_=>none
def and2:Option Bool→Option Bool→Option Bool
 | some a,some b=>some (a && b)
 | _,_=>none
def eqCs (fs gs:List AV):List (Nat×Nat)→Option Bool
 | []=>some true
 | (o,c) :: r=>and2 (eqV c (fs.getD o .any) (gs.getD o .any)) (eqCs fs gs r)
theorem eqV_int (k:IntKind) (a b:Int):eqV 0 (.v (.int k a)) (.v (.int k b))=some (a == b):=by simp [eqV]
theorem eqV_bool (a b:Bool):eqV 1 (.v (.bool a)) (.v (.bool b))=some (a == b):=rfl
theorem eqV_str (a b:ByteArray):eqV 2 (.v (.string a)) (.v (.string b))=some (a.toList == b.toList):=rfl
theorem and2_some (a b:Bool):and2 (some a) (some b)=some (a && b):=rfl
theorem eqCs_nil (fs gs:List AV):eqCs fs gs []=some true:=rfl
theorem eqCs_cons (fs gs:List AV) (o c:Nat) (r:List (Nat×Nat)):eqCs fs gs ((o,c) :: r)=and2 (eqV c (fs.getD o .any) (gs.getD o .any)) (eqCs fs gs r):=rfl
def aggBin (op:BinOp) (L:Option (List (Nat×Nat))) (fs gs:List AV) (K:AV→Prop) (_:Lock K):Prop :=
 match op with
 | .eql=>optP L (fun L=>optP (eqCs fs gs L) (fun b=>K (.bl b)) .mk) .mk
 | .neq=>optP L (fun L=>optP (eqCs fs gs L) (fun b=>K (.bl (!b))) .mk) .mk
 | _=>False

def intBin2 (op:BinOp) (k k':IntKind) (a b:Int) (K:AV→Prop) (_:Lock K):Prop :=
 match op with
 | .shl=>vc (0≤b) (K (.v (.int k (k.wrap (a*2 ^ (min b.toNat k.bits)))))) .mk
 | .shr=>vc (0≤b) (K (.v (.int k (a.fdiv (2 ^ (min b.toNat k.bits)))))) .mk
 | op=>vc (k=k') (intBin op k a b K .mk) .mk


def nilQ (x:AV):Option (Nat×Bool) :=
 match x with
 | .v (.slice none _ _)=>some (0,true)
 | .v (.pointer none)=>some (1,true)
 | .v .nilIface=>some (2,true)
 | .v .nilFunc=>some (3,true)
 | .ref _ _ _ _ n=>if n=0 then none else some (0,false)
 | .sl _ es=>match es with | []=>none | _=>some (0,false)
 | .loc _ _ _ _=>some (1,false)
 | .ep _=>some (1,false)
 | .fn _ _=>some (3,false)
 | .ifc=>some (2,false)
 | _=>none
theorem nilQ_nil (n c:Nat):nilQ (.v (.slice none n c))=some (0,true):=rfl
theorem nilQ_ptr:nilQ (.v (.pointer none))=some (1,true):=rfl
theorem nilQ_iface:nilQ (.v .nilIface)=some (2,true):=rfl
theorem nilQ_func:nilQ (.v .nilFunc)=some (3,true):=rfl
theorem nilQ_ref (s:Nat) (p:Path) (z o n:Nat) (h:0<n):nilQ (.ref s p z o n)=some (0,false):=by simp [nilQ];omega
theorem nilQ_sl (z:Nat) (es:List AV) (h:0<es.length):nilQ (.sl z es)=some (0,false):=by cases es with | nil=>simp at h | cons a r=>rfl
theorem nilQ_loc (s:Nat) (p:Path) (i j:Nat):nilQ (.loc s p i j)=some (1,false):=rfl
theorem nilQ_ep (cs:List AV):nilQ (.ep cs)=some (1,false):=rfl
theorem nilQ_fn (f:FuncId) (c:List AV):nilQ (.fn f c)=some (3,false):=rfl
theorem nilQ_ifc:nilQ .ifc=some (2,false):=rfl
def isConstO:Operand→Bool
 | .const _=>true
 | _=>false
def nilC (cst:Bool) (kt:Option Nat) (a b:Nat×Bool):Prop:=b.2=true∧kt=some a.1∧a.1=b.1∧(cst=true∨a.1≠2)
def nilBin (P:Program) (op:BinOp) (t:TypeId) (cst:Bool) (x y:AV) (K:AV→Prop) (_:Lock K):Prop :=
 match op with
 | .eql=>optP (nilQ x) (fun a=>optP (nilQ y) (fun b=>vc (nilC cst (kindT P t) a b) (K (.bl a.2)) .mk) .mk) .mk
 | .neq=>optP (nilQ x) (fun a=>optP (nilQ y) (fun b=>vc (nilC cst (kindT P t) a b) (K (.bl (!a.2))) .mk) .mk) .mk
 | _=>False

def binP (P:Program) (op:BinOp) (t:TypeId) (cst:Bool) (x y:AV) (K:AV→Prop) (_:Lock K):Prop :=
 match x,y with
 | .v (.int k a),.v (.int k' b)=>intBin2 op k k' a b K .mk
 | .v (.string a),.v (.string b)=>strBin op a b K .mk
 | .v (.bool a),.v (.bool b)=>boolBin P op t a b K .mk
 | .agg fs,.agg gs=>aggBin op (eqT P t) fs gs K .mk
 | x,y=>nilBin P op t cst x y K .mk
section
variable (P:Program) (op:BinOp) (t:TypeId) (cst:Bool) (x:AV)
theorem binP_agg (fs gs:List AV):binP P op t cst (.agg fs) (.agg gs) K l=aggBin op (eqT P t) fs gs K .mk:=rfl
theorem binP_int (k k':IntKind) (a b:Int):binP P op t cst (.v (.int k a)) (.v (.int k' b)) K l=intBin2 op k k' a b K .mk:=rfl
theorem binP_str (a b:ByteArray):binP P op t cst (.v (.string a)) (.v (.string b)) K l=strBin op a b K .mk:=rfl
theorem binP_bool (a b:Bool):binP P op t cst (.v (.bool a)) (.v (.bool b)) K l=boolBin P op t a b K .mk:=rfl
theorem binP_ns (n c:Nat):binP P op t cst x (.v (.slice none n c)) K l=nilBin P op t cst x (.v (.slice none n c)) K .mk:=by cases x with | v a=>cases a <;> rfl | _=>rfl
theorem binP_np:binP P op t cst x (.v (.pointer none)) K l=nilBin P op t cst x (.v (.pointer none)) K .mk:=by cases x with | v a=>cases a <;> rfl | _=>rfl
theorem binP_ni:binP P op t cst x (.v .nilIface) K l=nilBin P op t cst x (.v .nilIface) K .mk:=by cases x with | v a=>cases a <;> rfl | _=>rfl
theorem binP_nf:binP P op t cst x (.v .nilFunc) K l=nilBin P op t cst x (.v .nilFunc) K .mk:=by cases x with | v a=>cases a <;> rfl | _=>rfl
end

def unP (op:UnOp) (x:AV) (K:AV→Prop) (_:Lock K):Prop :=
 match op,x with
 | .neg,.v (.int k n)=>K (.v (.int k (k.wrap (0 - n))))
 | .not,.v (.bool b)=>K (.bl (!b))
 | _,_=>False
theorem unP_neg (k:IntKind) (n:Int):unP .neg (.v (.int k n)) K l=K (.v (.int k (k.wrap (0 - n)))):=rfl
theorem unP_not (b:Bool):unP .not (.v (.bool b)) K l=K (.bl (!b)):=rfl

def pickP (c a b:AV) (K:AV→Prop) (_:Lock K):Prop :=
 match c with
 | .v (.bool t)=>ifP t (K a) (K b) .mk .mk
 | _=>False
theorem pickP_bool (t:Bool) (a b:AV):pickP (.v (.bool t)) a b K l=ifP t (K a) (K b) .mk .mk:=rfl


def loadCs (agg:Option Bool) (n:Nat) (cs:List AV) (off:Nat) (K:AV→Prop) (_:Lock K):Prop :=
 match agg with
 | some true=>vc (off+n≤cs.length) (K (.agg ((cs.drop off).take n))) .mk
 | some false=>vc (off<cs.length) (K (cs.getD off .any)) .mk
 | none=>False
theorem loadCs_agg (n:Nat) (cs:List AV) (off:Nat):loadCs (some true) n cs off K l=vc (off+n≤cs.length) (K (.agg ((cs.drop off).take n))) .mk:=rfl
theorem loadCs_one (n:Nat) (cs:List AV) (off:Nat):loadCs (some false) n cs off K l=vc (off<cs.length) (K (cs.getD off .any)) .mk:=rfl


def loadE (agg:Option Bool) (n s:Nat) (p:Path) (i j:Nat) (x:AV) (K:AV→Prop) (_:Lock K):Prop :=
 match agg with
 | some true=>vc (j+n≤x.cells.length) (K (.agg (atomL s p i j ((x.cells.drop j).take n)))) .mk
 | some false=>vc (j<x.cells.length) (K ((x.cells.getD j .any).atom s (p++[(i,j)]))) .mk
 | none=>False
theorem loadE_agg (n s:Nat) (p:Path) (i j:Nat) (x:AV):loadE (some true) n s p i j x K l=vc (j+n≤x.cells.length) (K (.agg (atomL s p i j ((x.cells.drop j).take n)))) .mk:=rfl
theorem loadE_one (n s:Nat) (p:Path) (i j:Nat) (x:AV):loadE (some false) n s p i j x K l=vc (j<x.cells.length) (K ((x.cells.getD j .any).atom s (p++[(i,j)]))) .mk:=rfl
def loadN (agg:Option Bool) (n s:Nat) (p:Path) (i j:Nat) (T:AV) (K:AV→Prop) (_:Lock K):Prop :=
 match T with
 | .tr _ es=>vc (i<es.length) (loadE agg n s p i j (es.getD i .any) K .mk) .mk
 | .pt _ x=>vc (i=0) (loadE agg n s p 0 j x K .mk) .mk
 | _=>False
theorem loadN_tr (agg:Option Bool) (n s:Nat) (p:Path) (i j z:Nat) (es:List AV):loadN agg n s p i j (.tr z es) K l=vc (i<es.length) (loadE agg n s p i j (es.getD i .any) K .mk) .mk:=rfl
theorem loadN_pt (agg:Option Bool) (n s:Nat) (p:Path) (i j z:Nat) (x:AV):loadN agg n s p i j (.pt z x) K l=vc (i=0) (loadE agg n s p 0 j x K .mk) .mk:=rfl

def loadP (P:Program) (mem:Nat→Option AV) (t:TypeId) (a:AV) (K:AV→Prop) (_:Lock K):Prop :=
 match a with
 | .loc s p i j=>loadN (aggT P t) (sizeT P t) s p i j (nodeAt mem s p) K .mk
 | .ep cs=>loadCs (aggT P t) (sizeT P t) cs 0 K .mk
 | .bx cs=>loadCs (aggT P t) (sizeT P t) cs 0 K .mk
 | _=>False
theorem loadP_loc (P:Program) (mem:Nat→Option AV) (t:TypeId) (s:Nat) (p:Path) (i j:Nat):loadP P mem t (.loc s p i j) K l=loadN (aggT P t) (sizeT P t) s p i j (nodeAt mem s p) K .mk:=rfl
theorem loadP_ep (P:Program) (mem:Nat→Option AV) (t:TypeId) (cs:List AV):loadP P mem t (.ep cs) K l=loadCs (aggT P t) (sizeT P t) cs 0 K .mk:=rfl
theorem loadP_bx (P:Program) (mem:Nat→Option AV) (t:TypeId) (cs:List AV):loadP P mem t (.bx cs) K l=loadCs (aggT P t) (sizeT P t) cs 0 K .mk:=rfl

def fieldAP (f:Option (Nat×TypeId)) (a:AV) (K:AV→Prop) (_:Lock K):Prop :=
 match f,a with
 | some (off,_),.loc s p i j=>K (.loc s p i (j+off))
 | some (off,_),.ep cs=>vc (off≤cs.length) (K (.ep (cs.drop off))) .mk
 | some (off,_),.bx cs=>vc (off≤cs.length) (K (.bx (cs.drop off))) .mk
 | _,_=>False
theorem fieldAP_loc (off t s:Nat) (p:Path) (i j:Nat):fieldAP (some (off,t)) (.loc s p i j) K l=K (.loc s p i (j+off)):=rfl
theorem fieldAP_ep (off t:Nat) (cs:List AV):fieldAP (some (off,t)) (.ep cs) K l=vc (off≤cs.length) (K (.ep (cs.drop off))) .mk:=rfl
theorem fieldAP_bx (off t:Nat) (cs:List AV):fieldAP (some (off,t)) (.bx cs) K l=vc (off≤cs.length) (K (.bx (cs.drop off))) .mk:=rfl

def indexAP (z0:Option Nat) (a:AV) (i:AV) (K:AV→Prop) (_:Lock K):Prop :=
 match z0,i,a with
 | some z0,.v (.int _ i),.sl z es=>vc (0≤i∧i<es.length∧z=z0) (K (.ep (es.getD i.toNat .any).cells)) .mk
 | some z0,.v (.int _ i),.ref s p z o n=>vc (0≤i∧i<n∧z=z0) (K (.loc s p (o+i.toNat) 0)) .mk
 | _,_,_=>False
theorem indexAP_sl (z0:Nat) (k:IntKind) (i:Int) (z:Nat) (es:List AV):indexAP (some z0) (.sl z es) (.v (.int k i)) K l=vc (0≤i∧i<es.length∧z=z0) (K (.ep (es.getD i.toNat .any).cells)) .mk:=rfl
theorem indexAP_ref (z0:Nat) (k:IntKind) (i:Int) (s:Nat) (p:Path) (z o n:Nat):indexAP (some z0) (.ref s p z o n) (.v (.int k i)) K l=vc (0≤i∧i<n∧z=z0) (K (.loc s p (o+i.toNat) 0)) .mk:=rfl

def lenP (P:Program) (t:TypeId) (a:AV) (K:AV→Prop) (_:Lock K):Prop :=
 match a with
 | .sl _ es=>vc ((elemT P t).isSome=true) (K (.i64 es.length)) .mk
 | .lst _ es=>vc ((elemT P t).isSome=true) (K (.i64 es.length)) .mk
 | .ref _ _ _ _ n=>vc ((elemT P t).isSome=true) (K (.i64 n)) .mk
 | .v (.slice none 0 0)=>vc ((elemT P t).isSome=true) (K (.i64 0)) .mk
 | .v (.string s)=>vc (stringT P t=true) (K (.i64 s.size)) .mk
 | _=>False
section
variable (P:Program) (t:TypeId)
theorem lenP_sl (z:Nat) (es:List AV):lenP P t (.sl z es) K l=vc ((elemT P t).isSome=true) (K (.i64 es.length)) .mk:=rfl
theorem lenP_lst (z:Nat) (es:List AV):lenP P t (.lst z es) K l=vc ((elemT P t).isSome=true) (K (.i64 es.length)) .mk:=rfl
theorem lenP_ref (s:Nat) (p:Path) (z o n:Nat):lenP P t (.ref s p z o n) K l=vc ((elemT P t).isSome=true) (K (.i64 n)) .mk:=rfl
theorem lenP_nil:lenP P t (.v (.slice none 0 0)) K l=vc ((elemT P t).isSome=true) (K (.i64 0)) .mk:=rfl
theorem lenP_str (s:ByteArray):lenP P t (.v (.string s)) K l=vc (stringT P t=true) (K (.i64 s.size)) .mk:=rfl
end

def viewN (z o n:Nat) (T:AV):AV :=
 match T with
 | .tr z' es=>if z=z'∧o+n≤es.length then .sl z ((es.map AV.fz).drop o |>.take n) else .any
 | _=>.any
theorem viewN_tr (z o n:Nat) (es:List AV) (h:o+n≤es.length):viewN z o n (.tr z es)=.sl z (((es.map AV.fz).drop o).take n):=if_pos ⟨rfl,h⟩
def viewL (i j:Nat) (T:AV):AV :=
 match T with
 | .tr _ es=>if i<es.length then .ep ((es.getD i .any).fz.cells.drop j) else .any
 | .pt _ x=>if i=0 then .ep (x.fz.cells.drop j) else .any
 | _=>.any
theorem viewL_tr (i j z:Nat) (es:List AV) (h:i<es.length):viewL i j (.tr z es)=.ep ((es.getD i .any).fz.cells.drop j):=if_pos h
theorem viewL_pt (j z:Nat) (x:AV):viewL 0 j (.pt z x)=.ep (x.fz.cells.drop j):=rfl
mutual
def AV.view (mem:Nat→Option AV):AV→AV
 | .ref s p z o n=>viewN z o n (nodeAt mem s p)
 | .loc s p i j=>viewL i j (nodeAt mem s p)
 | .mref _ _=>.any
 | .agg fs=>.agg (AV.views mem fs)
 | .tup fs=>.tup (AV.views mem fs)
 | .fn f caps=>.fn f (AV.views mem caps)
 | .lst z es=>.sl z (AV.views mem es)
 | .bx cs=>.ep (AV.views mem cs)
 | .any=>.any
 | .v x=>.v x
 | .sl z es=>.sl z es
 | .ep cs=>.ep cs
 | .ifc=>.ifc
 | .tr _ _=>.any
 | .pt _ _=>.any
 | .mt _ _=>.any
def AV.views (mem:Nat→Option AV):List AV→List AV
 | []=>[]
 | a :: r=>AV.view mem a :: AV.views mem r
end
mutual
def AV.bears:AV→Bool
 | .ref _ _ _ _ _=>true
 | .loc _ _ _ _=>true
 | .mref _ _=>true
 | .agg fs=>AV.bearsL fs
 | .tup fs=>AV.bearsL fs
 | .fn _ caps=>AV.bearsL caps
 | .lst _ _=>true
 | .bx _=>true
 | .any=>false
 | .v _=>false
 | .sl _ _=>false
 | .ep _=>false
 | .ifc=>false
 | .tr _ _=>true
 | .pt _ _=>true
 | .mt _ _=>true
def AV.bearsL:List AV→Bool
 | []=>false
 | a :: r=>AV.bears a || AV.bearsL r
end

def AV.node1 (a:AV):Bool :=
 match a with
 | .agg fs=>fs.any AV.isNode
 | a=>a.isNode
def AV.nodeB (a:AV):Bool :=
 match a with
 | .tup fs=>fs.any AV.node1
 | a=>a.node1
def resP (b:Bool) (r:AV) (K B:AV→Prop) (_:Lock K) (_:Lock B):Prop:=match b with | true=>B r | false=>K r
theorem resP_t (r:AV) (B:AV→Prop) (m:Lock K) (k:Lock B):resP true r K B m k=B r:=rfl
theorem resP_f (r:AV) (B:AV→Prop) (m:Lock K) (k:Lock B):resP false r K B m k=K r:=rfl
def callP (P:Program) (f:FuncId) (args:List AV) (lent:Bool) (K B:AV→Prop) (_:Lock K) (_:Lock B):Prop :=
 ∃ r,SpecAt P f args r∧vc (lent=false∨r.pure=true) (resP r.nodeB r K B .mk .mk∨K r.fz) .mk
def resQ (lent:Bool) (r:AV) (K B:AV→Prop) (_:Lock K) (_:Lock B):Prop:=vc (lent=false∨r.pure=true) (resP r.nodeB r K B .mk .mk) .mk
theorem resQ_go (lent:Bool) (r:AV) (B:AV→Prop) (m:Lock K) (k:Lock B):resQ lent r K B m k=vc (lent=false∨r.pure=true) (resP r.nodeB r K B .mk .mk) .mk:=rfl
end
theorem callP_of {P:Program} {f:FuncId} {args:List AV} {lent:Bool} {K B:AV→Prop} {l:Lock K} {m:Lock B} {r:AV} (h:SpecAt P f args r) (k:resQ lent r K B .mk .mk):callP P f args lent K B l m:=⟨r,h,k.1,.inl k.2⟩
theorem callP_frz {P:Program} {f:FuncId} {args:List AV} {lent:Bool} {K B:AV→Prop} {l:Lock K} {m:Lock B} {r:AV} (h:SpecAt P f args r) (k:vc (lent=false∨r.pure=true) (K r.fz) .mk):callP P f args lent K B l m:=⟨r,h,k.1,.inr k.2⟩

section
variable (K:AV→Prop) (l:Lock K)
def calleeP (P:Program) (mem:Nat→Option AV) (x:AV) (args:List AV) (K B:AV→Prop) (_:Lock K) (_:Lock B):Prop :=
 match x with
 | .fn f caps=>callP P f (AV.views mem (args++caps)) (AV.bearsL (args++caps)) K B .mk .mk
 | _=>False
theorem calleeP_fn (P:Program) (mem:Nat→Option AV) (f:FuncId) (caps args:List AV) (B:AV→Prop) (m:Lock B):calleeP P mem (.fn f caps) args K B l m=callP P f (AV.views mem (args++caps)) (AV.bearsL (args++caps)) K B .mk .mk:=rfl

def sliceP (P:Program) (t:TypeId) (x lo hi:AV) (K:AV→Prop) (_:Lock K):Prop :=
 match x,lo,hi with
 | .v (.string s),.v (.int _ l),.v (.int _ h)=>vc (stringT P t=true∧0≤l∧l≤h∧h≤s.size) (K (.v (.string (s.extract l.toNat h.toNat)))) .mk
 | .sl z es,.v (.int _ l),.v (.int _ h)=>vc ((elemT P t).map (sizeT P)=some z∧0≤l∧l≤h∧h≤es.length) (K (.sl z ((es.take h.toNat).drop l.toNat))) .mk
 | .ref s p z o n,.v (.int _ l),.v (.int _ h)=>vc ((elemT P t).map (sizeT P)=some z∧0≤l∧l≤h∧h≤n) (K (.ref s p z (o+l.toNat) (h.toNat - l.toNat))) .mk
 | .v (.slice none 0 0),.v (.int _ l),.v (.int _ h)=>vc ((elemT P t).isSome=true∧l=0∧h=0) (K .nilsl) .mk
 | _,_,_=>False
section
variable (P:Program) (t:TypeId) (k k':IntKind) (lo hi:Int)
theorem sliceP_str (s:ByteArray):sliceP P t (.v (.string s)) (.v (.int k lo)) (.v (.int k' hi)) K l=vc (stringT P t=true∧0≤lo∧lo≤hi∧hi≤s.size) (K (.v (.string (s.extract lo.toNat hi.toNat)))) .mk:=rfl
theorem sliceP_sl (z:Nat) (es:List AV):sliceP P t (.sl z es) (.v (.int k lo)) (.v (.int k' hi)) K l=vc ((elemT P t).map (sizeT P)=some z∧0≤lo∧lo≤hi∧hi≤es.length) (K (.sl z ((es.take hi.toNat).drop lo.toNat))) .mk:=rfl
theorem sliceP_ref (s:Nat) (p:Path) (z o n:Nat):sliceP P t (.ref s p z o n) (.v (.int k lo)) (.v (.int k' hi)) K l=vc ((elemT P t).map (sizeT P)=some z∧0≤lo∧lo≤hi∧hi≤n) (K (.ref s p z (o+lo.toNat) (hi.toNat - lo.toNat))) .mk:=rfl
theorem sliceP_nil:sliceP P t (.v (.slice none 0 0)) (.v (.int k lo)) (.v (.int k' hi)) K l=vc ((elemT P t).isSome=true∧lo=0∧hi=0) (K .nilsl) .mk:=rfl
end
def AV.lenV:AV→AV
 | .v (.string s)=>.i64 s.size
 | .sl _ es=>.i64 es.length
 | .ref _ _ _ _ n=>.i64 n
 | .v (.slice none 0 0)=>.i64 0
 | _=>.any

def fieldP (P:Program) (f:Option (Nat×TypeId)) (a:AV) (K:AV→Prop) (_:Lock K):Prop :=
 match f,a with
 | some (off,ft),.agg fs=>loadCs (aggT P ft) (sizeT P ft) fs off K .mk
 | _,_=>False
theorem fieldP_agg (P:Program) (off:Nat) (ft:TypeId) (fs:List AV):fieldP P (some (off,ft)) (.agg fs) K l=loadCs (aggT P ft) (sizeT P ft) fs off K .mk:=rfl

def strIndexP (P:Program) (t:TypeId) (a i:AV) (K:AV→Prop) (_:Lock K):Prop :=
 match a,i with
 | .v (.string s),.v (.int _ i)=>vc (stringT P t=true∧0≤i∧i<s.size) (K (.u8 ((s.data.toList.getD i.toNat 0).toNat))) .mk
 | _,_=>False
theorem strIndexP_str (P:Program) (t:TypeId) (s:ByteArray) (k:IntKind) (i:Int):strIndexP P t (.v (.string s)) (.v (.int k i)) K l=vc (stringT P t=true∧0≤i∧i<s.size) (K (.u8 ((s.data.toList.getD i.toNat 0).toNat))) .mk:=rfl

def repC:Nat→List AV→List AV
 | n,[x]=>List.replicate n x
 | 0,_=>[]
 | n+1,l=>l++repC n l
def oneC:AV→Bool
 | .any=>false
 | .tup _=>false
 | .agg _=>false
 | .tr _ _=>false
 | .pt _ _=>false
 | .mt _ _=>false
 | .v (.tuple _)=>false
 | .v (.agg _)=>false
 | _=>true
def knownCells:AV→Bool
 | .agg fs=>fs.all oneC
 | a=>oneC a
theorem kc_agg (fs:List AV):knownCells (.agg fs)=fs.all oneC:=rfl
theorem kc_v (x:Value):knownCells (.v x)=oneC (.v x):=rfl
theorem kc_sl (z:Nat) (es:List AV):knownCells (.sl z es)=true:=rfl
theorem oc_sl (z:Nat) (es:List AV):oneC (.sl z es)=true:=rfl
theorem kc_lst (z:Nat) (es:List AV):knownCells (.lst z es)=true:=rfl
theorem oc_lst (z:Nat) (es:List AV):oneC (.lst z es)=true:=rfl
theorem kc_ref (s:Nat) (p:Path) (z o n:Nat):knownCells (.ref s p z o n)=true:=rfl
theorem oc_ref (s:Nat) (p:Path) (z o n:Nat):oneC (.ref s p z o n)=true:=rfl
theorem kc_loc (s:Nat) (p:Path) (i j:Nat):knownCells (.loc s p i j)=true:=rfl
theorem oc_loc (s:Nat) (p:Path) (i j:Nat):oneC (.loc s p i j)=true:=rfl
theorem kc_mref (s:Nat) (p:Path):knownCells (.mref s p)=true:=rfl
theorem oc_mref (s:Nat) (p:Path):oneC (.mref s p)=true:=rfl
theorem kc_bx (cs:List AV):knownCells (.bx cs)=true:=rfl
theorem oc_bx (cs:List AV):oneC (.bx cs)=true:=rfl
theorem kc_ep (cs:List AV):knownCells (.ep cs)=true:=rfl
theorem oc_ep (cs:List AV):oneC (.ep cs)=true:=rfl
theorem kc_fn (f:FuncId) (cs:List AV):knownCells (.fn f cs)=true:=rfl
theorem oc_fn (f:FuncId) (cs:List AV):oneC (.fn f cs)=true:=rfl
theorem kc_ifc:knownCells .ifc=true:=rfl
theorem oc_ifc:oneC .ifc=true:=rfl
theorem oc_int (k:IntKind) (n:Int):oneC (.v (.int k n))=true:=rfl
theorem oc_bool (b:Bool):oneC (.v (.bool b))=true:=rfl
theorem oc_str (s:ByteArray):oneC (.v (.string s))=true:=rfl
theorem oc_slice (a:Option Addr) (n c:Nat):oneC (.v (.slice a n c))=true:=rfl
theorem oc_ptr (a:Option Addr):oneC (.v (.pointer a))=true:=rfl
theorem oc_map (a:Option Nat):oneC (.v (.map a))=true:=rfl
theorem oc_nilf:oneC (.v .nilFunc)=true:=rfl
theorem oc_nili:oneC (.v .nilIface)=true:=rfl

def buildCs (P:Program) (t:TypeId):List AV→List (Nat×AV)→Option (List AV)
 | cs,[]=>some cs
 | cs,(i,x) :: r=>match fieldT P t i with
  | some (off,ft)=>if x.cells.length=sizeT P ft∧off+sizeT P ft≤cs.length∧knownCells x=true then buildCs P t (cs.take off++x.cells++cs.drop (off+sizeT P ft)) r else none
  | none=>none


def nilP (x:AV) (K:AV→Prop) (_:Lock K):Prop :=
 match x with
 | .loc s p i j=>K (.loc s p i j)
 | .ep cs=>K (.ep cs)
 | .bx cs=>K (.bx cs)
 | _=>False
theorem nilP_loc (s:Nat) (p:Path) (i j:Nat):nilP (.loc s p i j) K l=K (.loc s p i j):=rfl
theorem nilP_bx (cs:List AV):nilP (.bx cs) K l=K (.bx cs):=rfl
theorem nilP_ep (cs:List AV):nilP (.ep cs) K l=K (.ep cs):=rfl
def intP (x:AV) (K:Int→Prop) (_:Lock K):Prop :=
 match x with
 | .v (.int _ n)=>K n
 | _=>False
theorem intP_int (k:IntKind) (n:Int) (K:Int→Prop) (l:Lock K):intP (.v (.int k n)) K l=K n:=rfl
def tupP (x:AV) (i:Nat) (K:AV→Prop) (_:Lock K):Prop :=
 match x with
 | .tup fs=>vc (i<fs.length) (K (fs.getD i .any)) .mk
 | _=>False
theorem tupP_tup (fs:List AV) (i:Nat):tupP (.tup fs) i K l=vc (i<fs.length) (K (fs.getD i .any)) .mk:=rfl
def oneP (z:Option (List Value)) (K:Value→Prop) (_:Lock K):Prop :=
 match z with
 | some [z]=>K z
 | _=>False
theorem oneP_one (z:Value) (K:Value→Prop) (l:Lock K):oneP (some [z]) K l=K z:=rfl


def isU8 (x:AV):Bool:=match x with | .v (.int .u8 _)=>true | _=>false
theorem isU8_int (n:Int):isU8 (.v (.int .u8 n))=true:=rfl
def byteV (x:AV):Int:=match x with | .v (.int .u8 n)=>n | _=>0
theorem byteV_int (n:Int):byteV (.v (.int .u8 n))=n:=rfl
def pushB (ns:List Int):ByteArray:=ns.foldl (fun r n=>r.push (UInt8.ofNat n.toNat)) ByteArray.empty
def convB (P:Program) (src dst:TypeId) (es:List AV) (K:AV→Prop) (_:Lock K):Prop :=
 optP (elemT P src) (fun e=>vc (intT P e=some .u8∧stringT P dst=true∧(es.all isU8)=true) (K (.v (.string (pushB (es.map byteV))))) .mk) .mk
theorem convB_go (P:Program) (src dst:TypeId) (es:List AV):convB P src dst es K l=optP (elemT P src) (fun e=>vc (intT P e=some .u8∧stringT P dst=true∧(es.all isU8)=true) (K (.v (.string (pushB (es.map byteV))))) .mk) .mk:=rfl
def convN (P:Program) (src dst:TypeId) (o n:Nat) (T:AV) (K:AV→Prop) (_:Lock K):Prop :=
 match T with
 | .tr _ es=>vc (o+n≤es.length) (convB P src dst ((es.drop o).take n) K .mk) .mk
 | _=>False
theorem convN_tr (P:Program) (src dst:TypeId) (o n z:Nat) (es:List AV):convN P src dst o n (.tr z es) K l=vc (o+n≤es.length) (convB P src dst ((es.drop o).take n) K .mk) .mk:=rfl
def convP (P:Program) (mem:Nat→Option AV) (src dst:TypeId) (x:AV) (K:AV→Prop) (_:Lock K):Prop :=
 match x with
 | .v (.int _ n)=>vc ((intT P src).isSome=true) (optP (intT P dst) (fun k=>K (.v (.int k (k.wrap n)))) .mk) .mk
 | .ref s p _ o n=>convN P src dst o n (nodeAt mem s p) K .mk
 | _=>False
theorem convP_int (P:Program) (mem:Nat→Option AV) (src dst:TypeId) (k:IntKind) (n:Int):convP P mem src dst (.v (.int k n)) K l=vc ((intT P src).isSome=true) (optP (intT P dst) (fun k=>K (.v (.int k (k.wrap n)))) .mk) .mk:=rfl
theorem convP_ref (P:Program) (mem:Nat→Option AV) (src dst:TypeId) (s:Nat) (p:Path) (z o n:Nat):convP P mem src dst (.ref s p z o n) K l=convN P src dst o n (nodeAt mem s p) K .mk:=rfl
def minmaxP (mx:Bool) (x y:AV) (K:AV→Prop) (_:Lock K):Prop :=
 match x,y with
 | .v (.int k a),.v (.int k' b)=>vc (k=k') (K (.v (.int k (if mx then (if a<b then b else a) else (if b<a then b else a))))) .mk
 | _,_=>False
theorem minmaxP_int (mx:Bool) (k k':IntKind) (a b:Int):minmaxP mx (.v (.int k a)) (.v (.int k' b)) K l=vc (k=k') (K (.v (.int k (if mx then (if a<b then b else a) else (if b<a then b else a))))) .mk:=rfl

def valP {α:Type} (x:α) (K:α→Prop) (_:Lock K):Prop:=K x
theorem valP_go {α:Type} (x:α) (K:α→Prop) (l:Lock K):valP x K l=K x:=rfl

def mapT (P:Program) (t:TypeId):Option (Bool×TypeId):=match P.underlying t with | some (.map k e)=>(match P.underlying k with | some .string=>some (true,e) | some (.int .i64)=>some (false,e) | _=>none) | _=>none
def keyB (kd:Bool) (x:Value):Bool:=match kd,x with | true,.string _=>true | false,.int .i64 _=>true | _,_=>false
def lookQ (o:Option Value) (z:Value) (ok:Bool) (K:AV→Prop) (_:Lock K):Prop :=
 match o with
 | some x=>K (match ok with | true=>.tup [.v x,.bl true] | false=>.v x)
 | none=>K (match ok with | true=>.tup [.v z,.bl false] | false=>.v z)
theorem lookQ_some (x z:Value) (ok:Bool):lookQ (some x) z ok K l=K (match ok with | true=>.tup [.v x,.bl true] | false=>.v x):=rfl
theorem lookQ_none (z:Value) (ok:Bool):lookQ none z ok K l=K (match ok with | true=>.tup [.v z,.bl false] | false=>.v z):=rfl
def lookN (P:Program) (t:TypeId) (T:AV) (i:AV) (ok:Bool) (K:AV→Prop) (_:Lock K):Prop :=
 match T,i with
 | .mt kd m,.v k=>optP (mapT P t) (fun ke=>vc (ke.1=kd∧keyB kd k=true) (optP (zeroV P ke.2) (fun z=>lookQ (m k) z ok K .mk) .mk) .mk) .mk
 | _,_=>False
theorem lookN_mt (P:Program) (t:TypeId) (kd:Bool) (m:Value→Option Value) (k:Value) (ok:Bool):lookN P t (.mt kd m) (.v k) ok K l=optP (mapT P t) (fun ke=>vc (ke.1=kd∧keyB kd k=true) (optP (zeroV P ke.2) (fun z=>lookQ (m k) z ok K .mk) .mk) .mk) .mk:=rfl
def lookP (P:Program) (mem:Nat→Option AV) (t:TypeId) (m:AV) (i:AV) (ok:Bool) (K:AV→Prop) (_:Lock K):Prop :=
 match m with
 | .mref s p=>lookN P t (nodeAt mem s p) i ok K .mk
 | _=>False
theorem lookP_mref (P:Program) (mem:Nat→Option AV) (t s:Nat) (p:Path) (i:AV) (ok:Bool):lookP P mem t (.mref s p) i ok K l=lookN P t (nodeAt mem s p) i ok K .mk:=rfl

def callOp (P:Program) (ev:Operand→AV) (mem:Nat→Option AV) (c:Call) (K B:AV→Prop) (_:Lock K) (_:Lock B):Prop :=
 match c.callee with
 | .value x=>calleeP P mem (ev x) (c.args.toList.map ev) K B .mk .mk
 | .builtin .len=>match c.args.toList,c.argTypes.toList with
  | [x],t :: _=>lenP P t (ev x) K .mk
  | _,_=>False
 | .builtin .min=>match c.args.toList with
  | [x,y]=>minmaxP false (ev x) (ev y) K .mk
  | _=>False
 | .builtin .max=>match c.args.toList with
  | [x,y]=>minmaxP true (ev x) (ev y) K .mk
  | _=>False
 | _=>False

def zeroE (g:Bool) (z:List Value):AV:=match g with | true=>.agg (z.map .v) | false=>.v (z.headD undef)
theorem zeroE_t (z:List Value):zeroE true z=.agg (z.map .v):=rfl
theorem zeroE_f (z:List Value):zeroE false z=.v (z.headD undef):=rfl
def fop (P:Program) (ev:Operand→AV) (mem:Nat→Option AV) (o:Op) (K B:AV→Prop) (_:Lock K) (_:Lock B):Prop :=
  match o with
  | .move x=>K (ev x)
  | .assign x=>K (ev x)
  | .pick c a b=>pickP (ev c) (ev a) (ev b) K .mk
  | .alloc t=>optP (zeroT P t) (fun z=>optP (aggT P t) (fun g=>vc (z.all Value.oneCell'=true∧(g=true∨z.length=1)) (B (.pt z.length (zeroE g z))) .mk) .mk) .mk
  | .box _ x=>vc (knownCells (ev x)=true∧(ev x).bears=false) (B (.pt (ev x).cells.length (ev x))) .mk
  | .build t ps=>optP (zeroT P t) (fun z=>optP (buildCs P t (z.map .v) (ps.toList.map fun p=>(p.1,ev p.2))) (fun cs=>vc (structT P t=true) (K (.agg cs)) .mk) .mk) .mk
  | .buildSlice t n ps=>optP (elemT P t) (fun e=>vc (ps.toList.map (·.1)=List.range n∧n*sizeT P e≤65536∧n≤65536∧(ps.toList.all fun p=>decide ((ev p.2).cells.length=sizeT P e) && knownCells (ev p.2))=true∧(zeroT P e).map List.length=some (sizeT P e))
      (resP (AV.bearsL (ps.toList.map fun p=>ev p.2)) (.tr (sizeT P e) (ps.toList.map fun p=>ev p.2)) B (fun _=>K (.lst (sizeT P e) (ps.toList.map fun p=>ev p.2))) .mk .mk) .mk) .mk
  | .load t a=>loadP P mem t (ev a) K .mk
  | .nilCheck x=>nilP (ev x) K .mk
  | .binOp op t x y _=>binP P op t (isConstO x || isConstO y) (ev x) (ev y) K .mk
  | .unOp op _ x=>unP op (ev x) K .mk
  | .convert src dst x=>convP P mem src dst (ev x) K .mk
  | .makeMap t r=>match r with
    | none=>optP (mapT P t) (fun ke=>B (.mt ke.1 fun _=>none)) .mk
    | some _=>False
  | .makeFunc f first caps=>match f with
    | .func f=>vc (first.size=0) (K (.fn f (caps.toList.map ev))) .mk
    | _=>False
  | .makeSlice t l c=>optP (elemT P t) (fun e=>optP (zeroT P e) (fun z=>optP (aggT P e) (fun g=>intP (ev l) (fun n=>intP (ev c) (fun n' =>
      vc (n'=n∧0≤n∧n≤1099511627776∧bytesT P e≤64∧sizeT P e=z.length∧0<z.length∧(g=true∨z.length=1)∧z.all Value.oneCell'=true) (B (.tr (sizeT P e) (List.replicate n.toNat (zeroE g z)))) .mk) .mk) .mk) .mk) .mk) .mk
  | .slice t x lo hi mx=>match mx with
    | none=>sliceP P t (ev x) ((lo.map ev).getD (.i64 0)) ((hi.map ev).getD (ev x).lenV) K .mk
    | some _=>False
  | .fieldAddr t x i=>fieldAP (fieldT P t i) (ev x) K .mk
  | .field t x i=>fieldP P (fieldT P t i) (ev x) K .mk
  | .indexAddr t x i=>indexAP ((elemT P t).map (sizeT P)) (ev x) (ev i) K .mk
  | .index t x i=>strIndexP P t (ev x) (ev i) K .mk
  | .lookup t m i ok=>lookP P mem t (ev m) (ev i) ok K .mk
  | .extract x i=>tupP (ev x) i K .mk
  | .call c=>callOp P ev mem c K B .mk .mk
  | _=>False
end
end Go.AM
namespace Go.AM

def St.put (st:St) (d:Option Nat) (x:AV):St :=
 match d with
 | some d=>{ st with fr:=fun i=>if i=d then x else st.fr i }
 | none=>st
def St.ev (st:St):Operand→AV
 | .tmp t=>st.fr t
 | .const x=>.v x
 | .func f=>.fn f []
 | .global _=>.any
mutual
def AV.mapH (f:Nat→Path→Option (Nat×Path)):AV→AV
 | .ref s p z o n=>match f s p with | some sp=>.ref sp.1 sp.2 z o n | none=>.any
 | .loc s p i j=>match f s p with | some sp=>.loc sp.1 sp.2 i j | none=>.any
 | .mref s p=>match f s p with | some sp=>.mref sp.1 sp.2 | none=>.any
 | .agg fs=>.agg (AV.mapHL f fs)
 | .tup fs=>.tup (AV.mapHL f fs)
 | .fn g caps=>.fn g (AV.mapHL f caps)
 | .lst z es=>.lst z (AV.mapHL f es)
 | .bx cs=>.bx (AV.mapHL f cs)
 | .any=>.any
 | .v x=>.v x
 | .sl z es=>.sl z es
 | .ep cs=>.ep cs
 | .ifc=>.ifc
 | .tr _ _=>.any
 | .pt _ _=>.any
 | .mt _ _=>.any
def AV.mapHL (f:Nat→Path→Option (Nat×Path)):List AV→List AV
 | []=>[]
 | a :: r=>AV.mapH f a :: AV.mapHL f r
end
def isPref:Path→Path→Bool
 | [],_=>true
 | a :: p,b :: q=>decide (a.1=b.1∧a.2=b.2) && isPref p q
 | _ :: _,[]=>false
def killF (s:Nat):Nat→Path→Option (Nat×Path):=fun s' p'=>if s'=s then none else some (s',p')
def belowF (s:Nat) (q:Path):Nat→Path→Option (Nat×Path):=fun s' p'=>if s'=s then (match isPref q p' with | true=>(match p'.length == q.length with | true=>some (s',p') | false=>none) | false=>some (s',p')) else some (s',p')
def fromF (s:Nat) (q:Path):Nat→Path→Option (Nat×Path):=fun s' p'=>if s'=s then (match isPref q p' with | true=>none | false=>some (s',p')) else some (s',p')
def moveF (t:Nat) (q:Path) (s:Nat) (Q:Path):Nat→Path→Option (Nat×Path):=fun s' p' =>
 if s'=t then (match isPref q p' with | true=>some (s,Q++p'.drop q.length) | false=>some (s',p')) else fromF s Q s' p'
def growF (s:Nat) (p:Path) (d:Nat):Nat→Path→Option (Nat×Path):=fun s' p' =>
 if s'=s then (match isPref p p' with | true=>(match p'.length == p.length with | true=>none | false=>some (d,p'.drop p.length)) | false=>if s'=d then none else some (s',p')) else if s'=d then none else some (s',p')
def St.mapF (st:St) (f:Nat→Path→Option (Nat×Path)):St:={ st with fr:=fun i=>(st.fr i).mapH f }
def St.setMem (st:St) (s:Nat) (T:AV):St:={ st with mem:=fun i=>if i=s then some T else st.mem i }
def St.del (st:St) (s:Nat):St:={ st with mem:=fun i=>if i=s then none else st.mem i }
def St.kill (st:St) (s:Nat):St:=(st.mapF (killF s)).del s
def St.rmv (st:St) (t:Nat) (q:Path) (T:AV):St:=match q with | []=>st.del t | _=>st.setMem t (T.setP q .any)
def St.mv (st:St) (t:Nat) (q:Path) (T:AV) (s:Nat) (Q:Path):St:=(st.mapF (moveF t q s Q)).rmv t q T
def St.addB (st:St) (d:Option Nat) (T:AV):St :=
 match d with
 | some d=>((st.kill d).setMem d T).put (some d) (T.atoms d [])
 | none=>st
theorem St.addB_some (st:St) (d:Nat) (T:AV):st.addB (some d) T=((st.kill d).setMem d T).put (some d) (T.atoms d []):=rfl
theorem St.addB_none (st:St) (T:AV):st.addB none T=st:=rfl

def grabTr (st:St) (t:Nat) (q:Path) (z m:Nat) (T:AV) (s:Nat) (Q:Path) (K:AV→St→Prop) (_:Lock K):Prop :=
 match T.at q with
 | .tr z' es=>vc (t≠s∧z=z'∧m≤es.length) (K (.tr z (es.take m)) (st.mv t q T s Q)) .mk
 | _=>False
def grabPt (st:St) (t:Nat) (q:Path) (T:AV) (s:Nat) (Q:Path) (K:AV→St→Prop) (_:Lock K):Prop :=
 match T.at q with
 | .pt z x=>vc (t≠s) (K (.pt z x) (st.mv t q T s Q)) .mk
 | _=>False
def grabMt (st:St) (t:Nat) (q:Path) (T:AV) (s:Nat) (Q:Path) (K:AV→St→Prop) (_:Lock K):Prop :=
 match T.at q with
 | .mt kd m=>vc (t≠s) (K (.mt kd m) (st.mv t q T s Q)) .mk
 | _=>False
def grabC (st:St) (x:AV) (s:Nat) (Q:Path) (K:AV→St→Prop) (_:Lock K):Prop :=
 match x with
 | .ref t q z o m=>vc (o=0) (optP (st.mem t) (fun T=>grabTr st t q z m T s Q K .mk) .mk) .mk
 | .loc t q i j=>vc (i=0∧j=0) (optP (st.mem t) (fun T=>grabPt st t q T s Q K .mk) .mk) .mk
 | .mref t q=>optP (st.mem t) (fun T=>grabMt st t q T s Q K .mk) .mk
 | a=>vc (a.bears=false) (K a st) .mk
def grabCs (s:Nat) (p:Path) (i:Nat):Nat→List AV→St→(List AV→St→Prop)→Prop
 | _,[],st,K=>K [] st
 | j,x :: r,st,K=>grabC st x s (p++[(i,j)]) (fun x' st'=>grabCs s p i (j+1) r st' fun l st''=>K (x' :: l) st'') .mk
def grabE (s:Nat) (p:Path) (i j:Nat) (e:AV) (st:St) (K:AV→St→Prop):Prop :=
 match e with
 | .agg fs=>grabCs s p i j fs st fun l st'=>K (.agg l) st'
 | e=>grabC st e s (p++[(i,j)]) K .mk
def grabL (s:Nat) (p:Path):Nat→List AV→St→(List AV→St→Prop)→Prop
 | _,[],st,K=>K [] st
 | i,e :: r,st,K=>grabE s p i 0 e st fun e' st'=>grabL s p (i+1) r st' fun l st''=>K (e' :: l) st''

def setCs (e:AV):Nat→List AV→AV
 | _,[]=>e
 | j,x :: r=>setCs (e.setC j x) (j+1) r
def setEl (z:Nat) (e:AV) (j:Nat) (x:AV):AV:=match decide (j=0∧x.cells.length=z) with | true=>x | false=>setCs e j x.cells
def AV.setE (N:AV) (i j:Nat) (x:AV):AV :=
 match N with
 | .tr z es=>.tr z (es.set i (setEl z (es.getD i .any) j x))
 | .pt z y=>.pt z (setEl z y j x)
 | N=>N
def fitsN (N:AV) (i j n:Nat) (K:Prop) (_:Lock K):Prop :=
 match N with
 | .tr z es=>vc (i<es.length∧j+n≤z) K .mk
 | .pt z _=>vc (i=0∧j+n≤z) K .mk
 | _=>False
theorem fitsN_tr (z:Nat) (es:List AV) (i j n:Nat) (K:Prop) (l:Lock K):fitsN (.tr z es) i j n K l=vc (i<es.length∧j+n≤z) K .mk:=rfl
theorem fitsN_pt (z:Nat) (x:AV) (i j n:Nat) (K:Prop) (l:Lock K):fitsN (.pt z x) i j n K l=vc (i=0∧j+n≤z) K .mk:=rfl
def storeF (b:Bool) (st:St) (s:Nat) (p:Path) (i j:Nat) (x:AV) (K:St→Prop) (_:Lock K):Prop :=
 match b with
 | false=>optP (st.mem s) (fun T=>valP (T.modP p fun N=>N.setE i j x) (fun T'=>K (st.setMem s T')) .mk) .mk
 | true=>grabE s p i j x st fun x' st'=>optP (st'.mem s) (fun T=>valP (T.modP p fun N=>N.setE i j x') (fun T'=>K (st'.setMem s T')) .mk) .mk
theorem storeF_f (st:St) (s:Nat) (p:Path) (i j:Nat) (x:AV) (K:St→Prop) (l:Lock K):storeF false st s p i j x K l=optP (st.mem s) (fun T=>valP (T.modP p fun N=>N.setE i j x) (fun T'=>K (st.setMem s T')) .mk) .mk:=rfl
theorem storeF_t (st:St) (s:Nat) (p:Path) (i j:Nat) (x:AV) (K:St→Prop) (l:Lock K):storeF true st s p i j x K l=grabE s p i j x st fun x' st'=>optP (st'.mem s) (fun T=>valP (T.modP p fun N=>N.setE i j x') (fun T'=>K (st'.setMem s T')) .mk) .mk:=rfl
def storeP (st:St) (n:Option Nat) (a x:AV) (K:St→Prop) (_:Lock K):Prop :=
 match a with
 | .loc s p i j=>vc (knownCells x=true∧n=some x.cells.length) (fitsN (nodeAt st.mem s p) i j x.cells.length (storeF x.bears st s p i j x K .mk) .mk) .mk
 | _=>False
theorem storeP_loc (st:St) (n:Option Nat) (s:Nat) (p:Path) (i j:Nat) (x:AV) (K:St→Prop) (l:Lock K):storeP st n (.loc s p i j) x K l=vc (knownCells x=true∧n=some x.cells.length) (fitsN (nodeAt st.mem s p) i j x.cells.length (storeF x.bears st s p i j x K .mk) .mk) .mk:=rfl

abbrev pullR:Nat:=4294967290
def selfA (a x:AV):Bool:=match a,x with
 | .loc s p i j,.ref t q _ o _=>decide (t=s∧q=p++[(i,j)]∧¬ o=0)
 | _,_=>false
def St.pull (st:St) (s:Nat) (Q:Path) (T:AV) (z:Nat) (es:List AV) (m u:Nat):St:=((((st.kill pullR).mapF (fromF s Q)).setMem s (T.setP Q .any)).setMem pullR (.tr z es)).put (some u) (.ref pullR [] z 0 m)
theorem St.pull_eq (st:St) (s:Nat) (Q:Path) (T:AV) (z:Nat) (es:List AV) (m u:Nat):st.pull s Q T z es m u=((((st.kill pullR).mapF (fromF s Q)).setMem s (T.setP Q .any)).setMem pullR (.tr z es)).put (some u) (.ref pullR [] z 0 m):=rfl
def pullT (st:St) (s:Nat) (Q:Path) (z o m u:Nat) (T M:AV) (K:St→Prop) (_:Lock K):Prop :=
 match M with
 | .tr z' es=>vc (z'=z∧o+m≤es.length∧¬ s=pullR∧¬ Q=[]) (valP ((es.drop o).take m) (fun es'=>K (st.pull s Q T z es' m u)) .mk) .mk
 | _=>False
theorem pullT_tr (st:St) (s:Nat) (Q:Path) (z o m u:Nat) (T:AV) (z':Nat) (es:List AV) (K:St→Prop) (l:Lock K):pullT st s Q z o m u T (.tr z' es) K l=vc (z'=z∧o+m≤es.length∧¬ s=pullR∧¬ Q=[]) (valP ((es.drop o).take m) (fun es'=>K (st.pull s Q T z es' m u)) .mk) .mk:=rfl
def pullP (st:St) (a x:AV) (u:Operand) (K:St→Prop) (_:Lock K):Prop :=
 match a,x,u with
 | .loc s p i j,.ref _ _ z o m,.tmp u=>optP (st.mem s) (fun T=>pullT st s (p++[(i,j)]) z o m u T (T.at (p++[(i,j)])) K .mk) .mk
 | _,_,_=>False
theorem pullP_go (st:St) (s:Nat) (p:Path) (i j t:Nat) (q:Path) (z o m u:Nat) (K:St→Prop) (l:Lock K):pullP st (.loc s p i j) (.ref t q z o m) (.tmp u) K l=optP (st.mem s) (fun T=>pullT st s (p++[(i,j)]) z o m u T (T.at (p++[(i,j)])) K .mk) .mk:=rfl
def storeB (b:Bool) (st:St) (n:Option Nat) (a x:Operand) (ev:St→Operand→AV) (K:St→Prop) (_:Lock K):Prop :=
 match b with
 | false=>storeP st n (ev st a) (ev st x) K .mk
 | true=>pullP st (ev st a) (ev st x) x (fun st1=>storeP st1 n (ev st1 a) (ev st1 x) K .mk) .mk
theorem storeB_f (st:St) (n:Option Nat) (a x:Operand) (ev:St→Operand→AV) (K:St→Prop) (l:Lock K):storeB false st n a x ev K l=storeP st n (ev st a) (ev st x) K .mk:=rfl
theorem storeB_t (st:St) (n:Option Nat) (a x:Operand) (ev:St→Operand→AV) (K:St→Prop) (l:Lock K):storeB true st n a x ev K l=pullP st (ev st a) (ev st x) x (fun st1=>storeP st1 n (ev st1 a) (ev st1 x) K .mk) .mk:=rfl

def srcN (z z' o n:Nat) (T:AV) (K:List AV→Prop) (_:Lock K):Prop :=
 match T with
 | .tr w es=>vc (z'=z∧w=z∧o+n≤es.length∧AV.bearsL es=false) (K ((es.drop o).take n)) .mk
 | _=>False
theorem srcN_tr (z z' o n w:Nat) (es:List AV) (K:List AV→Prop) (l:Lock K):srcN z z' o n (.tr w es) K l=vc (z'=z∧w=z∧o+n≤es.length∧AV.bearsL es=false) (K ((es.drop o).take n)) .mk:=rfl
def srcP (mem:Nat→Option AV) (z:Nat) (y:AV) (K:List AV→Prop) (_:Lock K):Prop :=
 match y with
 | .ref s p z' o n=>srcN z z' o n (nodeAt mem s p) K .mk
 | .sl z' es=>vc (z'=z) (K es) .mk
 | .lst z' es=>vc (z'=z) (K es) .mk
 | .v (.slice none 0 0)=>K []
 | _=>False
section
variable (mem:Nat→Option AV) (z:Nat) (K:List AV→Prop) (l:Lock K)
theorem srcP_ref (s:Nat) (p:Path) (z' o n:Nat):srcP mem z (.ref s p z' o n) K l=srcN z z' o n (nodeAt mem s p) K .mk:=rfl
theorem srcP_sl (z':Nat) (es:List AV):srcP mem z (.sl z' es) K l=vc (z'=z) (K es) .mk:=rfl
theorem srcP_lst (z':Nat) (es:List AV):srcP mem z (.lst z' es) K l=vc (z'=z) (K es) .mk:=rfl
theorem srcP_nil:srcP mem z (.v (.slice none 0 0)) K l=K []:=rfl
end
def St.grow (st:St) (s:Nat) (p:Path) (T:AV) (d:Nat):St:=((st.mapF (growF s p d)).rmv s p T).del d
def appE (st:St) (d z:Nat) (es ys:List AV) (K:AV→St→Prop):Prop :=
 grabL d [] es.length ys st fun ys' st'=>valP (es++ys') (fun l=>K (.ref d [] z 0 (es.length+ys.length)) (st'.setMem d (.tr z l))) .mk
def appN (st:St) (d z s:Nat) (p:Path) (o n:Nat) (T:AV) (ys:List AV) (K:AV→St→Prop) (_:Lock K):Prop :=
 match T.at p with
 | .tr w es=>vc (w=z∧o+n≤es.length∧(o=0∨AV.bearsL es=false)) (valP ((es.drop o).take n) (fun l=>appE (st.grow s p T d) d z l ys K) .mk) .mk
 | _=>False
def appP (st:St) (d:Nat) (z b:Nat) (x:AV) (ys:List AV) (K:AV→St→Prop) (_:Lock K):Prop :=
 match x with
 | .v (.slice none 0 0)=>vc (ys.length≤1099511627776∧b≤64∧0<z) (appE (st.kill d) d z [] ys K) .mk
 | .ref s p z' o n=>vc (z'=z∧n+ys.length≤1099511627776∧b≤64∧0<z) (optP (st.mem s) (fun T=>appN st d z s p o n T ys K .mk) .mk) .mk
 | _=>False
theorem appP_nil (st:St) (d z b:Nat) (ys:List AV) (K:AV→St→Prop) (l:Lock K):appP st d z b (.v (.slice none 0 0)) ys K l=vc (ys.length≤1099511627776∧b≤64∧0<z) (appE (st.kill d) d z [] ys K) .mk:=rfl
theorem appP_ref (st:St) (d z b s:Nat) (p:Path) (z' o n:Nat) (ys:List AV) (K:AV→St→Prop) (l:Lock K):appP st d z b (.ref s p z' o n) ys K l=vc (z'=z∧n+ys.length≤1099511627776∧b≤64∧0<z) (optP (st.mem s) (fun T=>appN st d z s p o n T ys K .mk) .mk) .mk:=rfl
end Go.AM
namespace Go.AM

abbrev Src:=Nat×Path×Nat×Path
def takeTr (i t:Nat) (q:Path) (z n:Nat) (r:Path) (T:AV) (K:AV→List Src→Prop) (_:Lock K):Prop :=
 match T with
 | .tr z' es=>vc (z=z'∧n=es.length) (K (.tr z' es) [(i,r,t,q)]) .mk
 | _=>False
def takePt (i t:Nat) (q:Path) (r:Path) (T:AV) (K:AV→List Src→Prop) (_:Lock K):Prop :=
 match T with
 | .pt z x=>K (.pt z x) [(i,r,t,q)]
 | _=>False
def takeMt (i t:Nat) (q:Path) (r:Path) (T:AV) (K:AV→List Src→Prop) (_:Lock K):Prop :=
 match T with
 | .mt kd m=>K (.mt kd m) [(i,r,t,q)]
 | _=>False
def takeC (mem:Nat→Option AV) (i:Nat) (a:AV) (r:Path) (K:AV→List Src→Prop) (_:Lock K):Prop :=
 match a with
 | .ref t q z o n=>vc (o=0) (takeTr i t q z n r (nodeAt mem t q) K .mk) .mk
 | .loc t q i' j=>vc (i'=0∧j=0) (takePt i t q r (nodeAt mem t q) K .mk) .mk
 | .mref t q=>takeMt i t q r (nodeAt mem t q) K .mk
 | a=>vc (a.bears=false) (K a []) .mk
def takeCs (mem:Nat→Option AV) (i:Nat):Nat→List AV→(List AV→List Src→Prop)→Prop
 | _,[],K=>K [] []
 | j,x :: r,K=>takeC mem i x [(0,j)] (fun x' s=>takeCs mem i (j+1) r fun l s'=>K (x' :: l) (s++s')) .mk
def takeA (mem:Nat→Option AV) (i:Nat) (a:AV) (K:AV→List Src→Prop):Prop :=
 match a with
 | .agg fs=>takeCs mem i 0 fs fun l s=>K (.agg l) s
 | a=>takeC mem i a [] K .mk
def takeAll (mem:Nat→Option AV):Nat→List Bool→List AV→(List (Option AV)→List Src→Prop)→Prop
 | _,_,[],K=>K [] []
 | i,ms,a :: r,K=>match ms with
  | true :: ms=>takeA mem i a fun c s=>takeAll mem (i+1) ms r fun l s'=>K (some c :: l) (s++s')
  | _ :: ms=>takeAll mem (i+1) ms r fun l s=>K (none :: l) s
  | []=>takeAll mem (i+1) [] r fun l s=>K (none :: l) s
def rootsOf:List Src→List Nat
 | []=>[]
 | (_,_,t,_) :: s=>t :: rootsOf s
def hideM (roots:List Nat) (mem:Nat→Option AV):Nat→Option AV:=fun s=>match roots.contains s with | true=>none | false=>mem s
def argsOf (mem:Nat→Option AV):List (Option AV)→List AV→List AV
 | some c :: l,_ :: r=>c :: argsOf mem l r
 | none :: l,a :: r=>a.view mem :: argsOf mem l r
 | _,_=>[]
def lentOf:List (Option AV)→List AV→Bool
 | some _ :: l,_ :: r=>lentOf l r
 | none :: l,a :: r=>a.bears || lentOf l r
 | _,_=>false
def divB:Path→Path→Bool
 | a :: p,b :: q=>!decide (a.1=b.1∧a.2=b.2) || divB p q
 | _,_=>false
def apart1 (t:Nat) (q:Path):List (Nat×Path)→Bool
 | []=>true
 | (t',q') :: r=>(!decide (t=t') || divB q q') && apart1 t q r
def apartL:List (Nat×Path)→Bool
 | []=>true
 | (t,q) :: r=>apart1 t q r && apartL r
def placesOf:List Src→List (Nat×Path)
 | []=>[]
 | (_,_,t,q) :: s=>(t,q) :: placesOf s
def belowK (keep:Path→Bool) (s:Nat) (q:Path):Nat→Path→Option (Nat×Path):=fun s' p'=>if s'=s then (match isPref q p' with | true=>(match p'.length == q.length || keep (p'.drop q.length) with | true=>some (s',p') | false=>none) | false=>some (s',p')) else some (s',p')
def pinF (po:Option (Nat→Path→Bool)) (i:Nat) (r:Path) (t:Nat) (q:Path):Nat→Path→Option (Nat×Path) :=
 match po with
 | none=>belowF t q
 | some g=>belowK (fun u=>g i (r++u)) t q
theorem pinF_none (i:Nat) (r:Path) (t:Nat) (q:Path):pinF none i r t q=belowF t q:=rfl
theorem pinF_some (g:Nat→Path→Bool) (i:Nat) (r:Path) (t:Nat) (q:Path):pinF (some g) i r t q=belowK (fun u=>g i (r++u)) t q:=rfl
def giveC (g:Nat→Path→Option (Nat×Path)) (t:Nat) (q:Path) (X:AV) (st:St) (K:St→Prop) (_:Lock K):Prop :=
 match q with
 | []=>K ((st.mapF g).setMem t X)
 | ij :: q=>optP (st.mem t) (fun R=>valP (R.setP (ij :: q) X) (fun R'=>K ((st.mapF g).setMem t R')) .mk) .mk
def giveN (t:Nat) (q:Path) (st:St) (K:St→Prop) (_:Lock K):Prop :=
 match q with
 | []=>K (st.del t)
 | ij :: q=>optP (st.mem t) (fun R=>valP (R.setP (ij :: q) .any) (fun R'=>K (st.setMem t R')) .mk) .mk
def giveO (po:Option (Nat→Path→Bool)) (o:Option AV) (i:Nat) (r:Path) (t:Nat) (q:Path) (st:St) (K:St→Prop) (_:Lock K):Prop :=
 match o with
 | some T=>valP (T.at r) (fun X=>giveC (pinF po i r t q) t q X st K .mk) .mk
 | none=>giveN t q st K .mk
def giveS (po:Option (Nat→Path→Bool)) (outs:List (Option AV)):List Src→St→(St→Prop)→Prop
 | [],st,K=>K st
 | (i,r,t,q) :: s,st,K=>giveO po (outs.getD i none) i r t q st (fun st'=>giveS po outs s st' K) .mk
def pureO:List (Option AV)→Bool
 | []=>true
 | some T :: r=>T.pure && pureO r
 | none :: r=>pureO r
def resX (st:St) (d:Option Nat) (s:List Src) (lent:Bool) (po:Option (Nat→Path→Bool)) (outs:List (Option AV)) (r:AV) (K:St→Prop) (_:Lock K) (_:Lock st):Prop :=
 vc (lent=false∨(r.pure=true∧pureO outs=true)) (giveS po outs s st fun st'=>resP r.nodeB r (fun v=>valP v (fun v=>K (st'.put d v)) .mk) (fun T=>valP T (fun T=>K (st'.addB d T)) .mk) .mk .mk) .mk
theorem resX_go (st:St) (d:Option Nat) (s:List Src) (lent:Bool) (po:Option (Nat→Path→Bool)) (outs:List (Option AV)) (r:AV) (K:St→Prop) (l:Lock K) (m:Lock st):resX st d s lent po outs r K l m=vc (lent=false∨(r.pure=true∧pureO outs=true)) (giveS po outs s st fun st'=>resP r.nodeB r (fun v=>valP v (fun v=>K (st'.put d v)) .mk) (fun T=>valP T (fun T=>K (st'.addB d T)) .mk) .mk .mk) .mk:=rfl
def callX (P:Program) (st:St) (d:Option Nat) (f:FuncId) (s:List Src) (args:List AV) (lent:Bool) (K:St→Prop) (_:Lock K) (_:Lock st):Prop :=
 ∃ outs r po,SpecQ P f args outs r po∧resX st d s lent po outs r K .mk .mk
theorem callX_of {P:Program} {st:St} {d:Option Nat} {f:FuncId} {s:List Src} {args:List AV} {lent:Bool} {K:St→Prop} {l:Lock K} {m:Lock st} {outs:List (Option AV)} {r:AV} (h:SpecX P f args outs r) (k:resX st d s lent none outs r K .mk .mk):callX P st d f s args lent K l m:=⟨outs,r,none,h,k⟩
def callM (P:Program) (ms:List Bool) (st:St) (d:Option Nat) (f:FuncId) (args:List AV) (K:St→Prop) (_:Lock K):Prop :=
 match ms with
 | []=>callP P f (AV.views st.mem args) (AV.bearsL args) (fun v=>valP v (fun v=>K (st.put d v)) .mk) (fun T=>valP T (fun T=>K (st.addB d T)) .mk) .mk .mk
 | m :: ms=>takeAll st.mem 0 (m :: ms) args fun l s=>vc (apartL (placesOf s)=true) (callX P st d f s (argsOf (hideM (rootsOf s) st.mem) l args) (lentOf l args) K .mk .mk) .mk
theorem callM_nil (P:Program) (st:St) (d:Option Nat) (f:FuncId) (args:List AV) (K:St→Prop) (l:Lock K):callM P [] st d f args K l=callP P f (AV.views st.mem args) (AV.bearsL args) (fun v=>valP v (fun v=>K (st.put d v)) .mk) (fun T=>valP T (fun T=>K (st.addB d T)) .mk) .mk .mk:=rfl
theorem callM_cons (P:Program) (b:Bool) (ms:List Bool) (st:St) (d:Option Nat) (f:FuncId) (args:List AV) (K:St→Prop) (l:Lock K):callM P (b :: ms) st d f args K l=takeAll st.mem 0 (b :: ms) args fun l s=>vc (apartL (placesOf s)=true) (callX P st d f s (argsOf (hideM (rootsOf s) st.mem) l args) (lentOf l args) K .mk .mk) .mk:=rfl
def callA (P:Program) (M:FuncId→List Bool) (st:St) (d:Option Nat) (x:AV) (args:List AV) (K:St→Prop) (_:Lock K):Prop :=
 match x with
 | .fn f caps=>callM P (M f) st d f (args++caps) K .mk
 | _=>False
theorem callA_fn (P:Program) (M:FuncId→List Bool) (st:St) (d:Option Nat) (f:FuncId) (caps args:List AV) (K:St→Prop) (l:Lock K):callA P M st d (.fn f caps) args K l=callM P (M f) st d f (args++caps) K .mk:=rfl

noncomputable def updM (m:Value→Option Value) (k x:Value):Value→Option Value:=fun k'=>open Classical in if k'=k then some x else m k'
def mapN (P:Program) (st:St) (s:Nat) (p:Path) (t:TypeId) (T k x:AV) (K:St→Prop) (_:Lock K):Prop :=
 match T,k,x with
 | .mt kd m,.v k,.v x=>optP (mapT P t) (fun ke=>vc (ke.1=kd∧keyB kd k=true∧x.oneCell'=true) (optP (st.mem s) (fun R=>valP (R.modP p fun _=>.mt kd (updM m k x)) (fun R'=>K (st.setMem s R')) .mk) .mk) .mk) .mk
 | _,_,_=>False
theorem mapN_mt (P:Program) (st:St) (s:Nat) (p:Path) (t:TypeId) (kd:Bool) (m:Value→Option Value) (k x:Value) (K:St→Prop) (l:Lock K):mapN P st s p t (.mt kd m) (.v k) (.v x) K l=optP (mapT P t) (fun ke=>vc (ke.1=kd∧keyB kd k=true∧x.oneCell'=true) (optP (st.mem s) (fun R=>valP (R.modP p fun _=>.mt kd (updM m k x)) (fun R'=>K (st.setMem s R')) .mk) .mk) .mk) .mk:=rfl
def mapP (P:Program) (st:St) (t:TypeId) (m k x:AV) (K:St→Prop) (_:Lock K):Prop :=
 match m with
 | .mref s p=>mapN P st s p t (nodeAt st.mem s p) k x K .mk
 | _=>False
theorem mapP_mref (P:Program) (st:St) (t s:Nat) (p:Path) (k x:AV) (K:St→Prop) (l:Lock K):mapP P st t (.mref s p) k x K l=mapN P st s p t (nodeAt st.mem s p) k x K .mk:=rfl

def boxP (st:St) (d:Option Nat) (x:AV) (K:St→Prop) (_:Lock K):Prop :=
 vc (knownCells x=true) (valP (st.kill (d.getD 0)) (fun st1=>grabE (d.getD 0) [] 0 0 x st1 fun x' st'=>K ((st'.setMem (d.getD 0) (.pt x.cells.length x')).put d (.loc (d.getD 0) [] 0 0))) .mk) .mk
def boxA (b:Bool) (st:St) (d:Option Nat) (x:AV) (K:St→Prop) (_:Lock K):Prop :=
 match b with
 | false=>vc (knownCells x=true) (valP x (fun x=>K (st.addB d (.pt x.cells.length x))) .mk) .mk
 | true=>boxP st d x K .mk
def boxKey:FuncId:=4294967295
def boxF (st:St) (d:Option Nat) (x:AV) (K:St→Prop) (_:Lock K):Prop:=vc (knownCells x=true) (valP (AV.bx x.cells) (fun v=>K (st.put d v)) .mk) .mk
theorem boxF_go (st:St) (d:Option Nat) (x:AV) (K:St→Prop) (l:Lock K):boxF st d x K l=vc (knownCells x=true) (valP (AV.bx x.cells) (fun v=>K (st.put d v)) .mk) .mk:=rfl
def boxM (f:List Bool) (b:Bool) (st:St) (d:Option Nat) (x:AV) (K:St→Prop) (_:Lock K):Prop :=
 match f with
 | []=>boxA b st d x K .mk
 | _ :: _=>(match b with | true=>boxF st d x K .mk | false=>boxA false st d x K .mk)
theorem boxM_nil (b:Bool) (st:St) (d:Option Nat) (x:AV) (K:St→Prop) (l:Lock K):boxM [] b st d x K l=boxA b st d x K .mk:=rfl
theorem boxM_t (g:Bool) (f:List Bool) (st:St) (d:Option Nat) (x:AV) (K:St→Prop) (l:Lock K):boxM (g :: f) true st d x K l=boxF st d x K .mk:=rfl
theorem boxM_f (g:Bool) (f:List Bool) (st:St) (d:Option Nat) (x:AV) (K:St→Prop) (l:Lock K):boxM (g :: f) false st d x K l=boxA false st d x K .mk:=rfl
theorem boxA_f (st:St) (d:Option Nat) (x:AV) (K:St→Prop) (l:Lock K):boxA false st d x K l=vc (knownCells x=true) (valP x (fun x=>K (st.addB d (.pt x.cells.length x))) .mk) .mk:=rfl
theorem boxA_t (st:St) (d:Option Nat) (x:AV) (K:St→Prop) (l:Lock K):boxA true st d x K l=boxP st d x K .mk:=rfl

def buildL (P:Program) (st:St) (d:Option Nat) (t n:Nat) (is:List Nat) (vs:List AV) (K:St→Prop) (_:Lock K):Prop :=
 optP (elemT P t) (fun e=>vc (is=List.range n∧n*sizeT P e≤65536∧n≤65536∧(vs.all fun v=>decide (v.cells.length=sizeT P e) && knownCells v)=true∧(zeroT P e).map List.length=some (sizeT P e))
  (appE (st.kill (d.getD 0)) (d.getD 0) (sizeT P e) [] vs (fun v st'=>valP v (fun v=>K (st'.put d v)) .mk)) .mk) .mk
theorem buildL_go (P:Program) (st:St) (d:Option Nat) (t n:Nat) (is:List Nat) (vs:List AV) (K:St→Prop) (l:Lock K):buildL P st d t n is vs K l=optP (elemT P t) (fun e=>vc (is=List.range n∧n*sizeT P e≤65536∧n≤65536∧(vs.all fun v=>decide (v.cells.length=sizeT P e) && knownCells v)=true∧(zeroT P e).map List.length=some (sizeT P e))
  (appE (st.kill (d.getD 0)) (d.getD 0) (sizeT P e) [] vs (fun v st'=>valP v (fun v=>K (st'.put d v)) .mk)) .mk) .mk:=rfl
def buildM (f:List Bool) (b:Bool) (A B:Prop) (_:Lock A) (_:Lock B):Prop :=
 match f with
 | []=>A
 | _ :: _=>(match b with | true=>B | false=>A)
theorem buildM_nil (b:Bool) (A B:Prop) (l:Lock A) (m:Lock B):buildM [] b A B l m=A:=rfl
theorem buildM_t (g:Bool) (f:List Bool) (A B:Prop) (l:Lock A) (m:Lock B):buildM (g :: f) true A B l m=B:=rfl
theorem buildM_f (g:Bool) (f:List Bool) (A B:Prop) (l:Lock A) (m:Lock B):buildM (g :: f) false A B l m=A:=rfl

def copyN (st:St) (s:Nat) (p:Path) (o n:Nat) (T:AV) (ys:List AV) (K:Nat→St→Prop) (_:Lock K):Prop :=
 match T.at p with
 | .tr w es=>vc (w=1∧o+n≤es.length∧AV.bearsL es=false∧AV.bearsL ys=false) (valP (es.take o++ys.take n++es.drop (o+min n ys.length)) (fun l=>K (min n ys.length) (st.setMem s (T.modP p fun _=>.tr 1 l))) .mk) .mk
 | _=>False
def copyP (st:St) (x:AV) (ys:List AV) (K:Nat→St→Prop) (_:Lock K):Prop :=
 match x with
 | .ref s p z o n=>vc (z=1) (optP (st.mem s) (fun T=>copyN st s p o n T ys K .mk) .mk) .mk
 | _=>False
theorem copyP_ref (st:St) (s:Nat) (p:Path) (z o n:Nat) (ys:List AV) (K:Nat→St→Prop) (l:Lock K):copyP st (.ref s p z o n) ys K l=vc (z=1) (optP (st.mem s) (fun T=>copyN st s p o n T ys K .mk) .mk) .mk:=rfl

def aop (P:Program) (M:FuncId→List Bool) (st:St) (d:Option Nat) (o:Op) (K:St→Prop):Prop :=
 match o with
 | .store t a x=>storeB (selfA (st.ev a) (st.ev x)) st (szT P t) a x (fun s o=>s.ev o) (fun st'=>K (st'.put d .un)) .mk
 | .box _ x=>boxM (M 4294967295) (st.ev x).bears st d (st.ev x) K .mk
 | .buildSlice t n ps=>buildM (M 4294967294) (AV.bearsL (ps.toList.map fun p=>st.ev p.2)) (fop P st.ev st.mem o (fun v=>valP v (fun v=>K (st.put d v)) .mk) (fun T=>valP T (fun T=>K (st.addB d T)) .mk) .mk .mk) (buildL P st d t n (ps.toList.map (·.1)) (ps.toList.map fun p=>st.ev p.2) K .mk) .mk .mk
 | .mapUpdate t m k x=>mapP P st t (st.ev m) (st.ev k) (st.ev x) (fun st'=>K (st'.put d .un)) .mk
 | .insert t m k x=>mapP P st t (st.ev m) (st.ev k) (st.ev x) (fun st'=>K (st'.put d .un)) .mk
 | .call c=>match c.callee with
  | .builtin .append=>match c.args.toList,c.argTypes.toList with
   | [x,y],[t,t']=>vc (t'=t) (optP (elemT P t) (fun e=>vc ((zeroT P e).map List.length=some (sizeT P e)) (srcP st.mem (sizeT P e) (st.ev y) (fun ys=>appP st (d.getD 0) (sizeT P e) (bytesT P e) (st.ev x) ys (fun v st'=>valP v (fun v=>K (st'.put d v)) .mk) .mk) .mk) .mk) .mk) .mk
   | _,_=>False
  | .builtin .copy=>match c.args.toList,c.argTypes.toList with
   | [x,y],[t,_]=>optP (elemT P t) (fun e=>vc (sizeT P e=1) (srcP st.mem 1 (st.ev y) (fun ys=>copyP st (st.ev x) ys (fun k st'=>K (st'.put d (.i64 k))) .mk) .mk) .mk) .mk
   | _,_=>False
  | .value x=>callA P M st d (st.ev x) (c.args.toList.map st.ev) K .mk
  | _=>fop P st.ev st.mem o (fun v=>valP v (fun v=>K (st.put d v)) .mk) (fun T=>valP T (fun T=>K (st.addB d T)) .mk) .mk .mk
 | _=>fop P st.ev st.mem o (fun v=>valP v (fun v=>K (st.put d v)) .mk) (fun T=>valP T (fun T=>K (st.addB d T)) .mk) .mk .mk

def guardQ (c:AV) (b:Bool) (A B:Prop) (_:Lock A) (_:Lock B):Prop :=
 match c with
 | .v (.bool c)=>match b with
  | true=>ifP c A B .mk .mk
  | false=>ifP c B A .mk .mk
 | .v (.tuple _)=>B
 | _=>False
section
variable (A B:Prop) (l:Lock A) (m:Lock B)
theorem guardQ_t (c:Bool):guardQ (.v (.bool c)) true A B l m=ifP c A B .mk .mk:=rfl
theorem guardQ_f (c:Bool):guardQ (.v (.bool c)) false A B l m=ifP c B A .mk .mk:=rfl
theorem guardQ_un (b:Bool):guardQ AV.un b A B l m=B:=rfl
end
def dstOf (ops:List Oper) (j:Nat):Option Nat:=match ops with | []=>none | o :: r=>match j with | 0=>o.dst | j+1=>dstOf r j
def St.frO (st:St):Option Nat→AV
 | some t=>st.fr t
 | none=>.un
def guardP (ops:List Oper) (st:St) (g:Option (Nat×Bool)) (A B:Prop):Prop :=
 match g with
 | none=>A
 | some (j,b)=>guardQ (st.frO (dstOf ops j)) b A B .mk .mk


def seqOps (P:Program) (M:FuncId→List Bool) (ops:List Oper):List Oper→St→(St→Prop)→Prop
 | [],st,K=>K st
 | o :: r,st,K=>guardP ops st o.guard (aop P M st o.dst o.op fun st'=>seqOps P M ops r st' K) (seqOps P M ops r (st.put o.dst .un) K)
section
variable (P:Program) (M:FuncId→List Bool) (ops r:List Oper) (st:St) (K:St→Prop) (d:Option Nat) (o:Op) (t:TypeId) (p:String) (a:Array Edge)
theorem seqOps_nil:seqOps P M ops [] st K=K st:=rfl
theorem seqOps_none:seqOps P M ops (⟨d,o,t,p,a,none⟩ :: r) st K=aop P M st d o fun st'=>seqOps P M ops r st' K:=rfl
theorem seqOps_some (j:Nat) (b:Bool):seqOps P M ops (⟨d,o,t,p,a,some (j,b)⟩ :: r) st K=guardQ (st.frO (dstOf ops j)) b (aop P M st d o fun st'=>seqOps P M ops r st' K) (seqOps P M ops r (st.put d .un) K) .mk .mk:=rfl
end
theorem dstOf_zero (o:Oper) (r:List Oper):dstOf (o :: r) 0=o.dst:=rfl
theorem dstOf_succ (o:Oper) (r:List Oper) (j:Nat):dstOf (o :: r) (j+1)=dstOf r j:=rfl

def makesB (o:Op):Bool:=match o with
 | .alloc _ | .box _ _ | .buildSlice _ _ _ | .makeSlice _ _ _ | .makeMap _ _=>true
 | .call c=>(match c.callee with | .value _=>true | _=>false)
 | _=>false
def killNew:List Oper→St→St
 | [],st=>st
 | o :: r,st=>match makesB o.op,o.dst with | true,some d=>killNew r (st.kill d) | _,_=>killNew r st
def St.addN (st:St) (d:Option Nat) (T:AV):St :=
 match d with
 | some d=>(st.setMem d T).put (some d) (T.atoms d [])
 | none=>st
theorem St.addN_some (st:St) (d:Nat) (T:AV):st.addN (some d) T=(st.setMem d T).put (some d) (T.atoms d []):=rfl
theorem St.addN_none (st:St) (T:AV):st.addN none T=st:=rfl
def flowOps (P:Program) (ops:List Oper) (mem0:Nat→Option AV):List Oper→St→(St→Prop)→Prop
 | [],st,K=>K st
 | o :: r,st,K=>guardP ops st o.guard (fop P st.ev mem0 o.op (fun v=>valP v (fun v=>flowOps P ops mem0 r (st.put o.dst v) K) .mk) (fun T=>valP T (fun T=>flowOps P ops mem0 r (st.addN o.dst T) K) .mk) .mk .mk) (flowOps P ops mem0 r (st.put o.dst .un) K)
section
variable (P:Program) (ops r:List Oper) (mem0:Nat→Option AV) (st:St) (K:St→Prop) (d:Option Nat) (o:Op) (t:TypeId) (p:String) (a:Array Edge)
theorem flowOps_nil:flowOps P ops mem0 [] st K=K st:=rfl
theorem flowOps_none:flowOps P ops mem0 (⟨d,o,t,p,a,none⟩ :: r) st K=fop P st.ev mem0 o (fun v=>valP v (fun v=>flowOps P ops mem0 r (st.put d v) K) .mk) (fun T=>valP T (fun T=>flowOps P ops mem0 r (st.addN d T) K) .mk) .mk .mk:=rfl
theorem flowOps_some (j:Nat) (b:Bool):flowOps P ops mem0 (⟨d,o,t,p,a,some (j,b)⟩ :: r) st K=guardQ (st.frO (dstOf ops j)) b (fop P st.ev mem0 o (fun v=>valP v (fun v=>flowOps P ops mem0 r (st.put d v) K) .mk) (fun T=>valP T (fun T=>flowOps P ops mem0 r (st.addN d T) K) .mk) .mk .mk) (flowOps P ops mem0 r (st.put d .un) K) .mk .mk:=rfl
end

def isTail (o:Op):Bool :=
 match o with
 | .store _ _ _=>true
 | .assign _=>true
 | .mapUpdate _ _ _ _=>true
 | .insert _ _ _ _=>true
 | .call c=>match c.callee with | .builtin .append=>true | _=>false
 | _=>false
def headOps:List Oper→List Oper
 | []=>[]
 | o :: r=>match isTail o.op with | true=>[] | false=>o :: headOps r
def tailOps:List Oper→List Oper
 | []=>[]
 | o :: r=>match isTail o.op with | true=>o :: r | false=>tailOps r

def bindOn (o:Oper):List Nat:=(o.after.toList.filter fun e=>Region.binds .any e).map (·.on)
def ancT:List Oper→List (List Nat)→List (List Nat)
 | [],acc=>acc
 | o :: r,acc=>ancT r (acc++[(bindOn o++(bindOn o).flatMap fun j=>acc.getD j []).eraseDups])
def looks (ops:List Oper) (o:Oper):List Nat :=
 (o.op.operands.toList.filterMap fun | .tmp t=>some t | _=>none)++(match o.guard with | some (j,_)=>(dstOf ops j).toList | none=>[])
def distinctB:List Oper→Bool
 | []=>true
 | o :: r=>(match o.dst with | some d=>(r.all fun o'=>match o'.dst with | some d'=>d' != d | none=>false) | none=>false) && distinctB r
def depsB (ops hd:List Oper) (tbl:List (List Nat)):Bool :=
 hd.zipIdx.all fun p=>(bindOn p.1).all (fun j=>decide (j<p.2)) && (looks ops p.1).all fun u=>hd.zipIdx.all fun q=>!(q.1.dst == some u) || (decide (q.2<p.2) && (tbl.getD p.2 []).contains q.2)
def firstN (size n:Nat):Array Bool:=(Array.range size).map fun j=>decide (j<n)
def drawOkG (ops hs tl:List Oper):Bool :=
 distinctB hs && depsB ops hs (ancT hs []) &&
 (match tl with | []=>true | _=>Region.sinkB .any ops.toArray hs.length && Region.chainB .any ops.toArray hs.length) &&
 Region.seqB .any ops.toArray tl.length hs.length (firstN ops.length hs.length)
def drawOk (ops:List Oper):Bool:=drawOkG ops (headOps ops) (tailOps ops)

def drawOps (P:Program) (M:FuncId→List Bool) (ops hd tl:List Oper) (st:St) (K:St→Prop):Prop :=
 flowOps P ops (killNew hd st).mem hd (killNew hd st) fun st'=>seqOps P M ops tl st' K
def drawP (P:Program) (M:FuncId→List Bool) (ops hd tl:List Oper) (st:St) (K:St→Prop) (_:Lock ops) (_:Lock K):Prop:=drawOps P M ops hd tl st K

def PvX (P:Program) (f:FuncId) (args:List AV) (K:AV→AV→Prop) (_:Lock K):Prop:=∃ X r,SpecX P f args [some X] r∧vc (r.nodeB=false) (K X r) .mk
theorem pvX_of {P:Program} {f:FuncId} {args:List AV} {K:AV→AV→Prop} {l:Lock K} {X r:AV} (h:SpecX P f args [some X] r) (k:vc (r.nodeB=false) (K X r) .mk):PvX P f args K l:=⟨X,r,h,k⟩
def pvC (P:Program) (t:Nat) (T0:AV) (f:FuncId) (args:List AV) (K:AV→AV→Prop) (_:Lock K):Prop :=
 match T0,args with
 | .pt z x,.loc t' q i j :: rest=>vc (t'=t∧q=[]∧i=0∧j=0∧AV.bearsL rest=false) (PvX P f (.pt z x :: rest) K .mk) .mk
 | _,_=>False
theorem pvC_loc (P:Program) (t:Nat) (z:Nat) (x:AV) (f:FuncId) (t':Nat) (q:Path) (i j:Nat) (rest:List AV) (K:AV→AV→Prop) (l:Lock K):pvC P t (.pt z x) f (.loc t' q i j :: rest) K l=vc (t'=t∧q=[]∧i=0∧j=0∧AV.bearsL rest=false) (PvX P f (.pt z x :: rest) K .mk) .mk:=rfl
def pvF (P:Program) (t:Nat) (T0:AV) (x:AV) (args:List AV) (K:AV→AV→Prop) (_:Lock K):Prop :=
 match x with
 | .fn f caps=>pvC P t T0 f (args++caps) K .mk
 | _=>False
theorem pvF_fn (P:Program) (t:Nat) (T0:AV) (f:FuncId) (caps args:List AV) (K:AV→AV→Prop) (l:Lock K):pvF P t T0 (.fn f caps) args K l=pvC P t T0 f (args++caps) K .mk:=rfl
def pvP (P:Program) (t:Nat) (T0:AV) (ev:Operand→AV) (o:Op) (K:AV→AV→Prop) (_:Lock K):Prop :=
 match o with
 | .call c=>match c.callee with
  | .value x=>pvF P t T0 (ev x) (c.args.toList.map ev) K .mk
  | _=>False
 | _=>False
theorem pvP_call (P:Program) (t:Nat) (T0:AV) (ev:Operand→AV) (x:Operand) (args:Array Operand) (ats:Array TypeId) (K:AV→AV→Prop) (l:Lock K):pvP P t T0 ev (.call ⟨.value x,args,ats⟩) K l=pvF P t T0 (ev x) (args.toList.map ev) K .mk:=rfl
def flowC (P:Program) (ops:List Oper) (t:Nat) (mem0:Nat→Option AV):List Oper→St→(St→Prop)→Prop
 | [],st,K=>K st
 | o :: r,st,K=>guardP ops st o.guard (fop P st.ev mem0 o.op (fun v=>valP v (fun v=>vc (v.mapH (belowF t [])=v) (flowC P ops t mem0 r (st.put o.dst v) K) .mk) .mk) (fun T=>valP T (fun T=>vc ((T.atoms (o.dst.getD 0) []).mapH (belowF t [])=T.atoms (o.dst.getD 0) []) (flowC P ops t mem0 r (st.addN o.dst T) K) .mk) .mk) .mk .mk) (flowC P ops t mem0 r (st.put o.dst .un) K)
section
variable (P:Program) (ops r:List Oper) (t0:Nat) (mem0:Nat→Option AV) (st:St) (K:St→Prop) (d:Option Nat) (o:Op) (t:TypeId) (p:String) (a:Array Edge)
theorem flowC_nil:flowC P ops t0 mem0 [] st K=K st:=rfl
theorem flowC_none:flowC P ops t0 mem0 (⟨d,o,t,p,a,none⟩ :: r) st K=fop P st.ev mem0 o (fun v=>valP v (fun v=>vc (v.mapH (belowF t0 [])=v) (flowC P ops t0 mem0 r (st.put d v) K) .mk) .mk) (fun T=>valP T (fun T=>vc ((T.atoms (d.getD 0) []).mapH (belowF t0 [])=T.atoms (d.getD 0) []) (flowC P ops t0 mem0 r (st.addN d T) K) .mk) .mk) .mk .mk:=rfl
theorem flowC_some (j:Nat) (b:Bool):flowC P ops t0 mem0 (⟨d,o,t,p,a,some (j,b)⟩ :: r) st K=guardQ (st.frO (dstOf ops j)) b (fop P st.ev mem0 o (fun v=>valP v (fun v=>vc (v.mapH (belowF t0 [])=v) (flowC P ops t0 mem0 r (st.put d v) K) .mk) .mk) (fun T=>valP T (fun T=>vc ((T.atoms (d.getD 0) []).mapH (belowF t0 [])=T.atoms (d.getD 0) []) (flowC P ops t0 mem0 r (st.addN d T) K) .mk) .mk) .mk .mk) (flowC P ops t0 mem0 r (st.put d .un) K) .mk .mk:=rfl
end
def hide1 (t:Nat) (mem:Nat→Option AV):Nat→Option AV:=fun s=>if s=t then none else mem s
def pivQ (P:Program) (M:FuncId→List Bool) (ops h1:List Oper) (p:Oper) (h2 tl:List Oper) (t:Nat) (mem0:Nat→Option AV) (T0:AV) (st:St) (K:St→Prop) (_:Lock ops) (_:Lock K):Prop :=
 flowC P ops t mem0 h1 st fun s1=>pvP P t T0 s1.ev p.op (fun X v=>valP v (fun v=>vc (v.mapH (belowF t [])=v) (flowC P ops t mem0 h2 ((s1.setMem t X).put p.dst v) fun s2=>seqOps P M ops tl s2 K) .mk) .mk) .mk
theorem pivQ_go (P:Program) (M:FuncId→List Bool) (ops h1:List Oper) (d:Option Nat) (o:Op) (ty:TypeId) (pos:String) (a:Array Edge) (g:Option (Nat×Bool)) (h2 tl:List Oper) (t:Nat) (mem0:Nat→Option AV) (T0:AV) (st:St) (K:St→Prop) (l:Lock ops) (m:Lock K):pivQ P M ops h1 ⟨d,o,ty,pos,a,g⟩ h2 tl t mem0 T0 st K l m =
 flowC P ops t mem0 h1 st fun s1=>pvP P t T0 s1.ev o (fun X v=>valP v (fun v=>vc (v.mapH (belowF t [])=v) (flowC P ops t mem0 h2 ((s1.setMem t X).put d v) fun s2=>seqOps P M ops tl s2 K) .mk) .mk) .mk:=rfl
def pivP (P:Program) (M:FuncId→List Bool) (ops hd tl:List Oper) (m t:Nat) (st:St) (K:St→Prop) (_:Lock ops) (_:Lock K):Prop :=
 optP (hd[m]?) (fun p=>valP ((killNew hd st).mapF (belowF t [])) (fun st1=>optP (st1.mem t) (fun T0=>pivQ P M ops (hd.take m) p (hd.drop (m+1)) tl t (hide1 t st1.mem) T0 st1 K .mk .mk) .mk) .mk) .mk
def pivOk (ops:List Oper) (n m:Nat):Bool:=drawOkG ops (ops.take n) (ops.drop n) && (match (ops.take n)[m]? with | some o=>o.guard.isNone | none=>false)

def readyL (ops:List Oper) (listed:List Nat):List Nat :=
 (List.range ops.length).filter fun i=>!listed.contains i && (match ops[i]? with | some o=>o.after.toList.all fun e=>!Region.binds .any e || listed.contains e.on | none=>false)
inductive OT where
 | done
 | bad
 | stop
 | alt (i:Nat) (sub rest:OT)
 deriving DecidableEq
def OT.alts (f:Nat→OT):List Nat→OT
 | []=>.stop
 | i :: r=>.alt i (f i) (OT.alts f r)
def treeOf (ops:List Oper):Nat→List Nat→OT
 | 0,l=>if (readyL ops l).isEmpty then .done else .bad
 | n+1,l=>if (readyL ops l).isEmpty then .done else OT.alts (fun i=>treeOf ops n (i :: l)) (readyL ops l)
def operAt (ops:List Oper) (i:Nat):Option Oper:=match ops with | []=>none | o :: r=>match i with | 0=>some o | i+1=>operAt r i
def seqAt (P:Program) (M:FuncId→List Bool) (ops:List Oper) (o:Option Oper) (st:St) (K:St→Prop):Prop :=
 match o with
 | some o=>guardP ops st o.guard (aop P M st o.dst o.op K) (K (st.put o.dst .un))
 | none=>False
def evalT (P:Program) (M:FuncId→List Bool) (ops:List Oper):OT→St→(St→Prop)→Prop
 | .done,st,K=>K st
 | .bad,_,_=>False
 | .stop,_,_=>True
 | .alt i sub rest,st,K=>seqAt P M ops (operAt ops i) st (fun st'=>evalT P M ops sub st' K)∧evalT P M ops rest st K
section
variable (P:Program) (M:FuncId→List Bool)
theorem evalT_done (ops:List Oper) (st:St) (K:St→Prop):evalT P M ops .done st K=K st:=rfl
theorem evalT_stop (ops:List Oper) (st:St) (K:St→Prop):evalT P M ops .stop st K=True:=rfl
theorem evalT_alt (ops:List Oper) (i:Nat) (sub rest:OT) (st:St) (K:St→Prop):evalT P M ops (.alt i sub rest) st K=(seqAt P M ops (operAt ops i) st (fun st'=>evalT P M ops sub st' K)∧evalT P M ops rest st K):=rfl
theorem seqAt_none (ops:List Oper) (d:Option Nat) (o:Op) (t:TypeId) (p:String) (a:Array Edge) (st:St) (K:St→Prop):seqAt P M ops (some ⟨d,o,t,p,a,none⟩) st K=aop P M st d o K:=rfl
theorem seqAt_some (ops:List Oper) (d:Option Nat) (o:Op) (t:TypeId) (p:String) (a:Array Edge) (j:Nat) (b:Bool) (st:St) (K:St→Prop):seqAt P M ops (some ⟨d,o,t,p,a,some (j,b)⟩) st K=guardQ (st.frO (dstOf ops j)) b (aop P M st d o K) (K (st.put d .un)) .mk .mk:=rfl
theorem operAt_zero (o:Oper) (r:List Oper):operAt (o :: r) 0=some o:=rfl
theorem operAt_succ (o:Oper) (r:List Oper) (i:Nat):operAt (o :: r) (i+1)=operAt r i:=rfl
end
def memA (l:List Nat) (mem mem0:Nat→Option AV):Nat→Option AV:=fun s=>match l.contains s with | true=>mem s | false=>mem0 s
theorem memA_nil (mem mem0:Nat→Option AV):memA [] mem mem0=mem0:=rfl
theorem memA_cons (a:Nat) (l:List Nat) (mem mem0:Nat→Option AV) (s:Nat):memA (a :: l) mem mem0 s=if s=a then mem s else memA l mem mem0 s:=by
 unfold memA
 by_cases h:s=a
 ·subst h;simp
 ·have:(a :: l).contains s=l.contains s:=by simp [h]
  rw [this,if_neg h]
def flowM (P:Program) (ops:List Oper) (mem0:Nat→Option AV):List Oper→List (List Nat)→St→(St→Prop)→Prop
 | [],_,st,K=>K st
 | o :: r,ls,st,K=>guardP ops st o.guard (fop P st.ev (memA (ls.headD []) st.mem mem0) o.op (fun v=>valP v (fun v=>flowM P ops mem0 r ls.tail (st.put o.dst v) K) .mk) (fun T=>valP T (fun T=>flowM P ops mem0 r ls.tail (st.addN o.dst T) K) .mk) .mk .mk) (flowM P ops mem0 r ls.tail (st.put o.dst .un) K)
section
variable (P:Program) (ops r:List Oper) (l:List Nat) (ls:List (List Nat)) (mem0:Nat→Option AV) (st:St) (K:St→Prop) (d:Option Nat) (o:Op) (t:TypeId) (p:String) (a:Array Edge)
theorem flowM_nil:flowM P ops mem0 [] ls st K=K st:=rfl
theorem flowM_none:flowM P ops mem0 (⟨d,o,t,p,a,none⟩ :: r) (l :: ls) st K=fop P st.ev (memA l st.mem mem0) o (fun v=>valP v (fun v=>flowM P ops mem0 r ls (st.put d v) K) .mk) (fun T=>valP T (fun T=>flowM P ops mem0 r ls (st.addN d T) K) .mk) .mk .mk:=rfl
theorem flowM_some (j:Nat) (b:Bool):flowM P ops mem0 (⟨d,o,t,p,a,some (j,b)⟩ :: r) (l :: ls) st K=guardQ (st.frO (dstOf ops j)) b (fop P st.ev (memA l st.mem mem0) o (fun v=>valP v (fun v=>flowM P ops mem0 r ls (st.put d v) K) .mk) (fun T=>valP T (fun T=>flowM P ops mem0 r ls (st.addN d T) K) .mk) .mk .mk) (flowM P ops mem0 r ls (st.put d .un) K) .mk .mk:=rfl
end
def madeOk (hd:List Oper) (ls:List (List Nat)):Bool :=
 (List.range hd.length).all fun i=>(ls.getD i []).all fun s=>hd.zipIdx.any fun q=>q.1.dst == some s && decide (q.2<i) && ((ancT hd []).getD i []).contains q.2
def madeP (P:Program) (M:FuncId→List Bool) (ops hd tl:List Oper) (ls:List (List Nat)) (st:St) (K:St→Prop) (_:Lock ops) (_:Lock K):Prop :=
 valP (killNew hd st) (fun st1=>flowM P ops st1.mem hd ls st1 fun st2=>seqOps P M ops tl st2 K) .mk
section
variable (P:Program) (M:FuncId→List Bool)
def AnyP (ops:List Oper) (st:St) (K:St→Prop) (_:Lock ops) (_:Lock K):Prop:=(∃ R:St→Prop,evalT P M ops (treeOf ops ops.length []) st R∧∀ st',R st'→K st')∨(∃ n,drawOkG ops (ops.take n) (ops.drop n)=true∧drawOps P M ops (ops.take n) (ops.drop n) st K)∨(∃ n m t,pivOk ops n m=true∧pivP P M ops (ops.take n) (ops.drop n) m t st K .mk .mk) ∨
 ∃ n ls,(drawOkG ops (ops.take n) (ops.drop n) && madeOk (ops.take n) ls)=true∧madeP P M ops (ops.take n) (ops.drop n) ls st K .mk .mk
end
theorem any_go {P:Program} {M:FuncId→List Bool} {ops:List Oper} {st:St} {K:St→Prop} {l:Lock ops} {m:Lock K} (T:OT) (R:St→Prop) (h:treeOf ops ops.length []=T) (k:evalT P M ops T st R) (n:∀ st',R st'→K st'):AnyP P M ops st K l m:=by
 refine .inl ⟨R,?_,n⟩;rw [h];exact k
theorem split_go {P:Program} {M:FuncId→List Bool} {ops:List Oper} {st:St} {K:St→Prop} {l:Lock ops} {m:Lock K} (n:Nat) (h:drawOkG ops (ops.take n) (ops.drop n)=true) (k:drawP P M ops (ops.take n) (ops.drop n) st K .mk .mk):AnyP P M ops st K l m:=.inr (.inl ⟨n,h,k⟩)
theorem piv_go {P:Program} {M:FuncId→List Bool} {ops:List Oper} {st:St} {K:St→Prop} {l:Lock ops} {m:Lock K} (n m' t:Nat) (h:pivOk ops n m'=true) (k:pivP P M ops (ops.take n) (ops.drop n) m' t st K .mk .mk):AnyP P M ops st K l m:=.inr (.inr (.inl ⟨n,m',t,h,k⟩))
def notTmp (d:Nat):Operand→Bool
 | .tmp e=>!(e == d)
 | _=>true
def bxEnd (P:Program) (st:St) (l:List Oper) (K:St→Prop):Prop :=
 match l with
 | [⟨some d,.alloc T,_,_,_,none⟩,⟨none,.store T2 (.tmp d') x,_,_,_,none⟩] =>
  vc (T2=T∧d'=d∧notTmp d x=true∧knownCells (st.ev x)=true∧szT P T=some (st.ev x).cells.length∧(zeroT P T).map List.length=some (sizeT P T))
   (valP (AV.bx (st.ev x).cells) (fun v=>K (st.put (some d) v)) .mk) .mk
 | _=>False
section
variable (P:Program) (st:St) (K:St→Prop)
theorem notTmp_tmp (d e:Nat):notTmp d (.tmp e) = !(e == d):=rfl
theorem bxEnd_go (d d':Nat) (T T2 t t':TypeId) (x:Operand) (p p':String) (a a':Array Edge):bxEnd P st [⟨some d,.alloc T,t,p,a,none⟩,⟨none,.store T2 (.tmp d') x,t',p',a',none⟩] K =
  vc (T2=T∧d'=d∧notTmp d x=true∧knownCells (st.ev x)=true∧szT P T=some (st.ev x).cells.length∧(zeroT P T).map List.length=some (sizeT P T))
   (valP (AV.bx (st.ev x).cells) (fun v=>K (st.put (some d) v)) .mk) .mk:=rfl
end
def seqXP (P:Program) (M:FuncId→List Bool) (ops hd tl:List Oper) (st:St) (K:St→Prop) (_:Lock ops) (_:Lock K):Prop:=seqOps P M ops hd st fun st1=>bxEnd P st1 tl K
theorem seqXP_go (P:Program) (M:FuncId→List Bool) (ops hd tl:List Oper) (st:St) (K:St→Prop) (l:Lock ops) (m:Lock K):seqXP P M ops hd tl st K l m=seqOps P M ops hd st fun st1=>bxEnd P st1 tl K:=rfl
def SeqX (P:Program) (M:FuncId→List Bool) (ops:List Oper) (st:St) (K:St→Prop) (_:Lock ops) (_:Lock K):Prop:=∃ n,seqXP P M ops (ops.take n) (ops.drop n) st K .mk .mk
def mark (X:List Nat):Code→Code
 | .seq a b=>.seq (mark X a) (mark X b)
 | .cond c a b=>.cond c (mark X a) (mark X b)
 | .block id a=>.block id (mark X a)
 | .loop a=>.loop (mark X a)
 | .region id ops true=>if X.contains id then .scope (.region id ops true) else .region id ops true
 | .region id ops false=>if X.contains id then .scope (.region id ops false) else .region id ops false
 | c=>c
def thenQ (K:St→Prop) (Q:Exit→St→Prop):Exit→St→Prop
 | .normal,st=>K st
 | e,st=>Q e st
def blockQ (id:Nat) (Q:Exit→St→Prop):Exit→St→Prop
 | .exit id',st=>if id'=id then Q .normal st else Q (.exit id') st
 | e,st=>Q e st
def condQ (c:AV) (A B:Prop) (_:Lock A) (_:Lock B):Prop :=
 match c with
 | .v (.bool b)=>ifP b A B .mk .mk
 | _=>False

def AWP (P:Program) (M:FuncId→List Bool):Code→(Exit→St→Prop)→St→Prop
  | .skip,Q,st=>Q .normal st
  | .seq a b,Q,st=>AWP P M a (thenQ (AWP P M b Q) Q) st
  | .cond c x y,Q,st=>condQ (st.ev c) (AWP P M x Q st) (AWP P M y Q st) .mk .mk
  | .block id c,Q,st=>AWP P M c (blockQ id Q) st
  | .loop c,Q,st=>∃ (J:Nat→St→Prop) (N:Nat),(∃ st',Ent st st'∧J 0 st') ∧
      ((∀ k st1,k≤N→J k st1→AWP P M c (thenQ (fun st'=>k<N∧J (k+1) st') Q) st1) ∨
       (∀ k st1,k≤N→J k st1→AWP P M c (thenQ (fun st'=>k<N∧∃ st'',Ent st' st''∧J (k+1) st'') Q) st1))
  | .exit id,Q,st=>Q (.exit id) st
  | .ret,Q,st=>Q .ret st
  | .region _ ops true,Q,st=>drawOps P M ops.toList (headOps ops.toList) (tailOps ops.toList) st (Q .normal)
  | .region _ ops false,Q,st=>seqOps P M ops.toList ops.toList st (Q .normal)
  | .scope c,Q,st=>match c with | .region _ ops true=>AnyP P M ops.toList st (Q .normal) .mk .mk | .region _ ops false=>SeqX P M ops.toList st (Q .normal) .mk .mk | _=>False
  | _,_,_=>False

def LoopP (P:Program) (M:FuncId→List Bool) (c:Code) (Q:Exit→St→Prop) (st:St) (_:Lock c) (_:Lock Q):Prop:=AWP P M (.loop c) Q st

section
variable (P:Program) (M:FuncId→List Bool) (Q:Exit→St→Prop) (st:St)
theorem AWP_skip:AWP P M .skip Q st=Q .normal st:=by unfold AWP;rfl
theorem AWP_seq (a b:Code):AWP P M (.seq a b) Q st=AWP P M a (thenQ (AWP P M b Q) Q) st:=by rw [AWP]
theorem AWP_cond (c:Operand) (x y:Code):AWP P M (.cond c x y) Q st=condQ (st.ev c) (AWP P M x Q st) (AWP P M y Q st) .mk .mk:=by rw [AWP]
theorem AWP_block (id:Nat) (c:Code):AWP P M (.block id c) Q st=AWP P M c (blockQ id Q) st:=by rw [AWP]
theorem AWP_loop (c:Code):AWP P M (.loop c) Q st=LoopP P M c Q st .mk .mk:=rfl
theorem AWP_exit (id:Nat):AWP P M (.exit id) Q st=Q (.exit id) st:=by unfold AWP;rfl
theorem AWP_ret:AWP P M .ret Q st=Q .ret st:=by unfold AWP;rfl
theorem AWP_seqR (id:Nat) (ops:List Oper):AWP P M (.region id ops.toArray false) Q st=seqOps P M ops ops st (Q .normal):=by rw [AWP]
theorem AWP_drawR (id:Nat) (ops:List Oper):AWP P M (.region id ops.toArray true) Q st=drawP P M ops (headOps ops) (tailOps ops) st (Q .normal) .mk .mk:=by rw [AWP];rfl
theorem mark_seq (X:List Nat) (a b:Code):mark X (.seq a b)=.seq (mark X a) (mark X b):=rfl
theorem mark_cond (X:List Nat) (c:Operand) (a b:Code):mark X (.cond c a b)=.cond c (mark X a) (mark X b):=rfl
theorem mark_block (X:List Nat) (id:Nat) (a:Code):mark X (.block id a)=.block id (mark X a):=rfl
theorem mark_loop (X:List Nat) (a:Code):mark X (.loop a)=.loop (mark X a):=rfl
theorem mark_draw (X:List Nat) (id:Nat) (ops:Array Oper):mark X (.region id ops true)=if X.contains id=true then .scope (.region id ops true) else .region id ops true:=rfl
theorem mark_seqR (X:List Nat) (id:Nat) (ops:Array Oper):mark X (.region id ops false)=if X.contains id=true then .scope (.region id ops false) else .region id ops false:=rfl
theorem mark_skip (X:List Nat):mark X .skip=.skip:=rfl
theorem mark_exit (X:List Nat) (id:Nat):mark X (.exit id)=.exit id:=rfl
theorem mark_ret (X:List Nat):mark X .ret=.ret:=rfl
theorem AWP_anyR (id:Nat) (ops:List Oper):AWP P M (.scope (.region id ops.toArray true)) Q st=AnyP P M ops st (Q .normal) .mk .mk:=by rw [AWP]
theorem AWP_sxR (id:Nat) (ops:List Oper):AWP P M (.scope (.region id ops.toArray false)) Q st=SeqX P M ops st (Q .normal) .mk .mk:=by rw [AWP]
theorem thenQ_normal (K:St→Prop):thenQ K Q .normal st=K st:=rfl
theorem thenQ_exit (K:St→Prop) (id:Nat):thenQ K Q (.exit id) st=Q (.exit id) st:=rfl
theorem thenQ_ret (K:St→Prop):thenQ K Q .ret st=Q .ret st:=rfl
theorem blockQ_exit_same (id:Nat):blockQ id Q (.exit id) st=Q .normal st:=if_pos rfl
theorem blockQ_exit_ne (id id':Nat) (h:(id' == id)=false):blockQ id Q (.exit id') st=Q (.exit id') st:=if_neg (by simpa using h)
theorem blockQ_normal (id:Nat):blockQ id Q .normal st=Q .normal st:=rfl
theorem blockQ_ret (id:Nat):blockQ id Q .ret st=Q .ret st:=rfl
theorem condQ_bool (b:Bool) (A B:Prop) (l:Lock A) (m:Lock B):condQ (.v (.bool b)) A B l m=ifP b A B .mk .mk:=rfl
theorem drawP_go (ops hd tl:List Oper) (K:St→Prop) (l:Lock ops) (m:Lock K):drawP P M ops hd tl st K l m=drawOps P M ops hd tl st K:=rfl
end
theorem Ent.refl (st:St):Ent st st:=fun _ _ _ _ _ h=>h
theorem Ent.trans {a b c:St} (h:Ent a b) (k:Ent b c):Ent a c:=fun N E x w n q=>k N E x w n (h N E x w n q)
theorem awp_loop {P:Program} {M:FuncId→List Bool} {c:Code} {Q:Exit→St→Prop} {st:St} {l:Lock c} {m:Lock Q} (J:Nat→St→Prop) (N:Nat) (h0:J 0 st)
  (h:∀ k st1,k≤N→J k st1→AWP P M c (thenQ (fun st'=>k<N∧J (k+1) st') Q) st1):LoopP P M c Q st l m:=by
 unfold LoopP;rw [AWP];exact ⟨J,N,⟨st,.refl _,h0⟩,.inl h⟩
theorem awp_loopE {P:Program} {M:FuncId→List Bool} {c:Code} {Q:Exit→St→Prop} {st:St} {l:Lock c} {m:Lock Q} (st':St) (he:Ent st st') (J:Nat→St→Prop) (N:Nat) (h0:J 0 st')
  (h:∀ k st1,k≤N→J k st1→AWP P M c (thenQ (fun st'=>k<N∧J (k+1) st') Q) st1):LoopP P M c Q st l m:=by
 unfold LoopP;rw [AWP];exact ⟨J,N,⟨st',he,h0⟩,.inl h⟩
def resV (P:Program) (st:St) (rv:ResultVar) (K:AV→Prop):Prop :=
 match rv with
 | .tmp t=>K (st.fr t)
 | .cell ad t=>loadP P st.mem t (st.fr ad) K .mk
def resVs (P:Program) (st:St):List ResultVar→(List AV→Prop)→Prop
 | [],K=>K []
 | rv :: r,K=>resV P st rv fun x=>valP x (fun x=>resVs P st r fun l=>K (x :: l)) .mk
def resL (P:Program) (st:St) (rs:List ResultVar) (K:List AV→Prop) (_:Lock K):Prop:=resVs P st rs K
def leC (a b:AV):Prop :=
 match a,b with
 | _,.any=>True
 | .v (.slice none 0 0),.tr _ es=>es=[]
 | .v (.slice none 0 0),.sl _ es=>es=[]
 | a,b=>a=b
def leL:List AV→List AV→Prop
 | [],[]=>True
 | a :: r,b :: s=>leC a b∧leL r s
 | _,_=>False
def leA (a b:AV):Prop :=
 match a,b with
 | .agg l,.agg l'=>leL l l'
 | a,b=>leC a b
def leT:List AV→List AV→Prop
 | [],[]=>True
 | a :: r,b :: s=>leA a b∧leT r s
 | _,_=>False
def leR:List AV→AV→Prop
 | [a],r=>leA a r
 | l,.tup l'=>leT l l'
 | _,_=>False
def closeTr (t:Nat) (q:Path) (z o n:Nat) (T:AV) (K:AV→List (Nat×Path)→Prop) (_:Lock K):Prop :=
 match T with
 | .tr z' es=>vc (z=z'∧o+n≤es.length) (K (.tr z ((es.drop o).take n)) [(t,q)]) .mk
 | _=>False
def closePt (t:Nat) (q:Path) (T:AV) (K:AV→List (Nat×Path)→Prop) (_:Lock K):Prop :=
 match T with
 | .pt z x=>K (.pt z x) [(t,q)]
 | _=>False
def closeMt (t:Nat) (q:Path) (T:AV) (K:AV→List (Nat×Path)→Prop) (_:Lock K):Prop :=
 match T with
 | .mt kd m=>K (.mt kd m) [(t,q)]
 | _=>False
def closeC (mem:Nat→Option AV) (a:AV) (K:AV→List (Nat×Path)→Prop) (_:Lock K):Prop :=
 match a with
 | .ref t q z o n=>closeTr t q z o n (nodeAt mem t q) K .mk
 | .loc t q i j=>vc (i=0∧j=0) (closePt t q (nodeAt mem t q) K .mk) .mk
 | .mref t q=>closeMt t q (nodeAt mem t q) K .mk
 | a=>vc (a.bears=false) (K a []) .mk
def closeCs (mem:Nat→Option AV):List AV→(List AV→List (Nat×Path)→Prop)→Prop
 | [],K=>K [] []
 | x :: r,K=>closeC mem x (fun x' s=>closeCs mem r fun l s'=>K (x' :: l) (s++s')) .mk
def closeA (mem:Nat→Option AV) (a:AV) (K:AV→List (Nat×Path)→Prop):Prop :=
 match a with
 | .agg fs=>closeCs mem fs fun l s=>K (.agg l) s
 | a=>closeC mem a K .mk
def closeL (mem:Nat→Option AV):List AV→(List AV→List (Nat×Path)→Prop)→Prop
 | [],K=>K [] []
 | a :: r,K=>closeA mem a fun a' s=>closeL mem r fun l s'=>K (a' :: l) (s++s')
def outRoots:Nat→List (Option AV)→List (Nat×Path)
 | _,[]=>[]
 | i,some _ :: r=>(i,[]) :: outRoots (i+1) r
 | i,none :: r=>outRoots (i+1) r
def outsOk (mem:Nat→Option AV):Nat→List (Option AV)→Prop
 | _,[]=>True
 | i,some T :: r=>mem i=some T∧outsOk mem (i+1) r
 | i,none :: r=>outsOk mem (i+1) r
def sigsOk:List AV→List (Option AV)→Prop
 | _,[]=>True
 | a :: as,some T :: r=>T.sig=a.sig∧sigsOk as r
 | _ :: as,none :: r=>sigsOk as r
 | [],_ :: _=>False
def retK (fz:Bool) (args:List AV) (outs:List (Option AV)) (r:AV) (mem:Nat→Option AV) (l:List AV):Prop :=
 match fz with
 | true=>valP (AV.views mem l) (fun l'=>leR l' r) .mk
 | false=>closeL mem l fun l' s=>apartL (outRoots 0 outs++s)=true∧leR l' r∧outsOk mem 0 outs
def retP (P:Program) (fz:Bool) (args:List AV) (outs:List (Option AV)) (rs:List ResultVar) (r:AV) (e:Exit) (st:St):Prop :=
 (match e with | .ret=>True | .normal=>True | _=>False)∧resVs P st rs fun l=>retK fz args outs r st.mem l
section
variable (P:Program) (fz:Bool) (args:List AV) (outs:List (Option AV)) (r:AV) (st:St) (rs:List ResultVar)
theorem retP_ret:retP P fz args outs rs r .ret st=resL P st rs (fun l=>retK fz args outs r st.mem l) .mk:=by simp only [retP,resL,true_and]
theorem retP_normal:retP P fz args outs rs r .normal st=resL P st rs (fun l=>retK fz args outs r st.mem l) .mk:=by simp only [retP,resL,true_and]
theorem resL_nil (K:List AV→Prop) (l:Lock K):resL P st [] K l=K []:=rfl
theorem resL_tmp (t:Nat) (K:List AV→Prop) (l:Lock K):resL P st (.tmp t :: rs) K l=valP (st.fr t) (fun x=>resL P st rs (fun l=>K (x :: l)) .mk) .mk:=rfl
theorem resL_cell (a:Nat) (t:TypeId) (K:List AV→Prop) (l:Lock K):resL P st (.cell a t :: rs) K l=loadP P st.mem t (st.fr a) (fun x=>valP x (fun x=>resL P st rs (fun l=>K (x :: l)) .mk) .mk) .mk:=rfl
theorem leR_one (a:AV):leR [a] r=leA a r:=rfl
theorem leR_nil (l:List AV):leR [] (.tup l)=leT [] l:=rfl
theorem leR_two (a b:AV) (k l:List AV):leR (a :: b :: k) (.tup l)=leT (a :: b :: k) l:=rfl
end
def initSt (args:List AV):St:={ fr:=fun i=>(args.getD i .un).atoms i [],mem:=fun i=>args[i]? }
end Go.AM
