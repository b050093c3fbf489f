/-
  AN ABSTRACT MACHINE over the loaded code: values by their content; a predicate transformer. No statement of the program stands here.
-/
import Derived.WalkKit
import Derived.Orders
set_option linter.unusedVariables false
set_option linter.unusedSimpArgs false
namespace Go.AM

/-- An abstract value: what is known of a value. 'sl': a slice by its elements (memory that nobody writes any more); 'ep': the address of such an element's cells; 'loc': an address in a block of the call's own; 'own': a slice that is the whole of such a block; 'app': a slice that the call itself has appended to. -/
inductive AV where
  | any
  | v (x : Value)
  | sl (sz : Nat) (es : List AV)
  | agg (fs : List AV)
  | tup (fs : List AV)
  | ep (cs : List AV)
  | loc (s off : Nat)
  | own (s sz n : Nat)
  | app (s sz : Nat) (es : List AV)
  | fn (f : FuncId) (caps : List AV)
  deriving Inhabited

abbrev AV.i64 (n : Int) : AV := .v (.int .i64 n)
abbrev AV.bl (b : Bool) : AV := .v (.bool b)
abbrev AV.u8 (n : Int) : AV := .v (.int .u8 n)
abbrev AV.st (l : List UInt8) : AV := .v (.string ⟨l.toArray⟩)
abbrev AV.nilsl : AV := .v (.slice none 0 0)
abbrev AV.un : AV := .v undef

def AV.cells : AV → List AV
  | .agg fs => fs
  | a => [a]

/-- the elements of a slice value, where they are known -/
def AV.elems? : AV → Option (Nat × List AV)
  | .sl sz es => some (sz, es)
  | .app _ sz es => some (sz, es)
  | _ => none

structure St where
  fr : Nat → AV
  mem : Nat → Option (List AV)
  tok : Nat → Option (Nat × Nat)

def St.put (st : St) (d : Option Nat) (x : AV) : St :=
  match d with
  | some d => { st with fr := fun i => if i = d then x else st.fr i }
  | none => st

def constAV : Value → AV := .v

def St.ev (st : St) : Operand → AV
  | .tmp t => st.fr t
  | .const x => constAV x
  | .func f => .fn f []
  | .global _ => .any

/-- what was known of block s (or token s) is forgotten: a new block takes its number -/
def AV.killAtom (s : Nat) : AV → AV
  | .loc s' o => if s' = s then .any else .loc s' o
  | .own s' z n => if s' = s then .any else .own s' z n
  | .app s' z es => if s' = s then .sl z es else .app s' z es
  | .agg _ => .any
  | .tup _ => .any
  | .fn f [] => .fn f []
  | .fn _ _ => .any
  | a => a
def AV.kill1 (s : Nat) : AV → AV
  | .agg fs => .agg (fs.map (AV.killAtom s))
  | .fn f caps => .fn f (caps.map (AV.killAtom s))
  | .tup _ => .any
  | a => a.killAtom s
def St.kill (st : St) (s : Nat) : St :=
  { fr := fun i => (st.fr i).kill1 s, mem := fun i => if i = s then none else (st.mem i).map (·.map (AV.killAtom s)), tok := fun i => if i = s then none else st.tok i }

universe u
/-- a new block (number: the slot that gets its address) -/
def St.addB (st : St) (d : Option Nat) (cs : List AV) : St :=
  { st.kill (d.getD 0) with mem := fun i => if i = d.getD 0 then some (cs.map (AV.killAtom (d.getD 0))) else (st.kill (d.getD 0)).mem i }

/-! ### types -/
def aggT (P : Program) (t : TypeId) : Option Bool := match P.underlying t with | some (.struct _) | some (.array _ _) => some true | some _ => some false | none => none
def szT (P : Program) (t : TypeId) : Option Nat := (P.info? t).map (·.size)
def sizeT (P : Program) (t : TypeId) : Nat := match P.info? t with | some i => i.size | none => 0
def bytesT (P : Program) (t : TypeId) : Nat := match P.info? t with | some i => i.bytes | none => 0
def zeroT (P : Program) (t : TypeId) : Option (List Value) := match P.info? t with | some i => i.zero.map (·.cells.toList) | none => none
def elemT (P : Program) (t : TypeId) : Option TypeId := match P.underlying t with | some (.slice e) => (match P.info? e with | some _ => some e | none => none) | _ => none
def fieldT (P : Program) (t : TypeId) (i : Nat) : Option (Nat × TypeId) := match P.underlying t with | some (.struct fs) => (fs[i]?).bind fun f => (match P.info? f.type with | some inf => if inf.size = 0 then none else some (f.offset, f.type) | none => none) | _ => none
def structT (P : Program) (t : TypeId) : Bool := match P.underlying t with | some (.struct fs) => fs.all (fun f => (P.info? f.type).isSome) | _ => false
def boolT (P : Program) (t : TypeId) : Bool := match P.underlying t with | some .bool => true | _ => false
def stringT (P : Program) (t : TypeId) : Bool := match P.underlying t with | some .string => true | _ => false

/-! ### calls -/
inductive RepS (I : Nat → Nat → Option Value) : AV → Value → Prop
  | v (x : Value) : RepS I (.v x) x
  | nil (sz : Nat) : RepS I (.sl sz []) (.slice none 0 0)
  | nila (sz : Nat) (a : Addr) (cap : Nat) : RepS I (.sl sz []) (.slice (some a) 0 cap)
  | sl (sz : Nat) (es : List AV) (b off cap : Nat) (vals : Nat → Nat → Value) (hsz : ∀ i (hi : i < es.length), (es[i]).cells.length = sz) (hc : es.length ≤ cap)
      (hI : ∀ i, i < es.length → ∀ j, j < sz → I b (off + i * sz + j) = some (vals i j))
      (hr : ∀ i (hi : i < es.length) j (hj : j < (es[i]).cells.length), RepS I ((es[i]).cells[j]) (vals i j)) : RepS I (.sl sz es) (.slice (some ⟨b, off, none⟩) es.length cap)
  | agg (fs : List AV) (arr : Array Value) (hn : arr.size = fs.length) (hr : ∀ j (hj : j < fs.length) (hk : j < arr.size), RepS I (fs[j]) (arr[j])) : RepS I (.agg fs) (.agg arr)
  | tup (fs : List AV) (arr : Array Value) (hn : arr.size = fs.length) (hr : ∀ j (hj : j < fs.length) (hk : j < arr.size), RepS I (fs[j]) (arr[j])) : RepS I (.tup fs) (.tuple arr)
  | ep (cs : List AV) (b off : Nat) (vals : Nat → Value) (hI : ∀ j, j < cs.length → I b (off + j) = some (vals j)) (hr : ∀ j (hj : j < cs.length), RepS I (cs[j]) (vals j)) : RepS I (.ep cs) (.pointer (some ⟨b, off, none⟩))
  | fn (f : FuncId) (caps : List AV) (arr : Array Value) (hn : arr.size = caps.length) (hr : ∀ j (hj : j < caps.length) (hk : j < arr.size), RepS I (caps[j]) (arr[j])) : RepS I (.fn f caps) (.func (.func f) #[] arr)

structure Held (I : Nat → Nat → Option Value) (w : World) : Prop where
  cell : ∀ b o x, I b o = some x → w.cell? ⟨b, o, none⟩ = some x ∧ x.oneCell' = true

/-- memory has grown: below the old size nothing has turned, and what is recorded of it is the same -/
structure Grow (I : Nat → Nat → Option Value) (w : World) (I' : Nat → Nat → Option Value) (w' : World) : Prop where
  held : Held I' w'
  below : RowKit.Below w.heap.size w w'
  keeps : ∀ b o, b < w.heap.size → I' b o = I b o

/-- THE CONTRACT OF A CALL: with these arguments, by content, function f hands back that result, by content, and turns nothing that was there. -/
def HasBody (P : Program) (f : FuncId) : Prop := ∃ fn c, P.funcs[f]? = some fn ∧ fn.body = some c ∧ fn.name ≠ "runtime.NumGoroutine"
/-- no address of a call's own block occurs -/
def AV.isStat1 : AV → Bool
  | .v _ => true
  | .sl _ _ => true
  | .ep _ => true
  | .fn _ [] => true
  | _ => false
def AV.isStat2 : AV → Bool
  | .agg fs => fs.all AV.isStat1
  | a => a.isStat1
def AV.isStat : AV → Bool
  | .tup fs => fs.all AV.isStat2
  | a => a.isStat2
def SpecAt (P : Program) (f : FuncId) (args : List AV) (r : AV) : Prop :=
  HasBody P f ∧ r.isStat = true ∧ ∀ (I : Nat → Nat → Option Value) (w : World) (vals : Array Value), Held I w → vals.size = args.length → (∀ j (hj : j < args.length) (hk : j < vals.size), RepS I (args[j]) (vals[j])) →
    Calls P f vals w fun e w' => ∃ I' x, e = .returned x ∧ RepS I' r x ∧ Grow I w I' w'

/-- A mark: what it stands beside is not looked into by the rewriting till its turn has come. -/
structure Lock {α : Sort u} (x : α) : Type where mk ::

def callP (P : Program) (f : FuncId) (args : List AV) (K : AV → Prop) (_ : Lock K) : Prop := ∃ r, SpecAt P f args r ∧ K r

theorem callP_of {P : Program} {f : FuncId} {args : List AV} {K : AV → Prop} {l : Lock K} {r : AV} (h : SpecAt P f args r) (hk : K r) : callP P f args K l := ⟨r, h, hk⟩

/-- an argument of a call, by content alone -/
def AV.stat1 : AV → Option AV
  | .v x => some (.v x)
  | .sl z es => some (.sl z es)
  | .app _ z es => some (.sl z es)
  | .ep cs => some (.ep cs)
  | .fn f [] => some (.fn f [])
  | _ => none
def AV.stats : List AV → Option (List AV)
  | [] => some []
  | a :: r => match a.stat1, AV.stats r with | some x, some y => some (x :: y) | _, _ => none
def AV.stat : AV → Option AV
  | .agg fs => match AV.stats fs with | some l => some (.agg l) | none => none
  | a => a.stat1
def AV.statAll : List AV → Option (List AV)
  | [] => some []
  | a :: r => match a.stat, AV.statAll r with | some x, some y => some (x :: y) | _, _ => none

end Go.AM
namespace Go.AM

/-- a condition to be shown, then the rest -/
def vc (p : Prop) (K : Prop) (_ : Lock K) : Prop := p ∧ K
theorem vc_ok {p K : Prop} {l : Lock K} (h : p) : vc p K l = K := by unfold vc; exact propext ⟨fun x => x.2, fun x => ⟨h, x⟩⟩
theorem vc_true {K : Prop} {l : Lock K} : vc True K l = K := vc_ok trivial
theorem vc_mk {p K : Prop} {l : Lock K} (h : p) (k : K) : vc p K l := ⟨h, k⟩

def ifP (b : Bool) (A B : Prop) (_ : Lock A) (_ : Lock B) : Prop := (b = true → A) ∧ (b = false → B)
theorem ifP_true {A B : Prop} {l : Lock A} {m : Lock B} : ifP true A B l m = A := by unfold ifP; exact propext ⟨fun h => h.1 rfl, fun h => ⟨fun _ => h, (fun k => by cases k)⟩⟩
theorem ifP_false {A B : Prop} {l : Lock A} {m : Lock B} : ifP false A B l m = B := by unfold ifP; exact propext ⟨fun h => h.2 rfl, fun h => ⟨(fun k => by cases k), fun _ => h⟩⟩
theorem ifP_mk {b : Bool} {A B : Prop} {l : Lock A} {m : Lock B} (h : b = true → A) (k : b = false → B) : ifP b A B l m := ⟨h, k⟩

/-- bits, as the model reckons them -/
def bitsI (op : BinOp) (k : IntKind) (x y : Int) : Int :=
  let a := BitVec.ofInt k.bits x
  let b := BitVec.ofInt k.bits y
  match op with
  | .and => k.wrap (a &&& b).toNat
  | .or => k.wrap (a ||| b).toNat
  | .xor => k.wrap (a ^^^ b).toNat
  | _ => k.wrap (a &&& ~~~b).toNat

def optP {α : Type} (o : Option α) (K : α → Prop) (_ : Lock K) : Prop := match o with | some a => K a | none => False
theorem optP_some {α : Type} (a : α) (K : α → Prop) (l : Lock K) : optP (some a) K l = K a := rfl

section
variable (K : AV → Prop) (l : Lock K)

def intBin (op : BinOp) (k : IntKind) (m n : Int) (K : AV → Prop) (_ : Lock K) : Prop :=
  match op with
  | .add => K (.v (.int k (k.wrap (m + n))))
  | .sub => K (.v (.int k (k.wrap (m - n))))
  | .mul => K (.v (.int k (k.wrap (m * n))))
  | .quo => vc (n ≠ 0) (K (.v (.int k (k.wrap (m.tdiv n))))) .mk
  | .rem => vc (n ≠ 0) (K (.v (.int k (m.tmod n)))) .mk
  | .and => K (.v (.int k (bitsI .and k m n)))
  | .or => K (.v (.int k (bitsI .or k m n)))
  | .xor => K (.v (.int k (bitsI .xor k m n)))
  | .andNot => K (.v (.int k (bitsI .andNot k m n)))
  | .eql => K (.bl (m == n))
  | .neq => K (.bl (m != n))
  | .lss => K (.bl (decide (m < n)))
  | .leq => K (.bl (decide (m ≤ n)))
  | .gtr => K (.bl (decide (n < m)))
  | .geq => K (.bl (decide (n ≤ m)))
  | _ => False

def strBin (op : BinOp) (s t : ByteArray) (K : AV → Prop) (_ : Lock K) : Prop :=
  match op with
  | .add => vc (s.size + t.size ≤ 9223372036854775807) (K (.v (.string (s ++ t)))) .mk
  | .eql => K (.bl (s.toList == t.toList))
  | .neq => K (.bl (!(s.toList == t.toList)))
  | .lss => K (.bl (Op.bytesLess s.toList t.toList))
  | _ => False

def boolBin (P : Program) (op : BinOp) (t : TypeId) (a b : Bool) (K : AV → Prop) (_ : Lock K) : Prop :=
  match op with
  | .eql => vc (boolT P t = true) (K (.bl (a == b))) .mk
  | .neq => vc (boolT P t = true) (K (.bl (!(a == b)))) .mk
  | _ => False

/-! structs of numbers, truths and strings are compared field by field -/
def eqK (P : Program) (f : Field) : Option (Nat × Nat) :=
  if f.name = "_" then none else match P.underlying f.type with | some (.int _) => some (f.offset, 0) | some .bool => some (f.offset, 1) | some .string => some (f.offset, 2) | _ => none
def eqFs (P : Program) : List Field → Option (List (Nat × Nat))
  | [] => some []
  | f :: r => match eqK P f, eqFs P r with | some x, some l => some (x :: l) | _, _ => none
def eqT (P : Program) (t : TypeId) : Option (List (Nat × Nat)) :=
  if P.stoodInHeld t = false ∧ P.eqGuardType P.depth t = false then (match P.underlying t with | some (.struct fs) => eqFs P fs.toList | _ => none) else none
def eqV : Nat → AV → AV → Option Bool
  | 0, .v (.int k a), .v (.int k' b) => if k = k' then some (a == b) else none
  | 1, .v (.bool a), .v (.bool b) => some (a == b)
  | 2, .v (.string a), .v (.string b) => some (a.toList == b.toList)
  | _, _, _ => none
def and2 : Option Bool → Option Bool → Option Bool
  | some a, some b => some (a && b)
  | _, _ => none
def eqCs (fs gs : List AV) : List (Nat × Nat) → Option Bool
  | [] => some true
  | (o, c) :: r => and2 (eqV c (fs.getD o .any) (gs.getD o .any)) (eqCs fs gs r)
theorem eqV_int (k : IntKind) (a b : Int) : eqV 0 (.v (.int k a)) (.v (.int k b)) = some (a == b) := by simp [eqV]
theorem eqV_bool (a b : Bool) : eqV 1 (.v (.bool a)) (.v (.bool b)) = some (a == b) := rfl
theorem eqV_str (a b : ByteArray) : eqV 2 (.v (.string a)) (.v (.string b)) = some (a.toList == b.toList) := rfl
theorem and2_some (a b : Bool) : and2 (some a) (some b) = some (a && b) := rfl
theorem eqCs_nil (fs gs : List AV) : eqCs fs gs [] = some true := rfl
theorem eqCs_cons (fs gs : List AV) (o c : Nat) (r : List (Nat × Nat)) : eqCs fs gs ((o, c) :: r) = and2 (eqV c (fs.getD o .any) (gs.getD o .any)) (eqCs fs gs r) := rfl
def aggBin (op : BinOp) (L : Option (List (Nat × Nat))) (fs gs : List AV) (K : AV → Prop) (_ : Lock K) : Prop :=
  match op with
  | .eql => optP L (fun L => optP (eqCs fs gs L) (fun b => K (.bl b)) .mk) .mk
  | .neq => optP L (fun L => optP (eqCs fs gs L) (fun b => K (.bl (!b))) .mk) .mk
  | _ => False

/-- shifts take operands of two kinds; all else operands of one kind -/
def intBin2 (op : BinOp) (k k' : IntKind) (a b : Int) (K : AV → Prop) (_ : Lock K) : Prop :=
  match op with
  | .shl => vc (0 ≤ b) (K (.v (.int k (k.wrap (a * 2 ^ (min b.toNat k.bits)))))) .mk
  | .shr => vc (0 ≤ b) (K (.v (.int k (a.fdiv (2 ^ (min b.toNat k.bits)))))) .mk
  | op => vc (k = k') (intBin op k a b K .mk) .mk

def binP (P : Program) (op : BinOp) (t : TypeId) (x y : AV) (K : AV → Prop) (_ : Lock K) : Prop :=
  match x, y with
  | .v (.int k a), .v (.int k' b) => intBin2 op k k' a b K .mk
  | .v (.string a), .v (.string b) => strBin op a b K .mk
  | .v (.bool a), .v (.bool b) => boolBin P op t a b K .mk
  | .agg fs, .agg gs => aggBin op (eqT P t) fs gs K .mk
  | _, _ => False
theorem binP_agg (P : Program) (op : BinOp) (t : TypeId) (fs gs : List AV) : binP P op t (.agg fs) (.agg gs) K l = aggBin op (eqT P t) fs gs K .mk := rfl
theorem binP_int (P : Program) (op : BinOp) (t : TypeId) (k k' : IntKind) (a b : Int) : binP P op t (.v (.int k a)) (.v (.int k' b)) K l = intBin2 op k k' a b K .mk := rfl
theorem binP_str (P : Program) (op : BinOp) (t : TypeId) (a b : ByteArray) : binP P op t (.v (.string a)) (.v (.string b)) K l = strBin op a b K .mk := rfl
theorem binP_bool (P : Program) (op : BinOp) (t : TypeId) (a b : Bool) : binP P op t (.v (.bool a)) (.v (.bool b)) K l = boolBin P op t a b K .mk := rfl

def unP (op : UnOp) (x : AV) (K : AV → Prop) (_ : Lock K) : Prop :=
  match op, x with
  | .neg, .v (.int k n) => K (.v (.int k (k.wrap (0 - n))))
  | .not, .v (.bool b) => K (.bl (!b))
  | _, _ => False
theorem unP_neg (k : IntKind) (n : Int) : unP .neg (.v (.int k n)) K l = K (.v (.int k (k.wrap (0 - n)))) := rfl
theorem unP_not (b : Bool) : unP .not (.v (.bool b)) K l = K (.bl (!b)) := rfl

def pickP (c a b : AV) (K : AV → Prop) (_ : Lock K) : Prop :=
  match c with
  | .v (.bool t) => ifP t (K a) (K b) .mk .mk
  | _ => False
theorem pickP_bool (t : Bool) (a b : AV) : pickP (.v (.bool t)) a b K l = ifP t (K a) (K b) .mk .mk := rfl

def loadCs (agg : Option Bool) (n : Nat) (cs : List AV) (off : Nat) (K : AV → Prop) (_ : Lock K) : Prop :=
  match agg with
  | some true => vc (off + n ≤ cs.length) (K (.agg ((cs.drop off).take n))) .mk
  | some false => vc (off < cs.length) (K (cs.getD off .any)) .mk
  | none => False
theorem loadCs_agg (n : Nat) (cs : List AV) (off : Nat) : loadCs (some true) n cs off K l = vc (off + n ≤ cs.length) (K (.agg ((cs.drop off).take n))) .mk := rfl
theorem loadCs_one (n : Nat) (cs : List AV) (off : Nat) : loadCs (some false) n cs off K l = vc (off < cs.length) (K (cs.getD off .any)) .mk := rfl

def loadP (P : Program) (mem : Nat → Option (List AV)) (t : TypeId) (a : AV) (K : AV → Prop) (_ : Lock K) : Prop :=
  match a with
  | .loc s off => optP (mem s) (fun cs => loadCs (aggT P t) (sizeT P t) cs off K .mk) .mk
  | .ep cs => loadCs (aggT P t) (sizeT P t) cs 0 K .mk
  | _ => False
theorem loadP_loc (P : Program) (mem : Nat → Option (List AV)) (t : TypeId) (s off : Nat) : loadP P mem t (.loc s off) K l = optP (mem s) (fun cs => loadCs (aggT P t) (sizeT P t) cs off K .mk) .mk := rfl
theorem loadP_ep (P : Program) (mem : Nat → Option (List AV)) (t : TypeId) (cs : List AV) : loadP P mem t (.ep cs) K l = loadCs (aggT P t) (sizeT P t) cs 0 K .mk := rfl

def fieldAP (f : Option (Nat × TypeId)) (a : AV) (K : AV → Prop) (_ : Lock K) : Prop :=
  match f, a with
  | some (off, _), .loc s o => K (.loc s (o + off))
  | some (off, _), .ep cs => vc (off ≤ cs.length) (K (.ep (cs.drop off))) .mk
  | _, _ => False
theorem fieldAP_loc (off t s o : Nat) : fieldAP (some (off, t)) (.loc s o) K l = K (.loc s (o + off)) := rfl
theorem fieldAP_ep (off t : Nat) (cs : List AV) : fieldAP (some (off, t)) (.ep cs) K l = vc (off ≤ cs.length) (K (.ep (cs.drop off))) .mk := rfl

def indexAP (z0 : Option Nat) (a : AV) (i : AV) (K : AV → Prop) (_ : Lock K) : Prop :=
  match z0, i, a with
  | some z0, .v (.int _ i), .sl z es => vc (0 ≤ i ∧ i < es.length ∧ z = z0) (K (.ep (es.getD i.toNat .any).cells)) .mk
  | some z0, .v (.int _ i), .app _ z es => vc (0 ≤ i ∧ i < es.length ∧ z = z0) (K (.ep (es.getD i.toNat .any).cells)) .mk
  | some z0, .v (.int _ i), .own s z n => vc (0 ≤ i ∧ i < n ∧ z = z0) (K (.loc s (i.toNat * z))) .mk
  | _, _, _ => False
theorem indexAP_sl (z0 : Nat) (k : IntKind) (i : Int) (z : Nat) (es : List AV) : indexAP (some z0) (.sl z es) (.v (.int k i)) K l = vc (0 ≤ i ∧ i < es.length ∧ z = z0) (K (.ep (es.getD i.toNat .any).cells)) .mk := rfl
theorem indexAP_app (z0 : Nat) (k : IntKind) (i : Int) (s z : Nat) (es : List AV) : indexAP (some z0) (.app s z es) (.v (.int k i)) K l = vc (0 ≤ i ∧ i < es.length ∧ z = z0) (K (.ep (es.getD i.toNat .any).cells)) .mk := rfl
theorem indexAP_own (z0 : Nat) (k : IntKind) (i : Int) (s z n : Nat) : indexAP (some z0) (.own s z n) (.v (.int k i)) K l = vc (0 ≤ i ∧ i < n ∧ z = z0) (K (.loc s (i.toNat * z))) .mk := rfl

def lenP (P : Program) (t : TypeId) (a : AV) (K : AV → Prop) (_ : Lock K) : Prop :=
  match a with
  | .sl _ es => vc ((elemT P t).isSome = true) (K (.i64 es.length)) .mk
  | .app _ _ es => vc ((elemT P t).isSome = true) (K (.i64 es.length)) .mk
  | .own _ _ n => vc ((elemT P t).isSome = true) (K (.i64 n)) .mk
  | .v (.slice none 0 0) => vc ((elemT P t).isSome = true) (K (.i64 0)) .mk
  | .v (.string s) => vc (stringT P t = true) (K (.i64 s.size)) .mk
  | _ => False
section
variable (P : Program) (t : TypeId)
theorem lenP_sl (z : Nat) (es : List AV) : lenP P t (.sl z es) K l = vc ((elemT P t).isSome = true) (K (.i64 es.length)) .mk := rfl
theorem lenP_app (s z : Nat) (es : List AV) : lenP P t (.app s z es) K l = vc ((elemT P t).isSome = true) (K (.i64 es.length)) .mk := rfl
theorem lenP_own (s z n : Nat) : lenP P t (.own s z n) K l = vc ((elemT P t).isSome = true) (K (.i64 n)) .mk := rfl
theorem lenP_nil : lenP P t (.v (.slice none 0 0)) K l = vc ((elemT P t).isSome = true) (K (.i64 0)) .mk := rfl
theorem lenP_str (s : ByteArray) : lenP P t (.v (.string s)) K l = vc (stringT P t = true) (K (.i64 s.size)) .mk := rfl
end

/-- the cells of a new row: n times those of the zero value -/
def repC : Nat → List AV → List AV
  | n, [x] => List.replicate n x
  | 0, _ => []
  | n + 1, l => l ++ repC n l
theorem repC_one (n : Nat) (x : AV) : repC n [x] = List.replicate n x := by cases n <;> rfl
theorem repC_zero (l : List AV) : repC 0 l = [] := by cases l with | nil => rfl | cons a r => cases r <;> rfl
theorem repC_succ (n : Nat) (l : List AV) : repC (n + 1) l = l ++ repC n l := by
  cases l with
  | nil => rfl
  | cons a r => cases r with
    | nil => rw [repC_one, repC_one]; rfl
    | cons b r => rfl
theorem repC_get (l : List AV) : ∀ n, (repC n l).length = n * l.length ∧ ∀ i, i < n * l.length → (repC n l)[i]? = l[i % l.length]?
  | 0 => by rw [repC_zero]; exact ⟨by simp, fun i h => by simp at h⟩
  | n + 1 => by
    obtain ⟨h1, h2⟩ := repC_get l n
    rw [repC_succ]
    have e : (n + 1) * l.length = l.length + n * l.length := by rw [Nat.add_mul]; omega
    refine ⟨by rw [List.length_append, h1, e], fun i hi => ?_⟩
    by_cases hlt : i < l.length
    · rw [List.getElem?_append_left hlt, Nat.mod_eq_of_lt hlt]
    · rw [List.getElem?_append_right (by omega), h2 (i - l.length) (by omega)]
      have : i % l.length = (i - l.length) % l.length := Nat.mod_eq_sub_mod (by omega)
      rw [this]

/-- the elements of a row of more than one cell each -/
def chunk (z : Nat) : Nat → List AV → List AV
  | 0, _ => []
  | n + 1, l => .agg (l.take z) :: chunk z n (l.drop z)
theorem chunk_flat {α : Type} {z : Nat} (f : α → List AV) : ∀ (l : List α), (∀ x ∈ l, (f x).length = z) → chunk z l.length (l.flatMap f) = l.map fun x => .agg (f x)
  | [], _ => rfl
  | x :: r, h => by
    have hx := h x (by simp)
    rw [List.flatMap_cons, List.length_cons, chunk, ← hx, List.take_left, List.drop_left, hx, chunk_flat f r fun y hy => h y (by simp [hy])]
    rfl
theorem chunk_len (z : Nat) : ∀ (n : Nat) (l : List AV), (chunk z n l).length = n
  | 0, _ => rfl
  | n + 1, l => by rw [chunk, List.length_cons, chunk_len z n]
theorem chunk_get (z : Nat) : ∀ (n : Nat) (l : List AV) (i : Nat) (hi : i < (chunk z n l).length), (chunk z n l)[i] = .agg ((l.drop (i * z)).take z)
  | n + 1, l, 0, _ => by simp [chunk]
  | n + 1, l, i + 1, hi => by
    have := chunk_get z n (l.drop z) i (by simpa [chunk] using hi)
    simp only [chunk, List.getElem_cons_succ]
    rw [this, List.drop_drop, Nat.add_mul, Nat.one_mul, Nat.add_comm]
  | 0, l, i, hi => by simp [chunk] at hi
theorem stats_id : ∀ (l : List AV), (∀ a ∈ l, a.stat1 = some a) → AV.stats l = some l
  | [], _ => rfl
  | a :: r, h => by rw [AV.stats, h a (by simp), stats_id r fun x hx => h x (by simp [hx])]

/-- what a callee sees of an argument; the Bool: a block of the call's own is lent (then the result must bear no address) -/
def AV.view1 (mem : Nat → Option (List AV)) : AV → Option (AV × Bool)
  | .own s z n => match mem s with
    | some cs => match AV.stats cs with
      | some l => if z = 1 ∧ l.length = n then some (.sl 1 l, true) else if 2 ≤ z ∧ l.length = n * z then some (.sl z (chunk z n l), true) else none
      | none => none
    | none => none
  | .loc s 0 => match mem s with
    | some cs => match AV.stats cs with | some l => some (.ep l, true) | none => none
    | none => none
  | a => match a.stat1 with | some x => some (x, false) | none => none
def AV.views (mem : Nat → Option (List AV)) : List AV → Option (List AV × Bool)
  | [] => some ([], false)
  | a :: r => match a.view1 mem, AV.views mem r with | some (x, b), some (l, c) => some (x :: l, b || c) | _, _ => none
def AV.view (mem : Nat → Option (List AV)) : AV → Option (AV × Bool)
  | .agg fs => match AV.views mem fs with | some (l, b) => some (.agg l, b) | none => none
  | .fn f caps => match AV.views mem caps with | some (l, b) => some (.fn f l, b) | none => none
  | a => a.view1 mem
def AV.viewAll (mem : Nat → Option (List AV)) : List AV → Option (List AV × Bool)
  | [] => some ([], false)
  | a :: r => match a.view mem, AV.viewAll mem r with | some (x, b), some (l, c) => some (x :: l, b || c) | _, _ => none
def AV.flat1 : AV → Bool
  | .v _ => true
  | _ => false
def AV.flat : AV → Bool
  | .v _ => true
  | .agg fs => fs.all AV.flat1
  | .tup fs => fs.all AV.flat1
  | _ => false

def callVP (P : Program) (f : FuncId) (as : Option (List AV × Bool)) (K : AV → Prop) (_ : Lock K) : Prop :=
  match as with
  | some (as, false) => callP P f as K .mk
  | some (as, true) => callP P f as (fun r => vc (r.flat = true) (K r) .mk) .mk
  | none => False
theorem callVP_same (P : Program) (f : FuncId) (as : List AV) : callVP P f (some (as, false)) K l = callP P f as K .mk := rfl
theorem callVP_lent (P : Program) (f : FuncId) (as : List AV) : callVP P f (some (as, true)) K l = callP P f as (fun r => vc (r.flat = true) (K r) .mk) .mk := rfl

def calleeP (P : Program) (mem : Nat → Option (List AV)) (x : AV) (args : List AV) (K : AV → Prop) (_ : Lock K) : Prop :=
  match x with
  | .fn f caps => callVP P f (AV.viewAll mem (args ++ caps)) K .mk
  | _ => False
theorem calleeP_fn (P : Program) (mem : Nat → Option (List AV)) (f : FuncId) (caps args : List AV) : calleeP P mem (.fn f caps) args K l = callVP P f (AV.viewAll mem (args ++ caps)) K .mk := rfl

def callOp (P : Program) (ev : Operand → AV) (mem : Nat → Option (List AV)) (c : Call) (K : AV → Prop) (_ : Lock K) : Prop :=
  match c.callee with
  | .value x => calleeP P mem (ev x) (c.args.toList.map ev) K .mk
  | .builtin .len => match c.args.toList, c.argTypes.toList with
    | [x], t :: _ => lenP P t (ev x) K .mk
    | _, _ => False
  | _ => False

def sliceP (P : Program) (t : TypeId) (x lo hi : AV) (K : AV → Prop) (_ : Lock K) : Prop :=
  match x, lo, hi with
  | .v (.string s), .v (.int _ l), .v (.int _ h) => vc (stringT P t = true ∧ 0 ≤ l ∧ l ≤ h ∧ h ≤ s.size) (K (.v (.string (s.extract l.toNat h.toNat)))) .mk
  | .sl z es, .v (.int _ l), .v (.int _ h) => vc ((elemT P t).map (sizeT P) = some z ∧ 0 ≤ l ∧ l ≤ h ∧ h ≤ es.length) (K (.sl z ((es.take h.toNat).drop l.toNat))) .mk
  | .app _ z es, .v (.int _ l), .v (.int _ h) => vc ((elemT P t).map (sizeT P) = some z ∧ 0 ≤ l ∧ l ≤ h ∧ h ≤ es.length) (K (.sl z ((es.take h.toNat).drop l.toNat))) .mk
  | _, _, _ => False
section
variable (P : Program) (t : TypeId) (k k' : IntKind) (lo hi : Int)
theorem sliceP_str (s : ByteArray) : sliceP P t (.v (.string s)) (.v (.int k lo)) (.v (.int k' hi)) K l = vc (stringT P t = true ∧ 0 ≤ lo ∧ lo ≤ hi ∧ hi ≤ s.size) (K (.v (.string (s.extract lo.toNat hi.toNat)))) .mk := rfl
theorem sliceP_sl (z : Nat) (es : List AV) : sliceP P t (.sl z es) (.v (.int k lo)) (.v (.int k' hi)) K l = vc ((elemT P t).map (sizeT P) = some z ∧ 0 ≤ lo ∧ lo ≤ hi ∧ hi ≤ es.length) (K (.sl z ((es.take hi.toNat).drop lo.toNat))) .mk := rfl
theorem sliceP_app (s z : Nat) (es : List AV) : sliceP P t (.app s z es) (.v (.int k lo)) (.v (.int k' hi)) K l = vc ((elemT P t).map (sizeT P) = some z ∧ 0 ≤ lo ∧ lo ≤ hi ∧ hi ≤ es.length) (K (.sl z ((es.take hi.toNat).drop lo.toNat))) .mk := rfl
end
/-- the upper bound that is not written: the length -/
def AV.lenV : AV → AV
  | .v (.string s) => .i64 s.size
  | .sl _ es => .i64 es.length
  | .app _ _ es => .i64 es.length
  | _ => .any

def fieldP (P : Program) (f : Option (Nat × TypeId)) (a : AV) (K : AV → Prop) (_ : Lock K) : Prop :=
  match f, a with
  | some (off, ft), .agg fs => loadCs (aggT P ft) (sizeT P ft) fs off K .mk
  | _, _ => False
theorem fieldP_agg (P : Program) (off : Nat) (ft : TypeId) (fs : List AV) : fieldP P (some (off, ft)) (.agg fs) K l = loadCs (aggT P ft) (sizeT P ft) fs off K .mk := rfl

def strIndexP (P : Program) (t : TypeId) (a i : AV) (K : AV → Prop) (_ : Lock K) : Prop :=
  match a, i with
  | .v (.string s), .v (.int _ i) => vc (stringT P t = true ∧ 0 ≤ i ∧ i < s.size) (K (.u8 ((s.data.toList.getD i.toNat 0).toNat))) .mk
  | _, _ => False
theorem strIndexP_str (P : Program) (t : TypeId) (s : ByteArray) (k : IntKind) (i : Int) : strIndexP P t (.v (.string s)) (.v (.int k i)) K l = vc (stringT P t = true ∧ 0 ≤ i ∧ i < s.size) (K (.u8 ((s.data.toList.getD i.toNat 0).toNat))) .mk := rfl

/-- a value whose cells are all known as values of one cell -/
def oneC : AV → Bool
  | .any => false
  | .tup _ => false
  | .agg _ => false
  | .v (.tuple _) => false
  | .v (.agg _) => false
  | _ => true
def knownCells : AV → Bool
  | .agg fs => fs.all oneC
  | a => oneC a

theorem kc_agg (fs : List AV) : knownCells (.agg fs) = fs.all oneC := rfl
theorem kc_v (x : Value) : knownCells (.v x) = oneC (.v x) := rfl
theorem kc_sl (z : Nat) (es : List AV) : knownCells (.sl z es) = true := rfl
theorem oc_sl (z : Nat) (es : List AV) : oneC (.sl z es) = true := rfl
theorem kc_app (s z : Nat) (es : List AV) : knownCells (.app s z es) = true := rfl
theorem oc_app (s z : Nat) (es : List AV) : oneC (.app s z es) = true := rfl
theorem kc_own (s z n : Nat) : knownCells (.own s z n) = true := rfl
theorem oc_own (s z n : Nat) : oneC (.own s z n) = true := rfl
theorem kc_loc (s o : Nat) : knownCells (.loc s o) = true := rfl
theorem oc_loc (s o : Nat) : oneC (.loc s o) = true := rfl
theorem kc_ep (cs : List AV) : knownCells (.ep cs) = true := rfl
theorem oc_ep (cs : List AV) : oneC (.ep cs) = true := rfl
theorem kc_fn (f : FuncId) (cs : List AV) : knownCells (.fn f cs) = true := rfl
theorem oc_fn (f : FuncId) (cs : List AV) : oneC (.fn f cs) = true := rfl
theorem oc_int (k : IntKind) (n : Int) : oneC (.v (.int k n)) = true := rfl
theorem oc_bool (b : Bool) : oneC (.v (.bool b)) = true := rfl
theorem oc_str (s : ByteArray) : oneC (.v (.string s)) = true := rfl
theorem oc_slice (a : Option Addr) (n c : Nat) : oneC (.v (.slice a n c)) = true := rfl
theorem oc_ptr (a : Option Addr) : oneC (.v (.pointer a)) = true := rfl

/-- a struct's cells out of its parts -/
def buildCs (P : Program) (t : TypeId) : List AV → List (Nat × AV) → Option (List AV)
  | cs, [] => some cs
  | cs, (i, x) :: r => match fieldT P t i with
    | some (off, ft) => if x.cells.length = sizeT P ft ∧ off + sizeT P ft ≤ cs.length ∧ knownCells x = true then buildCs P t (cs.take off ++ x.cells ++ cs.drop (off + sizeT P ft)) r else none
    | none => none

def nilP (x : AV) (K : AV → Prop) (_ : Lock K) : Prop :=
  match x with
  | .loc s off => K (.loc s off)
  | .ep cs => K (.ep cs)
  | _ => False
theorem nilP_loc (s off : Nat) : nilP (.loc s off) K l = K (.loc s off) := rfl
theorem nilP_ep (cs : List AV) : nilP (.ep cs) K l = K (.ep cs) := rfl
def intP (x : AV) (K : Int → Prop) (_ : Lock K) : Prop :=
  match x with
  | .v (.int _ n) => K n
  | _ => False
theorem intP_int (k : IntKind) (n : Int) (K : Int → Prop) (l : Lock K) : intP (.v (.int k n)) K l = K n := rfl
def tupP (x : AV) (i : Nat) (K : AV → Prop) (_ : Lock K) : Prop :=
  match x with
  | .tup fs => vc (i < fs.length) (K (fs.getD i .any)) .mk
  | _ => False
theorem tupP_tup (fs : List AV) (i : Nat) : tupP (.tup fs) i K l = vc (i < fs.length) (K (fs.getD i .any)) .mk := rfl
def oneP (z : Option (List Value)) (K : Value → Prop) (_ : Lock K) : Prop :=
  match z with
  | some [z] => K z
  | _ => False
theorem oneP_one (z : Value) (K : Value → Prop) (l : Lock K) : oneP (some [z]) K l = K z := rfl
end

/-- the value is brought into form before it is laid into the frame -/
def valP {α : Type} (x : α) (K : α → Prop) (_ : Lock K) : Prop := K x
theorem valP_go {α : Type} (x : α) (K : α → Prop) (l : Lock K) : valP x K l = K x := rfl

/-- one operation that turns nothing that was there: its value (K); or its value and the block that it makes (B) -/
def fop (P : Program) (ev : Operand → AV) (mem : Nat → Option (List AV)) (d : Nat) (o : Op) (K : AV → Prop) (B : AV → List AV → Prop) (_ : Lock K) (_ : Lock B) : Prop :=
  match o with
  | .move x => K (ev x)
  | .assign x => K (ev x)
  | .pick c a b => pickP (ev c) (ev a) (ev b) K .mk
  | .alloc t => optP (zeroT P t) (fun z => vc (z.all Value.oneCell' = true) (B (.loc d 0) (z.map .v)) .mk) .mk
  | .box _ x => vc (knownCells (ev x) = true) (B (.loc d 0) (ev x).cells) .mk
  | .build t ps => optP (zeroT P t) (fun z => optP (buildCs P t (z.map .v) (ps.toList.map fun p => (p.1, ev p.2))) (fun cs => vc (structT P t = true) (K (.agg cs)) .mk) .mk) .mk
  | .buildSlice t n ps => optP (elemT P t) (fun e => vc (ps.toList.map (·.1) = List.range n ∧ n * sizeT P e ≤ 65536 ∧ (ps.toList.all fun p => decide ((ev p.2).cells.length = sizeT P e) && knownCells (ev p.2)) = true ∧ (zeroT P e).map List.length = some (sizeT P e))
      (B (.own d (sizeT P e) n) (ps.toList.flatMap fun p => (ev p.2).cells)) .mk) .mk
  | .load t a => loadP P mem t (ev a) K .mk
  | .nilCheck x => nilP (ev x) K .mk
  | .binOp op t x y _ => binP P op t (ev x) (ev y) K .mk
  | .unOp op _ x => unP op (ev x) K .mk
  | .makeFunc f first caps => match f with
    | .func f => vc (first.size = 0) (K (.fn f (caps.toList.map ev))) .mk
    | _ => False
  | .makeSlice t l c => optP (elemT P t) (fun e => optP (zeroT P e) (fun z => intP (ev l) (fun n => intP (ev c) (fun n' =>
      vc (n' = n ∧ 0 ≤ n ∧ n ≤ 1099511627776 ∧ bytesT P e ≤ 64 ∧ sizeT P e = z.length ∧ 0 < z.length ∧ z.all Value.oneCell' = true) (B (.own d (sizeT P e) n.toNat) (repC n.toNat (z.map .v))) .mk) .mk) .mk) .mk) .mk
  | .slice t x lo hi mx => match mx with
    | none => sliceP P t (ev x) ((lo.map ev).getD (.i64 0)) ((hi.map ev).getD (ev x).lenV) K .mk
    | some _ => False
  | .fieldAddr t x i => fieldAP (fieldT P t i) (ev x) K .mk
  | .field t x i => fieldP P (fieldT P t i) (ev x) K .mk
  | .indexAddr t x i => indexAP ((elemT P t).map (sizeT P)) (ev x) (ev i) K .mk
  | .index t x i => strIndexP P t (ev x) (ev i) K .mk
  | .extract x i => tupP (ev x) i K .mk
  | .call c => callOp P ev mem c K .mk
  | _ => False

def setCells (cs : List AV) (off : Nat) : List AV → List AV
  | [] => cs
  | x :: r => setCells (cs.set off x) (off + 1) r

def St.setMem (st : St) (s : Nat) (cs : List AV) : St := { st with mem := fun i => if i = s then some cs else st.mem i }

def storeP (st : St) (n : Option Nat) (a x : AV) (K : St → Prop) (_ : Lock K) : Prop :=
  match a with
  | .loc s off => optP (st.mem s) (fun cs => vc (knownCells x = true ∧ n = some x.cells.length ∧ off + x.cells.length ≤ cs.length) (valP (setCells cs off x.cells) (fun cs => K (st.setMem s cs)) .mk) .mk) .mk
  | _ => False
theorem storeP_loc (st : St) (n : Option Nat) (s off : Nat) (x : AV) (K : St → Prop) (l : Lock K) : storeP st n (.loc s off) x K l = optP (st.mem s) (fun cs => vc (knownCells x = true ∧ n = some x.cells.length ∧ off + x.cells.length ≤ cs.length) (valP (setCells cs off x.cells) (fun cs => K (st.setMem s cs)) .mk) .mk) .mk := rfl

/-- the elements of a block that is a slice of one-cell elements, or of one element -/
def grpOf (z z' n : Nat) (cs : Option (List AV)) : Option (List AV) :=
  match cs with
  | some l => if z = 1 then (if z' = 1 ∧ l.length = n then some l else none) else (if n = 1 ∧ z' = z ∧ l.length = z then some [.agg l] else none)
  | none => none
def statsO (cs : Option (List AV)) : Option (List AV) := match cs with | some l => AV.stats l | none => none
/-- the elements that an append's second operand brings -/
def srcP (mem : Nat → Option (List AV)) (z : Nat) (y : AV) (K : List AV → Prop) (_ : Lock K) : Prop :=
  match y with
  | .own s z' n => optP (grpOf z z' n (statsO (mem s))) K .mk
  | .sl z' es => vc (z' = z) (K es) .mk
  | .app _ z' es => vc (z' = z) (K es) .mk
  | .v (.slice none 0 0) => K []
  | _ => False
section
variable (mem : Nat → Option (List AV)) (z : Nat) (K : List AV → Prop) (l : Lock K)
theorem srcP_own (s z' n : Nat) : srcP mem z (.own s z' n) K l = optP (grpOf z z' n (statsO (mem s))) K .mk := rfl
theorem srcP_sl (z' : Nat) (es : List AV) : srcP mem z (.sl z' es) K l = vc (z' = z) (K es) .mk := rfl
theorem srcP_app (s z' : Nat) (es : List AV) : srcP mem z (.app s z' es) K l = vc (z' = z) (K es) .mk := rfl
theorem srcP_nil : srcP mem z (.v (.slice none 0 0)) K l = K [] := rfl
end

def St.setTok (st : St) (s n e : Nat) : St := { st with tok := fun i => if i = s then some (n, e) else st.tok i }

def appP (st : St) (d e : Nat) (z b : Nat) (x : AV) (ys : List AV) (K : AV → St → Prop) (_ : Lock K) : Prop :=
  match x with
  | .v (.slice none 0 0) => vc (ys.length ≤ 1099511627776 ∧ b ≤ 64 ∧ 0 < z) (K (.app d z ys) ((st.kill d).setTok d ys.length e)) .mk
  | .app s z' es => vc (st.tok s = some (es.length, e) ∧ z' = z ∧ es.length + ys.length ≤ 1099511627776 ∧ b ≤ 64 ∧ 0 < z) (K (.app s z (es ++ ys)) ((st.kill s).setTok s (es.length + ys.length) e)) .mk
  | _ => False
theorem appP_nil (st : St) (d e z b : Nat) (ys : List AV) (K : AV → St → Prop) (l : Lock K) : appP st d e z b (.v (.slice none 0 0)) ys K l = vc (ys.length ≤ 1099511627776 ∧ b ≤ 64 ∧ 0 < z) (K (.app d z ys) ((st.kill d).setTok d ys.length e)) .mk := rfl
theorem appP_app (st : St) (d e z b : Nat) (s z' : Nat) (es ys : List AV) (K : AV → St → Prop) (l : Lock K) : appP st d e z b (.app s z' es) ys K l = vc (st.tok s = some (es.length, e) ∧ z' = z ∧ es.length + ys.length ≤ 1099511627776 ∧ b ≤ 64 ∧ 0 < z) (K (.app s z (es ++ ys)) ((st.kill s).setTok s (es.length + ys.length) e)) .mk := rfl

def aop (P : Program) (st : St) (d : Option Nat) (o : Op) (K : St → Prop) : Prop :=
  match o with
  | .store t a x => storeP st (szT P t) (st.ev a) (st.ev x) (fun st' => K (st'.put d .un)) .mk
  | .call c => match c.callee with
    | .builtin .append => match c.args.toList, c.argTypes.toList with
      | [x, y], [t, t'] => vc (t' = t) (optP (elemT P t) (fun e => vc ((zeroT P e).map List.length = some (sizeT P e)) (srcP st.mem (sizeT P e) (st.ev y) (fun ys => appP st (d.getD 0) e (sizeT P e) (bytesT P e) (st.ev x) ys (fun v st' => valP v (fun v => K (st'.put d v)) .mk) .mk) .mk) .mk) .mk) .mk
      | _, _ => False
    | _ => fop P st.ev st.mem (d.getD 0) o (fun v => valP v (fun v => K (st.put d v)) .mk) (fun v cs => valP cs (fun cs => K ((st.addB d cs).put d v)) .mk) .mk .mk
  | _ => fop P st.ev st.mem (d.getD 0) o (fun v => valP v (fun v => K (st.put d v)) .mk) (fun v cs => valP cs (fun cs => K ((st.addB d cs).put d v)) .mk) .mk .mk

/-- is the guarded operation carried out? -/
def guardQ (c : AV) (b : Bool) (A B : Prop) (_ : Lock A) (_ : Lock B) : Prop :=
  match c with
  | .v (.bool c) => match b with
    | true => ifP c A B .mk .mk
    | false => ifP c B A .mk .mk
  | .v (.tuple _) => B
  | _ => False
section
variable (A B : Prop) (l : Lock A) (m : Lock B)
theorem guardQ_t (c : Bool) : guardQ (.v (.bool c)) true A B l m = ifP c A B .mk .mk := rfl
theorem guardQ_f (c : Bool) : guardQ (.v (.bool c)) false A B l m = ifP c B A .mk .mk := rfl
theorem guardQ_un (b : Bool) : guardQ AV.un b A B l m = B := rfl
end
def dstOf (ops : List Oper) (j : Nat) : Option Nat := match ops with | [] => none | o :: r => match j with | 0 => o.dst | j + 1 => dstOf r j
def St.frO (st : St) : Option Nat → AV
  | some t => st.fr t
  | none => .un
def guardP (ops : List Oper) (st : St) (g : Option (Nat × Bool)) (A B : Prop) : Prop :=
  match g with
  | none => A
  | some (j, b) => guardQ (st.frO (dstOf ops j)) b A B .mk .mk

def seqOps (P : Program) (ops : List Oper) : List Oper → St → (St → Prop) → Prop
  | [], st, K => K st
  | o :: r, st, K => guardP ops st o.guard (aop P st o.dst o.op fun st' => seqOps P ops r st' K) (seqOps P ops r (st.put o.dst .un) K)
section
variable (P : Program) (ops r : List Oper) (st : St) (K : St → Prop) (d : Option Nat) (o : Op) (t : TypeId) (p : String) (a : Array Edge)
theorem seqOps_nil : seqOps P ops [] st K = K st := rfl
theorem seqOps_none : seqOps P ops (⟨d, o, t, p, a, none⟩ :: r) st K = aop P st d o fun st' => seqOps P ops r st' K := rfl
theorem seqOps_some (j : Nat) (b : Bool) : seqOps P ops (⟨d, o, t, p, a, some (j, b)⟩ :: r) st K = guardQ (st.frO (dstOf ops j)) b (aop P st d o fun st' => seqOps P ops r st' K) (seqOps P ops r (st.put d .un) K) .mk .mk := rfl
end
theorem dstOf_zero (o : Oper) (r : List Oper) : dstOf (o :: r) 0 = o.dst := rfl
theorem dstOf_succ (o : Oper) (r : List Oper) (j : Nat) : dstOf (o :: r) (j + 1) = dstOf r j := rfl

/-! ### a region that draws its order: the operations that turn nothing, in whatever order; then those that must come last -/
def makesB (o : Op) : Bool := match o with | .alloc _ | .box _ _ | .buildSlice _ _ _ | .makeSlice _ _ _ => true | _ => false
/-- the block that an operation makes gets its slot's number: what that number stood for is forgotten first -/
def killNew : List Oper → St → St
  | [], st => st
  | o :: r, st => match makesB o.op with | true => killNew r (st.kill (o.dst.getD 0)) | false => killNew r st
def St.addN (st : St) (d : Option Nat) (cs : List AV) : St := st.setMem (d.getD 0) cs
/-- memory is read as it was at the region's start; new blocks are added -/
def flowOps (P : Program) (ops : List Oper) (mem0 : Nat → Option (List AV)) : List Oper → St → (St → Prop) → Prop
  | [], st, K => K st
  | o :: r, st, K => guardP ops st o.guard (fop P st.ev mem0 (o.dst.getD 0) o.op (fun v => valP v (fun v => flowOps P ops mem0 r (st.put o.dst v) K) .mk) (fun v cs => valP cs (fun cs => flowOps P ops mem0 r ((st.addN o.dst cs).put o.dst v) K) .mk) .mk .mk) (flowOps P ops mem0 r (st.put o.dst .un) K)
section
variable (P : Program) (ops r : List Oper) (mem0 : Nat → Option (List AV)) (st : St) (K : St → Prop) (d : Option Nat) (o : Op) (t : TypeId) (p : String) (a : Array Edge)
theorem flowOps_nil : flowOps P ops mem0 [] st K = K st := rfl
theorem flowOps_none : flowOps P ops mem0 (⟨d, o, t, p, a, none⟩ :: r) st K = fop P st.ev mem0 (d.getD 0) o (fun v => valP v (fun v => flowOps P ops mem0 r (st.put d v) K) .mk) (fun v cs => valP cs (fun cs => flowOps P ops mem0 r ((st.addN d cs).put d v) K) .mk) .mk .mk := rfl
theorem flowOps_some (j : Nat) (b : Bool) : flowOps P ops mem0 (⟨d, o, t, p, a, some (j, b)⟩ :: r) st K = guardQ (st.frO (dstOf ops j)) b (fop P st.ev mem0 (d.getD 0) o (fun v => valP v (fun v => flowOps P ops mem0 r (st.put d v) K) .mk) (fun v cs => valP cs (fun cs => flowOps P ops mem0 r ((st.addN d cs).put d v) K) .mk) .mk .mk) (flowOps P ops mem0 r (st.put d .un) K) .mk .mk := rfl
end

def isTail (o : Op) : Bool :=
  match o with
  | .store _ _ _ => true
  | .assign _ => true
  | .call c => match c.callee with | .builtin .append => true | _ => false
  | _ => false
/-- the operations ahead of the tail; the tail -/
def headOps : List Oper → List Oper
  | [] => []
  | o :: r => match isTail o.op with | true => [] | false => o :: headOps r
def tailOps : List Oper → List Oper
  | [] => []
  | o :: r => match isTail o.op with | true => o :: r | false => tailOps r

def drawOps (P : Program) (ops hd tl : List Oper) (st : St) (K : St → Prop) : Prop :=
  flowOps P ops (killNew hd st).mem hd (killNew hd st) fun st' => seqOps P ops tl st' K
def drawP (P : Program) (ops hd tl : List Oper) (st : St) (K : St → Prop) (_ : Lock ops) (_ : Lock K) : Prop := drawOps P ops hd tl st K

/-! ### code -/
def thenQ (K : St → Prop) (Q : Exit → St → Prop) : Exit → St → Prop
  | .normal, st => K st
  | e, st => Q e st
def blockQ (id : Nat) (Q : Exit → St → Prop) : Exit → St → Prop
  | .exit id', st => if id' = id then Q .normal st else Q (.exit id') st
  | e, st => Q e st
def condQ (c : AV) (A B : Prop) (_ : Lock A) (_ : Lock B) : Prop :=
  match c with
  | .v (.bool b) => ifP b A B .mk .mk
  | _ => False

def AWP (P : Program) : Code → (Exit → St → Prop) → St → Prop
  | .skip, Q, st => Q .normal st
  | .seq a b, Q, st => AWP P a (thenQ (AWP P b Q) Q) st
  | .cond c x y, Q, st => condQ (st.ev c) (AWP P x Q st) (AWP P y Q st) .mk .mk
  | .block id c, Q, st => AWP P c (blockQ id Q) st
  | .loop c, Q, st => ∃ (I : Nat → St → Prop) (N : Nat), I 0 st ∧ ∀ k st1, k ≤ N → I k st1 → AWP P c (thenQ (fun st' => k < N ∧ I (k + 1) st') Q) st1
  | .exit id, Q, st => Q (.exit id) st
  | .ret, Q, st => Q .ret st
  | .region _ ops true, Q, st => drawOps P ops.toList (headOps ops.toList) (tailOps ops.toList) st (Q .normal)
  | .region _ ops false, Q, st => seqOps P ops.toList ops.toList st (Q .normal)
  | _, _, _ => False

/-- a loop: here the rewriting stands still -/
def LoopP (P : Program) (c : Code) (Q : Exit → St → Prop) (st : St) (_ : Lock c) (_ : Lock Q) : Prop := AWP P (.loop c) Q st
/-- a piece of code at which the rewriting stands still -/
def StopP (P : Program) (c : Code) (Q : Exit → St → Prop) (st : St) (_ : Lock c) (_ : Lock Q) : Prop := AWP P c Q st

section
variable (P : Program) (Q : Exit → St → Prop) (st : St)
theorem AWP_skip : AWP P .skip Q st = Q .normal st := by unfold AWP; rfl
theorem AWP_seq (a b : Code) : AWP P (.seq a b) Q st = AWP P a (thenQ (AWP P b Q) Q) st := by rw [AWP]
theorem AWP_cond (c : Operand) (x y : Code) : AWP P (.cond c x y) Q st = condQ (st.ev c) (AWP P x Q st) (AWP P y Q st) .mk .mk := by rw [AWP]
theorem AWP_block (id : Nat) (c : Code) : AWP P (.block id c) Q st = AWP P c (blockQ id Q) st := by rw [AWP]
theorem AWP_loop (c : Code) : AWP P (.loop c) Q st = LoopP P c Q st .mk .mk := rfl
theorem AWP_exit (id : Nat) : AWP P (.exit id) Q st = Q (.exit id) st := by unfold AWP; rfl
theorem AWP_ret : AWP P .ret Q st = Q .ret st := by unfold AWP; rfl
theorem AWP_seqR (id : Nat) (ops : List Oper) : AWP P (.region id ops.toArray false) Q st = seqOps P ops ops st (Q .normal) := by rw [AWP]
theorem AWP_drawR (id : Nat) (ops : List Oper) : AWP P (.region id ops.toArray true) Q st = drawP P ops (headOps ops) (tailOps ops) st (Q .normal) .mk .mk := by rw [AWP]; rfl
theorem thenQ_normal (K : St → Prop) : thenQ K Q .normal st = K st := rfl
theorem thenQ_exit (K : St → Prop) (id : Nat) : thenQ K Q (.exit id) st = Q (.exit id) st := rfl
theorem thenQ_ret (K : St → Prop) : thenQ K Q .ret st = Q .ret st := rfl
theorem blockQ_exit (id id' : Nat) : blockQ id Q (.exit id') st = if id' = id then Q .normal st else Q (.exit id') st := rfl
theorem blockQ_exit_same (id : Nat) : blockQ id Q (.exit id) st = Q .normal st := if_pos rfl
theorem blockQ_exit_ne (id id' : Nat) (h : (id' == id) = false) : blockQ id Q (.exit id') st = Q (.exit id') st := if_neg (by simpa using h)
theorem blockQ_normal (id : Nat) : blockQ id Q .normal st = Q .normal st := rfl
theorem blockQ_ret (id : Nat) : blockQ id Q .ret st = Q .ret st := rfl
theorem condQ_bool (b : Bool) (A B : Prop) (l : Lock A) (m : Lock B) : condQ (.v (.bool b)) A B l m = ifP b A B .mk .mk := rfl
theorem drawP_go (ops hd tl : List Oper) (K : St → Prop) (l : Lock ops) (m : Lock K) : drawP P ops hd tl st K l m = drawOps P ops hd tl st K := rfl
end
theorem awp_loop {P : Program} {c : Code} {Q : Exit → St → Prop} {st : St} {l : Lock c} {m : Lock Q} (I : Nat → St → Prop) (N : Nat) (h0 : I 0 st)
    (h : ∀ k st1, k ≤ N → I k st1 → AWP P c (thenQ (fun st' => k < N ∧ I (k + 1) st') Q) st1) : LoopP P c Q st l m := by
  unfold LoopP; rw [AWP]; exact ⟨I, N, h0, h⟩

theorem put_fr (st : St) (d i : Nat) (x : AV) : (st.put (some d) x).fr i = if i = d then x else st.fr i := rfl
theorem put_mem (st : St) (d : Option Nat) (x : AV) : (st.put d x).mem = st.mem := by cases d <;> rfl
theorem put_tok (st : St) (d : Option Nat) (x : AV) : (st.put d x).tok = st.tok := by cases d <;> rfl
theorem put_none (st : St) (x : AV) : st.put none x = st := rfl
theorem ev_tmp (st : St) (t : Nat) : st.ev (.tmp t) = st.fr t := rfl
theorem ev_const (st : St) (x : Value) : st.ev (.const x) = .v x := rfl
theorem ev_func (st : St) (f : Nat) : st.ev (.func f) = .fn f [] := rfl
theorem frO_some (st : St) (t : Nat) : st.frO (some t) = st.fr t := rfl
theorem addB_fr (st : St) (d i : Nat) (cs : List AV) : (st.addB (some d) cs).fr i = (st.fr i).kill1 d := rfl
theorem addB_mem (st : St) (d i : Nat) (cs : List AV) : (st.addB (some d) cs).mem i = if i = d then some (cs.map (AV.killAtom d)) else (st.mem i).map (·.map (AV.killAtom d)) := by
  by_cases h : i = d <;> simp [St.addB, St.kill, h]
theorem addB_tok (st : St) (d i : Nat) (cs : List AV) : (st.addB (some d) cs).tok i = if i = d then none else st.tok i := rfl
theorem setMem_fr (st : St) (s : Nat) (cs : List AV) : (st.setMem s cs).fr = st.fr := rfl
theorem setMem_mem (st : St) (s i : Nat) (cs : List AV) : (st.setMem s cs).mem i = if i = s then some cs else st.mem i := rfl
theorem setMem_tok (st : St) (s : Nat) (cs : List AV) : (st.setMem s cs).tok = st.tok := rfl
theorem setTok_fr (st : St) (s n e : Nat) : (st.setTok s n e).fr = st.fr := rfl
theorem setTok_mem (st : St) (s n e : Nat) : (st.setTok s n e).mem = st.mem := rfl
theorem setTok_tok (st : St) (s n e i : Nat) : (st.setTok s n e).tok i = if i = s then some (n, e) else st.tok i := rfl
theorem kill_fr (st : St) (s i : Nat) : (st.kill s).fr i = (st.fr i).kill1 s := rfl
theorem kill_mem (st : St) (s i : Nat) : (st.kill s).mem i = if i = s then none else (st.mem i).map (·.map (AV.killAtom s)) := rfl
theorem kill_tok (st : St) (s i : Nat) : (st.kill s).tok i = if i = s then none else st.tok i := rfl
theorem kill1_v (s : Nat) (x : Value) : (AV.v x).kill1 s = .v x := rfl
theorem kill1_sl (s z : Nat) (es : List AV) : (AV.sl z es).kill1 s = .sl z es := rfl
theorem kill1_ep (s : Nat) (es : List AV) : (AV.ep es).kill1 s = .ep es := rfl
theorem kill1_any (s : Nat) : AV.any.kill1 s = .any := rfl
theorem kill1_loc (s s' o : Nat) : (AV.loc s' o).kill1 s = if s' = s then .any else .loc s' o := rfl
theorem kill1_own (s s' z n : Nat) : (AV.own s' z n).kill1 s = if s' = s then .any else .own s' z n := rfl
theorem kill1_app (s s' z : Nat) (es : List AV) : (AV.app s' z es).kill1 s = if s' = s then .sl z es else .app s' z es := rfl
theorem kill1_agg (s : Nat) (fs : List AV) : (AV.agg fs).kill1 s = .agg (fs.map (AV.killAtom s)) := rfl
theorem kill1_tup (s : Nat) (fs : List AV) : (AV.tup fs).kill1 s = .any := rfl
theorem kill1_fn (s f : Nat) (caps : List AV) : (AV.fn f caps).kill1 s = .fn f (caps.map (AV.killAtom s)) := rfl
theorem killA_v (s : Nat) (x : Value) : AV.killAtom s (.v x) = .v x := rfl
theorem killA_sl (s z : Nat) (es : List AV) : AV.killAtom s (.sl z es) = .sl z es := rfl
theorem killA_loc (s s' o : Nat) : AV.killAtom s (.loc s' o) = if s' = s then .any else .loc s' o := rfl
theorem killA_own (s s' z n : Nat) : AV.killAtom s (.own s' z n) = if s' = s then .any else .own s' z n := rfl
theorem killA_app (s s' z : Nat) (es : List AV) : AV.killAtom s (.app s' z es) = if s' = s then .sl z es else .app s' z es := rfl
theorem killA_ep (s : Nat) (es : List AV) : AV.killAtom s (.ep es) = .ep es := rfl
theorem cells_agg (fs : List AV) : (AV.agg fs).cells = fs := rfl
theorem cells_v (x : Value) : (AV.v x).cells = [.v x] := rfl
theorem cells_sl (z : Nat) (es : List AV) : (AV.sl z es).cells = [.sl z es] := rfl
theorem cells_app (s z : Nat) (es : List AV) : (AV.app s z es).cells = [.app s z es] := rfl
theorem cells_own (s z n : Nat) : (AV.own s z n).cells = [.own s z n] := rfl

/-! ### how the goals are brought into form -/
theorem wrap64_id {x : Int} (h : -9223372036854775808 ≤ x ∧ x ≤ 9223372036854775807) : IntKind.i64.wrap x = x := IntWalk.i64_in _ h
theorem lt_true {a b : Int} (h : a < b) : decide (a < b) = true := by simpa using h
theorem lt_false {a b : Int} (h : b ≤ a) : decide (a < b) = false := by simp; omega
theorem le_true {a b : Int} (h : a ≤ b) : decide (a ≤ b) = true := by simpa using h
theorem le_false {a b : Int} (h : b < a) : decide (a ≤ b) = false := by simp; omega
theorem eq_true {a b : Int} (h : a = b) : (a == b) = true := by simpa using h
theorem eq_false {a b : Int} (h : a ≠ b) : (a == b) = false := by simpa using h
theorem ne_true {a b : Int} (h : a ≠ b) : (a != b) = true := by simpa using h
theorem ne_false {a b : Int} (h : a = b) : (a != b) = false := by simpa using h
theorem getD_map {α β : Type} (f : α → β) (l : List α) (k : Nat) (d : β) (h : k < l.length) : (l.map f).getD k d = f (l[k]) := by
  simp [List.getD, h]

end Go.AM
