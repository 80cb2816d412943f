/- An abstract evaluator for the loaded code: values are trees, memory is a short list of objects. Definitions alone; that what it says is what the machine does is proved in the files behind this one. -/
import Derived.Calls
import Derived.Scope
set_option linter.unusedVariables false
set_option linter.unusedSimpArgs false
namespace Go.Ab
open Go

/-- what never changes any more: a plain value, or what a slice reads as (its elements, each by its cells) -/
inductive D where
  | sc (v : Value)
  | lst (nl : Bool) (es : List (List D))
  deriving Inhabited

/-- what one cell holds -/
inductive C where
  | d (x : D)
  | own (nl : Bool) (es : List (List D)) (k : Nat)
  | slc (k off sz len : Nat) (cap : Option Nat)
  | ptr (k off : Nat)
  | cptr (cs : List D) (off : Nat)
  | mp (k : Nat)
  | it (k : Nat)
  | fn (f : FuncId) (caps : List (Nat × Nat))
  | any
  /-- a list of the frame's own, that is not put anywhere -/
  | nw (es : List (List D))
  deriving Inhabited

inductive V1 where
  | c (x : C)
  | agg (cs : List C)
  deriving Inhabited

inductive AV where
  | v (x : V1)
  | tup (xs : List V1)
  | dead
  deriving Inhabited

inductive Ob where
  | cells (cs : List C)
  | row (n sz : Nat)
  | amap (kvs : List (Value × V1))
  | siter (s : ByteArray) (pos : Nat)
  | gone
  deriving Inhabited

abbrev Heap := List Ob

structure St where
  sl : Nat → AV
  hp : Heap

inductive Ex where
  | normal
  | exit (id : Nat)
  | goto (l : Nat)
  | ret
  deriving DecidableEq

/-- what a loop's head does to a slot that lives on -/
inductive Co where
  | keep | freeze | own
  deriving DecidableEq

structure Env where
  P : Program
  /-- the slots that live at a loop's head: by function and the first region's number in the loop -/
  live : FuncId → Nat → List (Nat × Co)
  /-- positions at which what is made is written later -/
  hard : String → Bool
  /-- positions at which what is made is appended to later -/
  row : String → Bool
  /-- functions without a body, over plain values -/
  ext : FuncId → List Value → Option Value
  /-- cells that are known from the start; what a package variable holds, of them -/
  base : Nat → Nat → Option Value
  glob : Nat → Option (List D)
  /-- functions whose own slices are handed back as objects -/
  hand : FuncId → Bool
  /-- functions that are told by a contract of their own -/
  prim : FuncId → Option (List V1 → Heap → Option (AV × Heap))
  /-- functions without a body, that ask memory -/
  extp : FuncId → Option (List V1 → Heap → Option (AV × Heap)) := fun _ => none
  /-- positions at which what is made is only marked, and then never changes -/
  nw : String → Bool := fun _ => false
  /-- positions at which a variable is made that is a list of the call's own from the start -/
  aown : String → Bool := fun _ => false
  /-- functions that are handed slices of the call's own as such -/
  keep : FuncId → Bool := hand

abbrev AV.sc (x : Value) : AV := .v (.c (.d (.sc x)))
abbrev AV.int (k : IntKind) (n : Int) : AV := .v (.c (.d (.sc (.int k n))))
abbrev AV.bool (b : Bool) : AV := .v (.c (.d (.sc (.bool b))))
abbrev AV.str (s : ByteArray) : AV := .v (.c (.d (.sc (.string s))))
abbrev AV.lst (nl : Bool) (es : List (List D)) : AV := .v (.c (.d (.lst nl es)))

def upd (s : Nat → AV) (i : Nat) (v : AV) : Nat → AV := fun j => if j = i then v else s j
def putO (s : Nat → AV) (d : Option Nat) (v : AV) : Nat → AV :=
  match d with
  | some i => upd s i v
  | none => s

/-- a step of the machine that asks nothing of memory -/
def evalS (P : Program) {α : Type} : Sem α → Option α
  | .pure a => some a
  | .program k => evalS P (k P)
  | _ => none

def szP (P : Program) (t : TypeId) : Option Nat := (P.info? t).map (·.size)
def bytesP (P : Program) (t : TypeId) : Option Nat := (P.info? t).map (·.bytes)
def zeroP (P : Program) (t : TypeId) : Option Value := (P.info? t).bind (·.zero)
def aggP (P : Program) (t : TypeId) : Option Bool :=
  (P.underlying t).map fun | .struct _ => true | .array _ _ => true | _ => false

/-- a value of one cell that leads nowhere -/
def plain : Value → Bool
  | .bool _ | .int _ _ | .float _ _ | .complex _ _ _ | .string _ | .pointer none | .map none | .chan none | .nilFunc | .nilIface => true
  | .func _ f c => f.isEmpty && c.isEmpty
  | .iface _ v => plain v
  | _ => false

def ofV1 : Value → Option C
  | .slice none 0 0 => some (.d (.lst true []))
  | v => if plain v then some (.d (.sc v)) else none
def ofV : Value → Option V1
  | .agg cs => (cs.toList.mapM ofV1).map .agg
  | v => (ofV1 v).map .c
def toV1 : C → Option Value
  | .d (.sc v) => some v
  | .d (.lst true []) => some (.slice none 0 0)
  | _ => none
def toV : V1 → Option Value
  | .c x => toV1 x
  | .agg cs => (cs.mapM toV1).map fun l => .agg l.toArray
def AV.toV : AV → Option Value
  | .v x => Ab.toV x
  | _ => none

def V1.cells : V1 → List C
  | .c x => [x]
  | .agg cs => cs
def mkV (agg : Bool) (cs : List C) : Option V1 :=
  if agg then some (.agg cs) else match cs with
    | [x] => some (.c x)
    | _ => none

def ev (s : Nat → AV) : Operand → Option AV
  | .tmp t => some (s t)
  | .const v => (ofV v).map .v
  | .global _ => none
  | .func f => some (.sc (.func (.func f) #[] #[]))
def ev1 (s : Nat → AV) (o : Operand) : Option V1 := match ev s o with | some (.v x) => some x | _ => none
def evC (s : Nat → AV) (o : Operand) : Option C := match ev s o with | some (.v (.c x)) => some x | _ => none
def evI (s : Nat → AV) (o : Operand) : Option Int := match ev s o with | some (.v (.c (.d (.sc (.int _ n))))) => some n | _ => none

/-- what a cell reads as, if it leads to nothing that may change -/
def C.toD : C → Option D
  | .d x => some x
  | .own nl es _ => some (.lst nl es)
  | _ => none
/-- what a slice reads as -/
def C.list : C → Option (Bool × List (List D))
  | .d (.lst nl es) => some (nl, es)
  | .own nl es _ => some (nl, es)
  | _ => none

def wr : List C → Nat → List C → List C
  | [], _, _ => []
  | c :: cs, 0, [] => c :: cs
  | _ :: cs, 0, x :: xs => x :: wr cs 0 xs
  | c :: cs, off + 1, xs => c :: wr cs off xs

def chunk {α : Type} (size : Nat) : Nat → List α → List (List α)
  | 0, _ => []
  | n + 1, l => l.take size :: chunk size n (l.drop size)

/-- the elements of a slice over an object -/
def slcCells (hp : Heap) (k off n : Nat) : Option (List C) :=
  match hp[k]? with
  | some (.cells cs) => if off + n ≤ cs.length then some ((cs.drop off).take n) else none
  | _ => none
def listOf (hp : Heap) : C → Option (List (List D))
  | .slc k off sz len _ => (slcCells hp k off (len * sz)).bind fun cs => (cs.mapM C.toD).map (chunk sz len)
  | x => x.list.map (·.2)

def byteOf : D → Option UInt8
  | .sc (.int .u8 n) => some (UInt8.ofNat n.toNat)
  | _ => none
def bytesOf (es : List (List D)) : Option (List UInt8) := es.mapM fun e => match e with | [x] => byteOf x | _ => none
def encB (bs : List UInt8) : List (List D) := bs.map fun b => [.sc (.int .u8 b.toNat)]

def sameK : Value → Value → Option Bool
  | .int k a, .int k' b => if k = k' then some (a == b) else none
  | .string a, .string b => some (a == b)
  | .bool a, .bool b => some (a == b)
  | _, _ => none
/-- a key of a type whose keys are compared at sight -/
def keyOk : TypeDesc → Value → Bool
  | .int _, .int _ _ | .string, .string _ | .bool, .bool _ => true
  | _, _ => false
def findK (k : Value) : List (Value × V1) → Option (Option V1)
  | [] => some none
  | e :: es => match sameK k e.1 with
    | some true => some (some e.2)
    | some false => findK k es
    | none => none
def putK (k : Value) (v : V1) : List (Value × V1) → List (Value × V1)
  | [] => [(k, v)]
  | e :: es => if sameK k e.1 = some true then (k, v) :: es else e :: putK k v es

/-! ### names -/
def C.refs : C → List Nat
  | .own _ _ k | .slc k _ _ _ _ | .ptr k _ | .mp k | .it k => [k]
  | .fn _ caps => caps.map (·.1)
  | _ => []
def V1.refs (x : V1) : List Nat := x.cells.flatMap C.refs
def AV.refs : AV → List Nat
  | .v x => x.refs
  | .tup xs => xs.flatMap V1.refs
  | .dead => []
/-- cells that lead nowhere -/
def C.isD : C → Bool
  | .d _ => true
  | _ => false
def plainCs (cs : List C) : Bool := cs.all C.isD
def Ob.refs : Ob → List Nat
  | .cells cs => if plainCs cs then [] else cs.flatMap C.refs
  | .amap kvs => kvs.flatMap fun e => e.2.refs
  | _ => []
def close (hp : Heap) : Nat → List Nat → List Nat → List Nat
  | 0, seen, _ => seen
  | _ + 1, seen, [] => seen
  | n + 1, seen, k :: ks => if k ∈ seen then close hp n seen ks else close hp n (seen ++ [k]) ((hp.getD k (.row 0 0)).refs ++ ks)

def fuelR : Nat := 1000
/-- the names of the caller, and all that they and some others lead to -/
def closeM (m : Nat) (hp : Heap) (l : List Nat) : List Nat := close hp (fuelR + hp.length) (List.range m) ((List.range m).flatMap (fun k => (hp.getD k (.row 0 0)).refs) ++ l)

def C.ren (τ : Nat → Option Nat) : C → Option C
  | .d x => some (.d x)
  | .own nl es k => (τ k).map (.own nl es)
  | .slc k off sz len cap => (τ k).map fun k' => .slc k' off sz len cap
  | .ptr k off => (τ k).map fun k' => .ptr k' off
  | .cptr cs off => some (.cptr cs off)
  | .mp k => (τ k).map .mp
  | .it k => (τ k).map .it
  | .fn f caps => (caps.mapM fun p => (τ p.1).map fun k' => (k', p.2)).map (.fn f)
  | .any => some .any
  | .nw _ => none
def V1.ren (τ : Nat → Option Nat) : V1 → Option V1
  | .c x => (x.ren τ).map .c
  | .agg cs => (cs.mapM (C.ren τ)).map .agg
def AV.ren (τ : Nat → Option Nat) : AV → Option AV
  | .v x => (x.ren τ).map .v
  | .tup xs => (xs.mapM (V1.ren τ)).map .tup
  | .dead => some .dead
def renCs (τ : Nat → Option Nat) (cs : List C) : Option (List C) := if plainCs cs then some cs else cs.mapM (C.ren τ)
def Ob.ren (τ : Nat → Option Nat) : Ob → Option Ob
  | .cells cs => (renCs τ cs).map .cells
  | .row n sz => some (.row n sz)
  | .amap kvs => (kvs.mapM fun (e : Value × V1) => (e.2.ren τ).map fun x => (e.1, x)).map .amap
  | .siter s p => some (.siter s p)
  | .gone => some .gone

/-- the heap of the names in σ alone, in their order -/
def restrict (σ : List Nat) (hp : Heap) : Option Heap := σ.mapM fun k => (hp[k]?).bind (Ob.ren fun j => σ.idxOf? j)


/-- a slice over an object of the call's own is handed back as what it reads as; the objects that are given up -/
def C.freeze (hp : Heap) (m : Nat) : C → Option (C × List Nat)
  | .slc k off sz len cap => if k < m then some (.slc k off sz len cap, []) else (listOf hp (.slc k off sz len cap)).map fun es => (.d (.lst false es), [k])
  | x => some (x, [])
def freezeAll (hp : Heap) (m : Nat) : List C → Option (List C × List Nat)
  | [] => some ([], [])
  | c :: cs => (c.freeze hp m).bind fun r => (freezeAll hp m cs).map fun q => (r.1 :: q.1, r.2 ++ q.2)
def V1.freeze (hp : Heap) (m : Nat) : V1 → Option (V1 × List Nat)
  | .c x => (x.freeze hp m).map fun r => (.c r.1, r.2)
  | .agg cs => (freezeAll hp m cs).map fun r => (.agg r.1, r.2)
def freezeVs (hp : Heap) (m : Nat) : List V1 → Option (List V1 × List Nat)
  | [] => some ([], [])
  | c :: cs => (c.freeze hp m).bind fun r => (freezeVs hp m cs).map fun q => (r.1 :: q.1, r.2 ++ q.2)
def AV.freeze (hp : Heap) (m : Nat) : AV → Option (AV × List Nat)
  | .v x => (x.freeze hp m).map fun r => (.v r.1, r.2)
  | .tup xs => (freezeVs hp m xs).map fun r => (.tup r.1, r.2)
  | .dead => some (.dead, [])

end Go.Ab
