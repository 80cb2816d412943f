/- The abstract evaluator, part three: code, calls, and their limit. Definitions alone. -/
import Derived.Test.YteenmbcmgcnkmaaGreatDoorAb2
set_option linter.unusedVariables false
set_option linter.unusedSimpArgs false
namespace Go.Ab
open Go

/-- a slice handed to a callee is handed to be read -/
def C.ro : C → C
  | .own nl es _ => .d (.lst nl es)
  | x => x
def V1.ro : V1 → V1
  | .c x => .c x.ro
  | .agg cs => .agg (cs.map C.ro)

/-- a call, told by what the callee does to the objects that it can reach -/
def roA (keep : Bool) (args : List V1) : List V1 := if keep then args else args.map V1.ro
def viaCall (keep : Bool) (call : List V1 → Heap → Option (AV × Heap)) (args : List V1) (hp : Heap) : Option (AV × Heap) := do
  let as := roA keep args
  let σ := close hp fuelR [] (as.flatMap V1.refs)
  let as' ← as.mapM (V1.ren fun j => σ.idxOf? j)
  let h ← restrict σ hp
  let (v, h') ← call as' h
  let τ : Nat → Option Nat := fun i => some (if i < σ.length then σ.getD i 0 else hp.length + (i - σ.length))
  let h2 ← h'.mapM (Ob.ren τ)
  let v' ← v.ren τ
  some (v', (σ.zip h2).foldl (fun acc p => acc.set p.1 p.2) hp ++ h2.drop σ.length)

abbrev Caller := FuncId → List V1 → Heap → Option (AV × Heap)

/-- does a call of it enter a body? -/
def entersB (P : Program) (g : FuncId) : Option Bool := (P.funcs[g]?).map fun fn => fn.body.isSome && !(fn.name == "runtime.NumGoroutine")

def opCall (E : Env) (call : Caller) (s : Nat → AV) (hp : Heap) (c : Call) : Option (AV × Heap) :=
  match c.callee with
  | .value f =>
    (c.args.toList.mapM (ev1 s)).bind fun args =>
    match ev s f with
    | some (.v (.c (.d (.sc (.func (.func g) fi ca))))) =>
      if fi.isEmpty && ca.isEmpty then
        match entersB E.P g with
        | some true => match E.prim g with
          | some p => viaCall (E.keep g) p args hp
          | none => viaCall (E.keep g) (call g) args hp
        | _ => match E.extp g with
          | some p => p args hp
          | none => (args.mapM toV).bind fun vs => (E.ext g vs).bind fun r => (ofV r).map fun z => (.v z, hp)
      else none
    | some (.v (.c (.fn g caps))) =>
      match entersB E.P g with
      | some true => viaCall (E.keep g) (call g) (args ++ caps.map fun p => .c (.ptr p.1 p.2)) hp
      | _ => none
    | _ => none
  | _ => none

def isCall (o : Oper) : Bool := match o.op with | .call c => (match c.callee with | .value _ => true | _ => false) | _ => false

/-- an operation on a package variable: read through a slot that is none of the frame's -/
@[irreducible] def bigT : Nat := 1000000007
def globOf : Op → Option (Nat × Op)
  | .load t (.global g) => some (g, .load t (.tmp bigT))
  | .indexAddr t (.global g) (.tmp i) => if Nat.beq i bigT then none else some (g, .indexAddr t (.tmp bigT) (.tmp i))
  | .indexAddr t (.global g) (.const v) => some (g, .indexAddr t (.tmp bigT) (.const v))
  | .fieldAddr t (.global g) f => some (g, .fieldAddr t (.tmp bigT) f)
  | _ => none

/-- one operation -/
def stepA (E : Env) (call : Caller) (s : Nat → AV) (hp : Heap) (o : Oper) : Option (AV × Heap) :=
  match o.op with
  | .call c => (match c.callee with | .value _ => opCall E call s hp c | _ => dop E s hp o)
  | _ => match globOf o.op with
    | some (g, op') => (E.glob g).bind fun cs => dop E (upd s bigT (.v (.c (.cptr cs 0)))) hp ⟨o.dst, op', o.type, o.pos, o.after, o.guard⟩
    | none => dop E s hp o

/-- is a guarded operation wanted? none: not told -/
def wantA (ops : List Oper) (s : Nat → AV) (o : Oper) : Option Bool :=
  match o.guard with
  | none => some true
  | some (j, want) => match (ops[j]?).bind (·.dst) with
    | some d => match s d with
      | .v (.c (.d (.sc (.bool b)))) => some (b == want)
      | .tup [] => some false
      | _ => none
    | none => none

def runOps (E : Env) (call : Caller) (all : List Oper) : List Oper → St → Option St
  | [], st => some st
  | o :: os, st =>
    match wantA all st.sl o with
    | some true => match stepA E call st.sl st.hp o with
      | some (v, h) => runOps E call all os ⟨putO st.sl o.dst v, h⟩
      | none => none
    | some false => runOps E call all os ⟨putO st.sl o.dst (.tup []), st.hp⟩
    | none => none

/-! ### a region that draws its order -/
/-- operations that ask only the slots (and a load: also one cell), and leave memory as it is -/
def neutral (P : Program) : Op → Bool
  | .move _ | .assign _ | .pick .. | .binOp .. | .unOp .. | .fieldAddr .. | .field .. | .indexAddr .. | .index .. | .extract .. | .nilCheck _ | .makeInterface .. | .load .. => true
  | .slice _ _ _ _ none => true
  | .call c => (match c.callee, c.argTypes.toList with
    | .builtin .len, t :: _ => (match P.underlying t with | some (.map _ _) => false | some _ => true | none => false)
    | _, _ => false)
  | _ => false
/-- neutral, and no package variable's: also a slice that is made and never changes, and a look into a map -/
def neutralO (E : Env) (o : Oper) : Bool := match o.op with
  | .buildSlice .. => !(E.hard o.pos) && !(E.row o.pos)
  | .lookup .. | .build .. => true
  | .convert _ d _ => (match E.P.underlying d with
    | some (.slice _) => !(E.hard o.pos) && !(E.row o.pos)
    | some _ => true
    | none => false)
  | op => neutral E.P op
def neutralG (E : Env) (o : Oper) : Bool := (globOf o.op).isNone && neutralO E o
def lookL (all : List Oper) (o : Oper) : List Nat :=
  (o.op.operands.toList.filterMap fun | .tmp t => some t | _ => none) ++
  (match o.guard with
   | some (g, _) => ((all[g]?).bind (·.dst)).toList
   | none => [])
def restr (L : List Nat) (s : Nat → AV) : Nat → AV := fun t => if L.contains t then s t else .dead
/-- x, y read not what the other one puts, and put not into one slot -/
def apartB (all : List Oper) (x y : Oper) : Bool :=
  (match x.dst with | some d => !(lookL all y).contains d && (match y.dst with | some e => e != d | none => true) | none => true) &&
  (match y.dst with | some d => !(lookL all x).contains d | none => true)
def addTo (a : List Nat) (l : List Nat) : List Nat := l.foldl (fun a k => if a.contains k then a else k :: a) a
/-- the operations that must come before, each row from those of smaller number -/
def befores : List Oper → List (List Nat) → List (List Nat)
  | [], T => T
  | o :: os, T => befores os (T ++ [o.after.toList.foldl (fun a e => if Region.binds .text e && Region.binds .gc e then addTo a (e.on :: T.getD e.on []) else a) []])
def strongB (e : Edge) : Bool := Region.binds .text e && Region.binds .gc e && Region.binds .any e
def beforesOk (all : List Oper) (T : List (List Nat)) : Bool :=
  (List.range all.length).all fun i => match all[i]? with
    | some o => (o.after.toList.all fun e => !(strongB e) || decide (e.on < i)) &&
        (T.getD i []).all fun k => o.after.toList.any fun e => strongB e && (e.on == k || (T.getD e.on []).contains k)
    | none => true
/-- which comes before which: a rank of each operation by the edges that bind in an order -/
def ranks (md : Region.Mode) (ops : List Oper) : List Nat := (List.range ops.length).foldl (fun r _ => ops.map fun o => o.after.toList.foldl (fun a e => if Region.binds md e then max a (r.getD e.on 0 + 1) else a) 0) []
def rankOk (md : Region.Mode) (ops : List Oper) (r : List Nat) : Bool :=
  (List.range ops.length).all fun i => match ops[i]? with
    | some o => o.after.toList.all fun e => !(Region.binds md e) || (decide (e.on < ops.length) && decide (r.getD e.on 0 < r.getD i 0))
    | none => true
/-- in each order something comes next -/
def goesOn (ops : List Oper) : Bool :=
  ((List.range ops.length).all fun i => match ops[i]? with
    | some o => o.after.toList.all fun e => decide (e.on < i)
    | none => true) || (rankOk .text ops (ranks .text ops) && rankOk .gc ops (ranks .gc ops) && rankOk .any ops (ranks .any ops))
def pairsOk (E : Env) (all : List Oper) (T : List (List Nat)) (i0 : Nat) : Bool :=
  (List.range all.length).all fun j => (List.range j).all fun i => (T.getD j []).contains i || (match all[i]?, all[j]? with
    | some x, some y => apartB all x y && (neutralG E x || neutralG E y || j == i0)
    | _, _ => true)
/-- an unguarded 'alloc' into a slot -/
def isAl (E : Env) (o : Oper) : Bool := (match o.op with | .alloc _ => true | _ => false) && o.guard.isNone && o.dst.isSome && !(E.aown o.pos)
/-- a new variable's place, made before or behind what acts ahead of it in the text -/
def allocAt (E : Env) (all : List Oper) (T : List (List Nat)) : Nat :=
  ((List.range all.length).find? fun i => match all[i]? with
    | some o => isAl E o && (List.range i).any fun k => !(T.getD i []).contains k && (match all[k]? with | some x => !(neutralG E x) | none => false)
    | none => false).getD all.length
/-- what uses it comes behind all that acts ahead of it in the text -/
def laterOk (E : Env) (all : List Oper) (T : List (List Nat)) (i0 : Nat) : Bool :=
  (List.range all.length).all fun j => !(T.getD j []).contains i0 || (List.range i0).all fun k =>
    (T.getD i0 []).contains k || (T.getD j []).contains k || (match all[k]? with | some x => neutralG E x | none => true)
def allocOk (E : Env) (all : List Oper) (i0 : Nat) : Bool := match all[i0]? with
  | some o => isAl E o
  | none => true
def drawOk (E : Env) (ops : List Oper) : Bool :=
  let T := befores ops []
  let i0 := allocAt E ops T
  goesOn ops && beforesOk ops T && pairsOk E ops T i0 && laterOk E ops T i0 && allocOk E ops i0
def isLoad (o : Oper) : Bool := match o.op with | .load .. | .lookup .. | .convert .. => true | _ => false
/-- the loads that may come before or behind what acts -/
def floats (E : Env) (ops : List Oper) : List (Nat × Nat) :=
  let T := befores ops []
  (List.range ops.length).flatMap fun i => match ops[i]? with
    | some x => if isLoad x then (List.range ops.length).filterMap fun j => (match ops[j]? with
        | some y => if neutralG E y || (T.getD j []).contains i || (T.getD i []).contains j then none else some (i, j)
        | none => none) else []
    | none => []

/-! is it the same? (false: not told) -/
def eqV : Value → Value → Bool
  | .bool a, .bool b => a == b
  | .int k a, .int k' b => decide (k = k') && a == b
  | .string a, .string b => a.data.toList == b.data.toList
  | .pointer none, .pointer none | .map none, .map none | .nilFunc, .nilFunc | .nilIface, .nilIface => true
  | .func (.func f) a c, .func (.func g) b d => f == g && a.isEmpty && b.isEmpty && c.isEmpty && d.isEmpty
  | _, _ => false
def eqL {α : Type} (f : α → α → Bool) : List α → List α → Bool
  | [], [] => true
  | a :: l, b :: m => f a b && eqL f l m
  | _, _ => false
def eqD : Nat → D → D → Bool
  | _, .sc a, .sc b => eqV a b
  | n + 1, .lst a es, .lst b fs => a == b && eqL (eqL (eqD n)) es fs
  | _, _, _ => false
def eqC : C → C → Bool
  | .d x, .d y => eqD 9 x y
  | .own a es k, .own b fs j => a == b && k == j && eqL (eqL (eqD 9)) es fs
  | .slc k o s l c, .slc k' o' s' l' c' => k == k' && o == o' && s == s' && l == l' && c == c'
  | .ptr k o, .ptr k' o' => k == k' && o == o'
  | .mp k, .mp k' => k == k'
  | .it k, .it k' => k == k'
  | .fn f c, .fn g d => f == g && c == d
  | _, _ => false
def eqV1 : V1 → V1 → Bool
  | .c x, .c y => eqC x y
  | .agg a, .agg b => eqL eqC a b
  | _, _ => false
def eqOb : Ob → Ob → Bool
  | .cells a, .cells b => eqL eqC a b
  | .row n s, .row n' s' => n == n' && s == s'
  | .amap a, .amap b => eqL (fun x y => eqV x.1 y.1 && eqV1 x.2 y.2) a b
  | .siter s p, .siter s' p' => s.data.toList == s'.data.toList && p == p'
  | _, _ => false
def eqO : Option Ob → Option Ob → Bool
  | some a, some b => eqOb a b
  | none, none => true
  | _, _ => false
abbrev Foot := Option (List Nat) × Nat × (Nat → Bool)
def foot0 (R : List Nat) : Foot := (some R, 0, fun _ => true)
/-- may it have changed? (an 'append' changes what its own slice leads to, at most) -/
def chgA (s : Nat → AV) (hp hp' : Heap) (o : Oper) (k : Nat) : Bool :=
  match o.op with
  | .call c => (match c.callee, c.args.toList with
    | .builtin .append, a0 :: _ => (match ev1 s a0 with
      | some v => v.refs.contains k && !(eqO hp[k]? hp'[k]?)
      | none => true)
    | _, _ => !(eqO hp[k]? hp'[k]?))
  | _ => !(eqO hp[k]? hp'[k]?)
def footA (E : Env) (s : Nat → AV) (hp hp' : Heap) (o : Oper) : Foot :=
  if neutralG E o then foot0 (match o.op with
    | .load _ a => (match evC s a with | some (.ptr k _) => [k] | _ => [])
    | .lookup _ x _ _ => (match evC s x with | some (.mp k) => [k] | _ => [])
    | .convert _ _ x => (match evC s x with | some (.slc k _ _ _ _) => [k] | _ => [])
    | _ => [])
  else (none, hp.length, chgA s hp hp' o)
/-- what the one reads the other one leaves as it was -/
def pairOk (r w : Foot) : Bool :=
  match r.1 with
  | some R => R.all fun k => decide (k < w.2.1) && !(w.2.2 k)
  | none => false
def coreA (E : Env) (call : Caller) (all : List Oper) (s : Nat → AV) (hp : Heap) (o : Oper) : Option (AV × Heap) :=
  match wantA all s o with
  | some true => stepA E call s hp o
  | some false => some (.tup [], hp)
  | none => none
def stepR (E : Env) (call : Caller) (all : List Oper) (o : Oper) (st : St) : Option St :=
  (coreA E call all (restr (lookL all o) st.sl) st.hp o).map fun r => ⟨putO st.sl o.dst r.1, r.2⟩
def runD (E : Env) (call : Caller) (all : List Oper) : List Oper → St → Option (St × List Foot)
  | [], st => some (st, [])
  | o :: os, st => (stepR E call all o st).bind fun st1 => (runD E call all os st1).map fun r => (r.1, footA E (restr (lookL all o) st.sl) st.hp st1.hp o :: r.2)
def runDraw (E : Env) (call : Caller) (ops : List Oper) (st : St) : Option St :=
  (runD E call ops ops st).bind fun r => if (floats E ops).all (fun p => pairOk (r.2.getD p.1 (foot0 [])) (r.2.getD p.2 (foot0 []))) then some r.1 else none

def coerceC (m : Nat) (hp : Heap) : Co → C → Option (C × Heap × List Nat)
  | .freeze, .own nl es _ => some (.d (.lst nl es), hp, [])
  | .freeze, x => (x.freeze hp m).map fun r => (r.1, hp, r.2)
  | .own, .d (.lst true []) => some (.own true [] hp.length, hp ++ [.row 0 0], [])
  | _, x => some (x, hp, [])
def coerce (m : Nat) (hp : Heap) (co : Co) : AV → Option (AV × Heap × List Nat)
  | .v (.c x) => (coerceC m hp co x).map fun r => (.v (.c r.1), r.2.1, r.2.2)
  | x => some (x, hp, [])
def coerceAll (m : Nat) (s : Nat → AV) : List (Nat × Co) → Heap → Option (List AV × Heap × List Nat)
  | [], hp => some ([], hp, [])
  | (i, co) :: r, hp => (coerce m hp co (s i)).bind fun x => (coerceAll m s r x.2.1).map fun y => (x.1 :: y.1, y.2.1, x.2.2 ++ y.2.2)

/-- a loop's head: what lives on, and the objects that it leads to -/
def canon (m : Nat) (L : List (Nat × Co)) (st : St) : Option (List AV × Heap) :=
  (coerceAll m st.sl L st.hp).bind fun r =>
    let σ := closeM m r.2.1 (r.1.flatMap AV.refs)
    if σ.take m = List.range m ∧ r.2.2.all (fun k => !σ.contains k) then
      (r.1.mapM (AV.ren fun j => σ.idxOf? j)).bind fun vs => (restrict σ r.2.1).map fun h => (vs, h)
    else none
def slots : List (Nat × Co) → List AV → Nat → AV
  | (i, _) :: r, v :: vs => upd (slots r vs) i v
  | _, _ => fun _ => .dead

abbrev X := Option Nat × List AV × Heap
abbrev It := (X → Option (X ⊕ (Ex × St))) → X → Option (Ex × St)

/-- a loop is told by the number of the first region in it -/
def firstRegion : Code → Option Nat
  | .region id _ _ => some id
  | .seq a b => match firstRegion a with | some n => some n | none => firstRegion b
  | .cond _ a b => match firstRegion a with | some n => some n | none => firstRegion b
  | .block _ a => firstRegion a
  | .loop a => firstRegion a
  | .scope a => firstRegion a
  | _ => none
def hasLabel (c : Code) (l : Nat) : Bool := (findLabel c l).isSome

/-- code, from its begin, or from a label in it -/
def den (E : Env) (fn : FuncId) (m : Nat) (call : Caller) (it : It) : Code → Option Nat → St → Option (Ex × St)
  | .skip, none, st => some (.normal, st)
  | .label _, none, st => some (.normal, st)
  | .label l', some l, st => if l' = l then some (.normal, st) else none
  | .ret, none, st => some (.ret, st)
  | .exit id, none, st => some (.exit id, st)
  | .goto l, none, st => some (.goto l, st)
  | .seq a b, none, st => match den E fn m call it a none st with
    | some (.normal, st') => den E fn m call it b none st'
    | r => r
  | .seq a b, some l, st =>
    if hasLabel a l then match den E fn m call it a (some l) st with
      | some (.normal, st') => den E fn m call it b none st'
      | r => r
    else den E fn m call it b (some l) st
  | .cond c t e, none, st => match ev st.sl c with
    | some (.v (.c (.d (.sc (.bool b))))) => if b then den E fn m call it t none st else den E fn m call it e none st
    | _ => none
  | .block id body, none, st => match den E fn m call it body none st with
    | some (.exit i, st') => if i = id then some (.normal, st') else some (.exit i, st')
    | r => r
  | .region _ ops false, none, st => (runOps E call ops.toList ops.toList st).map fun st' => (.normal, st')
  | .region _ ops true, none, st => if drawOk E ops.toList then (runDraw E call ops.toList st).map fun st' => (.normal, st') else none
  | .loop body, none, st =>
    let L := E.live fn ((firstRegion body).getD 0)
    (canon m L st).bind fun (vs, h) => it (fun (_, vs, h) =>
      match den E fn m call it body none ⟨slots L vs, h⟩ with
      | some (.normal, st') => (canon m L st').map fun (vs, h) => .inl (none, vs, h)
      | some r => some (.inr r)
      | none => none) (none, vs, h)
  | .scope body, none, st =>
    let L := E.live fn ((firstRegion body).getD 0)
    (canon m L st).bind fun (vs, h) => it (fun (from_, vs, h) =>
      match den E fn m call it body from_ ⟨slots L vs, h⟩ with
      | some (.goto l, st') => if hasLabel body l then (canon m L st').map fun (vs, h) => .inl (some l, vs, h) else some (.inr (.goto l, st'))
      | some r => some (.inr r)
      | none => none) (none, vs, h)
  | _, _, _ => none

/-- the destinations of a code's operations lie among the slots -/
def codeOk (n : Nat) : Code → Bool
  | .region _ ops _ => ops.all fun o => o.dst.all (· < n)
  | .seq a b => codeOk n a && codeOk n b
  | .cond _ a b => codeOk n a && codeOk n b
  | .block _ a => codeOk n a
  | .loop a => codeOk n a
  | .scope a => codeOk n a
  | .rangeFunc .. => false
  | _ => true

def resultA (s : Nat → AV) (hp : Heap) (P : Program) : ResultVar → Option V1
  | .tmp t => match s t with | .v x => some x | _ => none
  | .cell a t => do
    let n ← szP P t
    let g ← aggP P t
    match s a with
    | .v (.c (.ptr k off)) => match hp[k]? with
      | some (.cells cs) => if off + n ≤ cs.length ∧ (g ∨ n = 1) then mkV g ((cs.drop off).take n) else none
      | _ => none
    | _ => none
def resultsA (fn : Func) (s : Nat → AV) (hp : Heap) (P : Program) : Option AV :=
  (fn.results.toList.mapM (resultA s hp P)).map fun l => match l with | [x] => .v x | l => .tup l

/-- a map of the call's own is handed back to be read: its lists do not grow any more -/
def Ob.frz : Ob → Ob
  | .amap kvs => .amap (kvs.map fun e => (e.1, e.2.ro))
  | o => o
def frzH : Nat → Heap → Heap
  | _, [] => []
  | 0, o :: r => o.frz :: frzH 0 r
  | m + 1, o :: r => o :: frzH m r

/-- what is handed back, and the objects that it leads to -/
def finishN (m : Nat) (hand : Bool) (hp : Heap) (v : AV) : Option (AV × Heap) :=
  (v.freeze hp (if hand then hp.length else m)).bind fun r =>
    let σ := closeM m hp r.1.refs
    if σ.take m = List.range m ∧ r.2.all (fun k => !σ.contains k) then
      (r.1.ren fun j => σ.idxOf? j).bind fun v2 => (restrict σ hp).map fun h => (v2, h)
    else none
def finish (m : Nat) (hand : Bool) (hp : Heap) (v : AV) : Option (AV × Heap) := finishN m hand (if hand then hp else frzH m hp) v

def slotsOf (args : List V1) : Nat → AV := fun i => match args[i]? with | some x => .v x | none => .dead

def callBody (E : Env) (call : Caller) (it : It) : Caller := fun f args hp =>
  match E.P.funcs[f]? with
  | some fn => match fn.body with
    | some body =>
      if codeOk fn.ntmps body && decide (args.length ≤ fn.ntmps) then
        match den E f hp.length call it body none ⟨slotsOf args, hp⟩ with
        | some (.ret, st) | some (.normal, st) => (resultsA fn st.sl st.hp E.P).bind (finish hp.length (E.hand f) st.hp)
        | _ => none
      else none
    | none => none
  | none => none

def itN : Nat → It
  | 0, _, _ => none
  | n + 1, g, x => match g x with
    | some (.inl y) => itN n g y
    | some (.inr r) => some r
    | none => none
def callN (E : Env) : Nat → Caller
  | 0, _, _, _ => none
  | n + 1, f, args, hp => callBody E (callN E n) (itN n) f args hp

end Go.Ab
