/- The abstract evaluator, part two: the operations, code, calls. Definitions alone. -/
import Derived.Test.YteenmbcmgcnkmaaGreatDoorAb1
set_option linter.unusedVariables false
set_option linter.unusedSimpArgs false
namespace Go.Ab
open Go

def zeroC (P : Program) (t : TypeId) : Option (List C) := ((zeroP P t).bind ofV).map V1.cells

/-- the parts of a value laid into its zero cells -/
def fillC (place : Nat → Option (Nat × Nat)) (cells : List C) : List (Nat × V1) → Option (List C)
  | [] => some cells
  | (i, v) :: rest =>
    match place i with
    | none => none
    | some (off, size) => if v.cells.length = size ∧ off + size ≤ cells.length then fillC place (wr cells off v.cells) rest else none

def evParts (s : Nat → AV) (parts : List (Nat × Operand)) : Option (List (Nat × V1)) := parts.mapM fun p => (ev1 s p.2).map fun v => (p.1, v)

/-- places of a struct's fields: offset and size -/
def places (P : Program) (fs : List Field) : Option (List (Nat × Nat)) := fs.mapM fun f => (szP P f.type).map fun n => (f.offset, n)

/-- new memory that is a slice's: what never changes, or an object -/
def newSlice (hp : Heap) (hard row : Bool) (sz len : Nat) (cells : List C) : Option (V1 × Heap) :=
  if hard then some (.c (.slc hp.length 0 sz len (some len)), hp ++ [.cells cells])
  else if row then (cells.mapM C.toD).map fun ds => (.c (.own false (chunk sz len ds) hp.length), hp ++ [.row len sz])
  else (cells.mapM C.toD).map fun ds => (.c (.d (.lst false (chunk sz len ds))), hp)

def isU8 (P : Program) (t : TypeId) : Bool := match P.underlying t with | some (.int .u8) => true | _ => false
/-- a list that is only marked next -/
def nwOk : List (List D) → Bool
  | (_ :: _) :: _ => true
  | _ => false
def mkNw (b : Bool) : V1 → V1
  | .c (.d (.lst false es)) => if b then .c (.nw es) else .c (.d (.lst false es))
  | x => x
def bnd (i : Int) (n : Nat) : Option Nat := if 0 ≤ i ∧ i ≤ n then some i.toNat else none
def evB (s : Nat → AV) (dflt : Nat) (o : Option Operand) : Option Int := match o with | none => some dflt | some x => evI s x

def cutSlice (s : Nat → AV) (hp : Heap) (sz : Nat) (x : C) (lo hi mx : Option Operand) : Option (V1 × Heap) :=
  match x with
  | .slc k off sz' len cap =>
    if sz' = sz then
      match mx with
      | none => do
        let h ← (evB s len hi).bind fun i => bnd i (cap.getD len)
        let l ← (evB s 0 lo).bind fun i => bnd i h
        some (.c (.slc k (off + l * sz) sz (h - l) (cap.map (· - l))), hp)
      | some m => do
        let c ← (evI s m).bind fun i => bnd i (cap.getD len)
        let hv ← hi
        let h ← (evI s hv).bind fun i => bnd i c
        let l ← (evB s 0 lo).bind fun i => bnd i h
        some (.c (.slc k (off + l * sz) sz (h - l) (some (c - l))), hp)
    else none
  | x => do
    let (nl, es) ← x.list
    if es.all (·.length == sz) then
      match mx with
      | none => do
        let h ← (evB s es.length hi).bind fun i => bnd i es.length
        let l ← (evB s 0 lo).bind fun i => bnd i h
        if lo.isNone && hi.isNone then some (.c x, hp) else some (.c (.d (.lst nl ((es.take h).drop l))), hp)
      | some m => do
        let c ← (evI s m).bind fun i => bnd i es.length
        let hv ← hi
        let h ← (evI s hv).bind fun i => bnd i c
        let l ← (evB s 0 lo).bind fun i => bnd i h
        if h = c then some (.c (.own nl ((es.take h).drop l) hp.length), hp ++ [.row (h - l) 0]) else none
    else none

/-- the elements that 'append' or 'copy' takes -/
def srcOf (hp : Heap) : V1 → Option (List (List D))
  | .c (.d (.sc (.string s))) => some (encB s.data.toList)
  | .c x => listOf hp x
  | _ => none

/-- a new row: a list of the call's own, or an object -/
def newOwn (hard : Bool) (hp : Heap) (sz : Nat) (es : List (List D)) : V1 × Heap :=
  if hard then (.c (.slc hp.length 0 sz es.length none), hp ++ [.cells (es.flatten.map .d)]) else (.c (.own false es hp.length), hp ++ [.row es.length sz])
def appendA (P : Program) (hard : Bool) (hp : Heap) (t : TypeId) (x : C) (src : List (List D)) : Option (V1 × Heap) :=
  match P.underlying t with
  | some (.slice e) =>
    match szP P e, bytesP P e, zeroC P e with
    | some sz, some by_, some z =>
      if 0 < sz ∧ 0 < by_ ∧ z.length = sz ∧ src.all (·.length == sz) then
        match x with
        | .own nl es k =>
          if src = [] then some (.c (.own nl es k), hp) else
          match hp[k]? with
          | some (.row n sz') =>
            if hard = true ∧ n = 0 ∧ sz' = 0 ∧ es = [] ∧ src.length * by_ ≤ 2 ^ 47 then some (newOwn true hp sz src) else
            if n = es.length ∧ (sz' = sz ∨ sz' = 0) ∧ es.all (·.length == sz) ∧ (es.length + src.length) * by_ ≤ 2 ^ 47 then
              some (.c (.own false (es ++ src) k), hp.set k (.row (es.length + src.length) sz))
            else none
          | _ => none
        | .d (.lst nl es) =>
          if src = [] then some (.c (.d (.lst nl es)), hp)
          else if nl = true ∧ es = [] ∧ src.length * by_ ≤ 2 ^ 47 then some (newOwn hard hp sz src) else none
        | .slc k off sz' len (some cap) =>
          if src = [] then some (.c (.slc k off sz' len (some cap)), hp)
          else if sz' = sz ∧ len = cap then
            (listOf hp x).bind fun es => if es.all (·.length == sz) ∧ (len + src.length) * by_ ≤ 2 ^ 47 then some (newOwn hard hp sz (es ++ src)) else none
          else if sz' = sz ∧ len + src.length ≤ cap then
            match hp[k]? with
            | some (.cells cs) => if off + (len + src.length) * sz ≤ cs.length then
                some (.c (.slc k off sz (len + src.length) (some cap)), hp.set k (.cells (wr cs (off + len * sz) (src.flatten.map .d)))) else none
            | _ => none
          else none
        | .slc k off sz' len none =>
          if src = [] then some (.c (.slc k off sz' len none), hp)
          else if sz' = sz ∧ off = 0 ∧ hard = true then
            (listOf hp x).bind fun es => if es.all (·.length == sz) ∧ (len + src.length) * by_ ≤ 2 ^ 47 then
              some (.c (.slc hp.length 0 sz (len + src.length) none), hp.set k .gone ++ [.cells ((es ++ src).flatten.map .d)]) else none
          else none
        | _ => none
      else none
    | _, _, _ => none
  | _ => none

/-- no slice, and so many zeros -/
def appendZ (P : Program) (hard : Bool) (hp : Heap) (t : TypeId) (x : C) (y : V1) : Option (V1 × Heap) :=
  match P.underlying t, x, y with
  | some (.slice e), .d (.lst true []), .c (.d (.sc (.int _ n))) =>
    match szP P e, bytesP P e, zeroC P e with
    | some sz, some by_, some z =>
      if hard = true ∧ 0 < sz ∧ 0 < by_ ∧ z.length = sz ∧ 0 < n ∧ n * by_ ≤ 2 ^ 47 then
        some (.c (.slc hp.length 0 sz n.toNat none), hp ++ [.cells (List.replicate n.toNat z).flatten])
      else none
    | _, _, _ => none
  | some (.slice e), .own nl es k, .c (.d (.sc (.int _ n))) =>
    match szP P e, bytesP P e, zeroC P e, hp[k]? with
    | some sz, some by_, some z, some (.row m 0) =>
      if hard = true ∧ 0 < sz ∧ 0 < by_ ∧ z.length = sz ∧ 0 < n ∧ m = es.length ∧ es.all (·.length == sz) = true ∧ (es.length + n) * by_ ≤ 2 ^ 47 then
        some (.c (.slc hp.length 0 sz (es.length + n.toNat) none), hp ++ [.cells (es.flatten.map .d ++ (List.replicate n.toNat z).flatten)])
      else none
    | _, _, _, _ => none
  | _, _, _ => none

/-- so many zeros appended: a list of zeros -/
def appendN (P : Program) (hard : Bool) (hp : Heap) (t : TypeId) (x : C) (y : V1) : Option (V1 × Heap) :=
  match P.underlying t, y with
  | some (.slice e), .c (.d (.sc (.int _ n))) =>
    match bytesP P e, (zeroC P e).bind (·.mapM C.toD) with
    | some by_, some zd => if 0 ≤ n ∧ 0 < by_ ∧ n * by_ ≤ 2 ^ 47 then appendA P hard hp t x (List.replicate n.toNat zd) else none
    | _, _ => none
  | _, _ => none

def copyA (P : Program) (hp : Heap) (t : TypeId) (x : C) (src : List (List D)) : Option (V1 × Heap) :=
  match P.underlying t, x with
  | some (.slice e), .slc k off sz len _ =>
    if 0 < sz ∧ szP P e = some sz ∧ src.all (·.length == sz) then
      match hp[k]? with
      | some (.cells cs) =>
        if off + len * sz ≤ cs.length then
          some (.c (.d (.sc (.int .i64 ((min src.length len : Nat) : Int)))), hp.set k (.cells (wr cs off ((src.take len).flatten.map .d))))
        else none
      | _ => none
    else none
  | _, _ => none

def lenA (hp : Heap) : TypeDesc → V1 → Option Nat
  | .string, .c (.d (.sc (.string s))) => some s.size
  | .slice _, .c (.slc _ _ _ len _) => some len
  | .slice _, .c (.d (.lst _ es)) => some es.length
  | .slice _, .c (.own _ es _) => some es.length
  | .map _ _, .c (.d (.sc (.map none))) => some 0
  | .map _ _, .c (.mp k) => match hp[k]? with | some (.amap kvs) => some kvs.length | _ => none
  | .array n _, _ => some n
  | _, _ => none

def clearA (P : Program) (hp : Heap) (t : TypeId) (k off sz len : Nat) : Option (AV × Heap) :=
  match P.underlying t with
  | some (.slice e) =>
    match szP P e, zeroC P e, hp[k]? with
    | some sz', some z, some (.cells cs) =>
      if sz' = sz ∧ z.length = sz ∧ 0 < sz ∧ off + len * sz ≤ cs.length then some (.tup [], hp.set k (.cells (wr cs off (List.replicate len z).flatten))) else none
    | _, _, _ => none
  | _ => none

def builtinA (P : Program) (s : Nat → AV) (hp : Heap) (b : Builtin) (c : Call) (ty : TypeId) (hard : Bool) : Option (AV × Heap) := do
  let xs ← c.args.toList.mapM (ev1 s)
  let ts := c.argTypes.toList
  match b, xs, ts with
  | .len, [x], t :: _ =>
    match P.underlying t with
    | some (.pointer a) => match P.underlying a with
      | some (.array n _) => some (.int .i64 n, hp)
      | _ => none
    | some d => (lenA hp d x).map fun n => (.int .i64 n, hp)
    | none => none
  | .cap, [.c (.slc _ _ _ _ (some n))], t :: _ => match P.underlying t with
    | some (.slice _) => some (.int .i64 n, hp)
    | _ => none
  | .cap, [.c (.d (.lst true []))], t :: _ => match P.underlying t with
    | some (.slice _) => some (.int .i64 0, hp)
    | _ => none
  | .append, [.c x, y], t :: t2 :: _ =>
    match P.underlying t2 with
    | some (.int _) => (if hard then appendZ P hard hp t x y else appendN P hard hp t x y).map fun r => (.v r.1, r.2)
    | some _ => (srcOf hp y).bind fun src => (appendA P hard hp t x src).map fun r => (.v r.1, r.2)
    | none => none
  | .copy, [.c x, y], t :: _ => (srcOf hp y).bind fun src => (copyA P hp t x src).map fun r => (.v r.1, r.2)
  | .min, _, _ => do
    let vs ← xs.mapM toV
    let r ← evalS P (Builtin.min_ c.argTypes ty vs.toArray)
    (ofV r).map fun v => (.v v, hp)
  | .max, _, _ => do
    let vs ← xs.mapM toV
    let r ← evalS P (Builtin.max_ c.argTypes ty vs.toArray)
    (ofV r).map fun v => (.v v, hp)
  | .clear, [.c (.slc k off sz len _)], t :: _ => clearA P hp t k off sz len
  | _, _, _ => none

/-- of two values: where both are there, what is made of them -/
def both {α : Type} (a b : Option Value) (f : Value → Value → α) (d : α) : α := match a, b with
  | some v, some w => f v w
  | _, _ => d
theorem both_s {α : Type} (v w : Value) (f : Value → Value → α) (d : α) : both (some v) (some w) f d = f v w := rfl
theorem both_l {α : Type} (w : Option Value) (f : Value → Value → α) (d : α) : both none w f d = d := by cases w <;> rfl
theorem both_r {α : Type} (v : Value) (f : Value → Value → α) (d : α) : both (some v) none f d = d := rfl
/-- is it a nil? -/
def nilTest : TypeDesc → C → Operand → Option Bool
  | .slice _, .d (.lst nl _), .const (.slice none 0 0) => some nl
  | .slice _, .own nl _ _, .const (.slice none 0 0) => some nl
  | .slice _, .slc .., .const (.slice none 0 0) => some false
  | .pointer _, .ptr .., .const (.pointer none) => some false
  | .pointer _, .cptr .., .const (.pointer none) => some false
  | .map _ _, .mp _, .const (.map none) => some false
  | .func _ _ _, .fn _ _, .const .nilFunc => some false
  | _, _, _ => none

def mapPut (E : Env) (s : Nat → AV) (hp : Heap) (t : TypeId) (x k v : Operand) : Option (AV × Heap) :=
  match E.P.underlying t with
  | some (.map kt _) => do
    let key ← (ev s k).bind AV.toV
    let kd ← E.P.underlying kt
    let val ← ev1 s v
    if keyOk kd key then
      match evC s x with
      | some (.mp m) => match hp[m]? with
        | some (.amap kvs) => (findK key kvs).map fun _ => (.dead, hp.set m (.amap (putK key val kvs)))
        | _ => none
      | _ => none
    else none
  | _ => none

/-- all operations but calls of functions -/
def dop (E : Env) (s : Nat → AV) (hp : Heap) (o : Oper) : Option (AV × Heap) :=
  match o.op with
  | .move x | .assign x => (ev s x).map fun v => (v, hp)
  | .pick c a b => match ev s c with
    | some (.v (.c (.d (.sc (.bool t))))) => if t then (ev s a).map fun v => (v, hp) else (ev s b).map fun v => (v, hp)
    | _ => none
  | .alloc t => if E.aown o.pos then
      (match zeroC E.P t with
      | some [.d (.lst true [])] => some (.v (.c (.ptr (hp.length + 1) 0)), hp ++ [.row 0 0] ++ [.cells [.own true [] hp.length]])
      | _ => none)
    else (zeroC E.P t).map fun cs => (.v (.c (.ptr hp.length 0)), hp ++ [.cells cs])
  | .box _ x => (ev1 s x).map fun v => (.v (.c (.ptr hp.length 0)), hp ++ [.cells v.cells])
  | .build t parts => do
    let ps ← evParts s parts.toList
    let z ← zeroC E.P t
    match E.P.underlying t with
    | some (.struct fs) => do
      let pl ← places E.P fs.toList
      (fillC (pl[·]?) z ps).map fun cs => (.v (.agg cs), hp)
    | some (.array _ e) => do
      let n ← szP E.P e
      (fillC (fun i => some (i * n, n)) z ps).map fun cs => (.v (.agg cs), hp)
    | _ => none
  | .buildSlice t len parts => do
    let ps ← evParts s parts.toList
    match E.P.underlying t with
    | some (.slice e) => do
      let n ← szP E.P e
      let z ← zeroC E.P e
      if z.length = n ∧ 0 < n ∧ len * n ≤ 2 ^ 24 then
        let cs ← fillC (fun i => some (i * n, n)) (List.replicate len z).flatten ps
        (newSlice hp (E.hard o.pos && !(E.nw o.pos && isU8 E.P e)) (E.row o.pos && !(E.nw o.pos && isU8 E.P e)) n len cs).map fun r => (.v (mkNw (E.nw o.pos && isU8 E.P e) r.1), r.2)
      else none
    | _ => none
  | .load t a => do
    let n ← szP E.P t
    let g ← aggP E.P t
    match evC s a with
    | some (.ptr k off) =>
      match hp[k]? with
      | some (.cells cs) => if off + n ≤ cs.length ∧ (g ∨ n = 1) then (mkV g ((cs.drop off).take n)).map fun v => (.v v, hp) else none
      | _ => none
    | some (.cptr cs off) => if off + n ≤ cs.length ∧ (g ∨ n = 1) then (mkV g (((cs.drop off).take n).map .d)).map fun v => (.v v, hp) else none
    | _ => none
  | .store t a x => do
    let n ← szP E.P t
    let v ← ev1 s x
    match evC s a with
    | some (.ptr k off) =>
      match hp[k]? with
      | some (.cells cs) => if off + n ≤ cs.length ∧ v.cells.length = n then some (.dead, hp.set k (.cells (wr cs off v.cells))) else none
      | _ => none
    | _ => none
  | .nilCheck x => match evC s x with
    | some (.ptr k off) => some (.v (.c (.ptr k off)), hp)
    | some (.cptr cs off) => some (.v (.c (.cptr cs off)), hp)
    | some (.fn f cs) => some (.v (.c (.fn f cs)), hp)
    | some (.d (.sc (.func (.func f) a b))) => some (.sc (.func (.func f) a b), hp)
    | _ => none
  | .binOp op t x y _ =>
    match ev1 s x, ev1 s y with
    | some a, some b =>
      both (toV a) (toV b) (fun v w => (evalS E.P (do eqGuard op t x y v w; binOp op t v w)).bind fun r => (ofV r).map fun z => (.v z, hp))
        (match a, E.P.underlying t with
        | .c a, some d =>
          match op, nilTest d a y with
          | .eql, some r => some (.bool r, hp)
          | .neq, some r => some (.bool (!r), hp)
          | _, _ => none
        | _, _ => none)
    | _, _ => none
  | .unOp op _ x => do
    let v ← (ev s x).bind AV.toV
    let r ← evalS E.P (Op.unary op v)
    (ofV r).map fun z => (.v z, hp)
  | .convert src dst x =>
    match E.P.underlying src, E.P.underlying dst, ev1 s x with
    | some .string, some (.slice e), some (.c (.d (.sc (.string b)))) =>
      match E.P.underlying e with
      | some (.int .u8) =>
        if E.hard o.pos then some (.v (.c (.slc hp.length 0 1 b.size none)), hp ++ [.cells ((b.data.toList.map fun c => (C.d (.sc (.int .u8 c.toNat)))))])
        else if E.row o.pos then some (.v (.c (.own false (encB b.data.toList) hp.length)), hp ++ [.row b.size 1])
        else some (.v (.c (.d (.lst false (encB b.data.toList)))), hp)
      | _ => none
    | some (.slice e), some .string, some (.c y) =>
      match E.P.underlying e with
      | some (.int .u8) => do
        let es ← listOf hp y
        let bs ← bytesOf es
        some (.str ⟨bs.toArray⟩, hp)
      | _ => none
    | some (.slice e), some (.slice _), some (.c (.slc k off sz len cap)) =>
      match E.P.underlying e, hp[k]? with
      | some (.int .u8), some (.cells _) => if src = dst then some (.v (.c (.slc k off sz len cap)), hp) else none
      | _, _ => none
    | some (.slice e), some (.slice _), some (.c (.nw es)) =>
      match E.P.underlying e with
      | some (.int .u8) => if nwOk es = true then (if src = dst then (if E.row o.pos then some (.v (.c (.own false es hp.length)), hp ++ [.row es.length 0]) else some (.v (.c (.d (.lst false es))), hp)) else none) else none
      | _ => none
    | some _, some _, some v => do
      let a ← toV v
      let r ← evalS E.P (convert src dst a)
      (ofV r).map fun z => (.v z, hp)
    | _, _, _ => none
  | .makeInterface t x => do
    let v ← (ev s x).bind AV.toV
    let r ← evalS E.P (Instr.makeInterface t v)
    (ofV r).map fun z => (.v z, hp)
  | .makeFunc fn first captured =>
    match fn, first.toList with
    | .func f, [] => do
      let cs ← captured.toList.mapM fun c => match evC s c with | some (.ptr k off) => some (k, off) | _ => none
      if cs.isEmpty then some (.sc (.func (.func f) #[] #[]), hp) else some (.v (.c (.fn f cs)), hp)
    | _, _ => none
  | .makeMap _ none => some (.v (.c (.mp hp.length)), hp ++ [.amap []])
  | .makeSlice t l c => do
    match E.P.underlying t with
    | some (.slice e) => do
      let n ← szP E.P e
      let b ← bytesP E.P e
      let z ← zeroC E.P e
      let li ← evI s l
      let ci ← evI s c
      if z.length = n ∧ 0 < n ∧ 0 < b ∧ 0 ≤ li ∧ li ≤ ci ∧ ci * b ≤ 2 ^ 47 then
        some (.v (.c (.slc hp.length 0 n li.toNat (some ci.toNat))), hp ++ [.cells (List.replicate ci.toNat z).flatten])
      else none
    | _ => none
  | .slice t x lo hi mx =>
    match E.P.underlying t, ev1 s x with
    | some .string, some (.c (.d (.sc (.string b)))) =>
      match mx with
      | none => do
        let h ← (evB s b.size hi).bind fun i => bnd i b.size
        let l ← (evB s 0 lo).bind fun i => bnd i h
        some (.str (b.extract l h), hp)
      | some _ => none
    | some (.slice e), some (.c y) => do
      let sz ← szP E.P e
      let r ← cutSlice s hp sz y lo hi mx
      some (.v r.1, r.2)
    | some (.array n e), some (.c (.ptr k off)) => do
      let sz ← szP E.P e
      let r ← cutSlice s hp sz (.slc k off sz n (some n)) lo hi mx
      some (.v r.1, r.2)
    | some (.pointer a), some (.c (.ptr k off)) =>
      match E.P.underlying a with
      | some (.array n e) => do
        let sz ← szP E.P e
        let r ← cutSlice s hp sz (.slc k off sz n (some n)) lo hi mx
        some (.v r.1, r.2)
      | _ => none
    | _, _ => none
  | .fieldAddr t x f =>
    match E.P.underlying t with
    | some (.struct fs) => do
      let fd ← fs[f]?
      let n ← szP E.P fd.type
      if n = 0 then none else
      match evC s x with
      | some (.ptr k off) => some (.v (.c (.ptr k (off + fd.offset))), hp)
      | some (.cptr cs off) => some (.v (.c (.cptr cs (off + fd.offset))), hp)
      | _ => none
    | _ => none
  | .field t x f =>
    match E.P.underlying t, ev1 s x with
    | some (.struct fs), some (.agg cs) => do
      let fd ← fs[f]?
      let n ← szP E.P fd.type
      let g ← aggP E.P fd.type
      if fd.offset + n ≤ cs.length ∧ (g ∨ n = 1) then (mkV g ((cs.drop fd.offset).take n)).map fun v => (.v v, hp) else none
    | _, _ => none
  | .indexAddr t x ix =>
    match E.P.underlying t, evC s x, evI s ix with
    | some (.array n e), some (.ptr k off), some i => do
      let sz ← szP E.P e
      if 0 ≤ i ∧ i < n then some (.v (.c (.ptr k (off + i.toNat * sz))), hp) else none
    | some (.array n e), some (.cptr cs off), some i => do
      let sz ← szP E.P e
      if 0 ≤ i ∧ i < n then some (.v (.c (.cptr cs (off + i.toNat * sz))), hp) else none
    | some (.slice e), some (.slc k off sz len _), some i =>
      if szP E.P e = some sz ∧ 0 ≤ i ∧ i < len then some (.v (.c (.ptr k (off + i.toNat * sz))), hp) else none
    | some (.slice e), some y, some i => do
      let (_, es) ← y.list
      let sz ← szP E.P e
      if es.all (·.length == sz) ∧ 0 ≤ i ∧ i < es.length then some (.v (.c (.cptr (es.getD i.toNat []) 0)), hp) else none
    | _, _, _ => none
  | .index t x ix =>
    match E.P.underlying t, ev1 s x, evI s ix with
    | some .string, some (.c (.d (.sc (.string b)))), some i =>
      if 0 ≤ i ∧ i < b.size then some (.int .u8 (b.data.getD i.toNat 0).toNat, hp) else none
    | some (.array n e), some (.agg cs), some i => do
      let sz ← szP E.P e
      let g ← aggP E.P e
      if 0 ≤ i ∧ i < n ∧ (i.toNat * sz) + sz ≤ cs.length ∧ (g ∨ sz = 1) then (mkV g ((cs.drop (i.toNat * sz)).take sz)).map fun v => (.v v, hp) else none
    | _, _, _ => none
  | .lookup t x k ok =>
    match E.P.underlying t with
    | some (.map kt e) => do
      let key ← (ev s k).bind AV.toV
      let kd ← E.P.underlying kt
      if keyOk kd key then
        let z ← (zeroP E.P e).bind ofV
        let r ← (match evC s x with
          | some (.mp m) => match hp[m]? with | some (.amap kvs) => findK key kvs | _ => none
          | some (.d (.sc (.map none))) => some none
          | _ => none)
        if ok then some (.tup [r.getD z, .c (.d (.sc (.bool r.isSome)))], hp) else some (.v (r.getD z), hp)
      else none
    | _ => none
  | .mapUpdate t x k v => mapPut E s hp t x k v
  | .insert t x k v => mapPut E s hp t x k v
  | .range t x =>
    match E.P.underlying t, evC s x with
    | some .string, some (.d (.sc (.string b))) => some (.v (.c (.it hp.length)), hp ++ [.siter b 0])
    | _, _ => none
  | .next it true =>
    match evC s it with
    | some (.it k) => match hp[k]? with
      | some (.siter b pos) =>
        if pos < b.size then
          let (c, w) := Utf8.decode b pos
          some (.tup [.c (.d (.sc (.bool true))), .c (.d (.sc (.int .i64 pos))), .c (.d (.sc (.int .i32 c)))], hp.set k (.siter b (pos + w)))
        else some (.tup [.c (.d (.sc (.bool false)))], hp)
      | _ => none
    | _ => none
  | .extract t i => match ev s t with
    | some (.tup xs) => (xs[i]?).map fun x => (.v x, hp)
    | _ => none
  | .call c => match c.callee with
    | .builtin b => builtinA E.P s hp b c o.type (E.hard o.pos)
    | _ => none
  | _ => none

end Go.Ab
