/- An abstract evaluator of the loaded code, and that what it says is what the machine does. -/
import Derived.Calls
import Derived.Scope
import Derived.Laws.Sem
import Derived.Laws.World
import Derived.Laws.Cells
set_option linter.all false
section
set_option linter.unusedVariables false
set_option linter.unusedSimpArgs false
namespace Go.Ab
open Go
inductive D where
  | sc (v:Value)
  | lst (nl:Bool) (es:List (List D))
  deriving Inhabited
inductive C where
  | d (x:D)
  | own (nl:Bool) (es:List (List D)) (k:Nat)
  | slc (k off sz len:Nat) (cap:Option Nat)
  | ptr (k off:Nat)
  | cptr (cs:List D) (off:Nat)
  | mp (k:Nat)
  | it (k:Nat)
  | fn (f:FuncId) (caps:List (Nat×Nat))
  | any
  /-- a list of the frame's own, that is not put anywhere -/
  | nw (es:List (List D))
  /-- a value of an interface's type that is not nil -/
  | nn
  deriving Inhabited
inductive V1 where
  | c (x:C)
  | agg (cs:List C)
  deriving Inhabited
inductive AV where
  | v (x:V1)
  | tup (xs:List V1)
  | dead
  deriving Inhabited
inductive Ob where
  | cells (cs:List C)
  | row (n sz:Nat)
  | amap (kvs:List (Value×V1))
  | siter (s:ByteArray) (pos:Nat)
  | gone
  deriving Inhabited
abbrev Heap:=List Ob
structure St where
  sl:Nat→AV
  hp:Heap
inductive Ex where
  | normal
  | exit (id:Nat)
  | goto (l:Nat)
  | ret
  deriving DecidableEq
inductive Co where
  | keep | freeze | own
  deriving DecidableEq
structure Env where
  P:Program
  /-- the slots that live at a loop's head: by function and the first region's number in the loop -/
  live:FuncId→Nat→List (Nat×Co)
  /-- positions at which what is made is written later -/
  hard:String→Bool
  /-- positions at which what is made is appended to later -/
  row:String→Bool
  /-- functions without a body, over plain values -/
  ext:FuncId→List Value→Option Value
  /-- cells that are known from the start; what a package variable holds, of them -/
  base:Nat→Nat→Option Value
  glob:Nat→Option (List D)
  /-- functions whose own slices are handed back as objects -/
  hand:FuncId→Bool
  /-- functions that are told by a contract of their own -/
  prim:FuncId→Option (List V1→Heap→Option (AV×Heap))
  /-- functions without a body, that ask memory -/
  extp:FuncId→Option (List V1→Heap→Option (AV×Heap)):=fun _=>none
  /-- positions at which what is made is only marked, and then never changes -/
  nw:String→Bool:=fun _=>false
  /-- positions at which a variable is made that is a list of the call's own from the start -/
  aown:String→Bool:=fun _=>false
  /-- functions that are handed slices of the call's own as such -/
  keep:FuncId→Bool:=hand
  /-- functions that hand their own lists back to be read -/
  plain:FuncId→Bool:=fun _=>false
  /-- what whole blocks hold from the start on -/
  blk:Nat→Option (Array Value→Prop):=fun _=>none
abbrev AV.sc (x:Value):AV:=.v (.c (.d (.sc x)))
abbrev AV.int (k:IntKind) (n:Int):AV:=.v (.c (.d (.sc (.int k n))))
abbrev AV.bool (b:Bool):AV:=.v (.c (.d (.sc (.bool b))))
abbrev AV.str (s:ByteArray):AV:=.v (.c (.d (.sc (.string s))))
abbrev AV.lst (nl:Bool) (es:List (List D)):AV:=.v (.c (.d (.lst nl es)))
def upd (s:Nat→AV) (i:Nat) (v:AV):Nat→AV:=fun j=>if j = i then v else s j
def putO (s:Nat→AV) (d:Option Nat) (v:AV):Nat→AV :=
  match d with
  | some i=>upd s i v
  | none=>s
def evalS (P:Program) {α:Type}:Sem α→Option α
  | .pure a=>some a
  | .program k=>evalS P (k P)
  | _=>none
def szP (P:Program) (t:TypeId):Option Nat:=(P.info? t).map (·.size)
def bytesP (P:Program) (t:TypeId):Option Nat:=(P.info? t).map (·.bytes)
def zeroP (P:Program) (t:TypeId):Option Value:=(P.info? t).bind (·.zero)
def aggP (P:Program) (t:TypeId):Option Bool :=
  (P.underlying t).map fun | .struct _=>true | .array _ _=>true | _=>false
def plain:Value→Bool
  | .bool _ | .int _ _ | .float _ _ | .complex _ _ _ | .string _ | .pointer none | .map none | .chan none | .nilFunc | .nilIface=>true
  | .func _ f c=>f.isEmpty && c.isEmpty
  | .iface _ v=>plain v
  | _=>false
def ofV1:Value→Option C
  | .slice none 0 0=>some (.d (.lst true []))
  | v=>if plain v then some (.d (.sc v)) else none
def ofV:Value→Option V1
  | .agg cs=>(cs.toList.mapM ofV1).map .agg
  | v=>(ofV1 v).map .c
def toV1:C→Option Value
  | .d (.sc v)=>some v
  | .d (.lst true [])=>some (.slice none 0 0)
  | _=>none
def toV:V1→Option Value
  | .c x=>toV1 x
  | .agg cs=>(cs.mapM toV1).map fun l=>.agg l.toArray
def AV.toV:AV→Option Value
  | .v x=>Ab.toV x
  | _=>none
def V1.cells:V1→List C
  | .c x=>[x]
  | .agg cs=>cs
def mkV (agg:Bool) (cs:List C):Option V1 :=
  if agg then some (.agg cs) else match cs with
    | [x]=>some (.c x)
    | _=>none
def ev (s:Nat→AV):Operand→Option AV
  | .tmp t=>some (s t)
  | .const v=>(ofV v).map .v
  | .global _=>none
  | .func f=>some (.sc (.func (.func f) #[] #[]))
def ev1 (s:Nat→AV) (o:Operand):Option V1:=match ev s o with | some (.v x)=>some x | _=>none
def evC (s:Nat→AV) (o:Operand):Option C:=match ev s o with | some (.v (.c x))=>some x | _=>none
def evI (s:Nat→AV) (o:Operand):Option Int:=match ev s o with | some (.v (.c (.d (.sc (.int _ n)))))=>some n | _=>none
def C.toD:C→Option D
  | .d x=>some x
  | .own nl es _=>some (.lst nl es)
  | _=>none
def C.list:C→Option (Bool×List (List D))
  | .d (.lst nl es)=>some (nl,es)
  | .own nl es _=>some (nl,es)
  | _=>none
def wr:List C→Nat→List C→List C
  | [],_,_=>[]
  | c :: cs,0,[]=>c :: cs
  | _ :: cs,0,x :: xs=>x :: wr cs 0 xs
  | c :: cs,off + 1,xs=>c :: wr cs off xs
def chunk {α:Type} (size:Nat):Nat→List α→List (List α)
  | 0,_=>[]
  | n + 1,l=>l.take size :: chunk size n (l.drop size)
def slcCells (hp:Heap) (k off n:Nat):Option (List C) :=
  match hp[k]? with
  | some (.cells cs)=>if off + n≤cs.length then some ((cs.drop off).take n) else none
  | _=>none
def listOf (hp:Heap):C→Option (List (List D))
  | .slc k off sz len _=>(slcCells hp k off (len * sz)).bind fun cs=>(cs.mapM C.toD).map (chunk sz len)
  | x=>x.list.map (·.2)
def byteOf:D→Option UInt8
  | .sc (.int .u8 n)=>some (UInt8.ofNat n.toNat)
  | _=>none
def bytesOf (es:List (List D)):Option (List UInt8):=es.mapM fun e=>match e with | [x]=>byteOf x | _=>none
def encB (bs:List UInt8):List (List D):=bs.map fun b=>[.sc (.int .u8 b.toNat)]
def sameK:Value→Value→Option Bool
  | .int k a,.int k' b=>if k = k' then some (a == b) else none
  | .string a,.string b=>some (a == b)
  | .bool a,.bool b=>some (a == b)
  | _,_=>none
def keyOk:TypeDesc→Value→Bool
  | .int _,.int _ _ | .string,.string _ | .bool,.bool _=>true
  | _,_=>false
def findK (k:Value):List (Value×V1)→Option (Option V1)
  | []=>some none
  | e :: es=>match sameK k e.1 with
    | some true=>some (some e.2)
    | some false=>findK k es
    | none=>none
def putK (k:Value) (v:V1):List (Value×V1)→List (Value×V1)
  | []=>[(k,v)]
  | e :: es=>if sameK k e.1 = some true then (k,v) :: es else e :: putK k v es
def C.refs:C→List Nat
  | .own _ _ k | .slc k _ _ _ _ | .ptr k _ | .mp k | .it k=>[k]
  | .fn _ caps=>caps.map (·.1)
  | _=>[]
def V1.refs (x:V1):List Nat:=x.cells.flatMap C.refs
def AV.refs:AV→List Nat
  | .v x=>x.refs
  | .tup xs=>xs.flatMap V1.refs
  | .dead=>[]
def C.isD:C→Bool
  | .d _=>true
  | _=>false
def plainCs (cs:List C):Bool:=cs.all C.isD
def Ob.refs:Ob→List Nat
  | .cells cs=>if plainCs cs then [] else cs.flatMap C.refs
  | .amap kvs=>kvs.flatMap fun e=>e.2.refs
  | _=>[]
def close (hp:Heap):Nat→List Nat→List Nat→List Nat
  | 0,seen,_=>seen
  | _ + 1,seen,[]=>seen
  | n + 1,seen,k :: ks=>if k ∈ seen then close hp n seen ks else close hp n (seen ++ [k]) ((hp.getD k (.row 0 0)).refs ++ ks)
def fuelR:Nat:=1000
def closeM (m:Nat) (hp:Heap) (l:List Nat):List Nat:=close hp (fuelR + hp.length) (List.range m) ((List.range m).flatMap (fun k=>(hp.getD k (.row 0 0)).refs) ++ l)
def C.ren (τ:Nat→Option Nat):C→Option C
  | .d x=>some (.d x)
  | .own nl es k=>(τ k).map (.own nl es)
  | .slc k off sz len cap=>(τ k).map fun k'=>.slc k' off sz len cap
  | .ptr k off=>(τ k).map fun k'=>.ptr k' off
  | .cptr cs off=>some (.cptr cs off)
  | .mp k=>(τ k).map .mp
  | .it k=>(τ k).map .it
  | .fn f caps=>(caps.mapM fun p=>(τ p.1).map fun k'=>(k',p.2)).map (.fn f)
  | .any=>some .any
  | .nn=>some .nn
  | .nw _=>none
def V1.ren (τ:Nat→Option Nat):V1→Option V1
  | .c x=>(x.ren τ).map .c
  | .agg cs=>(cs.mapM (C.ren τ)).map .agg
def AV.ren (τ:Nat→Option Nat):AV→Option AV
  | .v x=>(x.ren τ).map .v
  | .tup xs=>(xs.mapM (V1.ren τ)).map .tup
  | .dead=>some .dead
def renCs (τ:Nat→Option Nat) (cs:List C):Option (List C):=if plainCs cs then some cs else cs.mapM (C.ren τ)
def Ob.ren (τ:Nat→Option Nat):Ob→Option Ob
  | .cells cs=>(renCs τ cs).map .cells
  | .row n sz=>some (.row n sz)
  | .amap kvs=>(kvs.mapM fun (e:Value×V1)=>(e.2.ren τ).map fun x=>(e.1,x)).map .amap
  | .siter s p=>some (.siter s p)
  | .gone=>some .gone
def restrict (σ:List Nat) (hp:Heap):Option Heap:=σ.mapM fun k=>(hp[k]?).bind (Ob.ren fun j=>σ.idxOf? j)
def C.freeze (hp:Heap) (m:Nat):C→Option (C×List Nat)
  | .slc k off sz len cap=>if k < m then some (.slc k off sz len cap,[]) else (listOf hp (.slc k off sz len cap)).map fun es=>(.d (.lst false es),[k])
  | x=>some (x,[])
def freezeAll (hp:Heap) (m:Nat):List C→Option (List C×List Nat)
  | []=>some ([],[])
  | c :: cs=>(c.freeze hp m).bind fun r=>(freezeAll hp m cs).map fun q=>(r.1 :: q.1,r.2 ++ q.2)
def V1.freeze (hp:Heap) (m:Nat):V1→Option (V1×List Nat)
  | .c x=>(x.freeze hp m).map fun r=>(.c r.1,r.2)
  | .agg cs=>(freezeAll hp m cs).map fun r=>(.agg r.1,r.2)
def freezeVs (hp:Heap) (m:Nat):List V1→Option (List V1×List Nat)
  | []=>some ([],[])
  | c :: cs=>(c.freeze hp m).bind fun r=>(freezeVs hp m cs).map fun q=>(r.1 :: q.1,r.2 ++ q.2)
def AV.freeze (hp:Heap) (m:Nat):AV→Option (AV×List Nat)
  | .v x=>(x.freeze hp m).map fun r=>(.v r.1,r.2)
  | .tup xs=>(freezeVs hp m xs).map fun r=>(.tup r.1,r.2)
  | .dead=>some (.dead,[])
end Go.Ab
end
section
set_option linter.unusedVariables false
set_option linter.unusedSimpArgs false
namespace Go.Ab
open Go
def zeroC (P:Program) (t:TypeId):Option (List C):=((zeroP P t).bind ofV).map V1.cells
def fillC (place:Nat→Option (Nat×Nat)) (cells:List C):List (Nat×V1)→Option (List C)
  | []=>some cells
  | (i,v) :: rest =>
    match place i with
    | none=>none
    | some (off,size)=>if v.cells.length = size∧off + size≤cells.length then fillC place (wr cells off v.cells) rest else none
def evParts (s:Nat→AV) (parts:List (Nat×Operand)):Option (List (Nat×V1)):=parts.mapM fun p=>(ev1 s p.2).map fun v=>(p.1,v)
def places (P:Program) (fs:List Field):Option (List (Nat×Nat)):=fs.mapM fun f=>(szP P f.type).map fun n=>(f.offset,n)
def newSlice (hp:Heap) (hard row:Bool) (sz len:Nat) (cells:List C):Option (V1×Heap) :=
  if hard then some (.c (.slc hp.length 0 sz len (some len)),hp ++ [.cells cells])
  else if row then (cells.mapM C.toD).map fun ds=>(.c (.own false (chunk sz len ds) hp.length),hp ++ [.row len sz])
  else (cells.mapM C.toD).map fun ds=>(.c (.d (.lst false (chunk sz len ds))),hp)
def isU8 (P:Program) (t:TypeId):Bool:=match P.underlying t with | some (.int .u8)=>true | _=>false
def nwOk:List (List D)→Bool
  | (_ :: _) :: _=>true
  | _=>false
def mkNw (b:Bool):V1→V1
  | .c (.d (.lst false es))=>if b then .c (.nw es) else .c (.d (.lst false es))
  | x=>x
def bnd (i:Int) (n:Nat):Option Nat:=if 0≤i∧i≤n then some i.toNat else none
def evB (s:Nat→AV) (dflt:Nat) (o:Option Operand):Option Int:=match o with | none=>some dflt | some x=>evI s x
def cutSlice (s:Nat→AV) (hp:Heap) (sz:Nat) (x:C) (lo hi mx:Option Operand):Option (V1×Heap) :=
  match x with
  | .slc k off sz' len cap =>
    if sz' = sz then
      match mx with
      | none=>do
        let h ← (evB s len hi).bind fun i=>bnd i (cap.getD len)
        let l ← (evB s 0 lo).bind fun i=>bnd i h
        some (.c (.slc k (off + l * sz) sz (h - l) (cap.map (· - l))),hp)
      | some m=>do
        let c ← (evI s m).bind fun i=>bnd i (cap.getD len)
        let hv ← hi
        let h ← (evI s hv).bind fun i=>bnd i c
        let l ← (evB s 0 lo).bind fun i=>bnd i h
        some (.c (.slc k (off + l * sz) sz (h - l) (some (c - l))),hp)
    else none
  | x=>do
    let (nl,es) ← x.list
    if es.all (·.length == sz) then
      match mx with
      | none=>do
        let h ← (evB s es.length hi).bind fun i=>bnd i es.length
        let l ← (evB s 0 lo).bind fun i=>bnd i h
        if lo.isNone && hi.isNone then some (.c x,hp) else some (.c (.d (.lst nl ((es.take h).drop l))),hp)
      | some m=>do
        let c ← (evI s m).bind fun i=>bnd i es.length
        let hv ← hi
        let h ← (evI s hv).bind fun i=>bnd i c
        let l ← (evB s 0 lo).bind fun i=>bnd i h
        if h = c then some (.c (.own nl ((es.take h).drop l) hp.length),hp ++ [.row (h - l) 0]) else none
    else none
def srcOf (hp:Heap):V1→Option (List (List D))
  | .c (.d (.sc (.string s)))=>some (encB s.data.toList)
  | .c x=>listOf hp x
  | _=>none
def newOwn (hard:Bool) (hp:Heap) (sz:Nat) (es:List (List D)):V1×Heap :=
  if hard then (.c (.slc hp.length 0 sz es.length none),hp ++ [.cells (es.flatten.map .d)]) else (.c (.own false es hp.length),hp ++ [.row es.length sz])
def appendA (P:Program) (hard:Bool) (hp:Heap) (t:TypeId) (x:C) (src:List (List D)):Option (V1×Heap) :=
  match P.underlying t with
  | some (.slice e) =>
    match szP P e,bytesP P e,zeroC P e with
    | some sz,some by_,some z =>
      if 0 < sz∧0 < by_∧z.length = sz∧src.all (·.length == sz) then
        match x with
        | .own nl es k =>
          if src = [] then some (.c (.own nl es k),hp) else
          match hp[k]? with
          | some (.row n sz') =>
            if hard = true∧n = 0∧sz' = 0∧es = []∧src.length * by_≤2 ^ 47 then some (newOwn true hp sz src) else
            if n = es.length∧(sz' = sz∨sz' = 0)∧es.all (·.length == sz)∧(es.length + src.length) * by_≤2 ^ 47 then
              some (.c (.own false (es ++ src) k),hp.set k (.row (es.length + src.length) sz))
            else none
          | _=>none
        | .d (.lst nl es) =>
          if src = [] then some (.c (.d (.lst nl es)),hp)
          else if nl = true∧es = []∧src.length * by_≤2 ^ 47 then some (newOwn hard hp sz src) else none
        | .slc k off sz' len (some cap) =>
          if src = [] then some (.c (.slc k off sz' len (some cap)),hp)
          else if sz' = sz∧len = cap then
            (listOf hp x).bind fun es=>if es.all (·.length == sz)∧(len + src.length) * by_≤2 ^ 47 then some (newOwn hard hp sz (es ++ src)) else none
          else if sz' = sz∧len + src.length≤cap then
            match hp[k]? with
            | some (.cells cs)=>if off + (len + src.length) * sz≤cs.length then
                some (.c (.slc k off sz (len + src.length) (some cap)),hp.set k (.cells (wr cs (off + len * sz) (src.flatten.map .d)))) else none
            | _=>none
          else none
        | .slc k off sz' len none =>
          if src = [] then some (.c (.slc k off sz' len none),hp)
          else if sz' = sz∧off = 0∧hard = true then
            (listOf hp x).bind fun es=>if es.all (·.length == sz)∧(len + src.length) * by_≤2 ^ 47 then
              some (.c (.slc hp.length 0 sz (len + src.length) none),hp.set k .gone ++ [.cells ((es ++ src).flatten.map .d)]) else none
          else none
        | _=>none
      else none
    | _,_,_=>none
  | _=>none
def appendZ (P:Program) (hard:Bool) (hp:Heap) (t:TypeId) (x:C) (y:V1):Option (V1×Heap) :=
  match P.underlying t,x,y with
  | some (.slice e),.d (.lst true []),.c (.d (.sc (.int _ n))) =>
    match szP P e,bytesP P e,zeroC P e with
    | some sz,some by_,some z =>
      if hard = true∧0 < sz∧0 < by_∧z.length = sz∧0 < n∧n * by_≤2 ^ 47 then
        some (.c (.slc hp.length 0 sz n.toNat none),hp ++ [.cells (List.replicate n.toNat z).flatten])
      else none
    | _,_,_=>none
  | some (.slice e),.own nl es k,.c (.d (.sc (.int _ n))) =>
    match szP P e,bytesP P e,zeroC P e,hp[k]? with
    | some sz,some by_,some z,some (.row m 0) =>
      if hard = true∧0 < sz∧0 < by_∧z.length = sz∧0 < n∧m = es.length∧es.all (·.length == sz) = true∧(es.length + n) * by_≤2 ^ 47 then
        some (.c (.slc hp.length 0 sz (es.length + n.toNat) none),hp ++ [.cells (es.flatten.map .d ++ (List.replicate n.toNat z).flatten)])
      else none
    | _,_,_,_=>none
  | _,_,_=>none
def appendN (P:Program) (hard:Bool) (hp:Heap) (t:TypeId) (x:C) (y:V1):Option (V1×Heap) :=
  match P.underlying t,y with
  | some (.slice e),.c (.d (.sc (.int _ n))) =>
    match bytesP P e,(zeroC P e).bind (·.mapM C.toD) with
    | some by_,some zd=>if 0≤n∧0 < by_∧n * by_≤2 ^ 47 then appendA P hard hp t x (List.replicate n.toNat zd) else none
    | _,_=>none
  | _,_=>none
def copyA (P:Program) (hp:Heap) (t:TypeId) (x:C) (src:List (List D)):Option (V1×Heap) :=
  match P.underlying t,x with
  | some (.slice e),.slc k off sz len _ =>
    if 0 < sz∧szP P e = some sz∧src.all (·.length == sz) then
      match hp[k]? with
      | some (.cells cs) =>
        if off + len * sz≤cs.length then
          some (.c (.d (.sc (.int .i64 ((min src.length len:Nat):Int)))),hp.set k (.cells (wr cs off ((src.take len).flatten.map .d))))
        else none
      | _=>none
    else none
  | _,_=>none
def lenA (hp:Heap):TypeDesc→V1→Option Nat
  | .string,.c (.d (.sc (.string s)))=>some s.size
  | .slice _,.c (.slc _ _ _ len _)=>some len
  | .slice _,.c (.d (.lst _ es))=>some es.length
  | .slice _,.c (.own _ es _)=>some es.length
  | .map _ _,.c (.d (.sc (.map none)))=>some 0
  | .map _ _,.c (.mp k)=>match hp[k]? with | some (.amap kvs)=>some kvs.length | _=>none
  | .array n _,_=>some n
  | _,_=>none
def clearA (P:Program) (hp:Heap) (t:TypeId) (k off sz len:Nat):Option (AV×Heap) :=
  match P.underlying t with
  | some (.slice e) =>
    match szP P e,zeroC P e,hp[k]? with
    | some sz',some z,some (.cells cs) =>
      if sz' = sz∧z.length = sz∧0 < sz∧off + len * sz≤cs.length then some (.tup [],hp.set k (.cells (wr cs off (List.replicate len z).flatten))) else none
    | _,_,_=>none
  | _=>none
def builtinA (P:Program) (s:Nat→AV) (hp:Heap) (b:Builtin) (c:Call) (ty:TypeId) (hard:Bool):Option (AV×Heap):=do
  let xs ← c.args.toList.mapM (ev1 s)
  let ts:=c.argTypes.toList
  match b,xs,ts with
  | .len,[x],t :: _ =>
    match P.underlying t with
    | some (.pointer a)=>match P.underlying a with
      | some (.array n _)=>some (.int .i64 n,hp)
      | _=>none
    | some d=>(lenA hp d x).map fun n=>(.int .i64 n,hp)
    | none=>none
  | .cap,[.c (.slc _ _ _ _ (some n))],t :: _=>match P.underlying t with
    | some (.slice _)=>some (.int .i64 n,hp)
    | _=>none
  | .cap,[.c (.d (.lst true []))],t :: _=>match P.underlying t with
    | some (.slice _)=>some (.int .i64 0,hp)
    | _=>none
  | .append,[.c x,y],t :: t2 :: _ =>
    match P.underlying t2 with
    | some (.int _)=>(if hard then appendZ P hard hp t x y else appendN P hard hp t x y).map fun r=>(.v r.1,r.2)
    | some _=>(srcOf hp y).bind fun src=>(appendA P hard hp t x src).map fun r=>(.v r.1,r.2)
    | none=>none
  | .copy,[.c x,y],t :: _=>(srcOf hp y).bind fun src=>(copyA P hp t x src).map fun r=>(.v r.1,r.2)
  | .min,_,_=>do
    let vs ← xs.mapM toV
    let r ← evalS P (Builtin.min_ c.argTypes ty vs.toArray)
    (ofV r).map fun v=>(.v v,hp)
  | .max,_,_=>do
    let vs ← xs.mapM toV
    let r ← evalS P (Builtin.max_ c.argTypes ty vs.toArray)
    (ofV r).map fun v=>(.v v,hp)
  | .clear,[.c (.slc k off sz len _)],t :: _=>clearA P hp t k off sz len
  | _,_,_=>none
def both {α:Type} (a b:Option Value) (f:Value→Value→α) (d:α):α:=match a,b with
  | some v,some w=>f v w
  | _,_=>d
theorem both_s {α:Type} (v w:Value) (f:Value→Value→α) (d:α):both (some v) (some w) f d = f v w:=rfl
theorem both_l {α:Type} (w:Option Value) (f:Value→Value→α) (d:α):both none w f d = d:=by cases w <;> rfl
theorem both_r {α:Type} (v:Value) (f:Value→Value→α) (d:α):both (some v) none f d = d:=rfl
def nilTest:TypeDesc→C→Operand→Option Bool
  | .slice _,.d (.lst nl _),.const (.slice none 0 0)=>some nl
  | .slice _,.own nl _ _,.const (.slice none 0 0)=>some nl
  | .slice _,.slc ..,.const (.slice none 0 0)=>some false
  | .pointer _,.ptr ..,.const (.pointer none)=>some false
  | .pointer _,.cptr ..,.const (.pointer none)=>some false
  | .map _ _,.mp _,.const (.map none)=>some false
  | .func _ _ _,.fn _ _,.const .nilFunc=>some false
  | .interface _,.nn,.const .nilIface=>some false
  | _,_,_=>none
def mapPut (E:Env) (s:Nat→AV) (hp:Heap) (t:TypeId) (x k v:Operand):Option (AV×Heap) :=
  match E.P.underlying t with
  | some (.map kt _)=>do
    let key ← (ev s k).bind AV.toV
    let kd ← E.P.underlying kt
    let val ← ev1 s v
    if keyOk kd key then
      match evC s x with
      | some (.mp m)=>match hp[m]? with
        | some (.amap kvs)=>(findK key kvs).map fun _=>(.dead,hp.set m (.amap (putK key val kvs)))
        | _=>none
      | _=>none
    else none
  | _=>none
def dop (E:Env) (s:Nat→AV) (hp:Heap) (o:Oper):Option (AV×Heap) :=
  match o.op with
  | .move x | .assign x=>(ev s x).map fun v=>(v,hp)
  | .pick c a b=>match ev s c with
    | some (.v (.c (.d (.sc (.bool t)))))=>if t then (ev s a).map fun v=>(v,hp) else (ev s b).map fun v=>(v,hp)
    | _=>none
  | .alloc t=>if E.aown o.pos then
      (match zeroC E.P t with
      | some [.d (.lst true [])]=>some (.v (.c (.ptr (hp.length + 1) 0)),hp ++ [.row 0 0] ++ [.cells [.own true [] hp.length]])
      | _=>none)
    else (zeroC E.P t).map fun cs=>(.v (.c (.ptr hp.length 0)),hp ++ [.cells cs])
  | .box _ x=>(ev1 s x).map fun v=>(.v (.c (.ptr hp.length 0)),hp ++ [.cells v.cells])
  | .build t parts=>do
    let ps ← evParts s parts.toList
    let z ← zeroC E.P t
    match E.P.underlying t with
    | some (.struct fs)=>do
      let pl ← places E.P fs.toList
      (fillC (pl[·]?) z ps).map fun cs=>(.v (.agg cs),hp)
    | some (.array _ e)=>do
      let n ← szP E.P e
      (fillC (fun i=>some (i * n,n)) z ps).map fun cs=>(.v (.agg cs),hp)
    | _=>none
  | .buildSlice t len parts=>do
    let ps ← evParts s parts.toList
    match E.P.underlying t with
    | some (.slice e)=>do
      let n ← szP E.P e
      let z ← zeroC E.P e
      if z.length = n∧0 < n∧len * n≤2 ^ 24 then
        let cs ← fillC (fun i=>some (i * n,n)) (List.replicate len z).flatten ps
        (newSlice hp (E.hard o.pos && !(E.nw o.pos && isU8 E.P e)) (E.row o.pos && !(E.nw o.pos && isU8 E.P e)) n len cs).map fun r=>(.v (mkNw (E.nw o.pos && isU8 E.P e) r.1),r.2)
      else none
    | _=>none
  | .load t a=>do
    let n ← szP E.P t
    let g ← aggP E.P t
    match evC s a with
    | some (.ptr k off) =>
      match hp[k]? with
      | some (.cells cs)=>if off + n≤cs.length∧(g∨n = 1) then (mkV g ((cs.drop off).take n)).map fun v=>(.v v,hp) else none
      | _=>none
    | some (.cptr cs off)=>if off + n≤cs.length∧(g∨n = 1) then (mkV g (((cs.drop off).take n).map .d)).map fun v=>(.v v,hp) else none
    | _=>none
  | .store t a x=>do
    let n ← szP E.P t
    let v ← ev1 s x
    match evC s a with
    | some (.ptr k off) =>
      match hp[k]? with
      | some (.cells cs)=>if off + n≤cs.length∧v.cells.length = n then some (.dead,hp.set k (.cells (wr cs off v.cells))) else none
      | _=>none
    | _=>none
  | .nilCheck x=>match evC s x with
    | some (.ptr k off)=>some (.v (.c (.ptr k off)),hp)
    | some (.cptr cs off)=>some (.v (.c (.cptr cs off)),hp)
    | some (.fn f cs)=>some (.v (.c (.fn f cs)),hp)
    | some (.d (.sc (.func (.func f) a b)))=>some (.sc (.func (.func f) a b),hp)
    | _=>none
  | .binOp op t x y _ =>
    match ev1 s x,ev1 s y with
    | some a,some b =>
      both (toV a) (toV b) (fun v w=>(evalS E.P (do eqGuard op t x y v w; binOp op t v w)).bind fun r=>(ofV r).map fun z=>(.v z,hp))
        (match a,E.P.underlying t with
        | .c a,some d =>
          match op,nilTest d a y with
          | .eql,some r=>some (.bool r,hp)
          | .neq,some r=>some (.bool (!r),hp)
          | _,_=>none
        | _,_=>none)
    | _,_=>none
  | .unOp op _ x=>do
    let v ← (ev s x).bind AV.toV
    let r ← evalS E.P (Op.unary op v)
    (ofV r).map fun z=>(.v z,hp)
  | .convert src dst x =>
    match E.P.underlying src,E.P.underlying dst,ev1 s x with
    | some .string,some (.slice e),some (.c (.d (.sc (.string b)))) =>
      match E.P.underlying e with
      | some (.int .u8) =>
        if E.hard o.pos then some (.v (.c (.slc hp.length 0 1 b.size none)),hp ++ [.cells ((b.data.toList.map fun c=>(C.d (.sc (.int .u8 c.toNat)))))])
        else if E.row o.pos then some (.v (.c (.own false (encB b.data.toList) hp.length)),hp ++ [.row b.size 1])
        else some (.v (.c (.d (.lst false (encB b.data.toList)))),hp)
      | _=>none
    | some (.slice e),some .string,some (.c y) =>
      match E.P.underlying e with
      | some (.int .u8)=>do
        let es ← listOf hp y
        let bs ← bytesOf es
        some (.str ⟨bs.toArray⟩,hp)
      | _=>none
    | some (.slice e),some (.slice _),some (.c (.slc k off sz len cap)) =>
      match E.P.underlying e,hp[k]? with
      | some (.int .u8),some (.cells _)=>if src = dst then some (.v (.c (.slc k off sz len cap)),hp) else none
      | _,_=>none
    | some (.slice e),some (.slice _),some (.c (.nw es)) =>
      match E.P.underlying e with
      | some (.int .u8)=>if nwOk es = true then (if src = dst then (if E.row o.pos then some (.v (.c (.own false es hp.length)),hp ++ [.row es.length 0]) else some (.v (.c (.d (.lst false es))),hp)) else none) else none
      | _=>none
    | some _,some _,some v=>do
      let a ← toV v
      let r ← evalS E.P (convert src dst a)
      (ofV r).map fun z=>(.v z,hp)
    | _,_,_=>none
  | .makeInterface t x=>do
    let v ← (ev s x).bind AV.toV
    let r ← evalS E.P (Instr.makeInterface t v)
    (ofV r).map fun z=>(.v z,hp)
  | .makeFunc fn first captured =>
    match fn,first.toList with
    | .func f,[]=>do
      let cs ← captured.toList.mapM fun c=>match evC s c with | some (.ptr k off)=>some (k,off) | _=>none
      if cs.isEmpty then some (.sc (.func (.func f) #[] #[]),hp) else some (.v (.c (.fn f cs)),hp)
    | _,_=>none
  | .makeMap _ none=>some (.v (.c (.mp hp.length)),hp ++ [.amap []])
  | .makeSlice t l c=>do
    match E.P.underlying t with
    | some (.slice e)=>do
      let n ← szP E.P e
      let b ← bytesP E.P e
      let z ← zeroC E.P e
      let li ← evI s l
      let ci ← evI s c
      if z.length = n∧0 < n∧0 < b∧0≤li∧li≤ci∧ci * b≤2 ^ 47 then
        some (.v (.c (.slc hp.length 0 n li.toNat (some ci.toNat))),hp ++ [.cells (List.replicate ci.toNat z).flatten])
      else none
    | _=>none
  | .slice t x lo hi mx =>
    match E.P.underlying t,ev1 s x with
    | some .string,some (.c (.d (.sc (.string b)))) =>
      match mx with
      | none=>do
        let h ← (evB s b.size hi).bind fun i=>bnd i b.size
        let l ← (evB s 0 lo).bind fun i=>bnd i h
        some (.str (b.extract l h),hp)
      | some _=>none
    | some (.slice e),some (.c y)=>do
      let sz ← szP E.P e
      let r ← cutSlice s hp sz y lo hi mx
      some (.v r.1,r.2)
    | some (.array n e),some (.c (.ptr k off))=>do
      let sz ← szP E.P e
      let r ← cutSlice s hp sz (.slc k off sz n (some n)) lo hi mx
      some (.v r.1,r.2)
    | some (.pointer a),some (.c (.ptr k off)) =>
      match E.P.underlying a with
      | some (.array n e)=>do
        let sz ← szP E.P e
        let r ← cutSlice s hp sz (.slc k off sz n (some n)) lo hi mx
        some (.v r.1,r.2)
      | _=>none
    | _,_=>none
  | .fieldAddr t x f =>
    match E.P.underlying t with
    | some (.struct fs)=>do
      let fd ← fs[f]?
      let n ← szP E.P fd.type
      if n = 0 then none else
      match evC s x with
      | some (.ptr k off)=>some (.v (.c (.ptr k (off + fd.offset))),hp)
      | some (.cptr cs off)=>some (.v (.c (.cptr cs (off + fd.offset))),hp)
      | _=>none
    | _=>none
  | .field t x f =>
    match E.P.underlying t,ev1 s x with
    | some (.struct fs),some (.agg cs)=>do
      let fd ← fs[f]?
      let n ← szP E.P fd.type
      let g ← aggP E.P fd.type
      if fd.offset + n≤cs.length∧(g∨n = 1) then (mkV g ((cs.drop fd.offset).take n)).map fun v=>(.v v,hp) else none
    | _,_=>none
  | .indexAddr t x ix =>
    match E.P.underlying t,evC s x,evI s ix with
    | some (.array n e),some (.ptr k off),some i=>do
      let sz ← szP E.P e
      if 0≤i∧i < n then some (.v (.c (.ptr k (off + i.toNat * sz))),hp) else none
    | some (.array n e),some (.cptr cs off),some i=>do
      let sz ← szP E.P e
      if 0≤i∧i < n then some (.v (.c (.cptr cs (off + i.toNat * sz))),hp) else none
    | some (.slice e),some (.slc k off sz len _),some i =>
      if szP E.P e = some sz∧0≤i∧i < len then some (.v (.c (.ptr k (off + i.toNat * sz))),hp) else none
    | some (.slice e),some y,some i=>do
      let (_,es) ← y.list
      let sz ← szP E.P e
      if es.all (·.length == sz)∧0≤i∧i < es.length then some (.v (.c (.cptr (es.getD i.toNat []) 0)),hp) else none
    | _,_,_=>none
  | .index t x ix =>
    match E.P.underlying t,ev1 s x,evI s ix with
    | some .string,some (.c (.d (.sc (.string b)))),some i =>
      if 0≤i∧i < b.size then some (.int .u8 (b.data.getD i.toNat 0).toNat,hp) else none
    | some (.array n e),some (.agg cs),some i=>do
      let sz ← szP E.P e
      let g ← aggP E.P e
      if 0≤i∧i < n∧(i.toNat * sz) + sz≤cs.length∧(g∨sz = 1) then (mkV g ((cs.drop (i.toNat * sz)).take sz)).map fun v=>(.v v,hp) else none
    | _,_,_=>none
  | .lookup t x k ok =>
    match E.P.underlying t with
    | some (.map kt e)=>do
      let key ← (ev s k).bind AV.toV
      let kd ← E.P.underlying kt
      if keyOk kd key then
        let z ← (zeroP E.P e).bind ofV
        let r ← (match evC s x with
          | some (.mp m)=>match hp[m]? with | some (.amap kvs)=>findK key kvs | _=>none
          | some (.d (.sc (.map none)))=>some none
          | _=>none)
        if ok then some (.tup [r.getD z,.c (.d (.sc (.bool r.isSome)))],hp) else some (.v (r.getD z),hp)
      else none
    | _=>none
  | .mapUpdate t x k v=>mapPut E s hp t x k v
  | .insert t x k v=>mapPut E s hp t x k v
  | .range t x =>
    match E.P.underlying t,evC s x with
    | some .string,some (.d (.sc (.string b)))=>some (.v (.c (.it hp.length)),hp ++ [.siter b 0])
    | _,_=>none
  | .next it true =>
    match evC s it with
    | some (.it k)=>match hp[k]? with
      | some (.siter b pos) =>
        if pos < b.size then
          let (c,w):=Utf8.decode b pos
          some (.tup [.c (.d (.sc (.bool true))),.c (.d (.sc (.int .i64 pos))),.c (.d (.sc (.int .i32 c)))],hp.set k (.siter b (pos + w)))
        else some (.tup [.c (.d (.sc (.bool false)))],hp)
      | _=>none
    | _=>none
  | .extract t i=>match ev s t with
    | some (.tup xs)=>(xs[i]?).map fun x=>(.v x,hp)
    | _=>none
  | .call c=>match c.callee with
    | .builtin b=>builtinA E.P s hp b c o.type (E.hard o.pos)
    | _=>none
  | _=>none
end Go.Ab
end
section
set_option linter.unusedVariables false
set_option linter.unusedSimpArgs false
namespace Go.Ab
open Go
def C.ro:C→C
  | .own nl es _=>.d (.lst nl es)
  | x=>x
def V1.ro:V1→V1
  | .c x=>.c x.ro
  | .agg cs=>.agg (cs.map C.ro)
def roA (keep:Bool) (args:List V1):List V1:=if keep then args else args.map V1.ro
def viaCall (keep:Bool) (call:List V1→Heap→Option (AV×Heap)) (args:List V1) (hp:Heap):Option (AV×Heap):=do
  let as:=roA keep args
  let σ:=close hp fuelR [] (as.flatMap V1.refs)
  let as' ← as.mapM (V1.ren fun j=>σ.idxOf? j)
  let h ← restrict σ hp
  let (v,h') ← call as' h
  let τ:Nat→Option Nat:=fun i=>some (if i < σ.length then σ.getD i 0 else hp.length + (i - σ.length))
  let h2 ← h'.mapM (Ob.ren τ)
  let v' ← v.ren τ
  some (v',(σ.zip h2).foldl (fun acc p=>acc.set p.1 p.2) hp ++ h2.drop σ.length)
def finishN (m:Nat) (hand:Bool) (hp:Heap) (v:AV):Option (AV×Heap) :=
  (v.freeze hp (if hand then hp.length else m)).bind fun r =>
    let σ:=closeM m hp r.1.refs
    if σ.take m = List.range m∧r.2.all (fun k => !σ.contains k) then
      (r.1.ren fun j=>σ.idxOf? j).bind fun v2=>(restrict σ hp).map fun h=>(v2,h)
    else none
def AV.ro:AV→AV
  | .v x=>.v x.ro
  | .tup xs=>.tup (xs.map V1.ro)
  | .dead=>.dead
def plainC (b:Bool) (c:List V1→Heap→Option (AV×Heap)):List V1→Heap→Option (AV×Heap):=if b then fun args hp=>(c args hp).bind fun r=>finishN hp.length false r.2 r.1.ro else c
theorem plainC_f (c:List V1→Heap→Option (AV×Heap)):plainC false c = c:=rfl
theorem plainC_t (c:List V1→Heap→Option (AV×Heap)) (args:List V1) (hp:Heap):plainC true c args hp = (c args hp).bind fun r=>finishN hp.length false r.2 r.1.ro:=rfl
abbrev Caller:=FuncId→List V1→Heap→Option (AV×Heap)
def entersB (P:Program) (g:FuncId):Option Bool:=(P.funcs[g]?).map fun fn=>fn.body.isSome && !(fn.name == "runtime.NumGoroutine")
def opCall (E:Env) (call:Caller) (s:Nat→AV) (hp:Heap) (c:Call):Option (AV×Heap) :=
  match c.callee with
  | .value f =>
    (c.args.toList.mapM (ev1 s)).bind fun args =>
    match ev s f with
    | some (.v (.c (.d (.sc (.func (.func g) fi ca))))) =>
      if fi.isEmpty && ca.isEmpty then
        match entersB E.P g with
        | some true=>match E.prim g with
          | some p=>viaCall (E.keep g) p args hp
          | none=>viaCall (E.keep g) (plainC (E.plain g) (call g)) args hp
        | _=>match E.extp g with
          | some p=>p args hp
          | none=>(args.mapM toV).bind fun vs=>(E.ext g vs).bind fun r=>(ofV r).map fun z=>(.v z,hp)
      else none
    | some (.v (.c (.fn g caps))) =>
      match entersB E.P g with
      | some true=>viaCall (E.keep g) (plainC (E.plain g) (call g)) (args ++ caps.map fun p=>.c (.ptr p.1 p.2)) hp
      | _=>none
    | _=>none
  | _=>none
@[irreducible] def bigT:Nat:=1000000007
def globOf:Op→Option (Nat×Op)
  | .load t (.global g)=>some (g,.load t (.tmp bigT))
  | .indexAddr t (.global g) (.tmp i)=>if Nat.beq i bigT then none else some (g,.indexAddr t (.tmp bigT) (.tmp i))
  | .indexAddr t (.global g) (.const v)=>some (g,.indexAddr t (.tmp bigT) (.const v))
  | .fieldAddr t (.global g) f=>some (g,.fieldAddr t (.tmp bigT) f)
  | _=>none
def stepA (E:Env) (call:Caller) (s:Nat→AV) (hp:Heap) (o:Oper):Option (AV×Heap) :=
  match o.op with
  | .call c=>(match c.callee with | .value _=>opCall E call s hp c | _=>dop E s hp o)
  | _=>match globOf o.op with
    | some (g,op')=>(E.glob g).bind fun cs=>dop E (upd s bigT (.v (.c (.cptr cs 0)))) hp ⟨o.dst,op',o.type,o.pos,o.after,o.guard⟩
    | none=>dop E s hp o
def wantA (ops:List Oper) (s:Nat→AV) (o:Oper):Option Bool :=
  match o.guard with
  | none=>some true
  | some (j,want)=>match (ops[j]?).bind (·.dst) with
    | some d=>match s d with
      | .v (.c (.d (.sc (.bool b))))=>some (b == want)
      | .tup []=>some false
      | _=>none
    | none=>none
def runOps (E:Env) (call:Caller) (all:List Oper):List Oper→St→Option St
  | [],st=>some st
  | o :: os,st =>
    match wantA all st.sl o with
    | some true=>match stepA E call st.sl st.hp o with
      | some (v,h)=>runOps E call all os ⟨putO st.sl o.dst v,h⟩
      | none=>none
    | some false=>runOps E call all os ⟨putO st.sl o.dst (.tup []),st.hp⟩
    | none=>none
def neutral (P:Program):Op→Bool
  | .move _ | .assign _ | .pick .. | .binOp .. | .unOp .. | .fieldAddr .. | .field .. | .indexAddr .. | .index .. | .extract .. | .nilCheck _ | .makeInterface .. | .load .. => true
  | .slice _ _ _ _ none=>true
  | .call c=>(match c.callee,c.argTypes.toList with
    | .builtin .len,t :: _=>(match P.underlying t with | some (.map _ _)=>false | some _=>true | none=>false)
    | _,_=>false)
  | _=>false
def neutralO (E:Env) (o:Oper):Bool:=match o.op with
  | .buildSlice .. => !(E.hard o.pos) && !(E.row o.pos)
  | .lookup .. | .build .. => true
  | .convert _ d _=>(match E.P.underlying d with
    | some (.slice _) => !(E.hard o.pos) && !(E.row o.pos)
    | some _=>true
    | none=>false)
  | op=>neutral E.P op
def neutralG (E:Env) (o:Oper):Bool:=(globOf o.op).isNone && neutralO E o
def lookL (all:List Oper) (o:Oper):List Nat :=
  (o.op.operands.toList.filterMap fun | .tmp t=>some t | _=>none) ++
  (match o.guard with
   | some (g,_)=>((all[g]?).bind (·.dst)).toList
   | none=>[])
def restr (L:List Nat) (s:Nat→AV):Nat→AV:=fun t=>if L.contains t then s t else .dead
def apartB (all:List Oper) (x y:Oper):Bool :=
  (match x.dst with | some d => !(lookL all y).contains d && (match y.dst with | some e=>e != d | none=>true) | none=>true) &&
  (match y.dst with | some d => !(lookL all x).contains d | none=>true)
def addTo (a:List Nat) (l:List Nat):List Nat:=l.foldl (fun a k=>if a.contains k then a else k :: a) a
def befores:List Oper→List (List Nat)→List (List Nat)
  | [],T=>T
  | o :: os,T=>befores os (T ++ [o.after.toList.foldl (fun a e=>if Region.binds .text e && Region.binds .gc e then addTo a (e.on :: T.getD e.on []) else a) []])
def strongB (e:Edge):Bool:=Region.binds .text e && Region.binds .gc e && Region.binds .any e
def beforesOk (all:List Oper) (T:List (List Nat)):Bool :=
  (List.range all.length).all fun i=>match all[i]? with
    | some o=>(o.after.toList.all fun e => !(strongB e) || decide (e.on < i)) &&
        (T.getD i []).all fun k=>o.after.toList.any fun e=>strongB e && (e.on == k || (T.getD e.on []).contains k)
    | none=>true
def ranks (md:Region.Mode) (ops:List Oper):List Nat:=(List.range ops.length).foldl (fun r _=>ops.map fun o=>o.after.toList.foldl (fun a e=>if Region.binds md e then max a (r.getD e.on 0 + 1) else a) 0) []
def rankOk (md:Region.Mode) (ops:List Oper) (r:List Nat):Bool :=
  (List.range ops.length).all fun i=>match ops[i]? with
    | some o=>o.after.toList.all fun e => !(Region.binds md e) || (decide (e.on < ops.length) && decide (r.getD e.on 0 < r.getD i 0))
    | none=>true
def goesOn (ops:List Oper):Bool :=
  ((List.range ops.length).all fun i=>match ops[i]? with
    | some o=>o.after.toList.all fun e=>decide (e.on < i)
    | none=>true) || (rankOk .text ops (ranks .text ops) && rankOk .gc ops (ranks .gc ops) && rankOk .any ops (ranks .any ops))
def pairsOk (E:Env) (all:List Oper) (T:List (List Nat)) (i0:Nat):Bool :=
  (List.range all.length).all fun j=>(List.range j).all fun i=>(T.getD j []).contains i || (match all[i]?,all[j]? with
    | some x,some y=>apartB all x y && (neutralG E x || neutralG E y || j == i0)
    | _,_=>true)
def isAl (E:Env) (o:Oper):Bool:=(match o.op with | .alloc _=>true | _=>false) && o.guard.isNone && o.dst.isSome && !(E.aown o.pos)
def allocAt (E:Env) (all:List Oper) (T:List (List Nat)):Nat :=
  ((List.range all.length).find? fun i=>match all[i]? with
    | some o=>isAl E o && (List.range i).any fun k => !(T.getD i []).contains k && (match all[k]? with | some x => !(neutralG E x) | none=>false)
    | none=>false).getD all.length
def laterOk (E:Env) (all:List Oper) (T:List (List Nat)) (i0:Nat):Bool :=
  (List.range all.length).all fun j => !(T.getD j []).contains i0 || (List.range i0).all fun k =>
    (T.getD i0 []).contains k || (T.getD j []).contains k || (match all[k]? with | some x=>neutralG E x | none=>true)
def allocOk (E:Env) (all:List Oper) (i0:Nat):Bool:=match all[i0]? with
  | some o=>isAl E o
  | none=>true
def drawOk (E:Env) (ops:List Oper):Bool :=
  let T:=befores ops []
  let i0:=allocAt E ops T
  goesOn ops && beforesOk ops T && pairsOk E ops T i0 && laterOk E ops T i0 && allocOk E ops i0
def isLoad (o:Oper):Bool:=match o.op with | .load .. | .lookup .. | .convert .. => true | _=>false
def floats (E:Env) (ops:List Oper):List (Nat×Nat) :=
  let T:=befores ops []
  (List.range ops.length).flatMap fun i=>match ops[i]? with
    | some x=>if isLoad x then (List.range ops.length).filterMap fun j=>(match ops[j]? with
        | some y=>if neutralG E y || (T.getD j []).contains i || (T.getD i []).contains j then none else some (i,j)
        | none=>none) else []
    | none=>[]
def eqV:Value→Value→Bool
  | .bool a,.bool b=>a == b
  | .int k a,.int k' b=>decide (k = k') && a == b
  | .string a,.string b=>a.data.toList == b.data.toList
  | .pointer none,.pointer none | .map none,.map none | .nilFunc,.nilFunc | .nilIface,.nilIface=>true
  | .func (.func f) a c,.func (.func g) b d=>f == g && a.isEmpty && b.isEmpty && c.isEmpty && d.isEmpty
  | _,_=>false
def eqL {α:Type} (f:α→α→Bool):List α→List α→Bool
  | [],[]=>true
  | a :: l,b :: m=>f a b && eqL f l m
  | _,_=>false
def eqD:Nat→D→D→Bool
  | _,.sc a,.sc b=>eqV a b
  | n + 1,.lst a es,.lst b fs=>a == b && eqL (eqL (eqD n)) es fs
  | _,_,_=>false
def eqC:C→C→Bool
  | .d x,.d y=>eqD 9 x y
  | .own a es k,.own b fs j=>a == b && k == j && eqL (eqL (eqD 9)) es fs
  | .slc k o s l c,.slc k' o' s' l' c'=>k == k' && o == o' && s == s' && l == l' && c == c'
  | .ptr k o,.ptr k' o'=>k == k' && o == o'
  | .mp k,.mp k'=>k == k'
  | .it k,.it k'=>k == k'
  | .fn f c,.fn g d=>f == g && c == d
  | _,_=>false
def eqV1:V1→V1→Bool
  | .c x,.c y=>eqC x y
  | .agg a,.agg b=>eqL eqC a b
  | _,_=>false
def eqOb:Ob→Ob→Bool
  | .cells a,.cells b=>eqL eqC a b
  | .row n s,.row n' s'=>n == n' && s == s'
  | .amap a,.amap b=>eqL (fun x y=>eqV x.1 y.1 && eqV1 x.2 y.2) a b
  | .siter s p,.siter s' p'=>s.data.toList == s'.data.toList && p == p'
  | _,_=>false
def eqO:Option Ob→Option Ob→Bool
  | some a,some b=>eqOb a b
  | none,none=>true
  | _,_=>false
abbrev Foot:=Option (List Nat)×Nat×(Nat→Bool)
def foot0 (R:List Nat):Foot:=(some R,0,fun _=>true)
def chgA (s:Nat→AV) (hp hp':Heap) (o:Oper) (k:Nat):Bool :=
  match o.op with
  | .call c=>(match c.callee,c.args.toList with
    | .builtin .append,a0 :: _=>(match ev1 s a0 with
      | some v=>v.refs.contains k && !(eqO hp[k]? hp'[k]?)
      | none=>true)
    | _,_ => !(eqO hp[k]? hp'[k]?))
  | _ => !(eqO hp[k]? hp'[k]?)
def footA (E:Env) (s:Nat→AV) (hp hp':Heap) (o:Oper):Foot :=
  if neutralG E o then foot0 (match o.op with
    | .load _ a=>(match evC s a with | some (.ptr k _)=>[k] | _=>[])
    | .lookup _ x _ _=>(match evC s x with | some (.mp k)=>[k] | _=>[])
    | .convert _ _ x=>(match evC s x with | some (.slc k _ _ _ _)=>[k] | _=>[])
    | _=>[])
  else (none,hp.length,chgA s hp hp' o)
def pairOk (r w:Foot):Bool :=
  match r.1 with
  | some R=>R.all fun k=>decide (k < w.2.1) && !(w.2.2 k)
  | none=>false
def coreA (E:Env) (call:Caller) (all:List Oper) (s:Nat→AV) (hp:Heap) (o:Oper):Option (AV×Heap) :=
  match wantA all s o with
  | some true=>stepA E call s hp o
  | some false=>some (.tup [],hp)
  | none=>none
def stepR (E:Env) (call:Caller) (all:List Oper) (o:Oper) (st:St):Option St :=
  (coreA E call all (restr (lookL all o) st.sl) st.hp o).map fun r=>⟨putO st.sl o.dst r.1,r.2⟩
def runD (E:Env) (call:Caller) (all:List Oper):List Oper→St→Option (St×List Foot)
  | [],st=>some (st,[])
  | o :: os,st=>(stepR E call all o st).bind fun st1=>(runD E call all os st1).map fun r=>(r.1,footA E (restr (lookL all o) st.sl) st.hp st1.hp o :: r.2)
def runDraw (E:Env) (call:Caller) (ops:List Oper) (st:St):Option St :=
  (runD E call ops ops st).bind fun r=>if (floats E ops).all (fun p=>pairOk (r.2.getD p.1 (foot0 [])) (r.2.getD p.2 (foot0 []))) then some r.1 else none
def coerceC (m:Nat) (hp:Heap):Co→C→Option (C×Heap×List Nat)
  | .freeze,.own nl es _=>some (.d (.lst nl es),hp,[])
  | .freeze,x=>(x.freeze hp m).map fun r=>(r.1,hp,r.2)
  | .own,.d (.lst true [])=>some (.own true [] hp.length,hp ++ [.row 0 0],[])
  | _,x=>some (x,hp,[])
def coerce (m:Nat) (hp:Heap) (co:Co):AV→Option (AV×Heap×List Nat)
  | .v (.c x)=>(coerceC m hp co x).map fun r=>(.v (.c r.1),r.2.1,r.2.2)
  | x=>some (x,hp,[])
def coerceAll (m:Nat) (s:Nat→AV):List (Nat×Co)→Heap→Option (List AV×Heap×List Nat)
  | [],hp=>some ([],hp,[])
  | (i,co) :: r,hp=>(coerce m hp co (s i)).bind fun x=>(coerceAll m s r x.2.1).map fun y=>(x.1 :: y.1,y.2.1,x.2.2 ++ y.2.2)
def canon (m:Nat) (L:List (Nat×Co)) (st:St):Option (List AV×Heap) :=
  (coerceAll m st.sl L st.hp).bind fun r =>
    let σ:=closeM m r.2.1 (r.1.flatMap AV.refs)
    if σ.take m = List.range m∧r.2.2.all (fun k => !σ.contains k) then
      (r.1.mapM (AV.ren fun j=>σ.idxOf? j)).bind fun vs=>(restrict σ r.2.1).map fun h=>(vs,h)
    else none
def slots:List (Nat×Co)→List AV→Nat→AV
  | (i,_) :: r,v :: vs=>upd (slots r vs) i v
  | _,_=>fun _=>.dead
abbrev X:=Option Nat×List AV×Heap
abbrev It:=(X→Option (X ⊕ (Ex×St)))→X→Option (Ex×St)
def firstRegion:Code→Option Nat
  | .region id _ _=>some id
  | .seq a b=>match firstRegion a with | some n=>some n | none=>firstRegion b
  | .cond _ a b=>match firstRegion a with | some n=>some n | none=>firstRegion b
  | .block _ a=>firstRegion a
  | .loop a=>firstRegion a
  | .scope a=>firstRegion a
  | _=>none
def hasLabel (c:Code) (l:Nat):Bool:=(findLabel c l).isSome
def den (E:Env) (fn:FuncId) (m:Nat) (call:Caller) (it:It):Code→Option Nat→St→Option (Ex×St)
  | .skip,none,st=>some (.normal,st)
  | .label _,none,st=>some (.normal,st)
  | .label l',some l,st=>if l' = l then some (.normal,st) else none
  | .ret,none,st=>some (.ret,st)
  | .exit id,none,st=>some (.exit id,st)
  | .goto l,none,st=>some (.goto l,st)
  | .seq a b,none,st=>match den E fn m call it a none st with
    | some (.normal,st')=>den E fn m call it b none st'
    | r=>r
  | .seq a b,some l,st =>
    if hasLabel a l then match den E fn m call it a (some l) st with
      | some (.normal,st')=>den E fn m call it b none st'
      | r=>r
    else den E fn m call it b (some l) st
  | .cond c t e,none,st=>match ev st.sl c with
    | some (.v (.c (.d (.sc (.bool b)))))=>if b then den E fn m call it t none st else den E fn m call it e none st
    | _=>none
  | .block id body,none,st=>match den E fn m call it body none st with
    | some (.exit i,st')=>if i = id then some (.normal,st') else some (.exit i,st')
    | r=>r
  | .region _ ops false,none,st=>(runOps E call ops.toList ops.toList st).map fun st'=>(.normal,st')
  | .region _ ops true,none,st=>if drawOk E ops.toList then (runDraw E call ops.toList st).map fun st'=>(.normal,st') else none
  | .loop body,none,st =>
    let L:=E.live fn ((firstRegion body).getD 0)
    (canon m L st).bind fun (vs,h)=>it (fun (_,vs,h) =>
      match den E fn m call it body none ⟨slots L vs,h⟩ with
      | some (.normal,st')=>(canon m L st').map fun (vs,h)=>.inl (none,vs,h)
      | some r=>some (.inr r)
      | none=>none) (none,vs,h)
  | .scope body,none,st =>
    let L:=E.live fn ((firstRegion body).getD 0)
    (canon m L st).bind fun (vs,h)=>it (fun (from_,vs,h) =>
      match den E fn m call it body from_ ⟨slots L vs,h⟩ with
      | some (.goto l,st')=>if hasLabel body l then (canon m L st').map fun (vs,h)=>.inl (some l,vs,h) else some (.inr (.goto l,st'))
      | some r=>some (.inr r)
      | none=>none) (none,vs,h)
  | _,_,_=>none
def codeOk (n:Nat):Code→Bool
  | .region _ ops _=>ops.all fun o=>o.dst.all (· < n)
  | .seq a b=>codeOk n a && codeOk n b
  | .cond _ a b=>codeOk n a && codeOk n b
  | .block _ a=>codeOk n a
  | .loop a=>codeOk n a
  | .scope a=>codeOk n a
  | .rangeFunc .. => false
  | _=>true
def resultA (s:Nat→AV) (hp:Heap) (P:Program):ResultVar→Option V1
  | .tmp t=>match s t with | .v x=>some x | _=>none
  | .cell a t=>do
    let n ← szP P t
    let g ← aggP P t
    match s a with
    | .v (.c (.ptr k off))=>match hp[k]? with
      | some (.cells cs)=>if off + n≤cs.length∧(g∨n = 1) then mkV g ((cs.drop off).take n) else none
      | _=>none
    | _=>none
def resultsA (fn:Func) (s:Nat→AV) (hp:Heap) (P:Program):Option AV :=
  (fn.results.toList.mapM (resultA s hp P)).map fun l=>match l with | [x]=>.v x | l=>.tup l
def Ob.frz:Ob→Ob
  | .amap kvs=>.amap (kvs.map fun e=>(e.1,e.2.ro))
  | o=>o
def frzH:Nat→Heap→Heap
  | _,[]=>[]
  | 0,o :: r=>o.frz :: frzH 0 r
  | m + 1,o :: r=>o :: frzH m r
def finish (m:Nat) (hand:Bool) (hp:Heap) (v:AV):Option (AV×Heap):=finishN m hand (if hand then hp else frzH m hp) v
def slotsOf (args:List V1):Nat→AV:=fun i=>match args[i]? with | some x=>.v x | none=>.dead
def callBody (E:Env) (call:Caller) (it:It):Caller:=fun f args hp =>
  match E.P.funcs[f]? with
  | some fn=>match fn.body with
    | some body =>
      if codeOk fn.ntmps body && decide (args.length≤fn.ntmps) then
        match den E f hp.length call it body none ⟨slotsOf args,hp⟩ with
        | some (.ret,st) | some (.normal,st)=>(resultsA fn st.sl st.hp E.P).bind (finish hp.length (E.hand f) st.hp)
        | _=>none
      else none
    | none=>none
  | none=>none
def itN:Nat→It
  | 0,_,_=>none
  | n + 1,g,x=>match g x with
    | some (.inl y)=>itN n g y
    | some (.inr r)=>some r
    | none=>none
def callN (E:Env):Nat→Caller
  | 0,_,_,_=>none
  | n + 1,f,args,hp=>callBody E (callN E n) (itN n) f args hp
end Go.Ab
end
section
set_option linter.unusedVariables false
set_option linter.unusedSimpArgs false
namespace Go.Ab
open Go
inductive Bd where
  | blk (b:Nat)
  | tail (b o sz cap:Nat)
  | none
structure Gh where
  β:Nat→Bd
  μ:Nat→Nat→Option Value
  /-- blocks from here on are the frame's own -/
  lo:Nat
def Bd.at:Bd→Nat→Prop
  | .blk b,x=>b = x
  | .tail b _ _ _,x=>b = x
  | .none,_=>False
inductive DR (μ:Nat→Nat→Option Value):D→Value→Prop
  | sc (v:Value) (h:v.oneCell' = true):DR μ (.sc v) v
  | lst (nl:Bool) (es:List (List D)) (a:Option Addr) (cap sz:Nat) (vs:Nat→Nat→Value)
      (hlen:es.length≤cap) (hnl:nl = a.isNone) (hcap:a = none→cap = 0) (hsp:es ≠ []→∀ ad,a = some ad→ad.spot = none) (hsz:∀ e ∈ es,e.length = sz)
      (hv:∀ i j e c,es[i]? = some e→e[j]? = some c→DR μ c (vs i j))
      (hm:∀ i j e c,es[i]? = some e→e[j]? = some c→∃ b o,a = some ⟨b,o,none⟩∧μ b (o + i * sz + j) = some (vs i j)) :
      DR μ (.lst nl es) (.slice a es.length cap)
inductive All2 {α β:Type} (R:α→β→Prop):List α→List β→Prop
  | nil:All2 R [] []
  | cons {a b l m} (h:R a b) (t:All2 R l m):All2 R (a :: l) (b :: m)
theorem All2.length {α β:Type} {R:α→β→Prop} {l:List α} {m:List β} (h:All2 R l m):l.length = m.length:=by
  induction h with
  | nil=>rfl
  | cons _ _ ih=>simp [ih]
theorem All2.get {α β:Type} {R:α→β→Prop} {l:List α} {m:List β} (h:All2 R l m) {i:Nat} {a:α} (ha:l[i]? = some a):∃ b,m[i]? = some b∧R a b:=by
  induction h generalizing i with
  | nil=>simp at ha
  | cons h _ ih =>
    cases i with
    | zero=>simp only [List.getElem?_cons_zero,Option.some.injEq] at ha; subst ha; exact ⟨_,rfl,h⟩
    | succ i=>simpa using ih (by simpa using ha)
theorem All2.of_get {α β:Type} {R:α→β→Prop} {l:List α} {m:List β} (hl:l.length = m.length) (h:∀ (i:Nat) a b,l[i]? = some a→m[i]? = some b→R a b):All2 R l m:=by
  induction l generalizing m with
  | nil=>cases m with
    | nil=>exact .nil
    | cons _ _=>simp at hl
  | cons a l ih=>cases m with
    | nil=>simp at hl
    | cons b m=>exact .cons (h 0 a b rfl rfl) (ih (by simpa using hl) fun i x y hx hy=>h (i + 1) x y (by simpa using hx) (by simpa using hy))
theorem All2.append {α β:Type} {R:α→β→Prop} {l l':List α} {m m':List β} (h:All2 R l m) (h':All2 R l' m'):All2 R (l ++ l') (m ++ m'):=by
  induction h with
  | nil=>exact h'
  | cons a _ ih=>exact .cons a ih
theorem All2.drop {α β:Type} {R:α→β→Prop} {l:List α} {m:List β} (n:Nat) (h:All2 R l m):All2 R (l.drop n) (m.drop n):=by
  induction n generalizing l m with
  | zero=>simpa using h
  | succ n ih=>cases h with
    | nil=>simpa using All2.nil
    | cons _ t=>simpa using ih t
theorem All2.take {α β:Type} {R:α→β→Prop} {l:List α} {m:List β} (n:Nat) (h:All2 R l m):All2 R (l.take n) (m.take n):=by
  induction n generalizing l m with
  | zero=>simpa using All2.nil
  | succ n ih=>cases h with
    | nil=>simpa using All2.nil
    | cons a t=>simpa using All2.cons a (ih t)
theorem All2.mono {α β:Type} {R S:α→β→Prop} (h:∀ a b,R a b→S a b) {l:List α} {m:List β} (r:All2 R l m):All2 S l m:=by
  induction r with
  | nil=>exact .nil
  | cons a _ ih=>exact .cons (h _ _ a) ih
def Bd.top:Bd→Nat
  | .tail _ o sz cap=>o + cap * sz
  | _=>0
theorem Bd.at_inj {β:Bd} {b b':Nat} (h:β.at b) (h':β.at b'):b = b':=by cases β <;> simp_all [Bd.at]
def Ob.isRow:Ob→Bool
  | .row _ _=>true
  | _=>false
def Isb (G:Gh) (hp:Heap) (k b:Nat):Prop:=∃ o,hp[k]? = some o∧o.isRow = false∧(o = .gone∨(G.β k).at b)
theorem Isb.at {G:Gh} {hp:Heap} {k b:Nat} {o:Ob} (h:Isb G hp k b) (hk:hp[k]? = some o) (hg:o ≠ .gone:=by nofun):(G.β k).at b:=by
  obtain ⟨o',ho,_,h⟩:=h
  rw [hk] at ho
  cases ho
  exact h.resolve_left hg
def CapR (β:Bd) (es:List (List D)) (v:Value):Prop :=
  match β with
  | .tail b o sz cap=>v = .slice (some ⟨b,o,none⟩) es.length cap∧∀ e ∈ es,e.length = sz
  | .none=>∃ a,v = .slice a es.length es.length
  | .blk _=>False
def CR (G:Gh) (hp:Heap):C→Value→Prop
  | .d x,v=>DR G.μ x v
  | .own nl es k,v=>DR G.μ (.lst nl es) v∧∃ n sz,hp[k]? = some (.row n sz)∧es.length≤n∧(es.length = n→CapR (G.β k) es v)
  | .slc k off sz len cap,v=>∃ b c off',Isb G hp k b∧v = .slice (some ⟨b,off',none⟩) len c∧len≤c∧(∀ c',cap = some c'→c = c')∧(c ≠ 0→off' = off) ∧
      (cap = none→c ≠ 0→hp[k]? = some .gone∨off + c * sz≤(G.β k).top)
  | .ptr k off,v=>∃ b,Isb G hp k b∧v = .pointer (some ⟨b,off,none⟩)
  | .cptr cs off,v=>∃ b o,v = .pointer (some ⟨b,o + off,none⟩)∧∃ vs:Nat→Value,∀ j c,cs[j]? = some c→DR G.μ c (vs j)∧G.μ b (o + j) = some (vs j)
  | .mp k,v=>∃ b,Isb G hp k b∧v = .map (some b)
  | .it k,v=>∃ b,Isb G hp k b∧v = .pointer (some ⟨b,0,none⟩)
  | .any,v=>v.oneCell' = true
  | .nn,v=>∃ t x,v = .iface t x
  | .nw es,v=>DR G.μ (.lst false es) v∧∃ b o,v = .slice (some ⟨b,o,none⟩) es.length es.length∧G.lo≤b
  | .fn f caps,v=>∃ vs:List Value,v = .func (.func f) #[] vs.toArray∧All2 (fun p x=>∃ b,Isb G hp p.1 b∧x = .pointer (some ⟨b,p.2,none⟩)) caps vs
def VR (G:Gh) (hp:Heap):V1→Value→Prop
  | .c x,v=>CR G hp x v
  | .agg cs,v=>∃ vs:List Value,v = .agg vs.toArray∧All2 (CR G hp) cs vs
def AR (G:Gh) (hp:Heap):AV→Value→Prop
  | .v x,v=>VR G hp x v
  | .tup xs,v=>∃ vs:List Value,v = .tuple vs.toArray∧All2 (VR G hp) xs vs
  | .dead,_=>True
def Fz (fz:Nat×Nat) (n:Nat):Prop:=fz.1≤fz.2∧∀ i,i < n→¬ (fz.1≤i∧i < fz.2)
def OR (G:Gh) (hp:Heap) (w:World) (k:Nat):Ob→Prop
  | .cells cs=>∃ b vs t fz,(G.β k).at b∧w.heap[b]? = some (.cells vs t fz)∧Fz fz vs.size∧cs.length≤vs.size ∧
      (∀ (i:Nat) c v,cs[i]? = some c→vs[i]? = some v→CR G hp c v)∧(∀ i,G.μ b i = none)∧(G.β k).top≤vs.size
  | .row n rsz=>match G.β k with
    | .none=>True
    | .tail b o sz cap=>rsz = sz∧(∃ vs t fz,w.heap[b]? = some (.cells vs t fz)∧Fz fz vs.size∧o + cap * sz≤vs.size)∧n≤cap∧0 < sz∧∀ i,o + n * sz≤i→G.μ b i = none
    | .blk _=>False
  | .amap kvs=>∃ b es clock,G.β k = .blk b∧w.heap[b]? = some (.map es clock) ∧
      All2 (fun (e:Value×V1) (m:MapEntry)=>e.1 = m.key∧VR G hp e.2 m.val) kvs es.toList∧∀ i,G.μ b i = none
  | .siter s p=>∃ b,G.β k = .blk b∧w.heap[b]? = some (.stringIter s p)∧∀ i,G.μ b i = none
  | .gone=>G.β k = .none
structure WR (G:Gh) (hp:Heap) (w:World):Prop where
  mu:∀ b i v,G.μ b i = some v→w.cell? ⟨b,i,none⟩ = some v
  ob:∀ k o,hp[k]? = some o→OR G hp w k o
  inj:∀ k k' b,k < hp.length→k' < hp.length→(G.β k).at b→(G.β k').at b→k = k'
  lo:G.lo≤w.heap.size
def KR (G0 G:Gh) (k:Nat):Ob→Ob→Prop
  | .row n _,.row n' _=>n≤n'∧(n = n'→G.β k = G0.β k)
  | .row _ _,_=>False
  | _,.row _ _=>False
  | .gone,.gone=>True
  | .gone,_=>False
  | _,.gone=>True
  | _,_=>G.β k = G0.β k
def Io (w0 w:World):Prop:=w.os = w0.os∧w.output = w0.output∧w.tape = w0.tape
theorem Io.refl (w:World):Io w w:=⟨rfl,rfl,rfl⟩
theorem Io.trans {a b c:World} (h:Io a b) (h':Io b c):Io a c:=⟨h'.1.trans h.1,h'.2.1.trans h.2.1,h'.2.2.trans h.2.2⟩
structure Sn (G0:Gh) (hp0:Heap) (w0:World) (G:Gh) (hp:Heap) (w:World):Prop where
  mu:∀ b i v,G0.μ b i = some v→G.μ b i = some v
  muNew:∀ b i,G.μ b i ≠ none→G0.μ b i ≠ none∨w0.heap.size≤b∨∃ k,k < hp0.length∧(G0.β k).at b
  bdNew:∀ k b,k < hp.length→(G.β k).at b→w0.heap.size≤b∨∃ k',k' < hp0.length∧(G0.β k').at b
  same:∀ b,b < w0.heap.size→(b < G0.lo∨∀ i,G0.μ b i = none)→(∀ k,k < hp0.length→¬ (G0.β k).at b)→w.heap[b]? = w0.heap[b]?
  size:w0.heap.size≤w.heap.size
  kind:∀ k o,hp0[k]? = some o→∃ o',hp[k]? = some o'∧KR G0 G k o o'
  io:Io w0 w
  lo:G.lo = G0.lo
theorem KR.refl (G:Gh) (k:Nat) (o:Ob):KR G G k o o:=by cases o <;> simp [KR]
theorem KR.trans {G0 G1 G2:Gh} {k:Nat} {o0 o1 o2:Ob} (h:KR G0 G1 k o0 o1) (h':KR G1 G2 k o1 o2):KR G0 G2 k o0 o2:=by
  cases o0 <;> cases o1 <;> cases o2 <;> simp_all [KR]
  obtain ⟨a,b⟩:=h
  obtain ⟨c,d⟩:=h'
  refine ⟨by omega,fun e=>?_⟩
  rw [d (by omega),b (by omega)]
theorem Sn.refl (G:Gh) (hp:Heap) (w:World):Sn G hp w G hp w :=
  ⟨fun _ _ _ h=>h,fun _ _ h=>.inl h,fun k _ hk h=>.inr ⟨k,hk,h⟩,fun _ _ _ _=>rfl,Nat.le_refl _,fun k o h=>⟨o,h,KR.refl G k o⟩,Io.refl w,rfl⟩
theorem Sn.trans {G0 G1 G2:Gh} {h0 h1 h2:Heap} {w0 w1 w2:World} (a:Sn G0 h0 w0 G1 h1 w1) (b:Sn G1 h1 w1 G2 h2 w2):Sn G0 h0 w0 G2 h2 w2:=by
  refine ⟨fun x i v h=>b.mu _ _ _ (a.mu _ _ _ h),fun x i h=>?_,fun k x hk h=>?_,fun x hx hl hn=>?_,Nat.le_trans a.size b.size,fun k o h=>?_,a.io.trans b.io,b.lo.trans a.lo⟩
  · rcases b.muNew x i h with h | h | ⟨k,hk,h⟩
    · exact a.muNew x i h
    · exact .inr (.inl (Nat.le_trans a.size h))
    · rcases a.bdNew k x hk h with h | h
      · exact .inr (.inl h)
      · exact .inr (.inr h)
  · rcases b.bdNew k x hk h with h | ⟨k',hk',h⟩
    · exact .inl (Nat.le_trans a.size h)
    · exact a.bdNew k' x hk' h
  · rw [b.same x (Nat.lt_of_lt_of_le hx a.size) (hl.imp (fun h=>by rw [a.lo]; exact h) fun h i=>?_) fun k hk hat=>?_]
    · exact a.same x hx hl hn
    · cases e:G1.μ x i with
      | none=>rfl
      | some v =>
        rcases a.muNew x i (by rw [e]; simp) with q | q | ⟨k,hk,q⟩
        · exact (q (h i)).elim
        · omega
        · exact (hn k hk q).elim
    · rcases a.bdNew k x hk hat with h | ⟨k',hk',h⟩
      · omega
      · exact hn k' hk' h
  · obtain ⟨o1,e1,r1⟩:=a.kind k o h
    obtain ⟨o2,e2,r2⟩:=b.kind k o1 e1
    exact ⟨o2,e2,r1.trans r2⟩
structure Up (G0:Gh) (hp0:Heap) (G:Gh) (hp:Heap):Prop where
  mu:∀ b i v,G0.μ b i = some v→G.μ b i = some v
  kind:∀ k o,hp0[k]? = some o→∃ o',hp[k]? = some o'∧KR G0 G k o o'
  lo:G.lo = G0.lo
theorem Sn.up {G0 G:Gh} {hp0 hp:Heap} {w0 w:World} (s:Sn G0 hp0 w0 G hp w):Up G0 hp0 G hp:=⟨s.mu,s.kind,s.lo⟩
theorem DR.mono {μ μ':Nat→Nat→Option Value} (h:∀ b i v,μ b i = some v→μ' b i = some v) {x:D} {v:Value} (r:DR μ x v):DR μ' x v:=by
  induction r with
  | sc v hv=>exact .sc v hv
  | lst nl es a cap sz vs hlen hnl hcap hsp hsz _ hm ih =>
    refine .lst nl es a cap sz vs hlen hnl hcap hsp hsz ih fun i j e c he hc=>?_
    obtain ⟨b,o,ha,hb⟩:=hm i j e c he hc
    exact ⟨b,o,ha,h _ _ _ hb⟩
theorem Isb.up {G0 G:Gh} {hp0 hp:Heap} (s:Up G0 hp0 G hp) {k b:Nat} (h:Isb G0 hp0 k b):Isb G hp k b:=by
  obtain ⟨o,ho,hr,hb⟩:=h
  obtain ⟨o',ho',hk⟩:=s.kind k o ho
  cases o <;> cases o' <;> simp_all [KR,Isb,Ob.isRow]
theorem gone_up {G0 G:Gh} {hp0 hp:Heap} (s:Up G0 hp0 G hp) {k n:Nat} {o:Ob} (hk:hp0[k]? = some o) (hr:o.isRow = false) (h:hp0[k]? = some .gone∨n≤(G0.β k).top):hp[k]? = some .gone∨n≤(G.β k).top:=by
  obtain ⟨o',ho',hkr⟩:=s.kind k o hk
  cases o <;> cases o' <;> simp_all [KR,Ob.isRow]
theorem CapR.of_eq {β β':Bd} {es:List (List D)} {v:Value} (h:β' = β) (r:CapR β es v):CapR β' es v:=h ▸ r
theorem CR.up {G0 G:Gh} {hp0 hp:Heap} (s:Up G0 hp0 G hp) {x:C} {v:Value} (h:CR G0 hp0 x v):CR G hp x v:=by
  cases x with
  | d x=>exact DR.mono s.mu h
  | own nl es k =>
    obtain ⟨hd,n,sz,hn,hle,hcap⟩:=h
    obtain ⟨o',ho',hk⟩:=s.kind k _ hn
    cases o' with
    | row n' sz' =>
      simp only [KR] at hk
      exact ⟨hd.mono s.mu,n',sz',ho',by omega,fun e=>(hcap (by omega)).of_eq (hk.2 (by omega))⟩
    | _=>simp [KR] at hk
  | slc k off sz len cap =>
    obtain ⟨b,c,o,hi,r1,r2,r3,r4,r5⟩:=h
    obtain ⟨ob,hob,hr,_⟩:=id hi
    exact ⟨b,c,o,hi.up s,r1,r2,r3,r4,fun e hc=>gone_up s hob hr (r5 e hc)⟩
  | ptr k off=>obtain ⟨b,hi,r⟩:=h; exact ⟨b,hi.up s,r⟩
  | cptr cs off =>
    obtain ⟨b,o,hv,vs,r⟩:=h
    exact ⟨b,o,hv,vs,fun j c hc=>⟨(r j c hc).1.mono s.mu,s.mu _ _ _ (r j c hc).2⟩⟩
  | mp k=>obtain ⟨b,hi,r⟩:=h; exact ⟨b,hi.up s,r⟩
  | it k=>obtain ⟨b,hi,r⟩:=h; exact ⟨b,hi.up s,r⟩
  | any=>exact h
  | nn=>exact h
  | nw es=>obtain ⟨h1,b,o,h2,h3⟩:=h; exact ⟨h1.mono s.mu,b,o,h2,by rw [s.lo]; exact h3⟩
  | fn f caps =>
    obtain ⟨vs,hv,r⟩:=h
    refine ⟨vs,hv,?_⟩
    clear hv
    induction r with
    | nil=>exact .nil
    | cons h _ ih=>obtain ⟨b,hi,e⟩:=h; exact .cons ⟨b,hi.up s,e⟩ ih
theorem VR.up {G0 G:Gh} {hp0 hp:Heap} (s:Up G0 hp0 G hp) {x:V1} {v:Value} (h:VR G0 hp0 x v):VR G hp x v:=by
  cases x with
  | c x=>exact CR.up s h
  | agg cs=>obtain ⟨vs,hv,r⟩:=h; exact ⟨vs,hv,r.mono fun _ _=>CR.up s⟩
theorem AR.up {G0 G:Gh} {hp0 hp:Heap} (s:Up G0 hp0 G hp) {x:AV} {v:Value} (h:AR G0 hp0 x v):AR G hp x v:=by
  cases x with
  | v x=>exact VR.up s h
  | tup xs=>obtain ⟨vs,hv,r⟩:=h; exact ⟨vs,hv,r.mono fun _ _=>VR.up s⟩
  | dead=>trivial
section
variable {G0 G:Gh} {hp0 hp:Heap} {w0 w:World} (s:Sn G0 hp0 w0 G hp w)
include s
theorem Isb.mono {k b:Nat} (h:Isb G0 hp0 k b):Isb G hp k b:=h.up s.up
theorem CR.mono {x:C} {v:Value} (h:CR G0 hp0 x v):CR G hp x v:=h.up s.up
theorem VR.mono {x:V1} {v:Value} (h:VR G0 hp0 x v):VR G hp x v:=h.up s.up
theorem AR.mono {x:AV} {v:Value} (h:AR G0 hp0 x v):AR G hp x v:=h.up s.up
end
theorem DR.one {μ:Nat→Nat→Option Value} {x:D} {v:Value} (h:DR μ x v):v.oneCell' = true:=by cases h <;> first | assumption | rfl
theorem CR.one {G:Gh} {hp:Heap} {x:C} {v:Value} (h:CR G hp x v):v.oneCell' = true:=by
  cases x with
  | d x=>exact DR.one h
  | own nl es k=>exact DR.one h.1
  | slc k off sz len cap=>obtain ⟨b,c,o,_,rfl,_⟩:=h; rfl
  | ptr k off=>obtain ⟨b,_,rfl⟩:=h; rfl
  | cptr cs off=>obtain ⟨b,o,rfl,_⟩:=h; rfl
  | mp k=>obtain ⟨b,_,rfl⟩:=h; rfl
  | it k=>obtain ⟨b,_,rfl⟩:=h; rfl
  | any=>exact h
  | nn=>obtain ⟨t,x,rfl⟩:=h; rfl
  | nw es=>obtain ⟨_,b,o,rfl,_⟩:=h; rfl
  | fn f caps=>obtain ⟨vs,rfl,_⟩:=h; rfl
theorem cells_of_one {v:Value} (h:v.oneCell' = true):v.cells = #[v]:=by cases v <;> first | rfl | simp [Value.oneCell'] at h
theorem VR.cells {G:Gh} {hp:Heap} {x:V1} {v:Value} (h:VR G hp x v):All2 (CR G hp) x.cells v.cells.toList:=by
  cases x with
  | c x=>rw [cells_of_one (CR.one h)]; exact .cons h .nil
  | agg cs=>obtain ⟨vs,rfl,r⟩:=h; simpa [Value.cells,V1.cells] using r
theorem evalS_run {P:Program} {α:Type} {s:Sem α} {a:α} (h:evalS P s = some a) (w:World):s.run P w = .ok a w:=by
  induction s with
  | pure b=>simp only [evalS,Option.some.injEq] at h; subst h; rfl
  | program k ih=>simp only [evalS] at h; simp only [Sem.run]; exact ih P h
  | _=>simp [evalS] at h
end Go.Ab
end
section
set_option linter.unusedVariables false
set_option linter.unusedSimpArgs false
namespace Go.Ab
open Go
theorem cell_at {w:World} {b:Nat} {vs:Array Value} {t:TypeId} {fz:Nat×Nat} (h:w.heap[b]? = some (.cells vs t fz)) (i:Nat):w.cell? ⟨b,i,none⟩ = vs[i]? := by
  simp [World.cell?,h]
theorem block_of_cell {w:World} {b i:Nat} {v:Value} (h:w.cell? ⟨b,i,none⟩ = some v):∃ vs t fz,w.heap[b]? = some (.cells vs t fz)∧vs[i]? = some v:=by
  simp only [World.cell?] at h
  split at h
  · rename_i c t fz hb
    exact ⟨c,t,fz,hb,by simpa using h⟩
  · simp at h
theorem lt_of_block {w:World} {b:Nat} {o:Obj} (h:w.heap[b]? = some o):b < w.heap.size:=by
  rcases Nat.lt_or_ge b w.heap.size with h' | h'
  · exact h'
  · simp [Array.getElem?_eq_none h'] at h
theorem WR.mu_lt {G:Gh} {hp:Heap} {w:World} (hw:WR G hp w) {b i:Nat} {v:Value} (h:G.μ b i = some v):b < w.heap.size:=by
  obtain ⟨vs,t,fz,hb,_⟩:=block_of_cell (hw.mu b i v h)
  exact lt_of_block hb
theorem WR.at_lt {G:Gh} {hp:Heap} {w:World} (hw:WR G hp w) {k b:Nat} (hk:k < hp.length) (h:(G.β k).at b):b < w.heap.size:=by
  have ho:=hw.ob k hp[k] (List.getElem?_eq_getElem hk)
  generalize hp[k] = ob at ho
  cases hb:G.β k with
  | none=>simp [hb,Bd.at] at h
  | blk b' =>
    have hbb:b' = b:=by simpa [hb,Bd.at] using h
    subst hbb
    cases ob with
    | cells cs=>obtain ⟨b'',vs,t,fz,h1,h2,_⟩:=ho; cases Bd.at_inj h h1; exact lt_of_block h2
    | row n rsz=>simp [OR,hb] at ho
    | amap kvs=>obtain ⟨b'',es,c,h1,h2,_⟩:=ho; rw [hb] at h1; cases h1; exact lt_of_block h2
    | siter s p=>obtain ⟨b'',h1,h2,_⟩:=ho; rw [hb] at h1; cases h1; exact lt_of_block h2
    | gone=>simp [OR,hb] at ho
  | tail b' o sz cap =>
    have hbb:b' = b:=by simpa [hb,Bd.at] using h
    subst hbb
    cases ob with
    | cells cs=>obtain ⟨b'',vs,t,fz,h1,h2,_⟩:=ho; cases Bd.at_inj h h1; exact lt_of_block h2
    | row n rsz=>simp only [OR,hb] at ho; obtain ⟨_,⟨vs,t,fz,h2,_⟩,_⟩:=ho; exact lt_of_block h2
    | amap kvs=>obtain ⟨b'',es,c,h1,_⟩:=ho; rw [hb] at h1; cases h1
    | siter s p=>obtain ⟨b'',h1,_⟩:=ho; rw [hb] at h1; cases h1
    | gone=>simp [OR,hb] at ho
theorem OR.keep {G G':Gh} {hp hp':Heap} {w w':World} {k:Nat} {o:Ob} (h:OR G hp w k o) (s:Sn G hp w G' hp' w') (hb:G'.β k = G.β k)
    (hh:∀ b,(G.β k).at b→w'.heap[b]? = w.heap[b]?) (hm:∀ b i,(G.β k).at b→G.μ b i = none→G'.μ b i = none):OR G' hp' w' k o:=by
  cases o with
  | cells cs =>
    obtain ⟨b,vs,t,fz,hat,h2,h3,h4,h5,h6,h7⟩:=h
    exact ⟨b,vs,t,fz,by rw [hb]; exact hat,by rw [hh b hat,h2],h3,h4,fun i c v hc hv=>(h5 i c v hc hv).mono s,fun i=>hm b i hat (h6 i),by rw [hb]; exact h7⟩
  | gone=>exact hb.trans h
  | row n rsz =>
    simp only [OR] at h ⊢
    rw [hb]
    cases hbd:G.β k with
    | none=>trivial
    | blk b=>rw [hbd] at h; exact h.elim
    | tail b o sz cap =>
      rw [hbd] at h
      obtain ⟨h0,⟨vs,t,fz,h1,h2,h3⟩,h4,h5,h6⟩:=h
      have hat:(G.β k).at b:=by rw [hbd]; rfl
      exact ⟨h0,⟨vs,t,fz,by rw [hh b hat,h1],h2,h3⟩,h4,h5,fun i hi=>hm b i hat (h6 i hi)⟩
  | amap kvs =>
    obtain ⟨b,es,c,h1,h2,h3,h4⟩:=h
    have hat:(G.β k).at b:=by rw [h1]; rfl
    exact ⟨b,es,c,by rw [hb,h1],by rw [hh b hat,h2],h3.mono fun _ _ r=>⟨r.1,r.2.mono s⟩,fun i=>hm b i hat (h4 i)⟩
  | siter st p =>
    obtain ⟨b,h1,h2,h3⟩:=h
    have hat:(G.β k).at b:=by rw [h1]; rfl
    exact ⟨b,by rw [hb,h1],by rw [hh b hat,h2],fun i=>hm b i hat (h3 i)⟩
theorem push_ok {G:Gh} {hp:Heap} {w w':World} {ob:Obj} {o:Ob} {bd:Bd} {μ':Nat→Nat→Option Value} (hw:WR G hp w) (hh:w'.heap = w.heap.push ob)
    (hbd:∀ b,bd.at b→b = w.heap.size) (hμ:∀ b i v,G.μ b i = some v→μ' b i = some v) (hμn:∀ b i,μ' b i ≠ none→G.μ b i ≠ none∨b = w.heap.size)
    (hμc:∀ i v,μ' w.heap.size i = some v→w'.cell? ⟨w.heap.size,i,none⟩ = some v) (hio:Io w w':=by first | exact ⟨rfl,rfl,rfl⟩ | assumption) :
    Sn G hp w ⟨fun k=>if k = hp.length then bd else G.β k,μ',G.lo⟩ (hp ++ [o]) w' ∧
    (OR ⟨fun k=>if k = hp.length then bd else G.β k,μ',G.lo⟩ (hp ++ [o]) w' hp.length o→WR ⟨fun k=>if k = hp.length then bd else G.β k,μ',G.lo⟩ (hp ++ [o]) w'):=by
  have old:∀ b,b < w.heap.size→w'.heap[b]? = w.heap[b]? := fun b hb=>by rw [hh]; simp [Array.getElem?_push,Nat.ne_of_lt hb]
  have s:Sn G hp w ⟨fun k=>if k = hp.length then bd else G.β k,μ',G.lo⟩ (hp ++ [o]) w':=by
    refine ⟨hμ,fun b i h=>?_,fun k b hk h=>?_,fun b hb _ _=>old b hb,by rw [hh]; simp,fun k o' h=>?_,hio,rfl⟩
    · rcases hμn b i h with h | h
      · exact .inl h
      · exact .inr (.inl (by omega))
    · by_cases e:k = hp.length
      · simp only [e,if_true] at h
        exact .inl (by have:=hbd b h; omega)
      · simp only [e,if_false] at h
        exact .inr ⟨k,by simp at hk; omega,h⟩
    · have hk:k < hp.length:=by
        rcases Nat.lt_or_ge k hp.length with h' | h'
        · exact h'
        · simp [List.getElem?_eq_none h'] at h
      refine ⟨o',by rw [List.getElem?_append_left hk]; exact h,?_⟩
      have:k ≠ hp.length:=by omega
      cases o' <;> simp [KR,this]
  refine ⟨s,fun hor=>⟨fun b i v h=>?_,fun k o' h=>?_,fun k k' b hk hk' h h'=>?_,Nat.le_trans hw.lo s.size⟩⟩
  · replace h:μ' b i = some v:=h
    by_cases e:b = w.heap.size
    · subst e; exact hμc i v h
    · rcases hμn b i (by rw [h]; simp) with h2 | h2
      · cases hv:G.μ b i with
        | none=>exact (h2 hv).elim
        | some u =>
          have:=hμ b i u hv
          rw [h] at this
          cases this
          have hc:=hw.mu b i v hv
          obtain ⟨vs,t,fz,hb,hi⟩:=block_of_cell hc
          have:=lt_of_block hb
          rw [cell_at (by rw [old b this]; exact hb),hi]
      · exact (e h2).elim
  · by_cases e:k = hp.length
    · subst e
      simp at h
      subst h
      exact hor
    · have hk:k < hp.length:=by
        rcases Nat.lt_or_ge k hp.length with h' | h'
        · exact h'
        · rw [List.getElem?_append_right h'] at h
          have:k - hp.length ≠ 0:=by omega
          cases hkk:k - hp.length with
          | zero=>omega
          | succ n=>simp [hkk] at h
      rw [List.getElem?_append_left hk] at h
      have hlt:∀ b,(G.β k).at b→b < w.heap.size:=fun b hb=>hw.at_lt hk hb
      refine (hw.ob k o' h).keep s (by simp [e]) (fun b hb=>old b (hlt b hb)) fun b i hb hn=>?_
      show μ' b i = none
      cases hm:μ' b i with
      | none=>rfl
      | some u =>
        rcases hμn b i (by rw [hm]; simp) with h2 | h2
        · exact (h2 hn).elim
        · have:=hlt b hb; omega
  · simp only [List.length_append,List.length_singleton] at hk hk'
    by_cases e:k = hp.length <;> by_cases e':k' = hp.length <;> simp only [e,e',if_true,if_false] at h h'
    · omega
    · have:=hbd b h; have:=hw.at_lt (by omega) h'; omega
    · have:=hbd b h'; have:=hw.at_lt (by omega) h; omega
    · exact hw.inj k k' b (by omega) (by omega) h h'
theorem push_mu {G:Gh} {hp:Heap} {w w':World} {ob:Obj} {μ':Nat→Nat→Option Value} (hw:WR G hp w) (hh:w'.heap = w.heap.push ob)
    (hμ:∀ b i v,G.μ b i = some v→μ' b i = some v) (hμn:∀ b i,μ' b i ≠ none→G.μ b i ≠ none∨b = w.heap.size)
    (hμc:∀ i v,μ' w.heap.size i = some v→w'.cell? ⟨w.heap.size,i,none⟩ = some v) (hio:Io w w':=by first | exact ⟨rfl,rfl,rfl⟩ | assumption) :
    Sn G hp w ⟨G.β,μ',G.lo⟩ hp w'∧WR ⟨G.β,μ',G.lo⟩ hp w':=by
  have old:∀ b,b < w.heap.size→w'.heap[b]? = w.heap[b]? := fun b hb=>by rw [hh]; simp [Array.getElem?_push,Nat.ne_of_lt hb]
  have s:Sn G hp w ⟨G.β,μ',G.lo⟩ hp w':=by
    refine ⟨hμ,fun b i h=>?_,fun k b hk h=>.inr ⟨k,hk,h⟩,fun b hb _ _=>old b hb,by rw [hh]; simp,fun k o' h=>⟨o',h,?_⟩,hio,rfl⟩
    · rcases hμn b i h with h | h
      · exact .inl h
      · exact .inr (.inl (by omega))
    · cases o' <;> simp [KR]
  refine ⟨s,⟨fun b i v h=>?_,fun k o' h=>?_,hw.inj,Nat.le_trans hw.lo s.size⟩⟩
  · replace h:μ' b i = some v:=h
    by_cases e:b = w.heap.size
    · subst e; exact hμc i v h
    · rcases hμn b i (by rw [h]; simp) with h2 | h2
      · cases hv:G.μ b i with
        | none=>exact (h2 hv).elim
        | some u =>
          have:=hμ b i u hv
          rw [h] at this
          cases this
          have hc:=hw.mu b i v hv
          obtain ⟨vs,t,fz,hb,hi⟩:=block_of_cell hc
          have:=lt_of_block hb
          rw [cell_at (by rw [old b this]; exact hb),hi]
      · exact (e h2).elim
  · have hk:k < hp.length:=by
      rcases Nat.lt_or_ge k hp.length with h' | h'
      · exact h'
      · simp [List.getElem?_eq_none h'] at h
    have hlt:∀ b,(G.β k).at b→b < w.heap.size:=fun b hb=>hw.at_lt hk hb
    refine (hw.ob k o' h).keep s rfl (fun b hb=>old b (hlt b hb)) fun b i hb hn=>?_
    show μ' b i = none
    cases hm:μ' b i with
    | none=>rfl
    | some u =>
      rcases hμn b i (by rw [hm]; simp) with h2 | h2
      · exact (h2 hn).elim
      · have:=hlt b hb; omega
theorem set_ok {G:Gh} {hp:Heap} {w w':World} {k b:Nat} {o o':Ob} (hw:WR G hp w) (hk:hp[k]? = some o) (hat:(G.β k).at b)
    (hr:o.isRow = false) (hr':o'.isRow = false) (hh:∀ x,x ≠ b→w'.heap[x]? = w.heap[x]?) (hs:w'.heap.size = w.heap.size) (hg:o ≠ .gone:=by nofun) (hg':o' ≠ .gone:=by nofun) (hio:Io w w':=by first | exact ⟨rfl,rfl,rfl⟩ | assumption) :
    Sn G hp w G (hp.set k o') w'∧(OR G (hp.set k o') w' k o'→WR G (hp.set k o') w'):=by
  have hlt:k < hp.length:=by
    rcases Nat.lt_or_ge k hp.length with h' | h'
    · exact h'
    · simp [List.getElem?_eq_none h'] at hk
  have s:Sn G hp w G (hp.set k o') w':=by
    refine ⟨fun _ _ _ h=>h,fun _ _ h=>.inl h,fun k' x hk' h=>.inr ⟨k',by simpa using hk',h⟩,fun x hx _ hn=>?_,by omega,fun k' o'' h=>?_,hio,rfl⟩
    · exact hh x fun e=>hn k hlt (e ▸ hat)
    · by_cases e:k' = k
      · subst e
        rw [hk] at h
        cases h
        refine ⟨o',by simp [hlt],?_⟩
        cases o <;> cases o' <;> simp_all [KR,Ob.isRow]
      · exact ⟨o'',by rw [List.getElem?_set_ne (Ne.symm e)]; exact h,KR.refl _ _ _⟩
  refine ⟨s,fun hor=>⟨fun x i v h=>?_,fun k' o'' h=>?_,fun k1 k2 x h1 h2 a1 a2=>hw.inj k1 k2 x (by simpa using h1) (by simpa using h2) a1 a2,Nat.le_trans hw.lo s.size⟩⟩
  · have hx:x ≠ b:=by
      rintro rfl
      have ho:=hw.ob k o hk
      have hn:G.μ x i = none:=by
        cases o with
        | cells cs=>obtain ⟨b',_,_,_,e,_,_,_,_,hn,_⟩:=ho; cases Bd.at_inj hat e; exact hn i
        | row n rsz=>simp [Ob.isRow] at hr
        | amap kvs=>obtain ⟨b',_,_,e,_,_,hn⟩:=ho; rw [e] at hat; cases hat; exact hn i
        | siter s p=>obtain ⟨b',e,_,hn⟩:=ho; rw [e] at hat; cases hat; exact hn i
        | gone=>exact (hg rfl).elim
      rw [hn] at h
      cases h
    obtain ⟨vs,t,fz,hb',hi⟩:=block_of_cell (hw.mu x i v h)
    rw [cell_at (by rw [hh x hx]; exact hb'),hi]
  · by_cases e:k' = k
    · subst e
      simp [hlt] at h
      subst h
      exact hor
    · rw [List.getElem?_set_ne (Ne.symm e)] at h
      have hk':k' < hp.length:=by
        rcases Nat.lt_or_ge k' hp.length with h' | h'
        · exact h'
        · simp [List.getElem?_eq_none h'] at h
      exact (hw.ob k' o'' h).keep s rfl (fun x hx=>hh x fun ee=>e (hw.inj k' k b hk' hlt (ee ▸ hx) hat)) fun _ _ _ hn=>hn
theorem run_storeCells {P:Program} (b off:Nat) (t:TypeId) (fz:Nat×Nat):∀ (xs:List Value) (i:Nat) (vs:Array Value) (w:World),w.heap[b]? = some (.cells vs t fz)→Fz fz vs.size →
    off + i + xs.length≤vs.size→(∀ x ∈ xs,x.oneCell' = true) →
    ∃ w' vs',(storeCells ⟨b,off,none⟩ xs i).run P w = .ok () w'∧w'.heap[b]? = some (.cells vs' t fz)∧vs'.size = vs.size ∧
      (∀ j,(j < off + i∨off + i + xs.length≤j)→vs'[j]? = vs[j]?)∧(∀ j x,xs[j]? = some x→vs'[off + i + j]? = some x) ∧
      (∀ x,x ≠ b→w'.heap[x]? = w.heap[x]?)∧w'.heap.size = w.heap.size∧Io w w'
  | [],i,vs,w,hb,_,_,_=>⟨w,vs,rfl,hb,rfl,fun _ _=>rfl,fun j x h=>by simp at h,fun _ _=>rfl,rfl,Io.refl w⟩
  | x :: xs,i,vs,w,hb,hf,hl,h1=>by
    simp only [List.length_cons] at hl
    have hx:=h1 x List.mem_cons_self
    have hadd:(Addr.add ⟨b,off,none⟩ i) = ⟨b,off + i,none⟩:=by unfold Addr.add; split <;> simp_all
    have hcell:w.cell? ⟨b,off + i,none⟩ = some vs[off + i]:=by rw [cell_at hb]; exact Array.getElem?_eq_getElem (by omega)
    have hfr:w.frozen? ⟨b,off + i,none⟩ = false:=by
      obtain ⟨lo,hi⟩:=fz
      have:=hf.2 (off + i) (by omega)
      simp only [World.frozen?,hb]
      simpa using this
    have hb':(w.setCell ⟨b,off + i,none⟩ x).heap[b]? = some (.cells (vs.setIfInBounds (off + i) x) t fz):=by
      simp [World.setCell,Array.getElem?_modify,hb]
    obtain ⟨w',vs',r,e1,e2,e3,e4,e5,e6,e7⟩:=run_storeCells (P:=P) b off t fz xs (i + 1) (vs.setIfInBounds (off + i) x) _ hb' (by simpa using hf) (by simp; omega) (fun y hy=>h1 y (List.mem_cons_of_mem _ hy))
    refine ⟨w',vs',?_,e1,by simpa using e2,fun j hj=>?_,fun j y hy=>?_,fun y hy=>?_,by rw [e6]; simp,⟨e7.1,e7.2.1,e7.2.2⟩⟩
    · simp only [storeCells,Sem.run_bind,hadd,run_store P w _ x .plain hx,hcell,hfr]
      simpa using r
    · rw [e3 j (by simp only [List.length_cons] at hj; omega)]
      rw [Array.getElem?_setIfInBounds]
      have:off + i ≠ j:=by simp only [List.length_cons] at hj; omega
      simp [this]
    · cases j with
      | zero =>
        simp only [List.getElem?_cons_zero,Option.some.injEq] at hy
        subst hy
        rw [Nat.add_zero,e3 (off + i) (.inl (by omega)),Array.getElem?_setIfInBounds]
        simp; omega
      | succ j =>
        have:=e4 j y (by simpa using hy)
        rwa [show off + i + (j + 1) = off + (i + 1) + j by omega]
    · rw [e5 y hy]
      simp [World.setCell,Array.getElem?_modify,Ne.symm hy]
end Go.Ab
end
section
set_option linter.unusedVariables false
set_option linter.unusedSimpArgs false
namespace Go.Ab
open Go
theorem lt_of_get {α:Type} {l:List α} {k:Nat} {x:α} (h:l[k]? = some x):k < l.length:=by
  rcases Nat.lt_or_ge k l.length with h' | h'
  · exact h'
  · simp [List.getElem?_eq_none h'] at h
def layμ (μ:Nat→Nat→Option Value) (b at_:Nat) (vs:List Value):Nat→Nat→Option Value :=
  fun x i=>if x = b∧at_≤i∧i < at_ + vs.length then vs[i - at_]? else μ x i
theorem row_here {G:Gh} {hp:Heap} {w w':World} {k n n' b o sz rsz cap:Nat} {vs:List Value} {cs:Array Value} {t:TypeId} {fz:Nat×Nat} (hw:WR G hp w) (hk:hp[k]? = some (.row n rsz))
    (hb:G.β k = .tail b o sz cap) (hn:n < n') (hc:n'≤cap) (hl:vs.length = (n' - n) * sz)
    (hh:∀ x,x ≠ b→w'.heap[x]? = w.heap[x]?) (hs:w'.heap.size = w.heap.size) (hb':w'.heap[b]? = some (.cells cs t fz)) (hf:Fz fz cs.size) (hsz:o + cap * sz≤cs.size)
    (hold:∀ i,(i < o + n * sz∨o + n' * sz≤i)→w'.cell? ⟨b,i,none⟩ = w.cell? ⟨b,i,none⟩) (hnew:∀ j x,vs[j]? = some x→w'.cell? ⟨b,o + n * sz + j,none⟩ = some x) (hio:Io w w':=by first | exact ⟨rfl,rfl,rfl⟩ | assumption) :
    Sn G hp w ⟨G.β,layμ G.μ b (o + n * sz) vs,G.lo⟩ (hp.set k (.row n' sz)) w'∧WR ⟨G.β,layμ G.μ b (o + n * sz) vs,G.lo⟩ (hp.set k (.row n' sz)) w':=by
  have hlt:=lt_of_get hk
  have hat:(G.β k).at b:=by rw [hb]; rfl
  have hor:=hw.ob k _ hk
  simp only [OR,hb] at hor
  obtain ⟨_,_,h4,h5,h6⟩:=hor
  have hmul:n' * sz = n * sz + (n' - n) * sz:=by rw [← Nat.add_mul]; congr 1; omega
  have mono:∀ x i v,G.μ x i = some v→layμ G.μ b (o + n * sz) vs x i = some v:=by
    intro x i v h
    unfold layμ
    split
    · rename_i hc
      obtain ⟨rfl,hc1,_⟩:=hc
      rw [h6 i hc1] at h
      cases h
    · exact h
  have s:Sn G hp w ⟨G.β,layμ G.μ b (o + n * sz) vs,G.lo⟩ (hp.set k (.row n' sz)) w':=by
    refine ⟨mono,fun x i h=>?_,fun k' x hk' h=>.inr ⟨k',by simpa using hk',h⟩,fun x hx _ hn=>hh x fun e=>hn k hlt (e ▸ hat),by omega,fun k' o' h=>?_,hio,rfl⟩
    · simp only [layμ] at h
      split at h
      · rename_i hc; exact .inr (.inr ⟨k,hlt,hc.1 ▸ hat⟩)
      · exact .inl h
    · by_cases e:k' = k
      · subst e
        rw [hk] at h
        cases h
        exact ⟨.row n' sz,by simp [hlt],by simp only [KR]; exact ⟨by omega,fun h=>by omega⟩⟩
      · exact ⟨o',by rw [List.getElem?_set_ne (Ne.symm e)]; exact h,by cases o' <;> simp [KR]⟩
  refine ⟨s,fun x i v h=>?_,fun k' o' h=>?_,fun k1 k2 x h1 h2 a1 a2=>hw.inj k1 k2 x (by simpa using h1) (by simpa using h2) a1 a2,Nat.le_trans hw.lo s.size⟩
  · simp only [layμ] at h
    split at h
    · rename_i hc
      obtain ⟨rfl,hc1,hc2⟩:=hc
      have:=hnew _ _ h
      rwa [show o + n * sz + (i - (o + n * sz)) = i by omega] at this
    · rename_i hc
      have h0:=hw.mu x i v h
      by_cases e:x = b
      · subst e
        rw [hold i (by
          rcases Nat.lt_or_ge i (o + n * sz) with h1 | h1
          · exact .inl h1
          · rw [h6 i h1] at h; cases h)]
        exact h0
      · obtain ⟨us,t',fz',hb2,hi⟩:=block_of_cell h0
        rw [cell_at (by rw [hh x e]; exact hb2),hi]
  · by_cases e:k' = k
    · subst e
      simp [hlt] at h
      subst h
      simp only [OR,hb]
      refine ⟨trivial,⟨cs,t,fz,hb',hf,hsz⟩,hc,h5,fun i hi=>?_⟩
      simp only [layμ]
      rw [if_neg (by omega)]
      exact h6 i (by omega)
    · rw [List.getElem?_set_ne (Ne.symm e)] at h
      refine (hw.ob k' o' h).keep s rfl (fun x hx=>hh x fun ee=>e (hw.inj k' k b (lt_of_get h) hlt (ee ▸ hx) hat)) fun x i hx hn=>?_
      have:x ≠ b:=fun ee=>e (hw.inj k' k b (lt_of_get h) hlt (ee ▸ hx) hat)
      simp only [layμ]
      rw [if_neg (by simp [this])]
      exact hn
theorem row_new {G:Gh} {hp:Heap} {w w':World} {k n n' sz rsz cap:Nat} {cs:Array Value} {t:TypeId} (hw:WR G hp w) (hk:hp[k]? = some (.row n rsz))
    (hn:n < n') (hc:n'≤cap) (hsz:0 < sz) (hh:w'.heap = w.heap.push (.cells cs t (0,0))) (hcs:cap * sz≤cs.size) (hio:Io w w':=by first | exact ⟨rfl,rfl,rfl⟩ | assumption) :
    Sn G hp w ⟨fun j=>if j = k then .tail w.heap.size 0 sz cap else G.β j,layμ G.μ w.heap.size 0 (cs.toList.take (n' * sz)),G.lo⟩ (hp.set k (.row n' sz)) w' ∧
    WR ⟨fun j=>if j = k then .tail w.heap.size 0 sz cap else G.β j,layμ G.μ w.heap.size 0 (cs.toList.take (n' * sz)),G.lo⟩ (hp.set k (.row n' sz)) w':=by
  have hlt:=lt_of_get hk
  have hle:n' * sz≤cap * sz:=Nat.mul_le_mul_right sz hc
  have hlen:(cs.toList.take (n' * sz)).length = n' * sz:=by simp; omega
  have old:∀ b,b < w.heap.size→w'.heap[b]? = w.heap[b]? := fun b hb=>by rw [hh]; simp [Array.getElem?_push,Nat.ne_of_lt hb]
  have new:w'.heap[w.heap.size]? = some (.cells cs t (0,0)):=by rw [hh]; simp
  have nomu:∀ i,G.μ w.heap.size i = none:=fun i=>by
    cases h:G.μ w.heap.size i with
    | none=>rfl
    | some v=>have:=hw.mu_lt h; omega
  have mono:∀ x i v,G.μ x i = some v→layμ G.μ w.heap.size 0 (cs.toList.take (n' * sz)) x i = some v:=by
    intro x i v h
    have:=hw.mu_lt h
    unfold layμ
    rw [if_neg (by omega)]
    exact h
  have s:Sn G hp w ⟨fun j=>if j = k then .tail w.heap.size 0 sz cap else G.β j,layμ G.μ w.heap.size 0 (cs.toList.take (n' * sz)),G.lo⟩ (hp.set k (.row n' sz)) w':=by
    refine ⟨mono,fun x i h=>?_,fun k' x hk' h=>?_,fun x hx _ hn=>old x hx,by rw [hh]; simp,fun k' o' h=>?_,hio,rfl⟩
    · simp only [layμ] at h
      split at h
      · rename_i hc; exact .inr (.inl (by omega))
      · exact .inl h
    · by_cases e:k' = k
      · simp only [e,if_true,Bd.at] at h; exact .inl (by omega)
      · simp only [e,if_false] at h; exact .inr ⟨k',by simpa using hk',h⟩
    · by_cases e:k' = k
      · subst e
        rw [hk] at h
        cases h
        exact ⟨.row n' sz,by simp [hlt],by simp only [KR]; exact ⟨by omega,fun h=>by omega⟩⟩
      · exact ⟨o',by rw [List.getElem?_set_ne (Ne.symm e)]; exact h,by cases o' <;> simp [KR,e]⟩
  refine ⟨s,fun x i v h=>?_,fun k' o' h=>?_,fun k1 k2 x h1 h2 a1 a2=>?_,Nat.le_trans hw.lo s.size⟩
  · simp only [layμ] at h
    split at h
    · rename_i hc
      obtain ⟨rfl,hc1,hc2⟩:=hc
      rw [cell_at new]
      rw [hlen] at hc2
      rw [List.getElem?_take] at h
      simpa [show i < n' * sz by omega] using h
    · have h0:=hw.mu x i v h
      obtain ⟨us,t',fz',hb2,hi⟩:=block_of_cell h0
      rw [cell_at (by rw [old x (lt_of_block hb2)]; exact hb2),hi]
  · by_cases e:k' = k
    · subst e
      simp [hlt] at h
      subst h
      simp only [OR,if_true]
      refine ⟨trivial,⟨cs,t,(0,0),new,⟨Nat.le_refl _,fun i _=>by simp⟩,by omega⟩,hc,hsz,fun i hi=>?_⟩
      simp only [layμ]
      rw [if_neg (by omega)]
      exact nomu i
    · rw [List.getElem?_set_ne (Ne.symm e)] at h
      have hl:=lt_of_get h
      refine (hw.ob k' o' h).keep s (by simp [e]) (fun x hx=>old x (hw.at_lt hl hx)) fun x i hx hn=>?_
      have:=hw.at_lt hl hx
      simp only [layμ]
      rw [if_neg (by omega)]
      exact hn
  · simp only [List.length_set] at h1 h2
    by_cases e1:k1 = k <;> by_cases e2:k2 = k <;> simp only [e1,e2,if_true,if_false,Bd.at] at a1 a2
    · omega
    · have:=hw.at_lt h2 a2; omega
    · have:=hw.at_lt h1 a1; omega
    · exact hw.inj k1 k2 x h1 h2 a1 a2
theorem DR.mk {μ:Nat→Nat→Option Value} {nl:Bool} {es:List (List D)} {b o sz cap:Nat} (hnl:nl = false) (hcap:es.length≤cap) (hsz:∀ e ∈ es,e.length = sz)
    (hv:∀ i j e c,es[i]? = some e→e[j]? = some c→∃ v,μ b (o + i * sz + j) = some v∧DR μ c v):DR μ (.lst nl es) (.slice (some ⟨b,o,none⟩) es.length cap):=by
  refine .lst nl es _ cap sz (fun i j=>(μ b (o + i * sz + j)).getD default) hcap (by simp [hnl]) (by simp) (by simp) hsz ?_ ?_
  · intro i j e c he hc
    obtain ⟨v,h1,h2⟩:=hv i j e c he hc
    simpa [h1] using h2
  · intro i j e c he hc
    obtain ⟨v,h1,h2⟩:=hv i j e c he hc
    exact ⟨b,o,rfl,by simp [h1]⟩
theorem DR.inv {μ:Nat→Nat→Option Value} {nl:Bool} {es:List (List D)} {v:Value} (h:DR μ (.lst nl es) v) :
    ∃ (a:Option Addr) (cap sz:Nat) (vs:Nat→Nat→Value),v = .slice a es.length cap∧es.length≤cap∧nl = a.isNone∧(a = none→cap = 0)∧(es ≠ []→∀ ad,a = some ad→ad.spot = none)∧(∀ e ∈ es,e.length = sz) ∧
      (∀ i j e c,es[i]? = some e→e[j]? = some c→DR μ c (vs i j)) ∧
      (∀ i j e c,es[i]? = some e→e[j]? = some c→∃ b o,a = some ⟨b,o,none⟩∧μ b (o + i * sz + j) = some (vs i j)):=by
  cases h with
  | lst nl es a cap sz vs h1 h2 h3 h4 h5 h6 h7=>exact ⟨a,cap,sz,vs,rfl,h1,h2,h3,h4,h5,h6,h7⟩
theorem DR.nil {μ:Nat→Nat→Option Value}:DR μ (.lst true []) (.slice none 0 0) :=
  .lst true [] none 0 0 (fun _ _=>default) (Nat.le_refl _) rfl (fun _=>rfl) (by simp) (by simp) (fun i j e c h=>by simp at h) (fun i j e c h=>by simp at h)
end Go.Ab
end
