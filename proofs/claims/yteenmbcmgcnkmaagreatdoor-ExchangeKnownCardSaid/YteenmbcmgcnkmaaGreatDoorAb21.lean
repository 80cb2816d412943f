/- Laws by which the evaluator is run by 'simp'; how a law's run becomes a call of the machine. -/
import Derived.Test.YteenmbcmgcnkmaaGreatDoorAb20
import Derived.Below
import Derived.Laws.BitsLemmas
set_option linter.unusedVariables false
set_option linter.unusedSimpArgs false
namespace Go.Ab
open Go

section ev
variable (P : Program) (t : TypeId) (x y : Operand) (k : IntKind) (a b : Int)
theorem ev_add : evalS P (do eqGuard .add t x y (.int k a) (.int k b); binOp .add t (.int k a) (.int k b)) = some (.int k (k.wrap (a + b))) := by cases k <;> rfl
theorem ev_sub : evalS P (do eqGuard .sub t x y (.int k a) (.int k b); binOp .sub t (.int k a) (.int k b)) = some (.int k (k.wrap (a - b))) := by cases k <;> rfl
theorem ev_mul : evalS P (do eqGuard .mul t x y (.int k a) (.int k b); binOp .mul t (.int k a) (.int k b)) = some (.int k (k.wrap (a * b))) := by cases k <;> rfl
theorem ev_quo (h : b ≠ 0) : evalS P (do eqGuard .quo t x y (.int k a) (.int k b); binOp .quo t (.int k a) (.int k b)) = some (.int k (k.wrap (a.tdiv b))) := by
  cases k <;> simp [eqGuard, binOp, Op.intDiv, h] <;> rfl
theorem ev_lss : evalS P (do eqGuard .lss t x y (.int k a) (.int k b); binOp .lss t (.int k a) (.int k b)) = some (.bool (decide (a < b))) := by cases k <;> rfl
theorem ev_leq : evalS P (do eqGuard .leq t x y (.int k a) (.int k b); binOp .leq t (.int k a) (.int k b)) = some (.bool (decide (a ≤ b))) := by cases k <;> rfl
theorem ev_gtr : evalS P (do eqGuard .gtr t x y (.int k a) (.int k b); binOp .gtr t (.int k a) (.int k b)) = some (.bool (decide (b < a))) := by cases k <;> rfl
theorem ev_geq : evalS P (do eqGuard .geq t x y (.int k a) (.int k b); binOp .geq t (.int k a) (.int k b)) = some (.bool (decide (b ≤ a))) := by cases k <;> rfl
theorem ev_eql : evalS P (do eqGuard .eql t x y (.int k a) (.int k b); binOp .eql t (.int k a) (.int k b)) = some (.bool (a == b)) := by
  cases k <;> rfl
theorem ev_neq : evalS P (do eqGuard .neq t x y (.int k a) (.int k b); binOp .neq t (.int k a) (.int k b)) = some (.bool (!(a == b))) := by
  cases k <;> rfl
variable (s u : ByteArray)
theorem ev_eql_s : evalS P (do eqGuard .eql t x y (.string s) (.string u); binOp .eql t (.string s) (.string u)) = some (.bool (s.toList == u.toList)) := rfl
theorem ev_neq_s : evalS P (do eqGuard .neq t x y (.string s) (.string u); binOp .neq t (.string s) (.string u)) = some (.bool (!(s.toList == u.toList))) := rfl
theorem ev_add_s (h : s.size + u.size < 2 ^ 63) : evalS P (do eqGuard .add t x y (.string s) (.string u); binOp .add t (.string s) (.string u)) = some (.string (s ++ u)) := by
  have h2 : IntKind.i64.max = 2 ^ 63 - 1 := by decide
  have : ¬ ((s.size + u.size : Nat) : Int) > IntKind.i64.max := by rw [h2]; omega
  simp only [eqGuard, binOp, Op.stringOp]
  rw [if_neg this]
  rfl
variable (p q : Bool)
theorem ev_not : evalS P (Op.unary .not (.bool p)) = some (.bool (!p)) := rfl
end ev
theorem ofV_int (k : IntKind) (n : Int) : ofV (.int k n) = some (.c (.d (.sc (.int k n)))) := rfl
theorem ofV_bool (b : Bool) : ofV (.bool b) = some (.c (.d (.sc (.bool b)))) := rfl
theorem ofV_str (b : ByteArray) : ofV (.string b) = some (.c (.d (.sc (.string b)))) := rfl
theorem toV_sc (v : Value) : Ab.toV (.c (.d (.sc v))) = some v := rfl
theorem slots1 (a : V1) : slotsOf [a] = upd (fun _ => .dead) 0 (.v a) := by funext i; cases i <;> simp [slotsOf, upd]
theorem slots0 : slotsOf [] = fun _ => .dead := by funext i; simp [slotsOf]
theorem slots2 (a b : V1) : slotsOf [a, b] = upd (upd (fun _ => .dead) 0 (.v a)) 1 (.v b) := by
  funext i
  match i with
  | 0 => simp [slotsOf, upd]
  | 1 => simp [slotsOf, upd]
  | n + 2 => simp [slotsOf, upd]
theorem slots3 (a b c : V1) : slotsOf [a, b, c] = upd (upd (upd (fun _ => .dead) 0 (.v a)) 1 (.v b)) 2 (.v c) := by
  funext i
  match i with
  | 0 => simp [slotsOf, upd]
  | 1 => simp [slotsOf, upd]
  | 2 => simp [slotsOf, upd]
  | n + 3 => simp [slotsOf, upd]
theorem upd_same (s : Nat → AV) (i : Nat) (v : AV) : upd s i v i = v := by simp [upd]
theorem upd_ne (s : Nat → AV) (i j : Nat) (v : AV) (h : (Nat.beq j i) = false) : upd s i v j = s j := by
  have : j ≠ i := fun e => by subst e; simp at h
  simp [upd, this]

theorem callN_W {E : Env} {k f : Nat} {a : List V1} {hp : Heap} {r : AV × Heap} (h : callN E k f a hp = some r) : callW E f a hp = some r := callW_some.2 ⟨k, h⟩

theorem callW_body {E : Env} {f : Nat} {args : List V1} {hp : Heap} {fn : Func} {body : Code} (h : E.P.funcs[f]? = some fn) (hb : fn.body = some body)
    (hk : (codeOk fn.ntmps body && decide (args.length ≤ fn.ntmps)) = true) : callW E f args hp =
      match den E f hp.length (callW E) itW body none ⟨slotsOf args, hp⟩ with
      | some (.ret, st) | some (.normal, st) => (resultsA fn st.sl st.hp E.P).bind (finish hp.length (E.hand f) st.hp)
      | _ => none := by
  rw [callW_eq]
  simp only [callBody, h, hb, hk, if_true]
  rfl

/-! ### the code's equations, so told that 'simp' does not look into what is not reached -/
section eqs
variable (E : Env) (fn : FuncId) (m : Nat) (call : Caller) (it : It)
def seqD (b : Code) (r : Option (Ex × St)) : Option (Ex × St) := match r with | some (.normal, st') => den E fn m call it b none st' | r => r
def condD (t e : Code) (st : St) (r : Option AV) : Option (Ex × St) := match r with
  | some (.v (.c (.d (.sc (.bool b))))) => if b then den E fn m call it t none st else den E fn m call it e none st
  | _ => none
def blockD (id : Nat) (r : Option (Ex × St)) : Option (Ex × St) := match r with
  | some (.exit i, st') => if i = id then some (.normal, st') else some (.exit i, st')
  | r => r
def regD (r : Option St) : Option (Ex × St) := r.map fun st' => (.normal, st')
def loopK (L : List (Nat × Co)) (r : Option (Ex × St)) : Option (X ⊕ (Ex × St)) := match r with
  | some (.normal, st') => (canon m L st').map fun y => .inl (none, y.1, y.2)
  | some r => some (.inr r)
  | none => none
def loopF (body : Code) (L : List (Nat × Co)) : X → Option (X ⊕ (Ex × St)) := fun x => loopK m L (den E fn m call it body none ⟨slots L x.2.1, x.2.2⟩)
theorem loopF_eq (body : Code) (L : List (Nat × Co)) (f : Option Nat) (vs : List AV) (h : Heap) : loopF E fn m call it body L (f, vs, h) = loopK m L (den E fn m call it body none ⟨slots L vs, h⟩) := rfl
theorem loopK_n (L : List (Nat × Co)) (st : St) : loopK m L (some (.normal, st)) = (canon m L st).map fun y => .inl (none, y.1, y.2) := rfl
theorem loopK_r (L : List (Nat × Co)) (st : St) : loopK m L (some (.ret, st)) = some (.inr (.ret, st)) := rfl
theorem loopK_e (L : List (Nat × Co)) (id : Nat) (st : St) : loopK m L (some (.exit id, st)) = some (.inr (.exit id, st)) := rfl
theorem loopK_g (L : List (Nat × Co)) (id : Nat) (st : St) : loopK m L (some (.goto id, st)) = some (.inr (.goto id, st)) := rfl
def loopD (it : It) (F : X → Option (X ⊕ (Ex × St))) (r : Option (List AV × Heap)) : Option (Ex × St) := r.bind fun x => it F (none, x.1, x.2)
theorem den_seq (a b : Code) (st : St) : den E fn m call it (.seq a b) none st = seqD E fn m call it b (den E fn m call it a none st) := rfl
theorem den_cond (c : Operand) (t e : Code) (st : St) : den E fn m call it (.cond c t e) none st = condD E fn m call it t e st (ev st.sl c) := rfl
theorem den_block (id : Nat) (b : Code) (st : St) : den E fn m call it (.block id b) none st = blockD id (den E fn m call it b none st) := rfl
theorem den_region (id : Nat) (ops : Array Oper) (st : St) : den E fn m call it (.region id ops false) none st = regD (runOps E call ops.toList ops.toList st) := rfl
theorem den_draw (id : Nat) (ops : Array Oper) (st : St) (h : drawOk E ops.toList = true) : den E fn m call it (.region id ops true) none st = regD (runDraw E call ops.toList st) := by
  simp only [den, h, if_true, regD]
theorem den_loop (body : Code) (st : St) : den E fn m call it (.loop body) none st = loopD it (loopF E fn m call it body (E.live fn ((firstRegion body).getD 0))) (canon m (E.live fn ((firstRegion body).getD 0)) st) := rfl
theorem den_skip (st : St) : den E fn m call it .skip none st = some (.normal, st) := rfl
theorem den_ret (st : St) : den E fn m call it .ret none st = some (.ret, st) := rfl
theorem den_exit (id : Nat) (st : St) : den E fn m call it (.exit id) none st = some (.exit id, st) := rfl
theorem den_goto (id : Nat) (st : St) : den E fn m call it (.goto id) none st = some (.goto id, st) := rfl
theorem seqD_n (b : Code) (st : St) : seqD E fn m call it b (some (.normal, st)) = den E fn m call it b none st := rfl
theorem seqD_r (b : Code) (st : St) : seqD E fn m call it b (some (.ret, st)) = some (.ret, st) := rfl
theorem seqD_e (b : Code) (id : Nat) (st : St) : seqD E fn m call it b (some (.exit id, st)) = some (.exit id, st) := rfl
theorem seqD_g (b : Code) (id : Nat) (st : St) : seqD E fn m call it b (some (.goto id, st)) = some (.goto id, st) := rfl
theorem condD_t (t e : Code) (st : St) : condD E fn m call it t e st (some (.v (.c (.d (.sc (.bool true)))))) = den E fn m call it t none st := rfl
theorem condD_f (t e : Code) (st : St) : condD E fn m call it t e st (some (.v (.c (.d (.sc (.bool false)))))) = den E fn m call it e none st := rfl
theorem condD_if (t e : Code) (st : St) (b : Bool) : condD E fn m call it t e st (some (.v (.c (.d (.sc (.bool b)))))) = if b = true then den E fn m call it t none st else den E fn m call it e none st := rfl
theorem blockD_n (id : Nat) (st : St) : blockD id (some (.normal, st)) = some (.normal, st) := rfl
theorem blockD_r (id : Nat) (st : St) : blockD id (some (.ret, st)) = some (.ret, st) := rfl
theorem blockD_g (id l : Nat) (st : St) : blockD id (some (.goto l, st)) = some (.goto l, st) := rfl
theorem blockD_e (id : Nat) (st : St) : blockD id (some (.exit id, st)) = some (.normal, st) := by simp [blockD]
theorem blockD_e' (id i : Nat) (st : St) (h : Nat.beq i id = false) : blockD id (some (.exit i, st)) = some (.exit i, st) := by
  have : i ≠ id := fun e => by subst e; simp at h
  simp [blockD, this]
theorem regD_s (st : St) : regD (some st) = some (.normal, st) := rfl
theorem loopD_s (F : X → Option (X ⊕ (Ex × St))) (vs : List AV) (h : Heap) : loopD it F (some (vs, h)) = it F (none, vs, h) := rfl

def runK (all os : List Oper) (o : Oper) (st : St) (r : Option Bool) : Option St := match r with
  | some true => (match stepA E call st.sl st.hp o with
    | some (v, h) => runOps E call all os ⟨putO st.sl o.dst v, h⟩
    | none => none)
  | some false => runOps E call all os ⟨putO st.sl o.dst (.tup []), st.hp⟩
  | none => none
def stepK (all os : List Oper) (d : Option Nat) (sl : Nat → AV) (r : Option (AV × Heap)) : Option St := match r with
  | some (v, h) => runOps E call all os ⟨putO sl d v, h⟩
  | none => none
theorem runOps_nil (all : List Oper) (st : St) : runOps E call all [] st = some st := rfl
theorem runOps_none (all os : List Oper) (d : Option Tmp) (op : Op) (t : TypeId) (pos : String) (aft : Array Edge) (st : St) :
    runOps E call all (⟨d, op, t, pos, aft, none⟩ :: os) st = stepK E call all os d st.sl (stepA E call st.sl st.hp ⟨d, op, t, pos, aft, none⟩) := rfl
theorem runOps_some (all os : List Oper) (d : Option Tmp) (op : Op) (t : TypeId) (pos : String) (aft : Array Edge) (g : Nat × Bool) (st : St) :
    runOps E call all (⟨d, op, t, pos, aft, some g⟩ :: os) st = runK E call all os ⟨d, op, t, pos, aft, some g⟩ st (wantA all st.sl ⟨d, op, t, pos, aft, some g⟩) := by
  simp only [runOps, runK]
  generalize wantA all st.sl ⟨d, op, t, pos, aft, some g⟩ = r
  cases r with
  | none => rfl
  | some b => cases b <;> rfl
theorem runK_t (all os : List Oper) (o : Oper) (st : St) : runK E call all os o st (some true) = stepK E call all os o.dst st.sl (stepA E call st.sl st.hp o) := rfl
theorem runK_f (all os : List Oper) (o : Oper) (st : St) : runK E call all os o st (some false) = runOps E call all os ⟨putO st.sl o.dst (.tup []), st.hp⟩ := rfl
theorem stepK_s (all os : List Oper) (d : Option Nat) (sl : Nat → AV) (v : AV) (h : Heap) : stepK E call all os d sl (some (v, h)) = runOps E call all os ⟨putO sl d v, h⟩ := rfl

def resultsL (res : List ResultVar) (s : Nat → AV) (hp : Heap) (P : Program) : Option AV :=
  (res.mapM (resultA s hp P)).map fun l => match l with | [x] => .v x | l => .tup l
def bodyD (res : List ResultVar) (m : Nat) (hand : Bool) (r : Option (Ex × St)) : Option (AV × Heap) := match r with
  | some (.ret, st) | some (.normal, st) => (resultsL res st.sl st.hp E.P).bind (finish m hand st.hp)
  | _ => none
theorem bodyD_r (res : List ResultVar) (m : Nat) (hand : Bool) (st : St) : bodyD E res m hand (some (.ret, st)) = (resultsL res st.sl st.hp E.P).bind (finish m hand st.hp) := rfl
theorem bodyD_n (res : List ResultVar) (m : Nat) (hand : Bool) (st : St) : bodyD E res m hand (some (.normal, st)) = (resultsL res st.sl st.hp E.P).bind (finish m hand st.hp) := rfl
end eqs
theorem callW_run {E : Env} {f : Nat} {args : List V1} {hp : Heap} {fnc : Func} {body : Code} {res : List ResultVar} (h : E.P.funcs[f]? = some fnc) (hb : fnc.body = some body) (hres : fnc.results.toList = res)
    (hk : (codeOk fnc.ntmps body && decide (args.length ≤ fnc.ntmps)) = true) : callW E f args hp =
      bodyD E res hp.length (E.hand f) (den E f hp.length (callW E) itW body none ⟨slotsOf args, hp⟩) := by
  rw [callW_body h hb hk]
  subst hres
  rfl
theorem wrap_64 (n : Int) (h1 : -9223372036854775808 ≤ n) (h2 : n < 9223372036854775808) : IntKind.wrap .i64 n = n := by
  rw [IntKind.wrap_i64]; omega
theorem nc_lit (n : Nat) : ((no_index (OfNat.ofNat n) : Nat) : Int) = OfNat.ofNat n := rfl
theorem rg0 : List.range 0 = [] := rfl
theorem rg1 : List.range 1 = [0] := rfl
theorem rg2 : List.range 2 = [0, 1] := rfl
theorem rg3 : List.range 3 = [0, 1, 2] := rfl
theorem rg4 : List.range 4 = [0, 1, 2, 3] := rfl
theorem itW_l {g : X → Option (X ⊕ (Ex × St))} {x y : X} (h : g x = some (.inl y)) : itW g x = itW g y := by rw [itW_eq, h]
theorem itW_r {g : X → Option (X ⊕ (Ex × St))} {x : X} {r : Ex × St} (h : g x = some (.inr r)) : itW g x = some r := by rw [itW_eq, h]

noncomputable def itK (F : X → Option (X ⊕ (Ex × St))) (r : Option (X ⊕ (Ex × St))) : Option (Ex × St) := match r with
  | some (.inl y) => itW F y
  | some (.inr r) => some r
  | none => none
theorem itW_K (E : Env) (fn : FuncId) (m : Nat) (call : Caller) (it : It) (b : Code) (L : List (Nat × Co)) (x : X) :
    itW (loopF E fn m call it b L) x = itK (loopF E fn m call it b L) (loopF E fn m call it b L x) := by rw [itW_eq]; rfl
theorem itK_l (F : X → Option (X ⊕ (Ex × St))) (y : X) : itK F (some (.inl y)) = itW F y := rfl
theorem itK_r (F : X → Option (X ⊕ (Ex × St))) (r : Ex × St) : itK F (some (.inr r)) = some r := rfl

theorem den_W {E : Env} {k : Nat} {f m : Nat} {code : Code} {fr : Option Nat} {st : St} {r : Ex × St} (h : den E f m (callN E k) (itN k) code fr st = some r) : den E f m (callW E) itW code fr st = some r :=
  den_le (c := callN E k) (c' := callW E) (i := itN k) (i' := itW) (fun f a h r hr => callW_some.2 ⟨k, hr⟩) (fun g g' hg x y hy => itW_some.2 ⟨k, itN_le (Nat.le_refl k) g g' hg _ _ hy⟩) _ _ _ _ h
theorem bodyD_W {E : Env} (k : Nat) {f m : Nat} {code : Code} {st : St} {res : List ResultVar} {hand : Bool} {r : AV × Heap} (h : bodyD E res m hand (den E f m (callN E k) (itN k) code none st) = some r) :
    bodyD E res m hand (den E f m (callW E) itW code none st) = some r := by
  cases hd : den E f m (callN E k) (itN k) code none st with
  | none => rw [hd] at h; simp [bodyD] at h
  | some q => rw [hd] at h; rw [den_W hd]; exact h
theorem loopF_W {E : Env} (k : Nat) {f m : Nat} {code : Code} {L : List (Nat × Co)} {x : X} {r : X ⊕ (Ex × St)} (h : loopF E f m (callN E k) (itN k) code L x = some r) :
    loopF E f m (callW E) itW code L x = some r := by
  unfold loopF at h ⊢
  cases hd : den E f m (callN E k) (itN k) code none ⟨slots L x.2.1, x.2.2⟩ with
  | none => rw [hd] at h; simp [loopK] at h
  | some q => rw [hd] at h; rw [den_W hd]; exact h

/-! ### a law's run -/
def G0 (w : World) : Gh := ⟨fun _ => .none, fun b i => w.cell? ⟨b, i, none⟩, w.heap.size⟩
theorem WR0 (w : World) : WR (G0 w) [] w := ⟨fun _ _ _ h => h, fun k o h => by simp at h, fun k k' b hk => by simp at hk, Nat.le_refl _⟩

open Go.RowKit in
theorem law_run {E : Env} (he : EnvOk E) {f : Nat} {args : List V1} {h' : Heap} {b : Bool} (hr : callW E f args [] = some (.bool b, h')) {w : World} {vs : List Value} (hb : ∀ b i v, E.base b i = some v → w.cell? ⟨b, i, none⟩ = some v) (ha : All2 (VR (G0 w) []) args vs) :
    Calls E.P f vs.toArray w fun e w' => e = .returned (.bool b) ∧ Below w.heap.size w w' := by
  refine (callW_ok he f args [] _ _ hr (G0 w) w vs hb (WR0 w) ha).mono ?_
  rintro e w' ⟨x, G', rfl, hx, hw', sn⟩
  refine ⟨?_, ⟨sn.io.1, sn.io.2.2, sn.io.2.1, sn.size, fun k hk => sn.same k hk (.inl hk) fun j hj => by simp at hj⟩⟩
  cases hx
  rfl
end Go.Ab
