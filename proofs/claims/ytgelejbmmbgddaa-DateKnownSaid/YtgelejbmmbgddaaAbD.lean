/- A region that draws its order: whatever the order, the abstract evaluator's answer is the same, and it is the machine's. -/
import Derived.Test.YtgelejbmmbgddaaAb17
import Derived.Orders
set_option linter.unusedVariables false
set_option linter.unusedSimpArgs false
namespace Go.Ab
open Go

section
variable {E : Env} {call : Caller}

/-! ### an operation that leaves memory as it is -/
def readsO (s : Nat → AV) (o : Oper) : List Nat := match o.op with | .load _ a => (match evC s a with | some (.ptr k _) => [k] | _ => []) | _ => []
theorem map_nh {α : Type} (q : Option α) (f : α → AV) (h h0 : Heap) : q.map (fun v => (f v, h)) = (q.map fun v => (f v, h0)).map fun r => (r.1, h) := by cases q <;> rfl
theorem bind_nh {α : Type} (q : Option α) (f g : α → Option (AV × Heap)) (h : Heap) (hh : ∀ a, f a = (g a).map fun r => (r.1, h)) : q.bind f = (q.bind g).map fun r => (r.1, h) := by cases q <;> simp [hh]
theorem lenA_nh {h h0 : Heap} {d : TypeDesc} {x : V1} (hd : ∀ a b, d ≠ .map a b) : lenA h d x = lenA h0 d x := by
  unfold lenA
  split <;> first | rfl | (exfalso; exact hd _ _ rfl)
theorem dop_nh {s : Nat → AV} {h h0 : Heap} {o : Oper} (hn : neutral E.P o.op = true) (hl : isLoad o = false) : dop E s h o = (dop E s h0 o).map fun r => (r.1, h) := by
  cases hop : o.op with
  | move x => simp only [dop, hop]; exact map_nh _ _ _ _
  | assign x => simp only [dop, hop]; exact map_nh _ _ _ _
  | pick c a b =>
    simp only [dop, hop]
    split
    · split <;> exact map_nh _ _ _ _
    · rfl
  | binOp op t x y z =>
    simp only [dop, hop]
    split
    · split
      · exact bind_nh _ _ _ _ fun a => map_nh _ _ _ _
      · split
        · split <;> rfl
        · rfl
    · rfl
  | unOp op t x => simp only [dop, hop]; exact bind_nh _ _ _ _ fun a => bind_nh _ _ _ _ fun a => map_nh _ _ _ _
  | makeInterface t x => simp only [dop, hop]; exact bind_nh _ _ _ _ fun a => bind_nh _ _ _ _ fun a => map_nh _ _ _ _
  | nilCheck x => simp only [dop, hop]; split <;> rfl
  | fieldAddr t x f =>
    simp only [dop, hop]
    split
    · refine bind_nh _ _ _ _ fun a => bind_nh _ _ _ _ fun a => ?_
      split
      · rfl
      · split <;> rfl
    · rfl
  | field t x f =>
    simp only [dop, hop]
    split
    · refine bind_nh _ _ _ _ fun a => bind_nh _ _ _ _ fun a => bind_nh _ _ _ _ fun a => ?_
      split
      · exact map_nh _ _ _ _
      · rfl
    · rfl
  | indexAddr t x i =>
    simp only [dop, hop]
    split
    · refine bind_nh _ _ _ _ fun a => ?_
      split <;> rfl
    · split <;> rfl
    · refine bind_nh _ _ _ _ fun a => ?_
      refine bind_nh _ _ _ _ fun a => ?_
      split <;> rfl
    · rfl
  | index t x i =>
    simp only [dop, hop]
    split
    · split <;> rfl
    · refine bind_nh _ _ _ _ fun a => bind_nh _ _ _ _ fun a => ?_
      split
      · exact map_nh _ _ _ _
      · rfl
    · rfl
  | extract t i =>
    simp only [dop, hop]
    split
    · exact map_nh _ _ _ _
    · rfl
  | slice t x lo hi mx =>
    cases mx with
    | some m => rw [hop] at hn; simp [neutral] at hn
    | none =>
      rw [hop] at hn
      simp only [neutral] at hn
      split at hn
      · rename_i ht
        simp only [dop, hop, ht]
        split
        · refine bind_nh _ _ _ _ fun a => bind_nh _ _ _ _ fun a => rfl
        · rename_i hq hq2; cases hq
        · rename_i hq hq2; cases hq
        · rename_i hq hq2; cases hq
        · rfl
      · cases hn
  | call c =>
    rw [hop] at hn
    simp only [neutral] at hn
    split at hn
    · rename_i t r hc ht
      simp only [dop, hop, hc, builtinA, ht]
      refine bind_nh _ _ _ _ fun xs => ?_
      split
      · rename_i x t' ts heq hts
        cases hts
        split
        · split <;> rfl
        · rename_i d hd hd'
          have : ∀ a b, d ≠ .map a b := by rintro a b rfl; rw [hd'] at hn; cases hn
          rw [lenA_nh (h0 := h0) this]
          exact map_nh _ (fun n => AV.int .i64 n) _ _
        · rfl
      all_goals first | rfl | (rename_i h1 h2; cases h1; done) | (rename_i h1; cases h1; done)
    · cases hn
  | load t a => simp [isLoad, hop] at hl
  | _ => rw [hop] at hn; simp [neutral] at hn

theorem stepA_neutral {s : Nat → AV} {h : Heap} {o : Oper} (hn : neutralG E.P o.op = true) : stepA E call s h o = dop E s h o := by
  simp only [neutralG, Bool.and_eq_true, Option.isNone_iff_eq_none] at hn
  obtain ⟨hg, hn⟩ := hn
  unfold stepA
  split
  · rename_i c hop
    split
    · rename_i f hc
      rw [hop] at hn
      simp only [neutral, hc] at hn
      cases hn
    · rfl
  · rw [hg]

theorem dop_load {s : Nat → AV} {h : Heap} {o : Oper} {r : AV × Heap} (hl : isLoad o = true) (hr : dop E s h o = some r) :
    r.2 = h ∧ ∀ h2, (∀ k ∈ readsO s o, h2[k]? = h[k]?) → dop E s h2 o = some (r.1, h2) := by
  unfold isLoad at hl
  split at hl
  case h_2 => cases hl
  rename_i t a hop
  simp only [readsO, hop]
  simp only [dop, hop] at hr ⊢
  simp only [Option.bind_eq_bind, Option.bind_eq_some_iff] at hr ⊢
  obtain ⟨n, hn1, g, hg, hr⟩ := hr
  split at hr
  · rename_i k off hk
    split at hr
    · rename_i cs hcs
      split at hr
      · rename_i hc
        simp only [Option.map_eq_some_iff] at hr
        obtain ⟨v, hv, rfl⟩ := hr
        refine ⟨rfl, fun h2 hk2 => ⟨n, hn1, g, hg, ?_⟩⟩
        have := hk2 k (by simp [hk])
        simp only [hk, this, hcs, hc, if_true, hv, Option.map_some]
        simp
      · cases hr
    · cases hr
  · rename_i cs off hk
    split at hr
    · rename_i hc
      simp only [Option.map_eq_some_iff] at hr
      obtain ⟨v, hv, rfl⟩ := hr
      refine ⟨rfl, fun h2 hk2 => ⟨n, hn1, g, hg, ?_⟩⟩
      simp only [hk, hc, if_true, hv, Option.map_some]
      simp
    · cases hr
  · cases hr

theorem dop_neutral {s : Nat → AV} {h : Heap} {o : Oper} {r : AV × Heap} (hn : neutral E.P o.op = true) (hr : dop E s h o = some r) :
    r.2 = h ∧ ∀ h2, (∀ k ∈ readsO s o, h2[k]? = h[k]?) → dop E s h2 o = some (r.1, h2) := by
  cases hl : isLoad o with
  | true => exact dop_load hl hr
  | false =>
    have h1 : r.2 = h := by
      have q := dop_nh (s := s) (h := h) (h0 := h) hn hl
      rw [hr] at q
      have q2 : r = (r.1, h) := Option.some.inj q
      exact congrArg Prod.snd q2
    exact ⟨h1, fun h2 _ => by rw [dop_nh (h0 := h) hn hl, hr]; rfl⟩

theorem core_neutral {all : List Oper} {s : Nat → AV} {h : Heap} {o : Oper} {r : AV × Heap} (hn : neutralG E.P o.op = true) (hr : coreA E call all s h o = some r) :
    r.2 = h ∧ ∀ h2, (∀ k ∈ readsO s o, h2[k]? = h[k]?) → coreA E call all s h2 o = some (r.1, h2) := by
  unfold coreA at hr ⊢
  cases hw : wantA all s o with
  | none => rw [hw] at hr; cases hr
  | some b =>
    rw [hw] at hr
    cases b with
    | false => simp only [Option.some.injEq] at hr; subst hr; exact ⟨rfl, fun h2 _ => rfl⟩
    | true =>
      simp only [stepA_neutral hn] at hr ⊢
      exact dop_neutral (by simp only [neutralG, Bool.and_eq_true] at hn; exact hn.2) hr

theorem foot_neutral {all : List Oper} {s : Nat → AV} {h : Heap} {o : Oper} (hn : neutralG E.P o.op = true) : footA E all s h o = (some (readsO s o), 0) := by
  unfold footA readsO
  rw [if_pos hn]
  clear hn
  generalize o.op = q
  cases q <;> first | rfl | (simp only; split <;> simp_all)

theorem via_frame {c : List V1 → Heap → Option (AV × Heap)} {args : List V1} {hp : Heap} {r : AV × Heap} (h : viaCall c args hp = some r) {k : Nat} (hk : k < hp.length)
    (hn : k ∉ close hp fuelR [] ((args.map V1.ro).flatMap V1.refs)) : r.2[k]? = hp[k]? := by
  simp only [viaCall, Option.bind_eq_bind, Option.bind_eq_some_iff] at h
  obtain ⟨as', has, h0, hr, ⟨v0, h'⟩, hcall, h2, hb, v', hv', h⟩ := h
  simp only [Option.some.injEq] at h
  subst h
  simp only
  rw [List.getElem?_append_left (by rw [foldl_set_len]; exact hk), foldl_set_ne]
  intro p hp' e
  subst e
  exact hn (List.of_mem_zip hp').1

theorem core_writes {all : List Oper} {s : Nat → AV} {h : Heap} {o : Oper} {r : AV × Heap} {W : List Nat} (hr : coreA E call all s h o = some r) (hw : writesA E all s h o = some W) :
    ∀ k, k < h.length → k ∉ W → r.2[k]? = h[k]? := by
  intro k hk hn
  unfold coreA at hr
  unfold writesA at hw
  cases hwant : wantA all s o with
  | none => rw [hwant] at hr; cases hr
  | some b =>
    rw [hwant] at hr hw
    cases b with
    | false => simp only [Option.some.injEq] at hr; subst hr; rfl
    | true =>
      simp only at hr hw
      split at hw
      · rename_i t hop
        simp only [stepA, hop, globOf, dop, Option.map_eq_some_iff] at hr
        obtain ⟨cs, _, rfl⟩ := hr
        exact List.getElem?_append_left hk
      · rename_i t x hop
        simp only [stepA, hop, globOf, dop, Option.map_eq_some_iff] at hr
        obtain ⟨cs, _, rfl⟩ := hr
        exact List.getElem?_append_left hk
      · rename_i c hop
        split at hw
        · rename_i f hc
          simp only [stepA, hop, hc, opCall, Option.bind_eq_some_iff] at hr hw
          obtain ⟨args, hargs, hr⟩ := hr
          obtain ⟨args', hargs', hw⟩ := hw
          rw [hargs] at hargs'
          cases hargs'
          split at hr
          · rename_i g fi ca hf
            simp only [hf, Option.some.injEq] at hw
            subst hw
            split at hr
            · split at hr
              · split at hr
                · exact via_frame hr hk hn
                · exact via_frame hr hk hn
              · simp only [Option.bind_eq_some_iff, Option.map_eq_some_iff] at hr
                obtain ⟨_, _, _, _, _, _, rfl⟩ := hr
                rfl
            · cases hr
          · rename_i g caps hf
            simp only [hf, Option.some.injEq] at hw
            subst hw
            split at hr
            · exact via_frame hr hk hn
            · cases hr
          · cases hr
        · cases hw
      · cases hw

/-! ### two neighbours may change places -/
theorem restr_put {all : List Oper} {x y : Oper} {s : Nat → AV} {v : AV} (h : ∀ d, x.dst = some d → (lookL all y).contains d = false) : restr (lookL all y) (putO s x.dst v) = restr (lookL all y) s := by
  cases hd : x.dst with
  | none => rfl
  | some d =>
    funext t
    simp only [restr, putO, upd]
    by_cases e : t = d
    · subst e; rw [h t hd]; simp
    · rw [if_neg e]

theorem put_comm {s : Nat → AV} {d e : Option Nat} {v u : AV} (h : ∀ a, d = some a → e ≠ some a) : putO (putO s d v) e u = putO (putO s e u) d v := by
  cases d with
  | none => rfl
  | some a =>
    cases e with
    | none => rfl
    | some b =>
      have : b ≠ a := fun hh => h a rfl (by rw [hh])
      funext t
      simp only [putO, upd]
      by_cases h1 : t = a
      · subst h1; rw [if_neg (Ne.symm this)]; simp
      · by_cases h2 : t = b
        · subst h2; simp [h1]
        · simp [h1, h2]

theorem apart_ok {all : List Oper} {x y : Oper} (h : apartB all x y = true) :
    (∀ d, x.dst = some d → (lookL all y).contains d = false) ∧ (∀ d, y.dst = some d → (lookL all x).contains d = false) ∧ (∀ a, x.dst = some a → y.dst ≠ some a) := by
  unfold apartB at h
  cases hx : x.dst with
  | none => cases hy : y.dst with
    | none => simp
    | some e => rw [hx, hy] at h; simp at h; simp [h]
  | some d => cases hy : y.dst with
    | none => rw [hx, hy] at h; simp at h; simp [h]
    | some e =>
      rw [hx, hy] at h
      simp at h
      obtain ⟨⟨h1, h2⟩, h3⟩ := h
      simp [h1, h2, h3]

theorem pair_ok {all : List Oper} {s s' : Nat → AV} {h : Heap} {x y : Oper} {r : AV × Heap} (hn : neutralG E.P x.op = true) (hm : neutralG E.P y.op = false) {h' : Heap}
    (hp : pairOk (footA E all s' h' x) (footA E all s h y) = true) (hr : coreA E call all s h y = some r) : ∀ k ∈ readsO s' x, r.2[k]? = h[k]? := by
  rw [foot_neutral hn] at hp
  have : footA E all s h y = (writesA E all s h y, h.length) := by unfold footA; simp [hm]
  rw [this] at hp
  intro k hk
  unfold pairOk at hp
  simp only at hp
  cases hw : writesA E all s h y with
  | none =>
    rw [hw] at hp
    cases hR : readsO s' x with
    | nil => rw [hR] at hk; cases hk
    | cons a l => rw [hR] at hp; simp at hp
  | some W =>
    rw [hw] at hp
    simp only [List.all_eq_true, Bool.and_eq_true, decide_eq_true_eq, Bool.not_eq_true'] at hp
    obtain ⟨h1, h2⟩ := hp k hk
    exact core_writes hr hw k h1 (by simpa using h2)

theorem swap {all : List Oper} {x y : Oper} {Fx Fy : Option (List Nat) × Nat} {st st1 st2 : St} (ha : apartB all x y = true) (hk : (neutralG E.P x.op || neutralG E.P y.op) = true)
    (hx : stepR E call all x st = some st1) (hfx : footA E all (restr (lookL all x) st.sl) st.hp x = Fx) (hy : stepR E call all y st1 = some st2) (hfy : footA E all (restr (lookL all y) st1.sl) st1.hp y = Fy)
    (p1 : neutralG E.P x.op = true → neutralG E.P y.op = false → pairOk Fx Fy = true) (p2 : neutralG E.P y.op = true → neutralG E.P x.op = false → pairOk Fy Fx = true) :
    ∃ st1', stepR E call all y st = some st1' ∧ footA E all (restr (lookL all y) st.sl) st.hp y = Fy ∧ stepR E call all x st1' = some st2 ∧ footA E all (restr (lookL all x) st1'.sl) st1'.hp x = Fx := by
  obtain ⟨a1, a2, a3⟩ := apart_ok ha
  simp only [stepR, Option.map_eq_some_iff] at hx hy
  obtain ⟨⟨vx, h1⟩, hx, rfl⟩ := hx
  obtain ⟨⟨vy, h2⟩, hy, rfl⟩ := hy
  simp only [restr_put a1] at hy hfy
  have fin : ∀ hy' : Heap, coreA E call all (restr (lookL all y) st.sl) st.hp y = some (vy, hy') → footA E all (restr (lookL all y) st.sl) st.hp y = Fy →
      coreA E call all (restr (lookL all x) st.sl) hy' x = some (vx, h2) → footA E all (restr (lookL all x) st.sl) hy' x = Fx →
      ∃ st1', stepR E call all y st = some st1' ∧ footA E all (restr (lookL all y) st.sl) st.hp y = Fy ∧ stepR E call all x st1' = some ⟨putO (putO st.sl x.dst vx) y.dst vy, h2⟩ ∧ footA E all (restr (lookL all x) st1'.sl) st1'.hp x = Fx := by
    intro hy' q1 q2 q3 q4
    refine ⟨⟨putO st.sl y.dst vy, hy'⟩, by simp [stepR, q1], q2, ?_, ?_⟩
    · simp only [stepR, restr_put a2, q3, Option.map_some]
      rw [put_comm (fun a h => a3 a h)]
    · simp only [restr_put a2]; exact q4
  cases hnx : neutralG E.P x.op with
  | true =>
    obtain ⟨e1, kx⟩ := core_neutral hnx hx
    simp only at e1
    subst e1
    cases hny : neutralG E.P y.op with
    | true =>
      obtain ⟨e2, ky⟩ := core_neutral hny hy
      simp only at e2
      subst e2
      exact fin _ hy hfy hx hfx
    | false =>
      refine fin h2 hy hfy (kx h2 (pair_ok (h' := st.hp) (s' := restr (lookL all x) st.sl) hnx hny ?_ hy)) ?_
      · rw [hfx, hfy]; exact p1 hnx hny
      · rw [foot_neutral hnx] at hfx ⊢; exact hfx
  | false =>
    cases hny : neutralG E.P y.op with
    | false => rw [hnx, hny] at hk; simp at hk
    | true =>
      obtain ⟨e2, ky⟩ := core_neutral hny hy
      simp only at e2
      subst e2
      have hrd := pair_ok (h' := h2) (s' := restr (lookL all y) st.sl) hny hnx (by rw [hfx, hfy]; exact p2 hny hnx) hx
      refine fin st.hp (ky st.hp fun k hk => (hrd k hk).symm) ?_ hx hfx
      rw [foot_neutral hny] at hfy ⊢; exact hfy


/-! ### any order -/
def RunT (E : Env) (call : Caller) (all : List Oper) (F : Nat → Option (List Nat) × Nat) : List Nat → St → St → Prop
  | [], st, st' => st = st'
  | i :: r, st, st' => ∃ o, all[i]? = some o ∧ footA E all (restr (lookL all o) st.sl) st.hp o = F i ∧ ∃ st1, stepR E call all o st = some st1 ∧ RunT E call all F r st1 st'

def Indep (E : Env) (all : List Oper) (F : Nat → Option (List Nat) × Nat) (i j : Nat) : Prop :=
  ∀ x y, all[i]? = some x → all[j]? = some y → apartB all x y = true ∧ (neutralG E.P x.op || neutralG E.P y.op) = true ∧
    (neutralG E.P x.op = true → neutralG E.P y.op = false → pairOk (F i) (F j) = true) ∧ (neutralG E.P y.op = true → neutralG E.P x.op = false → pairOk (F j) (F i) = true)

theorem bubble {all : List Oper} {F : Nat → Option (List Nat) × Nat} {i : Nat} {r2 : List Nat} : ∀ {r1 : List Nat} {st st' : St}, (∀ j ∈ r1, Indep E all F j i) → RunT E call all F (r1 ++ i :: r2) st st' → RunT E call all F (i :: (r1 ++ r2)) st st' := by
  intro r1
  induction r1 with
  | nil => intro st st' _ h; exact h
  | cons j r1 ih =>
    intro st st' hi h
    obtain ⟨x, hx, fx, st1, hst1, h⟩ := h
    obtain ⟨y, hy, fy, st2, hst2, h⟩ := ih (fun k hk => hi k (List.mem_cons_of_mem _ hk)) h
    obtain ⟨c1, c2, c3, c4⟩ := hi j (List.mem_cons_self ..) x y hx hy
    obtain ⟨st1', q1, q2, q3, q4⟩ := swap c1 c2 hst1 fx hst2 fy c3 c4
    exact ⟨y, hy, q2, st1', q1, x, hx, q4, st2, q3, h⟩

theorem runT_of {all : List Oper} : ∀ {os : List Oper} {i : Nat} {st : St} {r : St × List (Option (List Nat) × Nat)} {F : Nat → Option (List Nat) × Nat}, all.drop i = os → runD E call all os st = some r → (∀ k, k < os.length → F (i + k) = r.2.getD k (none, 0)) →
    RunT E call all F (List.range' i os.length) st r.1 := by
  intro os
  induction os with
  | nil => intro i st r F _ h _; simp only [runD, Option.some.injEq] at h; subst h; rfl
  | cons o os ih =>
    intro i st r F hd h hF
    simp only [runD, Option.bind_eq_some_iff, Option.map_eq_some_iff] at h
    obtain ⟨st1, h1, r1, h2, rfl⟩ := h
    have hio : all[i]? = some o := by
      have := congrArg (·[0]?) hd
      simpa using this
    have hdn : all.drop (i + 1) = os := by
      have := congrArg List.tail hd
      simpa using this
    simp only [List.length_cons, List.range'_succ]
    refine ⟨o, hio, ?_, st1, h1, ih hdn h2 fun k hk => ?_⟩
    · have := hF 0 (by simp)
      simpa using this.symm
    · have := hF (k + 1) (by simp; exact hk)
      rw [show i + 1 + k = i + (k + 1) by omega, this]
      simp

section
variable {ops : Array Oper} {T : List (List Nat)} {listed : Array Bool} {md : Region.Mode}

theorem strong_binds {e : Edge} (h : strongB e = true) (md : Region.Mode) : Region.binds md e = true := by
  simp only [strongB, Bool.and_eq_true] at h
  cases md
  · exact h.1.1
  · exact h.1.2
  · exact h.2

def Closed (ops : Array Oper) (listed : Array Bool) : Prop := ∀ i o, ops[i]? = some o → listed.getD i false = true → ∀ e ∈ o.after, strongB e = true → listed.getD e.on false = true

theorem befores_get (hT : beforesOk ops.toList T = true) {i : Nat} {o : Oper} (ho : ops[i]? = some o) : (∀ e ∈ o.after, e.on < i) ∧ ∀ k ∈ T.getD i [], ∃ e ∈ o.after, strongB e = true ∧ (e.on = k ∨ k ∈ T.getD e.on []) := by
  have hi : i < ops.size := by
    rw [Array.getElem?_eq_some_iff] at ho
    exact ho.1
  have := List.all_eq_true.1 hT i (by simpa using hi)
  rw [Array.getElem?_toList, ho] at this
  simp only [Bool.and_eq_true, List.all_eq_true, List.any_eq_true, decide_eq_true_eq, Bool.or_eq_true, beq_iff_eq, List.contains_iff_mem] at this
  refine ⟨fun e he => this.1 e (by simpa using he), fun k hk => ?_⟩
  obtain ⟨e, he, h1, h2⟩ := this.2 k hk
  exact ⟨e, by simpa using he, h1, h2⟩

theorem befores_listed (hT : beforesOk ops.toList T = true) (hc : Closed ops listed) : ∀ (i : Nat) (o : Oper), ops[i]? = some o → (∀ e ∈ o.after, strongB e = true → listed.getD e.on false = true) → ∀ k ∈ T.getD i [], listed.getD k false = true := by
  intro i
  induction i using Nat.strongRecOn with
  | ind i ih =>
    intro o ho hp k hk
    obtain ⟨h1, h2⟩ := befores_get hT ho
    obtain ⟨e, he, hs, h⟩ := h2 k hk
    have hl := hp e he hs
    rcases h with rfl | h
    · exact hl
    · have hlt := h1 e he
      have hsz : e.on < ops.size := by
        have : i < ops.size := by rw [Array.getElem?_eq_some_iff] at ho; exact ho.1
        omega
      exact ih e.on hlt ops[e.on] (by simp [hsz]) (hc e.on _ (by simp [hsz]) hl) k h

theorem mem_ready {i : Nat} (hsz : listed.size = ops.size) : i ∈ Region.ready md ops listed ↔ i < ops.size ∧ listed.getD i false = false ∧ ∃ o, ops[i]? = some o ∧ ∀ e ∈ o.after, Region.binds md e = true → listed.getD e.on false = true := by
  simp only [Region.ready, List.mem_filter, List.mem_range, Bool.and_eq_true, Bool.not_eq_true']
  constructor
  · rintro ⟨h1, h2, h3⟩
    have h2' : listed.getD i false = false := by
      have hi : i < listed.size := by omega
      simp [Array.getD, hi] at h2 ⊢
      exact h2
    refine ⟨h1, h2', ops[i], by simp [h1], ?_⟩
    have ho : ops[i]? = some ops[i] := by simp [h1]
    rw [ho] at h3
    simp only [Option.map_some, Option.getD_some, Array.all_eq_true', Bool.or_eq_true, Bool.not_eq_true'] at h3
    intro e he hb
    rcases h3 e he with h | h
    · rw [hb] at h; cases h
    · exact h
  · rintro ⟨h1, h2, o, ho, h3⟩
    have h2' : listed.getD i true = false := by
      have hi : i < listed.size := by omega
      simp [Array.getD, hi] at h2 ⊢
      exact h2
    refine ⟨h1, h2', ?_⟩
    rw [ho]
    simp only [Option.map_some, Option.getD_some, Array.all_eq_true', Bool.or_eq_true, Bool.not_eq_true']
    intro e he
    cases hb : Region.binds md e with
    | false => exact .inl rfl
    | true => exact .inr (h3 e he hb)

def remOf (ops : Array Oper) (listed : Array Bool) : List Nat := (List.range ops.size).filter fun i => !listed.getD i false

theorem remOf_sorted : (remOf ops listed).Pairwise (· < ·) := List.Pairwise.filter _ List.pairwise_lt_range

theorem remOf_set {i : Nat} {r1 r2 : List Nat} (hsz : listed.size = ops.size) (h : remOf ops listed = r1 ++ i :: r2) : remOf ops (listed.setIfInBounds i true) = r1 ++ r2 := by
  have hmem : i ∈ remOf ops listed := by rw [h]; simp
  have hi : i < ops.size := by
    simp only [remOf, List.mem_filter, List.mem_range] at hmem
    exact hmem.1
  have h1 : remOf ops (listed.setIfInBounds i true) = (remOf ops listed).filter (fun j => j != i) := by
    simp only [remOf, List.filter_filter]
    apply List.filter_congr
    intro j hj
    simp only [Array.getD_eq_getD_getElem?, Array.getElem?_setIfInBounds]
    by_cases e : i = j
    · subst e
      simp [hsz, hi]
    · simp [e, Ne.symm e]
  have hs := remOf_sorted (ops := ops) (listed := listed)
  rw [h] at hs
  rw [h1, h]
  rw [List.pairwise_append] at hs
  obtain ⟨_, hs2, hs3⟩ := hs
  rw [List.pairwise_cons] at hs2
  simp only [List.filter_append, List.filter_cons, bne_self_eq_false, Bool.false_eq_true, if_false]
  rw [List.filter_eq_self.2, List.filter_eq_self.2]
  · intro a ha
    have := hs2.1 a ha
    simp; omega
  · intro a ha
    have := hs3 a ha i (by simp)
    simp; omega

theorem any_ok (he : EnvOk E) (hcall : ∀ g, CallP E g (call g)) {n : Nat} {G0 : Gh} (hb0 : BaseOk E G0) {hp0 : Heap} {w0 : World} {Q : Exit → Act → World → Prop} {st' : St} {F : Nat → Option (List Nat) × Nat}
    (hok : (ops.all fun o => o.dst.all (· < n)) = true) (hT : beforesOk ops.toList T = true)
    (hP : ∀ i j, i < j → i ∉ T.getD j [] → Indep E ops.toList F i j) (hq : ∀ a' w', Inv n G0 hp0 w0 st' a' w' → Q .normal a' w') :
    ∀ (fuel : Nat) (listed : Array Bool) (st : St) (a : Act) (w : World), listed.size = ops.size → fuel = (remOf ops listed).length → Closed ops listed → RunT E call ops.toList F (remOf ops listed) st st' → Inv n G0 hp0 w0 st a w →
      wpAny E.P md ops Q fuel listed a w := by
  intro fuel
  induction fuel with
  | zero =>
    intro listed st a w hsz hf hc hr hi
    have hnil : remOf ops listed = [] := List.eq_nil_of_length_eq_zero hf.symm
    rw [hnil] at hr
    refine ⟨?_, ?_⟩
    · apply List.eq_nil_iff_forall_not_mem.2
      intro i hm
      rw [mem_ready hsz] at hm
      have : i ∈ remOf ops listed := by simp only [remOf, List.mem_filter, List.mem_range, hm.2.1]; exact ⟨hm.1, rfl⟩
      rw [hnil] at this; cases this
    · have : st = st' := hr
      subst this
      exact hq _ _ hi
  | succ fuel ih =>
    intro listed st a w hsz hf hc hr hi
    refine ⟨fun hnil => ?_, fun i hm => ?_⟩
    · exfalso
      cases hrem : remOf ops listed with
      | nil => rw [hrem] at hf; simp at hf
      | cons i0 r =>
        have hm0 : i0 ∈ remOf ops listed := by rw [hrem]; simp
        simp only [remOf, List.mem_filter, List.mem_range, Bool.not_eq_true'] at hm0
        have : i0 ∈ Region.ready md ops listed := by
          rw [mem_ready hsz]
          refine ⟨hm0.1, hm0.2, ops[i0], by simp [hm0.1], fun e hea hb => ?_⟩
          have hlt := (befores_get hT (i := i0) (o := ops[i0]) (by simp [hm0.1])).1 e hea
          cases hl : listed.getD e.on false with
          | true => rfl
          | false =>
            have : e.on ∈ remOf ops listed := by simp only [remOf, List.mem_filter, List.mem_range, hl]; exact ⟨by omega, rfl⟩
            have hs := remOf_sorted (ops := ops) (listed := listed)
            rw [hrem] at hs this
            rw [List.pairwise_cons] at hs
            rcases List.mem_cons.1 this with h | h
            · omega
            · have := hs.1 _ h; omega
        rw [hnil] at this; cases this
    · rw [mem_ready hsz] at hm
      obtain ⟨hi1, hi2, o, ho, hpre⟩ := hm
      have hmem : i ∈ remOf ops listed := by simp only [remOf, List.mem_filter, List.mem_range, hi2]; exact ⟨hi1, rfl⟩
      obtain ⟨r1, r2, hrem⟩ := List.append_of_mem hmem
      have hs := remOf_sorted (ops := ops) (listed := listed)
      rw [hrem, List.pairwise_append] at hs
      have hstrong : ∀ e ∈ o.after, strongB e = true → listed.getD e.on false = true := fun e hea hb => hpre e hea (strong_binds hb md)
      rw [hrem] at hr
      have hr2 := bubble (fun j hj => hP j i (hs.2.2 j hj i (by simp)) fun hin => by
        have := befores_listed hT hc i o ho hstrong j hin
        have hjm : j ∈ remOf ops listed := by rw [hrem]; simp [hj]
        simp only [remOf, List.mem_filter, this] at hjm
        simp at hjm) hr
      obtain ⟨o', ho', _, st1, hst1, hr3⟩ := hr2
      rw [Array.getElem?_toList, ho] at ho'
      cases ho'
      have hdst : o.dst.all (· < n) = true := Array.all_eq_true'.1 hok o (Array.mem_of_getElem? ho)
      have hc' : Closed ops (listed.setIfInBounds i true) := by
        have mono : ∀ k, listed.getD k false = true → (listed.setIfInBounds i true).getD k false = true := by
          intro k hk
          simp only [Array.getD_eq_getD_getElem?, Array.getElem?_setIfInBounds] at hk ⊢
          by_cases e : i = k
          · subst e; simp [hsz, hi1]
          · simpa [e] using hk
        intro k ok hok' hk e hea hb
        by_cases e' : i = k
        · subst e'
          rw [ho] at hok'
          cases hok'
          exact mono _ (hstrong e hea hb)
        · refine mono _ (hc k ok hok' ?_ e hea hb)
          simp only [Array.getD_eq_getD_getElem?, Array.getElem?_setIfInBounds] at hk ⊢
          simpa [e'] using hk
      have hset := remOf_set hsz hrem
      have hfuel : fuel = (remOf ops (listed.setIfInBounds i true)).length := by
        rw [hset]
        rw [hrem] at hf
        simp at hf ⊢
        omega
      rw [← hset] at hr3
      have next := fun a' w' (hi' : Inv n G0 hp0 w0 st1 a' w') => ih (listed.setIfInBounds i true) st1 a' w' (by simp [hsz]) hfuel hc' hr3 hi'
      obtain ⟨⟨G, hsr, hw, sn⟩, hszT, hdef⟩ := hi
      simp only [stepR, Option.map_eq_some_iff] at hst1
      obtain ⟨⟨v, h1⟩, hcore, rfl⟩ := hst1
      have hsr' : SR G st.hp (restr (lookL ops.toList o) st.sl) a.tmps := by
        intro t
        unfold restr
        split
        · exact hsr t
        · trivial
      simp only [wpOp, ho]
      unfold coreA at hcore
      split at hcore
      · rename_i hwant
        rw [want_ok rfl hsr' hwant]
        simp only [if_true]
        left
        refine stepA_ok he hcall (hb0.mono sn) hsr' hw hcore fun x w' G' ha hw' sn' => next _ _ ⟨⟨G', ?_, hw', sn.trans sn'⟩, ?_, by rw [put_defers, hdef]⟩
        · rw [put_tmps]
          exact SR.put (fun t => (hsr t).mono sn') ha (by rw [hszT]; exact hdst)
        · rw [put_tmps, setT_size, hszT]
      · rename_i hwant
        simp only [Option.some.injEq, Prod.mk.injEq] at hcore
        obtain ⟨rfl, rfl⟩ := hcore
        rw [want_ok rfl hsr' hwant]
        simp only [Bool.false_eq_true, if_false]
        refine next _ _ ⟨⟨G, ?_, hw, sn⟩, ?_, by rw [put_defers, hdef]⟩
        · rw [put_tmps]
          exact SR.put hsr (v := .tup []) ⟨[], rfl, .nil⟩ (by rw [hszT]; exact hdst)
        · rw [put_tmps, setT_size, hszT]
      · cases hcore
end

theorem runDraw_ok (he : EnvOk E) (hcall : ∀ g, CallP E g (call g)) {n : Nat} {G0 : Gh} (hb0 : BaseOk E G0) {hp0 : Heap} {w0 : World} {ops : Array Oper} {id : Nat} {Q : Exit → Act → World → Prop} {st st' : St} {a : Act} {w : World}
    (hok : (ops.all fun o => o.dst.all (· < n)) = true) (hd : drawOk E.P ops.toList = true) (hr : runDraw E call ops.toList st = some st') (hi : Inv n G0 hp0 w0 st a w)
    (hq : ∀ a' w', Inv n G0 hp0 w0 st' a' w' → Q .normal a' w') : (Code.region id ops true).wp E.P Q a w := by
  simp only [runDraw, Option.bind_eq_some_iff] at hr
  obtain ⟨r, hrun, hr⟩ := hr
  split at hr
  case isFalse => cases hr
  rename_i hfl
  cases hr
  simp only [drawOk, Bool.and_eq_true] at hd
  obtain ⟨hT, hpairs⟩ := hd
  generalize hTe : befores ops.toList [] = T at *
  let F : Nat → Option (List Nat) × Nat := fun k => r.2.getD k (none, 0)
  have hRT := runT_of (all := ops.toList) (F := F) (i := 0) (by simp) hrun (fun k _ => by simp [F])
  have foots : ∀ i x, ops.toList[i]? = some x → ∃ s h, F i = footA E ops.toList s h x := by
    have key : ∀ (l : List Nat) (st st' : St), RunT E call ops.toList F l st st' → ∀ i ∈ l, ∀ x, ops.toList[i]? = some x → ∃ s h, F i = footA E ops.toList s h x := by
      intro l
      induction l with
      | nil => intro st st' _ i hi; cases hi
      | cons j l ih =>
        rintro st st' ⟨o, ho, hf, st1, _, h⟩ i hi x hx
        rcases List.mem_cons.1 hi with rfl | hi
        · rw [ho] at hx; cases hx; exact ⟨_, _, hf.symm⟩
        · exact ih _ _ h i hi x hx
    intro i x hx
    refine key _ _ _ hRT i ?_ x hx
    have := (List.getElem?_eq_some_iff.1 hx).1
    simp only [List.mem_range'_1]
    omega
  have hP : ∀ i j, i < j → i ∉ T.getD j [] → Indep E ops.toList F i j := by
    intro i j hij hnT x y hx hy
    have hj := (List.getElem?_eq_some_iff.1 hy).1
    have hi := (List.getElem?_eq_some_iff.1 hx).1
    have := List.all_eq_true.1 (List.all_eq_true.1 hpairs j (by simpa using hj)) i (by simpa using hij)
    simp only [Bool.or_eq_true, List.contains_iff_mem] at this
    have hji : j ∉ T.getD i [] := by
      intro hin
      have key : ∀ (i : Nat), ∀ k ∈ T.getD i [], i < ops.size → k < i := by
        intro i
        induction i using Nat.strongRecOn with
        | ind i ih =>
          intro k hk hsz
          obtain ⟨b1, b2⟩ := befores_get (T := T) hT (i := i) (o := ops[i]) (by simp [hsz])
          obtain ⟨e, hea, _, h⟩ := b2 k hk
          have hlt := b1 e hea
          rcases h with rfl | h
          · exact hlt
          · have := ih e.on hlt k h (by omega); omega
      have := key i j hin (by simpa using hi)
      omega
    rcases this with h | h
    · exact absurd h hnT
    · rw [hx, hy] at h
      simp only [Bool.and_eq_true] at h
      have flo : ∀ p q u v, ops.toList[p]? = some u → ops.toList[q]? = some v → p ∉ T.getD q [] → q ∉ T.getD p [] → neutralG E.P u.op = true → neutralG E.P v.op = false → pairOk (F p) (F q) = true := by
        intro p q u v hu hv h1 h2 hnu hnv
        cases hl : isLoad u with
        | true =>
          have hin : (p, q) ∈ floats E.P ops.toList := by
            have hp := (List.getElem?_eq_some_iff.1 hu).1
            have hq := (List.getElem?_eq_some_iff.1 hv).1
            simp only [floats, List.mem_flatMap, List.mem_range]
            refine ⟨p, hp, ?_⟩
            rw [hu]
            simp only [hl, if_true, List.mem_filterMap, List.mem_range]
            refine ⟨q, hq, ?_⟩
            rw [hv, hTe]
            simp only [hnv, Bool.false_or]
            rw [if_neg]
            simp only [Bool.or_eq_true, List.contains_iff_mem, not_or]
            exact ⟨h1, h2⟩
          exact List.all_eq_true.1 hfl _ hin
        | false =>
          obtain ⟨s, hh, hf⟩ := foots p u hu
          rw [hf, foot_neutral hnu]
          have : readsO s u = [] := by
            unfold readsO
            split
            · rename_i hop; simp [isLoad, hop] at hl
            · rfl
          rw [this]
          unfold pairOk
          cases (F q).1 <;> simp
      exact ⟨h.1, h.2, fun h1 h2 => flo i j x y hx hy hnT hji h1 h2, fun h1 h2 => flo j i y x hy hx hji hnT h1 h2⟩
  refine wp_region_draw fun t => ?_
  have hi' : Inv n G0 hp0 w0 st a { w with drawn := w.drawn + 1 } := by
    obtain ⟨⟨G, hs, hw, sn⟩, h2, h3⟩ := hi
    exact ⟨⟨G, hs, ⟨hw.mu, hw.ob, hw.inj⟩, ⟨sn.mu, sn.muNew, sn.bdNew, sn.same, sn.size, sn.kind, sn.io⟩⟩, h2, h3⟩
  have hrem : remOf ops (Array.replicate ops.size false) = List.range' 0 ops.toList.length := by
    rw [← List.range_eq_range', Array.length_toList]
    unfold remOf
    rw [List.filter_eq_self]
    intro j hj
    simp only [List.mem_range] at hj
    simp [Array.getD, hj]
  have any : ∀ md, wpAny E.P md ops Q ops.size (Array.replicate ops.size false) a { w with drawn := w.drawn + 1 } := fun md =>
    any_ok he hcall hb0 hok hT hP hq ops.size _ st a _ (by simp) (by rw [hrem]; simp) (by
      intro i o ho hl
      exfalso
      simp only [Array.getD, Array.size_replicate] at hl
      split at hl
      · simp at hl
      · cases hl) (by rw [hrem]; exact hRT) hi'
  unfold Region.schedule
  split
  · exact wpAny_sound ops.size t _ a _ (any _)
  · exact wpAny_sound ops.size (t / 2) _ a _ (any _)
end
end Go.Ab
