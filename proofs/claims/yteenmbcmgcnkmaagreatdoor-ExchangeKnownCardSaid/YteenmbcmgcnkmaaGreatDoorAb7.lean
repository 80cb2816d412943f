/- Operations that only read, or compute. -/
import Derived.Test.YteenmbcmgcnkmaaGreatDoorAb6
set_option linter.unusedVariables false
set_option linter.unusedSimpArgs false
namespace Go.Ab
open Go

def SR (G : Gh) (hp : Heap) (s : Nat → AV) (tmps : Array Value) : Prop := ∀ t, AR G hp (s t) (tmps.getD t undef)

theorem SR.mono {G0 G : Gh} {hp0 hp : Heap} {w0 w : World} (sn : Sn G0 hp0 w0 G hp w) {s : Nat → AV} {tmps : Array Value} (h : SR G0 hp0 s tmps) : SR G hp s tmps := fun t => (h t).mono sn

/-- an operation's outcome -/
def OkV (G : Gh) (hp : Heap) (w : World) (r : Result Next) (res : AV × Heap) : Prop :=
  ∃ x w' G', (r = .ok (.value x) w' ∧ AR G' res.2 res.1 x ∨ r = .ok .skip w' ∧ res.1 = .dead) ∧ WR G' res.2 w' ∧ Sn G hp w G' res.2 w'

theorem OkV.same {G : Gh} {hp : Heap} {w : World} {r : Result Next} {v : AV} {x : Value} (hw : WR G hp w) (hr : r = .ok (.value x) w) (ha : AR G hp v x) : OkV G hp w r (v, hp) :=
  ⟨x, w, G, .inl ⟨hr, ha⟩, hw, Sn.refl _ _ _⟩

theorem plain_one {v : Value} (h : plain v = true) : v.oneCell' = true := by cases v <;> simp_all [plain, Value.oneCell']

theorem ofV1_rel {G : Gh} {hp : Heap} {v : Value} {c : C} (h : ofV1 v = some c) : CR G hp c v := by
  unfold ofV1 at h
  split at h
  · cases h; exact DR.nil
  · split at h
    · rename_i hp_; cases h; exact .sc _ (plain_one hp_)
    · cases h

theorem mapM_all2 {α β : Type} {f : α → Option β} {l : List α} {m : List β} (h : l.mapM f = some m) : All2 (fun a b => f a = some b) l m := by
  induction l generalizing m with
  | nil => simp at h; subst h; exact .nil
  | cons a l ih =>
    simp only [List.mapM_cons, Option.bind_eq_bind] at h
    cases ha : f a with
    | none => simp [ha] at h
    | some b =>
      cases hl : l.mapM f with
      | none => simp [ha, hl] at h
      | some m' =>
        simp [ha, hl] at h
        subst h
        exact .cons ha (ih hl)

theorem All2.flip {α β : Type} {R : α → β → Prop} {l : List α} {m : List β} (h : All2 R l m) : All2 (fun b a => R a b) m l := by
  induction h with
  | nil => exact .nil
  | cons a _ ih => exact .cons a ih
theorem All2.comp {α β γ : Type} {R : α → β → Prop} {S : β → γ → Prop} {T : α → γ → Prop} (f : ∀ a b c, R a b → S b c → T a c) {l : List α} {m : List β} {n : List γ} (h : All2 R l m) (h' : All2 S m n) : All2 T l n := by
  induction h generalizing n with
  | nil => cases h'; exact .nil
  | cons a _ ih => cases h' with
    | cons b t => exact .cons (f _ _ _ a b) (ih t)

theorem ofV_rel {G : Gh} {hp : Heap} {v : Value} {x : V1} (h : ofV v = some x) : VR G hp x v := by
  unfold ofV at h
  split at h
  · rename_i cs
    cases hm : cs.toList.mapM ofV1 with
    | none => simp [hm] at h
    | some l =>
      simp [hm] at h
      subst h
      exact ⟨cs.toList, by simp, (mapM_all2 hm).flip.mono fun _ _ r => ofV1_rel r⟩
  · simp only [Option.map_eq_some_iff] at h
    obtain ⟨c, hc, rfl⟩ := h
    exact ofV1_rel (v := v) hc

theorem toV1_eq {G : Gh} {hp : Heap} {c : C} {v v' : Value} (h : toV1 c = some v) (r : CR G hp c v') : v' = v := by
  unfold toV1 at h
  split at h
  · cases h; cases r; rfl
  · cases h
    cases r with
    | lst nl es a cap sz vs hlen hnl hcap _ _ _ _ =>
      cases a with
      | none => rw [hcap rfl]; rfl
      | some a => simp at hnl
  · cases h
theorem toV_eq {G : Gh} {hp : Heap} {x : V1} {v v' : Value} (h : toV x = some v) (r : VR G hp x v') : v' = v := by
  cases x with
  | c x => exact toV1_eq h r
  | agg cs =>
    obtain ⟨vs, rfl, r⟩ := r
    simp only [toV] at h
    cases hm : cs.mapM toV1 with
    | none => simp [hm] at h
    | some l =>
      simp [hm] at h
      subst h
      have : vs = l := by
        have h2 := mapM_all2 hm
        clear hm
        induction r generalizing l with
        | nil => cases h2; rfl
        | cons a _ ih => cases h2 with
          | cons b t => rw [toV1_eq b a, ih _ t]
      rw [this]
theorem AV.toV_eq {G : Gh} {hp : Heap} {x : AV} {v v' : Value} (h : AV.toV x = some v) (r : AR G hp x v') : v' = v := by
  cases x with
  | v x => exact Ab.toV_eq h r
  | tup xs => simp [AV.toV] at h
  | dead => simp [AV.toV] at h

section
variable {G : Gh} {hp : Heap} {s : Nat → AV} {a : Act}
theorem ev_rel (hs : SR G hp s a.tmps) {o : Operand} {x : AV} (h : ev s o = some x) : AR G hp x (a.eval o) := by
  cases o with
  | tmp t => simp only [ev, Option.some.injEq] at h; subst h; exact hs t
  | const v =>
    simp only [ev, Option.map_eq_some_iff] at h
    obtain ⟨y, h1, rfl⟩ := h
    exact ofV_rel (v := v) h1
  | global g => simp [ev] at h
  | func f => simp only [ev, Option.some.injEq] at h; subst h; exact .sc _ rfl
theorem ev1_rel (hs : SR G hp s a.tmps) {o : Operand} {x : V1} (h : ev1 s o = some x) : VR G hp x (a.eval o) := by
  unfold ev1 at h
  split at h
  · rename_i y hy; cases h; exact ev_rel hs hy
  · cases h
theorem evC_rel (hs : SR G hp s a.tmps) {o : Operand} {x : C} (h : evC s o = some x) : CR G hp x (a.eval o) := by
  unfold evC at h
  split at h
  · rename_i y hy; cases h; exact ev_rel hs hy
  · cases h
theorem evI_rel (hs : SR G hp s a.tmps) {o : Operand} {i : Int} (h : evI s o = some i) : ∃ k, a.eval o = .int k i := by
  unfold evI at h
  split at h
  · rename_i k n hy
    cases h
    have hr := ev_rel hs hy
    generalize a.eval o = z at hr
    cases hr
    exact ⟨k, rfl⟩
  · cases h
end

/-! ### types -/
section
variable {P : Program} {w : World} {t : TypeId}
theorem run_underlying {d : TypeDesc} (h : P.underlying t = some d) : (underlying t).run P w = .ok d w := by simp [underlying, h]
theorem run_typeInfo {i : TypeInfo} (h : P.info? t = some i) : (typeInfo t).run P w = .ok i w := by simp [typeInfo, h]
theorem run_sizeOf {n : Nat} (h : szP P t = some n) : (sizeOf t).run P w = .ok n w := by
  simp only [szP, Option.map_eq_some_iff] at h
  obtain ⟨i, hi, rfl⟩ := h
  simp [sizeOf, run_typeInfo hi]
theorem run_zeroValue {z : Value} (h : zeroP P t = some z) : (zeroValue t).run P w = .ok z w := by
  simp only [zeroP, Option.bind_eq_some_iff] at h
  obtain ⟨i, hi, hz⟩ := h
  simp [zeroValue, run_typeInfo hi, hz]
theorem run_isAgg {g : Bool} (h : aggP P t = some g) : (isAgg t).run P w = .ok g w := by
  simp only [aggP, Option.map_eq_some_iff] at h
  obtain ⟨d, hd, rfl⟩ := h
  simp only [isAgg, Sem.run_bind, run_underlying hd, Result.andThen_ok]
  cases d <;> rfl
end

def valOf (g : Bool) (l : List Value) : Value := if g then .agg l.toArray else l.headD undef
theorem mkV_rel {G : Gh} {hp : Heap} {g : Bool} {cs : List C} {x : V1} {l : List Value} (h : mkV g cs = some x) (r : All2 (CR G hp) cs l) : VR G hp x (valOf g l) := by
  unfold mkV at h
  split at h
  · rename_i hg
    cases h
    simp only [valOf, hg, if_true]
    exact ⟨l, rfl, r⟩
  · rename_i hg
    split at h
    · cases h
      cases r with
      | cons a t => cases t with
        | nil => simp only [valOf, hg, if_false]; exact a
    · cases h

theorem run_loadVar' {P : Program} {w : World} {t : TypeId} {n : Nat} {g : Bool} {ad : Addr} {l : List Value} (hn : szP P t = some n) (hg : aggP P t = some g) (hl : l.length = n)
    (h1 : g = true ∨ n = 1) (hc : ∀ j v, l[j]? = some v → w.cell? (ad.add j) = some v) : (loadVar t ad).run P w = .ok (valOf g l) w := by
  subst hl
  cases g with
  | true => simp [loadVar, run_isAgg hg, run_sizeOf hn, run_loadCells_list w ad l hc, valOf]
  | false =>
    have h1 : l.length = 1 := by simpa using h1
    cases l with
    | nil => simp at h1
    | cons v l =>
      have := hc 0 v rfl
      simp [Addr.add] at this
      simp [loadVar, run_isAgg hg, run_load, this, valOf]

theorem addr_add (b o i : Nat) : (Addr.add ⟨b, o, none⟩ i) = ⟨b, o + i, none⟩ := by unfold Addr.add; split <;> simp_all

/-- cells read out of an object -/
theorem read_cells {G : Gh} {hp : Heap} {w : World} {k b off n : Nat} {cs : List C} (hw : WR G hp w) (hk : hp[k]? = some (.cells cs)) (hb : (G.β k).at b) (hle : off + n ≤ cs.length) :
    ∃ l : List Value, l.length = n ∧ All2 (CR G hp) ((cs.drop off).take n) l ∧ ∀ j v, l[j]? = some v → w.cell? (Addr.add ⟨b, off, none⟩ j) = some v := by
  obtain ⟨b', vs, t, fz, e, h1, h2, h3, h4, _⟩ := hw.ob k _ hk
  cases Bd.at_inj hb e
  refine ⟨(vs.toList.drop off).take n, by simp; omega, All2.of_get (by simp; omega) fun i c v hc hv => ?_, fun j v hv => ?_⟩
  · simp only [List.getElem?_take, List.getElem?_drop] at hc hv
    split at hc <;> simp_all
    exact h4 _ _ _ hc hv
  · simp only [List.getElem?_take, List.getElem?_drop] at hv
    rw [addr_add, cell_at h1]
    split at hv <;> simp_all

/-- cells read out of what never changes -/
theorem read_known {G : Gh} {hp : Heap} {w : World} {b o off n : Nat} {cs : List D} {vs : Nat → Value} (hw : WR G hp w) (h : ∀ (j : Nat) c, cs[j]? = some c → DR G.μ c (vs j) ∧ G.μ b (o + j) = some (vs j)) (hle : off + n ≤ cs.length) :
    ∃ l : List Value, l.length = n ∧ All2 (CR G hp) (((cs.drop off).take n).map .d) l ∧ ∀ j v, l[j]? = some v → w.cell? (Addr.add ⟨b, o + off, none⟩ j) = some v := by
  refine ⟨(List.range n).map fun j => vs (off + j), by simp, All2.of_get (by simp; omega) fun i c v hc hv => ?_, fun j v hv => ?_⟩
  · simp only [List.getElem?_map, List.getElem?_take, List.getElem?_drop, Option.map_eq_some_iff] at hc
    obtain ⟨d, hd, rfl⟩ := hc
    split at hd
    · simp only [List.getElem?_map, Option.map_eq_some_iff] at hv
      obtain ⟨i', hi', rfl⟩ := hv
      rw [List.getElem?_range (by omega)] at hi'
      cases hi'
      exact (h _ _ hd).1
    · cases hd
  · simp only [List.getElem?_map, Option.map_eq_some_iff] at hv
    obtain ⟨i', hi', rfl⟩ := hv
    have hj : j < n := by
      rcases Nat.lt_or_ge j n with h' | h'
      · exact h'
      · simp [List.getElem?_eq_none (show (List.range n).length ≤ j by simpa)] at hi'
    rw [List.getElem?_range hj] at hi'
    cases hi'
    rw [addr_add]
    have hl : off + j < cs.length := by omega
    have := hw.mu _ _ _ (h (off + j) cs[off + j] (List.getElem?_eq_getElem hl)).2
    rwa [show o + off + j = o + (off + j) by omega]

end Go.Ab
