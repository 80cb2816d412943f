/- Code, and calls, whole. -/
import Derived.Test.YteenmbcmgcnkmaaGreatDoorAb18
import Derived.Test.YteenmbcmgcnkmaaGreatDoorAbD
set_option linter.unusedVariables false
set_option linter.unusedSimpArgs false
namespace Go.Ab
open Go

section
variable {G : Gh} {hp : Heap} {w : World}

theorem C.ro_ok {x : C} {v : Value} (h : CR G hp x v) : CR G hp x.ro v := by
  cases x with
  | own nl es k => exact h.1
  | _ => exact h
theorem V1.ro_ok' {x : V1} {v : Value} (h : VR G hp x v) : VR G hp x.ro v := by
  cases x with
  | c x => exact C.ro_ok h
  | agg cs =>
    obtain ⟨vs, hv, r⟩ := h
    refine ⟨vs, hv, ?_⟩
    clear hv
    induction r with
    | nil => exact .nil
    | cons a _ ih => exact .cons (C.ro_ok a) ih
theorem frzH_get : ∀ (m : Nat) (hp : Heap) (k : Nat), (frzH m hp)[k]? = (hp[k]?).map fun (o : Ob) => if k < m then o else o.frz := by
  intro m hp
  induction hp generalizing m with
  | nil => intro k; cases m <;> rfl
  | cons o r ih =>
    intro k
    cases m with
    | zero => cases k with
      | zero => rfl
      | succ k => simp only [frzH, List.getElem?_cons_succ, ih]; simp
    | succ m => cases k with
      | zero => simp [frzH]
      | succ k => simp only [frzH, List.getElem?_cons_succ, ih]; simp
theorem frzH_len (m : Nat) (hp : Heap) : (frzH m hp).length = hp.length := by
  induction hp generalizing m with
  | nil => cases m <;> rfl
  | cons o r ih => cases m <;> simp [frzH, ih]
theorem Ob.frz_cases (o : Ob) : o.frz = o ∨ ∃ kvs, o = .amap kvs := by
  cases o <;> first | exact .inl rfl | exact .inr ⟨_, rfl⟩
/-- another heap, in which maps' values are told with less -/
def Frz (hp hp' : Heap) : Prop := hp'.length = hp.length ∧ ∀ (k : Nat) (o : Ob), hp[k]? = some o → hp'[k]? = some o ∨ hp'[k]? = some o.frz
theorem frzH_frz (m : Nat) (hp : Heap) : Frz hp (frzH m hp) := ⟨frzH_len m hp, fun k o h => by
  rw [frzH_get, h]
  by_cases hk : k < m
  · exact .inl (by simp [hk])
  · exact .inr (by simp [hk])⟩
theorem Isb.frz {hp' : Heap} (f : Frz hp hp') {k b : Nat} (h : Isb G hp k b) : Isb G hp' k b := by
  obtain ⟨o, ho, hr, hb⟩ := h
  rcases f.2 k o ho with e | e
  · exact ⟨o, e, hr, hb⟩
  · rcases Ob.frz_cases o with q | ⟨kvs, rfl⟩
    · rw [q] at e; exact ⟨o, e, hr, hb⟩
    · refine ⟨_, e, rfl, .inr ?_⟩
      rcases hb with hb | hb
      · cases hb
      · exact hb
theorem frz_get {hp' : Heap} (f : Frz hp hp') {k : Nat} {o : Ob} (ho : hp[k]? = some o) (hn : o.frz = o) : hp'[k]? = some o := by
  rcases f.2 k o ho with e | e
  · exact e
  · rw [hn] at e; exact e
theorem CR.frz {hp' : Heap} (f : Frz hp hp') {x : C} {v : Value} (h : CR G hp x v) : CR G hp' x v := by
  cases x with
  | d x => exact h
  | own nl es k =>
    obtain ⟨h1, n, sz, h2, h3⟩ := h
    exact ⟨h1, n, sz, frz_get f h2 rfl, h3⟩
  | slc k off sz len cap =>
    obtain ⟨b, c, off', h1, h2, h3, h4, h5, h6⟩ := h
    refine ⟨b, c, off', h1.frz f, h2, h3, h4, h5, fun q r => ?_⟩
    rcases h6 q r with h6 | h6
    · exact .inl (frz_get f h6 rfl)
    · exact .inr h6
  | ptr k off => obtain ⟨b, h1, h2⟩ := h; exact ⟨b, h1.frz f, h2⟩
  | cptr cs off => exact h
  | mp k => obtain ⟨b, h1, h2⟩ := h; exact ⟨b, h1.frz f, h2⟩
  | it k => obtain ⟨b, h1, h2⟩ := h; exact ⟨b, h1.frz f, h2⟩
  | any => exact h
  | nw es => exact h
  | fn g caps =>
    obtain ⟨vs, h1, h2⟩ := h
    exact ⟨vs, h1, h2.mono fun p x ⟨b, h3, h4⟩ => ⟨b, h3.frz f, h4⟩⟩
theorem VR.frz {hp' : Heap} (f : Frz hp hp') {x : V1} {v : Value} (h : VR G hp x v) : VR G hp' x v := by
  cases x with
  | c x => exact CR.frz f h
  | agg cs => obtain ⟨vs, hv, r⟩ := h; exact ⟨vs, hv, r.mono fun _ _ => CR.frz f⟩
theorem AR.frz {hp' : Heap} (f : Frz hp hp') {x : AV} {v : Value} (h : AR G hp x v) : AR G hp' x v := by
  cases x with
  | v x => exact VR.frz f h
  | tup xs => obtain ⟨vs, hv, r⟩ := h; exact ⟨vs, hv, r.mono fun _ _ => VR.frz f⟩
  | dead => trivial
theorem OR.frz {hp' : Heap} (f : Frz hp hp') {k : Nat} {o : Ob} (h : OR G hp w k o) : OR G hp' w k o := by
  cases o with
  | cells cs =>
    obtain ⟨b, vs, t, fz, h1, h2, h3, h4, h5, h6⟩ := h
    exact ⟨b, vs, t, fz, h1, h2, h3, h4, fun i c v a b => (h5 i c v a b).frz f, h6⟩
  | amap kvs =>
    obtain ⟨b, es, clock, h1, h2, h3, h4⟩ := h
    exact ⟨b, es, clock, h1, h2, h3.mono fun _ _ q => ⟨q.1, q.2.frz f⟩, h4⟩
  | row n sz => exact h
  | siter s p => exact h
  | gone => exact h
theorem OR.frzO {k : Nat} {o : Ob} (h : OR G hp w k o) : OR G hp w k o.frz := by
  cases o with
  | amap kvs =>
    obtain ⟨b, es, clock, h1, h2, h3, h4⟩ := h
    refine ⟨b, es, clock, h1, h2, ?_, h4⟩
    generalize es.toList = l at h3
    clear h2
    induction h3 with
    | nil => exact .nil
    | cons a _ ih => exact .cons ⟨a.1, V1.ro_ok' a.2⟩ ih
  | _ => exact h
theorem WR.frz {hp' : Heap} (f : Frz hp hp') (h : WR G hp w) : WR G hp' w := by
  refine ⟨h.mu, fun k o ho => ?_, fun k k' b hk hk' => h.inj k k' b (f.1 ▸ hk) (f.1 ▸ hk'), h.lo⟩
  have hk : k < hp.length := f.1 ▸ lt_of_get ho
  obtain ⟨o1, h1⟩ : ∃ o1, hp[k]? = some o1 := ⟨hp[k], List.getElem?_eq_getElem hk⟩
  rcases f.2 k o1 h1 with e | e
  · rw [e] at ho; cases ho; exact (h.ob k _ h1).frz f
  · rw [e] at ho; cases ho; exact ((h.ob k _ h1).frzO).frz f
theorem finishN_ok {G0 : Gh} {hp0 : Heap} {w0 : World} {m : Nat} {b : Bool} (hm : hp0.length = m) {v : AV} {r : AV × Heap} (h : finishN m b hp v = some r) (hw : WR G hp w) (sn : Sn G0 hp0 w0 G hp w) {x : Value} (hv : AR G hp v x) :
    ∃ G', AR G' r.2 r.1 x ∧ WR G' r.2 w ∧ Sn G0 hp0 w0 G' r.2 w := by
  simp only [finishN, Option.bind_eq_some_iff] at h
  obtain ⟨⟨v1, F⟩, hf, h⟩ := h
  split at h
  case isFalse => cases h
  rename_i hc
  simp only [Option.bind_eq_some_iff, Option.map_eq_some_iff] at h
  obtain ⟨v2, hv2, h', hr, rfl⟩ := h
  obtain ⟨haf, hF0⟩ := AV.freeze_ok hf hv
  have hF : Fok m hp F := fun k hk => by
    obtain ⟨h1, cs, h2⟩ := hF0 k hk
    refine ⟨?_, cs, h2⟩
    have := lt_of_get h2
    split at h1 <;> omega
  have hno : ∀ k ∈ F, k ∉ closeM m hp v1.refs := fun k hk hin => by
    have := List.all_eq_true.1 hc.2 k hk
    simp at this
    exact this hin
  obtain ⟨h1, _, h3, h4⟩ := drop_ok (closeM_nodup _ _ _) hr hw hF hno
  exact ⟨_, h3 _ _ _ haf hv2, h1, h4 _ _ _ sn (by rw [hm]; exact hc.1)⟩

theorem Sn.frz {G0 : Gh} {hp0 : Heap} {w0 : World} {hp' : Heap} (f : Frz hp hp') (hlow : ∀ k, k < hp0.length → hp'[k]? = hp[k]?) (sn : Sn G0 hp0 w0 G hp w) : Sn G0 hp0 w0 G hp' w :=
  ⟨sn.mu, sn.muNew, fun k b hk => sn.bdNew k b (f.1 ▸ hk), sn.same, sn.size, fun k o ho => by
    obtain ⟨o', h1, h2⟩ := sn.kind k o ho
    exact ⟨o', by rw [hlow k (lt_of_get ho)]; exact h1, h2⟩, sn.io, sn.lo⟩
theorem finish_ok {G0 : Gh} {hp0 : Heap} {w0 : World} {m : Nat} {b : Bool} (hm : hp0.length = m) {v : AV} {r : AV × Heap} (h : finish m b hp v = some r) (hw : WR G hp w) (sn : Sn G0 hp0 w0 G hp w) {x : Value} (hv : AR G hp v x) :
    ∃ G', AR G' r.2 r.1 x ∧ WR G' r.2 w ∧ Sn G0 hp0 w0 G' r.2 w := by
  unfold finish at h
  cases b with
  | true => exact finishN_ok hm h hw sn hv
  | false =>
    have f := frzH_frz m hp
    exact finishN_ok hm h (hw.frz f) (sn.frz f fun k hk => by
      show (frzH m hp)[k]? = hp[k]?
      rw [frzH_get]
      cases hp[k]? with
      | none => rfl
      | some o => show some (if k < m then o else o.frz) = some o; rw [if_pos (by omega)]) (hv.frz f)

theorem listOf_append {x : C} {es : List (List D)} (ext : Heap) (h : listOf hp x = some es) : listOf (hp ++ ext) x = some es := by
  cases x with
  | slc k off sz len cap =>
    simp only [listOf, slcCells] at h ⊢
    cases hk : hp[k]? with
    | none => rw [hk] at h; simp at h
    | some o => rw [List.getElem?_append_left (lt_of_get hk), hk]; rw [hk] at h; exact h
  | d x => exact h
  | own nl es k => exact h
  | _ => simp [listOf, C.list] at h

theorem AF.ext {F : List Nat} {G' : Gh} {e : Heap} (sn : Sn G hp w G' (hp ++ e) w) {x : AV} {v : Value} (h : AF F G hp x v) : AF F G' (hp ++ e) x v := by
  have cf : ∀ x v, CF F G hp x v → CF F G' (hp ++ e) x v := by
    rintro x v (h | ⟨k, off, sz, len, cap, es, hk, rfl, hc, hes⟩)
    · exact .inl (h.mono sn)
    · exact .inr ⟨k, off, sz, len, cap, es, hk, rfl, hc.mono sn, listOf_append e hes⟩
  have vf : ∀ x v, VF F G hp x v → VF F G' (hp ++ e) x v := by
    intro x v h
    cases x with
    | c x => exact cf _ _ h
    | agg cs => obtain ⟨vs, hv, r⟩ := h; exact ⟨vs, hv, r.mono cf⟩
  cases x with
  | v x => exact vf _ _ h
  | tup xs => obtain ⟨vs, hv, r⟩ := h; exact ⟨vs, hv, r.mono vf⟩
  | dead => trivial

theorem coerce_ok {m : Nat} {co : Co} {x : AV} {r : AV × Heap × List Nat} (h : coerce m hp co x = some r) {v : Value} (hw : WR G hp w) (hv : AR G hp x v) :
    ∃ G' e, r.2.1 = hp ++ e ∧ WR G' (hp ++ e) w ∧ Sn G hp w G' (hp ++ e) w ∧ AF r.2.2 G' (hp ++ e) r.1 v ∧ Fok m (hp ++ e) r.2.2 := by
  have same : ∀ (y : AV), AR G hp y v → r = (y, hp, []) → ∃ G' e, r.2.1 = hp ++ e ∧ WR G' (hp ++ e) w ∧ Sn G hp w G' (hp ++ e) w ∧ AF r.2.2 G' (hp ++ e) r.1 v ∧ Fok m (hp ++ e) r.2.2 := by
    rintro y hy rfl
    refine ⟨G, [], by simp, ?_, ?_, ?_, by simp [Fok]⟩ <;> rw [List.append_nil]
    · exact hw
    · exact Sn.refl _ _ _
    · exact AR.af hy
  unfold coerce at h
  split at h
  · rename_i c
    simp only [Option.map_eq_some_iff] at h
    obtain ⟨q, hq, rfl⟩ := h
    unfold coerceC at hq
    split at hq
    · rename_i nl es k; cases hq; exact same (.v (.c (.d (.lst nl es)))) (show DR _ _ _ from hv.1) rfl
    · simp only [Option.map_eq_some_iff] at hq
      obtain ⟨q2, hq2, rfl⟩ := hq
      obtain ⟨h1, h2⟩ := C.freeze_ok hq2 hv
      refine ⟨G, [], by simp, ?_, ?_, ?_, ?_⟩ <;> rw [List.append_nil]
      · exact hw
      · exact Sn.refl _ _ _
      · exact h1
      · exact h2
    · cases hq
      obtain ⟨G', hw', sn, hb, hmu⟩ := name_ok (n := 0) hw
      refine ⟨G', [.row 0 0], rfl, hw', sn, ?_, by simp [Fok]⟩
      obtain ⟨ad, cap, sz, vs, rfl, h1, h2, h3, _⟩ := DR.inv hv
      have had : ad = none := by cases ad <;> simp at h2 ⊢
      have hc0 := h3 had
      subst had hc0
      exact .inl ⟨DR.nil, 0, 0, by simp, Nat.le_refl _, fun _ => by rw [hb]; exact ⟨none, rfl⟩⟩
    · cases hq; exact same _ hv rfl
  · cases h; exact same _ hv rfl

theorem coerceAll_ok {m : Nat} {s : Nat → AV} {tmps : Array Value} : ∀ {L : List (Nat × Co)} {G : Gh} {hp : Heap} {r : List AV × Heap × List Nat}, coerceAll m s L hp = some r → WR G hp w → SR G hp s tmps →
    ∃ G' e, r.2.1 = hp ++ e ∧ WR G' (hp ++ e) w ∧ Sn G hp w G' (hp ++ e) w ∧ All2 (fun (p : Nat × Co) y => AF r.2.2 G' (hp ++ e) y (tmps.getD p.1 undef)) L r.1 ∧ Fok m (hp ++ e) r.2.2 := by
  intro L
  induction L with
  | nil =>
    intro G hp r h hw hs
    simp only [coerceAll, Option.some.injEq] at h
    subst h
    refine ⟨G, [], by simp, ?_, ?_, .nil, by simp [Fok]⟩ <;> rw [List.append_nil]
    · exact hw
    · exact Sn.refl _ _ _
  | cons p L ih =>
    intro G hp r h hw hs
    obtain ⟨i, co⟩ := p
    simp only [coerceAll, Option.bind_eq_some_iff, Option.map_eq_some_iff] at h
    obtain ⟨x, hx, y, hy, rfl⟩ := h
    obtain ⟨G1, e1, q1, q2, q3, q4, q5⟩ := coerce_ok hx hw (hs i)
    rw [q1] at hy
    obtain ⟨G2, e2, p1, p2, p3, p4, p5⟩ := ih hy q2 (fun t => (hs t).mono q3)
    refine ⟨G2, e1 ++ e2, by simp [p1], ?_, ?_, ?_, ?_⟩ <;> rw [← List.append_assoc]
    · exact p2
    · exact q3.trans p3
    · exact .cons ((AF.ext p3 q4).mem fun k hk => List.mem_append_left _ hk) (p4.mono fun _ _ r => r.mem fun k hk => List.mem_append_right _ hk)
    · refine Fok.append (fun k hk => ?_) p5
      obtain ⟨a1, cs, a2⟩ := q5 k hk
      exact ⟨a1, cs, by rw [List.getElem?_append_left (lt_of_get a2)]; exact a2⟩

theorem slots_rel {tmps : Array Value} : ∀ {L : List (Nat × Co)} {vs : List AV}, All2 (fun (p : Nat × Co) y => AR G hp y (tmps.getD p.1 undef)) L vs → SR G hp (slots L vs) tmps := by
  intro L vs h
  induction h with
  | nil => intro t; trivial
  | cons a _ ih =>
    rename_i p y _ _ _
    intro t
    simp only [slots, upd]
    split
    · rename_i e; subst e; exact a
    · exact ih t

theorem canon_ok {n m : Nat} {G0 : Gh} {hp0 : Heap} {w0 : World} (hm : hp0.length = m) {L : List (Nat × Co)} {st : St} {r : List AV × Heap} (h : canon m L st = some r) {a : Act} (hi : Inv n G0 hp0 w0 st a w) :
    Inv n G0 hp0 w0 ⟨slots L r.1, r.2⟩ a w := by
  simp only [canon, Option.bind_eq_some_iff] at h
  obtain ⟨⟨vs, hp1, F⟩, hc, h⟩ := h
  split at h
  case isFalse => cases h
  rename_i hcond
  simp only [Option.bind_eq_some_iff, Option.map_eq_some_iff] at h
  obtain ⟨vs', hvs', h', hr, rfl⟩ := h
  obtain ⟨⟨G, hs, hw, sn⟩, hsz, hdef⟩ := hi
  obtain ⟨G1, e, q1, q2, q3, q4, q5⟩ := coerceAll_ok hc hw hs
  simp only at q1 q4 q5 hr hcond hvs'
  subst q1
  have hno : ∀ k ∈ F, k ∉ closeM m (st.hp ++ e) (vs.flatMap AV.refs) := fun k hk hin => by
    have := List.all_eq_true.1 hcond.2 k hk
    simp at this
    exact this hin
  obtain ⟨h1, _, h3, h4⟩ := drop_ok (closeM_nodup _ _ _) hr q2 q5 hno
  refine ⟨⟨_, slots_rel ?_, h1, h4 _ _ _ (sn.trans q3) (by rw [hm]; exact hcond.1)⟩, hsz, hdef⟩
  have h2 := mapM_all2 hvs'
  exact All2.comp (T := fun (p : Nat × Co) y => AR _ h' y (a.tmps.getD p.1 undef)) (fun p y y' ha hb => h3 y y' _ ha hb) q4 h2

end

def Ex.conv : Ex → Exit
  | .normal => .normal
  | .exit i => .exit i
  | .goto l => .goto l
  | .ret => .ret

/-- repeated rounds, as many as are told -/
def ItP (it : It) : Prop := ∀ g x y, it g x = some y → ∃ k, itN k g x = some y

section
variable {E : Env} {f : FuncId} {m n : Nat} {call : Caller} {it : It} {G0 : Gh} {hp0 : Heap} {w0 : World}

theorem arr_map {P : Program} {mch : Machine} {b : Frame} {k : List Item} {cs : List Frame} {e : Exit} {a : Act} {w : World} (h : Arrives P mch b k cs e a w) : Arrives P mch b k cs e a w := h

theorem den_ok (he : EnvOk E) (hcall : ∀ g, CallP E g (call g)) (hb0 : BaseOk E G0) (hit : ItP it) (hm : hp0.length = m) : ∀ (c : Code), codeOk n c = true →
    (∀ st ex st' a w, den E f m call it c none st = some (ex, st') → Inv n G0 hp0 w0 st a w → c.wp E.P (fun e a' w' => e = ex.conv ∧ Inv n G0 hp0 w0 st' a' w') a w) ∧
    (∀ l rest st ex st' a w, findLabel c l = some rest → den E f m call it c (some l) st = some (ex, st') → Inv n G0 hp0 w0 st a w → rest.wp E.P (fun e a' w' => e = ex.conv ∧ Inv n G0 hp0 w0 st' a' w') a w) := by
  intro c
  induction c with
  | skip =>
    intro _
    refine ⟨fun st ex st' a w h hi => ?_, fun l rest st ex st' a w hl => by simp [findLabel] at hl⟩
    simp only [den, Option.some.injEq, Prod.mk.injEq] at h
    obtain ⟨rfl, rfl⟩ := h
    exact wp_skip ⟨rfl, hi⟩
  | region id ops draw =>
    intro hok
    refine ⟨fun st ex st' a w h hi => ?_, fun l rest st ex st' a w hl => by simp [findLabel] at hl⟩
    cases draw with
    | false =>
      simp only [den, Option.map_eq_some_iff, Prod.mk.injEq] at h
      obtain ⟨st2, h2, rfl, rfl⟩ := h
      refine wp_region ?_
      have := runOps_ok (Q := fun e a' w' => e = Ex.conv .normal ∧ Inv n G0 hp0 w0 st2 a' w') he hcall hb0 hok ops.toList 0 st a w (by simp) h2 hi (fun a' w' hi' => ⟨rfl, hi'⟩)
      rwa [List.range_eq_range', ← Array.length_toList]
    | true =>
      simp only [den] at h
      split at h
      case isFalse => cases h
      rename_i hd
      simp only [Option.map_eq_some_iff, Prod.mk.injEq] at h
      obtain ⟨st2, h2, rfl, rfl⟩ := h
      exact runDraw_ok he hcall hb0 hok hd h2 hi fun a' w' hi' => ⟨rfl, hi'⟩
  | seq x y ihx ihy =>
    intro hok
    simp only [codeOk, Bool.and_eq_true] at hok
    obtain ⟨hx, hx'⟩ := ihx hok.1
    obtain ⟨hy, hy'⟩ := ihy hok.2
    have join : ∀ (r : Option (Ex × St)) ex st' (z : Code) a w, (∀ ex1 st1, r = some (ex1, st1) → z.wp E.P (fun e a' w' => e = ex1.conv ∧ Inv n G0 hp0 w0 st1 a' w') a w) → r ≠ none →
        (∀ st1, r = some (.normal, st1) → den E f m call it y none st1 = some (ex, st')) → (∀ ex1 st1, r = some (ex1, st1) → ex1 ≠ .normal → ex1 = ex ∧ st1 = st') →
        (Code.seq z y).wp E.P (fun e a' w' => e = ex.conv ∧ Inv n G0 hp0 w0 st' a' w') a w := by
      intro r ex st' z a w hz hne h1 h2
      refine wp_seq ?_
      cases r with
      | none => exact (hne rfl).elim
      | some q =>
        obtain ⟨ex1, st1⟩ := q
        refine wp_mono (hz ex1 st1 rfl) ?_
        rintro e a' w' ⟨rfl, hi'⟩
        by_cases hn : ex1 = .normal
        · subst hn; exact hy _ _ _ _ _ (h1 st1 rfl) hi'
        · obtain ⟨rfl, rfl⟩ := h2 ex1 st1 rfl hn
          cases ex1 <;> first | exact (hn rfl).elim | exact ⟨rfl, hi'⟩
    have split : ∀ (r : Option (Ex × St)) ex st', (match r with | some (.normal, st1) => den E f m call it y none st1 | r => r) = some (ex, st') →
        r ≠ none ∧ (∀ st1, r = some (.normal, st1) → den E f m call it y none st1 = some (ex, st')) ∧ (∀ ex1 st1, r = some (ex1, st1) → ex1 ≠ .normal → ex1 = ex ∧ st1 = st') := by
      intro r ex st' h
      cases r with
      | none => simp at h
      | some q =>
        obtain ⟨ex1, st1⟩ := q
        refine ⟨by simp, fun st2 e => ?_, fun ex2 st2 e hn => ?_⟩
        · cases e; exact h
        · cases e
          cases ex1 <;> first | exact (hn rfl).elim | (simp only [Option.some.injEq, Prod.mk.injEq] at h; exact h)
    refine ⟨fun st ex st' a w h hi => ?_, fun l rest st ex st' a w hl h hi => ?_⟩
    · simp only [den] at h
      obtain ⟨q1, q2, q3⟩ := split (den E f m call it x none st) ex st' (by rw [← h]; cases den E f m call it x none st with | none => rfl | some q => obtain ⟨e, s⟩ := q; cases e <;> rfl)
      exact join _ ex st' x a w (fun ex1 st1 e => hx _ _ _ _ _ e hi) q1 q2 q3
    · simp only [findLabel] at hl
      cases hf : findLabel x l with
      | some rx =>
        rw [hf] at hl
        simp only [Option.some.injEq] at hl
        subst hl
        simp only [den, hasLabel, hf, Option.isSome_some, if_true] at h
        obtain ⟨q1, q2, q3⟩ := split (den E f m call it x (some l) st) ex st' (by rw [← h]; cases den E f m call it x (some l) st with | none => rfl | some q => obtain ⟨e, s⟩ := q; cases e <;> rfl)
        exact join _ ex st' rx a w (fun ex1 st1 e => hx' l rx _ _ _ _ _ hf e hi) q1 q2 q3
      | none =>
        rw [hf] at hl
        simp only [den, hasLabel, hf, Option.isSome_none, Bool.false_eq_true, if_false] at h
        exact hy' l rest _ _ _ _ _ hl h hi
  | cond c x y ihx ihy =>
    intro hok
    simp only [codeOk, Bool.and_eq_true] at hok
    refine ⟨fun st ex st' a w h hi => ?_, fun l rest st ex st' a w hl => by simp [findLabel] at hl⟩
    simp only [den] at h
    split at h
    · rename_i b hb
      obtain ⟨⟨G, hs, hw, sn⟩, hsz, hdef⟩ := hi
      have hv : a.eval c = .bool b := by have := ev_rel hs hb; generalize a.eval c = z at this; cases this; rfl
      refine wp_cond hv ?_
      cases b
      · exact (ihy hok.2).1 _ _ _ _ _ (by simpa using h) ⟨⟨G, hs, hw, sn⟩, hsz, hdef⟩
      · exact (ihx hok.1).1 _ _ _ _ _ (by simpa using h) ⟨⟨G, hs, hw, sn⟩, hsz, hdef⟩
    · cases h
  | block id c ih =>
    intro hok
    simp only [codeOk] at hok
    refine ⟨fun st ex st' a w h hi => ?_, fun l rest st ex st' a w hl => by simp [findLabel] at hl⟩
    simp only [den] at h
    refine wp_block ?_
    cases hd : den E f m call it c none st with
    | none => rw [hd] at h; simp at h
    | some q =>
      obtain ⟨ex1, st1⟩ := q
      rw [hd] at h
      refine wp_mono ((ih hok).1 _ _ _ _ _ hd hi) ?_
      rintro e a' w' ⟨rfl, hi'⟩
      cases ex1 with
      | exit i =>
        simp only at h
        split at h
        · rename_i e
          simp only [Option.some.injEq, Prod.mk.injEq] at h
          obtain ⟨rfl, rfl⟩ := h
          simp [Exit.inBlock, Ex.conv, e, hi']
        · rename_i e
          simp only [Option.some.injEq, Prod.mk.injEq] at h
          obtain ⟨rfl, rfl⟩ := h
          simp [Exit.inBlock, Ex.conv, e, hi']
      | _ => simp only [Option.some.injEq, Prod.mk.injEq] at h; obtain ⟨rfl, rfl⟩ := h; exact ⟨rfl, hi'⟩
  | loop c ih =>
    intro hok
    simp only [codeOk] at hok
    refine ⟨fun st ex st' a w h hi => ?_, fun l rest st ex st' a w hl => by simp [findLabel] at hl⟩
    simp only [den, Option.bind_eq_some_iff] at h
    obtain ⟨⟨vs, h0⟩, hc, h⟩ := h
    obtain ⟨k, hk⟩ := hit _ _ _ h
    have hi0 := canon_ok hm hc hi
    clear hc h hi
    intro b kk cs
    have key : ∀ k (x : X) a w, itN k (fun (_, vs, h) =>
        match den E f m call it c none ⟨slots (E.live f ((firstRegion c).getD 0)) vs, h⟩ with
        | some (.normal, st') => (canon m (E.live f ((firstRegion c).getD 0)) st').map fun (vs, h) => .inl (none, vs, h)
        | some r => some (.inr r)
        | none => none) x = some (ex, st') → Inv n G0 hp0 w0 ⟨slots (E.live f ((firstRegion c).getD 0)) x.2.1, x.2.2⟩ a w →
        ∃ e a' w', (e = ex.conv ∧ Inv n G0 hp0 w0 st' a' w') ∧ Arrives E.P (lone (b.at a (.code c :: .inLoop c :: kk)) cs w) b kk cs e a' w' := by
      intro k
      induction k with
      | zero => intro x a w h; simp [itN] at h
      | succ k ihk =>
        intro x a w h hi
        obtain ⟨fr, vs, h0⟩ := x
        simp only [itN] at h
        cases hd : den E f m call it c none ⟨slots (E.live f ((firstRegion c).getD 0)) vs, h0⟩ with
        | none => rw [hd] at h; simp at h
        | some q =>
          obtain ⟨ex1, st1⟩ := q
          obtain ⟨e, a₁, w₁, ⟨rfl, hi1⟩, harr⟩ := (ih hok).1 _ _ _ _ _ hd hi b (.inLoop c :: kk) cs
          rw [hd] at h
          cases ex1 with
          | normal =>
            cases hcn : canon m (E.live f ((firstRegion c).getD 0)) st1 with
            | none => simp [hcn] at h
            | some q2 =>
              obtain ⟨vs2, h2⟩ := q2
              simp only [hcn, Option.map_some] at h
              obtain ⟨e₂, a₂, w₂, hq₂, harr₂⟩ := ihk _ a₁ w₁ h (canon_ok hm hcn hi1)
              exact ⟨e₂, a₂, w₂, hq₂, .of_steps (Steps.trans harr (.one step_inLoop)) harr₂⟩
          | exit i =>
            simp only [Option.some.injEq, Prod.mk.injEq] at h
            obtain ⟨rfl, rfl⟩ := h
            exact ⟨_, a₁, w₁, ⟨rfl, hi1⟩, .pass (x := .inLoop c) rfl (fun _ _ => .inl (by simp [Ex.conv])) harr⟩
          | goto i =>
            simp only [Option.some.injEq, Prod.mk.injEq] at h
            obtain ⟨rfl, rfl⟩ := h
            exact ⟨_, a₁, w₁, ⟨rfl, hi1⟩, .pass (x := .inLoop c) rfl (fun _ _ => .inl (by simp [Ex.conv])) harr⟩
          | ret =>
            simp only [Option.some.injEq, Prod.mk.injEq] at h
            obtain ⟨rfl, rfl⟩ := h
            exact ⟨_, a₁, w₁, ⟨rfl, hi1⟩, .pass (x := .inLoop c) rfl (fun _ _ => .inl (by simp [Ex.conv])) harr⟩
    obtain ⟨e, a', w', hq, harr⟩ := key k _ a w hk hi0
    exact ⟨e, a', w', hq, .of_steps (.one step_loop) harr⟩
  | scope c ih =>
    intro hok
    simp only [codeOk] at hok
    refine ⟨fun st ex st' a w h hi => ?_, fun l rest st ex st' a w hl => by simp [findLabel] at hl⟩
    simp only [den, Option.bind_eq_some_iff] at h
    obtain ⟨⟨vs, h0⟩, hc, h⟩ := h
    obtain ⟨k, hk⟩ := hit _ _ _ h
    have hi0 := canon_ok hm hc hi
    clear hc h hi
    intro b kk cs
    have key : ∀ k (x : X) (start : Code) a w, (match x.1 with | none => start = c | some l => findLabel c l = some start) → itN k (fun (from_, vs, h) =>
        match den E f m call it c from_ ⟨slots (E.live f ((firstRegion c).getD 0)) vs, h⟩ with
        | some (.goto l, st') => if hasLabel c l then (canon m (E.live f ((firstRegion c).getD 0)) st').map fun (vs, h) => .inl (some l, vs, h) else some (.inr (.goto l, st'))
        | some r => some (.inr r)
        | none => none) x = some (ex, st') → Inv n G0 hp0 w0 ⟨slots (E.live f ((firstRegion c).getD 0)) x.2.1, x.2.2⟩ a w →
        ∃ e a' w', (e = ex.conv ∧ Inv n G0 hp0 w0 st' a' w') ∧ Arrives E.P (lone (b.at a (.code start :: .inScope c :: kk)) cs w) b kk cs e a' w' := by
      intro k
      induction k with
      | zero => intro x start a w _ h; simp [itN] at h
      | succ k ihk =>
        intro x start a w hst h hi
        obtain ⟨fr, vs, h0⟩ := x
        simp only [itN] at h
        cases hd : den E f m call it c fr ⟨slots (E.live f ((firstRegion c).getD 0)) vs, h0⟩ with
        | none => rw [hd] at h; simp at h
        | some q =>
          obtain ⟨ex1, st1⟩ := q
          have hwp : start.wp E.P (fun e a' w' => e = ex1.conv ∧ Inv n G0 hp0 w0 st1 a' w') a w := by
            cases fr with
            | none => simp only at hst; subst hst; exact (ih hok).1 _ _ _ _ _ hd hi
            | some l => exact (ih hok).2 l start _ _ _ _ _ hst hd hi
          obtain ⟨e, a₁, w₁, ⟨rfl, hi1⟩, harr⟩ := hwp b (.inScope c :: kk) cs
          rw [hd] at h
          cases ex1 with
          | goto l =>
            by_cases hl : hasLabel c l = true
            · obtain ⟨rest, hrest⟩ := Option.isSome_iff_exists.1 hl
              simp only [hl, if_true] at h
              cases hcn : canon m (E.live f ((firstRegion c).getD 0)) st1 with
              | none => simp [hcn] at h
              | some q2 =>
                obtain ⟨vs2, h2⟩ := q2
                simp only [hcn, Option.map_some] at h
                obtain ⟨e₂, a₂, w₂, hq₂, harr₂⟩ := ihk _ rest a₁ w₁ hrest h (canon_ok hm hcn hi1)
                exact ⟨e₂, a₂, w₂, hq₂, .of_steps (harr _ (by simp [gotoIn, hrest])) harr₂⟩
            · simp only [hl, if_false, Bool.false_eq_true] at h
              simp only [Option.some.injEq, Prod.mk.injEq] at h
              obtain ⟨rfl, rfl⟩ := h
              have hno : findLabel c l = none := by simpa [hasLabel] using hl
              exact ⟨_, a₁, w₁, ⟨rfl, hi1⟩, fun k' hk' => harr k' (by simp [gotoIn, hno, hk'])⟩
          | normal =>
            simp only [Option.some.injEq, Prod.mk.injEq] at h
            obtain ⟨rfl, rfl⟩ := h
            exact ⟨.normal, a₁, w₁, ⟨rfl, hi1⟩, Steps.trans harr (.one step_inScope)⟩
          | exit i =>
            simp only [Option.some.injEq, Prod.mk.injEq] at h
            obtain ⟨rfl, rfl⟩ := h
            exact ⟨.exit i, a₁, w₁, ⟨rfl, hi1⟩, fun k' hk' => harr k' (by simp [exitTo, hk'])⟩
          | ret =>
            simp only [Option.some.injEq, Prod.mk.injEq] at h
            obtain ⟨rfl, rfl⟩ := h
            exact ⟨.ret, a₁, w₁, ⟨rfl, hi1⟩, harr⟩
    obtain ⟨e, a', w', hq, harr⟩ := key k _ c a w rfl hk hi0
    exact ⟨e, a', w', hq, .of_steps (.one step_scope) harr⟩
  | label l' =>
    intro _
    refine ⟨fun st ex st' a w h hi => ?_, fun l rest st ex st' a w hl h hi => ?_⟩
    · simp only [den, Option.some.injEq, Prod.mk.injEq] at h
      obtain ⟨rfl, rfl⟩ := h
      exact wp_label ⟨rfl, hi⟩
    · simp only [findLabel] at hl
      simp only [den] at h
      split at h
      · rename_i e
        subst e
        simp at hl
        subst hl
        simp only [Option.some.injEq, Prod.mk.injEq] at h
        obtain ⟨rfl, rfl⟩ := h
        exact wp_skip ⟨rfl, hi⟩
      · cases h
  | exit id =>
    intro _
    refine ⟨fun st ex st' a w h hi => ?_, fun l rest st ex st' a w hl => by simp [findLabel] at hl⟩
    simp only [den, Option.some.injEq, Prod.mk.injEq] at h
    obtain ⟨rfl, rfl⟩ := h
    exact wp_exit ⟨rfl, hi⟩
  | goto l' =>
    intro _
    refine ⟨fun st ex st' a w h hi => ?_, fun l rest st ex st' a w hl => by simp [findLabel] at hl⟩
    simp only [den, Option.some.injEq, Prod.mk.injEq] at h
    obtain ⟨rfl, rfl⟩ := h
    exact wp_goto ⟨rfl, hi⟩
  | ret =>
    intro _
    refine ⟨fun st ex st' a w h hi => ?_, fun l rest st ex st' a w hl => by simp [findLabel] at hl⟩
    simp only [den, Option.some.injEq, Prod.mk.injEq] at h
    obtain ⟨rfl, rfl⟩ := h
    exact wp_ret ⟨rfl, hi⟩
  | rangeFunc f' ps x y _ _ => intro hok; simp [codeOk] at hok
  | refuse why =>
    intro _
    refine ⟨fun st ex st' a w h hi => ?_, fun l rest st ex st' a w hl => by simp [findLabel] at hl⟩
    simp [den] at h

/-! ### calls -/
theorem slotsOf_rel {G : Gh} {hp : Heap} {args : List V1} {vs : List Value} (h : All2 (VR G hp) args vs) (k : Nat) : SR G hp (slotsOf args) (vs.toArray ++ Array.replicate k undef) := by
  intro t
  simp only [slotsOf]
  cases ha : args[t]? with
  | none => trivial
  | some x =>
    obtain ⟨v, hv, r⟩ := h.get ha
    have hlt := lt_of_get hv
    have : (vs.toArray ++ Array.replicate k undef).getD t undef = v := by
      rw [Array.getD_eq_getD_getElem?, Array.getElem?_append_left (by simpa using hlt)]
      simp [hv]
    rw [this]
    exact r

theorem resultA_ok {P : Program} {G : Gh} {hp : Heap} {w : World} {s : Nat → AV} {tmps : Array Value} (hw : WR G hp w) (hs : SR G hp s tmps) {r : ResultVar} {x : V1} (h : resultA s hp P r = some x) :
    ∃ v, (match r with | .tmp t => pure (tmps.getD t undef) | .cell a t => do loadVar t (← asAddr (tmps.getD a undef)) : Sem Value).run P w = .ok v w ∧ VR G hp x v := by
  cases r with
  | tmp t =>
    simp only [resultA] at h
    split at h
    · rename_i y hy
      cases h
      have := hs t
      rw [hy] at this
      exact ⟨_, rfl, this⟩
    · cases h
  | cell ad t =>
    simp only [resultA, Option.bind_eq_bind, Option.bind_eq_some_iff] at h
    obtain ⟨n, hn, g, hg, h⟩ := h
    split at h
    · rename_i k off hk
      split at h
      · rename_i cs hcs
        split at h
        · rename_i hc
          have hr := hs ad
          rw [hk] at hr
          obtain ⟨b, hib, hv⟩ := hr
          obtain ⟨l, hl, r, hcell⟩ := read_cells hw hcs (hib.at hcs) hc.1
          refine ⟨valOf g l, ?_, mkV_rel h r⟩
          simp only [hv, asAddr, pure_bind]
          exact run_loadVar' hn hg hl hc.2 hcell
        · cases h
      · cases h
    · cases h

theorem resultsA_ok {P : Program} {G : Gh} {hp : Heap} {w : World} {s : Nat → AV} {tmps : Array Value} (hw : WR G hp w) (hs : SR G hp s tmps) {fn : Func} {x : AV} (h : resultsA fn s hp P = some x) :
    ∃ v, (results fn tmps).run P w = .ok v w ∧ AR G hp x v := by
  simp only [resultsA, Option.map_eq_some_iff] at h
  obtain ⟨xs, hxs, rfl⟩ := h
  have key : ∀ (l : List ResultVar) (xs : List V1), l.mapM (resultA s hp P) = some xs → ∃ vs : List Value, (l.mapM fun r => (match r with | .tmp t => pure (tmps.getD t undef) | .cell a t => do loadVar t (← asAddr (tmps.getD a undef)) : Sem Value) : Sem (List Value)).run P w = .ok vs w ∧ All2 (VR G hp) xs vs := by
    intro l
    induction l with
    | nil => intro xs h; simp at h; subst h; exact ⟨[], rfl, .nil⟩
    | cons r l ih =>
      intro xs h
      simp only [List.mapM_cons, Option.bind_eq_bind, Option.bind_eq_some_iff, Option.pure_def, Option.some.injEq] at h
      obtain ⟨x, hx, ys, hys, rfl⟩ := h
      obtain ⟨v, hv, hr⟩ := resultA_ok hw hs hx
      obtain ⟨vs, hvs, hr2⟩ := ih ys hys
      refine ⟨v :: vs, ?_, .cons hr hr2⟩
      simp only [List.mapM_cons, Sem.run_bind, hv, Result.andThen_ok, hvs, Sem.run_pure]
  obtain ⟨vs, hvs, hr⟩ := key _ _ hxs
  have hmap : (fn.results.mapM fun r => (match r with | .tmp t => pure (tmps.getD t undef) | .cell a t => do loadVar t (← asAddr (tmps.getD a undef)) : Sem Value) : Sem (Array Value)).run P w = .ok vs.toArray w := by
    rw [Array.mapM_eq_mapM_toList, Sem.run_map, hvs]
    rfl
  refine ⟨if h : vs.toArray.size = 1 then vs.toArray[0] else .tuple vs.toArray, ?_, ?_⟩
  · simp only [results, Sem.run_bind]
    erw [hmap]
    rfl
  · cases hr with
    | nil => exact ⟨[], rfl, .nil⟩
    | cons a t =>
      cases t with
      | nil => exact a
      | cons b t => exact ⟨_, by simp, .cons a (.cons b t)⟩

theorem callBody_ok (he : EnvOk E) (hcall : ∀ g, CallP E g (call g)) (hit : ItP it) (g : FuncId) : CallP E g (callBody E call it g) := by
  intro args hp v h' h G w vs hbase hw ha
  simp only [callBody] at h
  split at h
  case h_2 => cases h
  rename_i fn hf
  split at h
  case h_2 => cases h
  rename_i body hb
  split at h
  case isFalse => cases h
  rename_i hc
  simp only [Bool.and_eq_true, decide_eq_true_eq] at hc
  have hl := ha.length
  have fin : ∀ ex st, den E g hp.length call it body none ⟨slotsOf args, hp⟩ = some (ex, st) → (ex = .ret ∨ ex = .normal) → (resultsA fn st.sl st.hp E.P).bind (finish hp.length (E.hand g) st.hp) = some (v, h') →
      Calls E.P g vs.toArray w fun e w' => ∃ x G', e = .returned x ∧ AR G' h' v x ∧ WR G' h' w' ∧ Sn G hp w G' h' w' := by
    intro ex st hd hex hres
    simp only [Option.bind_eq_some_iff] at hres
    obtain ⟨r, hr, hfin⟩ := hres
    refine calls_of_wp hf hb ?_
    have hinv : Inv fn.ntmps G hp w ⟨slotsOf args, hp⟩ { tmps := vs.toArray ++ Array.replicate (fn.ntmps - vs.toArray.size) undef, defers := [] } w :=
      ⟨⟨G, slotsOf_rel ha _, hw, Sn.refl _ _ _⟩, by simp; omega, rfl⟩
    refine wp_mono ((den_ok he hcall hbase hit rfl body hc.1).1 _ _ _ _ _ hd hinv) ?_
    rintro e a' w' ⟨rfl, ⟨G1, hs1, hw1, sn1⟩, hsz, hdef⟩
    obtain ⟨x, hx, hxr⟩ := resultsA_ok hw1 hs1 hr
    obtain ⟨G2, q1, q2, q3⟩ := finish_ok rfl hfin hw1 sn1 hxr
    have : a'.defers = [] ∧ ∃ v_1, (results fn a'.tmps).run E.P w' = .ok v_1 w' ∧ (∃ x G', Ending.returned v_1 = .returned x ∧ AR G' h' v x ∧ WR G' h' w' ∧ Sn G hp w G' h' w') := ⟨hdef, x, hx, x, G2, rfl, q1, q2, q3⟩
    rcases hex with rfl | rfl
    · exact this
    · exact this
  split at h
  · rename_i st hd; exact fin _ _ hd (.inl rfl) h
  · rename_i st hd; exact fin _ _ hd (.inr rfl) h
  · cases h

theorem callN_ok (he : EnvOk E) : ∀ k g, CallP E g (callN E k g) := by
  intro k
  induction k with
  | zero => intro g args hp v h' h; simp [callN] at h
  | succ k ih =>
    intro g
    have := callBody_ok he ih (it := itN k) (fun gg x y h => ⟨k, h⟩) g
    intro args hp v h' h
    exact this args hp v h' h

end
end Go.Ab
