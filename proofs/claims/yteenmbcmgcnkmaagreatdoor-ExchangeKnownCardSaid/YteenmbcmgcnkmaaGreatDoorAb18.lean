/- A loop's head, and what is handed back: some slots live on, with the objects that they lead to. -/
import Derived.Test.YteenmbcmgcnkmaaGreatDoorAb17
set_option linter.unusedVariables false
set_option linter.unusedSimpArgs false
namespace Go.Ab
open Go

/-- a value read off an object that is given up -/
def CF (F : List Nat) (G : Gh) (hp : Heap) (x : C) (v : Value) : Prop :=
  CR G hp x v ∨ ∃ k off sz len cap es, k ∈ F ∧ x = .d (.lst false es) ∧ CR G hp (.slc k off sz len cap) v ∧ listOf hp (.slc k off sz len cap) = some es

def VF (F : List Nat) (G : Gh) (hp : Heap) : V1 → Value → Prop
  | .c x, v => CF F G hp x v
  | .agg cs, v => ∃ vs : List Value, v = .agg vs.toArray ∧ All2 (CF F G hp) cs vs
def AF (F : List Nat) (G : Gh) (hp : Heap) : AV → Value → Prop
  | .v x, v => VF F G hp x v
  | .tup xs, v => ∃ vs : List Value, v = .tuple vs.toArray ∧ All2 (VF F G hp) xs vs
  | .dead, _ => True

section
variable {F : List Nat} {G : Gh} {hp : Heap} {w : World}

theorem CF.mem {F' : List Nat} (h : ∀ k ∈ F, k ∈ F') {x : C} {v : Value} (r : CF F G hp x v) : CF F' G hp x v := by
  rcases r with r | ⟨k, off, sz, len, cap, es, hk, r⟩
  · exact .inl r
  · exact .inr ⟨k, off, sz, len, cap, es, h k hk, r⟩
theorem VF.mem {F' : List Nat} (h : ∀ k ∈ F, k ∈ F') {x : V1} {v : Value} (r : VF F G hp x v) : VF F' G hp x v := by
  cases x with
  | c x => exact CF.mem h r
  | agg cs => obtain ⟨vs, hv, r⟩ := r; exact ⟨vs, hv, r.mono fun _ _ => CF.mem h⟩
theorem AF.mem {F' : List Nat} (h : ∀ k ∈ F, k ∈ F') {x : AV} {v : Value} (r : AF F G hp x v) : AF F' G hp x v := by
  cases x with
  | v x => exact VF.mem h r
  | tup xs => obtain ⟨vs, hv, r⟩ := r; exact ⟨vs, hv, r.mono fun _ _ => VF.mem h⟩
  | dead => trivial

theorem CR.cf {x : C} {v : Value} (r : CR G hp x v) : CF F G hp x v := .inl r
theorem VR.vf {x : V1} {v : Value} (r : VR G hp x v) : VF F G hp x v := by
  cases x with
  | c x => exact CR.cf r
  | agg cs => obtain ⟨vs, hv, r⟩ := r; exact ⟨vs, hv, r.mono fun _ _ => CR.cf⟩
theorem AR.af {x : AV} {v : Value} (r : AR G hp x v) : AF F G hp x v := by
  cases x with
  | v x => exact VR.vf r
  | tup xs => obtain ⟨vs, hv, r⟩ := r; exact ⟨vs, hv, r.mono fun _ _ => VR.vf⟩
  | dead => trivial

/-- the names that may be given up: objects of cells, of the call's own -/
def Fok (m : Nat) (hp : Heap) (F : List Nat) : Prop := ∀ k ∈ F, m ≤ k ∧ ∃ cs, hp[k]? = some (.cells cs)

theorem C.freeze_ok {m : Nat} {x : C} {r : C × List Nat} (h : x.freeze hp m = some r) {v : Value} (hr : CR G hp x v) : CF r.2 G hp r.1 v ∧ Fok m hp r.2 := by
  cases x with
  | slc k off sz len cap =>
    simp only [C.freeze] at h
    split at h
    · cases h; exact ⟨.inl hr, by simp [Fok]⟩
    · rename_i hk
      simp only [Option.map_eq_some_iff] at h
      obtain ⟨es, hes, rfl⟩ := h
      refine ⟨.inr ⟨k, off, sz, len, cap, es, by simp, rfl, hr, hes⟩, fun j hj => ?_⟩
      simp only [List.mem_singleton] at hj
      subst hj
      refine ⟨by omega, ?_⟩
      simp only [listOf, slcCells, Option.bind_eq_some_iff] at hes
      obtain ⟨cs, hcs, _⟩ := hes
      split at hcs
      · rename_i cs' hk'; exact ⟨cs', hk'⟩
      · cases hcs
  | _ => simp only [C.freeze, Option.some.injEq] at h; subst h; exact ⟨.inl hr, by simp [Fok]⟩

theorem Fok.append {m : Nat} {A B : List Nat} (a : Fok m hp A) (b : Fok m hp B) : Fok m hp (A ++ B) := fun k hk => by
  rcases List.mem_append.1 hk with h | h
  · exact a k h
  · exact b k h

theorem freezeAll_ok {m : Nat} : ∀ {cs : List C} {r : List C × List Nat} {vs : List Value}, freezeAll hp m cs = some r → All2 (CR G hp) cs vs → All2 (CF r.2 G hp) r.1 vs ∧ Fok m hp r.2 := by
  intro cs
  induction cs with
  | nil => intro r vs h hr; simp only [freezeAll, Option.some.injEq] at h; subst h; cases hr; exact ⟨.nil, by simp [Fok]⟩
  | cons c cs ih =>
    intro r vs h hr
    simp only [freezeAll, Option.bind_eq_some_iff, Option.map_eq_some_iff] at h
    obtain ⟨q, hq, q2, hq2, rfl⟩ := h
    cases hr with
    | cons a t =>
      obtain ⟨h1, h2⟩ := C.freeze_ok hq a
      obtain ⟨h3, h4⟩ := ih hq2 t
      exact ⟨.cons (h1.mem fun k hk => List.mem_append_left _ hk) (h3.mono fun _ _ r => r.mem fun k hk => List.mem_append_right _ hk), h2.append h4⟩

theorem V1.freeze_ok {m : Nat} {x : V1} {r : V1 × List Nat} (h : x.freeze hp m = some r) {v : Value} (hr : VR G hp x v) : VF r.2 G hp r.1 v ∧ Fok m hp r.2 := by
  cases x with
  | c x =>
    simp only [V1.freeze, Option.map_eq_some_iff] at h
    obtain ⟨q, hq, rfl⟩ := h
    exact C.freeze_ok hq hr
  | agg cs =>
    simp only [V1.freeze, Option.map_eq_some_iff] at h
    obtain ⟨q, hq, rfl⟩ := h
    obtain ⟨vs, hv, hr⟩ := hr
    obtain ⟨h1, h2⟩ := freezeAll_ok hq hr
    exact ⟨⟨vs, hv, h1⟩, h2⟩

theorem freezeVs_ok {m : Nat} : ∀ {cs : List V1} {r : List V1 × List Nat} {vs : List Value}, freezeVs hp m cs = some r → All2 (VR G hp) cs vs → All2 (VF r.2 G hp) r.1 vs ∧ Fok m hp r.2 := by
  intro cs
  induction cs with
  | nil => intro r vs h hr; simp only [freezeVs, Option.some.injEq] at h; subst h; cases hr; exact ⟨.nil, by simp [Fok]⟩
  | cons c cs ih =>
    intro r vs h hr
    simp only [freezeVs, Option.bind_eq_some_iff, Option.map_eq_some_iff] at h
    obtain ⟨q, hq, q2, hq2, rfl⟩ := h
    cases hr with
    | cons a t =>
      obtain ⟨h1, h2⟩ := V1.freeze_ok hq a
      obtain ⟨h3, h4⟩ := ih hq2 t
      exact ⟨.cons (h1.mem fun k hk => List.mem_append_left _ hk) (h3.mono fun _ _ r => r.mem fun k hk => List.mem_append_right _ hk), h2.append h4⟩

theorem AV.freeze_ok {m : Nat} {x : AV} {r : AV × List Nat} (h : x.freeze hp m = some r) {v : Value} (hr : AR G hp x v) : AF r.2 G hp r.1 v ∧ Fok m hp r.2 := by
  cases x with
  | v x =>
    simp only [AV.freeze, Option.map_eq_some_iff] at h
    obtain ⟨q, hq, rfl⟩ := h
    exact V1.freeze_ok hq hr
  | tup xs =>
    simp only [AV.freeze, Option.map_eq_some_iff] at h
    obtain ⟨q, hq, rfl⟩ := h
    obtain ⟨vs, hv, hr⟩ := hr
    obtain ⟨h1, h2⟩ := freezeVs_ok hq hr
    exact ⟨⟨vs, hv, h1⟩, h2⟩
  | dead => simp only [AV.freeze, Option.some.injEq] at h; subst h; exact ⟨trivial, by simp [Fok]⟩

/-! ### names and blocks given up -/
/-- the cells of the blocks that are given up are known from now on -/
noncomputable def dropG (F : List Nat) (G : Gh) (σ : List Nat) (w : World) : Gh :=
  open Classical in ⟨(subG G σ G.lo).β, fun b i => if ∃ k ∈ F, (G.β k).at b then w.cell? ⟨b, i, none⟩ else G.μ b i, G.lo⟩

theorem drop_ok {m : Nat} {σ : List Nat} {h : Heap} (hn : σ.Nodup) (hr : restrict σ hp = some h) (hw : WR G hp w) (hF : Fok m hp F) (hno : ∀ k ∈ F, k ∉ σ) :
    WR (dropG F G σ w) h w ∧ Up (subG G σ G.lo) h (dropG F G σ w) h ∧ (∀ x x' v, AF F G hp x v → x.ren (fun j => σ.idxOf? j) = some x' → AR (dropG F G σ w) h x' v) ∧
    (∀ (G0 : Gh) (hp0 : Heap) (w0 : World), Sn G0 hp0 w0 G hp w → σ.take hp0.length = List.range hp0.length → Sn G0 hp0 w0 (dropG F G σ w) h w) := by
  have hsub := sub_WR hw.lo hn hr hw
  have hFb : ∀ k ∈ F, ∀ b, (G.β k).at b → ∃ cs vs t fz, hp[k]? = some (.cells cs) ∧ w.heap[b]? = some (.cells vs t fz) ∧ cs.length ≤ vs.size ∧
      (∀ (i : Nat) c v, cs[i]? = some c → vs[i]? = some v → CR G hp c v) ∧ ∀ i, G.μ b i = none := fun k hk b hb => by
    obtain ⟨_, cs, hc⟩ := hF k hk
    obtain ⟨b', vs, t, fz, e, q1, q2, q3, q4, q5, _⟩ := hw.ob k _ hc
    cases Bd.at_inj hb e
    exact ⟨cs, vs, t, fz, hc, q1, q3, q4, q5⟩
  have mono : ∀ b i v, G.μ b i = some v → (dropG F G σ w).μ b i = some v := fun b i v hm => by
    classical
    simp only [dropG]
    split
    · rename_i hk
      obtain ⟨k, hk, hb⟩ := hk
      obtain ⟨_, _, _, _, _, _, _, _, q⟩ := hFb k hk b hb
      rw [q i] at hm
      cases hm
    · exact hm
  have up : Up (subG G σ G.lo) h (dropG F G σ w) h := ⟨mono, fun k o ho => ⟨o, ho, by cases o <;> simp [KR, dropG]⟩, rfl⟩
  -- a block that is given up is no name's of the rest
  have apart : ∀ i b, i < h.length → ((subG G σ G.lo).β i).at b → ¬ ∃ k ∈ F, (G.β k).at b := fun i b hi hat ⟨k, hk, hb⟩ => by
    rw [restrict_len hr] at hi
    have hs : σ[i]? = some σ[i] := List.getElem?_eq_getElem hi
    simp only [subG, hs] at hat
    obtain ⟨o1, _, q1, _⟩ := restrict_get hr hs
    obtain ⟨_, cs, hc⟩ := hF k hk
    have := hw.inj _ _ b (lt_of_get q1) (lt_of_get hc) hat hb
    exact hno k hk (this ▸ List.getElem_mem hi)
  have keep : ∀ i b j, i < h.length → ((subG G σ G.lo).β i).at b → (subG G σ G.lo).μ b j = none → (dropG F G σ w).μ b j = none := fun i b j hi hat hm => by
    classical
    simp only [dropG]
    rw [if_neg (apart i b hi hat)]
    exact hm
  have hwr : WR (dropG F G σ w) h w := by
    refine ⟨fun b i v hm => ?_, fun k o ho => ?_, hsub.inj, hw.lo⟩
    · classical
      simp only [dropG] at hm
      split at hm
      · exact hm
      · exact hw.mu b i v hm
    · have hk := lt_of_get ho
      have hob := hsub.ob k o ho
      have cr : ∀ {x v}, CR (subG G σ G.lo) h x v → CR (dropG F G σ w) h x v := fun r => r.up up
      cases o with
      | cells cs =>
        obtain ⟨b, vs, t, fz, h1, h2, h3, h4, h5, h6, h7⟩ := hob
        exact ⟨b, vs, t, fz, h1, h2, h3, h4, fun i c v hc hv => cr (h5 i c v hc hv), fun i => keep k b i hk h1 (h6 i), h7⟩
      | gone => exact hob
      | row n sz =>
        simp only [OR] at hob ⊢
        show (match (subG G σ G.lo).β k with | .none => True | .tail b o s c => _ | .blk _ => False)
        cases hb : (subG G σ G.lo).β k with
        | none => trivial
        | blk b => rw [hb] at hob; exact hob.elim
        | tail b o s c =>
          rw [hb] at hob
          obtain ⟨h0, h1, h2, h3, h4⟩ := hob
          exact ⟨h0, h1, h2, h3, fun i hi => keep k b i hk (by rw [hb]; rfl) (h4 i hi)⟩
      | amap kvs =>
        obtain ⟨b, es, c, h1, h2, h3, h4⟩ := hob
        exact ⟨b, es, c, h1, h2, h3.mono fun _ _ r => ⟨r.1, r.2.up up⟩, fun i => keep k b i hk (by rw [h1]; rfl) (h4 i)⟩
      | siter s p =>
        obtain ⟨b, h1, h2, h3⟩ := hob
        exact ⟨b, h1, h2, fun i => keep k b i hk (by rw [h1]; rfl) (h3 i)⟩
  -- values
  have cf : ∀ x x' v, CF F G hp x v → x.ren (fun j => σ.idxOf? j) = some x' → CR (dropG F G σ w) h x' v := by
    rintro x x' v (hc | ⟨k, off, sz, len, cap, es, hk, rfl, hc, hes⟩) hx
    · exact (CR.ren (sub_ren hr) hx hc).up up
    · simp only [C.ren, Option.some.injEq] at hx
      subst hx
      obtain ⟨b, c, off', hib, rfl, hlc, hcap, hoff, _⟩ := hc
      obtain ⟨_, cs0, hcs0⟩ := hF k hk
      have hb := hib.at hcs0
      obtain ⟨cs, vs, t, fz, q1, q2, q3, q4, q5⟩ := hFb k hk b hb
      simp only [listOf, slcCells, q1, Option.bind_eq_some_iff, Option.map_eq_some_iff] at hes
      obtain ⟨cells, hcells, ds, hds, rfl⟩ := hes
      split at hcells
      · rename_i hle
        cases hcells
        have hdl : ds.length = len * sz := by rw [mapM_len hds]; simp; omega
        have hmu : ∀ i, (dropG F G σ w).μ b i = vs[i]? := fun i => by
          classical
          simp only [dropG]
          rw [if_pos ⟨k, hk, hb⟩, cell_at q2]
        by_cases hz : c = 0
        · have hl0 : len = 0 := by omega
          subst hl0 hz
          exact DR.mk (nl := false) (es := []) rfl (Nat.le_refl _) (sz := sz) (by simp) (fun i j e c he => by simp at he)
        · have ho := hoff hz
          subst ho
          have key : DR (dropG F G σ w).μ (.lst false (chunk sz len ds)) (.slice (some ⟨b, off', none⟩) (chunk sz len ds).length c) := by
            refine DR.mk rfl (by rw [chunk_length]; exact hlc) (chunk_all (by omega)) fun i j e d he hd => ?_
            have hi := lt_of_get he
            rw [chunk_length] at hi
            rw [chunk_get _ _ _ _ hi] at he
            cases he
            rw [List.getElem?_take] at hd
            split at hd
            · rename_i hj
              rw [List.getElem?_drop] at hd
              obtain ⟨cc, hcc, hcd⟩ := (mapM_all2 hds).flip.get hd
              rw [List.getElem?_take] at hcc
              split at hcc
              · rw [List.getElem?_drop] at hcc
                have hlt := lt_of_get hcc
                have hv : vs[off' + (i * sz + j)]? = some vs[off' + (i * sz + j)] := Array.getElem?_eq_getElem (by omega)
                refine ⟨_, by rw [hmu, Nat.add_assoc]; exact hv, ?_⟩
                exact (toD_rel hcd (q4 _ _ _ hcc hv)).mono mono
              · cases hcc
            · cases hd
          rw [chunk_length] at key
          exact key
      · cases hcells
  have cfs : ∀ cs cs' vs, All2 (CF F G hp) cs vs → cs.mapM (C.ren fun j => σ.idxOf? j) = some cs' → All2 (CR (dropG F G σ w) h) cs' vs := by
    intro cs cs' vs hc hx
    have h2 := mapM_all2 hx
    clear hx
    induction h2 generalizing vs with
    | nil => cases hc; exact .nil
    | cons hq _ ih => cases hc with
      | cons a t => exact .cons (cf _ _ _ a hq) (ih _ t)
  have vf : ∀ x x' v, VF F G hp x v → x.ren (fun j => σ.idxOf? j) = some x' → VR (dropG F G σ w) h x' v := by
    intro x x' v hv hx
    cases x with
    | c x => simp only [V1.ren, Option.map_eq_some_iff] at hx; obtain ⟨y, hy, rfl⟩ := hx; exact cf _ _ _ hv hy
    | agg cs =>
      simp only [V1.ren, Option.map_eq_some_iff] at hx
      obtain ⟨y, hy, rfl⟩ := hx
      obtain ⟨vs, hv, r⟩ := hv
      exact ⟨vs, hv, cfs _ _ _ r hy⟩
  refine ⟨hwr, up, fun x x' v hv hx => ?_, fun G0 hp0 w0 sn htake => ?_⟩
  · cases x with
    | v x => simp only [AV.ren, Option.map_eq_some_iff] at hx; obtain ⟨y, hy, rfl⟩ := hx; exact vf _ _ _ hv hy
    | tup xs =>
      simp only [AV.ren, Option.map_eq_some_iff] at hx
      obtain ⟨y, hy, rfl⟩ := hx
      obtain ⟨vs, hv, r⟩ := hv
      refine ⟨vs, hv, ?_⟩
      have h2 := mapM_all2 hy
      clear hy hv
      induction h2 generalizing vs with
      | nil => cases r; exact .nil
      | cons hq _ ih => cases r with
        | cons a t => exact .cons (vf _ _ _ a hq) (ih _ t)
    | dead => simp only [AV.ren, Option.some.injEq] at hx; subst hx; trivial
  · have ext : ∀ k, k < hp0.length → σ[k]? = some k := fun k hk => by
      have : (σ.take hp0.length)[k]? = some k := by rw [htake]; simp [hk]
      rw [List.getElem?_take, if_pos hk] at this
      exact this
    refine ⟨fun b i v hm => mono b i v (sn.mu b i v hm), fun b i hm => ?_, fun k b hk hat => ?_, sn.same, sn.size, fun k o ho => ?_, sn.io, sn.lo⟩
    · classical
      simp only [dropG] at hm
      split at hm
      · rename_i hk
        obtain ⟨k, hk, hb⟩ := hk
        obtain ⟨_, cs, hc⟩ := hF k hk
        exact .inr (sn.bdNew k b (lt_of_get hc) hb)
      · exact sn.muNew b i hm
    · have hk' := hk
      rw [restrict_len hr] at hk'
      have hs : σ[k]? = some σ[k] := List.getElem?_eq_getElem hk'
      have hat' : ((subG G σ G.lo).β k).at b := hat
      simp only [subG, hs] at hat'
      obtain ⟨o1, _, q1, _⟩ := restrict_get hr hs
      exact sn.bdNew _ b (lt_of_get q1) hat'
    · obtain ⟨o', ho', hk⟩ := sn.kind k o ho
      have hs := ext k (lt_of_get ho)
      obtain ⟨o1, o2, q1, q2, q3⟩ := restrict_get hr hs
      rw [ho'] at q1
      cases q1
      have hβ : (dropG F G σ w).β k = G.β k := by simp [dropG, subG, hs]
      exact ⟨o2, q2, KR_ren2 hk q3 hβ.symm⟩

end
end Go.Ab
