/- Maps asked and written; built-in functions. -/
import Derived.Test.YteenmbcmgcnkmaaGreatDoorAb13
set_option linter.unusedVariables false
set_option linter.unusedSimpArgs false
namespace Go.Ab
open Go

section
variable {E : Env} {G : Gh} {hp : Heap} {s : Nat → AV} {a : Act} {w : World} {o : Oper}

theorem same_now {d : TypeDesc} {k k' : Value} {b : Bool} (hk : keyOk d k = true) (h : sameK k k' = some b) : Instr.sameNow d k k' = some b := by
  cases d <;> cases k <;> simp [keyOk] at hk <;> cases k' <;> simp_all [sameK, Instr.sameNow]

theorem ba_beq (a b : ByteArray) : (a == b) = true ↔ a = b := by
  obtain ⟨x⟩ := a
  obtain ⟨y⟩ := b
  constructor
  · intro h
    have e : x = y := by simpa using (show (x == y) = true from h)
    rw [e]
  · intro h
    cases h
    show (x == x) = true
    simp

theorem same_bits {k k' : Value} (h : sameK k k' = some true) (n : Nat) : Instr.sameBits n k' k = true := by
  cases k <;> cases k' <;> simp [sameK] at h <;> first | (rw [ba_beq] at h; subst h; simp [Instr.sameBits, ba_beq]; done) | simp_all [Instr.sameBits]

def ER (G : Gh) (hp : Heap) (e : Value × V1) (m : MapEntry) : Prop := e.1 = m.key ∧ VR G hp e.2 m.val

theorem find_rel {d : TypeDesc} {k : Value} (hk : keyOk d k = true) (nv : V1) : ∀ (kvs : List (Value × V1)) (es : List MapEntry) (i : Nat) (r : Option V1), All2 (ER G hp) kvs es → findK k kvs = some r →
    (r = none ∧ Instr.findNow d k es i = some none ∧ putK k nv kvs = kvs ++ [(k, nv)]) ∨
    (∃ p v e, r = some v ∧ es[p]? = some e ∧ Instr.findNow d k es i = some (some (i + p, e.val)) ∧ VR G hp v e.val ∧ (∀ n, Instr.sameBits n e.key k = true) ∧ putK k nv kvs = kvs.set p (k, nv)) := by
  intro kvs
  induction kvs with
  | nil => intro es i r h hf; cases h; simp only [findK, Option.some.injEq] at hf; subst hf; exact .inl ⟨rfl, rfl, rfl⟩
  | cons kv kvs ih =>
    intro es i r h hf
    cases h with
    | cons he ht =>
      rename_i e es
      simp only [findK] at hf
      split at hf
      · rename_i hs
        cases hf
        have h1 := same_now hk (he.1 ▸ hs)
        refine .inr ⟨0, kv.2, e, rfl, rfl, ?_, he.2, fun n => same_bits (he.1 ▸ hs) n, ?_⟩
        · simp [Instr.findNow, h1]
        · simp [putK, hs]
      · rename_i hs
        have h1 := same_now hk (he.1 ▸ hs)
        rcases ih es (i + 1) r ht hf with ⟨e1, e2, e3⟩ | ⟨p, v, e', e1, e2, e3, e4, e5, e6⟩
        · refine .inl ⟨e1, ?_, ?_⟩
          · simp [Instr.findNow, h1, e2]
          · simp [putK, hs, e3]
        · refine .inr ⟨p + 1, v, e', e1, by simpa using e2, ?_, e4, e5, ?_⟩
          · simp only [Instr.findNow, h1, e3]
            congr 3
            omega
          · simp [putK, hs, e6]
      · cases hf

theorem run_checkKey {P : Program} {q : Bool} {t : TypeId} {d : TypeDesc} {k : Value} (hd : P.underlying t = some d) (hk : keyOk d k = true) : ∀ n, (Instr.checkKey q (n + 1) t k).run P w = .ok () w := by
  intro n
  cases d <;> cases k <;> simp [keyOk] at hk <;> simp [Instr.checkKey, run_underlying hd]

theorem run_checkKey' {P : Program} {q : Bool} {t : TypeId} {d : TypeDesc} {k : Value} (hd : P.underlying t = some d) (hk : keyOk d k = true) : (Instr.checkKey q 10000 t k).run P w = .ok () w :=
  run_checkKey hd hk 9999

theorem op_lookup (hs : SR G hp s a.tmps) (hw : WR G hp w) {t : TypeId} {x k : Operand} {ok : Bool} (hop : o.op = .lookup t x k ok) {v : AV × Heap} (h : dop E s hp o = some v) :
    OkV G hp w ((execOp a.eval o).run E.P w) v := by
  simp only [dop, hop] at h
  split at h
  · rename_i kt e hu
    simp only [Option.bind_eq_bind, Option.bind_eq_some_iff] at h
    obtain ⟨key, ⟨kv, hkv, hkey⟩, kd, hkd, h⟩ := h
    split at h
    · rename_i hok
      simp only [Option.bind_eq_some_iff] at h
      obtain ⟨z, ⟨zv, hz, hzv⟩, r, hr, h⟩ := h
      have hke := AV.toV_eq hkey (ev_rel hs hkv)
      have hzr : VR G hp z zv := ofV_rel hzv
      have fin : ∀ (u : Value) (b : Bool), VR G hp (r.getD z) u → b = r.isSome → (Instr.lookup t (a.eval x) key ok).run E.P w = .ok (if ok then .tuple #[u, .bool b] else u) w →
          OkV G hp w ((execOp a.eval o).run E.P w) v := by
        intro u b hvr hb hrun
        subst hb
        refine ⟨_, w, G, .inl ⟨by simp only [execOp, hop, hke]; exact run_val hrun, ?_⟩, ?_, ?_⟩
        · cases ok
          · simp only [Bool.false_eq_true, if_false, Option.some.injEq] at h; subst h; exact hvr
          · simp only [if_true, Option.some.injEq] at h; subst h; exact ⟨[u, .bool r.isSome], rfl, .cons hvr (.cons (DR.sc _ rfl) .nil)⟩
        · cases ok <;> simp at h <;> subst h <;> exact hw
        · cases ok <;> simp at h <;> subst h <;> exact Sn.refl _ _ _
      split at hr
      · rename_i m hx
        split at hr
        · rename_i kvs hm
          obtain ⟨b, hib, hv⟩ := evC_rel hs hx
          obtain ⟨b', es, clock, hb, h1, h2, h3⟩ := hw.ob m _ hm
          have hat : (G.β m).at b' := by rw [hb]; rfl
          cases Bd.at_inj (hib.at hm) hat
          have hrun : ∀ (res : Option (Nat × Value)), Instr.findNow kd key es.toList 0 = some res → (Instr.lookup t (a.eval x) key ok).run E.P w =
              .ok (if ok then .tuple #[(match res with | some (_, v) => v | none => zv), .bool res.isSome] else (match res with | some (_, v) => v | none => zv)) w := by
            intro res hres
            simp only [Instr.lookup, Sem.run_bind, run_underlying hu, Result.andThen_ok, hv, getObj_run h1 (by simp), Sem.run_pure, run_checkKey' hkd hok, Instr.findKey, run_underlying hkd, hres]
            cases res with
            | none => simp [run_zeroValue hz]
            | some p => simp
          rcases find_rel hok z kvs es.toList 0 r h2 hr with ⟨rfl, e2, _⟩ | ⟨p, v', e', rfl, e2, e3, e4, _, _⟩
          · exact fin zv false hzr rfl (hrun _ e2)
          · exact fin e'.val true e4 rfl (hrun _ e3)
        · cases hr
      · rename_i hx
        cases hr
        have r := evC_rel hs hx
        have hv : a.eval x = .map none := by generalize a.eval x = z at r; cases r; rfl
        refine fin zv false hzr rfl ?_
        simp [Instr.lookup, run_underlying hu, hv, run_checkKey' hkd hok, Instr.findKey, run_underlying hkd, Instr.findNow, run_zeroValue hz]
      · cases hr
    · cases h
  · cases h

theorem op_mapUpdate (hs : SR G hp s a.tmps) (hw : WR G hp w) {t : TypeId} {x k y : Operand} (hop : o.op = .mapUpdate t x k y ∨ o.op = .insert t x k y) {v : AV × Heap} (h : dop E s hp o = some v) :
    OkV G hp w ((execOp a.eval o).run E.P w) v := by
  have h' : mapPut E s hp t x k y = some v := by rcases hop with hop | hop <;> simpa only [dop, hop] using h
  have hexec : (execOp a.eval o).run E.P w = (do Instr.mapUpdate t (a.eval x) (a.eval k) (a.eval y); pure Next.skip : Sem Next).run E.P w := by
    rcases hop with hop | hop <;> simp only [execOp, hop]
  rw [hexec]
  clear h hop hexec
  simp only [mapPut] at h'
  split at h'
  · rename_i kt e hu
    simp only [Option.bind_eq_bind, Option.bind_eq_some_iff] at h'
    obtain ⟨key, ⟨kv, hkv, hkey⟩, kd, hkd, val, hval, h⟩ := h'
    split at h
    · rename_i hok
      split at h
      · rename_i m hx
        split at h
        · rename_i kvs hm
          simp only [Option.map_eq_some_iff] at h
          obtain ⟨r, hr, rfl⟩ := h
          have hke := AV.toV_eq hkey (ev_rel hs hkv)
          have hvr := ev1_rel hs hval
          obtain ⟨b, hib, hv⟩ := evC_rel hs hx
          obtain ⟨b', es, clock, hb, h1, h2, h3⟩ := hw.ob m _ hm
          have hat : (G.β m).at b' := by rw [hb]; rfl
          cases Bd.at_inj (hib.at hm) hat
          rcases find_rel hok val kvs es.toList 0 r h2 hr with ⟨rfl, e2, e3⟩ | ⟨p, v', e', rfl, e2, e3, e4, e5, e6⟩
          · obtain ⟨g1, g2, g3⟩ := set_heap (w := w) (ob' := .map (es.push { key, val := a.eval y, born := clock }) (clock + 1)) h1
            obtain ⟨sn, kk⟩ := set_ok (o' := .amap (putK key val kvs)) hw hm hat rfl rfl g2 g3
            refine ⟨undef, _, G, .inr ⟨run_unit ?_, rfl⟩, kk ⟨b, _, _, hb, g1, ?_, h3⟩, sn⟩
            · simp [Instr.mapUpdate, run_underlying hu, hv, hke, getObj_run h1 (by simp), run_checkKey' hkd hok, Instr.findKey, run_underlying hkd, e2, setObj_run h1 (by simp)]
            · rw [e3] at sn
              rw [e3, Array.toList_push]
              exact (h2.mono fun _ _ r => ⟨r.1, r.2.mono sn⟩).append (.cons ⟨rfl, hvr.mono sn⟩ .nil)
          · obtain ⟨g1, g2, g3⟩ := set_heap (w := w) (ob' := .map (es.modify p fun e => { e with key, val := a.eval y }) clock) h1
            obtain ⟨sn, kk⟩ := set_ok (o' := .amap (putK key val kvs)) hw hm hat rfl rfl g2 g3
            have hkey2 : ((es[p]?).map (·.key)).getD key = e'.key := by
              rw [Array.getElem?_toList] at e2
              simp [e2]
            refine ⟨undef, _, G, .inr ⟨run_unit ?_, rfl⟩, kk ⟨b, _, _, hb, g1, ?_, h3⟩, sn⟩
            · have := e5 10000
              simp only [Nat.zero_add] at e3
              simp [Instr.mapUpdate, run_underlying hu, hv, hke, getObj_run h1 (by simp), run_checkKey' hkd hok, Instr.findKey, run_underlying hkd, e3, hkey2, Instr.keyThatStays, this, setObj_run h1 (by simp)]
            · rw [e6] at sn
              rw [e6]
              refine All2.of_get (by simp [h2.length]) fun i c d hc hd => ?_
              rw [Array.toList_modify, List.getElem?_modify] at hd
              by_cases ei : p = i
              · subst ei
                have hl := lt_of_get hc
                rw [List.length_set] at hl
                rw [List.getElem?_set_self hl] at hc
                cases hc
                rw [e2] at hd
                simp at hd
                subst hd
                exact ⟨rfl, hvr.mono sn⟩
              · rw [List.getElem?_set_ne ei] at hc
                simp only [ei, if_false] at hd
                obtain ⟨d', hd', rr⟩ := h2.get hc
                have : d = d' := by
                  have hd2 : es.toList[i]? = some d := by simpa using hd
                  rw [hd2] at hd'
                  exact Option.some.inj hd'
                subst this
                exact ⟨rr.1, rr.2.mono sn⟩
        · cases h
      · cases h
    · cases h
  · cases h'

end
end Go.Ab
