/- text.Quote: what it returns, walked: a builder of the standard library's, byte by byte. -/
import Derived.Test.YtcjkhdkfdnjhaaaDoorShelf
import Derived.WalkKit
import Derived.BigCall
import Derived.Test.YtcjkhdkfdnjhaaaDoorAb33
set_option linter.unusedVariables false
set_option linter.unusedSimpArgs false
namespace Go.Proofs.YtcjkhdkfdnjhaaaDoor
open Go Go.RowKit Go.Ab
set_option maxHeartbeats 4000000 in
set_option maxRecDepth 1000000 in
theorem cc_used (b : Nat) (w : World) (h0 : w.cell? ⟨b, 0, none⟩ = some (.pointer (some ⟨b, 0, none⟩))) :
    Calls Tryd.prog 52 #[.pointer (some ⟨b, 0, none⟩)] w fun e w' => e = .returned (.tuple #[]) ∧ w' = w := by
  obtain ⟨j, hj, hjs⟩ := Option.map_eq_some_iff.1 (show (Tryd.prog.info? 44).map (·.size) = some 2 by kernel_rfl)
  go_enter Tryd.func52, Tryd.ntmps52
  go_wp2
  rw [Lib.run_neq_ptr_same w _ Tryd.underlying42 hj]
  go_wp2
  go_end0
  exact ⟨rfl, rfl⟩
set_option maxHeartbeats 4000000 in
set_option maxRecDepth 1000000 in
theorem cc_fresh (b : Nat) (w : World) (h0 : w.cell? ⟨b, 0, none⟩ = some (.pointer none)) (hsh : w.shape? b = some (44, 2)) (hfz : w.frozen? ⟨b, 0, none⟩ = false) :
    Calls Tryd.prog 52 #[.pointer (some ⟨b, 0, none⟩)] w fun e w' => e = .returned (.tuple #[]) ∧ w' = w.setCell ⟨b, 0, none⟩ (.pointer (some ⟨b, 0, none⟩)) := by
  obtain ⟨j, hj, hjs⟩ := Option.map_eq_some_iff.1 (show (Tryd.prog.info? 44).map (·.size) = some 2 by kernel_rfl)
  go_enter Tryd.func52, Tryd.ntmps52
  go_wp2
  rw [Lib.run_to_unsafe w ⟨b, 0, none⟩ Tryd.underlying42 Tryd.underlying63 hj (by rw [hjs]; decide) hsh (Nat.zero_lt_succ 1)]
  simp only [Result.andThen]
  rw [Oper.upon_value]
  go_wp2
  rw [run_callFunc_extern Tryd.func60 (by kernel_rfl) (by kernel_rfl) (by kernel_rfl) (e := Extern.AbiNoEscape.same) (by kernel_rfl)]
  rw [Lib.run_noEscape]
  simp only [Result.andThen]
  rw [Oper.upon_value]
  go_wp2
  rw [Lib.run_from_unsafe w ⟨b, 0, none⟩ Tryd.underlying63 Tryd.underlying42 hj hsh (show liesAt Tryd.prog Tryd.prog.depth 44 (2 / Tryd.prog.cellsOf 44) 0 44 1 = true by kernel_rfl)]
  simp only [Result.andThen]
  rw [Oper.upon_value]
  go_wp2
  go_end0
  exact ⟨rfl, rfl⟩
theorem cc (B b : Nat) (bs : List Value) (w : World) (h : Lib.IsBuilderF 44 5 B b bs w) :
    Calls Tryd.prog 52 #[.pointer (some ⟨b, 0, none⟩)] w fun e w' => e = .returned (.tuple #[]) ∧ (Lib.BuilderAtF 44 5 B b (.pointer (some ⟨b, 0, none⟩)) bs w' ∧ Below B w w') := by
  rcases h with h | h
  · refine (cc_fresh b w h.cell0 h.shape h.frozen0).mono ?_
    rintro e w' ⟨rfl, rfl⟩
    exact ⟨rfl, h.used _, (Below.refl B w).setCell (p := ⟨b, 0, none⟩) h.1 _⟩
  · refine (cc_used b w h.cell0).mono ?_
    rintro e w' ⟨rfl, rfl⟩
    exact ⟨rfl, h, Below.refl B _⟩
set_option maxHeartbeats 4000000 in
set_option maxRecDepth 1000000 in
theorem writeByte (B b : Nat) (bs : List Value) (c : Int) (w : World) (h : Lib.IsBuilderF 44 5 B b bs w) (hlen : bs.length + 1 ≤ 140737488355328) (hBw : B ≤ w.heap.size) :
    Calls Tryd.prog 39 #[.pointer (some ⟨b, 0, none⟩), .int .u8 c] w fun e w' => e = .returned .nilIface ∧ (Lib.BuilderAtF 44 5 B b (.pointer (some ⟨b, 0, none⟩)) (bs ++ [.int .u8 c]) w' ∧ Below B w w') := by
  obtain ⟨i0, hi, hz0, hz1, hz2⟩ := info_parts (show (Tryd.prog.info? 5).map (fun i => (i.zero, i.size, i.bytes)) = some (some (.int .u8 0), 1, 1) by kernel_rfl)
  go_enter Tryd.func39, Tryd.ntmps39
  go_wp2_with (go_at_call 52; refine (cc B b bs _ h).mono ?_)
  rintro e w1 ⟨rfl, h1, hb1⟩
  obtain ⟨hB, v, hbk, hown, hne⟩ := h1
  have c0 : w1.cell? ⟨b, 0, none⟩ = some (.pointer (some ⟨b, 0, none⟩)) := by rw [Lib.cell_of_heap hbk]; rfl
  have c1 : w1.cell? ⟨b, 1, none⟩ = some v := by rw [Lib.cell_of_heap hbk]; rfl
  go_wp2_with (at_builtin; refine wpList_append_ownF _ rfl _ _ 33 rfl B 5 i0 (.int .u8 0) 1 1 Tryd.underlying33 hi hz0 hz1 hz2 rfl (by decide) _ _ _ rfl (hown.alloc _) ⟨w1.heap.size, 0, none⟩ 1 1 [.int .u8 c] rfl rfl ?c1 ?c2 ?c3 ?c4 ?c5 ?_)
  case c1 =>
    intro j u hj
    match j, hj with
    | 0, hj => simp at hj; subst hj; simp [Addr.add]
  case c2 => intro u hu; simp at hu; subst hu; rfl
  case c3 => unfold maxLen; omega
  case c4 => omega
  case c5 => have := hb1.size; simp; omega
  intro v' w2 hown' hgrow _
  have hlt : b < w1.heap.size := by
    rcases Nat.lt_or_ge b w1.heap.size with h' | h'
    · exact h'
    · simp [Array.getElem?_eq_none h'] at hbk
  have hb2 : w2.heap[b]? = some (.cells #[.pointer (some ⟨b, 0, none⟩), v] 44 (0, 0)) := by
    rw [hgrow.block b (by simp; omega) (fun e => hne e.symm), Lib.alloc_old w1 _ b hlt]
    exact hbk
  have d0 : w2.cell? ⟨b, 0, none⟩ = some (.pointer (some ⟨b, 0, none⟩)) := by rw [Lib.cell_of_heap hb2]; rfl
  have d1 : w2.cell? ⟨b, 1, none⟩ = some v := by rw [Lib.cell_of_heap hb2]; rfl
  have f1 : w2.frozen? ⟨b, 1, none⟩ = false := Lib.frozen_of_heap hb2 1
  obtain ⟨g, cap, rfl⟩ : ∃ g cap, v' = .slice (some ⟨g, 0, none⟩) (bs.length + 1) cap := by
    rcases hown'.2 with ⟨_, h0⟩ | ⟨g, cap, cur, fz, hv, _⟩
    · omega
    · exact ⟨g, cap, hv⟩
  go_wp2
  go_ret
  refine ⟨rfl, ?_, ?_⟩
  · exact Lib.BuilderAtF.put (T := 44) (e := 5) hB hb2 (bs' := bs ++ [.int .u8 c]) (by simpa using hown') (by decide)
  · exact ((hb1.alloc (by have := hb1.size; omega) _).grown hgrow (by have := hb1.size; simp; omega) (fun k hk => (hown.lt k hk).1)).setCell (p := ⟨b, 1, none⟩) hB _

set_option maxHeartbeats 8000000 in
set_option maxRecDepth 1000000 in
theorem quote_walk (s : ByteArray) (w : World) (hs : s.size ≤ 35184372088832) :
    Calls Tryd.prog 28 #[.string s] w fun e w' => e = .returned (.string ⟨(quoteL s.data.toList).toArray⟩) ∧ Below w.heap.size w w' := by
  go_enter Tryd.func28, Tryd.ntmps28
  have hI0 : Lib.IsBuilderF 44 5 w.heap.size w.heap.size [] (w.alloc (.cells #[.pointer none, .slice none 0 0] 44)) := Lib.IsBuilderF.of (Lib.fresh_isBuilder 44 5 w)
  go_wp2_with (go_at_call 39; refine (writeByte w.heap.size w.heap.size [] 34 _ hI0 (by decide) (by simp)).mono ?_)
  rintro e w1 ⟨rfl, h1, hb1⟩
  have hb0 : Below w.heap.size w w1 := ((Below.refl _ w).alloc (Nat.le_refl _) _).trans hb1
  go_wp2
  go_loopw [8] (fun i wr => ∃ k : Nat, k ≤ s.size ∧ i = .int .i64 k ∧ Lib.IsBuilderF 44 5 w.heap.size w.heap.size (Lib.byteCells (34 :: qb (s.data.toList.take k))) wr ∧ Below w.heap.size w wr) (fun i _ => s.size - (intOf i).toNat)
  case atStart => exact ⟨0, by omega, rfl, .inr h1, hb0⟩
  case round =>
    obtain ⟨k, hk, rfl, hI, hb⟩ := hrel
    have hl : s.data.toList.length = s.size := by rw [Array.length_toList]; rfl
    have hq := qb_len (s.data.toList.take k)
    rw [List.length_take] at hq
    have hsz := hb.size
    by_cases hlt : k < s.size
    · have htk : s.data.toList.take (k + 1) = s.data.toList.take k ++ [s[k]] := by
        rw [List.take_succ_eq_append_getElem (by omega)]
        rfl
      by_cases h34 : s[k] = 34
      · go_wp2_with (go_at_call 39; refine (writeByte w.heap.size w.heap.size _ 92 _ hI (by rw [Lib.byteCells_length, List.length_cons]; omega) hsz).mono ?_)
        rintro e w2 ⟨rfl, h2, hb2⟩
        have hsz2 := (hb.trans hb2).size
        go_wp2_with (go_at_call 39; refine (writeByte w.heap.size w.heap.size _ _ _ (.inr h2) (by rw [List.length_append, Lib.byteCells_length, List.length_cons]; simp; omega) hsz2).mono ?_)
        rintro e w3 ⟨rfl, h3, hb3⟩
        go_wp2
        go_roundw
        case rel => exact ⟨k + 1, by omega, by go_num, .inr (by rw [htk, qb_snoc, if_pos (.inl h34), h34]; simpa [Lib.byteCells] using h3), (hb.trans hb2).trans hb3⟩
        case measure => simp [intOf]; omega
      by_cases h92 : s[k] = 92
      · go_wp2_with (go_at_call 39; refine (writeByte w.heap.size w.heap.size _ 92 _ hI (by rw [Lib.byteCells_length, List.length_cons]; omega) hsz).mono ?_)
        rintro e w2 ⟨rfl, h2, hb2⟩
        have hsz2 := (hb.trans hb2).size
        go_wp2_with (go_at_call 39; refine (writeByte w.heap.size w.heap.size _ _ _ (.inr h2) (by rw [List.length_append, Lib.byteCells_length, List.length_cons]; simp; omega) hsz2).mono ?_)
        rintro e w3 ⟨rfl, h3, hb3⟩
        go_wp2
        go_roundw
        case rel => exact ⟨k + 1, by omega, by go_num, .inr (by rw [htk, qb_snoc, if_pos (.inr h92), h92]; simpa [Lib.byteCells] using h3), (hb.trans hb2).trans hb3⟩
        case measure => simp [intOf]; omega
      · have n34 : ¬ ((s[k].toNat : Int) = 34) := fun h => h34 (UInt8.toNat_inj.1 (by show (s[k]).toNat = 34; omega))
        have n92 : ¬ ((s[k].toNat : Int) = 92) := fun h => h92 (UInt8.toNat_inj.1 (by show (s[k]).toNat = 92; omega))
        have b34 : ((s[k].toNat : Int) == 34) = false := by simpa using n34
        have b92 : ((s[k].toNat : Int) == 92) = false := by simpa using n92
        have d34 : decide ((s[k].toNat : Int) = 34) = false := by simpa using n34
        have d92 : decide ((s[k].toNat : Int) = 92) = false := by simpa using n92
        go_wp2_with (go_at_call 39; refine (writeByte w.heap.size w.heap.size _ _ _ hI (by rw [Lib.byteCells_length, List.length_cons]; omega) hsz).mono ?_)
        rintro e w3 ⟨rfl, h3, hb3⟩
        go_wp2
        go_roundw
        case rel => exact ⟨k + 1, by omega, by go_num, .inr (by rw [htk, qb_snoc, if_neg (fun h => h.elim h34 h92)]; simpa [Lib.byteCells] using h3), hb.trans hb3⟩
        case measure => simp [intOf]; omega
    · go_wp2_with (go_at_call 39; refine (writeByte w.heap.size w.heap.size _ 34 _ hI (by rw [Lib.byteCells_length, List.length_cons]; omega) hsz).mono ?_)
      rintro e w2 ⟨rfl, h2, hb2⟩
      have hk2 : k = s.size := by omega
      subst hk2
      have htk : s.data.toList.take s.size = s.data.toList := by rw [← hl, List.take_length]
      rw [htk] at h2
      have h2' : Lib.BuilderAtF 44 5 w.heap.size w.heap.size (Value.pointer (some ⟨w.heap.size, 0, none⟩)) (Lib.byteCells (quoteL s.data.toList)) w2 := by
        simpa [Lib.byteCells, quoteL] using h2
      go_wp2_with (go_at_call 40; refine (Tryd.Builder_String_any_k w.heap.size w.heap.size (quoteL s.data.toList) _ (.inr h2') (hb.trans hb2).size).mono ?_)
      rintro e w3 ⟨rfl, _, hb3, _⟩
      go_wp2
      go_ret
      exact ⟨rfl, (hb.trans hb2).trans hb3⟩
end Go.Proofs.YtcjkhdkfdnjhaaaDoor
