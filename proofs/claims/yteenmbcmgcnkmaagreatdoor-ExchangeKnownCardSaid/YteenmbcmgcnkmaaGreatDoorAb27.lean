/- bytes.IndexByte over an object's bytes. -/
import Derived.Test.YteenmbcmgcnkmaaGreatDoorAb26
import Derived.Shelf.Bytes.SlIndexAt
set_option linter.unusedVariables false
set_option linter.unusedSimpArgs false
namespace Go.Ab
open Go Go.RowKit

/-- the numbers of plain bytes in cells -/
def u8s : List C → Option (List Int)
  | [] => some []
  | .d (.sc (.int .u8 n)) :: r => (u8s r).map (n :: ·)
  | _ => none
theorem u8s_get : ∀ {cs : List C} {xs : List Int}, u8s cs = some xs → xs.length = cs.length ∧ ∀ (i : Nat), i < xs.length → cs[i]? = some (.d (.sc (.int .u8 (xs.getD i 0)))) := by
  intro cs
  induction cs with
  | nil => intro xs h; cases h; exact ⟨rfl, fun i hi => absurd hi (Nat.not_lt_zero _)⟩
  | cons c cs ih =>
    intro xs h
    unfold u8s at h
    split at h
    · rename_i e; cases e
    · rename_i n r e
      cases e
      obtain ⟨ys, hy, rfl⟩ := Option.map_eq_some_iff.1 h
      obtain ⟨h1, h2⟩ := ih hy
      refine ⟨by simp [h1], fun i hi => ?_⟩
      cases i with
      | zero => rfl
      | succ i => simpa using h2 i (by simpa using hi)
    · cases h
/-- the bytes that a slice of an object shows -/
def bytesAtO (hp : Heap) (k off len : Nat) : Option (List Int) :=
  match hp[k]? with
  | some (.cells cs) => (u8s ((cs.drop off).take len)).bind fun xs => if xs.length = len then some xs else none
  | _ => none
def pBytesIndexByte : List V1 → Heap → Option (AV × Heap) := fun args hp => match args with
  | [.c (.slc k off _ len _), .c (.d (.sc (.int .u8 c)))] => (bytesAtO hp k off len).bind fun xs => some (.int .i64 (Lib.indexByte (Lib.bytesOf xs) c.toNat.toUInt8), hp)
  | _ => none
theorem bytesAtO_ok {G : Gh} {hp : Heap} {w : World} {k off len : Nat} {xs : List Int} (hw : WR G hp w) (h : bytesAtO hp k off len = some xs) {b : Nat} (hb : Isb G hp k b) :
    xs.length = len ∧ ∀ i, i < len → w.cell? ⟨b, off + i, none⟩ = some (.int .u8 (xs.getD i 0)) := by
  unfold bytesAtO at h
  split at h
  case h_2 => cases h
  case h_1 cs ho =>
    obtain ⟨ys, hy, h⟩ := Option.bind_eq_some_iff.1 h
    split at h
    case isFalse => cases h
    case isTrue hl =>
      cases h
      refine ⟨hl, fun i hi => ?_⟩
      obtain ⟨_, hg⟩ := u8s_get hy
      have h1 := hg i (by omega)
      rw [List.getElem?_take_of_lt hi, List.getElem?_drop] at h1
      obtain ⟨b', vs, t, fz, hβ, hh, _, hle, hc, _⟩ := hw.ob k _ ho
      have hbb : b' = b := Bd.at_inj hβ (hb.at ho)
      subst hbb
      rw [cell_at hh]
      have hlt : off + i < cs.length := by
        rcases Nat.lt_or_ge (off + i) cs.length with h | h
        · exact h
        · rw [List.getElem?_eq_none h] at h1; cases h1
      have hv : vs[off + i]? = some vs[off + i] := Array.getElem?_eq_getElem (by omega)
      have := hc _ _ _ h1 hv
      rw [hv]
      have h3 : DR G.μ (.sc (.int .u8 (xs.getD i 0))) vs[off + i] := this
      generalize vs[off + i] = z at h3
      cases h3
      rfl
theorem pBytesIndexByte_ok {E : Env} {f : FuncId}
    (hc : ∀ (a : Addr) (n c : Nat) (xs : List Int) (cv : Int) (w : World), xs.length = n → (∀ i, i < n → w.cell? (a.add i) = some (.int .u8 (xs.getD i 0))) →
      Calls E.P f #[.slice (some a) n c, .int .u8 cv] w fun e w' => e = .returned (.int .i64 (Lib.indexByte (Lib.bytesOf xs) cv.toNat.toUInt8)) ∧ w' = w) : CallP E f pBytesIndexByte := by
  intro args hp v h' hp' G w vs hb hw ha
  unfold pBytesIndexByte at hp'
  split at hp'
  case h_2 => cases hp'
  case h_1 k off sz len cap c =>
    obtain ⟨xs, hx, h⟩ := Option.bind_eq_some_iff.1 hp'
    cases h
    obtain ⟨v1, r1, h1, t1, rfl⟩ : ∃ a l, VR G hp (.c (.slc k off sz len cap)) a ∧ All2 (VR G hp) [.c (.d (.sc (.int .u8 c)))] l ∧ vs = a :: l := by
      cases ha with | cons h t => exact ⟨_, _, h, t, rfl⟩
    obtain ⟨v2, h2, rfl⟩ : ∃ a, VR G hp (.c (.d (.sc (.int .u8 c)))) a ∧ r1 = [a] := by
      cases t1 with | cons h t => cases t; exact ⟨_, h, rfl⟩
    have h2' : DR G.μ (.sc (.int .u8 c)) v2 := h2
    obtain rfl : v2 = .int .u8 c := by cases h2'; rfl
    obtain ⟨b, cp, off', hi, rfl, hle, _, ho, _⟩ := h1
    obtain ⟨hl, hcell⟩ := bytesAtO_ok hw hx hi
    refine (hc ⟨b, off', none⟩ len cp xs c w hl fun i hi' => ?_).mono ?_
    · have hadd : (Addr.mk b off' none).add i = ⟨b, off' + i, none⟩ := by
        unfold Addr.add
        split
        · rename_i h0; subst h0; rfl
        · rfl
      rw [hadd]
      have : off' = off := ho (by omega)
      subst this
      exact hcell i hi'
    · rintro e w' ⟨rfl, rfl⟩
      exact ⟨_, G, rfl, .sc _ rfl, hw, Sn.refl ..⟩
end Go.Ab
