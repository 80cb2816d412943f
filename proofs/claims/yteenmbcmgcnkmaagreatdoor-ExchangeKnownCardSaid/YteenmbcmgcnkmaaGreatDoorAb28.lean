/- Tables of integers in package variables: their cells are known from the start. -/
import Derived.Test.YteenmbcmgcnkmaaGreatDoorAb27
import Derived.OpenShut
import Derived.ChangeArms
import Derived.FnData
import Derived.MakeChecks
set_option linter.unusedVariables false
set_option linter.unusedSimpArgs false
namespace Go.Ab
open Go

/-- a variable's cells: of the tables, and of the variable g, which holds m -/
def tabBase (T : Nat → Option (IntKind × List Int)) (g : Nat) (m : Int) (b i : Nat) : Option Value :=
  match T b with
  | some p => (p.2[i]?).map (.int p.1 ·)
  | none => if b = g ∧ i = 0 then some (.int .i64 m) else none
def tabGlob (T : Nat → Option (IntKind × List Int)) (g : Nat) : Option (List D) := (T g).map fun p => p.2.map fun x => .sc (.int p.1 x)

theorem tab_glob {T : Nat → Option (IntKind × List Int)} {g0 : Nat} {m : Int} (g : Nat) (cs : List D) (h : tabGlob T g = some cs) :
    ∃ vs : Nat → Value, ∀ (j : Nat) (c : D), cs[j]? = some c → DR (tabBase T g0 m) c (vs j) ∧ tabBase T g0 m g j = some (vs j) := by
  simp only [tabGlob, Option.map_eq_some_iff] at h
  obtain ⟨p, hp, rfl⟩ := h
  refine ⟨fun j => .int p.1 (p.2.getD j 0), fun j c hc => ?_⟩
  rw [List.getElem?_map, Option.map_eq_some_iff] at hc
  obtain ⟨x, hx, rfl⟩ := hc
  have hg : p.2.getD j 0 = x := by simp [List.getD, hx]
  refine ⟨by show DR _ _ (Value.int p.1 (p.2.getD j 0)); rw [hg]; exact .sc _ rfl, ?_⟩
  simp only [tabBase, hp, hx, Option.map_some, hg]

theorem laid_at {P : Program} {W : World} : ∀ {laid : List (String × DataW Unit)} {ps : List MemPlace}, DataW.LaidVars P W laid ps → ∀ {n : String} {d : DataW Unit}, (n, d) ∈ laid →
    ∃ g t cs fuel p, P.globalNamed n = some g ∧ (P.globals[g]?).map (·.type) = some t ∧ W.var? P n = some cs ∧ DataW.trod (fun _ => ()) P W 0 (fun _ => true) false fuel t cs.toList = some (d, p) := by
  intro laid
  induction laid with
  | nil => intro ps _ n d hm; cases hm
  | cons x r ih =>
    intro ps h n d hm
    obtain ⟨g, t, cs, fuel, p, q, h1, h2, h3, h4, h5, _⟩ := h
    rcases List.mem_cons.1 hm with e | hm
    · cases e; exact ⟨g, t, cs, fuel, p, h1, h2, h3, h4⟩
    · exact ih h5 hm

theorem laid_ints {P : Program} {W : World} {laid : List (String × DataW Unit)} (hL : laidMetH P laid W) (hh : (laid.all fun x => x.2.handleName?.isNone) = true) {n : String} {l : List Int} {k : IntKind}
    {g N : Nat} {t e : TypeId} (hm : (n, DataW.agg (l.map fun x => .lit (.int k x))) ∈ laid) (hg : P.globalNamed n = some g) (ht : (P.globals[g]?).map (·.type) = some t) (hu : P.underlying t = some (.array N e)) (hue : P.underlying e = some (.int k)) (hc : P.cellsOf e = 1)
    (hl : l.length = N) (i : Nat) (x : Int) (hx : l[i]? = some x) : W.cell? ⟨g, i, none⟩ = some (.int k x) := by
  rw [MakeChecks.laidMetH_plain _ _ _ hh] at hL
  obtain ⟨ps, hV, _⟩ := hL
  obtain ⟨g', t', cs, fuel, p, hg', ht', hv, hd⟩ := laid_at hV hm
  obtain rfl := Option.some.inj (hg.symm.trans hg')
  obtain rfl := Option.some.inj (ht.symm.trans ht')
  obtain ⟨xs, m, _, ex, _, hxl, hel⟩ := DataW.trod_array hu hd
  have hi : i < l.length := lt_of_get hx
  have hE := hel i (by omega)
  rw [hc, Nat.mul_one, List.getElem?_eq_getElem (by omega)] at hE
  obtain ⟨z, e1, e2, _⟩ := DataW.trod_int hue hE
  have e3 : (xs.map (·.1)) = l.map fun x => (DataW.lit (.int k x) : DataW Unit) := (DataW.agg.inj (Prod.mk.inj ex).1).symm
  have e4 : (xs.map (·.1))[i]? = (l.map fun x => (DataW.lit (.int k x) : DataW Unit))[i]? := by rw [e3]
  rw [List.getElem?_map, List.getElem?_map, List.getElem?_eq_getElem (by omega : i < xs.length), hx, e2] at e4
  have hz : z = x := by simpa using e4
  subst hz
  rw [World.var?_cell hg hv i]
  have : cs.toList[i]? = some (.int k z) := by
    have h0 : ((cs.toList.drop i).take 1)[0]? = some (.int k z) := by rw [e1]; rfl
    simpa using h0
  simpa using this
end Go.Ab
