/- The engine: slices of structs of two strings that came in. -/
import Derived.Test.YtchmiljeidkkpaaEngLaw
import Derived.Deep.SlicePairs
import Derived.WideShapes
namespace Go.Eng
open Go Go.RowKit
open Go.ChangeShapes Go.WideShapes

/-- the cells of a block, element by element, out of single cells -/
theorem cut_of_cells {w : World} {b off n : Nat} (h : n ≠ 0 → True) {vs : List Value} (hc : ∀ i v, vs[i]? = some v → w.cell? ⟨b, off + i, none⟩ = some v) (hne : vs ≠ []) : ∃ c T fr, w.heap[b]? = some (.cells c T fr) ∧ cut c.toList off vs.length = vs := by
  cases vs with
  | nil => exact absurd rfl hne
  | cons v0 vs =>
    have h0 := hc 0 v0 rfl
    unfold World.cell? at h0
    cases hb : w.heap[b]? with
    | none => simp [hb] at h0
    | some ob =>
      cases ob with
      | cells c T fr =>
        refine ⟨c, T, fr, rfl, ?_⟩
        have key : ∀ i v, (v0 :: vs)[i]? = some v → c.toList[off + i]? = some v := by
          intro i v hv
          have := hc i v hv
          unfold World.cell? at this
          simpa [hb] using this
        apply List.ext_getElem?
        intro i
        unfold cut
        rw [List.getElem?_take]
        split
        · rename_i hi
          rw [List.getElem?_drop]
          have hg := List.getElem?_eq_getElem hi
          rw [hg]
          exact key i _ hg
        · rename_i hi
          rw [List.getElem?_eq_none (by omega)]
      | _ => simp [hb] at h0
end Go.Eng
