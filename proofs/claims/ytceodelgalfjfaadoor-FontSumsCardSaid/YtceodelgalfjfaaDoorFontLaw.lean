/- Font: the table, out of what a row lists; strings that came in. -/
import Derived.Test.YtceodelgalfjfaaDoorFontE
import Derived.Test.YtceodelgalfjfaaDoorEngLaw
import Derived.Lib.LaidTab
import Derived.ChangeMaps5
namespace Go.Proofs.Ytceodelgalfjfaa
open Go Go.Eng
theorem asciiL_get (j : Nat) (hj : j < 95) : asciiL.getD j 0 = wid ((j : Int) + 32) := by
  unfold asciiL
  simp [hj]
theorem tabU_of {W : World} (g : Tryd.prog.globalNamed "publisher/font.ascii" = some 0) (h : Lib.TabIs Tryd.prog W "publisher/font.ascii" .u8 asciiL) : TabU (wview W) := by
  have hlen : asciiL.length = 95 := by simp [asciiL]
  have h0 := h.cell g 0 (by omega)
  unfold World.cell? at h0
  cases hb : W.heap[0]? with
  | none => simp [hb] at h0
  | some ob =>
    cases ob with
    | cells c T fr =>
      refine ⟨c, T, fr, hb, fun j hj => ?_⟩
      have hj2 := h.cell g j (by omega)
      unfold World.cell? at hj2
      rw [asciiL_get j hj] at hj2
      simpa [hb] using hj2
    | _ => simp [hb] at h0
open Go.ChangeShapes Go.WideShapes in
theorem open_str {H : Type} {enc : TypeId × Value → H} {P : Program} {w : World} {base b0 : Nat} {sp : Nat → Bool} {held : Bool} {r : Reach} {t : TypeId} {v : Value} {d : DataW H} {ps : List MemPlace} (ht : P.underlying t = some .string) (hval : Value.okWide P w r b0 t v) (hd : DataW.Trod enc P w base sp held t v d ps) :
    ∃ l : List UInt8, v = str l ∧ l.length ≤ maxLen := by
  obtain ⟨s, rfl, _, _, hs⟩ := Go.ChangeMaps.open_string ht hval hd
  refine ⟨s.data.toList, ?_, (show s.data.toList.length = s.size from Array.length_toList) ▸ hs⟩
  cases s
  rfl
end Go.Proofs.Ytceodelgalfjfaa
