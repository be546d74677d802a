/- Settle: lists of pairs that came in. -/
import Derived.Test.YtchmiljeidkkpaaSetO
import Derived.Test.YtchmiljeidkkpaaEngOpen
namespace Go.Proofs.Ytchmiljeidkkpaa
open Go Go.Eng
open Go.ChangeShapes Go.WideShapes
set_option linter.unusedSimpArgs false
set_option linter.unusedVariables false

def bytesOf : Value → List UInt8
  | .string s => s.data.toList
  | _ => []

theorem open_prs {H : Type} {enc : TypeId × Value → H} {w : World} {base b0 : Nat} {sp : Nat → Bool} {held : Bool} {r : Reach} {v : Value} {d : DataW H} {ps : List MemPlace}
    (hval : Value.okWide Try.prog w r b0 35 v) (hd : DataW.Trod enc Try.prog w base sp held 35 v d ps) :
    ∃ (ad : Option Addr) (cap : Nat) (xs : List Pr), v = .slice ad xs.length cap ∧ SlC (wview w) ad xs.length cap 2 (prs xs) := by
  have ht : Try.prog.underlying 35 = some (.slice 50) := by kernel_rfl
  have he : Try.prog.underlying 50 = some (.struct #[{ name := "Key", type := 9, offset := 0, embedded := false, tag := "", pkgPath := "", byteOffset := 0 }, { name := "Value", type := 9, offset := 1, embedded := false, tag := "", pkgPath := "", byteOffset := 16 }]) := by kernel_rfl
  have hs : Try.prog.underlying 9 = some .string := by kernel_rfl
  obtain ⟨a0, len0, cap0, rfl⟩ := okWide_slice ht hval
  obtain ⟨fuel, hf⟩ := hd
  rcases Go.Deep.open_slice_pairs ht he (by kernel_rfl) rfl rfl (by kernel_rfl) (by kernel_rfl) hf with ⟨h0, _⟩ | ⟨a, len, cap, m, n, V0, V1, D0, D1, P0, P1, hcs, hb, hl, hm, hmm, _, hx⟩
  · have h0' : [Value.slice a0 len0 cap0] = [.slice none 0 0] := h0
    cases h0'
    exact ⟨none, 0, [], rfl, rfl, Nat.le_refl _, by unfold maxLen; omega, fun h => absurd rfl h⟩
  · have hcs' : [Value.slice a0 len0 cap0] = [.slice (some a) len cap] := hcs
    cases hcs'
    have hlm : len0 ≤ m := by rw [hmm]; split <;> omega
    have each : ∀ i, i < len0 → w.cell? (a.add (i * 2)) = some (str (bytesOf (V0 i))) ∧ w.cell? (a.add (i * 2 + 1)) = some (str (bytesOf (V1 i))) := by
      intro i hi
      obtain ⟨h1, h2, h3, h4⟩ := hx i (by omega)
      obtain ⟨s1, e1, _, _⟩ := DataW.trod_string hs h3
      obtain ⟨s2, e2, _, _⟩ := DataW.trod_string hs h4
      cases e1' : V0 i with
      | _ => first
        | (rw [e1'] at e1; cases e1; rw [e1'] at h1
           cases e2' : V1 i with
           | _ => first
             | (rw [e2'] at e2; cases e2; rw [e2'] at h2; exact ⟨h1, h2⟩)
             | (rw [e2'] at e2; cases e2))
        | (rw [e1'] at e1; cases e1)
    refine ⟨some a, cap0, (List.range len0).map fun i => (bytesOf (V0 i), bytesOf (V1 i)), by simp, ?_⟩
    have hlen : ((List.range len0).map fun i => (bytesOf (V0 i), bytesOf (V1 i))).length = len0 := by simp
    generalize hxs : ((List.range len0).map fun i => (bytesOf (V0 i), bytesOf (V1 i))) = xs at *
    have hxi : ∀ i, i < len0 → xs[i]? = some (bytesOf (V0 i), bytesOf (V1 i)) := by
      intro i hi
      rw [← hxs]
      simp [hi]
    rw [hlen]
    refine ⟨by rw [prs_len, hlen], hl, hm, fun hne => ?_⟩
    have hspot : a = ⟨a.block, a.off, none⟩ := by
      have h0 := (each 0 (by omega)).1
      obtain ⟨b, off, spot⟩ := a
      cases spot with
      | none => rfl
      | some s =>
        unfold World.cell? at h0
        simp only [Nat.zero_mul, Addr.add, if_true] at h0
        split at h0 <;> simp at h0
    have hcell : ∀ j v, (prs xs)[j]? = some v → w.cell? ⟨a.block, a.off + j, none⟩ = some v := by
      intro j v hj
      have hjl : j < xs.length * 2 := by rw [← prs_len]; exact (List.getElem?_eq_some_iff.1 hj).1
      have hi : j / 2 < len0 := by omega
      have hc := cut_prs (hxi (j / 2) hi)
      obtain ⟨e1, e2⟩ := each (j / 2) hi
      rw [hspot, add_eq] at e1 e2
      have hmod : j = j / 2 * 2 ∨ j = j / 2 * 2 + 1 := by omega
      rcases hmod with hj2 | hj2
      · have := getElem?_cut hc (j := 0) (x := str (bytesOf (V0 (j / 2)))) rfl
        rw [Nat.add_zero, ← hj2, hj] at this
        cases this
        rw [← hj2] at e1
        exact e1
      · have := getElem?_cut hc (j := 1) (x := str (bytesOf (V1 (j / 2)))) rfl
        rw [← hj2, hj] at this
        cases this
        rw [← hj2] at e2
        exact e2
    obtain ⟨c, T, fr, h1, h2⟩ := cut_of_cells (n := 0) (fun h => trivial) hcell (by intro e; have := prs_len xs; rw [e] at this; simp at this; omega)
    refine ⟨a.block, a.off, c, T, fr, by rw [hspot], h1, ?_⟩
    rw [prs_len, hlen] at h2
    exact h2
end Go.Proofs.Ytchmiljeidkkpaa
