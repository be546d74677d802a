/- The engine: contracts of the kit's shelf as contracts of ours (for calls that hand back no memory, or memory that is then known). -/
import Derived.Test.YthnboadnehbciaaDoorEngLaw
namespace Go.Eng
open Go Go.RowKit
set_option linter.unusedSimpArgs false
set_option linter.unusedVariables false

theorem not_holdsL_nil {bk : Nat → Option Nat} {hd : Nat → Value} {b : Nat} : ¬ HoldsL bk hd [] b := fun ⟨i, p, hi, _⟩ => by simp at hi
/-- a contract on worlds that hands back no memory -/
theorem FnP.of_calls {P : Program} {f : FuncId} {args : List Value} {u : View} {R : Value → Prop}
    (h : ∀ w, Agree u w → Calls P f args.toArray w fun e w' => ∃ v, e = .returned v ∧ R v ∧ Below w.heap.size w w') : FnP P f args u fun v _ => R v := by
  intro w bk hd hA hO
  refine (h w hA).mono ?_
  rintro e w' ⟨v, rfl, hR, hb⟩
  obtain ⟨h1, h2, h3, h4, h5⟩ := hb
  refine ⟨v, u, [], bk, hd, rfl, ⟨rfl, hR⟩, fun k o hk => (h5 k (hA.lt hk)).trans (hA k o hk), fun _ _ _ => rfl, ⟨h1, h2, h3, h4, fun k hk _ => h5 k hk⟩, ⟨by simp, by simp, by simp⟩, fun b hb => absurd hb not_holdsL_nil⟩

/-- the same, where the world is as it was -/
theorem FnP.of_same {P : Program} {f : FuncId} {args : List Value} {u : View} {z : Value}
    (h : ∀ w, Agree u w → Calls P f args.toArray w fun e w' => e = .returned z ∧ w' = w) : FnP P f args u fun v _ => v = z := by
  refine FnP.of_calls fun w hA => (h w hA).mono ?_
  rintro e w' ⟨rfl, rfl⟩
  exact ⟨z, rfl, rfl, rfl, rfl, rfl, Nat.le_refl _, fun _ _ => rfl⟩

/-- a contract that hands back a row of its own: from here on nobody writes it -/
theorem FnP.of_row {P : Program} {f : FuncId} {args : List Value} {u : View} {T : TypeId} {sz n : Nat} {xs : List Value}
    (h : ∀ w, Agree u w → Calls P f args.toArray w fun e w' => ∃ v, e = .returned v ∧ w'.ownsRow w.heap.size T sz v n xs ∧ Below w.heap.size w w') : FnP P f args u fun v u' => IsSl u' v n sz xs := by
  intro w bk hd hA hO
  refine (h w hA).mono ?_
  rintro e w' ⟨v, rfl, hown, hb⟩
  obtain ⟨h1, h2, h3, h4, h5⟩ := hb
  rcases hown.2 with ⟨hv, hn⟩ | ⟨g, cap, cur, hv, hbg, hg, hnc, hcm, hcs, htake⟩
  · refine ⟨v, u, [], bk, hd, rfl, ⟨rfl, none, 0, by rw [hv, hn], hown.1, by omega, by unfold maxLen; omega, fun hne => absurd hn hne⟩, fun k o hk => (h5 k (hA.lt hk)).trans (hA k o hk), fun _ _ _ => rfl, ⟨h1, h2, h3, h4, fun k hk _ => h5 k hk⟩, ⟨by simp, by simp, by simp⟩, fun b hb => absurd hb not_holdsL_nil⟩
  · have hun : u g = none := by
      cases hu : u g with
      | none => rfl
      | some o => exact absurd (hA.lt hu) (by omega)
    refine ⟨v, vput u g (.cells cur T), [], bk, hd, rfl, ⟨rfl, some ⟨g, 0, none⟩, cap, hv, hown.1, hnc, hcm, fun _ => ⟨g, 0, cur, T, (0, 0), rfl, by simp [vput], by simpa [cut] using htake⟩⟩, fun k o hk => ?_, fun k hk _ => ?_, ⟨h1, h2, h3, h4, fun k hk _ => h5 k hk⟩, ⟨by simp, by simp, by simp⟩, fun b hb => absurd hb not_holdsL_nil⟩
    · by_cases e : k = g
      · subst e; simp [vput] at hk; subst hk; exact hg
      · simp only [vput, if_neg e] at hk
        exact (h5 k (hA.lt hk)).trans (hA k o hk)
    · simp only [vput, if_neg (show k ≠ g by omega)]
end Go.Eng
