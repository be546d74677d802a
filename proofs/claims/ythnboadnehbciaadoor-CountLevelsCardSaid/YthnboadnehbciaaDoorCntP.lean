/- Count: the closure that numbers blocks. -/
import Derived.Test.YthnboadnehbciaaDoorCntO
namespace Go.Proofs.Ythnboadnehbciaa
open Go Go.Eng
set_option linter.unusedSimpArgs false
set_option linter.unusedVariables false
set_option maxRecDepth 4000

def cOf (g : Nat → Nat) (m : Nat) (s : Bs) : Nat := if s = figS then g 1 else if s = tabS then g 2 else if s = equS then g 3 else if s = notS then m else 0
theorem cOf_kind {g : Nat → Nat} {m n : Nat} (h1 : 1 ≤ n) (h3 : n ≤ 3) : cOf g m (kindS n) = g n := by
  rcases (show n = 1 ∨ n = 2 ∨ n = 3 by omega) with rfl | rfl | rfl
  · rfl
  · rfl
  · rfl
theorem cOf_up {g : Nat → Nat} {m n : Nat} (h1 : 1 ≤ n) (h3 : n ≤ 3) : upC (cOf g m) (kindS n) = cOf (setF g n (g n + 1)) m := by
  funext s
  unfold upC
  rw [cOf_kind h1 h3]
  rcases (show n = 1 ∨ n = 2 ∨ n = 3 by omega) with rfl | rfl | rfl
  · show (if s = figS then _ else _) = _
    unfold cOf setF
    by_cases e : s = figS
    · simp [e]
    · simp [e]
  · show (if s = tabS then _ else _) = _
    unfold cOf setF
    by_cases e : s = tabS
    · subst e; rfl
    · by_cases e2 : s = figS
      · subst e2; rfl
      · simp [e, e2]
  · show (if s = equS then _ else _) = _
    unfold cOf setF
    by_cases e : s = equS
    · subst e; rfl
    · by_cases e2 : s = figS
      · subst e2; rfl
      · by_cases e3 : s = tabS
        · subst e3; rfl
        · simp [e, e2, e3]
theorem cOf_note (g : Nat → Nat) (m : Nat) : cOf g m notS = m := rfl
theorem cOf_upNote (g : Nat → Nat) (m : Nat) : upC (cOf g m) notS = cOf g (m + 1) := by
  funext s
  unfold upC
  rw [cOf_note]
  by_cases e : s = notS
  · subst e; rfl
  · rw [if_neg e]
    unfold cOf
    simp [e]

section
variable {k lv : Int} {free : Bool} {inf : Bs} {a : DAttr} {line : List Inl} {kids : List Blk} {X : Cs}
theorem kn_ne (n : Nat) : knS n ≠ secS := by
  unfold knS kindS
  split
  · decide
  · split
    · decide
    · split <;> decide
theorem caseSec (h : kindOfS k free inf a.id = secS) : kindStep k inf a kids (headStep free k lv a line X) = ⟨ctrF X.f (clampL lv), X.g, X.out ++ [⟨a.id, secS, valF (ctrF X.f (clampL lv)) (clampL lv), line⟩]⟩ := by
  unfold kindOfS at h
  by_cases hk : k = 2 ∧ free = true
  · have h0 : kindN k inf a.id = 0 := by
      unfold kindN
      rw [if_neg (by omega), if_neg (by omega), if_neg (by omega)]
    rw [kindStep, h0, if_neg (by omega), headStep, if_pos hk]
  · rw [if_neg hk] at h
    exact absurd h (kn_ne _)
theorem kindN_pos (h : 0 < kindN k inf a.id) : (k = 13 ∧ inf = figS ∧ kindN k inf a.id = 1) ∨ (k = 13 ∧ inf = tabS ∧ kindN k inf a.id = 2) ∨ (k = 4 ∧ kindN k inf a.id = 3) := by
  unfold kindN at h ⊢
  by_cases h1 : k = 13 ∧ inf = figS
  · rw [if_pos h1]; exact .inl ⟨h1.1, h1.2, rfl⟩
  · rw [if_neg h1] at h ⊢
    by_cases h2 : k = 13 ∧ inf = tabS
    · rw [if_pos h2]; exact .inr (.inl ⟨h2.1, h2.2, rfl⟩)
    · rw [if_neg h2] at h ⊢
      by_cases h3 : k = 4 ∧ a.id ≠ []
      · rw [if_pos h3]; exact .inr (.inr ⟨h3.1, rfl⟩)
      · rw [if_neg h3] at h; omega
theorem caseK (h0 : kindOfS k free inf a.id ≠ secS) (h : kindOfS k free inf a.id ≠ []) : 0 < kindN k inf a.id ∧ kindOfS k free inf a.id = kindS (kindN k inf a.id) ∧ kindStep k inf a kids (headStep free k lv a line X) = ⟨X.f, setF X.g (kindN k inf a.id) (X.g (kindN k inf a.id) + 1), X.out ++ [⟨a.id, kindOfS k free inf a.id, dec (X.g (kindN k inf a.id) + 1), capIf k kids⟩]⟩ := by
  unfold kindOfS at h0 h ⊢
  by_cases hk : k = 2 ∧ free = true
  · rw [if_pos hk] at h0; exact absurd rfl h0
  · rw [if_neg hk] at h0 h ⊢
    have hp : kindN k inf a.id ≠ 0 := by
      intro e
      rw [e] at h
      exact h rfl
    have hks : knS (kindN k inf a.id) = kindS (kindN k inf a.id) := by unfold knS; rw [if_neg hp]
    rw [hks, kindStep, if_pos (by omega), headStep, if_neg hk]
    exact ⟨by omega, rfl, rfl⟩
theorem caseFT (h : kindOfS k free inf a.id = figS ∨ kindOfS k free inf a.id = tabS) : ∃ n, 1 ≤ n ∧ n ≤ 3 ∧ kindOfS k free inf a.id = kindS n ∧ kindStep k inf a kids (headStep free k lv a line X) = ⟨X.f, setF X.g n (X.g n + 1), X.out ++ [⟨a.id, kindOfS k free inf a.id, dec (X.g n + 1), capOf kids⟩]⟩ := by
  obtain ⟨h1, h2, h3⟩ := caseK (k := k) (lv := lv) (free := free) (inf := inf) (a := a) (line := line) (kids := kids) (X := X) (by rcases h with h | h <;> rw [h] <;> decide) (by rcases h with h | h <;> rw [h] <;> decide)
  have h4 := kindN_le k inf a.id
  refine ⟨kindN k inf a.id, h1, h4, h2, ?_⟩
  rw [h3]
  have hk : k = 13 := by
    rcases kindN_pos h1 with ⟨e, _⟩ | ⟨e, _⟩ | ⟨e, e2⟩
    · exact e
    · exact e
    · rw [h2, e2] at h
      rcases h with h | h <;> exact absurd h (by decide)
  rw [capIf, if_pos hk]
theorem caseEq (h : kindOfS k free inf a.id = equS) : kindStep k inf a kids (headStep free k lv a line X) = ⟨X.f, setF X.g 3 (X.g 3 + 1), X.out ++ [⟨a.id, kindOfS k free inf a.id, dec (X.g 3 + 1), []⟩]⟩ := by
  obtain ⟨h1, h2, h3⟩ := caseK (k := k) (lv := lv) (free := free) (inf := inf) (a := a) (line := line) (kids := kids) (X := X) (by rw [h]; decide) (by rw [h]; decide)
  rw [h3]
  rcases kindN_pos h1 with ⟨e, _, e2⟩ | ⟨e, _, e2⟩ | ⟨e, e2⟩
  · rw [h2, e2] at h; exact absurd h (by decide)
  · rw [h2, e2] at h; exact absurd h (by decide)
  · rw [e2, capIf, if_neg (by omega)]
theorem caseNo (h0 : kindOfS k free inf a.id ≠ secS) (h1 : kindOfS k free inf a.id ≠ figS) (h2 : kindOfS k free inf a.id ≠ tabS) (h3 : kindOfS k free inf a.id ≠ equS) : kindOfS k free inf a.id = [] ∧ kindStep k inf a kids (headStep free k lv a line X) = X := by
  unfold kindOfS at h0 h1 h2 h3 ⊢
  by_cases hk : k = 2 ∧ free = true
  · rw [if_pos hk] at h0; exact absurd rfl h0
  · rw [if_neg hk] at h1 h2 h3 ⊢
    have hz : kindN k inf a.id = 0 := by
      cases Nat.eq_zero_or_pos (kindN k inf a.id) with
      | inl e => exact e
      | inr e =>
        rcases kindN_pos e with ⟨_, _, e⟩ | ⟨_, _, e⟩ | ⟨_, e⟩
        · rw [e] at h1; exact absurd rfl h1
        · rw [e] at h2; exact absurd rfl h2
        · rw [e] at h3; exact absurd rfl h3
    rw [hz, kindStep, hz, if_neg (by omega), headStep, if_neg hk]
    exact ⟨rfl, rfl⟩
end
end Go.Proofs.Ythnboadnehbciaa
