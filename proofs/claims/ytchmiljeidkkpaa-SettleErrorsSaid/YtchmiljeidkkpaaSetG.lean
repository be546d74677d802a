/- Settle: plain facts on how the rounds end; the chapter's examples. -/
import Derived.Test.YtchmiljeidkkpaaSetF
namespace Go.Proofs.Ytchmiljeidkkpaa
open Go Go.Eng

section
variable {α : Type} {f : Nat → α}
/-- the first repetition is one -/
theorem Ends.rep {m k j : Nat} {e : Int} (h : Ends f m k j e) (he : e ≠ 18) : j < k ∧ f k = f j := by
  obtain ⟨_, _, _, h⟩ := h
  rcases h with ⟨_, h1, h2⟩ | ⟨_, h1, h2⟩ | ⟨h0, _⟩
  · exact ⟨by omega, h2⟩
  · exact ⟨by omega, h2⟩
  · exact absurd h0 he
theorem Ends.le {m k j m' k' j' : Nat} {e e' : Int} (h : Ends f m k j e) (h' : Ends f m' k' j' e') (he : e ≠ 18) (he' : e' ≠ 18) : k = k' := by
  obtain ⟨a1, a2⟩ := h.rep he
  obtain ⟨b1, b2⟩ := h'.rep he'
  obtain ⟨_, _, hd, _⟩ := h
  obtain ⟨_, _, hd', _⟩ := h'
  rcases Nat.lt_trichotomy k k' with hlt | heq | hgt
  · exact absurd a2.symm (hd' j k a1 hlt)
  · exact heq
  · exact absurd b2.symm (hd j' k' b1 hgt)
theorem Ends.budget {m k j m' k' j' : Nat} {e e' : Int} (h : Ends f m k j e) (h' : Ends f m' k' j' e') (he : e = 18) (he' : e' ≠ 18) : m < k' := by
  obtain ⟨b1, b2⟩ := h'.rep he'
  obtain ⟨_, _, hd, h⟩ := h
  rcases h with ⟨h0, _⟩ | ⟨h0, _⟩ | ⟨_, hk, _, hno⟩
  · omega
  · omega
  · subst hk
    rcases Nat.lt_trichotomy k' k with hlt | heq | hgt
    · exact absurd b2.symm (hd j' k' b1 hlt)
    · subst heq; exact absurd b2 (hno j' b1)
    · exact hgt
theorem Ends.same {m k j k' j' : Nat} {e e' : Int} (h : Ends f m k j e) (h' : Ends f m k' j' e') (hk : k = k') : j = j' ∧ e = e' := by
  subst hk
  obtain ⟨_, _, hd, h⟩ := h
  obtain ⟨_, _, _, h'⟩ := h'
  have key : ∀ {a b : Nat}, a < k → b < k → f k = f a → f k = f b → a = b := by
    intro a b ha hb h1 h2
    rcases Nat.lt_trichotomy a b with hlt | heq | hgt
    · exact absurd (h1.symm.trans h2) (hd a b hlt hb)
    · exact heq
    · exact absurd (h2.symm.trans h1) (hd b a hgt ha)
  rcases h with ⟨e0, h1, h2⟩ | ⟨e0, h1, h2⟩ | ⟨e0, hk, hj, hno⟩ <;> rcases h' with ⟨e0', h1', h2'⟩ | ⟨e0', h1', h2'⟩ | ⟨e0', hk', hj', hno'⟩
  · exact ⟨by omega, by omega⟩
  · have := key (by omega) (by omega) h2 h2'; omega
  · exact absurd h2 (hno' j (by omega))
  · have := key (by omega) (by omega) h2 h2'; omega
  · exact ⟨key (by omega) (by omega) h2 h2', by omega⟩
  · exact absurd h2 (hno' j (by omega))
  · exact absurd h2' (hno j' (by omega))
  · exact absurd h2' (hno j' (by omega))
  · exact ⟨by omega, by omega⟩
theorem Ends.unique {m k j k' j' : Nat} {e e' : Int} (h : Ends f m k j e) (h' : Ends f m k' j' e') : k = k' ∧ j = j' ∧ e = e' := by
  have hk : k = k' := by
    by_cases he : e = 18 <;> by_cases he' : e' = 18
    · obtain ⟨_, _, _, h⟩ := h
      obtain ⟨_, _, _, h'⟩ := h'
      rcases h with ⟨h0, _⟩ | ⟨h0, _⟩ | ⟨_, hk, _, hno⟩ <;> rcases h' with ⟨h0', _⟩ | ⟨h0', _⟩ | ⟨_, hk', _, hno'⟩ <;> omega
    · have := h.budget h' he he'
      have := h'.2.1
      omega
    · have := h'.budget h he' he
      have := h.2.1
      omega
    · exact h.le h' he he'
  exact ⟨hk, h.same h' hk⟩
theorem Ends.more {m m' k j : Nat} {e : Int} (h : Ends f m k j e) (he : e ≠ 18) (hm : m ≤ m') : Ends f m' k j e := by
  obtain ⟨h1, h2, h3, h4⟩ := h
  refine ⟨h1, by omega, h3, ?_⟩
  rcases h4 with h4 | h4 | ⟨h0, _⟩
  · exact .inl h4
  · exact .inr (.inl h4)
  · exact absurd h0 he
theorem Ends.kinds {m k j : Nat} {e : Int} (h : Ends f m k j e) : e = 0 ∨ e = 10 ∨ e = 18 := by
  rcases h.2.2.2 with ⟨h, _⟩ | ⟨h, _⟩ | ⟨h, _⟩ <;> simp [h]
end

theorem ends_doubled : Ends (itI 1) 9 4 3 0 := by
  refine ⟨by omega, by omega, ?_, .inl ⟨rfl, rfl, rfl⟩⟩
  intro a b h1 h2
  have : b ≤ 3 := by omega
  match b, a, h1, this with
  | 1, 0, _, _ => decide
  | 2, 0, _, _ => decide
  | 2, 1, _, _ => decide
  | 3, 0, _, _ => decide
  | 3, 1, _, _ => decide
  | 3, 2, _, _ => decide

theorem awake_fn (u : View) : FnP Try.prog 10 [] u fun v _ => v = .bool true := by
  refine FnP.intro [.tmp 0] Try.func10 rfl rfl rfl ?_
  intro w0 hw0
  refine wc_seq ?_
  refine wc_region ?_
  refine rl_y (y_assign rfl rfl) rfl ?_
  refine rl_end (ρ' := []) trivial ?_
  refine q_then ?_
  refine wc_seq ?_
  refine wc_region ?_
  refine rl_call_f (caps := []) rfl rfl Try.c19 rfl (FnP.mono (runI_fn 1 (by omega) 9 _) ?_)
  rintro v u1 hle1 hv
  rw [if_pos (by omega)] at hv
  obtain ⟨k, j, e, hE, rfl⟩ := hv
  obtain ⟨rfl, rfl, rfl⟩ := hE.unique ends_doubled
  have hval : setResI 1 4 3 0 = .tuple #[.int .i64 8, .int .i64 4, .int .i64 0, .int .i64 0] := rfl
  rw [hval]
  refine rl_y (y_move rfl rfl) rfl ?_
  refine rl_y (y_extract rfl rfl rfl) rfl ?_
  refine rl_y (y_extract rfl rfl rfl) rfl ?_
  refine rl_y (y_extract rfl rfl rfl) rfl ?_
  refine rl_y (y_extract rfl rfl rfl) rfl ?_
  refine rl_y (y_assign rfl rfl) rfl ?_
  refine rl_y (y_assign rfl rfl) rfl ?_
  refine rl_y (y_assign rfl rfl) rfl ?_
  refine rl_y (y_assign rfl rfl) rfl ?_
  refine rl_end (ρ' := [(1, _), (2, _), (3, _), (4, _)]) ⟨rfl, rfl, rfl, rfl, trivial⟩ ?_
  refine q_then ?_
  refine wc_seq ?_
  refine wc_region ?_
  refine rl_call_f (caps := []) rfl rfl Try.c19 rfl (FnP.mono (runI_fn 1 (by omega) 0 _) ?_)
  rintro v u1 hle1 hv
  rw [if_neg (by omega)] at hv
  subst hv
  refine rl_y (y_move rfl rfl) rfl ?_
  refine rl_y (y_extract rfl rfl rfl) rfl ?_
  refine rl_y (y_extract rfl rfl rfl) rfl ?_
  refine rl_y (y_extract rfl rfl rfl) rfl ?_
  refine rl_y (y_extract rfl rfl rfl) rfl ?_
  refine rl_y (y_assign rfl rfl) rfl ?_
  refine rl_y (y_assign rfl rfl) rfl ?_
  refine rl_y (y_assign rfl rfl) rfl ?_
  refine rl_y (y_assign rfl rfl) rfl ?_
  refine rl_end (ρ' := [(1, _), (2, _), (3, _), (4, _), (8, _)]) ⟨rfl, rfl, rfl, rfl, rfl, trivial⟩ ?_
  refine q_then ?_
  refine wc_seq ?_
  refine wc_region ?_
  refine rl_y (y_move rfl rfl) rfl ?_
  refine rl_y (y_eql rfl rfl rfl) rfl ?_
  refine rl_y (y_move rfl rfl) rfl ?_
  refine rl_on rfl rfl ?_
  refine rl_y (y_move rfl rfl) rfl ?_
  refine rl_on rfl rfl ?_
  refine rl_y (y_eql rfl rfl rfl) rfl ?_
  refine rl_y (y_pick_t rfl rfl rfl) rfl ?_
  refine rl_y (y_move rfl rfl) rfl ?_
  refine rl_on rfl rfl ?_
  refine rl_y (y_move rfl rfl) rfl ?_
  refine rl_on rfl rfl ?_
  refine rl_y (y_eql rfl rfl rfl) rfl ?_
  refine rl_y (y_pick_t rfl rfl rfl) rfl ?_
  refine rl_y (y_move rfl rfl) rfl ?_
  refine rl_on rfl rfl ?_
  refine rl_y (y_move rfl rfl) rfl ?_
  refine rl_on rfl rfl ?_
  refine rl_y (y_eql rfl rfl rfl) rfl ?_
  refine rl_y (y_pick_t rfl rfl rfl) rfl ?_
  refine rl_y (y_move rfl rfl) rfl ?_
  refine rl_on rfl rfl ?_
  refine rl_y (y_move rfl rfl) rfl ?_
  refine rl_on rfl rfl ?_
  refine rl_y (y_eql rfl rfl rfl) rfl ?_
  refine rl_y (y_pick_t rfl rfl rfl) rfl ?_
  refine rl_y (y_assign rfl rfl) rfl ?_
  refine rl_end (ρ' := [(0, _)]) ⟨rfl, trivial⟩ ?_
  refine q_then ?_
  refine wc_ret ?_
  refine fin1 (.tmp rfl) ?_
  rfl
end Go.Proofs.Ytchmiljeidkkpaa
