/- Font: a text and a part of it are read alike. No program in sight. -/
import Derived.Test.YtceodelgalfjfaaDoorFontW
namespace Go.Proofs.Ytceodelgalfjfaa
open Go Go.Eng
set_option linter.unusedSimpArgs false
set_option linter.unusedVariables false

theorem mo_app (a b : List UInt8) (i : Nat) (lo hi : Int) : mo a i lo hi = if i < a.length then mo (a ++ b) i lo hi else -1 := by
  by_cases h : i < a.length
  · rw [if_pos h]
    unfold mo
    rw [List.getElem?_append_left h]
  · rw [if_neg h]
    unfold mo
    rw [List.getElem?_eq_none (by omega)]
theorem mo_shift (a b : List UInt8) (q : Nat) (lo hi : Int) : mo (a ++ b) (a.length + q) lo hi = mo b q lo hi := by
  unfold mo
  rw [List.getElem?_append_right (by omega), Nat.add_sub_cancel_left]

theorem pt_of_full (a b : List UInt8) (p : Nat) (c : Int) (h : (p : Int) + (pt (a ++ b) p c).2 ≤ a.length) : pt a p c = pt (a ++ b) p c := by
  unfold pt at h ⊢
  by_cases c1 : c < 128
  · simp only [if_pos c1]
  simp only [if_neg c1] at h ⊢
  by_cases c2 : 194 ≤ c ∧ c ≤ 223
  · simp only [if_pos c2] at h ⊢
    rw [mo_app a b (p + 1)]
    by_cases h1 : p + 1 < a.length
    · simp only [if_pos h1]
    · simp only [if_neg h1]
      by_cases h2 : 0 ≤ mo (a ++ b) (p + 1) 128 191
      · rw [if_pos h2] at h; dsimp only at h; omega
      · rw [if_neg h2, if_neg (by omega)]
  simp only [if_neg c2] at h ⊢
  by_cases c3 : 224 ≤ c ∧ c ≤ 239
  · simp only [if_pos c3] at h ⊢
    unfold thr at h ⊢
    rw [mo_app a b (p + 1), mo_app a b (p + 2)]
    generalize mo (a ++ b) (p + 1) (if c = 224 then 160 else 128) (if c = 237 then 159 else 191) = m1 at *
    generalize mo (a ++ b) (p + 2) 128 191 = m2 at *
    by_cases h2 : m1 < 0 ∨ m2 < 0
    · rw [if_pos h2, if_pos]
      rcases h2 with h2 | h2
      · left; split <;> omega
      · right; split <;> omega
    · rw [if_neg h2] at h
      dsimp only at h
      simp only [if_pos (show p + 1 < a.length by omega), if_pos (show p + 2 < a.length by omega)]
  simp only [if_neg c3] at h ⊢
  by_cases c4 : 240 ≤ c ∧ c ≤ 244
  · simp only [if_pos c4] at h ⊢
    unfold fou at h ⊢
    rw [mo_app a b (p + 1), mo_app a b (p + 2), mo_app a b (p + 3)]
    generalize mo (a ++ b) (p + 1) (if c = 240 then 144 else 128) (if c = 244 then 143 else 191) = m1 at *
    generalize mo (a ++ b) (p + 2) 128 191 = m2 at *
    generalize mo (a ++ b) (p + 3) 128 191 = m3 at *
    by_cases h2 : (m1 < 0 ∨ m2 < 0) ∨ m3 < 0
    · rw [if_pos h2, if_pos]
      rcases h2 with (h2 | h2) | h2
      · left; left; split <;> omega
      · left; right; split <;> omega
      · right; split <;> omega
    · rw [if_neg h2] at h
      dsimp only at h
      simp only [if_pos (show p + 1 < a.length by omega), if_pos (show p + 2 < a.length by omega), if_pos (show p + 3 < a.length by omega)]
  simp only [if_neg c4] at h ⊢

theorem pt_of_part (a b : List UInt8) (p : Nat) (c : Int) (h : pt a p c ≠ (65533, 1)) : pt (a ++ b) p c = pt a p c := by
  unfold pt at h ⊢
  by_cases c1 : c < 128
  · simp only [if_pos c1]
  simp only [if_neg c1] at h ⊢
  by_cases c2 : 194 ≤ c ∧ c ≤ 223
  · simp only [if_pos c2] at h ⊢
    rw [mo_app a b (p + 1)] at h ⊢
    by_cases h1 : p + 1 < a.length
    · simp only [if_pos h1]
    · simp only [if_neg h1] at h
      exact absurd (by rw [if_neg (by omega)]) h
  simp only [if_neg c2] at h ⊢
  by_cases c3 : 224 ≤ c ∧ c ≤ 239
  · simp only [if_pos c3] at h ⊢
    unfold thr at h ⊢
    rw [mo_app a b (p + 1), mo_app a b (p + 2)] at h ⊢
    by_cases h1 : p + 1 < a.length
    · by_cases h2 : p + 2 < a.length
      · simp only [if_pos h1, if_pos h2]
      · exact absurd (by rw [if_pos (.inr (by rw [if_neg h2]; omega))]) h
    · exact absurd (by rw [if_pos (.inl (by rw [if_neg h1]; omega))]) h
  simp only [if_neg c3] at h ⊢
  by_cases c4 : 240 ≤ c ∧ c ≤ 244
  · simp only [if_pos c4] at h ⊢
    unfold fou at h ⊢
    rw [mo_app a b (p + 1), mo_app a b (p + 2), mo_app a b (p + 3)] at h ⊢
    by_cases h1 : p + 1 < a.length
    · by_cases h2 : p + 2 < a.length
      · by_cases h3 : p + 3 < a.length
        · simp only [if_pos h1, if_pos h2, if_pos h3]
        · exact absurd (by rw [if_pos (.inr (by rw [if_neg h3]; omega))]) h
      · exact absurd (by rw [if_pos (.inl (.inr (by rw [if_neg h2]; omega)))]) h
    · exact absurd (by rw [if_pos (.inl (.inl (by rw [if_neg h1]; omega)))]) h
  simp only [if_neg c4] at h ⊢

theorem pt_shift (a b : List UInt8) (q : Nat) (c : Int) : pt (a ++ b) (a.length + q) c = pt b q c := by
  unfold pt thr fou
  simp only [Nat.add_assoc, mo_shift]

theorem dec_of_pt {l m : List UInt8} {p q : Nat} {x : UInt8} (hx : l[p]? = some x) (hy : m[q]? = some x) (h : pt l p x.toNat = pt m q x.toNat) : dec l p = dec m q := by
  rw [pt_dec l p x hx, pt_dec m q x hy] at h
  simp only [Prod.mk.injEq] at h
  exact Prod.ext h.1 (by omega)

theorem dec_take {l : List UInt8} {n p : Nat} (hn : n ≤ l.length) (hp : p < n) (h : p + (dec l p).2 ≤ n) : dec (l.take n) p = dec l p := by
  have he : l.take n ++ l.drop n = l := List.take_append_drop n l
  have hlen : (l.take n).length = n := by simp; omega
  obtain ⟨x, hx⟩ : ∃ x, l[p]? = some x := ⟨_, List.getElem?_eq_getElem (by omega)⟩
  have hx2 : (l.take n)[p]? = some x := by rw [List.getElem?_take_of_lt hp]; exact hx
  refine dec_of_pt hx2 hx ?_
  have := pt_of_full (l.take n) (l.drop n) p x.toNat (by rw [he, pt_dec l p x hx, hlen]; dsimp only; omega)
  rw [he] at this
  exact this
theorem dec_app {a b : List UInt8} {p : Nat} (hp : p < a.length) (h : dec a p ≠ (65533, 1)) : dec (a ++ b) p = dec a p := by
  obtain ⟨x, hx⟩ : ∃ x, a[p]? = some x := ⟨_, List.getElem?_eq_getElem hp⟩
  have hx2 : (a ++ b)[p]? = some x := by rw [List.getElem?_append_left hp]; exact hx
  refine dec_of_pt hx2 hx (pt_of_part a b p x.toNat ?_)
  rw [pt_dec a p x hx]
  intro he
  simp only [Prod.mk.injEq] at he
  exact h (Prod.ext he.1 (by dsimp only; omega))
theorem dec_shift {a b : List UInt8} {q : Nat} (hq : q < b.length) : dec (a ++ b) (a.length + q) = dec b q := by
  obtain ⟨x, hx⟩ : ∃ x, b[q]? = some x := ⟨_, List.getElem?_eq_getElem hq⟩
  have hx2 : (a ++ b)[a.length + q]? = some x := by rw [List.getElem?_append_right (by omega), Nat.add_sub_cancel_left]; exact hx
  exact dec_of_pt hx2 hx (pt_shift a b q x.toNat)

/-! ### what fits -/
theorem fitF_ge (l : List UInt8) (w : Int) : ∀ n p s, p ≤ l.length → p ≤ fitF l w n p s
  | 0, p, s, h => by simp only [fitF]; exact h
  | n + 1, p, s, h => by
    simp only [fitF]
    split
    · rename_i hp
      split
      · omega
      · have := fitF_ge l w n (p + (dec l p).2) (s + wid (dec l p).1) (dec_end l p hp); omega
    · exact h
theorem fitF_le (l : List UInt8) (w : Int) : ∀ n p s, fitF l w n p s ≤ l.length
  | 0, p, s => by simp only [fitF]; omega
  | n + 1, p, s => by
    simp only [fitF]
    split
    · split
      · omega
      · exact fitF_le l w n _ _
    · omega
theorem fitF_mono (l : List UInt8) (w w' : Int) (h : w ≤ w') : ∀ n p s, fitF l w n p s ≤ fitF l w' n p s
  | 0, p, s => by simp only [fitF]; omega
  | n + 1, p, s => by
    simp only [fitF]
    split
    · rename_i hp
      by_cases h1 : w < s + wid (dec l p).1
      · rw [if_pos h1]
        split
        · omega
        · have := fitF_ge l w' n (p + (dec l p).2) (s + wid (dec l p).1) (dec_end l p hp); omega
      · rw [if_neg h1, if_neg (by omega)]
        exact fitF_mono l w w' h n _ _
    · omega
theorem fitF_full (l : List UInt8) (w : Int) : ∀ n p s, s + wsum l n p ≤ w → fitF l w n p s = l.length
  | 0, p, s, h => rfl
  | n + 1, p, s, h => by
    simp only [fitF]
    split
    · rename_i hp
      simp only [wsum] at h
      rw [if_pos hp] at h
      have := wsum_range l n (p + (dec l p).2)
      rw [if_neg (by omega)]
      exact fitF_full l w n _ _ (by omega)
    · rfl
theorem fitF_fits (l : List UInt8) (w : Int) : ∀ n p s k, s ≤ w → p ≤ l.length → l.length ≤ p + n → s + wsum (l.take (fitF l w n p s)) k p ≤ w
  | 0, p, s, k, h, hp, hf => by rw [wsum_over (by simp; omega)]; omega
  | n + 1, p, s, k, h, hp, hf => by
    have hge := fitF_ge l w (n + 1) p s hp
    have hle := fitF_le l w (n + 1) p s
    by_cases h0 : fitF l w (n + 1) p s ≤ p
    · rw [wsum_over (by simp; omega)]; omega
    · cases k with
      | zero => simp only [wsum]; omega
      | succ k =>
        have hlen : (l.take (fitF l w (n + 1) p s)).length = fitF l w (n + 1) p s := by simp; omega
        simp only [wsum]
        rw [hlen, if_pos (by omega)]
        by_cases h1 : w < s + wid (dec l p).1
        · exfalso
          apply h0
          simp only [fitF]
          rw [if_pos (by omega), if_pos h1]
          exact Nat.le_refl _
        · have he : fitF l w (n + 1) p s = fitF l w n (p + (dec l p).2) (s + wid (dec l p).1) := by
            simp only [fitF]
            rw [if_pos (by omega), if_neg h1]
          have hde := dec_end l p (by omega)
          have hge2 := fitF_ge l w n (p + (dec l p).2) (s + wid (dec l p).1) hde
          rw [dec_take hle (by omega) (by omega), he]
          have hdp := dec_pos l p (by omega)
          have h2 := fitF_fits l w n (p + (dec l p).2) (s + wid (dec l p).1) k (by omega) hde (by omega)
          omega

theorem fitOf_le (l : List UInt8) (w : Int) : fitOf l w ≤ l.length := by
  unfold fitOf
  split
  · omega
  · exact fitF_le l w _ _ _
theorem fitOf_own (l : List UInt8) : fitOf l (wideOf l) = l.length := by
  have := wsum_range l l.length 0
  unfold fitOf
  rw [if_neg (by unfold wideOf; omega)]
  exact fitF_full l _ _ _ _ (by unfold wideOf; omega)
theorem fitOf_mono (l : List UInt8) {w w' : Int} (h : w ≤ w') : fitOf l w ≤ fitOf l w' := by
  unfold fitOf
  split
  · omega
  · rw [if_neg (by omega)]
    exact fitF_mono l w w' h _ _ _
theorem fitOf_fits (l : List UInt8) {w : Int} (h : 0 ≤ w) : wideOf (l.take (fitOf l w)) ≤ w := by
  unfold wideOf
  have := fitF_fits l w l.length 0 0 (l.take (fitOf l w)).length h (by omega) (by omega)
  unfold fitOf at this ⊢
  rw [if_neg (by omega)] at this ⊢
  omega

theorem law_fits (l : List UInt8) (width more : Int) (u : View) (hT : TabU u) : FnP Tryd.prog 7 [str l, .int .i64 width, .int .i64 more] u fun v _ => v = .bool true := by
  have hle := fitOf_le l width
  refine FnP.intro [.tmp 6] Tryd.func7 rfl rfl rfl ?_
  intro w0 hw0
  refine wc_seq ?_
  refine wc_region ?_
  refine rl_y (y_assign rfl rfl) rfl ?_
  refine rl_end (ρ' := [(0, _), (1, _), (2, _)]) ⟨rfl, rfl, rfl, trivial⟩ ?_
  refine q_then ?_
  refine wc_seq ?_
  refine wc_seq ?_
  refine wc_region ?_
  refine rl_y (y_move rfl rfl) rfl ?_
  refine rl_y (y_len_str rfl rfl Tryd.str9 rfl) rfl ?_
  refine rl_y (y_gtr rfl rfl rfl) rfl ?_
  refine rl_end (ρ' := [(0, _), (1, _), (2, _), (10, _)]) ⟨rfl, rfl, rfl, rfl, trivial⟩ ?_
  refine q_then ?_
  refine wc_cond rfl (fun hb1 => ?_) (fun hb1 => ?_)
  ·
    skip
    refine wc_seq ?_
    refine wc_region ?_
    refine rl_call_f (caps := []) rfl rfl Tryd.c10 rfl (FnP.mono (awake_fn _ hT) ?_)
    rintro v u1 hle1 rfl
    refine rl_y (y_assign rfl rfl) rfl ?_
    refine rl_end (ρ' := [(6, _)]) ⟨rfl, trivial⟩ ?_
    refine q_then ?_
    refine wc_ret ?_
    refine q_then_ret ?_
    refine fin1 (.tmp rfl) ?_
    rfl
  ·
    have hl : l.length ≤ 800 := by have := of_decide_eq_false hb1; omega
    refine wc_skip ?_
    refine q_then ?_
    refine wc_seq ?_
    refine wc_region ?_
    refine rl_y (y_move rfl rfl) rfl ?_
    refine rl_y (y_move rfl rfl) rfl ?_
    refine rl_call_f (caps := []) rfl rfl Tryd.c17 rfl (FnP.mono (fit_fn l (by omega) width _ hT) ?_)
    rintro v u1 hle1 rfl
    refine rl_y (y_assign rfl rfl) rfl ?_
    refine rl_end (ρ' := [(0, _), (1, _), (2, _), (7, _)]) ⟨rfl, rfl, rfl, rfl, trivial⟩ ?_
    refine q_then ?_
    refine wc_seq ?_
    refine wc_seq ?_
    refine wc_region ?_
    refine rl_y (y_move rfl rfl) rfl ?_
    refine rl_y (y_move rfl rfl) rfl ?_
    refine rl_y (y_move rfl rfl) rfl ?_
    refine rl_call_f (caps := []) rfl rfl Tryd.c18 rfl (FnP.mono (rfit_fn l (by omega) width _) ?_)
    rintro v u1 hle1 rfl
    refine rl_y (y_neq rfl rfl rfl) rfl ?_
    rw [decide_eq_false (show ¬ ((fitOf l width : Nat) : Int) ≠ (fitOf l width : Nat) from fun h => h rfl)]
    refine rl_y (y_move rfl rfl) rfl ?_
    refine rl_on rfl rfl ?_
    refine rl_y (y_move rfl rfl) rfl ?_
    refine rl_on rfl rfl ?_
    refine rl_y (y_lss rfl rfl rfl) rfl ?_
    rw [decide_eq_false (show ¬ ((fitOf l width : Nat) : Int) < 0 by omega)]
    refine rl_y (y_pick_f rfl rfl rfl) rfl ?_
    refine rl_y (y_move rfl rfl) rfl ?_
    refine rl_on rfl rfl ?_
    refine rl_y (y_move rfl rfl) rfl ?_
    refine rl_on rfl rfl ?_
    refine rl_y (y_move rfl rfl) rfl ?_
    refine rl_on rfl rfl ?_
    refine rl_y (y_len_str rfl rfl Tryd.str9 rfl) rfl ?_
    refine rl_on rfl rfl ?_
    refine rl_y (y_gtr rfl rfl rfl) rfl ?_
    rw [decide_eq_false (show ¬ ((l.length : Nat) : Int) < (fitOf l width : Nat) by omega)]
    refine rl_y (y_pick_f rfl rfl rfl) rfl ?_
    refine rl_y (y_move rfl rfl) rfl ?_
    refine rl_on rfl rfl ?_
    refine rl_y (y_move rfl rfl) rfl ?_
    refine rl_on rfl rfl ?_
    refine rl_y (y_move rfl rfl) rfl ?_
    refine rl_on rfl rfl ?_
    refine rl_call_f (caps := []) rfl rfl Tryd.c11 rfl (FnP.mono (wide_str_fn l (by omega) _ hT) ?_)
    rintro v u1 hle1 rfl
    refine rl_on rfl rfl ?_
    refine rl_call_f (caps := []) rfl rfl Tryd.c17 rfl (FnP.mono (fit_fn l (by omega) (wideOf l) _ hT) ?_)
    rintro v u1 hle1 rfl
    rw [fitOf_own]
    refine rl_on rfl rfl ?_
    refine rl_y (y_move rfl rfl) rfl ?_
    refine rl_on rfl rfl ?_
    refine rl_y (y_len_str rfl rfl Tryd.str9 rfl) rfl ?_
    refine rl_on rfl rfl ?_
    refine rl_y (y_neq rfl rfl rfl) rfl ?_
    rw [decide_eq_false (show ¬ ((l.length : Nat) : Int) ≠ (l.length : Nat) from fun h => h rfl)]
    refine rl_y (y_pick_f rfl rfl rfl) rfl ?_
    refine rl_end (ρ' := [(0, _), (1, _), (2, _), (7, _), (38, _)]) ⟨rfl, rfl, rfl, rfl, rfl, trivial⟩ ?_
    refine q_then ?_
    refine wc_cond_f rfl (rfl) ?_
    refine wc_skip ?_
    refine q_then ?_
    refine wc_seq ?_
    refine wc_seq ?_
    refine wc_cutB 48 (false) (ρk := [(0, _), (1, _), (2, _), (7, _)]) ⟨rfl, rfl, rfl, rfl, trivial⟩ ?_ ?_
    ·
      refine wc_region ?_
      refine rl_y (y_move rfl rfl) rfl ?_
      refine rl_y (y_geq rfl rfl rfl) rfl ?_
      refine rl_y (y_move rfl rfl) rfl ?_
      rcases Bool.eq_false_or_eq_true (decide (0 ≤ width)) with hg6_2 | hg6_2
      ·
        simp only [hg6_2]
        refine rl_on rfl rfl ?_
        refine rl_y (y_move rfl rfl) rfl ?_
        refine rl_on rfl rfl ?_
        refine rl_y (y_move rfl rfl) rfl ?_
        refine rl_on rfl rfl ?_
        refine rl_y (y_slice_str rfl Tryd.str9 rfl (k := .i64) (i := 0) (j := fitOf l width) rfl rfl (by omega) hle) rfl ?_
        refine rl_on rfl rfl ?_
        refine rl_call_f (caps := []) rfl rfl Tryd.c12 rfl (FnP.mono (rwide_str_fn ((l.drop 0).take (fitOf l width - 0)) (by simp; omega) _) ?_)
        rintro v u1 hle1 rfl
        refine rl_on rfl rfl ?_
        refine rl_y (y_move rfl rfl) rfl ?_
        refine rl_on rfl rfl ?_
        refine rl_y (y_gtr rfl rfl rfl) rfl ?_
        rw [decide_eq_false (show ¬ width < wideOf ((l.drop 0).take (fitOf l width - 0)) by have := fitOf_fits l (of_decide_eq_true hg6_2); simp only [List.drop_zero, Nat.sub_zero]; omega)]
        refine rl_y (y_pick_t rfl rfl rfl) rfl ?_
        exact cutB_end rfl ⟨rfl, rfl, rfl, rfl, trivial⟩ (rfl)
      ·
        simp only [hg6_2]
        refine rl_off rfl rfl rfl rfl ?_
        refine rl_off rfl rfl rfl rfl ?_
        refine rl_off rfl rfl rfl rfl ?_
        refine rl_off rfl rfl rfl rfl ?_
        refine rl_off rfl rfl rfl rfl ?_
        refine rl_off rfl rfl rfl rfl ?_
        refine rl_y (y_pick_f rfl rfl rfl) rfl ?_
        exact cutB_end rfl ⟨rfl, rfl, rfl, rfl, trivial⟩ (rfl)
    refine q_then ?_
    refine wc_cond_f rfl (rfl) ?_
    refine wc_skip ?_
    refine q_then ?_
    refine wc_seq ?_
    refine wc_region ?_
    refine rl_y (y_move rfl rfl) rfl ?_
    refine rl_y (y_move rfl rfl) rfl ?_
    refine rl_y (y_lss rfl rfl rfl) rfl ?_
    refine rl_y (y_move rfl rfl) rfl ?_
    rcases Bool.eq_false_or_eq_true (decide (more < width)) with hg8_3 | hg8_3
    ·
      simp only [hg8_3]
      refine rl_off rfl rfl rfl rfl ?_
      refine rl_off rfl rfl rfl rfl ?_
      refine rl_off rfl rfl rfl rfl ?_
      refine rl_off rfl rfl rfl rfl ?_
      refine rl_off rfl rfl rfl rfl ?_
      refine rl_y (y_pick_t rfl rfl rfl) rfl ?_
      refine rl_y (y_move rfl rfl) rfl ?_
      refine rl_on rfl rfl ?_
      refine rl_call_f (caps := []) rfl rfl Tryd.c10 rfl (FnP.mono (awake_fn _ hT) ?_)
      rintro v u1 hle1 rfl
      refine rl_y (y_pick_t rfl rfl rfl) rfl ?_
      refine rl_y (y_assign rfl rfl) rfl ?_
      refine rl_end (ρ' := [(6, _)]) ⟨rfl, trivial⟩ ?_
      refine q_then ?_
      refine wc_ret ?_
      refine fin1 (.tmp rfl) ?_
      rfl
    ·
      simp only [hg8_3]
      refine rl_on rfl rfl ?_
      refine rl_y (y_move rfl rfl) rfl ?_
      refine rl_on rfl rfl ?_
      refine rl_y (y_move rfl rfl) rfl ?_
      refine rl_on rfl rfl ?_
      refine rl_call_f (caps := []) rfl rfl Tryd.c17 rfl (FnP.mono (fit_fn l (by omega) more _ hT) ?_)
      rintro v u1 hle1 rfl
      refine rl_on rfl rfl ?_
      refine rl_y (y_move rfl rfl) rfl ?_
      refine rl_on rfl rfl ?_
      refine rl_y (y_geq rfl rfl rfl) rfl ?_
      rw [decide_eq_true (show ((fitOf l width : Nat) : Int) ≤ (fitOf l more : Nat) by have := fitOf_mono l (show width ≤ more by have := of_decide_eq_false hg8_3; omega); omega)]
      refine rl_y (y_pick_f rfl rfl rfl) rfl ?_
      refine rl_y (y_move rfl rfl) rfl ?_
      refine rl_on rfl rfl ?_
      refine rl_call_f (caps := []) rfl rfl Tryd.c10 rfl (FnP.mono (awake_fn _ hT) ?_)
      rintro v u1 hle1 rfl
      refine rl_y (y_pick_t rfl rfl rfl) rfl ?_
      refine rl_y (y_assign rfl rfl) rfl ?_
      refine rl_end (ρ' := [(6, _)]) ⟨rfl, trivial⟩ ?_
      refine q_then ?_
      refine wc_ret ?_
      refine fin1 (.tmp rfl) ?_
      rfl
end Go.Proofs.Ytceodelgalfjfaa
