/- Font: the reference's widths of strings; the statement on texts as a call. -/
import Derived.Test.YtceodelgalfjfaaDoorFontV
import Derived.Test.YtceodelgalfjfaaDoorFontE
namespace Go.Proofs.Ytceodelgalfjfaa
open Go Go.Eng
set_option linter.unusedSimpArgs false
set_option linter.unusedVariables false

theorem mo_in {l : List UInt8} {i : Nat} {lo hi : Int} (hlo : 128 ≤ lo) (h : 0 ≤ mo l i lo hi) : i < l.length := by
  unfold mo at h
  split at h
  · rename_i x hx; exact (List.getElem?_eq_some_iff.1 hx).1
  · omega
/-- a code point ends inside the text -/
theorem pt_end (l : List UInt8) (p : Nat) (b : Int) (hp : p < l.length) : 1 ≤ (pt l p b).2 ∧ (p : Int) + (pt l p b).2 ≤ l.length := by
  have key3 : ∀ (c : Prop) [Decidable c] (X : Int), (¬ c → p + 2 < l.length) → 1 ≤ (if c then ((65533 : Int), (1 : Int)) else (X, 3)).2 ∧ (p : Int) + (if c then ((65533 : Int), (1 : Int)) else (X, 3)).2 ≤ l.length := by
    intro c _ X h
    split
    · dsimp only; omega
    · rename_i hc; have := h hc; dsimp only; omega
  have key4 : ∀ (c : Prop) [Decidable c] (X : Int), (¬ c → p + 3 < l.length) → 1 ≤ (if c then ((65533 : Int), (1 : Int)) else (X, 4)).2 ∧ (p : Int) + (if c then ((65533 : Int), (1 : Int)) else (X, 4)).2 ≤ l.length := by
    intro c _ X h
    split
    · dsimp only; omega
    · rename_i hc; have := h hc; dsimp only; omega
  unfold pt
  split
  · dsimp only; omega
  split
  · split
    · rename_i h; have := mo_in (by omega) h; dsimp only; omega
    · dsimp only; omega
  split
  · exact key3 _ _ (fun h => mo_in (lo := 128) (hi := 191) (by omega) (by omega))
  split
  · exact key4 _ _ (fun h => mo_in (lo := 128) (hi := 191) (by omega) (by omega))
  · dsimp only; omega
theorem dec_end (l : List UInt8) (p : Nat) (hp : p < l.length) : p + (dec l p).2 ≤ l.length := by
  obtain ⟨x, hx⟩ : ∃ x, l[p]? = some x := ⟨_, List.getElem?_eq_getElem hp⟩
  have h1 := pt_dec l p x hx
  have h2 := pt_end l p x.toNat hp
  rw [h1] at h2
  dsimp only at h2
  omega

theorem rwide_str_fn (l : List UInt8) (hl : l.length ≤ 1000) (u : View) : FnP Tryd.prog 12 [str l] u fun v _ => v = .int .i64 (wideOf l) := by
  refine FnP.intro [.tmp 2] Tryd.func12 rfl rfl rfl ?_
  intro w0 hw0
  refine wc_seq ?_
  refine wc_region ?_
  refine rl_y (y_assign rfl rfl) rfl ?_
  refine rl_end (ρ' := [(0, _)]) ⟨rfl, trivial⟩ ?_
  refine q_then ?_
  refine wc_seq ?_
  refine wc_region ?_
  refine rl_y (y_assign rfl rfl) rfl ?_
  refine rl_y (y_assign rfl rfl) rfl ?_
  refine rl_end (ρ' := [(0, _), (3, _), (4, _)]) ⟨rfl, rfl, rfl, trivial⟩ ?_
  refine q_then ?_
  refine wc_seq ?_
  refine wc_block ?_
  refine wc_loop (fun m ρ σ u' μ => ∃ (p : Nat) (s : Int), l.length ≤ p + m ∧ m ≤ l.length ∧ p ≤ l.length ∧ 0 ≤ s ∧ s ≤ 100 * (l.length - m : Nat) ∧ s + wsum l m p = wideOf l ∧ u = u' ∧ μ = [] ∧ σ = [] ∧ ρ = [(0, .v (str l)), (3, .v (.int .i64 s)), (4, .v (.int .i64 p))]) l.length ?_ ?_
  ·
    refine ⟨[(0, _), (3, _), (4, _)], [], ⟨rfl, rfl, rfl, trivial⟩, trivial, 0, 0, by omega, by omega, by omega, by omega, by omega, by simp [wideOf], rfl, rfl, rfl, rfl⟩
  ·
    rintro m ρ σ u' μ ⟨p, s, hp, hm, hpl, hs0, hs1, hsum, rfl, rfl, rfl, rfl⟩
    refine wc_seq ?_
    refine wc_seq ?_
    refine wc_region ?_
    refine rl_y (y_move rfl rfl) rfl ?_
    refine rl_y (y_move rfl rfl) rfl ?_
    refine rl_y (y_len_str rfl rfl Tryd.str9 rfl) rfl ?_
    refine rl_y (y_lss rfl rfl rfl) rfl ?_
    refine rl_end (ρ' := [(0, _), (3, _), (4, _), (10, _)]) ⟨rfl, rfl, rfl, rfl, trivial⟩ ?_
    refine q_then ?_
    refine wc_cond rfl (fun hb2 => ?_) (fun hb2 => ?_)
    ·
      have hlt : p < l.length := by have := of_decide_eq_true hb2; omega
      refine wc_skip ?_
      refine q_then ?_
      refine wc_block ?_
      refine wc_seq ?_
      obtain ⟨m, rfl⟩ : ∃ k, m = k + 1 := ⟨m - 1, by omega⟩
      have hw := wid_range (dec l p).1
      have hd := dec_pos l p hlt
      have hde := dec_end l p hlt
      have hse : wsum l (m + 1) p = wid (dec l p).1 + wsum l m (p + (dec l p).2) := by simp only [wsum]; rw [if_pos hlt]
      refine wc_region ?_
      refine rl_y (y_move rfl rfl) rfl ?_
      refine rl_y (y_move rfl rfl) rfl ?_
      refine rl_call_f (caps := []) rfl rfl Tryd.c22 rfl (FnP.mono (next_fn l p hlt hl _) ?_)
      rintro v u1 hle1 rfl
      refine rl_y (y_move rfl rfl) rfl ?_
      refine rl_y (y_extract rfl rfl rfl) rfl ?_
      refine rl_y (y_extract rfl rfl rfl) rfl ?_
      refine rl_y (y_assign rfl rfl) rfl ?_
      refine rl_y (y_assign rfl rfl) rfl ?_
      refine rl_end (ρ' := [(0, _), (3, _), (4, _), (5, _), (6, _)]) ⟨rfl, rfl, rfl, rfl, rfl, trivial⟩ ?_
      refine q_then ?_
      refine wc_seq ?_
      refine wc_region ?_
      refine rl_y (y_move rfl rfl) rfl ?_
      refine rl_y (y_move rfl rfl) rfl ?_
      refine rl_call_f (caps := []) rfl rfl Tryd.c9 rfl (FnP.mono (rwidth_fn (dec l p).1 _) ?_)
      rintro v u1 hle1 rfl
      refine rl_y (y_add rfl rfl rfl (wrap64_id (by omega))) rfl ?_
      refine rl_y (y_assign rfl rfl) rfl ?_
      refine rl_end (ρ' := [(0, _), (3, _), (4, _), (6, _)]) ⟨rfl, rfl, rfl, rfl, trivial⟩ ?_
      refine q_then ?_
      refine wc_region ?_
      refine rl_y (y_move rfl rfl) rfl ?_
      refine rl_y (y_move rfl rfl) rfl ?_
      refine rl_y (y_add rfl rfl rfl (wrap64_id (by omega))) rfl ?_
      refine rl_y (y_assign rfl rfl) rfl ?_
      refine rl_end (ρ' := [(0, _), (3, _), (4, _)]) ⟨rfl, rfl, rfl, trivial⟩ ?_
      refine q_block ?_
      refine q_thenK ?_
      refine ⟨m, [(0, _), (3, _), (4, _)], [], by omega, ⟨rfl, rfl, rfl, trivial⟩, trivial, p + (dec l p).2, s + wid (dec l p).1, by omega, by omega, by omega, by omega, by omega, by rw [← hsum, hse]; omega, rfl, rfl, rfl, rfl⟩
    ·
      have hge : ¬ p < l.length := by have := of_decide_eq_false hb2; omega
      refine wc_exit ?_
      refine q_then_exit ?_
      refine q_then_exit ?_
      refine q_block_hit ?_
      refine q_then ?_
      refine wc_seq ?_
      refine wc_region ?_
      refine rl_y (y_move rfl rfl) rfl ?_
      refine rl_y (y_assign rfl rfl) rfl ?_
      refine rl_end (ρ' := [(2, _)]) ⟨rfl, trivial⟩ ?_
      refine q_then ?_
      refine wc_ret ?_
      refine fin1 (.tmp rfl) ?_
      rw [wsum_over (by omega)] at hsum
      rw [← hsum, Int.add_zero]

theorem rfit_fn (l : List UInt8) (hl : l.length ≤ 1000) (width : Int) (u : View) : FnP Tryd.prog 18 [str l, .int .i64 width] u fun v _ => v = .int .i64 (fitOf l width) := by
  refine FnP.intro [.tmp 4] Tryd.func18 rfl rfl rfl ?_
  intro w0 hw0
  refine wc_seq ?_
  refine wc_region ?_
  refine rl_y (y_assign rfl rfl) rfl ?_
  refine rl_end (ρ' := [(0, _), (1, _)]) ⟨rfl, rfl, trivial⟩ ?_
  refine q_then ?_
  refine wc_seq ?_
  refine wc_region ?_
  refine rl_y (y_assign rfl rfl) rfl ?_
  refine rl_y (y_assign rfl rfl) rfl ?_
  refine rl_end (ρ' := [(0, _), (1, _), (5, _), (6, _)]) ⟨rfl, rfl, rfl, rfl, trivial⟩ ?_
  refine q_then ?_
  refine wc_seq ?_
  refine wc_block ?_
  refine wc_loop (fun m ρ σ u' μ => ∃ (p : Nat) (s : Int), l.length ≤ p + m ∧ m ≤ l.length ∧ p ≤ l.length ∧ 0 ≤ s ∧ s ≤ 100 * (l.length - m : Nat) ∧ (width < 0 → p = 0) ∧ fitF l width m p s = fitF l width l.length 0 0 ∧ u = u' ∧ μ = [] ∧ σ = [] ∧ ρ = [(0, .v (str l)), (1, .v (.int .i64 width)), (5, .v (.int .i64 s)), (6, .v (.int .i64 p))]) l.length ?_ ?_
  ·
    refine ⟨[(0, _), (1, _), (5, _), (6, _)], [], ⟨rfl, rfl, rfl, rfl, trivial⟩, trivial, 0, 0, by omega, by omega, by omega, by omega, by omega, fun _ => rfl, rfl, rfl, rfl, rfl, rfl⟩
  ·
    rintro m ρ σ u' μ ⟨p, s, hp, hm, hpl, hs0, hs1, hneg, hsum, rfl, rfl, rfl, rfl⟩
    refine wc_seq ?_
    refine wc_seq ?_
    refine wc_region ?_
    refine rl_y (y_move rfl rfl) rfl ?_
    refine rl_y (y_move rfl rfl) rfl ?_
    refine rl_y (y_len_str rfl rfl Tryd.str9 rfl) rfl ?_
    refine rl_y (y_lss rfl rfl rfl) rfl ?_
    refine rl_end (ρ' := [(0, _), (1, _), (5, _), (6, _), (12, _)]) ⟨rfl, rfl, rfl, rfl, rfl, trivial⟩ ?_
    refine q_then ?_
    refine wc_cond rfl (fun hb2 => ?_) (fun hb2 => ?_)
    ·
      have hlt : p < l.length := by have := of_decide_eq_true hb2; omega
      refine wc_skip ?_
      refine q_then ?_
      refine wc_block ?_
      refine wc_seq ?_
      obtain ⟨m, rfl⟩ : ∃ k, m = k + 1 := ⟨m - 1, by omega⟩
      have hw := wid_range (dec l p).1
      have hd := dec_pos l p hlt
      have hde := dec_end l p hlt
      simp only [fitF] at hsum
      rw [if_pos hlt] at hsum
      refine wc_region ?_
      refine rl_y (y_move rfl rfl) rfl ?_
      refine rl_y (y_move rfl rfl) rfl ?_
      refine rl_call_f (caps := []) rfl rfl Tryd.c22 rfl (FnP.mono (next_fn l p hlt hl _) ?_)
      rintro v u1 hle1 rfl
      refine rl_y (y_move rfl rfl) rfl ?_
      refine rl_y (y_extract rfl rfl rfl) rfl ?_
      refine rl_y (y_extract rfl rfl rfl) rfl ?_
      refine rl_y (y_assign rfl rfl) rfl ?_
      refine rl_y (y_assign rfl rfl) rfl ?_
      refine rl_end (ρ' := [(0, _), (1, _), (5, _), (6, _), (7, _), (8, _)]) ⟨rfl, rfl, rfl, rfl, rfl, rfl, trivial⟩ ?_
      refine q_then ?_
      refine wc_seq ?_
      refine wc_region ?_
      refine rl_y (y_move rfl rfl) rfl ?_
      refine rl_y (y_move rfl rfl) rfl ?_
      refine rl_call_f (caps := []) rfl rfl Tryd.c9 rfl (FnP.mono (rwidth_fn (dec l p).1 _) ?_)
      rintro v u1 hle1 rfl
      refine rl_y (y_add rfl rfl rfl (wrap64_id (by omega))) rfl ?_
      refine rl_y (y_assign rfl rfl) rfl ?_
      refine rl_end (ρ' := [(0, _), (1, _), (5, _), (6, _), (8, _)]) ⟨rfl, rfl, rfl, rfl, rfl, trivial⟩ ?_
      refine q_then ?_
      refine wc_seq ?_
      refine wc_seq ?_
      refine wc_region ?_
      refine rl_y (y_move rfl rfl) rfl ?_
      refine rl_y (y_move rfl rfl) rfl ?_
      refine rl_y (y_gtr rfl rfl rfl) rfl ?_
      refine rl_end (ρ' := [(0, _), (1, _), (5, _), (6, _), (8, _), (25, _)]) ⟨rfl, rfl, rfl, rfl, rfl, rfl, trivial⟩ ?_
      refine q_then ?_
      refine wc_cond rfl (fun hb5 => ?_) (fun hb5 => ?_)
      ·
        have hover : width < s + wid (dec l p).1 := of_decide_eq_true hb5
        refine wc_seq ?_
        refine wc_region ?_
        refine rl_y (y_move rfl rfl) rfl ?_
        refine rl_y (y_assign rfl rfl) rfl ?_
        refine rl_end (ρ' := [(4, _)]) ⟨rfl, trivial⟩ ?_
        refine q_then ?_
        refine wc_ret ?_
        refine q_then_ret ?_
        refine q_block_ret ?_
        refine q_then_ret ?_
        refine q_block_ret ?_
        refine q_then_ret ?_
        refine fin1 (.tmp rfl) ?_
        rw [if_pos hover] at hsum
        unfold fitOf
        split
        · rename_i h; rw [hneg h]
        · rw [← hsum]
      ·
        have hover : ¬ width < s + wid (dec l p).1 := of_decide_eq_false hb5
        refine wc_skip ?_
        refine q_then ?_
        refine wc_region ?_
        refine rl_y (y_move rfl rfl) rfl ?_
        refine rl_y (y_move rfl rfl) rfl ?_
        refine rl_y (y_add rfl rfl rfl (wrap64_id (by omega))) rfl ?_
        refine rl_y (y_assign rfl rfl) rfl ?_
        refine rl_end (ρ' := [(0, _), (1, _), (5, _), (6, _)]) ⟨rfl, rfl, rfl, rfl, trivial⟩ ?_
        refine q_block ?_
        refine q_thenK ?_
        rw [if_neg hover] at hsum
        refine ⟨m, [(0, _), (1, _), (5, _), (6, _)], [], by omega, ⟨rfl, rfl, rfl, rfl, trivial⟩, trivial, p + (dec l p).2, s + wid (dec l p).1, by omega, by omega, by omega, by omega, by omega, fun h => by omega, hsum, rfl, rfl, rfl, rfl⟩
    ·
      have hge : ¬ p < l.length := by have := of_decide_eq_false hb2; omega
      refine wc_exit ?_
      refine q_then_exit ?_
      refine q_then_exit ?_
      refine q_block_hit ?_
      refine q_then ?_
      refine wc_seq ?_
      refine wc_seq ?_
      refine wc_region ?_
      refine rl_y (y_move rfl rfl) rfl ?_
      refine rl_y (y_lss rfl rfl rfl) rfl ?_
      refine rl_end (ρ' := [(6, _), (31, _)]) ⟨rfl, rfl, trivial⟩ ?_
      refine q_then ?_
      refine wc_cond rfl (fun hb8 => ?_) (fun hb8 => ?_)
      ·
        have hn : width < 0 := of_decide_eq_true hb8
        refine wc_seq ?_
        refine wc_region ?_
        refine rl_y (y_assign rfl rfl) rfl ?_
        refine rl_end (ρ' := [(4, _)]) ⟨rfl, trivial⟩ ?_
        refine q_then ?_
        refine wc_ret ?_
        refine q_then_ret ?_
        refine fin1 (.tmp rfl) ?_
        simp only [fitOf, if_pos hn]; rfl
      ·
        have hn : ¬ width < 0 := of_decide_eq_false hb8
        refine wc_skip ?_
        refine q_then ?_
        refine wc_seq ?_
        refine wc_region ?_
        refine rl_y (y_move rfl rfl) rfl ?_
        refine rl_y (y_assign rfl rfl) rfl ?_
        refine rl_end (ρ' := [(4, _)]) ⟨rfl, trivial⟩ ?_
        refine q_then ?_
        refine wc_ret ?_
        refine fin1 (.tmp rfl) ?_
        have h0 : fitF l width m p s = l.length := by
          cases m with
          | zero => rfl
          | succ m => simp only [fitF]; rw [if_neg hge]
        simp only [fitOf, if_neg hn]
        rw [← hsum, h0, show p = l.length by omega]

theorem law_texts (l : List UInt8) (u : View) (hT : TabU u) : FnP Tryd.prog 4 [str l] u fun v _ => v = .bool true := by
  refine FnP.intro [.tmp 2] Tryd.func4 rfl rfl rfl ?_
  intro w0 hw0
  refine wc_seq ?_
  refine wc_region ?_
  refine rl_y (y_assign rfl rfl) rfl ?_
  refine rl_end (ρ' := [(0, _)]) ⟨rfl, trivial⟩ ?_
  refine q_then ?_
  refine wc_seq ?_
  refine wc_seq ?_
  refine wc_region ?_
  refine rl_y (y_move rfl rfl) rfl ?_
  refine rl_y (y_len_str rfl rfl Tryd.str9 rfl) rfl ?_
  refine rl_y (y_gtr rfl rfl rfl) rfl ?_
  refine rl_end (ρ' := [(0, _), (5, _)]) ⟨rfl, rfl, trivial⟩ ?_
  refine q_then ?_
  refine wc_cond rfl (fun hb1 => ?_) (fun hb1 => ?_)
  ·
    skip
    refine wc_seq ?_
    refine wc_region ?_
    refine rl_call_f (caps := []) rfl rfl Tryd.c10 rfl (FnP.mono (awake_fn _ hT) ?_)
    rintro v u1 hle1 rfl
    refine rl_y (y_assign rfl rfl) rfl ?_
    refine rl_end (ρ' := [(2, _)]) ⟨rfl, trivial⟩ ?_
    refine q_then ?_
    refine wc_ret ?_
    refine q_then_ret ?_
    refine fin1 (.tmp rfl) ?_
    rfl
  ·
    have hl : l.length ≤ 800 := by have := of_decide_eq_false hb1; omega
    refine wc_skip ?_
    refine q_then ?_
    refine wc_seq ?_
    refine wc_region ?_
    refine rl_y (y_move rfl rfl) rfl ?_
    refine rl_call_f (caps := []) rfl rfl Tryd.c11 rfl (FnP.mono (wide_str_fn l (by omega) _ hT) ?_)
    rintro v u1 hle1 rfl
    refine rl_y (y_move rfl rfl) rfl ?_
    refine rl_call_f (caps := []) rfl rfl Tryd.c12 rfl (FnP.mono (rwide_str_fn l (by omega) _) ?_)
    rintro v u1 hle1 rfl
    refine rl_y (y_eql rfl rfl rfl) rfl ?_
    rw [decide_eq_true (show wideOf l = wideOf l from rfl)]
    refine rl_y (y_move rfl rfl) rfl ?_
    refine rl_on rfl rfl ?_
    refine rl_call_f (caps := []) rfl rfl Tryd.c10 rfl (FnP.mono (awake_fn _ hT) ?_)
    rintro v u1 hle1 rfl
    refine rl_y (y_pick_t rfl rfl rfl) rfl ?_
    refine rl_y (y_assign rfl rfl) rfl ?_
    refine rl_end (ρ' := [(2, _)]) ⟨rfl, trivial⟩ ?_
    refine q_then ?_
    refine wc_ret ?_
    refine fin1 (.tmp rfl) ?_
    rfl
end Go.Proofs.Ytceodelgalfjfaa
