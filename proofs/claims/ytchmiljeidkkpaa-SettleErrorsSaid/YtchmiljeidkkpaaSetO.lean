/- Settle: the two statements on pairs: their walks. -/
import Derived.Test.YtchmiljeidkkpaaSetN
namespace Go.Proofs.Ytchmiljeidkkpaa
open Go Go.Eng
set_option linter.unusedSimpArgs false
set_option linter.unusedVariables false

theorem law_pairs (ad : Option Addr) (cap : Nat) (xs : List Pr) (most : Int) (u : View) (hs : SlC u ad xs.length cap 2 (prs xs)) :
    FnP Try.prog 7 [.slice ad xs.length cap, .int .i64 most] u fun v _ => v = .bool true := by
  obtain ⟨nf, hnf1, hnf2, hnf3⟩ := itP_full xs
  refine FnP.intro [.tmp 4] Try.func7 rfl rfl rfl ?_
  intro w0 hw0
  refine wc_seq ?_
  refine wc_region ?_
  refine rl_y (y_assign rfl rfl) rfl ?_
  refine rl_end (ρ' := [(0, _), (1, _)]) ⟨rfl, rfl, trivial⟩ ?_
  refine q_then ?_
  refine wc_seq ?_
  refine wc_seq ?_
  refine wc_cutB 19 (decide (40 < (xs.length : Int)) || !(decide (-9 ≤ most) && decide (most ≤ 99))) (ρk := [(0, _), (1, _)]) ⟨rfl, rfl, trivial⟩ ?_ ?_
  ·
    refine wc_region ?_
    refine rl_y (y_move rfl rfl) rfl ?_
    refine rl_y (y_len_v rfl rfl Try.s35 rfl) rfl ?_
    refine rl_y (y_gtr rfl rfl rfl) rfl ?_
    refine rl_y (y_move rfl rfl) rfl ?_
    rcases Bool.eq_false_or_eq_true (decide (40 < (xs.length : Int))) with hg1_3 | hg1_3
    ·
      simp only [hg1_3]
      refine rl_off rfl rfl rfl rfl ?_
      refine rl_off rfl rfl rfl rfl ?_
      refine rl_off rfl rfl rfl rfl ?_
      refine rl_y (y_pick_t rfl rfl rfl) rfl ?_
      exact cutB_end rfl ⟨rfl, rfl, trivial⟩ (by simp)
    ·
      simp only [hg1_3]
      refine rl_on rfl rfl ?_
      refine rl_y (y_move rfl rfl) rfl ?_
      refine rl_on rfl rfl ?_
      refine rl_call_f (caps := []) rfl rfl Try.c9 rfl (FnP.mono (small_fn most _) ?_)
      rintro v u1 hle1 rfl
      refine rl_on rfl rfl ?_
      refine rl_y (y_not rfl rfl) rfl ?_
      refine rl_y (y_pick_f rfl rfl rfl) rfl ?_
      exact cutB_end rfl ⟨rfl, rfl, trivial⟩ (by simp)
  refine q_then ?_
  refine wc_cond rfl (fun hb1 => ?_) (fun hb1 => ?_)
  ·
    skip
    refine wc_seq ?_
    refine wc_region ?_
    refine rl_call_f (caps := []) rfl rfl Try.c10 rfl (FnP.mono (awake_fn _) ?_)
    rintro v u1 hle1 rfl
    refine rl_y (y_assign rfl rfl) rfl ?_
    refine rl_end (ρ' := [(4, _)]) ⟨rfl, trivial⟩ ?_
    refine q_then ?_
    refine wc_ret ?_
    refine q_then_ret ?_
    refine fin1 (.tmp rfl) ?_
    rfl
  ·
    have hl : xs.length ≤ 40 := by simp at hb1; omega
    refine wc_skip ?_
    refine q_then ?_
    refine wc_seq ?_
    refine wc_region ?_
    refine rl_y (y_move rfl rfl) rfl ?_
    refine rl_y (y_move rfl rfl) rfl ?_
    refine rl_call (caps := []) rfl rfl Try.c14 rfl (FnP.mono (pairsRun2_fn step_turn ad cap xs (by omega) most _ hs) ?_)
    rintro v u1 hle0 ⟨w, k, y, per, e, rfl, ⟨ady, capy, rfl, hsy⟩, hE⟩ hle1
    have hs1 := hs.mono hle0
    refine rl_y (y_move rfl rfl) rfl ?_
    refine rl_y (y_extract rfl rfl rfl) rfl ?_
    refine rl_y (y_extract rfl rfl rfl) rfl ?_
    refine rl_y (y_extract rfl rfl rfl) rfl ?_
    refine rl_y (y_extract rfl rfl rfl) rfl ?_
    refine rl_y (y_assign rfl rfl) rfl ?_
    refine rl_y (y_assign rfl rfl) rfl ?_
    refine rl_y (y_assign rfl rfl) rfl ?_
    refine rl_y (y_assign rfl rfl) rfl ?_
    refine rl_end (ρ' := [(0, _), (1, _), (5, _), (6, _), (7, _), (8, _)]) ⟨rfl, rfl, rfl, rfl, rfl, rfl, trivial⟩ ?_
    refine q_then ?_
    refine wc_seq ?_
    refine wc_seq ?_
    refine wc_cutB 34 (decide (¬ (1 ≤ most ∧ most ≤ 64))) (ρk := [(0, _), (1, _), (5, _), (6, _), (7, _), (8, _)]) ⟨rfl, rfl, rfl, rfl, rfl, rfl, trivial⟩ ?_ ?_
    ·
      refine wc_region ?_
      refine rl_y (y_move rfl rfl) rfl ?_
      refine rl_y (y_lss rfl rfl rfl) rfl ?_
      refine rl_y (y_move rfl rfl) rfl ?_
      rcases Bool.eq_false_or_eq_true (decide (most < 1)) with hg4_2 | hg4_2
      ·
        simp only [hg4_2]
        refine rl_off rfl rfl rfl rfl ?_
        refine rl_off rfl rfl rfl rfl ?_
        refine rl_y (y_pick_t rfl rfl rfl) rfl ?_
        exact cutB_end rfl ⟨rfl, rfl, rfl, rfl, rfl, rfl, trivial⟩ (by (first | refine (decide_eq_true ?_).symm | refine (decide_eq_false ?_).symm | refine decide_eq_decide.2 ?_ | refine decide_eq_true ?_ | refine decide_eq_false ?_) <;> (try unfold Am) <;> (try simp only [decide_eq_true_eq, decide_eq_false_iff_not] at *) <;> omega)
      ·
        simp only [hg4_2]
        refine rl_on rfl rfl ?_
        refine rl_y (y_move rfl rfl) rfl ?_
        refine rl_on rfl rfl ?_
        refine rl_y (y_gtr rfl rfl rfl) rfl ?_
        refine rl_y (y_pick_f rfl rfl rfl) rfl ?_
        exact cutB_end rfl ⟨rfl, rfl, rfl, rfl, rfl, rfl, trivial⟩ (by (first | refine (decide_eq_true ?_).symm | refine (decide_eq_false ?_).symm | refine decide_eq_decide.2 ?_ | refine decide_eq_true ?_ | refine decide_eq_false ?_) <;> (try unfold Am) <;> (try simp only [decide_eq_true_eq, decide_eq_false_iff_not] at *) <;> omega)
    refine q_then ?_
    refine wc_cond rfl (fun hb4 => ?_) (fun hb4 => ?_)
    ·
      have hm : ¬ (1 ≤ most ∧ most ≤ 64) := of_decide_eq_true hb4
      refine wc_seq ?_
      obtain ⟨_, rfl, rfl, rfl, rfl⟩ := hE.resolve_left (fun h => hm ⟨h.1, h.2.1⟩)
      refine wc_region ?_
      refine rl_y (y_move rfl rfl) rfl ?_
      refine rl_y (y_eql rfl rfl rfl) rfl ?_
      rw [decide_eq_true (show (2 : Int) = 2 from rfl)]
      refine rl_y (y_move rfl rfl) rfl ?_
      refine rl_on rfl rfl ?_
      refine rl_y (y_move rfl rfl) rfl ?_
      refine rl_on rfl rfl ?_
      refine rl_y (y_len_v rfl rfl Try.s35 rfl) rfl ?_
      refine rl_on rfl rfl ?_
      refine rl_y (y_eql rfl rfl rfl) rfl ?_
      rw [decide_eq_true (show ((([] : List Pr).length : Nat) : Int) = 0 from rfl)]
      refine rl_y (y_pick_t rfl rfl rfl) rfl ?_
      refine rl_y (y_move rfl rfl) rfl ?_
      refine rl_on rfl rfl ?_
      refine rl_y (y_move rfl rfl) rfl ?_
      refine rl_on rfl rfl ?_
      refine rl_y (y_eql rfl rfl rfl) rfl ?_
      rw [decide_eq_true (show ((0 : Nat) : Int) = 0 from rfl)]
      refine rl_y (y_pick_t rfl rfl rfl) rfl ?_
      refine rl_y (y_move rfl rfl) rfl ?_
      refine rl_on rfl rfl ?_
      refine rl_y (y_move rfl rfl) rfl ?_
      refine rl_on rfl rfl ?_
      refine rl_y (y_eql rfl rfl rfl) rfl ?_
      rw [decide_eq_true (show (0 : Int) = 0 from rfl)]
      refine rl_y (y_pick_t rfl rfl rfl) rfl ?_
      refine rl_y (y_move rfl rfl) rfl ?_
      refine rl_on rfl rfl ?_
      refine rl_call_f (caps := []) rfl rfl Try.c10 rfl (FnP.mono (awake_fn _) ?_)
      rintro v u1 hle1 rfl
      refine rl_y (y_pick_t rfl rfl rfl) rfl ?_
      refine rl_y (y_assign rfl rfl) rfl ?_
      refine rl_end (ρ' := [(4, _)]) ⟨rfl, trivial⟩ ?_
      refine q_then ?_
      refine wc_ret ?_
      refine q_then_ret ?_
      refine fin1 (.tmp rfl) ?_
      rfl
    ·
      have hm : 1 ≤ most ∧ most ≤ 64 := by simpa using hb4
      refine wc_skip ?_
      refine q_then ?_
      refine wc_seq ?_
      obtain ⟨_, _, hE⟩ := hE.resolve_right (fun h => h.1 hm)
      refine wc_region ?_
      refine rl_y (y_assign rfl rfl) rfl ?_
      refine rl_end (ρ' := [(0, _), (1, _), (5, _), (6, _), (7, _), (8, _), (9, _)]) ⟨rfl, rfl, rfl, rfl, rfl, rfl, rfl, trivial⟩ ?_
      refine q_then ?_
      refine wc_seq ?_
      refine wc_region ?_
      refine rl_y (y_move rfl rfl) rfl ?_
      refine rl_call (caps := []) rfl rfl Try.c15 rfl (FnP.mono (turn_fn ad cap xs (by omega) _ hs1) ?_)
      rintro v u1 hle0 ⟨w1, rfl, adr, capr, rfl, hsr⟩ hle1
      have hs2 := hs1.mono hle0
      have hsy2 := hsy.mono hle0
      refine rl_y (y_move rfl rfl) rfl ?_
      refine rl_y (y_extract rfl rfl rfl) rfl ?_
      refine rl_y (y_extract rfl rfl rfl) rfl ?_
      refine rl_y (y_assign rfl rfl) rfl ?_
      refine rl_y (y_assign rfl rfl) rfl ?_
      refine rl_end (ρ' := [(0, _), (1, _), (5, _), (6, _), (7, _), (8, _), (9, _), (10, _)]) ⟨rfl, rfl, rfl, rfl, rfl, rfl, rfl, rfl, trivial⟩ ?_
      refine q_then ?_
      refine wc_seq ?_
      refine wc_block ?_
      refine wc_loop (fun m ρ σ u' μ => ∃ (n : Nat) (adn : Option Addr) (capn : Nat), n + m = 41 ∧ 1 ≤ n ∧ n ≤ nf ∧ (∀ i, 1 ≤ i → i < n → itP trn xs i ≠ xs) ∧ SlC u' adn (itP trn xs n).length capn 2 (prs (itP trn xs n)) ∧ SlC u' ad xs.length cap 2 (prs xs) ∧ SlC u' ady y.length capy 2 (prs y) ∧ μ = [] ∧ σ = [] ∧
      ρ = [(0, .v (.slice ad xs.length cap)), (1, .v (.int .i64 most)), (5, .v (.slice ady y.length capy)), (6, .v (.int .i64 k)), (7, .v (.int .i64 per)), (8, .v (.int .i64 e)), (9, .v (.int .i64 n)), (10, .v (.slice adn (itP trn xs n).length capn))]) 40 ?_ ?_
      ·
        refine ⟨[(0, _), (1, _), (5, _), (6, _), (7, _), (8, _), (9, _), (10, _)], [], ⟨rfl, rfl, rfl, rfl, rfl, rfl, rfl, rfl, trivial⟩, trivial, 1, adr, capr, by omega, by omega, hnf1, fun i h1 h2 => by omega, hsr, hs2, hsy2, rfl, rfl, rfl⟩
      ·
        rintro m ρ σ u3 μ ⟨n, adn, capn, hnm, hn1, hnn, hmin, hsn, hs3, hsy3, rfl, rfl, rfl⟩
        refine wc_seq ?_
        refine wc_seq ?_
        have hXl : (itP trn xs n).length ≤ 40 := by have := itP_len step_turn.len xs n; omega
        refine wc_cutB 65 (!decide (itP trn xs n = xs)) (ρk := [(0, _), (1, _), (5, _), (6, _), (7, _), (8, _), (9, _), (10, _)]) ⟨rfl, rfl, rfl, rfl, rfl, rfl, rfl, rfl, trivial⟩ ?_ ?_
        ·
          refine wc_region ?_
          refine rl_y (y_move rfl rfl) rfl ?_
          refine rl_y (y_move rfl rfl) rfl ?_
          refine rl_call_f (caps := []) rfl rfl Try.c16 rfl (FnP.mono (pairs_fn adn ad capn cap (itP trn xs n) xs (by omega) _ hsn hs3) ?_)
          rintro v u1 hle1 rfl
          refine rl_y (y_not rfl rfl) rfl ?_
          refine rl_y (y_move rfl rfl) rfl ?_
          rcases Bool.eq_false_or_eq_true (!decide (itP trn xs n = xs)) with hg8_4 | hg8_4
          ·
            simp only [hg8_4]
            refine rl_on rfl rfl ?_
            refine rl_y (y_move rfl rfl) rfl ?_
            refine rl_on rfl rfl ?_
            refine rl_y (y_lss rfl rfl rfl) rfl ?_
            rw [decide_eq_true (show (n : Int) < 50 by omega)]
            refine rl_y (y_pick_t rfl rfl rfl) rfl ?_
            exact cutB_end rfl ⟨rfl, rfl, rfl, rfl, rfl, rfl, rfl, rfl, trivial⟩ (by first | rfl | (simp [*]))
          ·
            simp only [hg8_4]
            refine rl_off rfl rfl rfl rfl ?_
            refine rl_off rfl rfl rfl rfl ?_
            refine rl_y (y_pick_f rfl rfl rfl) rfl ?_
            exact cutB_end rfl ⟨rfl, rfl, rfl, rfl, rfl, rfl, rfl, rfl, trivial⟩ (by first | rfl | (simp [*]))
        refine q_then ?_
        refine wc_cond rfl (fun hb8 => ?_) (fun hb8 => ?_)
        ·
          have hne : itP trn xs n ≠ xs := by simpa using hb8
          refine wc_skip ?_
          refine q_then ?_
          refine wc_block ?_
          refine wc_seq ?_
          have hlt : n < nf := Nat.lt_of_le_of_ne hnn (fun e => hne (by rw [e]; exact hnf3))
          refine wc_region ?_
          refine rl_y (y_move rfl rfl) rfl ?_
          refine rl_call (caps := []) rfl rfl Try.c15 rfl (FnP.mono (turn_fn adn capn (itP trn xs n) (by omega) _ hsn) ?_)
          rintro v u1 hle0 ⟨w2, rfl, adm, capm, rfl, hsm⟩ hle1
          have hs4 := hs3.mono hle0
          have hsy4 := hsy3.mono hle0
          refine rl_y (y_move rfl rfl) rfl ?_
          refine rl_y (y_extract rfl rfl rfl) rfl ?_
          refine rl_y (y_extract rfl rfl rfl) rfl ?_
          refine rl_y (y_assign rfl rfl) rfl ?_
          refine rl_end (ρ' := [(0, _), (1, _), (5, _), (6, _), (7, _), (8, _), (9, _), (10, _)]) ⟨rfl, rfl, rfl, rfl, rfl, rfl, rfl, rfl, trivial⟩ ?_
          refine q_then ?_
          refine wc_region ?_
          refine rl_y (y_move rfl rfl) rfl ?_
          refine rl_y (y_add rfl rfl rfl (wrap64_id (by omega))) rfl ?_
          refine rl_y (y_assign rfl rfl) rfl ?_
          refine rl_end (ρ' := [(0, _), (1, _), (5, _), (6, _), (7, _), (8, _), (9, _), (10, _)]) ⟨rfl, rfl, rfl, rfl, rfl, rfl, rfl, rfl, trivial⟩ ?_
          refine q_block ?_
          refine q_thenK ?_
          refine ⟨m - 1, [(0, _), (1, _), (5, _), (6, _), (7, _), (8, _), (9, _), (10, _)], [], by omega, ⟨rfl, rfl, rfl, rfl, rfl, rfl, rfl, rfl, trivial⟩, trivial, n + 1, adm, capm, by omega, by omega, by omega, ?_, hsm, hs4, hsy4, rfl, rfl, rfl⟩
          intro i h1 h2
          by_cases e : i = n
          · rw [e]; exact hne
          · exact hmin i h1 (by omega)
        ·
          have heq : itP trn xs n = xs := by simpa using hb8
          refine wc_exit ?_
          refine q_then_exit ?_
          refine q_then_exit ?_
          refine q_block_hit ?_
          refine q_then ?_
          refine wc_seq ?_
          refine wc_seq ?_
          obtain ⟨hE1, hE2, hE3⟩ := endP_turn hE hn1 heq hmin
          refine wc_region ?_
          refine rl_y (y_move rfl rfl) rfl ?_
          refine rl_y (y_eql rfl rfl rfl) rfl ?_
          refine rl_end (ρ' := [(0, _), (1, _), (5, _), (6, _), (7, _), (8, _), (9, _), (74, _)]) ⟨rfl, rfl, rfl, rfl, rfl, rfl, rfl, rfl, trivial⟩ ?_
          refine q_then ?_
          refine wc_cond rfl (fun hb11 => ?_) (fun hb11 => ?_)
          ·
            have hn : n = 1 := by have := of_decide_eq_true hb11; omega
            refine wc_seq ?_
            obtain ⟨rfl, rfl, rfl, rfl⟩ := hE1 hn
            refine wc_region ?_
            refine rl_y (y_move rfl rfl) rfl ?_
            refine rl_y (y_eql rfl rfl rfl) rfl ?_
            rw [decide_eq_true (show (0 : Int) = 0 from rfl)]
            refine rl_y (y_move rfl rfl) rfl ?_
            refine rl_on rfl rfl ?_
            refine rl_y (y_move rfl rfl) rfl ?_
            refine rl_on rfl rfl ?_
            refine rl_y (y_move rfl rfl) rfl ?_
            refine rl_on rfl rfl ?_
            refine rl_call_f (caps := []) rfl rfl Try.c16 rfl (FnP.mono (pairs_fn ady ad capy cap y y (by omega) _ hsy3 hs3) ?_)
            rintro v u1 hle1 rfl
            rw [decide_eq_true (show y = y from rfl)]
            refine rl_y (y_pick_t rfl rfl rfl) rfl ?_
            refine rl_y (y_move rfl rfl) rfl ?_
            refine rl_on rfl rfl ?_
            refine rl_y (y_move rfl rfl) rfl ?_
            refine rl_on rfl rfl ?_
            refine rl_y (y_eql rfl rfl rfl) rfl ?_
            rw [decide_eq_true (show ((1 : Nat) : Int) = 1 from rfl)]
            refine rl_y (y_pick_t rfl rfl rfl) rfl ?_
            refine rl_y (y_move rfl rfl) rfl ?_
            refine rl_on rfl rfl ?_
            refine rl_y (y_move rfl rfl) rfl ?_
            refine rl_on rfl rfl ?_
            refine rl_y (y_eql rfl rfl rfl) rfl ?_
            rw [decide_eq_true (show (0 : Int) = 0 from rfl)]
            refine rl_y (y_pick_t rfl rfl rfl) rfl ?_
            refine rl_y (y_move rfl rfl) rfl ?_
            refine rl_on rfl rfl ?_
            refine rl_call_f (caps := []) rfl rfl Try.c10 rfl (FnP.mono (awake_fn _) ?_)
            rintro v u1 hle1 rfl
            refine rl_y (y_pick_t rfl rfl rfl) rfl ?_
            refine rl_y (y_assign rfl rfl) rfl ?_
            refine rl_end (ρ' := [(4, _)]) ⟨rfl, trivial⟩ ?_
            refine q_then ?_
            refine wc_ret ?_
            refine q_then_ret ?_
            refine fin1 (.tmp rfl) ?_
            rfl
          ·
            have hn : n ≠ 1 := by have := of_decide_eq_false hb11; omega
            refine wc_skip ?_
            refine q_then ?_
            refine wc_seq ?_
            refine wc_seq ?_
            refine wc_region ?_
            refine rl_y (y_move rfl rfl) rfl ?_
            refine rl_y (y_move rfl rfl) rfl ?_
            refine rl_y (y_gtr rfl rfl rfl) rfl ?_
            refine rl_end (ρ' := [(1, _), (5, _), (6, _), (7, _), (8, _), (9, _), (95, _)]) ⟨rfl, rfl, rfl, rfl, rfl, rfl, rfl, trivial⟩ ?_
            refine q_then ?_
            refine wc_cond rfl (fun hb13 => ?_) (fun hb13 => ?_)
            ·
              have hnm2 : most.toNat < n := by have := of_decide_eq_true hb13; omega
              refine wc_seq ?_
              obtain ⟨rfl, rfl, rfl, rfl⟩ := hE2 hn hnm2
              refine wc_region ?_
              refine rl_y (y_move rfl rfl) rfl ?_
              refine rl_y (y_eql rfl rfl rfl) rfl ?_
              rw [decide_eq_true (show (18 : Int) = 18 from rfl)]
              refine rl_y (y_move rfl rfl) rfl ?_
              refine rl_on rfl rfl ?_
              refine rl_y (y_move rfl rfl) rfl ?_
              refine rl_on rfl rfl ?_
              refine rl_y (y_len_v rfl rfl Try.s35 rfl) rfl ?_
              refine rl_on rfl rfl ?_
              refine rl_y (y_eql rfl rfl rfl) rfl ?_
              rw [decide_eq_true (show ((([] : List Pr).length : Nat) : Int) = 0 from rfl)]
              refine rl_y (y_pick_t rfl rfl rfl) rfl ?_
              refine rl_y (y_move rfl rfl) rfl ?_
              refine rl_on rfl rfl ?_
              refine rl_y (y_move rfl rfl) rfl ?_
              refine rl_on rfl rfl ?_
              refine rl_y (y_move rfl rfl) rfl ?_
              refine rl_on rfl rfl ?_
              refine rl_y (y_eql rfl rfl rfl) rfl ?_
              rw [decide_eq_true (show ((most.toNat : Nat) : Int) = most by omega)]
              refine rl_y (y_pick_t rfl rfl rfl) rfl ?_
              refine rl_y (y_move rfl rfl) rfl ?_
              refine rl_on rfl rfl ?_
              refine rl_y (y_move rfl rfl) rfl ?_
              refine rl_on rfl rfl ?_
              refine rl_y (y_eql rfl rfl rfl) rfl ?_
              rw [decide_eq_true (show (0 : Int) = 0 from rfl)]
              refine rl_y (y_pick_t rfl rfl rfl) rfl ?_
              refine rl_y (y_move rfl rfl) rfl ?_
              refine rl_on rfl rfl ?_
              refine rl_call_f (caps := []) rfl rfl Try.c10 rfl (FnP.mono (awake_fn _) ?_)
              rintro v u1 hle1 rfl
              refine rl_y (y_pick_t rfl rfl rfl) rfl ?_
              refine rl_y (y_assign rfl rfl) rfl ?_
              refine rl_end (ρ' := [(4, _)]) ⟨rfl, trivial⟩ ?_
              refine q_then ?_
              refine wc_ret ?_
              refine q_then_ret ?_
              refine fin1 (.tmp rfl) ?_
              rfl
            ·
              have hnm2 : ¬ most.toNat < n := by have := of_decide_eq_false hb13; omega
              refine wc_skip ?_
              refine q_then ?_
              refine wc_seq ?_
              obtain ⟨rfl, rfl, rfl, rfl⟩ := hE3 hn hnm2
              refine wc_region ?_
              refine rl_y (y_move rfl rfl) rfl ?_
              refine rl_y (y_eql rfl rfl rfl) rfl ?_
              rw [decide_eq_true (show (10 : Int) = 10 from rfl)]
              refine rl_y (y_move rfl rfl) rfl ?_
              refine rl_on rfl rfl ?_
              refine rl_y (y_move rfl rfl) rfl ?_
              refine rl_on rfl rfl ?_
              refine rl_y (y_len_v rfl rfl Try.s35 rfl) rfl ?_
              refine rl_on rfl rfl ?_
              refine rl_y (y_eql rfl rfl rfl) rfl ?_
              rw [decide_eq_true (show ((([] : List Pr).length : Nat) : Int) = 0 from rfl)]
              refine rl_y (y_pick_t rfl rfl rfl) rfl ?_
              refine rl_y (y_move rfl rfl) rfl ?_
              refine rl_on rfl rfl ?_
              refine rl_y (y_move rfl rfl) rfl ?_
              refine rl_on rfl rfl ?_
              refine rl_y (y_move rfl rfl) rfl ?_
              refine rl_on rfl rfl ?_
              refine rl_y (y_eql rfl rfl rfl) rfl ?_
              rw [decide_eq_true (show (k : Int) = (k : Int) from rfl)]
              refine rl_y (y_pick_t rfl rfl rfl) rfl ?_
              refine rl_y (y_move rfl rfl) rfl ?_
              refine rl_on rfl rfl ?_
              refine rl_y (y_move rfl rfl) rfl ?_
              refine rl_on rfl rfl ?_
              refine rl_y (y_move rfl rfl) rfl ?_
              refine rl_on rfl rfl ?_
              refine rl_y (y_eql rfl rfl rfl) rfl ?_
              rw [decide_eq_true (show (k : Int) = (k : Int) from rfl)]
              refine rl_y (y_pick_t rfl rfl rfl) rfl ?_
              refine rl_y (y_move rfl rfl) rfl ?_
              refine rl_on rfl rfl ?_
              refine rl_call_f (caps := []) rfl rfl Try.c10 rfl (FnP.mono (awake_fn _) ?_)
              rintro v u1 hle1 rfl
              refine rl_y (y_pick_t rfl rfl rfl) rfl ?_
              refine rl_y (y_assign rfl rfl) rfl ?_
              refine rl_end (ρ' := [(4, _)]) ⟨rfl, trivial⟩ ?_
              refine q_then ?_
              refine wc_ret ?_
              refine fin1 (.tmp rfl) ?_
              rfl
end Go.Proofs.Ytchmiljeidkkpaa
