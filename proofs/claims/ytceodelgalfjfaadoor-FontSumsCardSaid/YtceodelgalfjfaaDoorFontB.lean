/- Font: letters, vowels and the positions at which a word can be divided. -/
import Derived.Test.YtceodelgalfjfaaDoorFontA
namespace Go.Proofs.Ytceodelgalfjfaa
open Go Go.Eng
set_option linter.unusedSimpArgs false
set_option linter.unusedVariables false

theorem rwidth_fn (c : Int) (u : View) : FnP Tryd.prog 9 [.int .i64 c] u fun v _ => v = .int .i64 (wid c) := by
  refine FnP.intro [.tmp 2] Tryd.func9 rfl rfl rfl ?_
  intro w0 hw0
  refine wc_seq ?_
  refine wc_region ?_
  refine rl_y (y_assign rfl rfl) rfl ?_
  refine rl_end (ρ' := [(0, _)]) ⟨rfl, trivial⟩ ?_
  refine q_then ?_
  refine wc_seq ?_
  refine wc_seq ?_
  refine wc_cutB 20 (decide (ZeroP c)) (ρk := [(0, _)]) ⟨rfl, trivial⟩ ?_ ?_
  ·
    refine wc_region ?_
    refine rl_y (y_move rfl rfl) rfl ?_
    refine rl_y (y_lss rfl rfl rfl) rfl ?_
    refine rl_y (y_move rfl rfl) rfl ?_
    rcases Bool.eq_false_or_eq_true (decide (c < 32)) with hg1_2 | hg1_2
    ·
      simp only [hg1_2]
      refine rl_off rfl rfl rfl rfl ?_
      refine rl_off rfl rfl rfl rfl ?_
      refine rl_y (y_pick_t rfl rfl rfl) rfl ?_
      refine rl_y (y_move rfl rfl) rfl ?_
      refine rl_off rfl rfl rfl rfl ?_
      refine rl_off rfl rfl rfl rfl ?_
      refine rl_off rfl rfl rfl rfl ?_
      refine rl_off_u rfl rfl rfl ?_
      refine rl_off_u rfl rfl rfl ?_
      refine rl_off rfl rfl rfl rfl ?_
      refine rl_y (y_pick_t rfl rfl rfl) rfl ?_
      refine rl_y (y_move rfl rfl) rfl ?_
      refine rl_off rfl rfl rfl rfl ?_
      refine rl_off rfl rfl rfl rfl ?_
      refine rl_y (y_pick_t rfl rfl rfl) rfl ?_
      exact cutB_end rfl ⟨rfl, trivial⟩ (by (first | refine (decide_eq_true ?_).symm | refine (decide_eq_false ?_).symm | refine decide_eq_decide.2 ?_ | refine decide_eq_true ?_ | refine decide_eq_false ?_) <;> (try unfold ZeroP) <;> (try simp only [decide_eq_true_eq, decide_eq_false_iff_not] at *) <;> omega)
    ·
      simp only [hg1_2]
      refine rl_on rfl rfl ?_
      refine rl_y (y_move rfl rfl) rfl ?_
      refine rl_on rfl rfl ?_
      refine rl_y (y_eql rfl rfl rfl) rfl ?_
      refine rl_y (y_pick_f rfl rfl rfl) rfl ?_
      refine rl_y (y_move rfl rfl) rfl ?_
      rcases Bool.eq_false_or_eq_true (decide (c = 127)) with hg1_6 | hg1_6
      ·
        simp only [hg1_6]
        refine rl_off rfl rfl rfl rfl ?_
        refine rl_off rfl rfl rfl rfl ?_
        refine rl_off rfl rfl rfl rfl ?_
        refine rl_off_u rfl rfl rfl ?_
        refine rl_off_u rfl rfl rfl ?_
        refine rl_off rfl rfl rfl rfl ?_
        refine rl_y (y_pick_t rfl rfl rfl) rfl ?_
        refine rl_y (y_move rfl rfl) rfl ?_
        refine rl_off rfl rfl rfl rfl ?_
        refine rl_off rfl rfl rfl rfl ?_
        refine rl_y (y_pick_t rfl rfl rfl) rfl ?_
        exact cutB_end rfl ⟨rfl, trivial⟩ (by (first | refine (decide_eq_true ?_).symm | refine (decide_eq_false ?_).symm | refine decide_eq_decide.2 ?_ | refine decide_eq_true ?_ | refine decide_eq_false ?_) <;> (try unfold ZeroP) <;> (try simp only [decide_eq_true_eq, decide_eq_false_iff_not] at *) <;> omega)
      ·
        simp only [hg1_6]
        refine rl_on rfl rfl ?_
        refine rl_y (y_move rfl rfl) rfl ?_
        refine rl_on rfl rfl ?_
        refine rl_y (y_geq rfl rfl rfl) rfl ?_
        refine rl_on rfl rfl ?_
        refine rl_y (y_move rfl rfl) rfl ?_
        rcases Bool.eq_false_or_eq_true (decide (55296 ≤ c)) with hg1_9 | hg1_9
        ·
          simp only [hg1_9]
          refine rl_on rfl rfl ?_
          refine rl_y (y_move rfl rfl) rfl ?_
          refine rl_on rfl rfl ?_
          refine rl_y (y_leq rfl rfl rfl) rfl ?_
          refine rl_on rfl rfl ?_
          refine rl_y (y_pick_t rfl rfl rfl) rfl ?_
          refine rl_y (y_pick_f rfl rfl rfl) rfl ?_
          refine rl_y (y_move rfl rfl) rfl ?_
          rcases Bool.eq_false_or_eq_true (decide (c ≤ 57343)) with hg1_14 | hg1_14
          ·
            simp only [hg1_14]
            refine rl_off rfl rfl rfl rfl ?_
            refine rl_off rfl rfl rfl rfl ?_
            refine rl_y (y_pick_t rfl rfl rfl) rfl ?_
            exact cutB_end rfl ⟨rfl, trivial⟩ (by (first | refine (decide_eq_true ?_).symm | refine (decide_eq_false ?_).symm | refine decide_eq_decide.2 ?_ | refine decide_eq_true ?_ | refine decide_eq_false ?_) <;> (try unfold ZeroP) <;> (try simp only [decide_eq_true_eq, decide_eq_false_iff_not] at *) <;> omega)
          ·
            simp only [hg1_14]
            refine rl_on rfl rfl ?_
            refine rl_y (y_move rfl rfl) rfl ?_
            refine rl_on rfl rfl ?_
            refine rl_y (y_gtr rfl rfl rfl) rfl ?_
            refine rl_y (y_pick_f rfl rfl rfl) rfl ?_
            exact cutB_end rfl ⟨rfl, trivial⟩ (by (first | refine (decide_eq_true ?_).symm | refine (decide_eq_false ?_).symm | refine decide_eq_decide.2 ?_ | refine decide_eq_true ?_ | refine decide_eq_false ?_) <;> (try unfold ZeroP) <;> (try simp only [decide_eq_true_eq, decide_eq_false_iff_not] at *) <;> omega)
        ·
          simp only [hg1_9]
          refine rl_off rfl rfl rfl rfl ?_
          refine rl_off rfl rfl rfl rfl ?_
          refine rl_on rfl rfl ?_
          refine rl_y (y_pick_f rfl rfl rfl) rfl ?_
          refine rl_y (y_pick_f rfl rfl rfl) rfl ?_
          refine rl_y (y_move rfl rfl) rfl ?_
          refine rl_on rfl rfl ?_
          refine rl_y (y_move rfl rfl) rfl ?_
          refine rl_on rfl rfl ?_
          refine rl_y (y_gtr rfl rfl rfl) rfl ?_
          refine rl_y (y_pick_f rfl rfl rfl) rfl ?_
          exact cutB_end rfl ⟨rfl, trivial⟩ (by (first | refine (decide_eq_true ?_).symm | refine (decide_eq_false ?_).symm | refine decide_eq_decide.2 ?_ | refine decide_eq_true ?_ | refine decide_eq_false ?_) <;> (try unfold ZeroP) <;> (try simp only [decide_eq_true_eq, decide_eq_false_iff_not] at *) <;> omega)
  refine q_then ?_
  refine wc_cond rfl (fun hb1 => ?_) (fun hb1 => ?_)
  ·
    have hz : ZeroP c := of_decide_eq_true hb1
    refine wc_seq ?_
    refine wc_region ?_
    refine rl_y (y_assign rfl rfl) rfl ?_
    refine rl_end (ρ' := [(2, _)]) ⟨rfl, trivial⟩ ?_
    refine q_then ?_
    refine wc_ret ?_
    refine q_then_ret ?_
    refine fin1 (.tmp rfl) ?_
    simp only [wid, if_pos hz]
  ·
    have hz : ¬ ZeroP c := of_decide_eq_false hb1
    refine wc_skip ?_
    refine q_then ?_
    refine wc_seq ?_
    refine wc_seq ?_
    refine wc_region ?_
    refine rl_y (y_move rfl rfl) rfl ?_
    refine rl_y (y_gtr rfl rfl rfl) rfl ?_
    refine rl_end (ρ' := [(0, _), (22, _)]) ⟨rfl, rfl, trivial⟩ ?_
    refine q_then ?_
    refine wc_cond rfl (fun hb3 => ?_) (fun hb3 => ?_)
    ·
      have h7 : 127 < c := of_decide_eq_true hb3
      refine wc_seq ?_
      refine wc_seq ?_
      refine wc_region ?_
      refine rl_y (y_move rfl rfl) rfl ?_
      refine rl_call_f (caps := []) rfl rfl Tryd.c20 rfl (FnP.mono (wide_fn c _) ?_)
      rintro v u1 hle1 rfl
      refine rl_end (ρ' := [(24, _)]) ⟨rfl, trivial⟩ ?_
      refine q_then ?_
      refine wc_cond rfl (fun hb4 => ?_) (fun hb4 => ?_)
      ·
        refine wc_seq ?_
        refine wc_region ?_
        refine rl_y (y_assign rfl rfl) rfl ?_
        refine rl_end (ρ' := [(2, _)]) ⟨rfl, trivial⟩ ?_
        refine q_then ?_
        refine wc_ret ?_
        refine q_then_ret ?_
        refine q_then_ret ?_
        refine fin1 (.tmp rfl) ?_
        simp only [wid, if_neg hz, if_pos h7, if_pos (of_decide_eq_true hb4)]
      ·
        refine wc_skip ?_
        refine q_then ?_
        refine wc_seq ?_
        refine wc_region ?_
        refine rl_y (y_assign rfl rfl) rfl ?_
        refine rl_end (ρ' := [(2, _)]) ⟨rfl, trivial⟩ ?_
        refine q_then ?_
        refine wc_ret ?_
        refine q_then_ret ?_
        refine fin1 (.tmp rfl) ?_
        simp only [wid, if_neg hz, if_pos h7, if_neg (of_decide_eq_false hb4)]
    ·
      have h7 : ¬ 127 < c := of_decide_eq_false hb3
      refine wc_skip ?_
      refine q_then ?_
      refine wc_seq ?_
      refine wc_seq ?_
      refine wc_region ?_
      refine rl_y (y_move rfl rfl) rfl ?_
      refine rl_call_f (caps := []) rfl rfl Tryd.c21 rfl (FnP.mono (among_fn c l25 (by decide) _) ?_)
      rintro v u1 hle1 rfl
      refine rl_end (ρ' := [(0, _), (26, _)]) ⟨rfl, rfl, trivial⟩ ?_
      refine q_then ?_
      refine wc_cond rfl (fun hb7 => ?_) (fun hb7 => ?_)
      ·
        refine wc_seq ?_
        refine wc_region ?_
        refine rl_y (y_assign rfl rfl) rfl ?_
        refine rl_end (ρ' := [(2, _)]) ⟨rfl, trivial⟩ ?_
        refine q_then ?_
        refine wc_ret ?_
        refine q_then_ret ?_
        refine fin1 (.tmp rfl) ?_
        simp only [wid, if_neg hz, if_neg h7, if_pos (of_decide_eq_true hb7)]
      ·
        refine wc_skip ?_
        refine q_then ?_
        refine wc_seq ?_
        refine wc_seq ?_
        refine wc_region ?_
        refine rl_y (y_move rfl rfl) rfl ?_
        refine rl_call_f (caps := []) rfl rfl Tryd.c21 rfl (FnP.mono (among_fn c l30 (by decide) _) ?_)
        rintro v u1 hle1 rfl
        refine rl_end (ρ' := [(0, _), (28, _)]) ⟨rfl, rfl, trivial⟩ ?_
        refine q_then ?_
        refine wc_cond rfl (fun hb9 => ?_) (fun hb9 => ?_)
        ·
          refine wc_seq ?_
          refine wc_region ?_
          refine rl_y (y_assign rfl rfl) rfl ?_
          refine rl_end (ρ' := [(2, _)]) ⟨rfl, trivial⟩ ?_
          refine q_then ?_
          refine wc_ret ?_
          refine q_then_ret ?_
          refine fin1 (.tmp rfl) ?_
          simp only [wid, if_neg hz, if_neg h7, if_neg (of_decide_eq_false hb7), if_pos (of_decide_eq_true hb9)]
        ·
          refine wc_skip ?_
          refine q_then ?_
          refine wc_seq ?_
          refine wc_seq ?_
          refine wc_region ?_
          refine rl_y (y_move rfl rfl) rfl ?_
          refine rl_call_f (caps := []) rfl rfl Tryd.c21 rfl (FnP.mono (among_fn c l85 (by decide) _) ?_)
          rintro v u1 hle1 rfl
          refine rl_end (ρ' := [(0, _), (30, _)]) ⟨rfl, rfl, trivial⟩ ?_
          refine q_then ?_
          refine wc_cond rfl (fun hb11 => ?_) (fun hb11 => ?_)
          ·
            refine wc_seq ?_
            refine wc_region ?_
            refine rl_y (y_assign rfl rfl) rfl ?_
            refine rl_end (ρ' := [(2, _)]) ⟨rfl, trivial⟩ ?_
            refine q_then ?_
            refine wc_ret ?_
            refine q_then_ret ?_
            refine fin1 (.tmp rfl) ?_
            simp only [wid, if_neg hz, if_neg h7, if_neg (of_decide_eq_false hb7), if_neg (of_decide_eq_false hb9), if_pos (of_decide_eq_true hb11)]
          ·
            refine wc_skip ?_
            refine q_then ?_
            refine wc_seq ?_
            refine wc_seq ?_
            refine wc_cutB 44 (decide ((65 ≤ c ∧ c ≤ 90 ∧ c ≠ 74) ∨ c = 38)) (ρk := []) trivial ?_ ?_
            ·
              refine wc_region ?_
              refine rl_y (y_move rfl rfl) rfl ?_
              refine rl_y (y_geq rfl rfl rfl) rfl ?_
              refine rl_y (y_move rfl rfl) rfl ?_
              rcases Bool.eq_false_or_eq_true (decide (65 ≤ c)) with hg13_2 | hg13_2
              ·
                simp only [hg13_2]
                refine rl_on rfl rfl ?_
                refine rl_y (y_move rfl rfl) rfl ?_
                refine rl_on rfl rfl ?_
                refine rl_y (y_leq rfl rfl rfl) rfl ?_
                refine rl_y (y_pick_t rfl rfl rfl) rfl ?_
                refine rl_y (y_move rfl rfl) rfl ?_
                rcases Bool.eq_false_or_eq_true (decide (c ≤ 90)) with hg13_6 | hg13_6
                ·
                  simp only [hg13_6]
                  refine rl_on rfl rfl ?_
                  refine rl_y (y_move rfl rfl) rfl ?_
                  refine rl_on rfl rfl ?_
                  refine rl_y (y_neq rfl rfl rfl) rfl ?_
                  refine rl_y (y_pick_t rfl rfl rfl) rfl ?_
                  refine rl_y (y_move rfl rfl) rfl ?_
                  rcases Bool.eq_false_or_eq_true (decide (c ≠ 74)) with hg13_10 | hg13_10
                  ·
                    simp only [hg13_10]
                    refine rl_off rfl rfl rfl rfl ?_
                    refine rl_off rfl rfl rfl rfl ?_
                    refine rl_y (y_pick_t rfl rfl rfl) rfl ?_
                    exact cutB_end rfl trivial (by (first | refine (decide_eq_true ?_).symm | refine (decide_eq_false ?_).symm | refine decide_eq_decide.2 ?_ | refine decide_eq_true ?_ | refine decide_eq_false ?_) <;> (try unfold ZeroP) <;> (try simp only [decide_eq_true_eq, decide_eq_false_iff_not] at *) <;> omega)
                  ·
                    simp only [hg13_10]
                    refine rl_on rfl rfl ?_
                    refine rl_y (y_move rfl rfl) rfl ?_
                    refine rl_on rfl rfl ?_
                    refine rl_y (y_eql rfl rfl rfl) rfl ?_
                    refine rl_y (y_pick_f rfl rfl rfl) rfl ?_
                    exact cutB_end rfl trivial (by (first | refine (decide_eq_true ?_).symm | refine (decide_eq_false ?_).symm | refine decide_eq_decide.2 ?_ | refine decide_eq_true ?_ | refine decide_eq_false ?_) <;> (try unfold ZeroP) <;> (try simp only [decide_eq_true_eq, decide_eq_false_iff_not] at *) <;> omega)
                ·
                  simp only [hg13_6]
                  refine rl_off rfl rfl rfl rfl ?_
                  refine rl_off rfl rfl rfl rfl ?_
                  refine rl_y (y_pick_f rfl rfl rfl) rfl ?_
                  refine rl_y (y_move rfl rfl) rfl ?_
                  refine rl_on rfl rfl ?_
                  refine rl_y (y_move rfl rfl) rfl ?_
                  refine rl_on rfl rfl ?_
                  refine rl_y (y_eql rfl rfl rfl) rfl ?_
                  refine rl_y (y_pick_f rfl rfl rfl) rfl ?_
                  exact cutB_end rfl trivial (by (first | refine (decide_eq_true ?_).symm | refine (decide_eq_false ?_).symm | refine decide_eq_decide.2 ?_ | refine decide_eq_true ?_ | refine decide_eq_false ?_) <;> (try unfold ZeroP) <;> (try simp only [decide_eq_true_eq, decide_eq_false_iff_not] at *) <;> omega)
              ·
                simp only [hg13_2]
                refine rl_off rfl rfl rfl rfl ?_
                refine rl_off rfl rfl rfl rfl ?_
                refine rl_y (y_pick_f rfl rfl rfl) rfl ?_
                refine rl_y (y_move rfl rfl) rfl ?_
                refine rl_off rfl rfl rfl rfl ?_
                refine rl_off rfl rfl rfl rfl ?_
                refine rl_y (y_pick_f rfl rfl rfl) rfl ?_
                refine rl_y (y_move rfl rfl) rfl ?_
                refine rl_on rfl rfl ?_
                refine rl_y (y_move rfl rfl) rfl ?_
                refine rl_on rfl rfl ?_
                refine rl_y (y_eql rfl rfl rfl) rfl ?_
                refine rl_y (y_pick_f rfl rfl rfl) rfl ?_
                exact cutB_end rfl trivial (by (first | refine (decide_eq_true ?_).symm | refine (decide_eq_false ?_).symm | refine decide_eq_decide.2 ?_ | refine decide_eq_true ?_ | refine decide_eq_false ?_) <;> (try unfold ZeroP) <;> (try simp only [decide_eq_true_eq, decide_eq_false_iff_not] at *) <;> omega)
            refine q_then ?_
            refine wc_cond rfl (fun hb13 => ?_) (fun hb13 => ?_)
            ·
              refine wc_seq ?_
              refine wc_region ?_
              refine rl_y (y_assign rfl rfl) rfl ?_
              refine rl_end (ρ' := [(2, _)]) ⟨rfl, trivial⟩ ?_
              refine q_then ?_
              refine wc_ret ?_
              refine q_then_ret ?_
              refine fin1 (.tmp rfl) ?_
              simp only [wid, if_neg hz, if_neg h7, if_neg (of_decide_eq_false hb7), if_neg (of_decide_eq_false hb9), if_neg (of_decide_eq_false hb11), if_pos (of_decide_eq_true hb13)]
            ·
              refine wc_skip ?_
              refine q_then ?_
              refine wc_seq ?_
              refine wc_region ?_
              refine rl_y (y_assign rfl rfl) rfl ?_
              refine rl_end (ρ' := [(2, _)]) ⟨rfl, trivial⟩ ?_
              refine q_then ?_
              refine wc_ret ?_
              refine fin1 (.tmp rfl) ?_
              simp only [wid, if_neg hz, if_neg h7, if_neg (of_decide_eq_false hb7), if_neg (of_decide_eq_false hb9), if_neg (of_decide_eq_false hb11), if_neg (of_decide_eq_false hb13)]

def LetP (n : Int) : Prop := (97 ≤ n ∧ n ≤ 122) ∨ (65 ≤ n ∧ n ≤ 90)
instance (n : Int) : Decidable (LetP n) := by unfold LetP; infer_instance
def VowP (n : Int) : Prop := n = 97 ∨ n = 101 ∨ n = 105 ∨ n = 111 ∨ n = 117 ∨ n = 65 ∨ n = 69 ∨ n = 73 ∨ n = 79 ∨ n = 85
instance (n : Int) : Decidable (VowP n) := by unfold VowP; infer_instance

theorem letter_fn (n : Int) (u : View) : FnP Tryd.prog 25 [.int .u8 n] u fun v _ => v = .bool (decide (LetP n)) := by
  refine FnP.intro [.tmp 2] Tryd.func25 rfl rfl rfl ?_
  intro w0 hw0
  refine wc_seq ?_
  refine wc_region ?_
  refine rl_y (y_assign rfl rfl) rfl ?_
  refine rl_end (ρ' := [(0, _)]) ⟨rfl, trivial⟩ ?_
  refine q_then ?_
  refine wc_seq ?_
  refine wc_region ?_
  refine rl_y (y_move rfl rfl) rfl ?_
  refine rl_y (y_geq rfl rfl rfl) rfl ?_
  refine rl_y (y_move rfl rfl) rfl ?_
  rcases Bool.eq_false_or_eq_true (decide (97 ≤ n)) with hg1_2 | hg1_2
  ·
    simp only [hg1_2]
    refine rl_on rfl rfl ?_
    refine rl_y (y_move rfl rfl) rfl ?_
    refine rl_on rfl rfl ?_
    refine rl_y (y_leq rfl rfl rfl) rfl ?_
    refine rl_y (y_pick_t rfl rfl rfl) rfl ?_
    refine rl_y (y_move rfl rfl) rfl ?_
    rcases Bool.eq_false_or_eq_true (decide (n ≤ 122)) with hg1_6 | hg1_6
    ·
      simp only [hg1_6]
      refine rl_off rfl rfl rfl rfl ?_
      refine rl_off rfl rfl rfl rfl ?_
      refine rl_off rfl rfl rfl rfl ?_
      refine rl_off_u rfl rfl rfl ?_
      refine rl_off_u rfl rfl rfl ?_
      refine rl_off rfl rfl rfl rfl ?_
      refine rl_y (y_pick_t rfl rfl rfl) rfl ?_
      refine rl_y (y_assign rfl rfl) rfl ?_
      refine rl_end (ρ' := [(2, _)]) ⟨rfl, trivial⟩ ?_
      refine q_then ?_
      refine wc_ret ?_
      refine fin1 (.tmp rfl) ?_
      refine bool_val ?_
      (first | refine (decide_eq_true ?_).symm | refine (decide_eq_false ?_).symm | refine decide_eq_decide.2 ?_ | refine decide_eq_true ?_ | refine decide_eq_false ?_) <;> (try unfold LetP) <;> (try simp only [decide_eq_true_eq, decide_eq_false_iff_not] at *) <;> omega
    ·
      simp only [hg1_6]
      refine rl_on rfl rfl ?_
      refine rl_y (y_move rfl rfl) rfl ?_
      refine rl_on rfl rfl ?_
      refine rl_y (y_geq rfl rfl rfl) rfl ?_
      refine rl_on rfl rfl ?_
      refine rl_y (y_move rfl rfl) rfl ?_
      rcases Bool.eq_false_or_eq_true (decide (65 ≤ n)) with hg1_9 | hg1_9
      ·
        simp only [hg1_9]
        refine rl_on rfl rfl ?_
        refine rl_y (y_move rfl rfl) rfl ?_
        refine rl_on rfl rfl ?_
        refine rl_y (y_leq rfl rfl rfl) rfl ?_
        refine rl_on rfl rfl ?_
        refine rl_y (y_pick_t rfl rfl rfl) rfl ?_
        refine rl_y (y_pick_f rfl rfl rfl) rfl ?_
        refine rl_y (y_assign rfl rfl) rfl ?_
        refine rl_end (ρ' := [(2, _)]) ⟨rfl, trivial⟩ ?_
        refine q_then ?_
        refine wc_ret ?_
        refine fin1 (.tmp rfl) ?_
        refine bool_val ?_
        (first | refine (decide_eq_true ?_).symm | refine (decide_eq_false ?_).symm | refine decide_eq_decide.2 ?_ | refine decide_eq_true ?_ | refine decide_eq_false ?_) <;> (try unfold LetP) <;> (try simp only [decide_eq_true_eq, decide_eq_false_iff_not] at *) <;> omega
      ·
        simp only [hg1_9]
        refine rl_off rfl rfl rfl rfl ?_
        refine rl_off rfl rfl rfl rfl ?_
        refine rl_on rfl rfl ?_
        refine rl_y (y_pick_f rfl rfl rfl) rfl ?_
        refine rl_y (y_pick_f rfl rfl rfl) rfl ?_
        refine rl_y (y_assign rfl rfl) rfl ?_
        refine rl_end (ρ' := [(2, _)]) ⟨rfl, trivial⟩ ?_
        refine q_then ?_
        refine wc_ret ?_
        refine fin1 (.tmp rfl) ?_
        refine bool_val ?_
        (first | refine (decide_eq_true ?_).symm | refine (decide_eq_false ?_).symm | refine decide_eq_decide.2 ?_ | refine decide_eq_true ?_ | refine decide_eq_false ?_) <;> (try unfold LetP) <;> (try simp only [decide_eq_true_eq, decide_eq_false_iff_not] at *) <;> omega
  ·
    simp only [hg1_2]
    refine rl_off rfl rfl rfl rfl ?_
    refine rl_off rfl rfl rfl rfl ?_
    refine rl_y (y_pick_f rfl rfl rfl) rfl ?_
    refine rl_y (y_move rfl rfl) rfl ?_
    refine rl_on rfl rfl ?_
    refine rl_y (y_move rfl rfl) rfl ?_
    refine rl_on rfl rfl ?_
    refine rl_y (y_geq rfl rfl rfl) rfl ?_
    refine rl_on rfl rfl ?_
    refine rl_y (y_move rfl rfl) rfl ?_
    rcases Bool.eq_false_or_eq_true (decide (65 ≤ n)) with hg1_9 | hg1_9
    ·
      simp only [hg1_9]
      refine rl_on rfl rfl ?_
      refine rl_y (y_move rfl rfl) rfl ?_
      refine rl_on rfl rfl ?_
      refine rl_y (y_leq rfl rfl rfl) rfl ?_
      refine rl_on rfl rfl ?_
      refine rl_y (y_pick_t rfl rfl rfl) rfl ?_
      refine rl_y (y_pick_f rfl rfl rfl) rfl ?_
      refine rl_y (y_assign rfl rfl) rfl ?_
      refine rl_end (ρ' := [(2, _)]) ⟨rfl, trivial⟩ ?_
      refine q_then ?_
      refine wc_ret ?_
      refine fin1 (.tmp rfl) ?_
      refine bool_val ?_
      (first | refine (decide_eq_true ?_).symm | refine (decide_eq_false ?_).symm | refine decide_eq_decide.2 ?_ | refine decide_eq_true ?_ | refine decide_eq_false ?_) <;> (try unfold LetP) <;> (try simp only [decide_eq_true_eq, decide_eq_false_iff_not] at *) <;> omega
    ·
      simp only [hg1_9]
      refine rl_off rfl rfl rfl rfl ?_
      refine rl_off rfl rfl rfl rfl ?_
      refine rl_on rfl rfl ?_
      refine rl_y (y_pick_f rfl rfl rfl) rfl ?_
      refine rl_y (y_pick_f rfl rfl rfl) rfl ?_
      refine rl_y (y_assign rfl rfl) rfl ?_
      refine rl_end (ρ' := [(2, _)]) ⟨rfl, trivial⟩ ?_
      refine q_then ?_
      refine wc_ret ?_
      refine fin1 (.tmp rfl) ?_
      refine bool_val ?_
      (first | refine (decide_eq_true ?_).symm | refine (decide_eq_false ?_).symm | refine decide_eq_decide.2 ?_ | refine decide_eq_true ?_ | refine decide_eq_false ?_) <;> (try unfold LetP) <;> (try simp only [decide_eq_true_eq, decide_eq_false_iff_not] at *) <;> omega
theorem rletter_fn (n : Int) (u : View) : FnP Tryd.prog 28 [.int .u8 n] u fun v _ => v = .bool (decide (LetP n)) := by
  refine FnP.intro [.tmp 2] Tryd.func28 rfl rfl rfl ?_
  intro w0 hw0
  refine wc_seq ?_
  refine wc_region ?_
  refine rl_y (y_assign rfl rfl) rfl ?_
  refine rl_end (ρ' := [(0, _)]) ⟨rfl, trivial⟩ ?_
  refine q_then ?_
  refine wc_seq ?_
  refine wc_region ?_
  refine rl_y (y_move rfl rfl) rfl ?_
  refine rl_y (y_geq rfl rfl rfl) rfl ?_
  refine rl_y (y_move rfl rfl) rfl ?_
  rcases Bool.eq_false_or_eq_true (decide (97 ≤ n)) with hg1_2 | hg1_2
  ·
    simp only [hg1_2]
    refine rl_on rfl rfl ?_
    refine rl_y (y_move rfl rfl) rfl ?_
    refine rl_on rfl rfl ?_
    refine rl_y (y_leq rfl rfl rfl) rfl ?_
    refine rl_y (y_pick_t rfl rfl rfl) rfl ?_
    refine rl_y (y_move rfl rfl) rfl ?_
    rcases Bool.eq_false_or_eq_true (decide (n ≤ 122)) with hg1_6 | hg1_6
    ·
      simp only [hg1_6]
      refine rl_off rfl rfl rfl rfl ?_
      refine rl_off rfl rfl rfl rfl ?_
      refine rl_off rfl rfl rfl rfl ?_
      refine rl_off_u rfl rfl rfl ?_
      refine rl_off_u rfl rfl rfl ?_
      refine rl_off rfl rfl rfl rfl ?_
      refine rl_y (y_pick_t rfl rfl rfl) rfl ?_
      refine rl_y (y_assign rfl rfl) rfl ?_
      refine rl_end (ρ' := [(2, _)]) ⟨rfl, trivial⟩ ?_
      refine q_then ?_
      refine wc_ret ?_
      refine fin1 (.tmp rfl) ?_
      refine bool_val ?_
      (first | refine (decide_eq_true ?_).symm | refine (decide_eq_false ?_).symm | refine decide_eq_decide.2 ?_ | refine decide_eq_true ?_ | refine decide_eq_false ?_) <;> (try unfold LetP) <;> (try simp only [decide_eq_true_eq, decide_eq_false_iff_not] at *) <;> omega
    ·
      simp only [hg1_6]
      refine rl_on rfl rfl ?_
      refine rl_y (y_move rfl rfl) rfl ?_
      refine rl_on rfl rfl ?_
      refine rl_y (y_geq rfl rfl rfl) rfl ?_
      refine rl_on rfl rfl ?_
      refine rl_y (y_move rfl rfl) rfl ?_
      rcases Bool.eq_false_or_eq_true (decide (65 ≤ n)) with hg1_9 | hg1_9
      ·
        simp only [hg1_9]
        refine rl_on rfl rfl ?_
        refine rl_y (y_move rfl rfl) rfl ?_
        refine rl_on rfl rfl ?_
        refine rl_y (y_leq rfl rfl rfl) rfl ?_
        refine rl_on rfl rfl ?_
        refine rl_y (y_pick_t rfl rfl rfl) rfl ?_
        refine rl_y (y_pick_f rfl rfl rfl) rfl ?_
        refine rl_y (y_assign rfl rfl) rfl ?_
        refine rl_end (ρ' := [(2, _)]) ⟨rfl, trivial⟩ ?_
        refine q_then ?_
        refine wc_ret ?_
        refine fin1 (.tmp rfl) ?_
        refine bool_val ?_
        (first | refine (decide_eq_true ?_).symm | refine (decide_eq_false ?_).symm | refine decide_eq_decide.2 ?_ | refine decide_eq_true ?_ | refine decide_eq_false ?_) <;> (try unfold LetP) <;> (try simp only [decide_eq_true_eq, decide_eq_false_iff_not] at *) <;> omega
      ·
        simp only [hg1_9]
        refine rl_off rfl rfl rfl rfl ?_
        refine rl_off rfl rfl rfl rfl ?_
        refine rl_on rfl rfl ?_
        refine rl_y (y_pick_f rfl rfl rfl) rfl ?_
        refine rl_y (y_pick_f rfl rfl rfl) rfl ?_
        refine rl_y (y_assign rfl rfl) rfl ?_
        refine rl_end (ρ' := [(2, _)]) ⟨rfl, trivial⟩ ?_
        refine q_then ?_
        refine wc_ret ?_
        refine fin1 (.tmp rfl) ?_
        refine bool_val ?_
        (first | refine (decide_eq_true ?_).symm | refine (decide_eq_false ?_).symm | refine decide_eq_decide.2 ?_ | refine decide_eq_true ?_ | refine decide_eq_false ?_) <;> (try unfold LetP) <;> (try simp only [decide_eq_true_eq, decide_eq_false_iff_not] at *) <;> omega
  ·
    simp only [hg1_2]
    refine rl_off rfl rfl rfl rfl ?_
    refine rl_off rfl rfl rfl rfl ?_
    refine rl_y (y_pick_f rfl rfl rfl) rfl ?_
    refine rl_y (y_move rfl rfl) rfl ?_
    refine rl_on rfl rfl ?_
    refine rl_y (y_move rfl rfl) rfl ?_
    refine rl_on rfl rfl ?_
    refine rl_y (y_geq rfl rfl rfl) rfl ?_
    refine rl_on rfl rfl ?_
    refine rl_y (y_move rfl rfl) rfl ?_
    rcases Bool.eq_false_or_eq_true (decide (65 ≤ n)) with hg1_9 | hg1_9
    ·
      simp only [hg1_9]
      refine rl_on rfl rfl ?_
      refine rl_y (y_move rfl rfl) rfl ?_
      refine rl_on rfl rfl ?_
      refine rl_y (y_leq rfl rfl rfl) rfl ?_
      refine rl_on rfl rfl ?_
      refine rl_y (y_pick_t rfl rfl rfl) rfl ?_
      refine rl_y (y_pick_f rfl rfl rfl) rfl ?_
      refine rl_y (y_assign rfl rfl) rfl ?_
      refine rl_end (ρ' := [(2, _)]) ⟨rfl, trivial⟩ ?_
      refine q_then ?_
      refine wc_ret ?_
      refine fin1 (.tmp rfl) ?_
      refine bool_val ?_
      (first | refine (decide_eq_true ?_).symm | refine (decide_eq_false ?_).symm | refine decide_eq_decide.2 ?_ | refine decide_eq_true ?_ | refine decide_eq_false ?_) <;> (try unfold LetP) <;> (try simp only [decide_eq_true_eq, decide_eq_false_iff_not] at *) <;> omega
    ·
      simp only [hg1_9]
      refine rl_off rfl rfl rfl rfl ?_
      refine rl_off rfl rfl rfl rfl ?_
      refine rl_on rfl rfl ?_
      refine rl_y (y_pick_f rfl rfl rfl) rfl ?_
      refine rl_y (y_pick_f rfl rfl rfl) rfl ?_
      refine rl_y (y_assign rfl rfl) rfl ?_
      refine rl_end (ρ' := [(2, _)]) ⟨rfl, trivial⟩ ?_
      refine q_then ?_
      refine wc_ret ?_
      refine fin1 (.tmp rfl) ?_
      refine bool_val ?_
      (first | refine (decide_eq_true ?_).symm | refine (decide_eq_false ?_).symm | refine decide_eq_decide.2 ?_ | refine decide_eq_true ?_ | refine decide_eq_false ?_) <;> (try unfold LetP) <;> (try simp only [decide_eq_true_eq, decide_eq_false_iff_not] at *) <;> omega
theorem vowel_fn (n : Int) (u : View) : FnP Tryd.prog 27 [.int .u8 n] u fun v _ => v = .bool (decide (VowP n)) := by
  refine FnP.intro [.tmp 2] Tryd.func27 rfl rfl rfl ?_
  intro w0 hw0
  refine wc_seq ?_
  refine wc_region ?_
  refine rl_y (y_assign rfl rfl) rfl ?_
  refine rl_end (ρ' := [(0, _)]) ⟨rfl, trivial⟩ ?_
  refine q_then ?_
  refine wc_seq ?_
  refine wc_seq ?_
  refine wc_region ?_
  refine rl_y (y_move rfl rfl) rfl ?_
  refine rl_end (ρ' := [(3, _)]) ⟨rfl, trivial⟩ ?_
  refine q_then ?_
  refine wc_block ?_
  refine wc_cut (fun ρ σ u' μ => u = u' ∧ μ = [] ∧ σ = [] ∧ ∃ q, q = decide (VowP n) ∧ ρ = [(4, .v (.bool q))]) ?_ ?_
  ·
    refine wc_seq ?_
    refine wc_region ?_
    refine rl_y (y_eql rfl rfl rfl) rfl ?_
    refine rl_y (y_assign rfl rfl) rfl ?_
    refine rl_end (ρ' := [(3, _), (4, _)]) ⟨rfl, rfl, trivial⟩ ?_
    refine q_then ?_
    refine wc_cond rfl (fun hb2 => ?_) (fun hb2 => ?_)
    ·
      refine wc_skip ?_
      refine q_thenK ?_
      refine ⟨[(4, _)], [], ⟨rfl, trivial⟩, trivial, rfl, rfl, rfl, _, ?_, rfl⟩
      (first | refine (decide_eq_true ?_).symm | refine (decide_eq_false ?_).symm | refine decide_eq_decide.2 ?_ | refine decide_eq_true ?_ | refine decide_eq_false ?_) <;> (try unfold VowP) <;> (try simp only [decide_eq_true_eq, decide_eq_false_iff_not] at *) <;> omega
    ·
      refine wc_seq ?_
      refine wc_region ?_
      refine rl_y (y_eql rfl rfl rfl) rfl ?_
      refine rl_y (y_assign rfl rfl) rfl ?_
      refine rl_end (ρ' := [(3, _), (4, _)]) ⟨rfl, rfl, trivial⟩ ?_
      refine q_then ?_
      refine wc_cond rfl (fun hb3 => ?_) (fun hb3 => ?_)
      ·
        refine wc_skip ?_
        refine q_thenK ?_
        refine ⟨[(4, _)], [], ⟨rfl, trivial⟩, trivial, rfl, rfl, rfl, _, ?_, rfl⟩
        (first | refine (decide_eq_true ?_).symm | refine (decide_eq_false ?_).symm | refine decide_eq_decide.2 ?_ | refine decide_eq_true ?_ | refine decide_eq_false ?_) <;> (try unfold VowP) <;> (try simp only [decide_eq_true_eq, decide_eq_false_iff_not] at *) <;> omega
      ·
        refine wc_seq ?_
        refine wc_region ?_
        refine rl_y (y_eql rfl rfl rfl) rfl ?_
        refine rl_y (y_assign rfl rfl) rfl ?_
        refine rl_end (ρ' := [(3, _), (4, _)]) ⟨rfl, rfl, trivial⟩ ?_
        refine q_then ?_
        refine wc_cond rfl (fun hb4 => ?_) (fun hb4 => ?_)
        ·
          refine wc_skip ?_
          refine q_thenK ?_
          refine ⟨[(4, _)], [], ⟨rfl, trivial⟩, trivial, rfl, rfl, rfl, _, ?_, rfl⟩
          (first | refine (decide_eq_true ?_).symm | refine (decide_eq_false ?_).symm | refine decide_eq_decide.2 ?_ | refine decide_eq_true ?_ | refine decide_eq_false ?_) <;> (try unfold VowP) <;> (try simp only [decide_eq_true_eq, decide_eq_false_iff_not] at *) <;> omega
        ·
          refine wc_seq ?_
          refine wc_region ?_
          refine rl_y (y_eql rfl rfl rfl) rfl ?_
          refine rl_y (y_assign rfl rfl) rfl ?_
          refine rl_end (ρ' := [(3, _), (4, _)]) ⟨rfl, rfl, trivial⟩ ?_
          refine q_then ?_
          refine wc_cond rfl (fun hb5 => ?_) (fun hb5 => ?_)
          ·
            refine wc_skip ?_
            refine q_thenK ?_
            refine ⟨[(4, _)], [], ⟨rfl, trivial⟩, trivial, rfl, rfl, rfl, _, ?_, rfl⟩
            (first | refine (decide_eq_true ?_).symm | refine (decide_eq_false ?_).symm | refine decide_eq_decide.2 ?_ | refine decide_eq_true ?_ | refine decide_eq_false ?_) <;> (try unfold VowP) <;> (try simp only [decide_eq_true_eq, decide_eq_false_iff_not] at *) <;> omega
          ·
            refine wc_seq ?_
            refine wc_region ?_
            refine rl_y (y_eql rfl rfl rfl) rfl ?_
            refine rl_y (y_assign rfl rfl) rfl ?_
            refine rl_end (ρ' := [(3, _), (4, _)]) ⟨rfl, rfl, trivial⟩ ?_
            refine q_then ?_
            refine wc_cond rfl (fun hb6 => ?_) (fun hb6 => ?_)
            ·
              refine wc_skip ?_
              refine q_thenK ?_
              refine ⟨[(4, _)], [], ⟨rfl, trivial⟩, trivial, rfl, rfl, rfl, _, ?_, rfl⟩
              (first | refine (decide_eq_true ?_).symm | refine (decide_eq_false ?_).symm | refine decide_eq_decide.2 ?_ | refine decide_eq_true ?_ | refine decide_eq_false ?_) <;> (try unfold VowP) <;> (try simp only [decide_eq_true_eq, decide_eq_false_iff_not] at *) <;> omega
            ·
              refine wc_seq ?_
              refine wc_region ?_
              refine rl_y (y_eql rfl rfl rfl) rfl ?_
              refine rl_y (y_assign rfl rfl) rfl ?_
              refine rl_end (ρ' := [(3, _), (4, _)]) ⟨rfl, rfl, trivial⟩ ?_
              refine q_then ?_
              refine wc_cond rfl (fun hb7 => ?_) (fun hb7 => ?_)
              ·
                refine wc_skip ?_
                refine q_thenK ?_
                refine ⟨[(4, _)], [], ⟨rfl, trivial⟩, trivial, rfl, rfl, rfl, _, ?_, rfl⟩
                (first | refine (decide_eq_true ?_).symm | refine (decide_eq_false ?_).symm | refine decide_eq_decide.2 ?_ | refine decide_eq_true ?_ | refine decide_eq_false ?_) <;> (try unfold VowP) <;> (try simp only [decide_eq_true_eq, decide_eq_false_iff_not] at *) <;> omega
              ·
                refine wc_seq ?_
                refine wc_region ?_
                refine rl_y (y_eql rfl rfl rfl) rfl ?_
                refine rl_y (y_assign rfl rfl) rfl ?_
                refine rl_end (ρ' := [(3, _), (4, _)]) ⟨rfl, rfl, trivial⟩ ?_
                refine q_then ?_
                refine wc_cond rfl (fun hb8 => ?_) (fun hb8 => ?_)
                ·
                  refine wc_skip ?_
                  refine q_thenK ?_
                  refine ⟨[(4, _)], [], ⟨rfl, trivial⟩, trivial, rfl, rfl, rfl, _, ?_, rfl⟩
                  (first | refine (decide_eq_true ?_).symm | refine (decide_eq_false ?_).symm | refine decide_eq_decide.2 ?_ | refine decide_eq_true ?_ | refine decide_eq_false ?_) <;> (try unfold VowP) <;> (try simp only [decide_eq_true_eq, decide_eq_false_iff_not] at *) <;> omega
                ·
                  refine wc_seq ?_
                  refine wc_region ?_
                  refine rl_y (y_eql rfl rfl rfl) rfl ?_
                  refine rl_y (y_assign rfl rfl) rfl ?_
                  refine rl_end (ρ' := [(3, _), (4, _)]) ⟨rfl, rfl, trivial⟩ ?_
                  refine q_then ?_
                  refine wc_cond rfl (fun hb9 => ?_) (fun hb9 => ?_)
                  ·
                    refine wc_skip ?_
                    refine q_thenK ?_
                    refine ⟨[(4, _)], [], ⟨rfl, trivial⟩, trivial, rfl, rfl, rfl, _, ?_, rfl⟩
                    (first | refine (decide_eq_true ?_).symm | refine (decide_eq_false ?_).symm | refine decide_eq_decide.2 ?_ | refine decide_eq_true ?_ | refine decide_eq_false ?_) <;> (try unfold VowP) <;> (try simp only [decide_eq_true_eq, decide_eq_false_iff_not] at *) <;> omega
                  ·
                    refine wc_seq ?_
                    refine wc_region ?_
                    refine rl_y (y_eql rfl rfl rfl) rfl ?_
                    refine rl_y (y_assign rfl rfl) rfl ?_
                    refine rl_end (ρ' := [(3, _), (4, _)]) ⟨rfl, rfl, trivial⟩ ?_
                    refine q_then ?_
                    refine wc_cond rfl (fun hb10 => ?_) (fun hb10 => ?_)
                    ·
                      refine wc_skip ?_
                      refine q_thenK ?_
                      refine ⟨[(4, _)], [], ⟨rfl, trivial⟩, trivial, rfl, rfl, rfl, _, ?_, rfl⟩
                      (first | refine (decide_eq_true ?_).symm | refine (decide_eq_false ?_).symm | refine decide_eq_decide.2 ?_ | refine decide_eq_true ?_ | refine decide_eq_false ?_) <;> (try unfold VowP) <;> (try simp only [decide_eq_true_eq, decide_eq_false_iff_not] at *) <;> omega
                    ·
                      refine wc_region ?_
                      refine rl_y (y_eql rfl rfl rfl) rfl ?_
                      refine rl_y (y_assign rfl rfl) rfl ?_
                      refine rl_end (ρ' := [(4, _)]) ⟨rfl, trivial⟩ ?_
                      refine q_thenK ?_
                      refine ⟨[(4, _)], [], ⟨rfl, trivial⟩, trivial, rfl, rfl, rfl, _, ?_, rfl⟩
                      (first | refine (decide_eq_true ?_).symm | refine (decide_eq_false ?_).symm | refine decide_eq_decide.2 ?_ | refine decide_eq_true ?_ | refine decide_eq_false ?_) <;> (try unfold VowP) <;> (try simp only [decide_eq_true_eq, decide_eq_false_iff_not] at *) <;> omega
  ·
    rintro _ _ _ _ ⟨rfl, rfl, rfl, q, hq, rfl⟩
    refine wc_cond rfl (fun hb11 => ?_) (fun hb11 => ?_)
    ·
      skip
      refine wc_seq ?_
      refine wc_region ?_
      refine rl_y (y_assign rfl rfl) rfl ?_
      refine rl_end (ρ' := [(2, _)]) ⟨rfl, trivial⟩ ?_
      refine q_then ?_
      refine wc_ret ?_
      refine q_block_ret ?_
      refine q_then_ret ?_
      refine fin1 (.tmp rfl) ?_
      rw [← hq, hb11]
    ·
      skip
      refine wc_skip ?_
      refine q_block ?_
      refine q_then ?_
      refine wc_seq ?_
      refine wc_region ?_
      refine rl_y (y_assign rfl rfl) rfl ?_
      refine rl_end (ρ' := [(2, _)]) ⟨rfl, trivial⟩ ?_
      refine q_then ?_
      refine wc_ret ?_
      refine fin1 (.tmp rfl) ?_
      rw [← hq, hb11]
def lvow : List UInt8 := [97, 101, 105, 111, 117, 65, 69, 73, 79, 85]
theorem rvowel_fn (n : Int) (hn : 0 ≤ n ∧ n < 256) (u : View) : FnP Tryd.prog 29 [.int .u8 n] u fun v _ => v = .bool (decide (VowP n)) := by
  refine FnP.intro [.tmp 2] Tryd.func29 rfl rfl rfl ?_
  intro w0 hw0
  refine wc_seq ?_
  refine wc_region ?_
  refine rl_y (y_assign rfl rfl) rfl ?_
  refine rl_end (ρ' := [(0, _)]) ⟨rfl, trivial⟩ ?_
  refine q_then ?_
  refine wc_seq ?_
  refine wc_region ?_
  refine rl_y (y_move rfl rfl) rfl ?_
  refine rl_y (y_conv rfl Tryd.u5 Tryd.u3 rfl (wrap64_id (by omega))) rfl ?_
  refine rl_call_f (caps := []) rfl rfl Tryd.c21 rfl (FnP.mono (among_fn n lvow (by decide) _) ?_)
  rintro v u1 hle1 rfl
  refine rl_y (y_assign rfl rfl) rfl ?_
  refine rl_end (ρ' := [(2, _)]) ⟨rfl, trivial⟩ ?_
  refine q_then ?_
  refine wc_ret ?_
  refine fin1 (.tmp rfl) ?_
  refine bool_val (decide_eq_decide.2 ?_)
  unfold Am VowP lvow
  constructor
  · rintro ⟨x, hx, rfl⟩
    simp only [List.mem_cons, List.not_mem_nil, or_false] at hx
    rcases hx with rfl | rfl | rfl | rfl | rfl | rfl | rfl | rfl | rfl | rfl <;> simp
  · rintro (rfl | rfl | rfl | rfl | rfl | rfl | rfl | rfl | rfl | rfl)
    · exact ⟨97, by simp, rfl⟩
    · exact ⟨101, by simp, rfl⟩
    · exact ⟨105, by simp, rfl⟩
    · exact ⟨111, by simp, rfl⟩
    · exact ⟨117, by simp, rfl⟩
    · exact ⟨65, by simp, rfl⟩
    · exact ⟨69, by simp, rfl⟩
    · exact ⟨73, by simp, rfl⟩
    · exact ⟨79, by simp, rfl⟩
    · exact ⟨85, by simp, rfl⟩

/-- is byte i a vowel? -/
def vow (l : List UInt8) (i : Nat) : Bool := match l[i]? with
  | some x => decide (VowP x.toNat)
  | none => false
def okH (l : List UInt8) (i : Nat) : Bool := !(vow l i || !vow l (i + 1)) && (vow l (i - 1) || vow l (i - 2))
/-- the positions below k -/
def hyUp (l : List UInt8) : Nat → List Int
  | 0 => []
  | k + 1 => hyUp l k ++ if 2 ≤ k ∧ okH l k = true then [(k : Int)] else []
def allLet (l : List UInt8) : Prop := ∀ x ∈ l, LetP x.toNat
instance (l : List UInt8) : Decidable (allLet l) := by unfold allLet; infer_instance
def hyL (l : List UInt8) : List Int := if allLet l then hyUp l (l.length - 2) else []

theorem hyUp_two (l : List UInt8) : hyUp l 2 = [] := by simp [hyUp]
theorem hyUp_len (l : List UInt8) : ∀ k, (hyUp l k).length ≤ k
  | 0 => by simp [hyUp]
  | k + 1 => by
    have := hyUp_len l k
    simp only [hyUp, List.length_append]
    split <;> simp <;> omega
theorem hyL_len (l : List UInt8) : (hyL l).length ≤ l.length := by
  unfold hyL
  split
  · have := hyUp_len l (l.length - 2); omega
  · simp

theorem v_fn (l : List UInt8) (n : Int) (j : Nat) (hn : n = j) (hj : j < l.length) (p : Nat) (T : TypeId) (u : View) (hu : u p = some (.cells #[str l] T (0, 0))) :
    FnP Tryd.prog 26 [.int .i64 n, .pointer (some ⟨p, 0, none⟩)] u fun v _ => v = .bool (vow l j) := by
  subst hn
  obtain ⟨x, hx⟩ : ∃ x, l[j]? = some x := ⟨_, List.getElem?_eq_getElem hj⟩
  refine FnP.intro [.tmp 3] Tryd.func26 rfl rfl rfl ?_
  intro w0 hw0
  refine wc_seq ?_
  refine wc_region ?_
  refine rl_y (y_assign rfl rfl) rfl ?_
  refine rl_end (ρ' := [(0, _), (1, _)]) ⟨rfl, rfl, trivial⟩ ?_
  refine q_then ?_
  refine wc_seq ?_
  refine wc_region ?_
  refine rl_y (y_load_v rfl Tryd.k9 rfl hu (vs := [_]) rfl rfl rfl) rfl ?_
  refine rl_y (y_move rfl rfl) rfl ?_
  refine rl_y (y_index_str rfl Tryd.str9 rfl rfl (by first | rfl | omega) (by assumption)) rfl ?_
  refine rl_call_f (caps := []) rfl rfl Tryd.c27 rfl (FnP.mono (vowel_fn x.toNat _) ?_)
  rintro v u1 hle1 rfl
  refine rl_y (y_assign rfl rfl) rfl ?_
  refine rl_end (ρ' := [(3, _)]) ⟨rfl, trivial⟩ ?_
  refine q_then ?_
  refine wc_ret ?_
  refine fin1 (.tmp rfl) ?_
  simp only [vow, hx]
end Go.Proofs.Ytceodelgalfjfaa
