/- Settle: lists of pairs: turned, shortened, compared, copied. -/
import Derived.Test.YtchmiljeidkkpaaSetJ
namespace Go.Proofs.Ytchmiljeidkkpaa
open Go Go.Eng
set_option linter.unusedSimpArgs false
set_option linter.unusedVariables false

theorem isPrs_from {u : View} {ad : Option Addr} {cap i : Nat} {xs : List Pr} (h : SlC u ad xs.length cap 2 (prs xs)) (hi : i ≤ xs.length) : IsPrs u (slV 2 ad xs.length cap i) (xs.drop i) := by
  have h1 := h.from hi
  rw [prs_drop] at h1
  have e : (xs.drop i).length = xs.length - i := by simp
  exact ⟨_, _, by rw [e]; rfl, by rw [e]; exact h1⟩

theorem pairs_fn (ad ad2 : Option Addr) (cap cap2 : Nat) (xs ys : List Pr) (hx : xs.length ≤ 1000) (u : View) (h1 : SlC u ad xs.length cap 2 (prs xs)) (h2 : SlC u ad2 ys.length cap2 2 (prs ys)) :
    FnP Try.prog 16 [.slice ad xs.length cap, .slice ad2 ys.length cap2] u fun v _ => v = .bool (decide (xs = ys)) := by
  refine FnP.intro [.tmp 4] Try.func16 rfl rfl rfl ?_
  intro w0 hw0
  refine wc_seq ?_
  refine wc_region ?_
  refine rl_y (y_assign rfl rfl) rfl ?_
  refine rl_end (ρ' := [(0, _), (1, _)]) ⟨rfl, rfl, trivial⟩ ?_
  refine q_then ?_
  refine wc_seq ?_
  refine wc_seq ?_
  refine wc_region ?_
  refine rl_y (y_move rfl rfl) rfl ?_
  refine rl_y (y_len_v rfl rfl Try.s35 rfl) rfl ?_
  refine rl_y (y_move rfl rfl) rfl ?_
  refine rl_y (y_len_v rfl rfl Try.s35 rfl) rfl ?_
  refine rl_y (y_neq rfl rfl rfl) rfl ?_
  refine rl_end (ρ' := [(0, _), (1, _), (10, _)]) ⟨rfl, rfl, rfl, trivial⟩ ?_
  refine q_then ?_
  refine wc_cond rfl (fun hb1 => ?_) (fun hb1 => ?_)
  ·
    have hne : (xs.length : Int) ≠ ys.length := of_decide_eq_true hb1
    refine wc_seq ?_
    refine wc_region ?_
    refine rl_y (y_assign rfl rfl) rfl ?_
    refine rl_end (ρ' := [(4, _)]) ⟨rfl, trivial⟩ ?_
    refine q_then ?_
    refine wc_ret ?_
    refine q_then_ret ?_
    refine fin1 (.tmp rfl) ?_
    rw [decide_eq_false (fun e => hne (by rw [e]))]
  ·
    have heq : (xs.length : Int) = ys.length := by simpa using hb1
    refine wc_skip ?_
    refine q_then ?_
    refine wc_seq ?_
    refine wc_seq ?_
    refine wc_region ?_
    refine rl_y (y_assign rfl rfl) rfl ?_
    refine rl_end (ρ' := [(0, _), (1, _), (5, _)]) ⟨rfl, rfl, rfl, trivial⟩ ?_
    refine q_then ?_
    refine wc_block ?_
    refine wc_loop (fun m ρ σ u' μ => ∃ i : Nat, i + m = xs.length ∧ u = u' ∧ μ = [] ∧ σ = [] ∧ ρ = [(0, .v (.slice ad xs.length cap)), (1, .v (.slice ad2 ys.length cap2)), (5, .v (.int .i64 i))] ∧ ∀ j : Nat, j < i → xs[j]? = ys[j]?) xs.length ?_ ?_
    ·
      refine ⟨[(0, _), (1, _), (5, _)], [], ⟨rfl, rfl, rfl, trivial⟩, trivial, 0, by omega, rfl, rfl, rfl, rfl, by omega⟩
    ·
      rintro m ρ σ u' μ ⟨i, hi, rfl, rfl, rfl, rfl, hno⟩
      refine wc_seq ?_
      refine wc_seq ?_
      refine wc_region ?_
      refine rl_y (y_move rfl rfl) rfl ?_
      refine rl_y (y_move rfl rfl) rfl ?_
      refine rl_y (y_len_v rfl rfl Try.s35 rfl) rfl ?_
      refine rl_y (y_lss rfl rfl rfl) rfl ?_
      refine rl_end (ρ' := [(0, _), (1, _), (5, _), (14, _)]) ⟨rfl, rfl, rfl, rfl, trivial⟩ ?_
      refine q_then ?_
      refine wc_cond rfl (fun hb4 => ?_) (fun hb4 => ?_)
      ·
        refine wc_skip ?_
        refine q_then ?_
        refine wc_seq ?_
        refine wc_block ?_
        refine wc_seq ?_
        have hlt : i < xs.length := by have := of_decide_eq_true hb4; omega
        obtain ⟨a, ha⟩ : ∃ a, xs[i]? = some a := ⟨_, List.getElem?_eq_getElem hlt⟩
        obtain ⟨b, hb⟩ : ∃ b, ys[i]? = some b := ⟨_, List.getElem?_eq_getElem (by omega)⟩
        have hca := cut_prs ha
        have hcb := cut_prs hb
        refine wc_draw Try.mixed [] ?_
        refine ra_y (i := 0) rfl (by kernel_rfl) (by kernel_rfl) (by kernel_rfl) (np_then (np_block (np_then (np_then (np_block (np_then (np_fin))))))) (y_move rfl rfl) rfl ?_
        refine ra_y (i := 1) rfl (by kernel_rfl) (by kernel_rfl) (by kernel_rfl) (np_then (np_block (np_then (np_then (np_block (np_then (np_fin))))))) (y_move rfl rfl) rfl ?_
        refine ra_y (i := 2) rfl (by kernel_rfl) (by kernel_rfl) (by kernel_rfl) (np_then (np_block (np_then (np_then (np_block (np_then (np_fin))))))) (y_index_e rfl Try.s35 rfl rfl h1 (j := i) rfl (by omega)) rfl ?_
        refine ra_y (i := 3) rfl (by kernel_rfl) (by kernel_rfl) (by kernel_rfl) (np_then (np_block (np_then (np_then (np_block (np_then (np_fin))))))) (y_load_el rfl Try.k50 rfl h1 (by omega) hca (vs := [_, _]) rfl rfl rfl rfl) rfl ?_
        refine ra_y (i := 4) rfl (by kernel_rfl) (by kernel_rfl) (by kernel_rfl) (np_then (np_block (np_then (np_then (np_block (np_then (np_fin))))))) (y_move rfl rfl) rfl ?_
        refine ra_y (i := 5) rfl (by kernel_rfl) (by kernel_rfl) (by kernel_rfl) (np_then (np_block (np_then (np_then (np_block (np_then (np_fin))))))) (y_move rfl rfl) rfl ?_
        refine ra_y (i := 6) rfl (by kernel_rfl) (by kernel_rfl) (by kernel_rfl) (np_then (np_block (np_then (np_then (np_block (np_then (np_fin))))))) (y_index_e rfl Try.s35 rfl rfl h2 (j := i) rfl (by omega)) rfl ?_
        refine ra_y (i := 7) rfl (by kernel_rfl) (by kernel_rfl) (by kernel_rfl) (np_then (np_block (np_then (np_then (np_block (np_then (np_fin))))))) (y_load_el rfl Try.k50 rfl h2 (by omega) hcb (vs := [_, _]) rfl rfl rfl rfl) rfl ?_
        refine ra_y (i := 8) rfl (by kernel_rfl) (by kernel_rfl) (by kernel_rfl) (np_then (np_block (np_then (np_then (np_block (np_then (np_fin))))))) (y_neq_pr rfl rfl rfl rfl) rfl ?_
        refine ra_end (by kernel_rfl) (ρ' := [(0, _), (1, _), (5, _), (25, _)]) ⟨rfl, rfl, rfl, rfl, trivial⟩ ?_
        refine q_then ?_
        refine wc_cond rfl (fun hb6 => ?_) (fun hb6 => ?_)
        ·
          have hab : a ≠ b := by intro e; rw [e] at hb6; simp at hb6
          refine wc_seq ?_
          refine wc_region ?_
          refine rl_y (y_assign rfl rfl) rfl ?_
          refine rl_end (ρ' := [(4, _)]) ⟨rfl, trivial⟩ ?_
          refine q_then ?_
          refine wc_ret ?_
          refine q_block_ret ?_
          refine q_then_ret ?_
          refine q_then_ret ?_
          refine q_block_ret ?_
          refine q_then_ret ?_
          refine fin1 (.tmp rfl) ?_
          rw [decide_eq_false (fun e => hab (by subst e; rw [ha] at hb; cases hb; rfl))]
        ·
          have hab : a = b := by simp at hb6; exact Prod.ext hb6.1 hb6.2
          refine wc_skip ?_
          refine q_block ?_
          refine q_then ?_
          refine wc_region ?_
          refine rl_y (y_move rfl rfl) rfl ?_
          refine rl_y (y_add rfl rfl rfl (wrap64_id (by omega))) rfl ?_
          refine rl_y (y_assign rfl rfl) rfl ?_
          refine rl_end (ρ' := [(0, _), (1, _), (5, _)]) ⟨rfl, rfl, rfl, trivial⟩ ?_
          refine q_thenK ?_
          refine ⟨m - 1, [(0, _), (1, _), (5, _)], [], by omega, ⟨rfl, rfl, rfl, trivial⟩, trivial, i + 1, by omega, rfl, rfl, rfl, rfl, ?_⟩
          intro j hj
          by_cases hji : j = i
          · subst hji
            rw [ha, hb, hab]
          · exact hno j (by omega)
      ·
        refine wc_exit ?_
        refine q_then_exit ?_
        refine q_then_exit ?_
        refine q_block_hit ?_
        refine q_then ?_
        refine wc_seq ?_
        refine wc_region ?_
        refine rl_y (y_assign rfl rfl) rfl ?_
        refine rl_end (ρ' := [(4, _)]) ⟨rfl, trivial⟩ ?_
        refine q_then ?_
        refine wc_ret ?_
        refine fin1 (.tmp rfl) ?_
        have hge : ¬ (i : Int) < xs.length := of_decide_eq_false hb4
        rw [decide_eq_true]
        apply List.ext_getElem?
        intro j
        by_cases hj : j < i
        · exact hno j hj
        · rw [List.getElem?_eq_none (by omega), List.getElem?_eq_none (by omega)]

theorem samePairs_fn (ad ad2 : Option Addr) (cap cap2 : Nat) (xs ys : List Pr) (hx : xs.length ≤ 1000) (u : View) (h1 : SlC u ad xs.length cap 2 (prs xs)) (h2 : SlC u ad2 ys.length cap2 2 (prs ys)) :
    FnP Try.prog 27 [.slice ad xs.length cap, .slice ad2 ys.length cap2] u fun v _ => v = .bool (decide (xs = ys)) := by
  refine FnP.intro [.tmp 4] Try.func27 rfl rfl rfl ?_
  intro w0 hw0
  refine wc_seq ?_
  refine wc_region ?_
  refine rl_y (y_assign rfl rfl) rfl ?_
  refine rl_end (ρ' := [(0, _), (1, _)]) ⟨rfl, rfl, trivial⟩ ?_
  refine q_then ?_
  refine wc_seq ?_
  refine wc_seq ?_
  refine wc_region ?_
  refine rl_y (y_move rfl rfl) rfl ?_
  refine rl_y (y_len_v rfl rfl Try.s35 rfl) rfl ?_
  refine rl_y (y_move rfl rfl) rfl ?_
  refine rl_y (y_len_v rfl rfl Try.s35 rfl) rfl ?_
  refine rl_y (y_neq rfl rfl rfl) rfl ?_
  refine rl_end (ρ' := [(0, _), (1, _), (10, _)]) ⟨rfl, rfl, rfl, trivial⟩ ?_
  refine q_then ?_
  refine wc_cond rfl (fun hb1 => ?_) (fun hb1 => ?_)
  ·
    have hne : (xs.length : Int) ≠ ys.length := of_decide_eq_true hb1
    refine wc_seq ?_
    refine wc_region ?_
    refine rl_y (y_assign rfl rfl) rfl ?_
    refine rl_end (ρ' := [(4, _)]) ⟨rfl, trivial⟩ ?_
    refine q_then ?_
    refine wc_ret ?_
    refine q_then_ret ?_
    refine fin1 (.tmp rfl) ?_
    rw [decide_eq_false (fun e => hne (by rw [e]))]
  ·
    have heq : (xs.length : Int) = ys.length := by simpa using hb1
    refine wc_skip ?_
    refine q_then ?_
    refine wc_seq ?_
    refine wc_seq ?_
    refine wc_region ?_
    refine rl_y (y_move rfl rfl) rfl ?_
    refine rl_y (y_len_v rfl rfl Try.s35 rfl) rfl ?_
    refine rl_y (y_move rfl rfl) rfl ?_
    refine rl_end (ρ' := [(0, _), (1, _), (12, _), (13, _)]) ⟨rfl, rfl, rfl, rfl, trivial⟩ ?_
    refine q_then ?_
    refine wc_block ?_
    refine wc_loop (fun m ρ σ u' μ => ∃ i : Nat, i + m = xs.length ∧ u = u' ∧ μ = [] ∧ σ = [] ∧ ρ = [(0, .v (.slice ad xs.length cap)), (1, .v (.slice ad2 ys.length cap2)), (12, .v (.int .i64 xs.length)), (13, .v (.int .i64 i))] ∧ ∀ j : Nat, j < i → xs[j]? = ys[j]?) xs.length ?_ ?_
    ·
      refine ⟨[(0, _), (1, _), (12, _), (13, _)], [], ⟨rfl, rfl, rfl, rfl, trivial⟩, trivial, 0, by omega, rfl, rfl, rfl, rfl, by omega⟩
    ·
      rintro m ρ σ u' μ ⟨i, hi, rfl, rfl, rfl, rfl, hno⟩
      refine wc_seq ?_
      refine wc_region ?_
      refine rl_y (y_lss rfl rfl rfl) rfl ?_
      refine rl_end (ρ' := [(0, _), (1, _), (12, _), (13, _), (14, _)]) ⟨rfl, rfl, rfl, rfl, rfl, trivial⟩ ?_
      refine q_then ?_
      refine wc_seq ?_
      refine wc_cond rfl (fun hb4 => ?_) (fun hb4 => ?_)
      ·
        refine wc_skip ?_
        refine q_then ?_
        refine wc_seq ?_
        refine wc_block ?_
        refine wc_seq ?_
        refine wc_region ?_
        refine rl_y (y_move rfl rfl) rfl ?_
        refine rl_y (y_assign rfl rfl) rfl ?_
        refine rl_end (ρ' := [(0, _), (1, _), (5, _), (12, _), (13, _)]) ⟨rfl, rfl, rfl, rfl, rfl, trivial⟩ ?_
        refine q_then ?_
        refine wc_seq ?_
        have hlt : i < xs.length := by have := of_decide_eq_true hb4; omega
        obtain ⟨a, ha⟩ : ∃ a, xs[i]? = some a := ⟨_, List.getElem?_eq_getElem hlt⟩
        obtain ⟨b, hb⟩ : ∃ b, ys[i]? = some b := ⟨_, List.getElem?_eq_getElem (by omega)⟩
        have hca := cut_prs ha
        have hcb := cut_prs hb
        refine wc_draw Try.mixed [] ?_
        refine ra_y (i := 0) rfl (by kernel_rfl) (by kernel_rfl) (by kernel_rfl) (np_then (np_block (np_then (np_then (np_block (np_then (np_fin))))))) (y_move rfl rfl) rfl ?_
        refine ra_y (i := 1) rfl (by kernel_rfl) (by kernel_rfl) (by kernel_rfl) (np_then (np_block (np_then (np_then (np_block (np_then (np_fin))))))) (y_move rfl rfl) rfl ?_
        refine ra_y (i := 2) rfl (by kernel_rfl) (by kernel_rfl) (by kernel_rfl) (np_then (np_block (np_then (np_then (np_block (np_then (np_fin))))))) (y_index_e rfl Try.s35 rfl rfl h1 (j := i) rfl (by omega)) rfl ?_
        refine ra_y (i := 3) rfl (by kernel_rfl) (by kernel_rfl) (by kernel_rfl) (np_then (np_block (np_then (np_then (np_block (np_then (np_fin))))))) (y_load_el rfl Try.k50 rfl h1 (by omega) hca (vs := [_, _]) rfl rfl rfl rfl) rfl ?_
        refine ra_y (i := 4) rfl (by kernel_rfl) (by kernel_rfl) (by kernel_rfl) (np_then (np_block (np_then (np_then (np_block (np_then (np_fin))))))) (y_move rfl rfl) rfl ?_
        refine ra_y (i := 5) rfl (by kernel_rfl) (by kernel_rfl) (by kernel_rfl) (np_then (np_block (np_then (np_then (np_block (np_then (np_fin))))))) (y_move rfl rfl) rfl ?_
        refine ra_y (i := 6) rfl (by kernel_rfl) (by kernel_rfl) (by kernel_rfl) (np_then (np_block (np_then (np_then (np_block (np_then (np_fin))))))) (y_index_e rfl Try.s35 rfl rfl h2 (j := i) rfl (by omega)) rfl ?_
        refine ra_y (i := 7) rfl (by kernel_rfl) (by kernel_rfl) (by kernel_rfl) (np_then (np_block (np_then (np_then (np_block (np_then (np_fin))))))) (y_load_el rfl Try.k50 rfl h2 (by omega) hcb (vs := [_, _]) rfl rfl rfl rfl) rfl ?_
        refine ra_y (i := 8) rfl (by kernel_rfl) (by kernel_rfl) (by kernel_rfl) (np_then (np_block (np_then (np_then (np_block (np_then (np_fin))))))) (y_neq_pr rfl rfl rfl rfl) rfl ?_
        refine ra_end (by kernel_rfl) (ρ' := [(0, _), (1, _), (12, _), (13, _), (24, _)]) ⟨rfl, rfl, rfl, rfl, rfl, trivial⟩ ?_
        refine q_then ?_
        refine wc_cond rfl (fun hb6 => ?_) (fun hb6 => ?_)
        ·
          have hab : a ≠ b := by intro e; rw [e] at hb6; simp at hb6
          refine wc_seq ?_
          refine wc_region ?_
          refine rl_y (y_assign rfl rfl) rfl ?_
          refine rl_end (ρ' := [(4, _)]) ⟨rfl, trivial⟩ ?_
          refine q_then ?_
          refine wc_ret ?_
          refine q_block_ret ?_
          refine q_then_ret ?_
          refine q_then_ret ?_
          refine q_block_ret ?_
          refine q_then_ret ?_
          refine fin1 (.tmp rfl) ?_
          rw [decide_eq_false (fun e => hab (by subst e; rw [ha] at hb; cases hb; rfl))]
        ·
          have hab : a = b := by simp at hb6; exact Prod.ext hb6.1 hb6.2
          refine wc_skip ?_
          refine q_block ?_
          refine q_then ?_
          refine wc_region ?_
          refine rl_y (y_add rfl rfl rfl (wrap64_id (by omega))) rfl ?_
          refine rl_y (y_move rfl rfl) rfl ?_
          refine rl_end (ρ' := [(0, _), (1, _), (12, _), (13, _)]) ⟨rfl, rfl, rfl, rfl, trivial⟩ ?_
          refine q_thenK ?_
          refine ⟨m - 1, [(0, _), (1, _), (12, _), (13, _)], [], by omega, ⟨rfl, rfl, rfl, rfl, trivial⟩, trivial, i + 1, by omega, rfl, rfl, rfl, rfl, ?_⟩
          intro j hj
          by_cases hji : j = i
          · subst hji
            rw [ha, hb, hab]
          · exact hno j (by omega)
      ·
        refine wc_exit ?_
        refine q_then_exit ?_
        refine q_then_exit ?_
        refine q_block_hit ?_
        refine q_then ?_
        refine wc_seq ?_
        refine wc_region ?_
        refine rl_y (y_assign rfl rfl) rfl ?_
        refine rl_end (ρ' := [(4, _)]) ⟨rfl, trivial⟩ ?_
        refine q_then ?_
        refine wc_ret ?_
        refine fin1 (.tmp rfl) ?_
        have hge : ¬ (i : Int) < xs.length := of_decide_eq_false hb4
        rw [decide_eq_true]
        apply List.ext_getElem?
        intro j
        by_cases hj : j < i
        · exact hno j hj
        · rw [List.getElem?_eq_none (by omega), List.getElem?_eq_none (by omega)]

theorem clone_fn (ad : Option Addr) (cap : Nat) (xs : List Pr) (hx : xs.length ≤ 1000) (u : View) (h1 : SlC u ad xs.length cap 2 (prs xs)) :
    FnP Try.prog 25 [.slice ad xs.length cap] u fun v u' => IsPrs u' v xs := by
  have hone := prs_one xs
  refine FnP.intro [.tmp 2] Try.func25 rfl rfl rfl ?_
  intro w0 hw0
  refine wc_seq ?_
  refine wc_region ?_
  refine rl_y (y_assign rfl rfl) rfl ?_
  refine rl_end (ρ' := [(0, _)]) ⟨rfl, trivial⟩ ?_
  refine q_then ?_
  refine wc_seq ?_
  refine wc_seq ?_
  refine wc_region ?_
  refine rl_y (y_move rfl rfl) rfl ?_
  refine rl_y (y_eql_nil rfl Try.s35 rfl rfl) rfl ?_
  refine rl_end (ρ' := [(0, _), (4, _)]) ⟨rfl, rfl, trivial⟩ ?_
  refine q_then ?_
  refine wc_cond rfl (fun hb1 => ?_) (fun hb1 => ?_)
  ·
    refine wc_seq ?_
    refine wc_region ?_
    refine rl_y (y_assign rfl rfl) rfl ?_
    refine rl_end (ρ' := [(2, _)]) ⟨rfl, trivial⟩ ?_
    refine q_then ?_
    refine wc_ret ?_
    refine q_then_ret ?_
    refine fin1 (.tmp rfl) ?_
    have hn : ad = none := by simpa using hb1
    obtain rfl : xs = [] := by
      refine List.eq_nil_of_length_eq_zero (Nat.eq_zero_of_not_pos fun hp => ?_)
      obtain ⟨b, off, c, T, fr, h2, _⟩ := h1.2.2.2 (by omega)
      rw [hn] at h2; cases h2
    exact isPrs_nil _
  ·
    refine wc_skip ?_
    refine q_then ?_
    refine wc_seq ?_
    refine wc_region ?_
    refine rl_buildSlice Try.s35 Try.z50 (ps := []) rfl (xs := []) rfl rfl rfl rfl rfl rfl rfl ?_
    refine rl_y (y_move rfl rfl) rfl ?_
    refine rl_append_v rfl Try.s35 Try.z50 rfl rfl rfl rfl rfl (by assumption) hone (by omega) (by omega) (ρ' := []) trivial rfl rfl rfl ?_
    refine rl_freeze 7 rfl ?_
    intro ad3 cap3 u3 hle3 hsl
    simp only [List.nil_append, Nat.zero_add] at hsl ⊢
    refine rl_y (y_assign rfl rfl) rfl ?_
    refine rl_end (ρ' := [(2, _)]) ⟨rfl, trivial⟩ ?_
    refine q_then ?_
    refine wc_ret ?_
    refine fin1 (.tmp rfl) ?_
    exact ⟨ad3, cap3, rfl, hsl⟩

def trn (xs : List Pr) : List Pr := xs.drop 1 ++ xs.take 1

theorem drop_fn (ad : Option Addr) (cap : Nat) (xs : List Pr) (hx : xs.length ≤ 1000) (u : View) (h1 : SlC u ad xs.length cap 2 (prs xs)) :
    FnP Try.prog 17 [.slice ad xs.length cap] u fun v u' => ∃ w, v = .tuple #[w, .int .i64 (if xs = [] then 13 else 0)] ∧ IsPrs u' w (xs.drop 1) := by
  refine FnP.intro [.tmp 2, .tmp 3] Try.func17 rfl rfl rfl ?_
  intro w0 hw0
  refine wc_seq ?_
  refine wc_region ?_
  refine rl_y (y_assign rfl rfl) rfl ?_
  refine rl_y (y_assign rfl rfl) rfl ?_
  refine rl_end (ρ' := [(0, _)]) ⟨rfl, trivial⟩ ?_
  refine q_then ?_
  refine wc_seq ?_
  refine wc_seq ?_
  refine wc_region ?_
  refine rl_y (y_move rfl rfl) rfl ?_
  refine rl_y (y_len_v rfl rfl Try.s35 rfl) rfl ?_
  refine rl_y (y_eql rfl rfl rfl) rfl ?_
  refine rl_end (ρ' := [(0, _), (6, _)]) ⟨rfl, rfl, trivial⟩ ?_
  refine q_then ?_
  refine wc_cond rfl (fun hb1 => ?_) (fun hb1 => ?_)
  ·
    have hn : xs = [] := List.eq_nil_of_length_eq_zero (by have := of_decide_eq_true hb1; omega)
    refine wc_seq ?_
    refine wc_region ?_
    refine rl_y (y_assign rfl rfl) rfl ?_
    refine rl_y (y_assign rfl rfl) rfl ?_
    refine rl_end (ρ' := [(2, _), (3, _)]) ⟨rfl, rfl, trivial⟩ ?_
    refine q_then ?_
    refine wc_ret ?_
    refine q_then_ret ?_
    refine fin2 (.tmp rfl) (.tmp rfl) ?_
    subst hn
    exact ⟨_, rfl, isPrs_nil _⟩
  ·
    have hn : xs ≠ [] := fun e => by subst e; simp at hb1
    refine wc_skip ?_
    refine q_then ?_
    refine wc_seq ?_
    have hlen : 1 ≤ xs.length := by cases xs with | nil => exact absurd rfl hn | cons a l => simp
    refine wc_region ?_
    refine rl_y (y_move rfl rfl) rfl ?_
    refine rl_y (y_slice_v rfl Try.s35 rfl rfl (i := 1) rfl hlen) rfl ?_
    refine rl_y (y_assign rfl rfl) rfl ?_
    refine rl_y (y_assign rfl rfl) rfl ?_
    refine rl_end (ρ' := [(2, _), (3, _)]) ⟨rfl, rfl, trivial⟩ ?_
    refine q_then ?_
    refine wc_ret ?_
    refine fin2 (.tmp rfl) (.tmp rfl) ?_
    rw [if_neg hn]
    exact ⟨_, rfl, isPrs_from h1 hlen⟩

theorem keep_fn (ad : Option Addr) (cap : Nat) (xs : List Pr) (hx : xs.length ≤ 1000) (u : View) (h1 : SlC u ad xs.length cap 2 (prs xs)) :
    FnP Try.prog 18 [.slice ad xs.length cap] u fun v u' => ∃ w, v = .tuple #[w, .int .i64 0] ∧ IsPrs u' w (if 3 < xs.length then xs.drop 1 else xs) := by
  refine FnP.intro [.tmp 2, .tmp 3] Try.func18 rfl rfl rfl ?_
  intro w0 hw0
  refine wc_seq ?_
  refine wc_region ?_
  refine rl_y (y_assign rfl rfl) rfl ?_
  refine rl_y (y_assign rfl rfl) rfl ?_
  refine rl_end (ρ' := [(0, _)]) ⟨rfl, trivial⟩ ?_
  refine q_then ?_
  refine wc_seq ?_
  refine wc_seq ?_
  refine wc_region ?_
  refine rl_y (y_move rfl rfl) rfl ?_
  refine rl_y (y_len_v rfl rfl Try.s35 rfl) rfl ?_
  refine rl_y (y_gtr rfl rfl rfl) rfl ?_
  refine rl_end (ρ' := [(0, _), (6, _)]) ⟨rfl, rfl, trivial⟩ ?_
  refine q_then ?_
  refine wc_cond rfl (fun hb1 => ?_) (fun hb1 => ?_)
  ·
    have hn : 3 < xs.length := by have := of_decide_eq_true hb1; omega
    refine wc_seq ?_
    refine wc_region ?_
    refine rl_y (y_move rfl rfl) rfl ?_
    refine rl_y (y_slice_v rfl Try.s35 rfl rfl (i := 1) rfl (by omega)) rfl ?_
    refine rl_y (y_assign rfl rfl) rfl ?_
    refine rl_y (y_assign rfl rfl) rfl ?_
    refine rl_end (ρ' := [(2, _), (3, _)]) ⟨rfl, rfl, trivial⟩ ?_
    refine q_then ?_
    refine wc_ret ?_
    refine q_then_ret ?_
    refine fin2 (.tmp rfl) (.tmp rfl) ?_
    rw [if_pos hn]
    exact ⟨_, rfl, isPrs_from h1 (by omega)⟩
  ·
    have hn : ¬ 3 < xs.length := by have := of_decide_eq_false hb1; omega
    refine wc_skip ?_
    refine q_then ?_
    refine wc_seq ?_
    refine wc_region ?_
    refine rl_y (y_move rfl rfl) rfl ?_
    refine rl_y (y_assign rfl rfl) rfl ?_
    refine rl_y (y_assign rfl rfl) rfl ?_
    refine rl_end (ρ' := [(2, _), (3, _)]) ⟨rfl, rfl, trivial⟩ ?_
    refine q_then ?_
    refine wc_ret ?_
    refine fin2 (.tmp rfl) (.tmp rfl) ?_
    rw [if_neg hn]
    exact ⟨_, rfl, ad, cap, rfl, h1⟩
end Go.Proofs.Ytchmiljeidkkpaa
