/- Settle: the statement on errors, as a call. -/
import Derived.Test.YtchmiljeidkkpaaSetN
namespace Go.Proofs.Ytchmiljeidkkpaa
open Go Go.Eng
set_option linter.unusedSimpArgs false
set_option linter.unusedVariables false

theorem y_max {F : Fx} {ρ : Env} {σ : Own} {u : View} {μ : Mem} {σS : Own} {uS : View} {μS : Mem} {o : Oper} {x y : Operand} {ts : Array TypeId} {k : IntKind} {p q r : Int} (ho : o.op = .call { callee := .builtin .max, args := #[x, y], argTypes := ts })
    (hx : opv ρ x = some (.v (.int k p))) (hy : opv ρ y = some (.v (.int k q))) (hz : (if q > p then q else p) = r) : Yld F σS uS μS ρ σ u μ o (.v (.int k r)) := by
  intro bk hd a w hR
  refine ⟨_, rfl, fun w' _ => ?_⟩
  subst hz
  have h1 := run_max_int2 (P := F.P) (w := w') ts o.type k k p q
  simp [execOp, ho, resolve, invoke, builtin, hR.op hx, hR.op hy, h1]

theorem law_errors (ad : Option Addr) (cap : Nat) (xs : List Pr) (most : Int) (u : View) (hs : SlC u ad xs.length cap 2 (prs xs)) :
    FnP Try.prog 8 [.slice ad xs.length cap, .int .i64 most] u fun v _ => v = .bool true := by
  refine FnP.intro [.tmp 4] Try.func8 rfl rfl rfl ?_
  intro w0 hw0
  refine wc_seq ?_
  refine wc_region ?_
  refine rl_y (y_assign rfl rfl) rfl ?_
  refine rl_end (ρ' := [(0, _), (1, _)]) ⟨rfl, rfl, trivial⟩ ?_
  refine q_then ?_
  refine wc_seq ?_
  refine wc_seq ?_
  refine wc_cutB 26 (decide ((40 < (xs.length : Int) ∨ most < 1) ∨ 64 < most)) (ρk := [(0, _), (1, _)]) ⟨rfl, rfl, trivial⟩ ?_ ?_
  ·
    refine wc_region ?_
    refine rl_y (y_move rfl rfl) rfl ?_
    refine rl_y (y_len_v rfl rfl Try.s35 rfl) rfl ?_
    refine rl_y (y_gtr rfl rfl rfl) rfl ?_
    refine rl_y (y_move rfl rfl) rfl ?_
    rcases Bool.eq_false_or_eq_true (decide (40 < (xs.length : Int))) with hg1_3 | hg1_3
    ·
      simp only [hg1_3]
      refine rl_off rfl rfl rfl rfl ?_
      refine rl_off rfl rfl rfl rfl ?_
      refine rl_y (y_pick_t rfl rfl rfl) rfl ?_
      refine rl_y (y_move rfl rfl) rfl ?_
      refine rl_off rfl rfl rfl rfl ?_
      refine rl_off rfl rfl rfl rfl ?_
      refine rl_y (y_pick_t rfl rfl rfl) rfl ?_
      exact cutB_end rfl ⟨rfl, rfl, trivial⟩ (by (first | refine (decide_eq_true ?_).symm | refine (decide_eq_false ?_).symm | refine decide_eq_decide.2 ?_ | refine decide_eq_true ?_ | refine decide_eq_false ?_) <;> (try unfold Am) <;> (try simp only [decide_eq_true_eq, decide_eq_false_iff_not] at *) <;> omega)
    ·
      simp only [hg1_3]
      refine rl_on rfl rfl ?_
      refine rl_y (y_move rfl rfl) rfl ?_
      refine rl_on rfl rfl ?_
      refine rl_y (y_lss rfl rfl rfl) rfl ?_
      refine rl_y (y_pick_f rfl rfl rfl) rfl ?_
      refine rl_y (y_move rfl rfl) rfl ?_
      rcases Bool.eq_false_or_eq_true (decide (most < 1)) with hg1_7 | hg1_7
      ·
        simp only [hg1_7]
        refine rl_off rfl rfl rfl rfl ?_
        refine rl_off rfl rfl rfl rfl ?_
        refine rl_y (y_pick_t rfl rfl rfl) rfl ?_
        exact cutB_end rfl ⟨rfl, rfl, trivial⟩ (by (first | refine (decide_eq_true ?_).symm | refine (decide_eq_false ?_).symm | refine decide_eq_decide.2 ?_ | refine decide_eq_true ?_ | refine decide_eq_false ?_) <;> (try unfold Am) <;> (try simp only [decide_eq_true_eq, decide_eq_false_iff_not] at *) <;> omega)
      ·
        simp only [hg1_7]
        refine rl_on rfl rfl ?_
        refine rl_y (y_move rfl rfl) rfl ?_
        refine rl_on rfl rfl ?_
        refine rl_y (y_gtr rfl rfl rfl) rfl ?_
        refine rl_y (y_pick_f rfl rfl rfl) rfl ?_
        exact cutB_end rfl ⟨rfl, rfl, trivial⟩ (by (first | refine (decide_eq_true ?_).symm | refine (decide_eq_false ?_).symm | refine decide_eq_decide.2 ?_ | refine decide_eq_true ?_ | refine decide_eq_false ?_) <;> (try unfold Am) <;> (try simp only [decide_eq_true_eq, decide_eq_false_iff_not] at *) <;> omega)
  refine q_then ?_
  refine wc_cond rfl (fun hb1 => ?_) (fun hb1 => ?_)
  ·
    skip
    refine wc_seq ?_
    refine wc_region ?_
    refine rl_call_f (caps := []) rfl rfl Try.c10 rfl (FnP.mono (awake_fn _) ?_)
    rintro v u1 hle1 rfl
    refine rl_y (y_assign rfl rfl) rfl ?_
    refine rl_end (ρ' := [(4, _)]) ⟨rfl, trivial⟩ ?_
    refine q_then ?_
    refine wc_ret ?_
    refine q_then_ret ?_
    refine fin1 (.tmp rfl) ?_
    rfl
  ·
    have hl : ¬ ((40 < (xs.length : Int) ∨ most < 1) ∨ 64 < most) := of_decide_eq_false hb1
    refine wc_skip ?_
    refine q_then ?_
    refine wc_seq ?_
    refine wc_region ?_
    refine rl_y (y_move rfl rfl) rfl ?_
    refine rl_y (y_move rfl rfl) rfl ?_
    refine rl_call (caps := []) rfl rfl Try.c14 rfl (FnP.mono (pairsRun2_fn step_drop ad cap xs (by omega) most _ hs) ?_)
    rintro v u1 hle0 ⟨w, k, y, per, e, rfl, ⟨ady, capy, rfl, hsy⟩, hE⟩ hle1
    have hs1 := hs.mono hle0
    obtain ⟨_, _, hE⟩ := hE.resolve_right (fun h => h.1 (by omega))
    obtain ⟨rfl, rfl, hD1, hD2⟩ := endP_drop hE
    refine rl_y (y_move rfl rfl) rfl ?_
    refine rl_y (y_extract rfl rfl rfl) rfl ?_
    refine rl_y (y_extract rfl rfl rfl) rfl ?_
    refine rl_y (y_extract rfl rfl rfl) rfl ?_
    refine rl_y (y_extract rfl rfl rfl) rfl ?_
    refine rl_y (y_assign rfl rfl) rfl ?_
    refine rl_y (y_assign rfl rfl) rfl ?_
    refine rl_y (y_assign rfl rfl) rfl ?_
    refine rl_y (y_assign rfl rfl) rfl ?_
    refine rl_end (ρ' := [(0, _), (1, _), (5, _), (6, _), (7, _), (8, _)]) ⟨rfl, rfl, rfl, rfl, rfl, rfl, trivial⟩ ?_
    refine q_then ?_
    refine wc_seq ?_
    refine wc_region ?_
    refine rl_y (y_move rfl rfl) rfl ?_
    refine rl_y (y_len_v rfl rfl Try.s35 rfl) rfl ?_
    refine rl_y (y_add rfl rfl rfl (wrap64_id (by omega))) rfl ?_
    refine rl_y (y_assign rfl rfl) rfl ?_
    refine rl_y (y_assign rfl rfl) rfl ?_
    refine rl_end (ρ' := [(0, _), (1, _), (5, _), (6, _), (7, _), (8, _), (9, _), (10, _)]) ⟨rfl, rfl, rfl, rfl, rfl, rfl, rfl, rfl, trivial⟩ ?_
    refine q_then ?_
    refine wc_cut (fun ρ σ u' μ => u1 = u' ∧ μ = [] ∧ σ = [] ∧ ρ = [(0, .v (.slice ad xs.length cap)), (1, .v (.int .i64 most)), (5, .v (.slice ady ([] : List Pr).length capy)), (6, .v (.int .i64 k)), (7, .v (.int .i64 0)), (8, .v (.int .i64 e)), (9, .v (.int .i64 e)), (10, .v (.int .i64 k))]) ?_ ?_
    ·
      refine wc_seq ?_
      refine wc_region ?_
      refine rl_y (y_move rfl rfl) rfl ?_
      refine rl_y (y_move rfl rfl) rfl ?_
      refine rl_y (y_gtr rfl rfl rfl) rfl ?_
      refine rl_end (ρ' := [(0, _), (1, _), (5, _), (6, _), (7, _), (8, _), (9, _), (10, _), (41, _)]) ⟨rfl, rfl, rfl, rfl, rfl, rfl, rfl, rfl, rfl, trivial⟩ ?_
      refine q_then ?_
      refine wc_cond rfl (fun hb5 => ?_) (fun hb5 => ?_)
      ·
        have hc : most.toNat < xs.length + 1 := by have := of_decide_eq_true hb5; omega
        refine wc_region ?_
        refine rl_y (y_move rfl rfl) rfl ?_
        refine rl_y (y_assign rfl rfl) rfl ?_
        refine rl_y (y_assign rfl rfl) rfl ?_
        refine rl_end (ρ' := [(0, _), (1, _), (5, _), (6, _), (7, _), (8, _), (9, _), (10, _)]) ⟨rfl, rfl, rfl, rfl, rfl, rfl, rfl, rfl, trivial⟩ ?_
        refine q_thenK ?_
        refine ⟨[(0, _), (1, _), (5, _), (6, _), (7, _), (8, _), (9, _), (10, _)], [], ⟨rfl, rfl, rfl, rfl, rfl, rfl, ?_, ?_, trivial⟩, trivial, rfl, rfl, rfl, rfl⟩
        · first | (rw [(hD1 hc).1]; rfl) | (rw [(hD2 hc).1]; rfl)
        · first
            | (rw [show (k : Int) = most by have := (hD1 hc).2; omega]; rfl)
            | (rw [show (k : Int) = (xs.length : Int) + 1 by have := (hD2 hc).2; omega]; rfl)
      ·
        have hc : ¬ most.toNat < xs.length + 1 := by have := of_decide_eq_false hb5; omega
        refine wc_skip ?_
        refine q_thenK ?_
        refine ⟨[(0, _), (1, _), (5, _), (6, _), (7, _), (8, _), (9, _), (10, _)], [], ⟨rfl, rfl, rfl, rfl, rfl, rfl, ?_, ?_, trivial⟩, trivial, rfl, rfl, rfl, rfl⟩
        · first | (rw [(hD1 hc).1]; rfl) | (rw [(hD2 hc).1]; rfl)
        · first
            | (rw [show (k : Int) = most by have := (hD1 hc).2; omega]; rfl)
            | (rw [show (k : Int) = (xs.length : Int) + 1 by have := (hD2 hc).2; omega]; rfl)
    ·
      rintro _ _ _ _ ⟨rfl, rfl, rfl, rfl⟩
      refine wc_seq ?_
      refine wc_region ?_
      refine rl_y (y_move rfl rfl) rfl ?_
      refine rl_y (y_move rfl rfl) rfl ?_
      refine rl_call (caps := []) rfl rfl Try.c14 rfl (FnP.mono (pairsRun2_fn step_keep ad cap xs (by omega) most _ hs1) ?_)
      rintro v u1 hle0 ⟨w2, k2, y2, per2, e2, rfl, ⟨ady2, capy2, rfl, hsy2⟩, hE2⟩ hle1
      have hs2 := hs1.mono hle0
      obtain ⟨_, _, hE2⟩ := hE2.resolve_right (fun h => h.1 (by omega))
      obtain ⟨rfl, hK1, hK2⟩ := endP_keep hE2
      refine rl_y (y_move rfl rfl) rfl ?_
      refine rl_y (y_extract rfl rfl rfl) rfl ?_
      refine rl_y (y_extract rfl rfl rfl) rfl ?_
      refine rl_y (y_extract rfl rfl rfl) rfl ?_
      refine rl_y (y_extract rfl rfl rfl) rfl ?_
      refine rl_y (y_assign rfl rfl) rfl ?_
      refine rl_y (y_assign rfl rfl) rfl ?_
      refine rl_y (y_assign rfl rfl) rfl ?_
      refine rl_y (y_assign rfl rfl) rfl ?_
      refine rl_end (ρ' := [(0, _), (1, _), (5, _), (6, _), (7, _), (8, _), (9, _), (10, _), (11, _), (12, _), (13, _), (14, _)]) ⟨rfl, rfl, rfl, rfl, rfl, rfl, rfl, rfl, rfl, rfl, rfl, rfl, trivial⟩ ?_
      refine q_then ?_
      refine wc_seq ?_
      refine wc_region ?_
      refine rl_y (y_move rfl rfl) rfl ?_
      refine rl_y (y_len_v rfl rfl Try.s35 rfl) rfl ?_
      refine rl_y (y_sub rfl rfl rfl (wrap64_id (by omega))) rfl ?_
      refine rl_y (y_max rfl rfl rfl (r := ((xs.length - 3 : Nat) : Int)) (by split <;> omega)) rfl ?_
      refine rl_y (y_assign rfl rfl) rfl ?_
      refine rl_end (ρ' := [(0, _), (1, _), (5, _), (6, _), (7, _), (8, _), (9, _), (10, _), (11, _), (12, _), (13, _), (14, _), (15, _)]) ⟨rfl, rfl, rfl, rfl, rfl, rfl, rfl, rfl, rfl, rfl, rfl, rfl, rfl, trivial⟩ ?_
      refine q_then ?_
      refine wc_seq ?_
      refine wc_seq ?_
      refine wc_region ?_
      refine rl_y (y_move rfl rfl) rfl ?_
      refine rl_y (y_add rfl rfl rfl (wrap64_id (by omega))) rfl ?_
      refine rl_y (y_move rfl rfl) rfl ?_
      refine rl_y (y_gtr rfl rfl rfl) rfl ?_
      refine rl_end (ρ' := [(0, _), (1, _), (5, _), (6, _), (7, _), (8, _), (9, _), (10, _), (11, _), (12, _), (13, _), (14, _), (15, _), (58, _)]) ⟨rfl, rfl, rfl, rfl, rfl, rfl, rfl, rfl, rfl, rfl, rfl, rfl, rfl, rfl, trivial⟩ ?_
      refine q_then ?_
      refine wc_cond rfl (fun hb9 => ?_) (fun hb9 => ?_)
      ·
        have hc2 : most.toNat < xs.length - 3 + 1 := by have := of_decide_eq_true hb9; omega
        refine wc_seq ?_
        obtain ⟨rfl, rfl, rfl⟩ := hK1 hc2
        refine wc_region ?_
        refine rl_y (y_move rfl rfl) rfl ?_
        refine rl_y (y_move rfl rfl) rfl ?_
        refine rl_y (y_eql rfl rfl rfl) rfl ?_
        rw [decide_eq_true (show e = e from rfl)]
        refine rl_y (y_move rfl rfl) rfl ?_
        refine rl_on rfl rfl ?_
        refine rl_y (y_move rfl rfl) rfl ?_
        refine rl_on rfl rfl ?_
        refine rl_y (y_move rfl rfl) rfl ?_
        refine rl_on rfl rfl ?_
        refine rl_y (y_eql rfl rfl rfl) rfl ?_
        rw [decide_eq_true (show (k : Int) = (k : Int) from rfl)]
        refine rl_y (y_pick_t rfl rfl rfl) rfl ?_
        refine rl_y (y_move rfl rfl) rfl ?_
        refine rl_on rfl rfl ?_
        refine rl_y (y_move rfl rfl) rfl ?_
        refine rl_on rfl rfl ?_
        refine rl_y (y_eql rfl rfl rfl) rfl ?_
        rw [decide_eq_true (show (0 : Int) = 0 from rfl)]
        refine rl_y (y_pick_t rfl rfl rfl) rfl ?_
        refine rl_y (y_move rfl rfl) rfl ?_
        refine rl_on rfl rfl ?_
        refine rl_y (y_move rfl rfl) rfl ?_
        refine rl_on rfl rfl ?_
        refine rl_y (y_len_v rfl rfl Try.s35 rfl) rfl ?_
        refine rl_on rfl rfl ?_
        refine rl_y (y_eql rfl rfl rfl) rfl ?_
        rw [decide_eq_true (show ((([] : List Pr).length : Nat) : Int) = 0 from rfl)]
        refine rl_y (y_pick_t rfl rfl rfl) rfl ?_
        refine rl_y (y_move rfl rfl) rfl ?_
        refine rl_on rfl rfl ?_
        refine rl_y (y_move rfl rfl) rfl ?_
        refine rl_on rfl rfl ?_
        refine rl_y (y_eql rfl rfl rfl) rfl ?_
        rw [decide_eq_true (show (18 : Int) = 18 from rfl)]
        refine rl_y (y_pick_t rfl rfl rfl) rfl ?_
        refine rl_y (y_move rfl rfl) rfl ?_
        refine rl_on rfl rfl ?_
        refine rl_y (y_move rfl rfl) rfl ?_
        refine rl_on rfl rfl ?_
        refine rl_y (y_move rfl rfl) rfl ?_
        refine rl_on rfl rfl ?_
        refine rl_y (y_eql rfl rfl rfl) rfl ?_
        rw [decide_eq_true (show ((most.toNat : Nat) : Int) = most by omega)]
        refine rl_y (y_pick_t rfl rfl rfl) rfl ?_
        refine rl_y (y_move rfl rfl) rfl ?_
        refine rl_on rfl rfl ?_
        refine rl_y (y_move rfl rfl) rfl ?_
        refine rl_on rfl rfl ?_
        refine rl_y (y_eql rfl rfl rfl) rfl ?_
        rw [decide_eq_true (show (0 : Int) = 0 from rfl)]
        refine rl_y (y_pick_t rfl rfl rfl) rfl ?_
        refine rl_y (y_move rfl rfl) rfl ?_
        refine rl_on rfl rfl ?_
        refine rl_y (y_move rfl rfl) rfl ?_
        refine rl_on rfl rfl ?_
        refine rl_y (y_len_v rfl rfl Try.s35 rfl) rfl ?_
        refine rl_on rfl rfl ?_
        refine rl_y (y_eql rfl rfl rfl) rfl ?_
        rw [decide_eq_true (show ((([] : List Pr).length : Nat) : Int) = 0 from rfl)]
        refine rl_y (y_pick_t rfl rfl rfl) rfl ?_
        refine rl_y (y_move rfl rfl) rfl ?_
        refine rl_on rfl rfl ?_
        refine rl_call_f (caps := []) rfl rfl Try.c10 rfl (FnP.mono (awake_fn _) ?_)
        rintro v u1 hle1 rfl
        refine rl_y (y_pick_t rfl rfl rfl) rfl ?_
        refine rl_y (y_assign rfl rfl) rfl ?_
        refine rl_end (ρ' := [(4, _)]) ⟨rfl, trivial⟩ ?_
        refine q_then ?_
        refine wc_ret ?_
        refine q_then_ret ?_
        refine fin1 (.tmp rfl) ?_
        rfl
      ·
        have hc2 : ¬ most.toNat < xs.length - 3 + 1 := by have := of_decide_eq_false hb9; omega
        refine wc_skip ?_
        refine q_then ?_
        refine wc_seq ?_
        obtain ⟨rfl, rfl, rfl⟩ := hK2 hc2
        refine wc_region ?_
        refine rl_y (y_move rfl rfl) rfl ?_
        refine rl_y (y_move rfl rfl) rfl ?_
        refine rl_y (y_eql rfl rfl rfl) rfl ?_
        rw [decide_eq_true (show e = e from rfl)]
        refine rl_y (y_move rfl rfl) rfl ?_
        refine rl_on rfl rfl ?_
        refine rl_y (y_move rfl rfl) rfl ?_
        refine rl_on rfl rfl ?_
        refine rl_y (y_move rfl rfl) rfl ?_
        refine rl_on rfl rfl ?_
        refine rl_y (y_eql rfl rfl rfl) rfl ?_
        rw [decide_eq_true (show (k : Int) = (k : Int) from rfl)]
        refine rl_y (y_pick_t rfl rfl rfl) rfl ?_
        refine rl_y (y_move rfl rfl) rfl ?_
        refine rl_on rfl rfl ?_
        refine rl_y (y_move rfl rfl) rfl ?_
        refine rl_on rfl rfl ?_
        refine rl_y (y_eql rfl rfl rfl) rfl ?_
        rw [decide_eq_true (show (0 : Int) = 0 from rfl)]
        refine rl_y (y_pick_t rfl rfl rfl) rfl ?_
        refine rl_y (y_move rfl rfl) rfl ?_
        refine rl_on rfl rfl ?_
        refine rl_y (y_move rfl rfl) rfl ?_
        refine rl_on rfl rfl ?_
        refine rl_y (y_len_v rfl rfl Try.s35 rfl) rfl ?_
        refine rl_on rfl rfl ?_
        refine rl_y (y_eql rfl rfl rfl) rfl ?_
        rw [decide_eq_true (show ((([] : List Pr).length : Nat) : Int) = 0 from rfl)]
        refine rl_y (y_pick_t rfl rfl rfl) rfl ?_
        refine rl_y (y_move rfl rfl) rfl ?_
        refine rl_on rfl rfl ?_
        refine rl_y (y_move rfl rfl) rfl ?_
        refine rl_on rfl rfl ?_
        refine rl_y (y_eql rfl rfl rfl) rfl ?_
        rw [decide_eq_true (show (0 : Int) = 0 from rfl)]
        refine rl_y (y_pick_t rfl rfl rfl) rfl ?_
        refine rl_y (y_move rfl rfl) rfl ?_
        refine rl_on rfl rfl ?_
        refine rl_y (y_move rfl rfl) rfl ?_
        refine rl_on rfl rfl ?_
        refine rl_y (y_move rfl rfl) rfl ?_
        refine rl_on rfl rfl ?_
        refine rl_y (y_add rfl rfl rfl (wrap64_id (by omega))) rfl ?_
        refine rl_on rfl rfl ?_
        refine rl_y (y_eql rfl rfl rfl) rfl ?_
        rw [decide_eq_true (show ((xs.length - 3 + 1 : Nat) : Int) = ((xs.length - 3 : Nat) : Int) + 1 by omega)]
        refine rl_y (y_pick_t rfl rfl rfl) rfl ?_
        refine rl_y (y_move rfl rfl) rfl ?_
        refine rl_on rfl rfl ?_
        refine rl_y (y_move rfl rfl) rfl ?_
        refine rl_on rfl rfl ?_
        refine rl_y (y_eql rfl rfl rfl) rfl ?_
        rw [decide_eq_true (show (0 : Int) = 0 from rfl)]
        refine rl_y (y_pick_t rfl rfl rfl) rfl ?_
        refine rl_y (y_move rfl rfl) rfl ?_
        refine rl_on rfl rfl ?_
        refine rl_y (y_move rfl rfl) rfl ?_
        refine rl_on rfl rfl ?_
        refine rl_y (y_move rfl rfl) rfl ?_
        refine rl_on rfl rfl ?_
        refine rl_y (y_move rfl rfl) rfl ?_
        refine rl_on rfl rfl ?_
        refine rl_y (y_slice_v rfl Try.s35 rfl rfl (i := xs.length - 3) rfl (by omega)) rfl ?_
        have hfr := hs2.from (i := xs.length - 3) (by omega)
        rw [prs_drop] at hfr
        have hdl : (xs.drop (xs.length - 3)).length = xs.length - (xs.length - 3) := by simp
        unfold slV
        rw [← hdl] at hfr ⊢
        refine rl_on rfl rfl ?_
        refine rl_call_f (caps := []) rfl rfl Try.c16 rfl (FnP.mono (pairs_fn ady2 (if cap = xs.length - 3 then ad else ad.map (·.add ((xs.length - 3) * 2))) capy2 (cap - (xs.length - 3)) (xs.drop (xs.length - 3)) (xs.drop (xs.length - 3)) (by omega) _ hsy2 hfr) ?_)
        rintro v u1 hle1 rfl
        rw [decide_eq_true (show xs.drop (xs.length - 3) = xs.drop (xs.length - 3) from rfl)]
        refine rl_y (y_pick_t rfl rfl rfl) rfl ?_
        refine rl_y (y_move rfl rfl) rfl ?_
        refine rl_on rfl rfl ?_
        refine rl_call_f (caps := []) rfl rfl Try.c10 rfl (FnP.mono (awake_fn _) ?_)
        rintro v u1 hle1 rfl
        refine rl_y (y_pick_t rfl rfl rfl) rfl ?_
        refine rl_y (y_assign rfl rfl) rfl ?_
        refine rl_end (ρ' := [(4, _)]) ⟨rfl, trivial⟩ ?_
        refine q_then ?_
        refine wc_ret ?_
        refine fin1 (.tmp rfl) ?_
        rfl
end Go.Proofs.Ytchmiljeidkkpaa
