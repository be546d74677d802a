/- Font: how the reference reads a code point. -/
import Derived.Test.YtceodelgalfjfaaDoorFontU
import Derived.Test.YtceodelgalfjfaaDoorFontB
namespace Go.Proofs.Ytceodelgalfjfaa
open Go Go.Eng
set_option linter.unusedSimpArgs false
set_option linter.unusedVariables false

theorem more_some (l : List UInt8) (i : Int) (j : Nat) (hi : i = j) (lo hi' : Int) (x : UInt8) (hx : l[j]? = some x) (hl : l.length ≤ 1000) (u : View) :
    FnP Tryd.prog 31 [str l, .int .i64 i, .int .i64 lo, .int .i64 hi'] u fun v _ => v = .int .i64 (mo l j lo hi') := by
  subst hi
  have hx256 := x.toNat_lt
  have hj : j < l.length := (List.getElem?_eq_some_iff.1 hx).1
  refine FnP.intro [.tmp 8] Tryd.func31 rfl rfl rfl ?_
  intro w0 hw0
  refine wc_seq ?_
  refine wc_region ?_
  refine rl_y (y_assign rfl rfl) rfl ?_
  refine rl_end (ρ' := [(0, _), (1, _), (2, _), (3, _)]) ⟨rfl, rfl, rfl, rfl, trivial⟩ ?_
  refine q_then ?_
  refine wc_seq ?_
  refine wc_seq ?_
  refine wc_cutB 28 (decide ((x.toNat : Int) < lo) || decide (hi' < (x.toNat : Int))) (ρk := [(0, _), (1, _)]) ⟨rfl, rfl, trivial⟩ ?_ ?_
  ·
    refine wc_region ?_
    refine rl_y (y_move rfl rfl) rfl ?_
    refine rl_y (y_move rfl rfl) rfl ?_
    refine rl_y (y_len_str rfl rfl Tryd.str9 rfl) rfl ?_
    refine rl_y (y_geq rfl rfl rfl) rfl ?_
    rw [decide_eq_false (show ¬ (l.length : Int) ≤ j by omega)]
    refine rl_y (y_move rfl rfl) rfl ?_
    refine rl_on rfl rfl ?_
    refine rl_y (y_move rfl rfl) rfl ?_
    refine rl_on rfl rfl ?_
    refine rl_y (y_move rfl rfl) rfl ?_
    refine rl_on rfl rfl ?_
    refine rl_y (y_index_str rfl Tryd.str9 rfl rfl (j := j) rfl hx) rfl ?_
    refine rl_on rfl rfl ?_
    refine rl_y (y_conv rfl Tryd.u5 Tryd.u3 rfl (wrap64_id (by omega))) rfl ?_
    refine rl_on rfl rfl ?_
    refine rl_y (y_move rfl rfl) rfl ?_
    refine rl_on rfl rfl ?_
    refine rl_y (y_lss rfl rfl rfl) rfl ?_
    refine rl_y (y_pick_f rfl rfl rfl) rfl ?_
    refine rl_y (y_move rfl rfl) rfl ?_
    rcases Bool.eq_false_or_eq_true (decide ((x.toNat : Int) < lo)) with hg1_12 | hg1_12
    ·
      simp only [hg1_12]
      refine rl_off rfl rfl rfl rfl ?_
      refine rl_off rfl rfl rfl rfl ?_
      refine rl_off rfl rfl rfl rfl ?_
      refine rl_off rfl rfl rfl rfl ?_
      refine rl_off rfl rfl rfl rfl ?_
      refine rl_off rfl rfl rfl rfl ?_
      refine rl_y (y_pick_t rfl rfl rfl) rfl ?_
      exact cutB_end rfl ⟨rfl, rfl, trivial⟩ (by simp)
    ·
      simp only [hg1_12]
      refine rl_on rfl rfl ?_
      refine rl_y (y_move rfl rfl) rfl ?_
      refine rl_on rfl rfl ?_
      refine rl_y (y_move rfl rfl) rfl ?_
      refine rl_on rfl rfl ?_
      refine rl_y (y_index_str rfl Tryd.str9 rfl rfl (j := j) rfl hx) rfl ?_
      refine rl_on rfl rfl ?_
      refine rl_y (y_conv rfl Tryd.u5 Tryd.u3 rfl (wrap64_id (by omega))) rfl ?_
      refine rl_on rfl rfl ?_
      refine rl_y (y_move rfl rfl) rfl ?_
      refine rl_on rfl rfl ?_
      refine rl_y (y_gtr rfl rfl rfl) rfl ?_
      refine rl_y (y_pick_f rfl rfl rfl) rfl ?_
      exact cutB_end rfl ⟨rfl, rfl, trivial⟩ (by simp)
  refine q_then ?_
  refine wc_cond rfl (fun hb1 => ?_) (fun hb1 => ?_)
  ·
    have hc : (x.toNat : Int) < lo ∨ hi' < (x.toNat : Int) := by simpa using hb1
    refine wc_seq ?_
    refine wc_region ?_
    refine rl_y (y_assign rfl rfl) rfl ?_
    refine rl_end (ρ' := [(8, _)]) ⟨rfl, trivial⟩ ?_
    refine q_then ?_
    refine wc_ret ?_
    refine q_then_ret ?_
    refine fin1 (.tmp rfl) ?_
    simp only [mo, hx, if_pos hc]
  ·
    have hc : ¬ ((x.toNat : Int) < lo ∨ hi' < (x.toNat : Int)) := by simpa using hb1
    refine wc_skip ?_
    refine q_then ?_
    refine wc_seq ?_
    refine wc_region ?_
    refine rl_y (y_move rfl rfl) rfl ?_
    refine rl_y (y_move rfl rfl) rfl ?_
    refine rl_y (y_index_str rfl Tryd.str9 rfl rfl (j := j) rfl hx) rfl ?_
    refine rl_y (y_conv rfl Tryd.u5 Tryd.u3 rfl (wrap64_id (by omega))) rfl ?_
    refine rl_y (y_sub rfl rfl rfl (wrap64_id (by omega))) rfl ?_
    refine rl_y (y_assign rfl rfl) rfl ?_
    refine rl_end (ρ' := [(8, _)]) ⟨rfl, trivial⟩ ?_
    refine q_then ?_
    refine wc_ret ?_
    refine fin1 (.tmp rfl) ?_
    simp only [mo, hx, if_neg hc]
theorem more_none (l : List UInt8) (i : Int) (j : Nat) (hi : i = j) (lo hi' : Int) (hx : l[j]? = none) (hl : l.length ≤ 1000) (u : View) :
    FnP Tryd.prog 31 [str l, .int .i64 i, .int .i64 lo, .int .i64 hi'] u fun v _ => v = .int .i64 (mo l j lo hi') := by
  subst hi
  have hj : l.length ≤ j := List.getElem?_eq_none_iff.1 hx
  refine FnP.intro [.tmp 8] Tryd.func31 rfl rfl rfl ?_
  intro w0 hw0
  refine wc_seq ?_
  refine wc_region ?_
  refine rl_y (y_assign rfl rfl) rfl ?_
  refine rl_end (ρ' := [(0, _), (1, _), (2, _), (3, _)]) ⟨rfl, rfl, rfl, rfl, trivial⟩ ?_
  refine q_then ?_
  refine wc_seq ?_
  refine wc_seq ?_
  refine wc_region ?_
  refine rl_y (y_move rfl rfl) rfl ?_
  refine rl_y (y_move rfl rfl) rfl ?_
  refine rl_y (y_len_str rfl rfl Tryd.str9 rfl) rfl ?_
  refine rl_y (y_geq rfl rfl rfl) rfl ?_
  rw [decide_eq_true (show (l.length : Int) ≤ j by omega)]
  refine rl_y (y_move rfl rfl) rfl ?_
  refine rl_off rfl rfl rfl rfl ?_
  refine rl_off rfl rfl rfl rfl ?_
  refine rl_off rfl rfl rfl rfl ?_
  refine rl_off rfl rfl rfl rfl ?_
  refine rl_off rfl rfl rfl rfl ?_
  refine rl_off rfl rfl rfl rfl ?_
  refine rl_y (y_pick_t rfl rfl rfl) rfl ?_
  refine rl_y (y_move rfl rfl) rfl ?_
  refine rl_off rfl rfl rfl rfl ?_
  refine rl_off rfl rfl rfl rfl ?_
  refine rl_off rfl rfl rfl rfl ?_
  refine rl_off rfl rfl rfl rfl ?_
  refine rl_off rfl rfl rfl rfl ?_
  refine rl_off rfl rfl rfl rfl ?_
  refine rl_y (y_pick_t rfl rfl rfl) rfl ?_
  refine rl_end (ρ' := [(0, _), (1, _), (28, _)]) ⟨rfl, rfl, rfl, trivial⟩ ?_
  refine q_then ?_
  refine wc_cond_t rfl (rfl) ?_
  refine wc_seq ?_
  refine wc_region ?_
  refine rl_y (y_assign rfl rfl) rfl ?_
  refine rl_end (ρ' := [(8, _)]) ⟨rfl, trivial⟩ ?_
  refine q_then ?_
  refine wc_ret ?_
  refine q_then_ret ?_
  refine fin1 (.tmp rfl) ?_
  simp only [mo, hx]
theorem more_fn (l : List UInt8) (i : Int) (j : Nat) (hi : i = j) (lo hi' : Int) (hl : l.length ≤ 1000) (u : View) :
    FnP Tryd.prog 31 [str l, .int .i64 i, .int .i64 lo, .int .i64 hi'] u fun v _ => v = .int .i64 (mo l j lo hi') := by
  cases hx : l[j]? with
  | none => exact more_none l i j hi lo hi' hx hl u
  | some x => exact more_some l i j hi lo hi' x hx hl u

theorem mo_rg (l : List UInt8) (i : Nat) (lo hi : Int) : -128 ≤ mo l i lo hi ∧ mo l i lo hi ≤ 127 := by
  unfold mo
  split
  · rename_i x hx
    have := x.toNat_lt
    split <;> omega
  · omega

theorem three_fn (l : List UInt8) (j : Nat) (x : UInt8) (hx : l[j]? = some x) (hl : l.length ≤ 1000) (u : View) :
    FnP Tryd.prog 32 [str l, .int .i64 j] u fun v _ => v = .agg #[.int .i64 (thr l j x.toNat).1, .int .i64 (thr l j x.toNat).2] := by
  have hx256 := x.toNat_lt
  have hj : j < l.length := (List.getElem?_eq_some_iff.1 hx).1
  refine FnP.intro [.cell 4 41] Tryd.func32 rfl rfl rfl ?_
  intro w0 hw0
  refine wc_seq ?_
  refine wc_region ?_
  refine rl_alloc Tryd.z41 rfl rfl rfl ?_
  refine rl_end (ρ' := [(0, _), (1, _), (4, _)]) ⟨rfl, rfl, rfl, trivial⟩ ?_
  refine q_then ?_
  refine wc_seq ?_
  refine wc_region ?_
  refine rl_y (y_move rfl rfl) rfl ?_
  refine rl_y (y_move rfl rfl) rfl ?_
  refine rl_y (y_index_str rfl Tryd.str9 rfl rfl (j := j) rfl hx) rfl ?_
  refine rl_y (y_conv rfl Tryd.u5 Tryd.u3 rfl (wrap64_id (by omega))) rfl ?_
  refine rl_y (y_assign rfl rfl) rfl ?_
  refine rl_end (ρ' := [(0, _), (1, _), (4, _), (5, _)]) ⟨rfl, rfl, rfl, rfl, trivial⟩ ?_
  refine q_then ?_
  refine wc_seq ?_
  refine wc_region ?_
  refine rl_y (y_assign rfl rfl) rfl ?_
  refine rl_end (ρ' := [(0, _), (1, _), (4, _), (5, _), (6, _)]) ⟨rfl, rfl, rfl, rfl, rfl, trivial⟩ ?_
  refine q_then ?_
  refine wc_seq ?_
  refine wc_region ?_
  refine rl_y (y_assign rfl rfl) rfl ?_
  refine rl_end (ρ' := [(0, _), (1, _), (4, _), (5, _), (6, _), (7, _)]) ⟨rfl, rfl, rfl, rfl, rfl, rfl, trivial⟩ ?_
  refine q_then ?_
  refine wc_cut (fun ρ σ u' μ => u = u' ∧ μ = [] ∧ σ = [(4, .box [.int .i64 0, .int .i64 0])] ∧ ρ = [(0, .v (str l)), (1, .v (.int .i64 j)), (4, .p 4 0), (5, .v (.int .i64 x.toNat)), (6, .v (.int .i64 (if (x.toNat : Int) = 224 then 160 else 128))), (7, .v (.int .i64 191))]) ?_ ?_
  ·
    refine wc_seq ?_
    refine wc_region ?_
    refine rl_y (y_move rfl rfl) rfl ?_
    refine rl_y (y_eql rfl rfl rfl) rfl ?_
    refine rl_end (ρ' := [(0, _), (1, _), (4, _), (5, _), (6, _), (7, _), (15, _)]) ⟨rfl, rfl, rfl, rfl, rfl, rfl, rfl, trivial⟩ ?_
    refine q_then ?_
    refine wc_cond rfl (fun hb4 => ?_) (fun hb4 => ?_)
    ·
      refine wc_region ?_
      refine rl_y (y_assign rfl rfl) rfl ?_
      refine rl_end (ρ' := [(0, _), (1, _), (4, _), (5, _), (6, _), (7, _)]) ⟨rfl, rfl, rfl, rfl, rfl, rfl, trivial⟩ ?_
      refine q_thenK ?_
      refine ⟨[(0, _), (1, _), (4, _), (5, _), (6, _), (7, _)], [(4, _)], ⟨rfl, rfl, rfl, rfl, ?_, rfl, trivial⟩, ⟨rfl, trivial⟩, rfl, rfl, rfl, rfl⟩
      first | (rw [if_pos (of_decide_eq_true hb4)]; rfl) | (rw [if_neg (of_decide_eq_false hb4)]; rfl)
    ·
      refine wc_skip ?_
      refine q_thenK ?_
      refine ⟨[(0, _), (1, _), (4, _), (5, _), (6, _), (7, _)], [(4, _)], ⟨rfl, rfl, rfl, rfl, ?_, rfl, trivial⟩, ⟨rfl, trivial⟩, rfl, rfl, rfl, rfl⟩
      first | (rw [if_pos (of_decide_eq_true hb4)]; rfl) | (rw [if_neg (of_decide_eq_false hb4)]; rfl)
  ·
    rintro _ _ _ _ ⟨rfl, rfl, rfl, rfl⟩
    refine wc_cut (fun ρ σ u' μ => u = u' ∧ μ = [] ∧ σ = [(4, .box [.int .i64 0, .int .i64 0])] ∧ ρ = [(0, .v (str l)), (1, .v (.int .i64 j)), (4, .p 4 0), (5, .v (.int .i64 x.toNat)), (6, .v (.int .i64 (if (x.toNat : Int) = 224 then 160 else 128))), (7, .v (.int .i64 (if (x.toNat : Int) = 237 then 159 else 191)))]) ?_ ?_
    ·
      refine wc_seq ?_
      refine wc_region ?_
      refine rl_y (y_move rfl rfl) rfl ?_
      refine rl_y (y_eql rfl rfl rfl) rfl ?_
      refine rl_end (ρ' := [(0, _), (1, _), (4, _), (5, _), (6, _), (7, _), (17, _)]) ⟨rfl, rfl, rfl, rfl, rfl, rfl, rfl, trivial⟩ ?_
      refine q_then ?_
      refine wc_cond rfl (fun hb6 => ?_) (fun hb6 => ?_)
      ·
        refine wc_region ?_
        refine rl_y (y_assign rfl rfl) rfl ?_
        refine rl_end (ρ' := [(0, _), (1, _), (4, _), (5, _), (6, _), (7, _)]) ⟨rfl, rfl, rfl, rfl, rfl, rfl, trivial⟩ ?_
        refine q_thenK ?_
        refine ⟨[(0, _), (1, _), (4, _), (5, _), (6, _), (7, _)], [(4, _)], ⟨rfl, rfl, rfl, rfl, rfl, ?_, trivial⟩, ⟨rfl, trivial⟩, rfl, rfl, rfl, rfl⟩
        first | (rw [if_pos (of_decide_eq_true hb6)]; rfl) | (rw [if_neg (of_decide_eq_false hb6)]; rfl)
      ·
        refine wc_skip ?_
        refine q_thenK ?_
        refine ⟨[(0, _), (1, _), (4, _), (5, _), (6, _), (7, _)], [(4, _)], ⟨rfl, rfl, rfl, rfl, rfl, ?_, trivial⟩, ⟨rfl, trivial⟩, rfl, rfl, rfl, rfl⟩
        first | (rw [if_pos (of_decide_eq_true hb6)]; rfl) | (rw [if_neg (of_decide_eq_false hb6)]; rfl)
    ·
      rintro _ _ _ _ ⟨rfl, rfl, rfl, rfl⟩
      refine wc_seq ?_
      refine wc_region ?_
      refine rl_y (y_move rfl rfl) rfl ?_
      refine rl_y (y_move rfl rfl) rfl ?_
      refine rl_y (y_add rfl rfl rfl (wrap64_id (by omega))) rfl ?_
      refine rl_y (y_move rfl rfl) rfl ?_
      refine rl_y (y_move rfl rfl) rfl ?_
      refine rl_call_f (caps := []) rfl rfl Tryd.c31 rfl (FnP.mono (more_fn l (j + 1) (j + 1) (by omega) _ _ hl _) ?_)
      rintro v u1 hle1 rfl
      refine rl_y (y_assign rfl rfl) rfl ?_
      refine rl_end (ρ' := [(0, _), (1, _), (4, _), (5, _), (8, _)]) ⟨rfl, rfl, rfl, rfl, rfl, trivial⟩ ?_
      refine q_then ?_
      refine wc_seq ?_
      refine wc_region ?_
      refine rl_y (y_move rfl rfl) rfl ?_
      refine rl_y (y_move rfl rfl) rfl ?_
      refine rl_y (y_add rfl rfl rfl (wrap64_id (by omega))) rfl ?_
      refine rl_call_f (caps := []) rfl rfl Tryd.c31 rfl (FnP.mono (more_fn l (j + 2) (j + 2) (by omega) _ _ hl _) ?_)
      rintro v u1 hle1 rfl
      refine rl_y (y_assign rfl rfl) rfl ?_
      refine rl_end (ρ' := [(4, _), (5, _), (8, _), (9, _)]) ⟨rfl, rfl, rfl, rfl, trivial⟩ ?_
      refine q_then ?_
      refine wc_seq ?_
      refine wc_seq ?_
      have m1 := mo_rg l (j + 1) (if (x.toNat : Int) = 224 then 160 else 128) (if (x.toNat : Int) = 237 then 159 else 191)
      have m2 := mo_rg l (j + 2) 128 191
      unfold thr
      generalize mo l (j + 1) (if (x.toNat : Int) = 224 then 160 else 128) (if (x.toNat : Int) = 237 then 159 else 191) = p1 at *
      generalize mo l (j + 2) 128 191 = p2 at *
      refine wc_cutB 33 (decide (p1 < 0) || decide (p2 < 0)) (ρk := [(4, _), (5, _), (8, _), (9, _)]) ⟨rfl, rfl, rfl, rfl, trivial⟩ ?_ ?_
      ·
        refine wc_region ?_
        refine rl_y (y_move rfl rfl) rfl ?_
        refine rl_y (y_lss rfl rfl rfl) rfl ?_
        refine rl_y (y_move rfl rfl) rfl ?_
        rcases Bool.eq_false_or_eq_true (decide (p1 < 0)) with hg10_2 | hg10_2
        ·
          simp only [hg10_2]
          refine rl_off rfl rfl rfl rfl ?_
          refine rl_off rfl rfl rfl rfl ?_
          refine rl_y (y_pick_t rfl rfl rfl) rfl ?_
          exact cutB_end rfl ⟨rfl, rfl, rfl, rfl, trivial⟩ (by simp)
        ·
          simp only [hg10_2]
          refine rl_on rfl rfl ?_
          refine rl_y (y_move rfl rfl) rfl ?_
          refine rl_on rfl rfl ?_
          refine rl_y (y_lss rfl rfl rfl) rfl ?_
          refine rl_y (y_pick_f rfl rfl rfl) rfl ?_
          exact cutB_end rfl ⟨rfl, rfl, rfl, rfl, trivial⟩ (by simp)
      refine q_then ?_
      refine wc_cond rfl (fun hb10 => ?_) (fun hb10 => ?_)
      ·
        have hc : p1 < 0 ∨ p2 < 0 := by simpa using hb10
        refine wc_seq ?_
        refine wc_region ?_
        refine rl_y (y_build rfl Tryd.f41' Tryd.z41 (ps := [(_, _), (_, _)]) rfl (vs := [_, _]) rfl) rfl ?_
        refine rl_store_p Tryd.k41 rfl rfl rfl (vs := [_, _]) rfl rfl (by first | rfl | simp [Value.oneCell', str]) rfl rfl ?_
        refine rl_end (ρ' := [(4, _)]) ⟨rfl, trivial⟩ ?_
        refine q_then ?_
        refine wc_ret ?_
        refine q_then_ret ?_
        refine fin1 (.cell rfl rfl Tryd.k41 (cs := _) (vs := [_, _]) rfl rfl rfl) ?_
        simp only [if_pos hc]
      ·
        have hc : ¬ (p1 < 0 ∨ p2 < 0) := by simpa using hb10
        refine wc_skip ?_
        refine q_then ?_
        refine wc_seq ?_
        refine wc_region ?_
        refine rl_y (y_move rfl rfl) rfl ?_
        refine rl_y (y_sub rfl rfl rfl (wrap64_id (by omega))) rfl ?_
        refine rl_y (y_mul rfl rfl rfl (wrap64_id (by omega))) rfl ?_
        refine rl_y (y_move rfl rfl) rfl ?_
        refine rl_y (y_mul rfl rfl rfl (wrap64_id (by omega))) rfl ?_
        refine rl_y (y_add rfl rfl rfl (wrap64_id (by omega))) rfl ?_
        refine rl_y (y_move rfl rfl) rfl ?_
        refine rl_y (y_add rfl rfl rfl (wrap64_id (by omega))) rfl ?_
        refine rl_y (y_build rfl Tryd.f41' Tryd.z41 (ps := [(_, _), (_, _)]) rfl (vs := [_, _]) rfl) rfl ?_
        refine rl_store_p Tryd.k41 rfl rfl rfl (vs := [_, _]) rfl rfl (by first | rfl | simp [Value.oneCell', str]) rfl rfl ?_
        refine rl_end (ρ' := [(4, _)]) ⟨rfl, trivial⟩ ?_
        refine q_then ?_
        refine wc_ret ?_
        refine fin1 (.cell rfl rfl Tryd.k41 (cs := _) (vs := [_, _]) rfl rfl rfl) ?_
        simp only [if_neg hc]

theorem four_fn (l : List UInt8) (j : Nat) (x : UInt8) (hx : l[j]? = some x) (hl : l.length ≤ 1000) (u : View) :
    FnP Tryd.prog 33 [str l, .int .i64 j] u fun v _ => v = .agg #[.int .i64 (fou l j x.toNat).1, .int .i64 (fou l j x.toNat).2] := by
  have hx256 := x.toNat_lt
  have hj : j < l.length := (List.getElem?_eq_some_iff.1 hx).1
  refine FnP.intro [.cell 4 41] Tryd.func33 rfl rfl rfl ?_
  intro w0 hw0
  refine wc_seq ?_
  refine wc_region ?_
  refine rl_alloc Tryd.z41 rfl rfl rfl ?_
  refine rl_end (ρ' := [(0, _), (1, _), (4, _)]) ⟨rfl, rfl, rfl, trivial⟩ ?_
  refine q_then ?_
  refine wc_seq ?_
  refine wc_region ?_
  refine rl_y (y_move rfl rfl) rfl ?_
  refine rl_y (y_move rfl rfl) rfl ?_
  refine rl_y (y_index_str rfl Tryd.str9 rfl rfl (j := j) rfl hx) rfl ?_
  refine rl_y (y_conv rfl Tryd.u5 Tryd.u3 rfl (wrap64_id (by omega))) rfl ?_
  refine rl_y (y_assign rfl rfl) rfl ?_
  refine rl_end (ρ' := [(0, _), (1, _), (4, _), (5, _)]) ⟨rfl, rfl, rfl, rfl, trivial⟩ ?_
  refine q_then ?_
  refine wc_seq ?_
  refine wc_region ?_
  refine rl_y (y_assign rfl rfl) rfl ?_
  refine rl_end (ρ' := [(0, _), (1, _), (4, _), (5, _), (6, _)]) ⟨rfl, rfl, rfl, rfl, rfl, trivial⟩ ?_
  refine q_then ?_
  refine wc_seq ?_
  refine wc_region ?_
  refine rl_y (y_assign rfl rfl) rfl ?_
  refine rl_end (ρ' := [(0, _), (1, _), (4, _), (5, _), (6, _), (7, _)]) ⟨rfl, rfl, rfl, rfl, rfl, rfl, trivial⟩ ?_
  refine q_then ?_
  refine wc_cut (fun ρ σ u' μ => u = u' ∧ μ = [] ∧ σ = [(4, .box [.int .i64 0, .int .i64 0])] ∧ ρ = [(0, .v (str l)), (1, .v (.int .i64 j)), (4, .p 4 0), (5, .v (.int .i64 x.toNat)), (6, .v (.int .i64 (if (x.toNat : Int) = 240 then 144 else 128))), (7, .v (.int .i64 191))]) ?_ ?_
  ·
    refine wc_seq ?_
    refine wc_region ?_
    refine rl_y (y_move rfl rfl) rfl ?_
    refine rl_y (y_eql rfl rfl rfl) rfl ?_
    refine rl_end (ρ' := [(0, _), (1, _), (4, _), (5, _), (6, _), (7, _), (16, _)]) ⟨rfl, rfl, rfl, rfl, rfl, rfl, rfl, trivial⟩ ?_
    refine q_then ?_
    refine wc_cond rfl (fun hb4 => ?_) (fun hb4 => ?_)
    ·
      refine wc_region ?_
      refine rl_y (y_assign rfl rfl) rfl ?_
      refine rl_end (ρ' := [(0, _), (1, _), (4, _), (5, _), (6, _), (7, _)]) ⟨rfl, rfl, rfl, rfl, rfl, rfl, trivial⟩ ?_
      refine q_thenK ?_
      refine ⟨[(0, _), (1, _), (4, _), (5, _), (6, _), (7, _)], [(4, _)], ⟨rfl, rfl, rfl, rfl, ?_, rfl, trivial⟩, ⟨rfl, trivial⟩, rfl, rfl, rfl, rfl⟩
      first | (rw [if_pos (of_decide_eq_true hb4)]; rfl) | (rw [if_neg (of_decide_eq_false hb4)]; rfl)
    ·
      refine wc_skip ?_
      refine q_thenK ?_
      refine ⟨[(0, _), (1, _), (4, _), (5, _), (6, _), (7, _)], [(4, _)], ⟨rfl, rfl, rfl, rfl, ?_, rfl, trivial⟩, ⟨rfl, trivial⟩, rfl, rfl, rfl, rfl⟩
      first | (rw [if_pos (of_decide_eq_true hb4)]; rfl) | (rw [if_neg (of_decide_eq_false hb4)]; rfl)
  ·
    rintro _ _ _ _ ⟨rfl, rfl, rfl, rfl⟩
    refine wc_cut (fun ρ σ u' μ => u = u' ∧ μ = [] ∧ σ = [(4, .box [.int .i64 0, .int .i64 0])] ∧ ρ = [(0, .v (str l)), (1, .v (.int .i64 j)), (4, .p 4 0), (5, .v (.int .i64 x.toNat)), (6, .v (.int .i64 (if (x.toNat : Int) = 240 then 144 else 128))), (7, .v (.int .i64 (if (x.toNat : Int) = 244 then 143 else 191)))]) ?_ ?_
    ·
      refine wc_seq ?_
      refine wc_region ?_
      refine rl_y (y_move rfl rfl) rfl ?_
      refine rl_y (y_eql rfl rfl rfl) rfl ?_
      refine rl_end (ρ' := [(0, _), (1, _), (4, _), (5, _), (6, _), (7, _), (18, _)]) ⟨rfl, rfl, rfl, rfl, rfl, rfl, rfl, trivial⟩ ?_
      refine q_then ?_
      refine wc_cond rfl (fun hb6 => ?_) (fun hb6 => ?_)
      ·
        refine wc_region ?_
        refine rl_y (y_assign rfl rfl) rfl ?_
        refine rl_end (ρ' := [(0, _), (1, _), (4, _), (5, _), (6, _), (7, _)]) ⟨rfl, rfl, rfl, rfl, rfl, rfl, trivial⟩ ?_
        refine q_thenK ?_
        refine ⟨[(0, _), (1, _), (4, _), (5, _), (6, _), (7, _)], [(4, _)], ⟨rfl, rfl, rfl, rfl, rfl, ?_, trivial⟩, ⟨rfl, trivial⟩, rfl, rfl, rfl, rfl⟩
        first | (rw [if_pos (of_decide_eq_true hb6)]; rfl) | (rw [if_neg (of_decide_eq_false hb6)]; rfl)
      ·
        refine wc_skip ?_
        refine q_thenK ?_
        refine ⟨[(0, _), (1, _), (4, _), (5, _), (6, _), (7, _)], [(4, _)], ⟨rfl, rfl, rfl, rfl, rfl, ?_, trivial⟩, ⟨rfl, trivial⟩, rfl, rfl, rfl, rfl⟩
        first | (rw [if_pos (of_decide_eq_true hb6)]; rfl) | (rw [if_neg (of_decide_eq_false hb6)]; rfl)
    ·
      rintro _ _ _ _ ⟨rfl, rfl, rfl, rfl⟩
      refine wc_seq ?_
      refine wc_region ?_
      refine rl_y (y_move rfl rfl) rfl ?_
      refine rl_y (y_move rfl rfl) rfl ?_
      refine rl_y (y_add rfl rfl rfl (wrap64_id (by omega))) rfl ?_
      refine rl_y (y_move rfl rfl) rfl ?_
      refine rl_y (y_move rfl rfl) rfl ?_
      refine rl_call_f (caps := []) rfl rfl Tryd.c31 rfl (FnP.mono (more_fn l (j + 1) (j + 1) (by omega) _ _ hl _) ?_)
      rintro v u1 hle1 rfl
      refine rl_y (y_assign rfl rfl) rfl ?_
      refine rl_end (ρ' := [(0, _), (1, _), (4, _), (5, _), (8, _)]) ⟨rfl, rfl, rfl, rfl, rfl, trivial⟩ ?_
      refine q_then ?_
      refine wc_seq ?_
      refine wc_region ?_
      refine rl_y (y_move rfl rfl) rfl ?_
      refine rl_y (y_move rfl rfl) rfl ?_
      refine rl_y (y_add rfl rfl rfl (wrap64_id (by omega))) rfl ?_
      refine rl_call_f (caps := []) rfl rfl Tryd.c31 rfl (FnP.mono (more_fn l (j + 2) (j + 2) (by omega) _ _ hl _) ?_)
      rintro v u1 hle1 rfl
      refine rl_y (y_assign rfl rfl) rfl ?_
      refine rl_end (ρ' := [(0, _), (1, _), (4, _), (5, _), (8, _), (9, _)]) ⟨rfl, rfl, rfl, rfl, rfl, rfl, trivial⟩ ?_
      refine q_then ?_
      refine wc_seq ?_
      refine wc_region ?_
      refine rl_y (y_move rfl rfl) rfl ?_
      refine rl_y (y_move rfl rfl) rfl ?_
      refine rl_y (y_add rfl rfl rfl (wrap64_id (by omega))) rfl ?_
      refine rl_call_f (caps := []) rfl rfl Tryd.c31 rfl (FnP.mono (more_fn l (j + 3) (j + 3) (by omega) _ _ hl _) ?_)
      rintro v u1 hle1 rfl
      refine rl_y (y_assign rfl rfl) rfl ?_
      refine rl_end (ρ' := [(4, _), (5, _), (8, _), (9, _), (10, _)]) ⟨rfl, rfl, rfl, rfl, rfl, trivial⟩ ?_
      refine q_then ?_
      refine wc_seq ?_
      refine wc_seq ?_
      have m1 := mo_rg l (j + 1) (if (x.toNat : Int) = 240 then 144 else 128) (if (x.toNat : Int) = 244 then 143 else 191)
      have m2 := mo_rg l (j + 2) 128 191
      have m3 := mo_rg l (j + 3) 128 191
      unfold fou
      generalize mo l (j + 1) (if (x.toNat : Int) = 240 then 144 else 128) (if (x.toNat : Int) = 244 then 143 else 191) = p1 at *
      generalize mo l (j + 2) 128 191 = p2 at *
      generalize mo l (j + 3) 128 191 = p3 at *
      refine wc_cutB 42 (decide ((p1 < 0 ∨ p2 < 0) ∨ p3 < 0)) (ρk := [(4, _), (5, _), (8, _), (9, _), (10, _)]) ⟨rfl, rfl, rfl, rfl, rfl, trivial⟩ ?_ ?_
      ·
        refine wc_region ?_
        refine rl_y (y_move rfl rfl) rfl ?_
        refine rl_y (y_lss rfl rfl rfl) rfl ?_
        refine rl_y (y_move rfl rfl) rfl ?_
        rcases Bool.eq_false_or_eq_true (decide (p1 < 0)) with hg11_2 | hg11_2
        ·
          simp only [hg11_2]
          refine rl_off rfl rfl rfl rfl ?_
          refine rl_off rfl rfl rfl rfl ?_
          refine rl_y (y_pick_t rfl rfl rfl) rfl ?_
          refine rl_y (y_move rfl rfl) rfl ?_
          refine rl_off rfl rfl rfl rfl ?_
          refine rl_off rfl rfl rfl rfl ?_
          refine rl_y (y_pick_t rfl rfl rfl) rfl ?_
          exact cutB_end rfl ⟨rfl, rfl, rfl, rfl, rfl, trivial⟩ (by (first | refine (decide_eq_true ?_).symm | refine (decide_eq_false ?_).symm | refine decide_eq_decide.2 ?_ | refine decide_eq_true ?_ | refine decide_eq_false ?_) <;> (try unfold ZeroP) <;> (try simp only [decide_eq_true_eq, decide_eq_false_iff_not] at *) <;> omega)
        ·
          simp only [hg11_2]
          refine rl_on rfl rfl ?_
          refine rl_y (y_move rfl rfl) rfl ?_
          refine rl_on rfl rfl ?_
          refine rl_y (y_lss rfl rfl rfl) rfl ?_
          refine rl_y (y_pick_f rfl rfl rfl) rfl ?_
          refine rl_y (y_move rfl rfl) rfl ?_
          rcases Bool.eq_false_or_eq_true (decide (p2 < 0)) with hg11_6 | hg11_6
          ·
            simp only [hg11_6]
            refine rl_off rfl rfl rfl rfl ?_
            refine rl_off rfl rfl rfl rfl ?_
            refine rl_y (y_pick_t rfl rfl rfl) rfl ?_
            exact cutB_end rfl ⟨rfl, rfl, rfl, rfl, rfl, trivial⟩ (by (first | refine (decide_eq_true ?_).symm | refine (decide_eq_false ?_).symm | refine decide_eq_decide.2 ?_ | refine decide_eq_true ?_ | refine decide_eq_false ?_) <;> (try unfold ZeroP) <;> (try simp only [decide_eq_true_eq, decide_eq_false_iff_not] at *) <;> omega)
          ·
            simp only [hg11_6]
            refine rl_on rfl rfl ?_
            refine rl_y (y_move rfl rfl) rfl ?_
            refine rl_on rfl rfl ?_
            refine rl_y (y_lss rfl rfl rfl) rfl ?_
            refine rl_y (y_pick_f rfl rfl rfl) rfl ?_
            exact cutB_end rfl ⟨rfl, rfl, rfl, rfl, rfl, trivial⟩ (by (first | refine (decide_eq_true ?_).symm | refine (decide_eq_false ?_).symm | refine decide_eq_decide.2 ?_ | refine decide_eq_true ?_ | refine decide_eq_false ?_) <;> (try unfold ZeroP) <;> (try simp only [decide_eq_true_eq, decide_eq_false_iff_not] at *) <;> omega)
      refine q_then ?_
      refine wc_cond rfl (fun hb11 => ?_) (fun hb11 => ?_)
      ·
        have hc : (p1 < 0 ∨ p2 < 0) ∨ p3 < 0 := of_decide_eq_true hb11
        refine wc_seq ?_
        refine wc_region ?_
        refine rl_y (y_build rfl Tryd.f41' Tryd.z41 (ps := [(_, _), (_, _)]) rfl (vs := [_, _]) rfl) rfl ?_
        refine rl_store_p Tryd.k41 rfl rfl rfl (vs := [_, _]) rfl rfl (by first | rfl | simp [Value.oneCell', str]) rfl rfl ?_
        refine rl_end (ρ' := [(4, _)]) ⟨rfl, trivial⟩ ?_
        refine q_then ?_
        refine wc_ret ?_
        refine q_then_ret ?_
        refine fin1 (.cell rfl rfl Tryd.k41 (cs := _) (vs := [_, _]) rfl rfl rfl) ?_
        simp only [if_pos hc]
      ·
        have hc : ¬ ((p1 < 0 ∨ p2 < 0) ∨ p3 < 0) := of_decide_eq_false hb11
        refine wc_skip ?_
        refine q_then ?_
        refine wc_seq ?_
        refine wc_region ?_
        refine rl_y (y_move rfl rfl) rfl ?_
        refine rl_y (y_sub rfl rfl rfl (wrap64_id (by omega))) rfl ?_
        refine rl_y (y_mul rfl rfl rfl (wrap64_id (by omega))) rfl ?_
        refine rl_y (y_move rfl rfl) rfl ?_
        refine rl_y (y_mul rfl rfl rfl (wrap64_id (by omega))) rfl ?_
        refine rl_y (y_add rfl rfl rfl (wrap64_id (by omega))) rfl ?_
        refine rl_y (y_move rfl rfl) rfl ?_
        refine rl_y (y_mul rfl rfl rfl (wrap64_id (by omega))) rfl ?_
        refine rl_y (y_add rfl rfl rfl (wrap64_id (by omega))) rfl ?_
        refine rl_y (y_move rfl rfl) rfl ?_
        refine rl_y (y_add rfl rfl rfl (wrap64_id (by omega))) rfl ?_
        refine rl_y (y_build rfl Tryd.f41' Tryd.z41 (ps := [(_, _), (_, _)]) rfl (vs := [_, _]) rfl) rfl ?_
        refine rl_store_p Tryd.k41 rfl rfl rfl (vs := [_, _]) rfl rfl (by first | rfl | simp [Value.oneCell', str]) rfl rfl ?_
        refine rl_end (ρ' := [(4, _)]) ⟨rfl, trivial⟩ ?_
        refine q_then ?_
        refine wc_ret ?_
        refine fin1 (.cell rfl rfl Tryd.k41 (cs := _) (vs := [_, _]) rfl rfl rfl) ?_
        simp only [if_neg hc]

theorem at_fn (l : List UInt8) (j : Nat) (x : UInt8) (hx : l[j]? = some x) (hl : l.length ≤ 1000) (u : View) :
    FnP Tryd.prog 30 [str l, .int .i64 j] u fun v _ => v = .agg #[.int .i64 (pt l j x.toNat).1, .int .i64 (pt l j x.toNat).2] := by
  have hx256 := x.toNat_lt
  have hj : j < l.length := (List.getElem?_eq_some_iff.1 hx).1
  refine FnP.intro [.cell 4 41] Tryd.func30 rfl rfl rfl ?_
  intro w0 hw0
  refine wc_seq ?_
  refine wc_region ?_
  refine rl_alloc Tryd.z41 rfl rfl rfl ?_
  refine rl_end (ρ' := [(0, _), (1, _), (4, _)]) ⟨rfl, rfl, rfl, trivial⟩ ?_
  refine q_then ?_
  refine wc_seq ?_
  refine wc_region ?_
  refine rl_y (y_move rfl rfl) rfl ?_
  refine rl_y (y_move rfl rfl) rfl ?_
  refine rl_y (y_index_str rfl Tryd.str9 rfl rfl (j := j) rfl hx) rfl ?_
  refine rl_y (y_conv rfl Tryd.u5 Tryd.u3 rfl (wrap64_id (by omega))) rfl ?_
  refine rl_y (y_assign rfl rfl) rfl ?_
  refine rl_end (ρ' := [(0, _), (1, _), (4, _), (5, _)]) ⟨rfl, rfl, rfl, rfl, trivial⟩ ?_
  refine q_then ?_
  refine wc_seq ?_
  refine wc_block ?_
  refine wc_seq ?_
  refine wc_region ?_
  refine rl_y (y_move rfl rfl) rfl ?_
  refine rl_y (y_lss rfl rfl rfl) rfl ?_
  refine rl_y (y_assign rfl rfl) rfl ?_
  refine rl_end (ρ' := [(0, _), (1, _), (4, _), (5, _), (11, _)]) ⟨rfl, rfl, rfl, rfl, rfl, trivial⟩ ?_
  refine q_then ?_
  refine wc_cond rfl (fun hb2 => ?_) (fun hb2 => ?_)
  ·
    have h1 : (x.toNat : Int) < 128 := of_decide_eq_true hb2
    refine wc_seq ?_
    refine wc_region ?_
    refine rl_y (y_move rfl rfl) rfl ?_
    refine rl_y (y_build rfl Tryd.f41' Tryd.z41 (ps := [(_, _), (_, _)]) rfl (vs := [_, _]) rfl) rfl ?_
    refine rl_store_p Tryd.k41 rfl rfl rfl (vs := [_, _]) rfl rfl (by first | rfl | simp [Value.oneCell', str]) rfl rfl ?_
    refine rl_end (ρ' := [(4, _)]) ⟨rfl, trivial⟩ ?_
    refine q_then ?_
    refine wc_ret ?_
    refine q_block_ret ?_
    refine q_then_ret ?_
    refine fin1 (.cell rfl rfl Tryd.k41 (cs := _) (vs := [_, _]) rfl rfl rfl) ?_
    simp only [pt, if_pos h1]
  ·
    have h1 : ¬ (x.toNat : Int) < 128 := of_decide_eq_false hb2
    refine wc_seq ?_
    refine wc_cutB 16 (decide (194 ≤ (x.toNat : Int) ∧ (x.toNat : Int) ≤ 223)) (ρk := [(0, _), (1, _), (4, _), (5, _)]) ⟨rfl, rfl, rfl, rfl, trivial⟩ ?_ ?_
    ·
      refine wc_region ?_
      refine rl_y (y_move rfl rfl) rfl ?_
      refine rl_y (y_geq rfl rfl rfl) rfl ?_
      refine rl_y (y_move rfl rfl) rfl ?_
      rcases Bool.eq_false_or_eq_true (decide (194 ≤ (x.toNat : Int))) with hg4_2 | hg4_2
      ·
        simp only [hg4_2]
        refine rl_on rfl rfl ?_
        refine rl_y (y_move rfl rfl) rfl ?_
        refine rl_on rfl rfl ?_
        refine rl_y (y_leq rfl rfl rfl) rfl ?_
        refine rl_y (y_pick_t rfl rfl rfl) rfl ?_
        refine rl_y (y_assign rfl rfl) rfl ?_
        exact cutB_end rfl ⟨rfl, rfl, rfl, rfl, trivial⟩ (by (first | refine (decide_eq_true ?_).symm | refine (decide_eq_false ?_).symm | refine decide_eq_decide.2 ?_ | refine decide_eq_true ?_ | refine decide_eq_false ?_) <;> (try unfold ZeroP) <;> (try simp only [decide_eq_true_eq, decide_eq_false_iff_not] at *) <;> omega)
      ·
        simp only [hg4_2]
        refine rl_off rfl rfl rfl rfl ?_
        refine rl_off rfl rfl rfl rfl ?_
        refine rl_y (y_pick_f rfl rfl rfl) rfl ?_
        refine rl_y (y_assign rfl rfl) rfl ?_
        exact cutB_end rfl ⟨rfl, rfl, rfl, rfl, trivial⟩ (by (first | refine (decide_eq_true ?_).symm | refine (decide_eq_false ?_).symm | refine decide_eq_decide.2 ?_ | refine decide_eq_true ?_ | refine decide_eq_false ?_) <;> (try unfold ZeroP) <;> (try simp only [decide_eq_true_eq, decide_eq_false_iff_not] at *) <;> omega)
    refine q_then ?_
    refine wc_cond rfl (fun hb4 => ?_) (fun hb4 => ?_)
    ·
      have h2 : 194 ≤ (x.toNat : Int) ∧ (x.toNat : Int) ≤ 223 := of_decide_eq_true hb4
      refine wc_seq ?_
      refine wc_region ?_
      refine rl_y (y_move rfl rfl) rfl ?_
      refine rl_y (y_move rfl rfl) rfl ?_
      refine rl_y (y_add rfl rfl rfl (wrap64_id (by omega))) rfl ?_
      refine rl_call_f (caps := []) rfl rfl Tryd.c31 rfl (FnP.mono (more_fn l (j + 1) (j + 1) (by omega) _ _ hl _) ?_)
      rintro v u1 hle1 rfl
      refine rl_y (y_assign rfl rfl) rfl ?_
      refine rl_end (ρ' := [(4, _), (5, _), (6, _)]) ⟨rfl, rfl, rfl, trivial⟩ ?_
      refine q_then ?_
      refine wc_seq ?_
      refine wc_region ?_
      refine rl_y (y_move rfl rfl) rfl ?_
      refine rl_y (y_geq rfl rfl rfl) rfl ?_
      refine rl_end (ρ' := [(4, _), (5, _), (6, _), (28, _)]) ⟨rfl, rfl, rfl, rfl, trivial⟩ ?_
      refine q_then ?_
      refine wc_cond rfl (fun hb6 => ?_) (fun hb6 => ?_)
      ·
        have h3 : 0 ≤ mo l (j + 1) 128 191 := of_decide_eq_true hb6; have m1 := mo_rg l (j + 1) 128 191
        refine wc_seq ?_
        refine wc_region ?_
        refine rl_y (y_move rfl rfl) rfl ?_
        refine rl_y (y_sub rfl rfl rfl (wrap64_id (by omega))) rfl ?_
        refine rl_y (y_mul rfl rfl rfl (wrap64_id (by omega))) rfl ?_
        refine rl_y (y_move rfl rfl) rfl ?_
        refine rl_y (y_add rfl rfl rfl (wrap64_id (by omega))) rfl ?_
        refine rl_y (y_build rfl Tryd.f41' Tryd.z41 (ps := [(_, _), (_, _)]) rfl (vs := [_, _]) rfl) rfl ?_
        refine rl_store_p Tryd.k41 rfl rfl rfl (vs := [_, _]) rfl rfl (by first | rfl | simp [Value.oneCell', str]) rfl rfl ?_
        refine rl_end (ρ' := [(4, _)]) ⟨rfl, trivial⟩ ?_
        refine q_then ?_
        refine wc_ret ?_
        refine q_block_ret ?_
        refine q_then_ret ?_
        refine fin1 (.cell rfl rfl Tryd.k41 (cs := _) (vs := [_, _]) rfl rfl rfl) ?_
        simp only [pt, if_neg h1, if_pos h2, if_pos h3]
      ·
        have h3 : ¬ 0 ≤ mo l (j + 1) 128 191 := of_decide_eq_false hb6
        refine wc_skip ?_
        refine q_block ?_
        refine q_then ?_
        refine wc_seq ?_
        refine wc_region ?_
        refine rl_y (y_build rfl Tryd.f41' Tryd.z41 (ps := [(_, _), (_, _)]) rfl (vs := [_, _]) rfl) rfl ?_
        refine rl_store_p Tryd.k41 rfl rfl rfl (vs := [_, _]) rfl rfl (by first | rfl | simp [Value.oneCell', str]) rfl rfl ?_
        refine rl_end (ρ' := [(4, _)]) ⟨rfl, trivial⟩ ?_
        refine q_then ?_
        refine wc_ret ?_
        refine fin1 (.cell rfl rfl Tryd.k41 (cs := _) (vs := [_, _]) rfl rfl rfl) ?_
        simp only [pt, if_neg h1, if_pos h2, if_neg h3]
    ·
      have h2 : ¬ (194 ≤ (x.toNat : Int) ∧ (x.toNat : Int) ≤ 223) := of_decide_eq_false hb4
      refine wc_seq ?_
      refine wc_cutB 35 (decide (224 ≤ (x.toNat : Int) ∧ (x.toNat : Int) ≤ 239)) (ρk := [(0, _), (1, _), (4, _), (5, _)]) ⟨rfl, rfl, rfl, rfl, trivial⟩ ?_ ?_
      ·
        refine wc_region ?_
        refine rl_y (y_move rfl rfl) rfl ?_
        refine rl_y (y_geq rfl rfl rfl) rfl ?_
        refine rl_y (y_move rfl rfl) rfl ?_
        rcases Bool.eq_false_or_eq_true (decide (224 ≤ (x.toNat : Int))) with hg8_2 | hg8_2
        ·
          simp only [hg8_2]
          refine rl_on rfl rfl ?_
          refine rl_y (y_move rfl rfl) rfl ?_
          refine rl_on rfl rfl ?_
          refine rl_y (y_leq rfl rfl rfl) rfl ?_
          refine rl_y (y_pick_t rfl rfl rfl) rfl ?_
          refine rl_y (y_assign rfl rfl) rfl ?_
          exact cutB_end rfl ⟨rfl, rfl, rfl, rfl, trivial⟩ (by (first | refine (decide_eq_true ?_).symm | refine (decide_eq_false ?_).symm | refine decide_eq_decide.2 ?_ | refine decide_eq_true ?_ | refine decide_eq_false ?_) <;> (try unfold ZeroP) <;> (try simp only [decide_eq_true_eq, decide_eq_false_iff_not] at *) <;> omega)
        ·
          simp only [hg8_2]
          refine rl_off rfl rfl rfl rfl ?_
          refine rl_off rfl rfl rfl rfl ?_
          refine rl_y (y_pick_f rfl rfl rfl) rfl ?_
          refine rl_y (y_assign rfl rfl) rfl ?_
          exact cutB_end rfl ⟨rfl, rfl, rfl, rfl, trivial⟩ (by (first | refine (decide_eq_true ?_).symm | refine (decide_eq_false ?_).symm | refine decide_eq_decide.2 ?_ | refine decide_eq_true ?_ | refine decide_eq_false ?_) <;> (try unfold ZeroP) <;> (try simp only [decide_eq_true_eq, decide_eq_false_iff_not] at *) <;> omega)
      refine q_then ?_
      refine wc_cond rfl (fun hb8 => ?_) (fun hb8 => ?_)
      ·
        have h4 : 224 ≤ (x.toNat : Int) ∧ (x.toNat : Int) ≤ 239 := of_decide_eq_true hb8
        refine wc_seq ?_
        refine wc_region ?_
        refine rl_y (y_move rfl rfl) rfl ?_
        refine rl_y (y_move rfl rfl) rfl ?_
        refine rl_call_f (caps := []) rfl rfl Tryd.c32 rfl (FnP.mono (three_fn l j x hx hl _) ?_)
        rintro v u1 hle1 rfl
        refine rl_store_p Tryd.k41 rfl rfl rfl (vs := [_, _]) rfl rfl (by first | rfl | simp [Value.oneCell', str]) rfl rfl ?_
        refine rl_end (ρ' := [(4, _)]) ⟨rfl, trivial⟩ ?_
        refine q_then ?_
        refine wc_ret ?_
        refine q_block_ret ?_
        refine q_then_ret ?_
        refine fin1 (.cell rfl rfl Tryd.k41 (cs := _) (vs := [_, _]) rfl rfl rfl) ?_
        simp only [pt, if_neg h1, if_neg h2, if_pos h4]
      ·
        have h4 : ¬ (224 ≤ (x.toNat : Int) ∧ (x.toNat : Int) ≤ 239) := of_decide_eq_false hb8
        refine wc_seq ?_
        refine wc_cutB 45 (decide (240 ≤ (x.toNat : Int) ∧ (x.toNat : Int) ≤ 244)) (ρk := [(0, _), (1, _), (4, _)]) ⟨rfl, rfl, rfl, trivial⟩ ?_ ?_
        ·
          refine wc_region ?_
          refine rl_y (y_move rfl rfl) rfl ?_
          refine rl_y (y_geq rfl rfl rfl) rfl ?_
          refine rl_y (y_move rfl rfl) rfl ?_
          rcases Bool.eq_false_or_eq_true (decide (240 ≤ (x.toNat : Int))) with hg10_2 | hg10_2
          ·
            simp only [hg10_2]
            refine rl_on rfl rfl ?_
            refine rl_y (y_move rfl rfl) rfl ?_
            refine rl_on rfl rfl ?_
            refine rl_y (y_leq rfl rfl rfl) rfl ?_
            refine rl_y (y_pick_t rfl rfl rfl) rfl ?_
            refine rl_y (y_assign rfl rfl) rfl ?_
            exact cutB_end rfl ⟨rfl, rfl, rfl, trivial⟩ (by (first | refine (decide_eq_true ?_).symm | refine (decide_eq_false ?_).symm | refine decide_eq_decide.2 ?_ | refine decide_eq_true ?_ | refine decide_eq_false ?_) <;> (try unfold ZeroP) <;> (try simp only [decide_eq_true_eq, decide_eq_false_iff_not] at *) <;> omega)
          ·
            simp only [hg10_2]
            refine rl_off rfl rfl rfl rfl ?_
            refine rl_off rfl rfl rfl rfl ?_
            refine rl_y (y_pick_f rfl rfl rfl) rfl ?_
            refine rl_y (y_assign rfl rfl) rfl ?_
            exact cutB_end rfl ⟨rfl, rfl, rfl, trivial⟩ (by (first | refine (decide_eq_true ?_).symm | refine (decide_eq_false ?_).symm | refine decide_eq_decide.2 ?_ | refine decide_eq_true ?_ | refine decide_eq_false ?_) <;> (try unfold ZeroP) <;> (try simp only [decide_eq_true_eq, decide_eq_false_iff_not] at *) <;> omega)
        refine q_then ?_
        refine wc_cond rfl (fun hb10 => ?_) (fun hb10 => ?_)
        ·
          have h5 : 240 ≤ (x.toNat : Int) ∧ (x.toNat : Int) ≤ 244 := of_decide_eq_true hb10
          refine wc_seq ?_
          refine wc_region ?_
          refine rl_y (y_move rfl rfl) rfl ?_
          refine rl_y (y_move rfl rfl) rfl ?_
          refine rl_call_f (caps := []) rfl rfl Tryd.c33 rfl (FnP.mono (four_fn l j x hx hl _) ?_)
          rintro v u1 hle1 rfl
          refine rl_store_p Tryd.k41 rfl rfl rfl (vs := [_, _]) rfl rfl (by first | rfl | simp [Value.oneCell', str]) rfl rfl ?_
          refine rl_end (ρ' := [(4, _)]) ⟨rfl, trivial⟩ ?_
          refine q_then ?_
          refine wc_ret ?_
          refine q_block_ret ?_
          refine q_then_ret ?_
          refine fin1 (.cell rfl rfl Tryd.k41 (cs := _) (vs := [_, _]) rfl rfl rfl) ?_
          simp only [pt, if_neg h1, if_neg h2, if_neg h4, if_pos h5]
        ·
          have h5 : ¬ (240 ≤ (x.toNat : Int) ∧ (x.toNat : Int) ≤ 244) := of_decide_eq_false hb10
          refine wc_skip ?_
          refine q_block ?_
          refine q_then ?_
          refine wc_seq ?_
          refine wc_region ?_
          refine rl_y (y_build rfl Tryd.f41' Tryd.z41 (ps := [(_, _), (_, _)]) rfl (vs := [_, _]) rfl) rfl ?_
          refine rl_store_p Tryd.k41 rfl rfl rfl (vs := [_, _]) rfl rfl (by first | rfl | simp [Value.oneCell', str]) rfl rfl ?_
          refine rl_end (ρ' := [(4, _)]) ⟨rfl, trivial⟩ ?_
          refine q_then ?_
          refine wc_ret ?_
          refine fin1 (.cell rfl rfl Tryd.k41 (cs := _) (vs := [_, _]) rfl rfl rfl) ?_
          simp only [pt, if_neg h1, if_neg h2, if_neg h4, if_neg h5]

theorem next_fn (l : List UInt8) (j : Nat) (hj : j < l.length) (hl : l.length ≤ 1000) (u : View) :
    FnP Tryd.prog 22 [str l, .int .i64 j] u fun v _ => v = .tuple #[.int .i64 (dec l j).1, .int .i64 (dec l j).2] := by
  obtain ⟨x, hx⟩ : ∃ x, l[j]? = some x := ⟨_, List.getElem?_eq_getElem hj⟩
  have hpt := pt_dec l j x hx
  refine FnP.intro [.tmp 4, .tmp 5] Tryd.func22 rfl rfl rfl ?_
  intro w0 hw0
  refine wc_seq ?_
  refine wc_region ?_
  refine rl_y (y_assign rfl rfl) rfl ?_
  refine rl_y (y_assign rfl rfl) rfl ?_
  refine rl_end (ρ' := [(0, _), (1, _)]) ⟨rfl, rfl, trivial⟩ ?_
  refine q_then ?_
  refine wc_seq ?_
  refine wc_seq ?_
  refine wc_region ?_
  refine rl_y (y_move rfl rfl) rfl ?_
  refine rl_y (y_lss rfl rfl rfl) rfl ?_
  rw [decide_eq_false (show ¬ (j : Int) < 0 by omega)]
  refine rl_y (y_move rfl rfl) rfl ?_
  refine rl_on rfl rfl ?_
  refine rl_y (y_move rfl rfl) rfl ?_
  refine rl_on rfl rfl ?_
  refine rl_y (y_move rfl rfl) rfl ?_
  refine rl_on rfl rfl ?_
  refine rl_y (y_len_str rfl rfl Tryd.str9 rfl) rfl ?_
  refine rl_on rfl rfl ?_
  refine rl_y (y_geq rfl rfl rfl) rfl ?_
  rw [decide_eq_false (show ¬ (l.length : Int) ≤ j by omega)]
  refine rl_y (y_pick_f rfl rfl rfl) rfl ?_
  refine rl_end (ρ' := [(0, _), (1, _), (14, _)]) ⟨rfl, rfl, rfl, trivial⟩ ?_
  refine q_then ?_
  refine wc_cond_f rfl (rfl) ?_
  refine wc_skip ?_
  refine q_then ?_
  refine wc_seq ?_
  refine wc_region ?_
  refine rl_y (y_move rfl rfl) rfl ?_
  refine rl_y (y_move rfl rfl) rfl ?_
  refine rl_call_f (caps := []) rfl rfl Tryd.c30 rfl (FnP.mono (at_fn l j x hx hl _) ?_)
  rintro v u1 hle1 rfl
  rw [hpt]
  refine rl_alloc Tryd.z41 rfl rfl rfl ?_
  refine rl_store_p Tryd.k41 rfl rfl rfl (vs := [_, _]) rfl rfl (by first | rfl | simp [Value.oneCell', str]) rfl rfl ?_
  refine rl_end (ρ' := [(6, _)]) ⟨rfl, trivial⟩ ?_
  refine q_then ?_
  refine wc_seq ?_
  refine wc_draw Tryd.mixed [(6, .box [])] ?_
  refine ra_y (i := 0) rfl (by kernel_rfl) (by kernel_rfl) (by kernel_rfl) (np_then (np_fin)) (y_field_p rfl Tryd.f41' rfl (by decide) rfl) rfl ?_
  refine ra_y (i := 1) rfl (by kernel_rfl) (by kernel_rfl) (by kernel_rfl) (np_then (np_fin)) (y_load_p rfl Tryd.k3 rfl rfl rfl (vs := [_]) rfl rfl rfl) rfl ?_
  refine ra_y (i := 2) rfl (by kernel_rfl) (by kernel_rfl) (by kernel_rfl) (np_then (np_fin)) (y_field_p rfl Tryd.f41' rfl (by decide) rfl) rfl ?_
  refine ra_y (i := 3) rfl (by kernel_rfl) (by kernel_rfl) (by kernel_rfl) (np_then (np_fin)) (y_load_p rfl Tryd.k3 rfl rfl rfl (vs := [_]) rfl rfl rfl) rfl ?_
  refine ra_y (i := 4) rfl (by kernel_rfl) (by kernel_rfl) (by kernel_rfl) (np_then (np_fin)) (y_assign rfl rfl) rfl ?_
  refine ra_y (i := 5) rfl (by kernel_rfl) (by kernel_rfl) (by kernel_rfl) (np_then (np_fin)) (y_assign rfl rfl) rfl ?_
  refine ra_end (by kernel_rfl) (ρ' := [(4, _), (5, _)]) ⟨rfl, rfl, trivial⟩ ?_
  refine q_then ?_
  refine wc_ret ?_
  refine fin2 (.tmp rfl) (.tmp rfl) ?_
  rfl
end Go.Proofs.Ytceodelgalfjfaa
