/- Settle: the small functions. -/
import Derived.Test.YtchmiljeidkkpaaFacts
namespace Go.Proofs.Ytchmiljeidkkpaa
open Go Go.Eng

theorem small_fn (a : Int) (u : View) : FnP Try.prog 9 [.int .i64 a] u fun v _ => v = .bool (decide (-9 ≤ a) && decide (a ≤ 99)) := by
  refine FnP.intro [.tmp 2] Try.func9 rfl rfl rfl ?_
  intro w0 hw0
  refine wc_seq ?_
  refine wc_region ?_
  refine rl_y (y_assign rfl rfl) rfl ?_
  refine rl_end (ρ' := [(0, _)]) ⟨rfl, trivial⟩ ?_
  refine q_then ?_
  refine wc_seq ?_
  refine wc_region ?_
  refine rl_y (y_move rfl rfl) rfl ?_
  refine rl_y (y_geq rfl rfl rfl) rfl ?_
  refine rl_y (y_move rfl rfl) rfl ?_
  rcases Bool.eq_false_or_eq_true (decide (-9 ≤ a)) with hg1_2 | hg1_2
  ·
    simp only [hg1_2]
    refine rl_on rfl rfl ?_
    refine rl_y (y_move rfl rfl) rfl ?_
    refine rl_on rfl rfl ?_
    refine rl_y (y_leq rfl rfl rfl) rfl ?_
    refine rl_y (y_pick_t rfl rfl rfl) rfl ?_
    refine rl_y (y_assign rfl rfl) rfl ?_
    refine rl_end (ρ' := [(2, _)]) ⟨rfl, trivial⟩ ?_
    refine q_then ?_
    refine wc_ret ?_
    refine fin1 (.tmp rfl) ?_
    simp_all
  ·
    simp only [hg1_2]
    refine rl_off rfl rfl rfl rfl ?_
    refine rl_off rfl rfl rfl rfl ?_
    refine rl_y (y_pick_f rfl rfl rfl) rfl ?_
    refine rl_y (y_assign rfl rfl) rfl ?_
    refine rl_end (ρ' := [(2, _)]) ⟨rfl, trivial⟩ ?_
    refine q_then ?_
    refine wc_ret ?_
    refine fin1 (.tmp rfl) ?_
    simp_all

theorem doubled_fn (a : Int) (u : View) (h : -1000 ≤ a ∧ a ≤ 1000) : FnP Try.prog 20 [.int .i64 a] u fun v _ => v = .int .i64 (if 1 ≤ a ∧ a < 8 then 2 * a else a) := by
  refine FnP.intro [.tmp 2] Try.func20 rfl rfl rfl ?_
  intro w0 hw0
  refine wc_seq ?_
  refine wc_region ?_
  refine rl_y (y_assign rfl rfl) rfl ?_
  refine rl_end (ρ' := [(0, _)]) ⟨rfl, trivial⟩ ?_
  refine q_then ?_
  refine wc_seq ?_
  refine wc_seq ?_
  refine wc_cutB 8 (decide (1 ≤ a) && decide (a < 8)) (ρk := [(0, _)]) ⟨rfl, trivial⟩ ?_ ?_
  ·
    refine wc_region ?_
    refine rl_y (y_move rfl rfl) rfl ?_
    refine rl_y (y_geq rfl rfl rfl) rfl ?_
    refine rl_y (y_move rfl rfl) rfl ?_
    rcases Bool.eq_false_or_eq_true (decide (1 ≤ a)) with hg1_2 | hg1_2
    ·
      simp only [hg1_2]
      refine rl_on rfl rfl ?_
      refine rl_y (y_move rfl rfl) rfl ?_
      refine rl_on rfl rfl ?_
      refine rl_y (y_lss rfl rfl rfl) rfl ?_
      refine rl_y (y_pick_t rfl rfl rfl) rfl ?_
      exact cutB_end rfl ⟨rfl, trivial⟩ (by simp)
    ·
      simp only [hg1_2]
      refine rl_off rfl rfl rfl rfl ?_
      refine rl_off rfl rfl rfl rfl ?_
      refine rl_y (y_pick_f rfl rfl rfl) rfl ?_
      exact cutB_end rfl ⟨rfl, trivial⟩ (by simp)
  refine q_then ?_
  refine wc_cond rfl (fun hb1 => ?_) (fun hb1 => ?_)
  ·
    refine wc_seq ?_
    refine wc_region ?_
    refine rl_y (y_move rfl rfl) rfl ?_
    refine rl_y (y_mul rfl rfl rfl (wrap64_id (by omega))) rfl ?_
    refine rl_y (y_assign rfl rfl) rfl ?_
    refine rl_end (ρ' := [(2, _)]) ⟨rfl, trivial⟩ ?_
    refine q_then ?_
    refine wc_ret ?_
    refine q_then_ret ?_
    refine fin1 (.tmp rfl) ?_
    simp_all
  ·
    refine wc_skip ?_
    refine q_then ?_
    refine wc_seq ?_
    refine wc_region ?_
    refine rl_y (y_move rfl rfl) rfl ?_
    refine rl_y (y_assign rfl rfl) rfl ?_
    refine rl_end (ρ' := [(2, _)]) ⟨rfl, trivial⟩ ?_
    refine q_then ?_
    refine wc_ret ?_
    refine fin1 (.tmp rfl) ?_
    simp_all
    intros
    omega

/-- a box -/
def box (p : Int) (t : List Int) : Value := .agg ((p :: t).map (Value.int .i64)).toArray
/-- what follows -/
def at8 (t : List Int) (p : Int) : Int := (t[(p % 8).toNat]?.getD 0) % 8

theorem next_fn (p : Int) (t : List Int) (u : View) (ht : t.length = 8) : FnP Try.prog 12 [box p t] u fun v _ => v = box (at8 t p) t := by
  match t, ht with
  | [a0, a1, a2, a3, a4, a5, a6, a7], _ =>
  have h8 : ∃ j : Nat, j < 8 ∧ p % 8 = j := ⟨(p % 8).toNat, by omega, by omega⟩
  obtain ⟨j, hj, hpj⟩ := h8
  have hx : ∃ x : Int, [a0, a1, a2, a3, a4, a5, a6, a7][j]? = some x := ⟨_, List.getElem?_eq_getElem (by simpa using hj)⟩
  obtain ⟨x, hx⟩ := hx
  have hx' : at8 [a0, a1, a2, a3, a4, a5, a6, a7] p = x % 8 := by unfold at8; rw [hpj]; simp [hx]
  have hl : cut (([p, a0, a1, a2, a3, a4, a5, a6, a7]).map (Value.int .i64)) (0 + 1 + j * 1) 1 = [.int .i64 x] := by
    unfold cut
    match j, hj with
    | 0, _ | 1, _ | 2, _ | 3, _ | 4, _ | 5, _ | 6, _ | 7, _ => simp at hx; subst hx; rfl
  refine FnP.intro [.cell 2 26] Try.func12 rfl rfl rfl ?_
  intro w0 hw0
  refine wc_seq ?_
  refine wc_region ?_
  refine rl_box rfl (cs := [_, _, _, _, _, _, _, _, _]) rfl rfl rfl rfl ?_
  refine rl_alloc Try.z26 rfl rfl rfl ?_
  refine rl_end (ρ' := [(1, _), (2, _)]) ⟨rfl, rfl, trivial⟩ ?_
  refine q_then ?_
  refine wc_seq ?_
  refine wc_region ?_
  refine rl_y (y_field_p rfl Try.f26' rfl (by decide) rfl) rfl ?_
  refine rl_y (y_load_p rfl Try.k3 rfl rfl rfl (vs := [_]) rfl rfl rfl) rfl ?_
  refine rl_y (y_and7 rfl rfl rfl) rfl ?_
  refine rl_y (y_field_p rfl Try.f26' rfl (by decide) rfl) rfl ?_
  refine rl_y (y_index_p rfl Try.a22 rfl rfl hpj hj) rfl ?_
  refine rl_y (y_load_p rfl Try.k3 rfl rfl rfl hl rfl rfl) rfl ?_
  refine rl_y (y_and7 rfl rfl rfl) rfl ?_
  refine rl_y (y_field_p rfl Try.f26' rfl (by decide) rfl) rfl ?_
  refine rl_store_p Try.k3 rfl rfl rfl (vs := [_]) rfl rfl (by first | rfl | simp [Value.oneCell', str]) rfl rfl ?_
  refine rl_end (ρ' := [(1, _), (2, _)]) ⟨rfl, rfl, trivial⟩ ?_
  refine q_then ?_
  refine wc_seq ?_
  refine wc_region ?_
  refine rl_y (y_load_p rfl Try.k26 rfl rfl rfl (vs := [_, _, _, _, _, _, _, _, _]) rfl rfl rfl) rfl ?_
  refine rl_store_p Try.k26 rfl rfl rfl (vs := [_, _, _, _, _, _, _, _, _]) rfl rfl (by first | rfl | simp [Value.oneCell', str]) rfl rfl ?_
  refine rl_end (ρ' := [(2, _)]) ⟨rfl, trivial⟩ ?_
  refine q_then ?_
  refine wc_ret ?_
  refine fin1 (.cell rfl rfl Try.k26 (cs := _) (vs := [_, _, _, _, _, _, _, _, _]) rfl rfl rfl) ?_
  simp [box, hx']
end Go.Proofs.Ytchmiljeidkkpaa
