/- Count: the reference's counters. -/
import Derived.Test.YthnboadnehbciaaDoorCntG
import Derived.Test.YthnboadnehbciaaDoorEngRow
namespace Go.Proofs.Ythnboadnehbciaa
open Go Go.Eng
set_option linter.unusedSimpArgs false
set_option linter.unusedVariables false
set_option maxRecDepth 4000

/-- the counters behind a section of a level; number 0 is not in use -/
def ctrF (f : Nat → Nat) (l : Nat) : Nat → Nat := fun j => if j = 0 then f j else if j < l then max (f j) 1 else if j = l then f j + 1 else 0
def preF (f : Nat → Nat) (i : Nat) : Nat → Nat := fun j => if j ≠ 0 ∧ j < i then max (f j) 1 else f j
def postF (f : Nat → Nat) (l i : Nat) : Nat → Nat := fun j => if l < j ∧ j < i then 0 else f j
def midF (f : Nat → Nat) (l i : Nat) : Nat → Nat := fun j => if l < j ∧ j < i then 0 else setF (preF f l) l (f l + 1) j
theorem pre_zero (f : Nat → Nat) : arr 7 f = arr 7 (preF f 1) := arr_congr fun j _ => by unfold preF; rw [if_neg (by omega)]
theorem pre_set {f : Nat → Nat} {i : Nat} (h : f (i + 1) = 0) (hi : i + 1 < 7) : setAt (arr 7 (preF f (i + 1))) (0 + (i + 1) * 1) [.int .i64 1] = arr 7 (preF f (i + 1 + 1)) := by
  refine (set_arr (i := i + 1) (v := 1) hi (by omega)).trans (arr_congr fun j hj => ?_)
  unfold setF preF
  by_cases e : j = i + 1
  · subst e; rw [if_pos rfl, if_pos (by omega), h]; rfl
  · rw [if_neg e]
    by_cases e2 : j ≠ 0 ∧ j < i + 1
    · rw [if_pos e2, if_pos (by omega)]
    · rw [if_neg e2, if_neg (by omega)]
theorem pre_keep {f : Nat → Nat} {i : Nat} (h : ¬ f (i + 1) = 0) : arr 7 (preF f (i + 1)) = arr 7 (preF f (i + 1 + 1)) := by
  refine arr_congr fun j hj => ?_
  unfold preF
  by_cases e2 : j ≠ 0 ∧ j < i + 1
  · rw [if_pos e2, if_pos (by omega)]
  · rw [if_neg e2]
    by_cases e : j = i + 1
    · subst e; rw [if_pos (by omega)]; omega
    · rw [if_neg (by omega)]
theorem mid_zero (f : Nat → Nat) (l : Nat) : arr 7 (setF (preF f l) l (f l + 1)) = arr 7 (midF f l (l + 1)) := arr_congr fun j _ => by unfold midF; rw [if_neg (by omega)]
theorem mid_set {f : Nat → Nat} {l i : Nat} (hi : l + 1 + i < 7) : setAt (arr 7 (midF f l (l + 1 + i))) (0 + (l + 1 + i) * 1) [.int .i64 0] = arr 7 (midF f l (l + 1 + (i + 1))) := by
  refine (set_arr (i := l + 1 + i) (v := 0) hi (by omega)).trans (arr_congr fun j hj => ?_)
  unfold midF
  by_cases e : j = l + 1 + i
  · subst e; rw [if_pos (by omega)]; simp [setF]
  · by_cases e2 : l < j ∧ j < l + 1 + i
    · rw [if_pos (by omega)]; simp [setF, e, e2]
    · rw [if_neg (by omega)]; unfold setF; rw [if_neg e]; exact if_neg e2
theorem mid_end {f : Nat → Nat} {l : Nat} (h1 : 1 ≤ l) : arr 7 (midF f l 7) = arr 7 (ctrF f l) := by
  refine arr_congr fun j hj => ?_
  unfold midF ctrF setF preF
  by_cases e : j = 0
  · rw [if_neg (by omega), if_neg (by omega), if_neg (by omega), if_pos e]
  · rw [if_neg e]
    by_cases e1 : j < l
    · rw [if_neg (by omega), if_neg (by omega), if_pos (by omega), if_pos e1]
    · rw [if_neg e1]
      by_cases e2 : j = l
      · subst e2; rw [if_neg (by omega), if_pos rfl, if_pos rfl]
      · rw [if_pos (by omega), if_neg e2]
abbrev zero7 : List Value := [.int .i64 0, .int .i64 0, .int .i64 0, .int .i64 0, .int .i64 0, .int .i64 0, .int .i64 0]
theorem counters7_fn (f : Nat → Nat) (l : Nat) (h1 : 1 ≤ l) (h6 : l ≤ 6) (hf : ∀ j, f j ≤ 1000000) (u : View) :
    FnP Tryd.prog 48 [.agg (arr 7 f).toArray, .int .i64 l] u fun r _ => r = .agg (arr 7 (ctrF f l)).toArray := by
  refine FnP.intro [.cell 4 69] Tryd.func48 rfl rfl rfl ?_
  intro w0 D hw0
  refine wc_seq ?_
  refine wc_region ?_
  refine rl_do rfl rfl ?_
  refine do_box trivial rfl (cs := arr 7 f) rfl rfl rfl rfl ?_
  refine rl_do rfl rfl ?_
  refine do_alloc trivial Tryd.z69 rfl rfl rfl ?_
  refine rl_end (ρ' := [(1, _), (2, _), (4, _)]) ⟨rfl, rfl, rfl, trivial⟩ ?_
  refine q_then ?_
  refine wc_seq ?_
  refine wc_seq ?_
  refine wc_region ?_
  refine rl_y (y_assign rfl rfl) rfl ?_
  refine rl_end (ρ' := [(1, _), (2, _), (4, _), (5, _)]) ⟨rfl, rfl, rfl, rfl, trivial⟩ ?_
  refine q_then ?_
  refine wc_block ?_
  refine wc_loop (fun m ρ σ u' => ∃ i : Nat, i + m = l - 1 ∧ VLe u u' ∧ σ = [(2, (none, .box (arr 7 (preF f (i + 1))))), (4, (none, .box zero7))] ∧ ρ = [(1, .v (.int .i64 l)), (2, .p 2 0), (4, .p 4 0), (5, .v (.int .i64 (i + 1 : Nat)))] ∧ (u = u')) (l - 1) ?_ ?_
  ·
    refine ⟨[(1, _), (2, _), (4, _), (5, _)], [(2, _), (4, _)], ⟨rfl, rfl, rfl, rfl, trivial⟩, ⟨rfl, rfl, trivial⟩, 0, by omega, VLe.refl _, (by rw [pre_zero f]), rfl, ?_⟩
    rfl
  ·
    rintro m ρ σ u' ⟨i, hi2, hle2, rfl, rfl, rfl⟩
    refine wc_seq ?_
    refine wc_seq ?_
    refine wc_region ?_
    refine rl_y (y_move rfl rfl) rfl ?_
    refine rl_y (y_move rfl rfl) rfl ?_
    refine rl_y (y_lss rfl rfl rfl) rfl ?_
    refine rl_end (ρ' := [(1, _), (2, _), (4, _), (5, _), (9, _)]) ⟨rfl, rfl, rfl, rfl, rfl, trivial⟩ ?_
    refine q_then ?_
    refine wc_cond rfl (fun hb2 => ?_) (fun hb2 => ?_)
    ·
      refine wc_skip ?_
      refine q_then ?_
      refine wc_seq ?_
      refine wc_block ?_
      refine wc_seq ?_
      have hlt := of_decide_eq_true hb2
      refine wc_region ?_
      refine rl_y (y_move rfl rfl) rfl ?_
      refine rl_y (y_index_p rfl Tryd.a69 rfl rfl (by first | rfl | omega) (by omega)) rfl ?_
      refine rl_y (y_load_p rfl Tryd.k3 rfl rfl rfl (cut_arr (i := i + 1) (by omega) (by omega)) rfl rfl) rfl ?_
      have hpl : preF f (i + 1) (i + 1) = f (i + 1) := by unfold preF; rw [if_neg (by omega)]
      refine rl_y (y_eql rfl rfl rfl) rfl ?_
      refine rl_end (ρ' := [(1, _), (2, _), (4, _), (5, _), (15, _)]) ⟨rfl, rfl, rfl, rfl, rfl, trivial⟩ ?_
      refine q_then ?_
      refine wc_cond rfl (fun hb4 => ?_) (fun hb4 => ?_)
      ·
        have h4 := of_decide_eq_true hb4
        refine wc_region ?_
        refine rl_y (y_move rfl rfl) rfl ?_
        refine rl_y (y_index_p rfl Tryd.a69 rfl rfl (by first | rfl | omega) (by omega)) rfl ?_
        refine rl_do rfl rfl ?_
        refine do_store_p trivial rfl Tryd.k3 rfl rfl rfl (vs := [_]) rfl rfl (by first | rfl | exact oneAll | exact oneAll2 | simp [Value.oneCell', str]) (by simp [arr_len]; omega) rfl ?_
        refine rl_end (ρ' := [(1, _), (2, _), (4, _), (5, _)]) ⟨rfl, rfl, rfl, rfl, trivial⟩ ?_
        refine q_block ?_
        refine q_then ?_
        refine wc_region ?_
        refine rl_y (y_move rfl rfl) rfl ?_
        refine rl_y (y_add rfl rfl rfl (wrap64_id (by omega))) rfl ?_
        refine rl_y (y_assign rfl rfl) rfl ?_
        refine rl_end (ρ' := [(1, _), (2, _), (4, _), (5, _)]) ⟨rfl, rfl, rfl, rfl, trivial⟩ ?_
        refine q_thenK ?_
        refine ⟨m - 1, [(1, _), (2, _), (4, _), (5, _)], [(2, _), (4, _)], by omega, ⟨rfl, rfl, rfl, rfl, trivial⟩, ⟨rfl, rfl, trivial⟩, i + 1, by omega, hle2, (by first | (rw [pre_set (by omega) (by omega)]; done) | (rw [pre_keep (by omega)]; done)), (by first | rfl | simp), ?_⟩
        rfl
      ·
        have h4 := of_decide_eq_false hb4
        refine wc_skip ?_
        refine q_block ?_
        refine q_then ?_
        refine wc_region ?_
        refine rl_y (y_move rfl rfl) rfl ?_
        refine rl_y (y_add rfl rfl rfl (wrap64_id (by omega))) rfl ?_
        refine rl_y (y_assign rfl rfl) rfl ?_
        refine rl_end (ρ' := [(1, _), (2, _), (4, _), (5, _)]) ⟨rfl, rfl, rfl, rfl, trivial⟩ ?_
        refine q_thenK ?_
        refine ⟨m - 1, [(1, _), (2, _), (4, _), (5, _)], [(2, _), (4, _)], by omega, ⟨rfl, rfl, rfl, rfl, trivial⟩, ⟨rfl, rfl, trivial⟩, i + 1, by omega, hle2, (by first | (rw [pre_set (by omega) (by omega)]; done) | (rw [pre_keep (by omega)]; done)), (by first | rfl | simp), ?_⟩
        rfl
    ·
      refine wc_exit ?_
      refine q_then_exit ?_
      refine q_then_exit ?_
      refine q_block_hit ?_
      refine q_then ?_
      refine wc_seq ?_
      have hge := of_decide_eq_false hb2
      have hil : i + 1 = l := by omega
      subst hil
      have hfl := hf (i + 1)
      have hpl : preF f (i + 1) (i + 1) = f (i + 1) := by unfold preF; rw [if_neg (by omega)]
      refine wc_region ?_
      refine rl_y (y_move rfl rfl) rfl ?_
      refine rl_y (y_index_p rfl Tryd.a69 rfl rfl (by first | rfl | omega) (by omega)) rfl ?_
      refine rl_y (y_load_p rfl Tryd.k3 rfl rfl rfl (cut_arr (i := i + 1) (by omega) (by omega)) rfl rfl) rfl ?_
      rw [hpl]
      refine rl_y (y_add rfl rfl rfl (wrap64_id (by omega))) rfl ?_
      refine rl_y (y_index_p rfl Tryd.a69 rfl rfl (by first | rfl | omega) (by omega)) rfl ?_
      refine rl_do rfl rfl ?_
      refine do_store_p trivial rfl Tryd.k3 rfl rfl rfl (vs := [_]) rfl rfl (by first | rfl | exact oneAll | exact oneAll2 | simp [Value.oneCell', str]) (by simp [arr_len]; omega) rfl ?_
      refine rl_end (ρ' := [(1, _), (2, _), (4, _)]) ⟨rfl, rfl, rfl, trivial⟩ ?_
      refine q_then ?_
      refine wc_seq ?_
      refine wc_seq ?_
      refine wc_region ?_
      refine rl_y (y_move rfl rfl) rfl ?_
      refine rl_y (y_add rfl rfl rfl (wrap64_id (by omega))) rfl ?_
      refine rl_y (y_assign rfl rfl) rfl ?_
      refine rl_end (ρ' := [(2, _), (4, _), (6, _)]) ⟨rfl, rfl, rfl, trivial⟩ ?_
      refine q_then ?_
      refine wc_block ?_
      refine wc_loop (fun m ρ σ u' => ∃ n : Nat, n + m = 6 - (i + 1) ∧ VLe u u' ∧ σ = [(2, (none, .box (arr 7 (midF f (i + 1) (i + 1 + 1 + n))))), (4, (none, .box zero7))] ∧ ρ = [(2, .p 2 0), (4, .p 4 0), (6, .v (.int .i64 (i + 1 + 1 + n : Nat)))] ∧ (u = u')) (6 - (i + 1)) ?_ ?_
      ·
        refine ⟨[(2, _), (4, _), (6, _)], [(2, _), (4, _)], ⟨rfl, rfl, rfl, trivial⟩, ⟨rfl, rfl, trivial⟩, 0, by omega, VLe.refl _, (by rw [show (Value.int .i64 ((f (i + 1) : Int) + 1)) = .int .i64 ((f (i + 1) + 1 : Nat) : Int) from rfl, set_arr (i := i + 1) (by omega) (by omega), mid_zero]), (by first | rfl | simp), ?_⟩
        rfl
      ·
        rintro mn ρ σ u' ⟨n, hi8, hle8, rfl, rfl, rfl⟩
        refine wc_seq ?_
        refine wc_seq ?_
        refine wc_region ?_
        refine rl_y (y_move rfl rfl) rfl ?_
        refine rl_y (y_leq rfl rfl rfl) rfl ?_
        refine rl_end (ρ' := [(2, _), (4, _), (6, _), (26, _)]) ⟨rfl, rfl, rfl, rfl, trivial⟩ ?_
        refine q_then ?_
        refine wc_cond rfl (fun hb8 => ?_) (fun hb8 => ?_)
        ·
          refine wc_skip ?_
          refine q_then ?_
          refine wc_seq ?_
          refine wc_block ?_
          have hlt8 := of_decide_eq_true hb8
          refine wc_region ?_
          refine rl_y (y_move rfl rfl) rfl ?_
          refine rl_y (y_index_p rfl Tryd.a69 rfl rfl (by first | rfl | omega) (by omega)) rfl ?_
          refine rl_do rfl rfl ?_
          refine do_store_p trivial rfl Tryd.k3 rfl rfl rfl (vs := [_]) rfl rfl (by first | rfl | exact oneAll | exact oneAll2 | simp [Value.oneCell', str]) (by simp [arr_len]; omega) rfl ?_
          refine rl_end (ρ' := [(2, _), (4, _), (6, _)]) ⟨rfl, rfl, rfl, trivial⟩ ?_
          refine q_block ?_
          refine q_then ?_
          refine wc_region ?_
          refine rl_y (y_move rfl rfl) rfl ?_
          refine rl_y (y_add rfl rfl rfl (wrap64_id (by omega))) rfl ?_
          refine rl_y (y_assign rfl rfl) rfl ?_
          refine rl_end (ρ' := [(2, _), (4, _), (6, _)]) ⟨rfl, rfl, rfl, trivial⟩ ?_
          refine q_thenK ?_
          refine ⟨mn - 1, [(2, _), (4, _), (6, _)], [(2, _), (4, _)], by omega, ⟨rfl, rfl, rfl, trivial⟩, ⟨rfl, rfl, trivial⟩, n + 1, by omega, hle8, (by rw [mid_set (by omega)]), (by first | rfl | (simp; omega)), ?_⟩
          rfl
        ·
          refine wc_exit ?_
          refine q_then_exit ?_
          refine q_then_exit ?_
          refine q_block_hit ?_
          refine q_then ?_
          refine wc_seq ?_
          have hge8 := of_decide_eq_false hb8
          rw [show i + 1 + 1 + n = 7 by omega, mid_end (by omega)]
          refine wc_region ?_
          refine rl_y (y_load_p rfl Tryd.k69 rfl rfl rfl (vs := [_, _, _, _, _, _, _]) rfl rfl rfl) rfl ?_
          refine rl_do rfl rfl ?_
          refine do_store_p trivial rfl Tryd.k69 rfl rfl rfl (vs := [_, _, _, _, _, _, _]) rfl rfl (by first | rfl | exact oneAll | exact oneAll2 | simp [Value.oneCell', str]) (Nat.le_of_ble_eq_true rfl) rfl ?_
          refine rl_end (ρ' := [(4, _)]) ⟨rfl, trivial⟩ ?_
          refine q_then ?_
          refine wc_ret ?_
          refine fin1 (.cell rfl rfl Tryd.k69 (cs := _) (vs := [_, _, _, _, _, _, _]) rfl rfl rfl) ?_
          rfl

/-- the text of a value -/
def valF (f : Nat → Nat) (l : Nat) : Bs := dots ((List.range l).map fun j => f (j + 1))
theorem valF_one (f : Nat → Nat) : valF f 1 = dec (f 1) := dots_one _
theorem valF_succ (f : Nat → Nat) {i : Nat} (h : i ≠ 0) : valF f (i + 1) = valF f i ++ [46] ++ dec (f (i + 1)) := by
  unfold valF
  rw [List.range_succ, List.map_append, List.map_singleton, dots_snoc _ _ (by simp; omega)]
theorem valF_len {f : Nat → Nat} (hf : ∀ j, f j ≤ 100000) (l : Nat) : (valF f l).length ≤ l * 7 := by
  have := dots_len ((List.range l).map fun j => f (j + 1)) 6 (fun c hc => by
    obtain ⟨j, _, rfl⟩ := List.mem_map.1 hc
    exact dec_len10 5 _ (by have := hf (j + 1); omega))
  simpa [valF] using this
theorem value_fn (f : Nat → Nat) (l : Nat) (h6 : l ≤ 6) (hf : ∀ j, f j ≤ 100000) (u : View) :
    FnP Tryd.prog 49 [.agg (arr 7 f).toArray, .int .i64 l] u fun r _ => r = str (valF f l) := by
  refine FnP.intro [.tmp 4] Tryd.func49 rfl rfl rfl ?_
  intro w0 D hw0
  refine wc_seq ?_
  refine wc_region ?_
  refine rl_do rfl rfl ?_
  refine do_box trivial rfl (cs := arr 7 f) rfl rfl rfl rfl ?_
  refine rl_y (y_assign rfl rfl) rfl ?_
  refine rl_end (ρ' := [(1, _), (2, _)]) ⟨rfl, rfl, trivial⟩ ?_
  refine q_then ?_
  refine wc_seq ?_
  refine wc_region ?_
  refine rl_y (y_assign rfl rfl) rfl ?_
  refine rl_end (ρ' := [(1, _), (2, _), (5, _)]) ⟨rfl, rfl, rfl, trivial⟩ ?_
  refine q_then ?_
  refine wc_seq ?_
  refine wc_seq ?_
  refine wc_region ?_
  refine rl_y (y_assign rfl rfl) rfl ?_
  refine rl_end (ρ' := [(1, _), (2, _), (5, _), (6, _)]) ⟨rfl, rfl, rfl, rfl, trivial⟩ ?_
  refine q_then ?_
  refine wc_block ?_
  refine wc_loop (fun m ρ σ u' => ∃ i : Nat, i + m = l ∧ VLe u u' ∧ σ = [(2, (none, .box (arr 7 f)))] ∧ ρ = [(1, .v (.int .i64 l)), (2, .p 2 0), (5, .v (str (valF f i))), (6, .v (.int .i64 (i + 1 : Nat)))] ∧ (u = u')) (l) ?_ ?_
  ·
    refine ⟨[(1, _), (2, _), (5, _), (6, _)], [(2, _)], ⟨rfl, rfl, rfl, rfl, trivial⟩, ⟨rfl, trivial⟩, 0, by omega, VLe.refl _, (by first | rfl | simp), (by first | rfl | (simp only [List.cons.injEq, Prod.mk.injEq, SV.v.injEq, Value.int.injEq, true_and, and_true]; omega) | simp), ?_⟩
    rfl
  ·
    rintro m ρ σ u' ⟨i, hi3, hle3, rfl, rfl, rfl⟩
    refine wc_seq ?_
    refine wc_seq ?_
    refine wc_region ?_
    refine rl_y (y_move rfl rfl) rfl ?_
    refine rl_y (y_move rfl rfl) rfl ?_
    refine rl_y (y_leq rfl rfl rfl) rfl ?_
    refine rl_end (ρ' := [(1, _), (2, _), (5, _), (6, _), (9, _)]) ⟨rfl, rfl, rfl, rfl, rfl, trivial⟩ ?_
    refine q_then ?_
    refine wc_cond rfl (fun hb3 => ?_) (fun hb3 => ?_)
    ·
      refine wc_skip ?_
      refine q_then ?_
      refine wc_seq ?_
      refine wc_block ?_
      refine wc_seq ?_
      refine wc_seq ?_
      have hlt := of_decide_eq_true hb3
      have hvl := valF_len hf i
      have hdl := dec_len10 5 (f (i + 1)) (by have := hf (i + 1); omega)
      have hfi := hf (i + 1)
      refine wc_region ?_
      refine rl_y (y_move rfl rfl) rfl ?_
      refine rl_y (y_gtr rfl rfl rfl) rfl ?_
      refine rl_end (ρ' := [(1, _), (2, _), (5, _), (6, _), (13, _)]) ⟨rfl, rfl, rfl, rfl, rfl, trivial⟩ ?_
      refine q_then ?_
      refine wc_cond rfl (fun hb5 => ?_) (fun hb5 => ?_)
      ·
        have h5 := of_decide_eq_true hb5
        refine wc_region ?_
        refine rl_y (y_move rfl rfl) rfl ?_
        refine rl_y (y_str_add rfl rfl rfl (by first | omega | (simp; omega))) rfl ?_
        refine rl_y (y_assign rfl rfl) rfl ?_
        refine rl_end (ρ' := [(1, _), (2, _), (5, _), (6, _)]) ⟨rfl, rfl, rfl, rfl, trivial⟩ ?_
        refine q_then ?_
        refine wc_region ?_
        refine rl_y (y_move rfl rfl) rfl ?_
        refine rl_y (y_move rfl rfl) rfl ?_
        refine rl_y (y_index_p rfl Tryd.a69 rfl rfl (by first | rfl | omega) (by omega)) rfl ?_
        refine rl_y (y_load_p rfl Tryd.k3 rfl rfl rfl (cut_arr (i := i + 1) (by omega) (by omega)) rfl rfl) rfl ?_
        refine rl_do rfl rfl ?_
        refine do_call_f (caps := []) trivial rfl rfl Tryd.c35 rfl (FnP.mono (num_fn _ (by omega) _) ?_)
        rintro v u1 hle1 rfl
        refine rl_y (y_str_add rfl rfl rfl (by first | omega | (simp; omega))) rfl ?_
        refine rl_y (y_assign rfl rfl) rfl ?_
        refine rl_end (ρ' := [(1, _), (2, _), (5, _), (6, _)]) ⟨rfl, rfl, rfl, rfl, trivial⟩ ?_
        refine q_block ?_
        refine q_then ?_
        refine wc_region ?_
        refine rl_y (y_move rfl rfl) rfl ?_
        refine rl_y (y_add rfl rfl rfl (wrap64_id (by omega))) rfl ?_
        refine rl_y (y_assign rfl rfl) rfl ?_
        refine rl_end (ρ' := [(1, _), (2, _), (5, _), (6, _)]) ⟨rfl, rfl, rfl, rfl, trivial⟩ ?_
        refine q_thenK ?_
        refine ⟨m - 1, [(1, _), (2, _), (5, _), (6, _)], [(2, _)], by omega, ⟨rfl, rfl, rfl, rfl, trivial⟩, ⟨rfl, trivial⟩, i + 1, by omega, hle3, rfl, (by first | (rw [valF_succ f (by omega)]; done) | (rw [valF_succ f (by omega)]; rfl) | (have e : valF f (i + 1) = valF f i ++ dec (f (i + 1)) := (by rw [h0]; exact valF_one f); rw [e]; rfl)), ?_⟩
        rfl
      ·
        have h5 := of_decide_eq_false hb5; have h0 : i = 0 := by omega
        refine wc_skip ?_
        refine q_then ?_
        refine wc_region ?_
        refine rl_y (y_move rfl rfl) rfl ?_
        refine rl_y (y_move rfl rfl) rfl ?_
        refine rl_y (y_index_p rfl Tryd.a69 rfl rfl (by first | rfl | omega) (by omega)) rfl ?_
        refine rl_y (y_load_p rfl Tryd.k3 rfl rfl rfl (cut_arr (i := i + 1) (by omega) (by omega)) rfl rfl) rfl ?_
        refine rl_do rfl rfl ?_
        refine do_call_f (caps := []) trivial rfl rfl Tryd.c35 rfl (FnP.mono (num_fn _ (by omega) _) ?_)
        rintro v u1 hle1 rfl
        refine rl_y (y_str_add rfl rfl rfl (by first | omega | (simp; omega))) rfl ?_
        refine rl_y (y_assign rfl rfl) rfl ?_
        refine rl_end (ρ' := [(1, _), (2, _), (5, _), (6, _)]) ⟨rfl, rfl, rfl, rfl, trivial⟩ ?_
        refine q_block ?_
        refine q_then ?_
        refine wc_region ?_
        refine rl_y (y_move rfl rfl) rfl ?_
        refine rl_y (y_add rfl rfl rfl (wrap64_id (by omega))) rfl ?_
        refine rl_y (y_assign rfl rfl) rfl ?_
        refine rl_end (ρ' := [(1, _), (2, _), (5, _), (6, _)]) ⟨rfl, rfl, rfl, rfl, trivial⟩ ?_
        refine q_thenK ?_
        refine ⟨m - 1, [(1, _), (2, _), (5, _), (6, _)], [(2, _)], by omega, ⟨rfl, rfl, rfl, rfl, trivial⟩, ⟨rfl, trivial⟩, i + 1, by omega, hle3, rfl, (by first | (rw [valF_succ f (by omega)]; done) | (rw [valF_succ f (by omega)]; rfl) | (have e : valF f (i + 1) = valF f i ++ dec (f (i + 1)) := (by rw [h0]; exact valF_one f); rw [e]; rfl)), ?_⟩
        rfl
    ·
      refine wc_exit ?_
      refine q_then_exit ?_
      refine q_then_exit ?_
      refine q_block_hit ?_
      refine q_then ?_
      refine wc_seq ?_
      refine wc_region ?_
      refine rl_y (y_move rfl rfl) rfl ?_
      refine rl_y (y_assign rfl rfl) rfl ?_
      refine rl_end (ρ' := [(4, _)]) ⟨rfl, trivial⟩ ?_
      refine q_then ?_
      refine wc_ret ?_
      refine fin1 (.tmp rfl) ?_
      have hge := of_decide_eq_false hb3
      have hil : i = l := by omega
      rw [hil]
end Go.Proofs.Ythnboadnehbciaa
