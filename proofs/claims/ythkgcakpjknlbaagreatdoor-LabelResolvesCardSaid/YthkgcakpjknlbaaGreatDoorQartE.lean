/- Texts for a law, part 5: they walk the functions that the law reaches, and state what holds of them; without conditions beyond each theorem's own. -/
import Derived.Test.YthkgcakpjknlbaaGreatDoorQartD
namespace Go.Proofs.Ythkgcakpjknlbaa
open Go Go.Eng
set_option linter.unusedSimpArgs false
set_option linter.unusedVariables false
set_option maxRecDepth 4000
def ctrF (f : Nat → Nat) (l : Nat) : Nat → Nat := fun j => if j = 0 then f j else if j < l then max (f j) 1 else if j = l then f j + 1 else 0
def preF (f : Nat → Nat) (i : Nat) : Nat → Nat := fun j => if j ≠ 0 ∧ j < i then max (f j) 1 else f j
def midF (f : Nat → Nat) (l i : Nat) : Nat → Nat := fun j => if l < j ∧ j < i then 0 else setF (preF f l) l (f l + 1) j
theorem pre_zero (f : Nat → Nat) : arr 7 f = arr 7 (preF f 1) := arr_congr fun j _ => by unfold preF; rw [if_neg (by omega)]
theorem pre_set {f : Nat → Nat} {i : Nat} (h : f (i + 1) = 0) (hi : i + 1 < 7) : setAt (arr 7 (preF f (i + 1))) (0 + (i + 1) * 1) [.int .i64 1] = arr 7 (preF f (i + 1 + 1)) := by
 refine (set_arr (i := i + 1) (v := 1) hi (by omega)).trans (arr_congr fun j hj => ?_)
 unfold setF preF
 by_cases e : j = i + 1
 ·
  subst e; rw [if_pos rfl, if_pos (by omega), h]; rfl
 ·
  rw [if_neg e]
  by_cases e2 : j ≠ 0 ∧ j < i + 1
  ·
   rw [if_pos e2, if_pos (by omega)]
  ·
   rw [if_neg e2, if_neg (by omega)]
theorem pre_keep {f : Nat → Nat} {i : Nat} (h : ¬ f (i + 1) = 0) : arr 7 (preF f (i + 1)) = arr 7 (preF f (i + 1 + 1)) := by
 refine arr_congr fun j hj => ?_
 unfold preF
 by_cases e2 : j ≠ 0 ∧ j < i + 1
 ·
  rw [if_pos e2, if_pos (by omega)]
 ·
  rw [if_neg e2]
  by_cases e : j = i + 1
  ·
   subst e; rw [if_pos (by omega)]; omega
  ·
   rw [if_neg (by omega)]
theorem mid_zero (f : Nat → Nat) (l : Nat) : arr 7 (setF (preF f l) l (f l + 1)) = arr 7 (midF f l (l + 1)) := arr_congr fun j _ => by unfold midF; rw [if_neg (by omega)]
theorem mid_set {f : Nat → Nat} {l i : Nat} (hi : l + 1 + i < 7) : setAt (arr 7 (midF f l (l + 1 + i))) (0 + (l + 1 + i) * 1) [.int .i64 0] = arr 7 (midF f l (l + 1 + (i + 1))) := by
 refine (set_arr (i := l + 1 + i) (v := 0) hi (by omega)).trans (arr_congr fun j hj => ?_)
 unfold midF
 by_cases e : j = l + 1 + i
 ·
  subst e; rw [if_pos (by omega)]; simp [setF]
 ·
  by_cases e2 : l < j ∧ j < l + 1 + i
  ·
   rw [if_pos (by omega)]; simp [setF, e, e2]
  ·
   rw [if_neg (by omega)]; unfold setF; rw [if_neg e]; exact if_neg e2
theorem mid_end {f : Nat → Nat} {l : Nat} (h1 : 1 ≤ l) : arr 7 (midF f l 7) = arr 7 (ctrF f l) := by
 refine arr_congr fun j hj => ?_
 unfold midF ctrF setF preF
 by_cases e : j = 0
 ·
  rw [if_neg (by omega), if_neg (by omega), if_neg (by omega), if_pos e]
 ·
  rw [if_neg e]
  by_cases e1 : j < l
  ·
   rw [if_neg (by omega), if_neg (by omega), if_pos (by omega), if_pos e1]
  ·
   rw [if_neg e1]
   by_cases e2 : j = l
   ·
    subst e2; rw [if_neg (by omega), if_pos rfl, if_pos rfl]
   ·
    rw [if_pos (by omega), if_neg e2]
abbrev zero7 : List Value := [.int .i64 0, .int .i64 0, .int .i64 0, .int .i64 0, .int .i64 0, .int .i64 0, .int .i64 0]
theorem counters7_fn (f : Nat → Nat) (l : Nat) (h1 : 1 ≤ l) (h6 : l ≤ 6) (hf : ∀ j, f j ≤ 1000000) (u : View) :
  FnP Tryz.prog 87 [.agg (arr 7 f).toArray, .int .i64 l] u fun r _ => r = .agg (arr 7 (ctrF f l)).toArray := by
 refine FnP.intro [.cell 4 105] Tryz.func87 rfl rfl rfl ?_
 intro w0 D hw0
 refine wc_seq ?_
 refine wc_region ?_
 refine rl_do rfl rfl ?_
 refine do_box trivial rfl (cs := arr 7 f) rfl rfl rfl rfl ?_
 refine rl_do rfl rfl ?_
 refine do_alloc trivial Tryz.z105 rfl rfl rfl ?_
 refine rl_end (ρ' := [(1, _), (2, _), (4, _)]) ⟨rfl, rfl, rfl, trivial⟩ ?_
 refine q_then ?_
 refine wc_seq ?_
 refine wc_seq ?_
 refine wc_region ?_
 refine ya rfl rfl ?_
 refine rl_end (ρ' := [(1, _), (2, _), (4, _), (5, _)]) ⟨rfl, rfl, rfl, rfl, trivial⟩ ?_
 refine q_then ?_
 refine wc_block ?_
 refine wc_loop (fun m ρ σ u' => ∃ i : Nat, i + m = l - 1 ∧ VLe u u' ∧ σ = [(2, (none, .box (arr 7 (preF f (i + 1))))), (4, (none, .box zero7))] ∧ ρ = [(1, .v (.int .i64 l)), (2, .p 2 0), (4, .p 4 0), (5, .v (.int .i64 (i + 1 : Nat)))] ∧ (u = u')) (l - 1) ?_ ?_
 ·
  refine ⟨[(1, _), (2, _), (4, _), (5, _)], [(2, _), (4, _)], ⟨rfl, rfl, rfl, rfl, trivial⟩, ⟨rfl, rfl, trivial⟩, 0, by omega, VLe.refl _, (by rw [pre_zero f]), rfl, ?_⟩
  rfl
 ·
  rintro m ρ σ u' ⟨i, hi2, hle2, rfl, rfl, rfl⟩
  refine wc_seq ?_
  refine wc_seq ?_
  refine wc_region ?_
  refine ym rfl rfl ?_
  refine ym rfl rfl ?_
  refine rl_y (y_lss rfl rfl rfl) rfl ?_
  refine rl_end (ρ' := [(1, _), (2, _), (4, _), (5, _), (9, _)]) ⟨rfl, rfl, rfl, rfl, rfl, trivial⟩ ?_
  refine q_then ?_
  refine wc_cond rfl (fun hb2 => ?_) (fun hb2 => ?_)
  ·
   refine wc_skip ?_
   refine q_then ?_
   refine wc_seq ?_
   refine wc_block ?_
   refine wc_seq ?_
   have hlt := of_decide_eq_true hb2
   refine wc_region ?_
   refine ym rfl rfl ?_
   refine rl_y (y_index_p rfl Tryz.a105 rfl rfl (by first | rfl | omega) (by omega)) rfl ?_
   refine rl_y (y_load_p rfl Tryz.k3 rfl rfl rfl (cut_arr (i := i + 1) (by omega) (by omega)) rfl rfl) rfl ?_
   have hpl : preF f (i + 1) (i + 1) = f (i + 1) := by unfold preF; rw [if_neg (by omega)]
   refine rl_y (y_eql rfl rfl rfl) rfl ?_
   refine rl_end (ρ' := [(1, _), (2, _), (4, _), (5, _), (15, _)]) ⟨rfl, rfl, rfl, rfl, rfl, trivial⟩ ?_
   refine q_then ?_
   refine wc_cond rfl (fun hb4 => ?_) (fun hb4 => ?_)
   ·
    have h4 := of_decide_eq_true hb4
    refine wc_region ?_
    refine ym rfl rfl ?_
    refine rl_y (y_index_p rfl Tryz.a105 rfl rfl (by first | rfl | omega) (by omega)) rfl ?_
    refine rl_do rfl rfl ?_
    refine do_store_p trivial rfl Tryz.k3 rfl rfl rfl (vs := [_]) rfl rfl (by first | rfl | assumption | simp [Value.oneCell', str]) (by simp [arr_len]; omega) rfl ?_
    refine rl_end (ρ' := [(1, _), (2, _), (4, _), (5, _)]) ⟨rfl, rfl, rfl, rfl, trivial⟩ ?_
    refine q_block ?_
    refine q_then ?_
    refine wc_region ?_
    refine ym rfl rfl ?_
    refine rl_y (y_add rfl rfl rfl (wrap64_id (by omega))) rfl ?_
    refine ya rfl rfl ?_
    refine rl_end (ρ' := [(1, _), (2, _), (4, _), (5, _)]) ⟨rfl, rfl, rfl, rfl, trivial⟩ ?_
    refine q_thenK ?_
    refine ⟨m - 1, [(1, _), (2, _), (4, _), (5, _)], [(2, _), (4, _)], by omega, ⟨rfl, rfl, rfl, rfl, trivial⟩, ⟨rfl, rfl, trivial⟩, i + 1, by omega, hle2, (by first | (rw [pre_set (by omega) (by omega)]; done) | (rw [pre_keep (by omega)]; done)), (by first | rfl | simp), ?_⟩
    rfl
   ·
    have h4 := of_decide_eq_false hb4
    refine wc_skip ?_
    refine q_block ?_
    refine q_then ?_
    refine wc_region ?_
    refine ym rfl rfl ?_
    refine rl_y (y_add rfl rfl rfl (wrap64_id (by omega))) rfl ?_
    refine ya rfl rfl ?_
    refine rl_end (ρ' := [(1, _), (2, _), (4, _), (5, _)]) ⟨rfl, rfl, rfl, rfl, trivial⟩ ?_
    refine q_thenK ?_
    refine ⟨m - 1, [(1, _), (2, _), (4, _), (5, _)], [(2, _), (4, _)], by omega, ⟨rfl, rfl, rfl, rfl, trivial⟩, ⟨rfl, rfl, trivial⟩, i + 1, by omega, hle2, (by first | (rw [pre_set (by omega) (by omega)]; done) | (rw [pre_keep (by omega)]; done)), (by first | rfl | simp), ?_⟩
    rfl
  ·
   refine wc_exit ?_
   refine q_then_exit ?_
   refine q_then_exit ?_
   refine q_block_hit ?_
   refine q_then ?_
   refine wc_seq ?_
   have hge := of_decide_eq_false hb2
   have hil : i + 1 = l := by omega
   subst hil
   have hfl := hf (i + 1)
   have hpl : preF f (i + 1) (i + 1) = f (i + 1) := by unfold preF; rw [if_neg (by omega)]
   refine wc_region ?_
   refine ym rfl rfl ?_
   refine rl_y (y_index_p rfl Tryz.a105 rfl rfl (by first | rfl | omega) (by omega)) rfl ?_
   refine rl_y (y_load_p rfl Tryz.k3 rfl rfl rfl (cut_arr (i := i + 1) (by omega) (by omega)) rfl rfl) rfl ?_
   rw [hpl]
   refine rl_y (y_add rfl rfl rfl (wrap64_id (by omega))) rfl ?_
   refine rl_y (y_index_p rfl Tryz.a105 rfl rfl (by first | rfl | omega) (by omega)) rfl ?_
   refine rl_do rfl rfl ?_
   refine do_store_p trivial rfl Tryz.k3 rfl rfl rfl (vs := [_]) rfl rfl (by first | rfl | assumption | simp [Value.oneCell', str]) (by simp [arr_len]; omega) rfl ?_
   refine rl_end (ρ' := [(1, _), (2, _), (4, _)]) ⟨rfl, rfl, rfl, trivial⟩ ?_
   refine q_then ?_
   refine wc_seq ?_
   refine wc_seq ?_
   refine wc_region ?_
   refine ym rfl rfl ?_
   refine rl_y (y_add rfl rfl rfl (wrap64_id (by omega))) rfl ?_
   refine ya rfl rfl ?_
   refine rl_end (ρ' := [(2, _), (4, _), (6, _)]) ⟨rfl, rfl, rfl, trivial⟩ ?_
   refine q_then ?_
   refine wc_block ?_
   refine wc_loop (fun m ρ σ u' => ∃ n : Nat, n + m = 6 - (i + 1) ∧ VLe u u' ∧ σ = [(2, (none, .box (arr 7 (midF f (i + 1) (i + 1 + 1 + n))))), (4, (none, .box zero7))] ∧ ρ = [(2, .p 2 0), (4, .p 4 0), (6, .v (.int .i64 (i + 1 + 1 + n : Nat)))] ∧ (u = u')) (6 - (i + 1)) ?_ ?_
   ·
    refine ⟨[(2, _), (4, _), (6, _)], [(2, _), (4, _)], ⟨rfl, rfl, rfl, trivial⟩, ⟨rfl, rfl, trivial⟩, 0, by omega, VLe.refl _, (by rw [show (Value.int .i64 ((f (i + 1) : Int) + 1)) = .int .i64 ((f (i + 1) + 1 : Nat) : Int) from rfl, set_arr (i := i + 1) (by omega) (by omega), mid_zero]), (by first | rfl | simp), ?_⟩
    rfl
   ·
    rintro mn ρ σ u' ⟨n, hi8, hle8, rfl, rfl, rfl⟩
    refine wc_seq ?_
    refine wc_seq ?_
    refine wc_region ?_
    refine ym rfl rfl ?_
    refine rl_y (y_leq rfl rfl rfl) rfl ?_
    refine rl_end (ρ' := [(2, _), (4, _), (6, _), (26, _)]) ⟨rfl, rfl, rfl, rfl, trivial⟩ ?_
    refine q_then ?_
    refine wc_cond rfl (fun hb8 => ?_) (fun hb8 => ?_)
    ·
     refine wc_skip ?_
     refine q_then ?_
     refine wc_seq ?_
     refine wc_block ?_
     have hlt8 := of_decide_eq_true hb8
     refine wc_region ?_
     refine ym rfl rfl ?_
     refine rl_y (y_index_p rfl Tryz.a105 rfl rfl (by first | rfl | omega) (by omega)) rfl ?_
     refine rl_do rfl rfl ?_
     refine do_store_p trivial rfl Tryz.k3 rfl rfl rfl (vs := [_]) rfl rfl (by first | rfl | assumption | simp [Value.oneCell', str]) (by simp [arr_len]; omega) rfl ?_
     refine rl_end (ρ' := [(2, _), (4, _), (6, _)]) ⟨rfl, rfl, rfl, trivial⟩ ?_
     refine q_block ?_
     refine q_then ?_
     refine wc_region ?_
     refine ym rfl rfl ?_
     refine rl_y (y_add rfl rfl rfl (wrap64_id (by omega))) rfl ?_
     refine ya rfl rfl ?_
     refine rl_end (ρ' := [(2, _), (4, _), (6, _)]) ⟨rfl, rfl, rfl, trivial⟩ ?_
     refine q_thenK ?_
     refine ⟨mn - 1, [(2, _), (4, _), (6, _)], [(2, _), (4, _)], by omega, ⟨rfl, rfl, rfl, trivial⟩, ⟨rfl, rfl, trivial⟩, n + 1, by omega, hle8, (by rw [mid_set (by omega)]), (by first | rfl | (simp; omega)), ?_⟩
     rfl
    ·
     refine wc_exit ?_
     refine q_then_exit ?_
     refine q_then_exit ?_
     refine q_block_hit ?_
     refine q_then ?_
     refine wc_seq ?_
     have hge8 := of_decide_eq_false hb8
     rw [show i + 1 + 1 + n = 7 by omega, mid_end (by omega)]
     refine wc_region ?_
     refine rl_y (y_load_p rfl Tryz.k105 rfl rfl rfl (vs := [_, _, _, _, _, _, _]) rfl rfl rfl) rfl ?_
     refine rl_do rfl rfl ?_
     refine do_store_p trivial rfl Tryz.k105 rfl rfl rfl (vs := [_, _, _, _, _, _, _]) rfl rfl (by first | rfl | assumption | simp [Value.oneCell', str]) (Nat.le_of_ble_eq_true rfl) rfl ?_
     refine rl_end (ρ' := [(4, _)]) ⟨rfl, trivial⟩ ?_
     refine q_then ?_
     refine wc_ret ?_
     refine fin1 (.cell rfl rfl Tryz.k105 (cs := _) (vs := [_, _, _, _, _, _, _]) rfl rfl rfl) ?_
     rfl
def valF (f : Nat → Nat) (l : Nat) : Bs := dots ((List.range l).map fun j => f (j + 1))
theorem valF_one (f : Nat → Nat) : valF f 1 = dec (f 1) := dots_one _
theorem valF_succ (f : Nat → Nat) {i : Nat} (h : i ≠ 0) : valF f (i + 1) = valF f i ++ [46] ++ dec (f (i + 1)) := by
 unfold valF
 rw [List.range_succ, List.map_append, List.map_singleton, dots_snoc _ _ (by simp; omega)]
theorem valF_len {f : Nat → Nat} (hf : ∀ j, f j ≤ 100000) (l : Nat) : (valF f l).length ≤ l * 7 := by
 have := dots_len ((List.range l).map fun j => f (j + 1)) 6 (fun c hc => by
  obtain ⟨j, _, rfl⟩ := List.mem_map.1 hc
  exact dec_len10 5 _ (by have := hf (j + 1); omega))
 simpa [valF] using this
theorem value_fn (f : Nat → Nat) (l : Nat) (h6 : l ≤ 6) (hf : ∀ j, f j ≤ 100000) (u : View) :
  FnP Tryz.prog 88 [.agg (arr 7 f).toArray, .int .i64 l] u fun r _ => r = str (valF f l) := by
 refine FnP.intro [.tmp 4] Tryz.func88 rfl rfl rfl ?_
 intro w0 D hw0
 refine wc_seq ?_
 refine wc_region ?_
 refine rl_do rfl rfl ?_
 refine do_box trivial rfl (cs := arr 7 f) rfl rfl rfl rfl ?_
 refine ya rfl rfl ?_
 refine rl_end (ρ' := [(1, _), (2, _)]) ⟨rfl, rfl, trivial⟩ ?_
 refine q_then ?_
 refine wc_seq ?_
 refine wc_region ?_
 refine ya rfl rfl ?_
 refine rl_end (ρ' := [(1, _), (2, _), (5, _)]) ⟨rfl, rfl, rfl, trivial⟩ ?_
 refine q_then ?_
 refine wc_seq ?_
 refine wc_seq ?_
 refine wc_region ?_
 refine ya rfl rfl ?_
 refine rl_end (ρ' := [(1, _), (2, _), (5, _), (6, _)]) ⟨rfl, rfl, rfl, rfl, trivial⟩ ?_
 refine q_then ?_
 refine wc_block ?_
 refine wc_loop (fun m ρ σ u' => ∃ i : Nat, i + m = l ∧ VLe u u' ∧ σ = [(2, (none, .box (arr 7 f)))] ∧ ρ = [(1, .v (.int .i64 l)), (2, .p 2 0), (5, .v (str (valF f i))), (6, .v (.int .i64 (i + 1 : Nat)))] ∧ (u = u')) (l) ?_ ?_
 ·
  refine ⟨[(1, _), (2, _), (5, _), (6, _)], [(2, _)], ⟨rfl, rfl, rfl, rfl, trivial⟩, ⟨rfl, trivial⟩, 0, by omega, VLe.refl _, (by first | rfl | simp), (by first | rfl | (simp only [List.cons.injEq, Prod.mk.injEq, SV.v.injEq, Value.int.injEq, true_and, and_true]; omega) | simp), ?_⟩
  rfl
 ·
  rintro m ρ σ u' ⟨i, hi3, hle3, rfl, rfl, rfl⟩
  refine wc_seq ?_
  refine wc_seq ?_
  refine wc_region ?_
  refine ym rfl rfl ?_
  refine ym rfl rfl ?_
  refine rl_y (y_leq rfl rfl rfl) rfl ?_
  refine rl_end (ρ' := [(1, _), (2, _), (5, _), (6, _), (9, _)]) ⟨rfl, rfl, rfl, rfl, rfl, trivial⟩ ?_
  refine q_then ?_
  refine wc_cond rfl (fun hb3 => ?_) (fun hb3 => ?_)
  ·
   refine wc_skip ?_
   refine q_then ?_
   refine wc_seq ?_
   refine wc_block ?_
   refine wc_seq ?_
   refine wc_seq ?_
   have hlt := of_decide_eq_true hb3
   have hvl := valF_len hf i
   have hdl := dec_len10 5 (f (i + 1)) (by have := hf (i + 1); omega)
   have hfi := hf (i + 1)
   refine wc_region ?_
   refine ym rfl rfl ?_
   refine rl_y (y_gtr rfl rfl rfl) rfl ?_
   refine rl_end (ρ' := [(1, _), (2, _), (5, _), (6, _), (13, _)]) ⟨rfl, rfl, rfl, rfl, rfl, trivial⟩ ?_
   refine q_then ?_
   refine wc_cond rfl (fun hb5 => ?_) (fun hb5 => ?_)
   ·
    have h5 := of_decide_eq_true hb5
    refine wc_region ?_
    refine ym rfl rfl ?_
    refine rl_y (y_str_add rfl rfl rfl (by first | omega | (simp; omega))) rfl ?_
    refine ya rfl rfl ?_
    refine rl_end (ρ' := [(1, _), (2, _), (5, _), (6, _)]) ⟨rfl, rfl, rfl, rfl, trivial⟩ ?_
    refine q_then ?_
    refine wc_region ?_
    refine ym rfl rfl ?_
    refine ym rfl rfl ?_
    refine rl_y (y_index_p rfl Tryz.a105 rfl rfl (by first | rfl | omega) (by omega)) rfl ?_
    refine rl_y (y_load_p rfl Tryz.k3 rfl rfl rfl (cut_arr (i := i + 1) (by omega) (by omega)) rfl rfl) rfl ?_
    refine rl_do rfl rfl ?_
    refine do_call_f (caps := []) trivial rfl rfl Tryz.c67 rfl (FnP.mono (num_fn _ (by omega) _) ?_)
    rintro v u1 hle1 rfl
    refine rl_y (y_str_add rfl rfl rfl (by first | omega | (simp; omega))) rfl ?_
    refine ya rfl rfl ?_
    refine rl_end (ρ' := [(1, _), (2, _), (5, _), (6, _)]) ⟨rfl, rfl, rfl, rfl, trivial⟩ ?_
    refine q_block ?_
    refine q_then ?_
    refine wc_region ?_
    refine ym rfl rfl ?_
    refine rl_y (y_add rfl rfl rfl (wrap64_id (by omega))) rfl ?_
    refine ya rfl rfl ?_
    refine rl_end (ρ' := [(1, _), (2, _), (5, _), (6, _)]) ⟨rfl, rfl, rfl, rfl, trivial⟩ ?_
    refine q_thenK ?_
    refine ⟨m - 1, [(1, _), (2, _), (5, _), (6, _)], [(2, _)], by omega, ⟨rfl, rfl, rfl, rfl, trivial⟩, ⟨rfl, trivial⟩, i + 1, by omega, hle3, rfl, (by first | (rw [valF_succ f (by omega)]; done) | (rw [valF_succ f (by omega)]; rfl) | (have e : valF f (i + 1) = valF f i ++ dec (f (i + 1)) := (by rw [h0]; exact valF_one f); rw [e]; rfl)), ?_⟩
    rfl
   ·
    have h5 := of_decide_eq_false hb5; have h0 : i = 0 := by omega
    refine wc_skip ?_
    refine q_then ?_
    refine wc_region ?_
    refine ym rfl rfl ?_
    refine ym rfl rfl ?_
    refine rl_y (y_index_p rfl Tryz.a105 rfl rfl (by first | rfl | omega) (by omega)) rfl ?_
    refine rl_y (y_load_p rfl Tryz.k3 rfl rfl rfl (cut_arr (i := i + 1) (by omega) (by omega)) rfl rfl) rfl ?_
    refine rl_do rfl rfl ?_
    refine do_call_f (caps := []) trivial rfl rfl Tryz.c67 rfl (FnP.mono (num_fn _ (by omega) _) ?_)
    rintro v u1 hle1 rfl
    refine rl_y (y_str_add rfl rfl rfl (by first | omega | (simp; omega))) rfl ?_
    refine ya rfl rfl ?_
    refine rl_end (ρ' := [(1, _), (2, _), (5, _), (6, _)]) ⟨rfl, rfl, rfl, rfl, trivial⟩ ?_
    refine q_block ?_
    refine q_then ?_
    refine wc_region ?_
    refine ym rfl rfl ?_
    refine rl_y (y_add rfl rfl rfl (wrap64_id (by omega))) rfl ?_
    refine ya rfl rfl ?_
    refine rl_end (ρ' := [(1, _), (2, _), (5, _), (6, _)]) ⟨rfl, rfl, rfl, rfl, trivial⟩ ?_
    refine q_thenK ?_
    refine ⟨m - 1, [(1, _), (2, _), (5, _), (6, _)], [(2, _)], by omega, ⟨rfl, rfl, rfl, rfl, trivial⟩, ⟨rfl, trivial⟩, i + 1, by omega, hle3, rfl, (by first | (rw [valF_succ f (by omega)]; done) | (rw [valF_succ f (by omega)]; rfl) | (have e : valF f (i + 1) = valF f i ++ dec (f (i + 1)) := (by rw [h0]; exact valF_one f); rw [e]; rfl)), ?_⟩
    rfl
  ·
   refine wc_exit ?_
   refine q_then_exit ?_
   refine q_then_exit ?_
   refine q_block_hit ?_
   refine q_then ?_
   refine wc_seq ?_
   refine wc_region ?_
   refine ym rfl rfl ?_
   refine ya rfl rfl ?_
   refine rl_end (ρ' := [(4, _)]) ⟨rfl, trivial⟩ ?_
   refine q_then ?_
   refine wc_ret ?_
   refine fin1 (.tmp rfl) ?_
   have hge := of_decide_eq_false hb3
   have hil : i = l := by omega
   rw [hil]
structure Cs where
 f : Nat → Nat
 g : Nat → Nat
 out : List DNum
def clampL (lv : Int) : Nat := if lv < 1 then 1 else if 6 < lv then 6 else lv.toNat
theorem clampL_le (lv : Int) : 1 ≤ clampL lv ∧ clampL lv ≤ 6 := by
 unfold clampL
 by_cases h : lv < 1
 ·
  rw [if_pos h]; omega
 ·
  rw [if_neg h]
  by_cases h6 : 6 < lv
  ·
   rw [if_pos h6]; omega
  ·
   rw [if_neg h6]; omega
def kindS (n : Nat) : Bs := if n = 1 then figS else if n = 2 then tabS else equS
def headStep (free : Bool) (k lv : Int) (a : DAttr) (line : List Inl) (x : Cs) : Cs :=
 if k = 2 ∧ free = true then ⟨ctrF x.f (clampL lv), x.g, x.out ++ [⟨a.id, secS, valF (ctrF x.f (clampL lv)) (clampL lv), line⟩]⟩ else x
def kindStep (k : Int) (inf : Bs) (a : DAttr) (kids : List Blk) (x : Cs) : Cs :=
 if 0 < kindN k inf a.id then ⟨x.f, setF x.g (kindN k inf a.id) (x.g (kindN k inf a.id) + 1), x.out ++ [⟨a.id, kindS (kindN k inf a.id), dec (x.g (kindN k inf a.id) + 1), capIf k kids⟩]⟩ else x
def kidsFree (free : Bool) (k : Int) : Bool := decide (free = true ∧ k = 13)
mutual
def numb1 (free : Bool) (x : Cs) : Blk → Cs
 | .mk k lv inf t d ti a line kids => numbB (kidsFree free k) (kindStep k inf a kids (headStep free k lv a line x)) kids
def numbB (free : Bool) (x : Cs) : List Blk → Cs
 | [] => x
 | b :: bs => numbB free (numb1 free x b) bs
end
theorem numbB_append (free : Bool) : ∀ (xs ys : List Blk) (x : Cs), numbB free x (xs ++ ys) = numbB free (numbB free x xs) ys
 | [], ys, x => by simp [numbB]
 | b :: xs, ys, x => by rw [List.cons_append]; simp only [numbB, numbB_append free xs ys]
theorem numbB_take {free : Bool} {x : Cs} {bs : List Blk} {i : Nat} {b : Blk} (h : bs[i]? = some b) : numbB free x (bs.take (i + 1)) = numb1 free (numbB free x (bs.take i)) b := by
 obtain ⟨hlt, rfl⟩ := List.getElem?_eq_some_iff.1 h
 rw [List.take_succ_eq_append_getElem hlt, numbB_append]
 simp [numbB]
def CsLe (B : Nat) (x : Cs) : Prop := (∀ j, x.f j ≤ B) ∧ (∀ j, x.g j ≤ B) ∧ x.out.length ≤ 2 * B
theorem CsLe.mono {B C : Nat} {x : Cs} (h : CsLe B x) (hb : B ≤ C) : CsLe C x := ⟨fun j => Nat.le_trans (h.1 j) hb, fun j => Nat.le_trans (h.2.1 j) hb, by have := h.2.2; omega⟩
theorem headStep_le {B : Nat} {free : Bool} {k lv : Int} {a : DAttr} {line : List Inl} {x : Cs} (h : CsLe B x) : CsLe (B + 1) (headStep free k lv a line x) ∧ (headStep free k lv a line x).out.length ≤ 2 * B + 1 := by
 unfold headStep
 split
 ·
  refine ⟨⟨fun j => ?_, fun j => Nat.le_trans (h.2.1 j) (by omega), ?_⟩, ?_⟩
  ·
   have := h.1 j
   show ctrF x.f (clampL lv) j ≤ B + 1
   unfold ctrF
   split
   ·
    omega
   ·
    split
    ·
     omega
    ·
     split <;> omega
  ·
   have := h.2.2; simp; omega
  ·
   have := h.2.2; simp; omega
 ·
  exact ⟨h.mono (by omega), by have := h.2.2; omega⟩
theorem headStep_g {free : Bool} {k lv : Int} {a : DAttr} {line : List Inl} {x : Cs} : (headStep free k lv a line x).g = x.g := by
 unfold headStep; split <;> rfl
theorem kindStep_le {B : Nat} {k : Int} {inf : Bs} {a : DAttr} {kids : List Blk} {x : Cs} (hf : ∀ j, x.f j ≤ B + 1) (hg : ∀ j, x.g j ≤ B) (ho : x.out.length ≤ 2 * B + 1) : CsLe (B + 1) (kindStep k inf a kids x) := by
 unfold kindStep
 split
 ·
  refine ⟨hf, fun j => ?_, by simp; omega⟩
  have h1 := hg j
  have h2 := hg (kindN k inf a.id)
  show setF _ _ _ j ≤ B + 1
  unfold setF
  split <;> omega
 ·
  exact ⟨hf, fun j => Nat.le_trans (hg j) (by omega), by omega⟩
theorem step_le {B : Nat} {free : Bool} {k lv : Int} {inf : Bs} {a : DAttr} {line : List Inl} {kids : List Blk} {x : Cs} (h : CsLe B x) : CsLe (B + 1) (kindStep k inf a kids (headStep free k lv a line x)) := by
 obtain ⟨h1, h2⟩ := headStep_le (free := free) (k := k) (lv := lv) (a := a) (line := line) h
 exact kindStep_le h1.1 (by rw [headStep_g]; exact h.2.1) h2
mutual
theorem numb1_le {free : Bool} : ∀ (b : Blk) (B : Nat) (x : Cs), CsLe B x → CsLe (B + szb b) (numb1 free x b)
 | .mk k lv inf t d ti a line kids, B, x, h => by
  simp only [numb1, szb]
  exact (numbB_le kids (B + 1) _ (step_le h)).mono (by omega)
theorem numbB_le {free : Bool} : ∀ (bs : List Blk) (B : Nat) (x : Cs), CsLe B x → CsLe (B + szB bs) (numbB free x bs)
 | [], B, x, h => by simpa [numbB, szB] using h
 | b :: bs, B, x, h => by
  simp only [numbB, szB]
  exact (numbB_le bs _ _ (numb1_le b B x h)).mono (by omega)
end
abbrev csV (x : Cs) (vo : Value) : List Value := arr 7 x.f ++ (arr 4 x.g ++ [vo])
theorem _root_.Go.Eng.NumsC.snoc {u : View} {xs : List DNum} {cs c : List Value} {x : DNum} (h : NumsC u xs cs) (k : NumC u x c) : NumsC u (xs ++ [x]) (cs ++ c) := h.append (NumsC.one k)
theorem szB_take_get {bs : List Blk} {i : Nat} {b : Blk} (h : bs[i]? = some b) : szB (bs.take i) + szb b ≤ szB bs := by
 obtain ⟨hlt, rfl⟩ := List.getElem?_eq_some_iff.1 h
 have h1 := szB_take_le bs (i + 1)
 rw [List.take_succ_eq_append_getElem hlt, szB_append] at h1
 simp only [szB] at h1
 omega
theorem cut_arr2s {a b i o v : Nat} {f g : Nat → Nat} {r : List Value} (h : i < b) (ho : o = a + i) : cut (arr a f ++ (arr b (setF g i v) ++ r)) o 1 = [.int .i64 (v : Nat)] := by
 rw [cut_arr2 h ho]
 simp [setF]
theorem kindN_le (k : Int) (inf id : Bs) : kindN k inf id ≤ 3 := by
 unfold kindN
 split
 ·
  omega
 ·
  split
  ·
   omega
  ·
   split <;> omega
theorem kindS_cut {n : Nat} (h : 1 ≤ n) (h3 : n ≤ 3) : cut [str [], str figS, str tabS, str equS] (n * 1) 1 = [str (kindS n)] := by
 rcases (show n = 1 ∨ n = 2 ∨ n = 3 by omega) with rfl | rfl | rfl <;> rfl
theorem _root_.Go.Eng.InlS.one {u : View} {v : Value} {l : List Inl} (h : InlS u v l) : Value.oneCell' v = true := by
 obtain ⟨cs, h, _⟩ := h
 exact IsSl.one h
abbrev zero12 : List Value := [.int .i64 0, .int .i64 0, .int .i64 0, .int .i64 0, .int .i64 0, .int .i64 0, .int .i64 0, .int .i64 0, .int .i64 0, .int .i64 0, .int .i64 0, .slice none 0 0]
set_option maxHeartbeats 4000000 in
theorem numbered_fn (n : Nat) : ∀ (v : Value) (bs : List Blk) (free : Bool) (x : Cs) (ao : Option Addr) (co : Nat) (acc : List Value) (B : Nat) (u : View), szB bs ≤ n → B + szB bs ≤ 10000 → CsLe B x → BlkS u v bs → NumsC u x.out acc →
  FnO Tryz.prog 65 [v, .bool free, .agg (csV x (.slice ao x.out.length co)).toArray] u [(none, .rwv (.slice ao x.out.length co) 50 4 x.out.length acc)] fun r u' l' => ∃ ao' co' acc', r = .agg (csV (numbB free x bs) (.slice ao' (numbB free x bs).out.length co')).toArray ∧ l' = [(none, .rwv (.slice ao' (numbB free x bs).out.length co') 50 4 (numbB free x bs).out.length acc')] ∧ NumsC u' (numbB free x bs).out acc' := by
 induction n using Nat.strongRecOn with
 | _ n ih =>
 intro v bs free x ao co acc B u hsz hbig hB ha hn
 have hlx := len_szB bs
 obtain ⟨cs, ⟨ad, cap, rfl, h1⟩, hc1⟩ := ha
 refine FnO.intro [.cell 6 108] Tryz.func65 rfl rfl rfl ?_
 intro w0 D hw0
 refine wc_seq ?_
 refine wc_region ?_
 refine rl_do rfl rfl ?_
 refine do_box trivial rfl (cs := csV x (.slice ao x.out.length co)) rfl rfl rfl rfl ?_
 refine rl_do rfl rfl ?_
 refine do_alloc trivial Tryz.z108 rfl rfl rfl ?_
 refine rl_end (ρ' := [(0, _), (1, _), (5, _), (6, _)]) ⟨rfl, rfl, rfl, rfl, trivial⟩ ?_
 refine q_then ?_
 refine wc_seq ?_
 refine wc_seq ?_
 refine wc_region ?_
 refine ya rfl rfl ?_
 refine rl_end (ρ' := [(0, _), (1, _), (5, _), (6, _), (7, _)]) ⟨rfl, rfl, rfl, rfl, rfl, trivial⟩ ?_
 refine q_then ?_
 refine wc_block ?_
 refine wc_loop (fun m ρ σ u' => ∃ i : Nat, i + m = bs.length ∧ VLe u u' ∧ ∃ (ai : Option Addr) (ci : Nat) (li : List Value), σ = [(5, (none, .box (csV (numbB free x (bs.take i)) (.slice ai (numbB free x (bs.take i)).out.length ci)))), (6, (none, .box zero12)), (1000, (none, .rwv (.slice ai (numbB free x (bs.take i)).out.length ci) 50 4 (numbB free x (bs.take i)).out.length li))] ∧ ρ = [(0, .v (.slice ad bs.length cap)), (1, .v (.bool free)), (5, .p 5 0), (6, .p 6 0), (7, .v (.int .i64 i))] ∧ (NumsC u' (numbB free x (bs.take i)).out li)) (bs.length) ?_ ?_
 ·
  refine ⟨[(0, _), (1, _), (5, _), (6, _), (7, _)], [(5, _), (6, _), (1000, _)], ⟨rfl, rfl, rfl, rfl, rfl, trivial⟩, ⟨rfl, rfl, rfl, trivial⟩, 0, by omega, VLe.refl _, ao, co, acc, (by first | rfl | simp), (by first | rfl | (simp only [List.cons.injEq, Prod.mk.injEq, SV.v.injEq, Value.int.injEq, true_and, and_true]; omega) | simp), ?_⟩
  exact hn
 ·
  rintro m ρ σ u' ⟨i, hi2, hle2, ai, ci, li, rfl, rfl, hai⟩
  refine wc_seq ?_
  refine wc_seq ?_
  refine wc_region ?_
  refine ym rfl rfl ?_
  refine ym rfl rfl ?_
  refine rl_y (y_len_v rfl rfl Tryz.s23 rfl) rfl ?_
  refine rl_y (y_lss rfl rfl rfl) rfl ?_
  refine rl_end (ρ' := [(0, _), (1, _), (5, _), (6, _), (7, _), (14, _)]) ⟨rfl, rfl, rfl, rfl, rfl, rfl, trivial⟩ ?_
  refine q_then ?_
  refine wc_cond rfl (fun hb2 => ?_) (fun hb2 => ?_)
  ·
   refine wc_skip ?_
   refine q_then ?_
   refine wc_seq ?_
   refine wc_block ?_
   refine wc_seq ?_
   have hlt : i < bs.length := by have := of_decide_eq_true hb2; omega
   have h1 := h1.mono hle2
   obtain ⟨k, lv, inf, t, d, ti, a, line, kids, vc, vp, vl, vk, hg, hcut1, s1, s2, s3, s4, hok⟩ := (hc1.mono hle2).at hlt
   have oneAll := ((hc1.mono hle2).get i _ hg).one
   rw [hcut1] at oneAll
   have hX := numbB_le (free := free) (bs.take i) B x hB
   have hst := numbB_take (free := free) (x := x) hg
   have htg := szB_take_get hg
   have hlk := len_szB kids
   simp only [szb] at htg
   rw [numb1] at hst
   generalize numbB free x (bs.take i) = X at hX hst hai ⊢
   have hcl := clampL_le lv
   have hXf := fun j => hX.1 j
   have hXg := fun j => hX.2.1 j
   have hXo := hX.2.2
   have s3' := s3
   obtain ⟨lls, ⟨lad, lcap, rfl, hls⟩, hlc⟩ := s3'
   refine wc_region ?_
   refine ym rfl rfl ?_
   refine ym rfl rfl ?_
   refine rl_y (y_index_e rfl Tryz.s23 rfl rfl (by assumption) (by first | rfl | omega) (by omega)) rfl ?_
   refine rl_y (y_load_el rfl Tryz.k59 rfl (by assumption) (by omega) (by assumption) (vs := [_, _, _, _, _, _, _, _, _, _, _]) rfl rfl rfl rfl) rfl ?_
   refine rl_do rfl rfl ?_
   refine do_alloc trivial Tryz.z59 rfl rfl rfl ?_
   refine rl_do rfl rfl ?_
   refine do_store_p trivial rfl Tryz.k59 rfl rfl rfl (vs := [_, _, _, _, _, _, _, _, _, _, _]) rfl rfl (by first | rfl | assumption | simp [Value.oneCell', str]) (Nat.le_of_ble_eq_true rfl) rfl ?_
   refine rl_end (ρ' := [(0, _), (1, _), (5, _), (6, _), (7, _), (8, _)]) ⟨rfl, rfl, rfl, rfl, rfl, rfl, trivial⟩ ?_
   refine q_then ?_
   refine wc_cut (fun ρ σ uc13 => ∃ (a3 : Option Addr) (c3 : Nat) (l3 : List Value), VLe u' uc13 ∧ σ = [(5, (none, .box (csV (headStep free k lv a line X) (.slice a3 (headStep free k lv a line X).out.length c3)))), (6, (none, .box zero12)), (8, (none, .box (blkV k lv inf t d ti a.id vc vp (.slice lad line.length lcap) vk))), (1000, (none, .rwv (.slice a3 (headStep free k lv a line X).out.length c3) 50 4 (headStep free k lv a line X).out.length l3))] ∧ ρ = [(0, .v (.slice ad bs.length cap)), (1, .v (.bool free)), (5, .p 5 0), (6, .p 6 0), (7, .v (.int .i64 i)), (8, .p 8 0)] ∧ (u' = uc13 ∧ NumsC u' (headStep free k lv a line X).out l3)) ?_ ?_
   ·
    refine wc_seq ?_
    refine wc_cutB 26 (decide (k = 2 ∧ free = true)) (ρk := [(0, _), (1, _), (5, _), (6, _), (7, _), (8, _)]) ⟨rfl, rfl, rfl, rfl, rfl, rfl, trivial⟩ ?_ ?_
    ·
     refine wc_region ?_
     refine rl_y (y_field_p rfl Tryz.f59' rfl (by decide) rfl) rfl ?_
     refine rl_y (y_load_p rfl Tryz.k3 rfl rfl rfl (vs := [_]) rfl rfl rfl) rfl ?_
     refine rl_y (y_eql rfl rfl rfl) rfl ?_
     refine ym rfl rfl ?_
     rcases Bool.eq_false_or_eq_true (decide (k = 2)) with hg5_3 | hg5_3
     ·
      simp only [hg5_3]
      refine rl_on rfl rfl ?_
      refine ym rfl rfl ?_
      refine rl_y (y_pick_t rfl rfl rfl) rfl ?_
      exact cutB_end rfl ⟨rfl, rfl, rfl, rfl, rfl, rfl, trivial⟩ (by simp_all)
     ·
      simp only [hg5_3]
      refine rl_off rfl rfl rfl rfl ?_
      refine rl_y (y_pick_f rfl rfl rfl) rfl ?_
      exact cutB_end rfl ⟨rfl, rfl, rfl, rfl, rfl, rfl, trivial⟩ (by simp_all)
    refine q_then ?_
    refine wc_cond rfl (fun hb5 => ?_) (fun hb5 => ?_)
    ·
     have hH : headStep free k lv a line X = ⟨ctrF X.f (clampL lv), X.g, X.out ++ [⟨a.id, secS, valF (ctrF X.f (clampL lv)) (clampL lv), line⟩]⟩ := if_pos (of_decide_eq_true hb5)
     refine wc_seq ?_
     refine wc_region ?_
     refine rl_y (y_field_p rfl Tryz.f59' rfl (by decide) rfl) rfl ?_
     refine rl_y (y_load_p rfl Tryz.k3 rfl rfl rfl (vs := [_]) rfl rfl rfl) rfl ?_
     refine ya rfl rfl ?_
     refine rl_end (ρ' := [(0, _), (1, _), (5, _), (6, _), (7, _), (8, _), (9, _)]) ⟨rfl, rfl, rfl, rfl, rfl, rfl, rfl, trivial⟩ ?_
     refine q_then ?_
     refine wc_seq ?_
     refine wc_seq ?_
     refine wc_region ?_
     refine ym rfl rfl ?_
     refine rl_y (y_lss rfl rfl rfl) rfl ?_
     refine rl_end (ρ' := [(0, _), (1, _), (5, _), (6, _), (7, _), (8, _), (9, _), (30, _)]) ⟨rfl, rfl, rfl, rfl, rfl, rfl, rfl, rfl, trivial⟩ ?_
     refine q_then ?_
     refine wc_cond rfl (fun hb7 => ?_) (fun hb7 => ?_)
     ·
      have h7 := of_decide_eq_true hb7
      refine wc_region ?_
      refine ya rfl rfl ?_
      refine rl_end (ρ' := [(0, _), (1, _), (5, _), (6, _), (7, _), (8, _), (9, _)]) ⟨rfl, rfl, rfl, rfl, rfl, rfl, rfl, trivial⟩ ?_
      refine q_then ?_
      refine wc_cut (fun ρ σ uc11 => VLe u' uc11 ∧ σ = [(5, (none, .box (csV X (.slice ai X.out.length ci)))), (6, (none, .box zero12)), (8, (none, .box (blkV k lv inf t d ti a.id vc vp (.slice lad line.length lcap) vk))), (1000, (none, .rwv (.slice ai X.out.length ci) 50 4 X.out.length li))] ∧ ρ = [(0, .v (.slice ad bs.length cap)), (1, .v (.bool free)), (5, .p 5 0), (6, .p 6 0), (7, .v (.int .i64 i)), (8, .p 8 0), (9, .v (.int .i64 (clampL lv : Nat)))] ∧ (u' = uc11)) ?_ ?_
      ·
       refine wc_seq ?_
       refine wc_region ?_
       refine ym rfl rfl ?_
       refine rl_y (y_gtr rfl rfl rfl) rfl ?_
       refine rl_end (ρ' := [(0, _), (1, _), (5, _), (6, _), (7, _), (8, _), (9, _), (32, _)]) ⟨rfl, rfl, rfl, rfl, rfl, rfl, rfl, rfl, trivial⟩ ?_
       refine q_then ?_
       refine wc_cond rfl (fun hb9 => ?_) (fun hb9 => ?_)
       ·
        have h9 := of_decide_eq_true hb9
        refine wc_region ?_
        refine ya rfl rfl ?_
        refine rl_end (ρ' := [(0, _), (1, _), (5, _), (6, _), (7, _), (8, _), (9, _)]) ⟨rfl, rfl, rfl, rfl, rfl, rfl, rfl, trivial⟩ ?_
        refine q_thenK ?_
        refine ⟨[(0, _), (1, _), (5, _), (6, _), (7, _), (8, _), (9, _)], [(5, _), (6, _), (8, _), (1000, _)], ⟨rfl, rfl, rfl, rfl, rfl, rfl, rfl, trivial⟩, ⟨rfl, rfl, rfl, rfl, trivial⟩, (VLe.refl _), rfl, (by simp only [List.cons.injEq, Prod.mk.injEq, SV.v.injEq, Value.int.injEq, true_and, and_true]; unfold clampL; split <;> (try split) <;> omega), ?_⟩
        rfl
       ·
        have h9 := of_decide_eq_false hb9
        refine wc_skip ?_
        refine q_thenK ?_
        refine ⟨[(0, _), (1, _), (5, _), (6, _), (7, _), (8, _), (9, _)], [(5, _), (6, _), (8, _), (1000, _)], ⟨rfl, rfl, rfl, rfl, rfl, rfl, rfl, trivial⟩, ⟨rfl, rfl, rfl, rfl, trivial⟩, (VLe.refl _), rfl, (by simp only [List.cons.injEq, Prod.mk.injEq, SV.v.injEq, Value.int.injEq, true_and, and_true]; unfold clampL; split <;> (try split) <;> omega), ?_⟩
        rfl
      ·
       rintro ρ σ uc11 ⟨hlc11, rfl, rfl, rfl⟩
       refine wc_seq ?_
       refine wc_region ?_
       refine rl_y (y_field_p rfl Tryz.f108' rfl (by decide) rfl) rfl ?_
       refine rl_y (y_load_p rfl Tryz.k105 rfl rfl rfl (vs := arr 7 X.f) rfl rfl rfl) rfl ?_
       refine ym rfl rfl ?_
       refine rl_do rfl rfl ?_
       refine do_call_f (caps := []) trivial rfl rfl Tryz.c87 rfl (FnP.mono (counters7_fn X.f (clampL lv) hcl.1 hcl.2 (fun j ↦ by have := hXf j; omega) u') ?_)
       rintro v u1 hle1 rfl
       refine rl_y (y_field_p rfl Tryz.f108' rfl (by decide) rfl) rfl ?_
       refine rl_do rfl rfl ?_
       refine do_store_p trivial rfl Tryz.k105 rfl rfl rfl (vs := arr 7 (ctrF X.f (clampL lv))) rfl rfl rfl (Nat.le_of_ble_eq_true rfl) (cs' := csV ⟨ctrF X.f (clampL lv), X.g, X.out⟩ (.slice ai X.out.length ci)) rfl ?_
       refine rl_end (ρ' := [(0, _), (1, _), (5, _), (6, _), (7, _), (8, _), (9, _)]) ⟨rfl, rfl, rfl, rfl, rfl, rfl, rfl, trivial⟩ ?_
       refine q_then ?_
       refine wc_draw Tryz.mixed rfl [(8, _)] ⟨rfl, trivial⟩ ?_
       refine ra_y (i := 0) rfl (by kernel_rfl) (by kernel_rfl) (by kernel_rfl) (np_then (np_block (np_then (np_then (np_block (np_then (np_finO))))))) (y_field_p rfl Tryz.f108' rfl (by decide) rfl) rfl ?_
       refine ra_y (i := 2) rfl (by kernel_rfl) (by kernel_rfl) (by kernel_rfl) (np_then (np_block (np_then (np_then (np_block (np_then (np_finO))))))) (y_field_p rfl Tryz.f59' rfl (by decide) rfl) rfl ?_
       refine ra_y (i := 3) rfl (by kernel_rfl) (by kernel_rfl) (by kernel_rfl) (np_then (np_block (np_then (np_then (np_block (np_then (np_finO))))))) (y_field_p rfl Tryz.f39' rfl (by decide) rfl) rfl ?_
       refine ra_y (i := 4) rfl (by kernel_rfl) (by kernel_rfl) (by kernel_rfl) (np_then (np_block (np_then (np_then (np_block (np_then (np_finO))))))) (y_load_p rfl Tryz.k9 rfl rfl rfl (vs := [_]) rfl rfl rfl) rfl ?_
       refine ra_y (i := 5) rfl (by kernel_rfl) (by kernel_rfl) (by kernel_rfl) (np_then (np_block (np_then (np_then (np_block (np_then (np_finO))))))) (y_field_p rfl Tryz.f108' rfl (by decide) rfl) rfl ?_
       refine ra_y (i := 7) rfl (by kernel_rfl) (by kernel_rfl) (by kernel_rfl) (np_then (np_block (np_then (np_then (np_block (np_then (np_finO))))))) (y_move rfl rfl) rfl ?_
       refine ra_y (i := 9) rfl (by kernel_rfl) (by kernel_rfl) (by kernel_rfl) (np_then (np_block (np_then (np_then (np_block (np_then (np_finO))))))) (y_field_p rfl Tryz.f59' rfl (by decide) rfl) rfl ?_
       refine ra_y (i := 10) rfl (by kernel_rfl) (by kernel_rfl) (by kernel_rfl) (np_then (np_block (np_then (np_then (np_block (np_then (np_finO))))))) (y_load_p rfl Tryz.k35 rfl rfl rfl (vs := [_]) rfl rfl rfl) rfl ?_
       refine ra_all (is := [1, 6]) (by kernel_rfl) rfl ?_
       refine raall_cons rfl rfl ?_ ?_
       ·
        refine do_y (y_load_p rfl Tryz.k47 rfl rfl rfl (vs := [_]) rfl rfl rfl) rfl ?_
        refine ra_do (i := 6) rfl rfl (by kernel_rfl) ?_
        refine do_y (y_load_p rfl Tryz.k105 rfl rfl rfl (vs := arr 7 (ctrF X.f (clampL lv))) rfl rfl rfl) rfl ?_
        refine ra_do (i := 8) rfl rfl (by kernel_rfl) ?_
        refine do_call_f (caps := []) ⟨rfl, trivial⟩ rfl rfl Tryz.c88 rfl (FnP.mono (value_fn (ctrF X.f (clampL lv)) (clampL lv) hcl.2 (fun j ↦ by have := (headStep_le (free := free) (k := k) (lv := lv) (a := a) (line := line) hX).1.1 j; rw [hH] at this; exact Nat.le_trans this (by omega)) u') ?_)
        rintro v u1 hle1 rfl
        refine ra_y (i := 11) rfl (by kernel_rfl) (by kernel_rfl) (by kernel_rfl) (np_then (np_block (np_then (np_then (np_block (np_then (np_finO))))))) (y_build rfl Tryz.f50' Tryz.z50 (ps := [(_, _), (_, _), (_, _), (_, _)]) rfl (vs := [_, _, _, _]) rfl) rfl ?_
        refine ra_do (i := 12) rfl rfl (by kernel_rfl) ?_
        refine do_buildSlice ⟨rfl, trivial⟩ Tryz.s47 Tryz.z50 (ps := [(_, _)]) rfl (xs := [_, _, _, _]) rfl rfl rfl rfl rfl rfl rfl ?_
        refine ra_do (i := 13) rfl rfl (by kernel_rfl) ?_
        refine do_append_w_s 1000 ⟨rfl, trivial⟩ rfl rfl Tryz.s47 Tryz.z50 rfl rfl rfl rfl rfl rfl (by simp [Value.oneCell', str]) (by omega) (by omega) rfl rfl ?_
        intro a2 c2
        refine ra_y (i := 14) rfl (by kernel_rfl) (by kernel_rfl) (by kernel_rfl) (np_then (np_block (np_then (np_then (np_block (np_then (np_finO))))))) (y_field_p rfl Tryz.f108' rfl (by decide) rfl) rfl ?_
        refine ra_do (i := 15) rfl rfl (by kernel_rfl) ?_
        refine do_store_p ⟨rfl, trivial⟩ rfl Tryz.k47 rfl rfl rfl (vs := [_]) rfl rfl (by first | rfl | assumption | simp [Value.oneCell', str]) (Nat.le_of_ble_eq_true rfl) rfl ?_
        refine ra_end (by kernel_rfl) (ρ' := [(0, _), (1, _), (5, _), (6, _), (7, _), (8, _)]) ⟨rfl, rfl, rfl, rfl, rfl, rfl, trivial⟩ ?_
        refine q_thenK ?_
        first
         | (refine ⟨[(0, _), (1, _), (5, _), (6, _), (7, _), (8, _)], [(5, _), (6, _), (8, _), (1000, _)], ⟨rfl, rfl, rfl, rfl, rfl, rfl, trivial⟩, ⟨rfl, rfl, rfl, rfl, trivial⟩, ai, ci, li, (VLe.refl _), (by rw [hH]; first | done | rfl | (simp only [List.length_append]; rfl)), rfl, ?_⟩
            exact ⟨rfl, by rw [hH]; exact hai⟩)
         | (refine ⟨[(0, _), (1, _), (5, _), (6, _), (7, _), (8, _)], [(5, _), (6, _), (8, _), (1000, _)], ⟨rfl, rfl, rfl, rfl, rfl, rfl, trivial⟩, ⟨rfl, rfl, rfl, rfl, trivial⟩, a2, c2, li ++ [str a.id, str secS, str (valF (ctrF X.f (clampL lv)) (clampL lv)), .slice lad line.length lcap], (VLe.refl _), (by rw [hH]; first | done | rfl | (simp only [List.length_append]; rfl)), rfl, ?_⟩
            exact ⟨rfl, by rw [hH]; exact hai.snoc ⟨_, rfl, s3⟩⟩)
       refine raall_cons rfl rfl ?_ ?_
       ·
        refine do_y (y_load_p rfl Tryz.k105 rfl rfl rfl (vs := arr 7 (ctrF X.f (clampL lv))) rfl rfl rfl) rfl ?_
        refine ra_all (is := [1, 8]) (by kernel_rfl) rfl ?_
        refine raall_cons rfl rfl ?_ ?_
        ·
         refine do_y (y_load_p rfl Tryz.k47 rfl rfl rfl (vs := [_]) rfl rfl rfl) rfl ?_
         refine ra_do (i := 8) rfl rfl (by kernel_rfl) ?_
         refine do_call_f (caps := []) ⟨rfl, trivial⟩ rfl rfl Tryz.c88 rfl (FnP.mono (value_fn (ctrF X.f (clampL lv)) (clampL lv) hcl.2 (fun j ↦ by have := (headStep_le (free := free) (k := k) (lv := lv) (a := a) (line := line) hX).1.1 j; rw [hH] at this; exact Nat.le_trans this (by omega)) u') ?_)
         rintro v u1 hle1 rfl
         refine ra_y (i := 11) rfl (by kernel_rfl) (by kernel_rfl) (by kernel_rfl) (np_then (np_block (np_then (np_then (np_block (np_then (np_finO))))))) (y_build rfl Tryz.f50' Tryz.z50 (ps := [(_, _), (_, _), (_, _), (_, _)]) rfl (vs := [_, _, _, _]) rfl) rfl ?_
         refine ra_do (i := 12) rfl rfl (by kernel_rfl) ?_
         refine do_buildSlice ⟨rfl, trivial⟩ Tryz.s47 Tryz.z50 (ps := [(_, _)]) rfl (xs := [_, _, _, _]) rfl rfl rfl rfl rfl rfl rfl ?_
         refine ra_do (i := 13) rfl rfl (by kernel_rfl) ?_
         refine do_append_w_s 1000 ⟨rfl, trivial⟩ rfl rfl Tryz.s47 Tryz.z50 rfl rfl rfl rfl rfl rfl (by simp [Value.oneCell', str]) (by omega) (by omega) rfl rfl ?_
         intro a2 c2
         refine ra_y (i := 14) rfl (by kernel_rfl) (by kernel_rfl) (by kernel_rfl) (np_then (np_block (np_then (np_then (np_block (np_then (np_finO))))))) (y_field_p rfl Tryz.f108' rfl (by decide) rfl) rfl ?_
         refine ra_do (i := 15) rfl rfl (by kernel_rfl) ?_
         refine do_store_p ⟨rfl, trivial⟩ rfl Tryz.k47 rfl rfl rfl (vs := [_]) rfl rfl (by first | rfl | assumption | simp [Value.oneCell', str]) (Nat.le_of_ble_eq_true rfl) rfl ?_
         refine ra_end (by kernel_rfl) (ρ' := [(0, _), (1, _), (5, _), (6, _), (7, _), (8, _)]) ⟨rfl, rfl, rfl, rfl, rfl, rfl, trivial⟩ ?_
         refine q_thenK ?_
         first
          | (refine ⟨[(0, _), (1, _), (5, _), (6, _), (7, _), (8, _)], [(5, _), (6, _), (8, _), (1000, _)], ⟨rfl, rfl, rfl, rfl, rfl, rfl, trivial⟩, ⟨rfl, rfl, rfl, rfl, trivial⟩, ai, ci, li, (VLe.refl _), (by rw [hH]; first | done | rfl | (simp only [List.length_append]; rfl)), rfl, ?_⟩
             exact ⟨rfl, by rw [hH]; exact hai⟩)
          | (refine ⟨[(0, _), (1, _), (5, _), (6, _), (7, _), (8, _)], [(5, _), (6, _), (8, _), (1000, _)], ⟨rfl, rfl, rfl, rfl, rfl, rfl, trivial⟩, ⟨rfl, rfl, rfl, rfl, trivial⟩, a2, c2, li ++ [str a.id, str secS, str (valF (ctrF X.f (clampL lv)) (clampL lv)), .slice lad line.length lcap], (VLe.refl _), (by rw [hH]; first | done | rfl | (simp only [List.length_append]; rfl)), rfl, ?_⟩
             exact ⟨rfl, by rw [hH]; exact hai.snoc ⟨_, rfl, s3⟩⟩)
        refine raall_cons rfl rfl ?_ ?_
        ·
         refine do_call_f (caps := []) ⟨rfl, trivial⟩ rfl rfl Tryz.c88 rfl (FnP.mono (value_fn (ctrF X.f (clampL lv)) (clampL lv) hcl.2 (fun j ↦ by have := (headStep_le (free := free) (k := k) (lv := lv) (a := a) (line := line) hX).1.1 j; rw [hH] at this; exact Nat.le_trans this (by omega)) u') ?_)
         rintro v u1 hle1 rfl
         refine ra_y (i := 11) rfl (by kernel_rfl) (by kernel_rfl) (by kernel_rfl) (np_then (np_block (np_then (np_then (np_block (np_then (np_finO))))))) (y_build rfl Tryz.f50' Tryz.z50 (ps := [(_, _), (_, _), (_, _), (_, _)]) rfl (vs := [_, _, _, _]) rfl) rfl ?_
         refine ra_all (is := [1, 12]) (by kernel_rfl) rfl ?_
         refine raall_cons rfl rfl ?_ ?_
         ·
          refine do_y (y_load_p rfl Tryz.k47 rfl rfl rfl (vs := [_]) rfl rfl rfl) rfl ?_
          refine ra_do (i := 12) rfl rfl (by kernel_rfl) ?_
          refine do_buildSlice ⟨rfl, trivial⟩ Tryz.s47 Tryz.z50 (ps := [(_, _)]) rfl (xs := [_, _, _, _]) rfl rfl rfl rfl rfl rfl rfl ?_
          refine ra_do (i := 13) rfl rfl (by kernel_rfl) ?_
          refine do_append_w_s 1000 ⟨rfl, trivial⟩ rfl rfl Tryz.s47 Tryz.z50 rfl rfl rfl rfl rfl rfl (by simp [Value.oneCell', str]) (by omega) (by omega) rfl rfl ?_
          intro a2 c2
          refine ra_y (i := 14) rfl (by kernel_rfl) (by kernel_rfl) (by kernel_rfl) (np_then (np_block (np_then (np_then (np_block (np_then (np_finO))))))) (y_field_p rfl Tryz.f108' rfl (by decide) rfl) rfl ?_
          refine ra_do (i := 15) rfl rfl (by kernel_rfl) ?_
          refine do_store_p ⟨rfl, trivial⟩ rfl Tryz.k47 rfl rfl rfl (vs := [_]) rfl rfl (by first | rfl | assumption | simp [Value.oneCell', str]) (Nat.le_of_ble_eq_true rfl) rfl ?_
          refine ra_end (by kernel_rfl) (ρ' := [(0, _), (1, _), (5, _), (6, _), (7, _), (8, _)]) ⟨rfl, rfl, rfl, rfl, rfl, rfl, trivial⟩ ?_
          refine q_thenK ?_
          first
           | (refine ⟨[(0, _), (1, _), (5, _), (6, _), (7, _), (8, _)], [(5, _), (6, _), (8, _), (1000, _)], ⟨rfl, rfl, rfl, rfl, rfl, rfl, trivial⟩, ⟨rfl, rfl, rfl, rfl, trivial⟩, ai, ci, li, (VLe.refl _), (by rw [hH]; first | done | rfl | (simp only [List.length_append]; rfl)), rfl, ?_⟩
              exact ⟨rfl, by rw [hH]; exact hai⟩)
           | (refine ⟨[(0, _), (1, _), (5, _), (6, _), (7, _), (8, _)], [(5, _), (6, _), (8, _), (1000, _)], ⟨rfl, rfl, rfl, rfl, rfl, rfl, trivial⟩, ⟨rfl, rfl, rfl, rfl, trivial⟩, a2, c2, li ++ [str a.id, str secS, str (valF (ctrF X.f (clampL lv)) (clampL lv)), .slice lad line.length lcap], (VLe.refl _), (by rw [hH]; first | done | rfl | (simp only [List.length_append]; rfl)), rfl, ?_⟩
              exact ⟨rfl, by rw [hH]; exact hai.snoc ⟨_, rfl, s3⟩⟩)
         refine raall_cons rfl rfl ?_ ?_
         ·
          refine do_buildSlice ⟨rfl, trivial⟩ Tryz.s47 Tryz.z50 (ps := [(_, _)]) rfl (xs := [_, _, _, _]) rfl rfl rfl rfl rfl rfl rfl ?_
          refine ra_do (i := 1) rfl rfl (by kernel_rfl) ?_
          refine do_y (y_load_p rfl Tryz.k47 rfl rfl rfl (vs := [_]) rfl rfl rfl) rfl ?_
          refine ra_do (i := 13) rfl rfl (by kernel_rfl) ?_
          refine do_append_w_s 1000 ⟨rfl, trivial⟩ rfl rfl Tryz.s47 Tryz.z50 rfl rfl rfl rfl rfl rfl (by simp [Value.oneCell', str]) (by omega) (by omega) rfl rfl ?_
          intro a2 c2
          refine ra_y (i := 14) rfl (by kernel_rfl) (by kernel_rfl) (by kernel_rfl) (np_then (np_block (np_then (np_then (np_block (np_then (np_finO))))))) (y_field_p rfl Tryz.f108' rfl (by decide) rfl) rfl ?_
          refine ra_do (i := 15) rfl rfl (by kernel_rfl) ?_
          refine do_store_p ⟨rfl, trivial⟩ rfl Tryz.k47 rfl rfl rfl (vs := [_]) rfl rfl (by first | rfl | assumption | simp [Value.oneCell', str]) (Nat.le_of_ble_eq_true rfl) rfl ?_
          refine ra_end (by kernel_rfl) (ρ' := [(0, _), (1, _), (5, _), (6, _), (7, _), (8, _)]) ⟨rfl, rfl, rfl, rfl, rfl, rfl, trivial⟩ ?_
          refine q_thenK ?_
          first
           | (refine ⟨[(0, _), (1, _), (5, _), (6, _), (7, _), (8, _)], [(5, _), (6, _), (8, _), (1000, _)], ⟨rfl, rfl, rfl, rfl, rfl, rfl, trivial⟩, ⟨rfl, rfl, rfl, rfl, trivial⟩, ai, ci, li, (VLe.refl _), (by rw [hH]; first | done | rfl | (simp only [List.length_append]; rfl)), rfl, ?_⟩
              exact ⟨rfl, by rw [hH]; exact hai⟩)
           | (refine ⟨[(0, _), (1, _), (5, _), (6, _), (7, _), (8, _)], [(5, _), (6, _), (8, _), (1000, _)], ⟨rfl, rfl, rfl, rfl, rfl, rfl, trivial⟩, ⟨rfl, rfl, rfl, rfl, trivial⟩, a2, c2, li ++ [str a.id, str secS, str (valF (ctrF X.f (clampL lv)) (clampL lv)), .slice lad line.length lcap], (VLe.refl _), (by rw [hH]; first | done | rfl | (simp only [List.length_append]; rfl)), rfl, ?_⟩
              exact ⟨rfl, by rw [hH]; exact hai.snoc ⟨_, rfl, s3⟩⟩)
         exact raall_nil
        exact raall_nil
       exact raall_nil
     ·
      have h7 := of_decide_eq_false hb7
      refine wc_skip ?_
      refine q_then ?_
      refine wc_cut (fun ρ σ uc11 => VLe u' uc11 ∧ σ = [(5, (none, .box (csV X (.slice ai X.out.length ci)))), (6, (none, .box zero12)), (8, (none, .box (blkV k lv inf t d ti a.id vc vp (.slice lad line.length lcap) vk))), (1000, (none, .rwv (.slice ai X.out.length ci) 50 4 X.out.length li))] ∧ ρ = [(0, .v (.slice ad bs.length cap)), (1, .v (.bool free)), (5, .p 5 0), (6, .p 6 0), (7, .v (.int .i64 i)), (8, .p 8 0), (9, .v (.int .i64 (clampL lv : Nat)))] ∧ (u' = uc11)) ?_ ?_
      ·
       refine wc_seq ?_
       refine wc_region ?_
       refine ym rfl rfl ?_
       refine rl_y (y_gtr rfl rfl rfl) rfl ?_
       refine rl_end (ρ' := [(0, _), (1, _), (5, _), (6, _), (7, _), (8, _), (9, _), (32, _)]) ⟨rfl, rfl, rfl, rfl, rfl, rfl, rfl, rfl, trivial⟩ ?_
       refine q_then ?_
       refine wc_cond rfl (fun hb9 => ?_) (fun hb9 => ?_)
       ·
        have h9 := of_decide_eq_true hb9
        refine wc_region ?_
        refine ya rfl rfl ?_
        refine rl_end (ρ' := [(0, _), (1, _), (5, _), (6, _), (7, _), (8, _), (9, _)]) ⟨rfl, rfl, rfl, rfl, rfl, rfl, rfl, trivial⟩ ?_
        refine q_thenK ?_
        refine ⟨[(0, _), (1, _), (5, _), (6, _), (7, _), (8, _), (9, _)], [(5, _), (6, _), (8, _), (1000, _)], ⟨rfl, rfl, rfl, rfl, rfl, rfl, rfl, trivial⟩, ⟨rfl, rfl, rfl, rfl, trivial⟩, (VLe.refl _), rfl, (by simp only [List.cons.injEq, Prod.mk.injEq, SV.v.injEq, Value.int.injEq, true_and, and_true]; unfold clampL; split <;> (try split) <;> omega), ?_⟩
        rfl
       ·
        have h9 := of_decide_eq_false hb9
        refine wc_skip ?_
        refine q_thenK ?_
        refine ⟨[(0, _), (1, _), (5, _), (6, _), (7, _), (8, _), (9, _)], [(5, _), (6, _), (8, _), (1000, _)], ⟨rfl, rfl, rfl, rfl, rfl, rfl, rfl, trivial⟩, ⟨rfl, rfl, rfl, rfl, trivial⟩, (VLe.refl _), rfl, (by simp only [List.cons.injEq, Prod.mk.injEq, SV.v.injEq, Value.int.injEq, true_and, and_true]; unfold clampL; split <;> (try split) <;> omega), ?_⟩
        rfl
      ·
       rintro ρ σ uc11 ⟨hlc11, rfl, rfl, rfl⟩
       refine wc_seq ?_
       refine wc_region ?_
       refine rl_y (y_field_p rfl Tryz.f108' rfl (by decide) rfl) rfl ?_
       refine rl_y (y_load_p rfl Tryz.k105 rfl rfl rfl (vs := arr 7 X.f) rfl rfl rfl) rfl ?_
       refine ym rfl rfl ?_
       refine rl_do rfl rfl ?_
       refine do_call_f (caps := []) trivial rfl rfl Tryz.c87 rfl (FnP.mono (counters7_fn X.f (clampL lv) hcl.1 hcl.2 (fun j ↦ by have := hXf j; omega) u') ?_)
       rintro v u1 hle1 rfl
       refine rl_y (y_field_p rfl Tryz.f108' rfl (by decide) rfl) rfl ?_
       refine rl_do rfl rfl ?_
       refine do_store_p trivial rfl Tryz.k105 rfl rfl rfl (vs := arr 7 (ctrF X.f (clampL lv))) rfl rfl rfl (Nat.le_of_ble_eq_true rfl) (cs' := csV ⟨ctrF X.f (clampL lv), X.g, X.out⟩ (.slice ai X.out.length ci)) rfl ?_
       refine rl_end (ρ' := [(0, _), (1, _), (5, _), (6, _), (7, _), (8, _), (9, _)]) ⟨rfl, rfl, rfl, rfl, rfl, rfl, rfl, trivial⟩ ?_
       refine q_then ?_
       refine wc_draw Tryz.mixed rfl [(8, _)] ⟨rfl, trivial⟩ ?_
       refine ra_y (i := 0) rfl (by kernel_rfl) (by kernel_rfl) (by kernel_rfl) (np_then (np_block (np_then (np_then (np_block (np_then (np_finO))))))) (y_field_p rfl Tryz.f108' rfl (by decide) rfl) rfl ?_
       refine ra_y (i := 2) rfl (by kernel_rfl) (by kernel_rfl) (by kernel_rfl) (np_then (np_block (np_then (np_then (np_block (np_then (np_finO))))))) (y_field_p rfl Tryz.f59' rfl (by decide) rfl) rfl ?_
       refine ra_y (i := 3) rfl (by kernel_rfl) (by kernel_rfl) (by kernel_rfl) (np_then (np_block (np_then (np_then (np_block (np_then (np_finO))))))) (y_field_p rfl Tryz.f39' rfl (by decide) rfl) rfl ?_
       refine ra_y (i := 4) rfl (by kernel_rfl) (by kernel_rfl) (by kernel_rfl) (np_then (np_block (np_then (np_then (np_block (np_then (np_finO))))))) (y_load_p rfl Tryz.k9 rfl rfl rfl (vs := [_]) rfl rfl rfl) rfl ?_
       refine ra_y (i := 5) rfl (by kernel_rfl) (by kernel_rfl) (by kernel_rfl) (np_then (np_block (np_then (np_then (np_block (np_then (np_finO))))))) (y_field_p rfl Tryz.f108' rfl (by decide) rfl) rfl ?_
       refine ra_y (i := 7) rfl (by kernel_rfl) (by kernel_rfl) (by kernel_rfl) (np_then (np_block (np_then (np_then (np_block (np_then (np_finO))))))) (y_move rfl rfl) rfl ?_
       refine ra_y (i := 9) rfl (by kernel_rfl) (by kernel_rfl) (by kernel_rfl) (np_then (np_block (np_then (np_then (np_block (np_then (np_finO))))))) (y_field_p rfl Tryz.f59' rfl (by decide) rfl) rfl ?_
       refine ra_y (i := 10) rfl (by kernel_rfl) (by kernel_rfl) (by kernel_rfl) (np_then (np_block (np_then (np_then (np_block (np_then (np_finO))))))) (y_load_p rfl Tryz.k35 rfl rfl rfl (vs := [_]) rfl rfl rfl) rfl ?_
       refine ra_all (is := [1, 6]) (by kernel_rfl) rfl ?_
       refine raall_cons rfl rfl ?_ ?_
       ·
        refine do_y (y_load_p rfl Tryz.k47 rfl rfl rfl (vs := [_]) rfl rfl rfl) rfl ?_
        refine ra_do (i := 6) rfl rfl (by kernel_rfl) ?_
        refine do_y (y_load_p rfl Tryz.k105 rfl rfl rfl (vs := arr 7 (ctrF X.f (clampL lv))) rfl rfl rfl) rfl ?_
        refine ra_do (i := 8) rfl rfl (by kernel_rfl) ?_
        refine do_call_f (caps := []) ⟨rfl, trivial⟩ rfl rfl Tryz.c88 rfl (FnP.mono (value_fn (ctrF X.f (clampL lv)) (clampL lv) hcl.2 (fun j ↦ by have := (headStep_le (free := free) (k := k) (lv := lv) (a := a) (line := line) hX).1.1 j; rw [hH] at this; exact Nat.le_trans this (by omega)) u') ?_)
        rintro v u1 hle1 rfl
        refine ra_y (i := 11) rfl (by kernel_rfl) (by kernel_rfl) (by kernel_rfl) (np_then (np_block (np_then (np_then (np_block (np_then (np_finO))))))) (y_build rfl Tryz.f50' Tryz.z50 (ps := [(_, _), (_, _), (_, _), (_, _)]) rfl (vs := [_, _, _, _]) rfl) rfl ?_
        refine ra_do (i := 12) rfl rfl (by kernel_rfl) ?_
        refine do_buildSlice ⟨rfl, trivial⟩ Tryz.s47 Tryz.z50 (ps := [(_, _)]) rfl (xs := [_, _, _, _]) rfl rfl rfl rfl rfl rfl rfl ?_
        refine ra_do (i := 13) rfl rfl (by kernel_rfl) ?_
        refine do_append_w_s 1000 ⟨rfl, trivial⟩ rfl rfl Tryz.s47 Tryz.z50 rfl rfl rfl rfl rfl rfl (by simp [Value.oneCell', str]) (by omega) (by omega) rfl rfl ?_
        intro a2 c2
        refine ra_y (i := 14) rfl (by kernel_rfl) (by kernel_rfl) (by kernel_rfl) (np_then (np_block (np_then (np_then (np_block (np_then (np_finO))))))) (y_field_p rfl Tryz.f108' rfl (by decide) rfl) rfl ?_
        refine ra_do (i := 15) rfl rfl (by kernel_rfl) ?_
        refine do_store_p ⟨rfl, trivial⟩ rfl Tryz.k47 rfl rfl rfl (vs := [_]) rfl rfl (by first | rfl | assumption | simp [Value.oneCell', str]) (Nat.le_of_ble_eq_true rfl) rfl ?_
        refine ra_end (by kernel_rfl) (ρ' := [(0, _), (1, _), (5, _), (6, _), (7, _), (8, _)]) ⟨rfl, rfl, rfl, rfl, rfl, rfl, trivial⟩ ?_
        refine q_thenK ?_
        first
         | (refine ⟨[(0, _), (1, _), (5, _), (6, _), (7, _), (8, _)], [(5, _), (6, _), (8, _), (1000, _)], ⟨rfl, rfl, rfl, rfl, rfl, rfl, trivial⟩, ⟨rfl, rfl, rfl, rfl, trivial⟩, ai, ci, li, (VLe.refl _), (by rw [hH]; first | done | rfl | (simp only [List.length_append]; rfl)), rfl, ?_⟩
            exact ⟨rfl, by rw [hH]; exact hai⟩)
         | (refine ⟨[(0, _), (1, _), (5, _), (6, _), (7, _), (8, _)], [(5, _), (6, _), (8, _), (1000, _)], ⟨rfl, rfl, rfl, rfl, rfl, rfl, trivial⟩, ⟨rfl, rfl, rfl, rfl, trivial⟩, a2, c2, li ++ [str a.id, str secS, str (valF (ctrF X.f (clampL lv)) (clampL lv)), .slice lad line.length lcap], (VLe.refl _), (by rw [hH]; first | done | rfl | (simp only [List.length_append]; rfl)), rfl, ?_⟩
            exact ⟨rfl, by rw [hH]; exact hai.snoc ⟨_, rfl, s3⟩⟩)
       refine raall_cons rfl rfl ?_ ?_
       ·
        refine do_y (y_load_p rfl Tryz.k105 rfl rfl rfl (vs := arr 7 (ctrF X.f (clampL lv))) rfl rfl rfl) rfl ?_
        refine ra_all (is := [1, 8]) (by kernel_rfl) rfl ?_
        refine raall_cons rfl rfl ?_ ?_
        ·
         refine do_y (y_load_p rfl Tryz.k47 rfl rfl rfl (vs := [_]) rfl rfl rfl) rfl ?_
         refine ra_do (i := 8) rfl rfl (by kernel_rfl) ?_
         refine do_call_f (caps := []) ⟨rfl, trivial⟩ rfl rfl Tryz.c88 rfl (FnP.mono (value_fn (ctrF X.f (clampL lv)) (clampL lv) hcl.2 (fun j ↦ by have := (headStep_le (free := free) (k := k) (lv := lv) (a := a) (line := line) hX).1.1 j; rw [hH] at this; exact Nat.le_trans this (by omega)) u') ?_)
         rintro v u1 hle1 rfl
         refine ra_y (i := 11) rfl (by kernel_rfl) (by kernel_rfl) (by kernel_rfl) (np_then (np_block (np_then (np_then (np_block (np_then (np_finO))))))) (y_build rfl Tryz.f50' Tryz.z50 (ps := [(_, _), (_, _), (_, _), (_, _)]) rfl (vs := [_, _, _, _]) rfl) rfl ?_
         refine ra_do (i := 12) rfl rfl (by kernel_rfl) ?_
         refine do_buildSlice ⟨rfl, trivial⟩ Tryz.s47 Tryz.z50 (ps := [(_, _)]) rfl (xs := [_, _, _, _]) rfl rfl rfl rfl rfl rfl rfl ?_
         refine ra_do (i := 13) rfl rfl (by kernel_rfl) ?_
         refine do_append_w_s 1000 ⟨rfl, trivial⟩ rfl rfl Tryz.s47 Tryz.z50 rfl rfl rfl rfl rfl rfl (by simp [Value.oneCell', str]) (by omega) (by omega) rfl rfl ?_
         intro a2 c2
         refine ra_y (i := 14) rfl (by kernel_rfl) (by kernel_rfl) (by kernel_rfl) (np_then (np_block (np_then (np_then (np_block (np_then (np_finO))))))) (y_field_p rfl Tryz.f108' rfl (by decide) rfl) rfl ?_
         refine ra_do (i := 15) rfl rfl (by kernel_rfl) ?_
         refine do_store_p ⟨rfl, trivial⟩ rfl Tryz.k47 rfl rfl rfl (vs := [_]) rfl rfl (by first | rfl | assumption | simp [Value.oneCell', str]) (Nat.le_of_ble_eq_true rfl) rfl ?_
         refine ra_end (by kernel_rfl) (ρ' := [(0, _), (1, _), (5, _), (6, _), (7, _), (8, _)]) ⟨rfl, rfl, rfl, rfl, rfl, rfl, trivial⟩ ?_
         refine q_thenK ?_
         first
          | (refine ⟨[(0, _), (1, _), (5, _), (6, _), (7, _), (8, _)], [(5, _), (6, _), (8, _), (1000, _)], ⟨rfl, rfl, rfl, rfl, rfl, rfl, trivial⟩, ⟨rfl, rfl, rfl, rfl, trivial⟩, ai, ci, li, (VLe.refl _), (by rw [hH]; first | done | rfl | (simp only [List.length_append]; rfl)), rfl, ?_⟩
             exact ⟨rfl, by rw [hH]; exact hai⟩)
          | (refine ⟨[(0, _), (1, _), (5, _), (6, _), (7, _), (8, _)], [(5, _), (6, _), (8, _), (1000, _)], ⟨rfl, rfl, rfl, rfl, rfl, rfl, trivial⟩, ⟨rfl, rfl, rfl, rfl, trivial⟩, a2, c2, li ++ [str a.id, str secS, str (valF (ctrF X.f (clampL lv)) (clampL lv)), .slice lad line.length lcap], (VLe.refl _), (by rw [hH]; first | done | rfl | (simp only [List.length_append]; rfl)), rfl, ?_⟩
             exact ⟨rfl, by rw [hH]; exact hai.snoc ⟨_, rfl, s3⟩⟩)
        refine raall_cons rfl rfl ?_ ?_
        ·
         refine do_call_f (caps := []) ⟨rfl, trivial⟩ rfl rfl Tryz.c88 rfl (FnP.mono (value_fn (ctrF X.f (clampL lv)) (clampL lv) hcl.2 (fun j ↦ by have := (headStep_le (free := free) (k := k) (lv := lv) (a := a) (line := line) hX).1.1 j; rw [hH] at this; exact Nat.le_trans this (by omega)) u') ?_)
         rintro v u1 hle1 rfl
         refine ra_y (i := 11) rfl (by kernel_rfl) (by kernel_rfl) (by kernel_rfl) (np_then (np_block (np_then (np_then (np_block (np_then (np_finO))))))) (y_build rfl Tryz.f50' Tryz.z50 (ps := [(_, _), (_, _), (_, _), (_, _)]) rfl (vs := [_, _, _, _]) rfl) rfl ?_
         refine ra_all (is := [1, 12]) (by kernel_rfl) rfl ?_
         refine raall_cons rfl rfl ?_ ?_
         ·
          refine do_y (y_load_p rfl Tryz.k47 rfl rfl rfl (vs := [_]) rfl rfl rfl) rfl ?_
          refine ra_do (i := 12) rfl rfl (by kernel_rfl) ?_
          refine do_buildSlice ⟨rfl, trivial⟩ Tryz.s47 Tryz.z50 (ps := [(_, _)]) rfl (xs := [_, _, _, _]) rfl rfl rfl rfl rfl rfl rfl ?_
          refine ra_do (i := 13) rfl rfl (by kernel_rfl) ?_
          refine do_append_w_s 1000 ⟨rfl, trivial⟩ rfl rfl Tryz.s47 Tryz.z50 rfl rfl rfl rfl rfl rfl (by simp [Value.oneCell', str]) (by omega) (by omega) rfl rfl ?_
          intro a2 c2
          refine ra_y (i := 14) rfl (by kernel_rfl) (by kernel_rfl) (by kernel_rfl) (np_then (np_block (np_then (np_then (np_block (np_then (np_finO))))))) (y_field_p rfl Tryz.f108' rfl (by decide) rfl) rfl ?_
          refine ra_do (i := 15) rfl rfl (by kernel_rfl) ?_
          refine do_store_p ⟨rfl, trivial⟩ rfl Tryz.k47 rfl rfl rfl (vs := [_]) rfl rfl (by first | rfl | assumption | simp [Value.oneCell', str]) (Nat.le_of_ble_eq_true rfl) rfl ?_
          refine ra_end (by kernel_rfl) (ρ' := [(0, _), (1, _), (5, _), (6, _), (7, _), (8, _)]) ⟨rfl, rfl, rfl, rfl, rfl, rfl, trivial⟩ ?_
          refine q_thenK ?_
          first
           | (refine ⟨[(0, _), (1, _), (5, _), (6, _), (7, _), (8, _)], [(5, _), (6, _), (8, _), (1000, _)], ⟨rfl, rfl, rfl, rfl, rfl, rfl, trivial⟩, ⟨rfl, rfl, rfl, rfl, trivial⟩, ai, ci, li, (VLe.refl _), (by rw [hH]; first | done | rfl | (simp only [List.length_append]; rfl)), rfl, ?_⟩
              exact ⟨rfl, by rw [hH]; exact hai⟩)
           | (refine ⟨[(0, _), (1, _), (5, _), (6, _), (7, _), (8, _)], [(5, _), (6, _), (8, _), (1000, _)], ⟨rfl, rfl, rfl, rfl, rfl, rfl, trivial⟩, ⟨rfl, rfl, rfl, rfl, trivial⟩, a2, c2, li ++ [str a.id, str secS, str (valF (ctrF X.f (clampL lv)) (clampL lv)), .slice lad line.length lcap], (VLe.refl _), (by rw [hH]; first | done | rfl | (simp only [List.length_append]; rfl)), rfl, ?_⟩
              exact ⟨rfl, by rw [hH]; exact hai.snoc ⟨_, rfl, s3⟩⟩)
         refine raall_cons rfl rfl ?_ ?_
         ·
          refine do_buildSlice ⟨rfl, trivial⟩ Tryz.s47 Tryz.z50 (ps := [(_, _)]) rfl (xs := [_, _, _, _]) rfl rfl rfl rfl rfl rfl rfl ?_
          refine ra_do (i := 1) rfl rfl (by kernel_rfl) ?_
          refine do_y (y_load_p rfl Tryz.k47 rfl rfl rfl (vs := [_]) rfl rfl rfl) rfl ?_
          refine ra_do (i := 13) rfl rfl (by kernel_rfl) ?_
          refine do_append_w_s 1000 ⟨rfl, trivial⟩ rfl rfl Tryz.s47 Tryz.z50 rfl rfl rfl rfl rfl rfl (by simp [Value.oneCell', str]) (by omega) (by omega) rfl rfl ?_
          intro a2 c2
          refine ra_y (i := 14) rfl (by kernel_rfl) (by kernel_rfl) (by kernel_rfl) (np_then (np_block (np_then (np_then (np_block (np_then (np_finO))))))) (y_field_p rfl Tryz.f108' rfl (by decide) rfl) rfl ?_
          refine ra_do (i := 15) rfl rfl (by kernel_rfl) ?_
          refine do_store_p ⟨rfl, trivial⟩ rfl Tryz.k47 rfl rfl rfl (vs := [_]) rfl rfl (by first | rfl | assumption | simp [Value.oneCell', str]) (Nat.le_of_ble_eq_true rfl) rfl ?_
          refine ra_end (by kernel_rfl) (ρ' := [(0, _), (1, _), (5, _), (6, _), (7, _), (8, _)]) ⟨rfl, rfl, rfl, rfl, rfl, rfl, trivial⟩ ?_
          refine q_thenK ?_
          first
           | (refine ⟨[(0, _), (1, _), (5, _), (6, _), (7, _), (8, _)], [(5, _), (6, _), (8, _), (1000, _)], ⟨rfl, rfl, rfl, rfl, rfl, rfl, trivial⟩, ⟨rfl, rfl, rfl, rfl, trivial⟩, ai, ci, li, (VLe.refl _), (by rw [hH]; first | done | rfl | (simp only [List.length_append]; rfl)), rfl, ?_⟩
              exact ⟨rfl, by rw [hH]; exact hai⟩)
           | (refine ⟨[(0, _), (1, _), (5, _), (6, _), (7, _), (8, _)], [(5, _), (6, _), (8, _), (1000, _)], ⟨rfl, rfl, rfl, rfl, rfl, rfl, trivial⟩, ⟨rfl, rfl, rfl, rfl, trivial⟩, a2, c2, li ++ [str a.id, str secS, str (valF (ctrF X.f (clampL lv)) (clampL lv)), .slice lad line.length lcap], (VLe.refl _), (by rw [hH]; first | done | rfl | (simp only [List.length_append]; rfl)), rfl, ?_⟩
              exact ⟨rfl, by rw [hH]; exact hai.snoc ⟨_, rfl, s3⟩⟩)
         exact raall_nil
        exact raall_nil
       exact raall_nil
    ·
     have hH : headStep free k lv a line X = X := if_neg (of_decide_eq_false hb5)
     refine wc_skip ?_
     refine q_thenK ?_
     first
      | (refine ⟨[(0, _), (1, _), (5, _), (6, _), (7, _), (8, _)], [(5, _), (6, _), (8, _), (1000, _)], ⟨rfl, rfl, rfl, rfl, rfl, rfl, trivial⟩, ⟨rfl, rfl, rfl, rfl, trivial⟩, ai, ci, li, (VLe.refl _), (by rw [hH]; first | done | rfl | (simp only [List.length_append]; rfl)), rfl, ?_⟩
         exact ⟨rfl, by rw [hH]; exact hai⟩)
      | (refine ⟨[(0, _), (1, _), (5, _), (6, _), (7, _), (8, _)], [(5, _), (6, _), (8, _), (1000, _)], ⟨rfl, rfl, rfl, rfl, rfl, rfl, trivial⟩, ⟨rfl, rfl, rfl, rfl, trivial⟩, a2, c2, li ++ [str a.id, str secS, str (valF (ctrF X.f (clampL lv)) (clampL lv)), .slice lad line.length lcap], (VLe.refl _), (by rw [hH]; first | done | rfl | (simp only [List.length_append]; rfl)), rfl, ?_⟩
         exact ⟨rfl, by rw [hH]; exact hai.snoc ⟨_, rfl, s3⟩⟩)
   ·
    rintro ρ σ uc13 ⟨a3, c3, l3, hlc13, rfl, rfl, ⟨rfl, ha3⟩⟩
    have hYl := headStep_le (free := free) (k := k) (lv := lv) (a := a) (line := line) hX
    have hYg := fun j => (congrFun (headStep_g (free := free) (k := k) (lv := lv) (a := a) (line := line) (x := X)) j).symm ▸ hXg j
    have hZl := step_le (free := free) (k := k) (lv := lv) (inf := inf) (a := a) (line := line) (kids := kids) hX
    clear hX hXf hXg hXo hai
    generalize headStep free k lv a line X = Y at *
    have hK3 := kindN_le k inf a.id
    have hYgK := hYg (kindN k inf a.id)
    have hYo := hYl.2
    refine wc_seq ?_
    refine wc_region ?_
    refine rl_y (y_load_p rfl Tryz.k59 rfl rfl rfl (vs := [_, _, _, _, _, _, _, _, _, _, _]) rfl rfl rfl) rfl ?_
    refine rl_do rfl rfl ?_
    refine do_call_f (caps := []) trivial rfl rfl Tryz.c89 rfl (FnP.mono (kind_fn k lv inf t d ti a.id vc vp _ vk u') ?_)
    rintro v u1 hle1 rfl
    refine ya rfl rfl ?_
    refine rl_end (ρ' := [(0, _), (1, _), (5, _), (6, _), (7, _), (8, _), (10, _)]) ⟨rfl, rfl, rfl, rfl, rfl, rfl, rfl, trivial⟩ ?_
    refine q_then ?_
    refine wc_cut (fun ρ σ uc17 => ∃ (a5 : Option Addr) (c5 : Nat) (l5 : List Value), VLe u' uc17 ∧ σ = [(5, (none, .box (csV (kindStep k inf a kids Y) (.slice a5 (kindStep k inf a kids Y).out.length c5)))), (6, (none, .box zero12)), (8, (none, .box (blkV k lv inf t d ti a.id vc vp (.slice lad line.length lcap) vk))), (1000, (none, .rwv (.slice a5 (kindStep k inf a kids Y).out.length c5) 50 4 (kindStep k inf a kids Y).out.length l5))] ∧ ρ = [(0, .v (.slice ad bs.length cap)), (1, .v (.bool free)), (5, .p 5 0), (6, .p 6 0), (7, .v (.int .i64 i)), (8, .p 8 0)] ∧ (NumsC uc17 (kindStep k inf a kids Y).out l5)) ?_ ?_
    ·
     refine wc_seq ?_
     refine wc_region ?_
     refine ym rfl rfl ?_
     refine rl_y (y_gtr rfl rfl rfl) rfl ?_
     refine rl_end (ρ' := [(0, _), (1, _), (5, _), (6, _), (7, _), (8, _), (10, _), (56, _)]) ⟨rfl, rfl, rfl, rfl, rfl, rfl, rfl, rfl, trivial⟩ ?_
     refine q_then ?_
     refine wc_cond rfl (fun hb14 => ?_) (fun hb14 => ?_)
     ·
      have hH : kindStep k inf a kids Y = ⟨Y.f, setF Y.g (kindN k inf a.id) (Y.g (kindN k inf a.id) + 1), Y.out ++ [⟨a.id, kindS (kindN k inf a.id), dec (Y.g (kindN k inf a.id) + 1), capIf k kids⟩]⟩ := if_pos (by have := of_decide_eq_true hb14; omega)
      refine wc_seq ?_
      have h14 := of_decide_eq_true hb14
      refine wc_region ?_
      refine ym rfl rfl ?_
      refine rl_y (y_field_p rfl Tryz.f108' rfl (by decide) rfl) rfl ?_
      refine rl_y (y_index_p rfl Tryz.a106 rfl rfl (j := kindN k inf a.id) (by first | rfl | omega) (by omega)) rfl ?_
      refine rl_y (y_load_p rfl Tryz.k3 rfl rfl rfl (cut_arr2 (i := kindN k inf a.id) (by omega) (by omega)) rfl rfl) rfl ?_
      refine rl_y (y_add rfl rfl rfl (wrap64_id (by omega))) rfl ?_
      refine rl_y (y_field_p rfl Tryz.f108' rfl (by decide) rfl) rfl ?_
      refine rl_y (y_index_p rfl Tryz.a106 rfl rfl (j := kindN k inf a.id) (by first | rfl | omega) (by omega)) rfl ?_
      refine rl_do rfl rfl ?_
      refine do_store_p trivial rfl Tryz.k3 rfl rfl rfl (vs := [_]) rfl rfl rfl (by simp [arr_len]; omega) (set_arr2 (i := kindN k inf a.id) (v := Y.g (kindN k inf a.id) + 1) (by omega) (by omega)) ?_
      refine rl_end (ρ' := [(0, _), (1, _), (5, _), (6, _), (7, _), (8, _), (10, _)]) ⟨rfl, rfl, rfl, rfl, rfl, rfl, rfl, trivial⟩ ?_
      refine q_then ?_
      refine wc_draw Tryz.mixed rfl [(8, _)] ⟨rfl, trivial⟩ ?_
      refine ra_y (i := 0) rfl (by kernel_rfl) (by kernel_rfl) (by kernel_rfl) (np_then (np_block (np_then (np_then (np_block (np_then (np_finO))))))) (y_field_p rfl Tryz.f108' rfl (by decide) rfl) rfl ?_
      refine ra_y (i := 2) rfl (by kernel_rfl) (by kernel_rfl) (by kernel_rfl) (np_then (np_block (np_then (np_then (np_block (np_then (np_finO))))))) (y_load_p rfl Tryz.k59 rfl rfl rfl (vs := [_, _, _, _, _, _, _, _, _, _, _]) rfl rfl rfl) rfl ?_
      refine ra_y (i := 4) rfl (by kernel_rfl) (by kernel_rfl) (by kernel_rfl) (np_then (np_block (np_then (np_then (np_block (np_then (np_finO))))))) (y_move rfl rfl) rfl ?_
      refine ra_y (i := 7) rfl (by kernel_rfl) (by kernel_rfl) (by kernel_rfl) (np_then (np_block (np_then (np_then (np_block (np_then (np_finO))))))) (y_move rfl rfl) rfl ?_
      refine ra_y (i := 8) rfl (by kernel_rfl) (by kernel_rfl) (by kernel_rfl) (np_then (np_block (np_then (np_then (np_block (np_then (np_finO))))))) (y_field_p rfl Tryz.f108' rfl (by decide) rfl) rfl ?_
      refine ra_y (i := 9) rfl (by kernel_rfl) (by kernel_rfl) (by kernel_rfl) (np_then (np_block (np_then (np_then (np_block (np_then (np_finO))))))) (y_index_p rfl Tryz.a106 rfl rfl (j := kindN k inf a.id) (by first | rfl | omega) (by omega)) rfl ?_
      refine ra_all (is := [1, 3, 10]) (by kernel_rfl) rfl ?_
      refine raall_cons rfl rfl ?_ ?_
      ·
       refine do_y (y_load_p rfl Tryz.k47 rfl rfl rfl (vs := [_]) rfl rfl rfl) rfl ?_
       refine ra_all (is := [3, 10]) (by kernel_rfl) rfl ?_
       refine raall_cons rfl rfl ?_ ?_
       ·
        refine do_buildSlice ⟨rfl, trivial⟩ Tryz.s37 Tryz.z9 (ps := [(_, _), (_, _), (_, _), (_, _)]) rfl (xs := [_, _, _, _]) rfl rfl rfl rfl rfl rfl rfl ?_
        refine ra_y (i := 5) rfl (by kernel_rfl) (by kernel_rfl) (by kernel_rfl) (np_then (np_block (np_then (np_then (np_block (np_then (np_finO))))))) (y_index_s rfl Tryz.s37 rfl rfl rfl (j := kindN k inf a.id) (by first | rfl | omega) (by omega)) rfl ?_
        refine ra_all (is := [6, 10]) (by kernel_rfl) rfl ?_
        refine raall_cons rfl rfl ?_ ?_
        ·
         refine do_y (y_load_s rfl Tryz.k9 rfl rfl rfl (kindS_cut (by omega) (by omega)) rfl rfl (by simp; omega)) rfl ?_
         refine ra_do (i := 10) rfl rfl (by kernel_rfl) ?_
         refine do_y (y_load_p rfl Tryz.k3 rfl rfl rfl (cut_arr2s (i := kindN k inf a.id) (by omega) (by omega)) rfl rfl) rfl ?_
         refine ra_do (i := 11) rfl rfl (by kernel_rfl) ?_
         refine do_call (caps := []) ⟨rfl, trivial⟩ rfl rfl Tryz.c90 rfl (FnP.mono (one_fn k lv inf t d ti a.id vc vp (.slice lad line.length lcap) vk kids (kindS (kindN k inf a.id)) (Y.g (kindN k inf a.id) + 1) (by omega) (by omega) u' s4) ?_)
         rintro v uK hle0 ⟨_, rfl, qcs, ⟨qad, qcap, rfl, hq1⟩, hq2⟩ hleK
         refine ra_do (i := 12) rfl rfl (by kernel_rfl) ?_
         refine do_buildSlice ⟨rfl, trivial⟩ Tryz.s47 Tryz.z50 (ps := [(_, _)]) rfl (xs := [_, _, _, _]) rfl rfl rfl rfl rfl rfl rfl ?_
         refine ra_do (i := 13) rfl rfl (by kernel_rfl) ?_
         refine do_append_w_s 1000 ⟨rfl, trivial⟩ rfl rfl Tryz.s47 Tryz.z50 rfl rfl rfl rfl rfl rfl (by simp [Value.oneCell', str]) (by omega) (by omega) rfl rfl ?_
         intro a4 c4
         refine ra_y (i := 14) rfl (by kernel_rfl) (by kernel_rfl) (by kernel_rfl) (np_then (np_block (np_then (np_then (np_block (np_then (np_finO))))))) (y_field_p rfl Tryz.f108' rfl (by decide) rfl) rfl ?_
         refine ra_do (i := 15) rfl rfl (by kernel_rfl) ?_
         refine do_store_p ⟨rfl, trivial⟩ rfl Tryz.k47 rfl rfl rfl (vs := [_]) rfl rfl (by first | rfl | assumption | simp [Value.oneCell', str]) (Nat.le_of_ble_eq_true rfl) rfl ?_
         refine ra_end (by kernel_rfl) (ρ' := [(0, _), (1, _), (5, _), (6, _), (7, _), (8, _)]) ⟨rfl, rfl, rfl, rfl, rfl, rfl, trivial⟩ ?_
         refine q_thenK ?_
         first
          | (refine ⟨[(0, _), (1, _), (5, _), (6, _), (7, _), (8, _)], [(5, _), (6, _), (8, _), (1000, _)], ⟨rfl, rfl, rfl, rfl, rfl, rfl, trivial⟩, ⟨rfl, rfl, rfl, rfl, trivial⟩, a3, c3, l3, (VLe.refl _), (by rw [hH]; first | done | rfl | (simp only [List.length_append]; rfl)), rfl, ?_⟩
             rw [hH]; exact ha3)
          | (refine ⟨[(0, _), (1, _), (5, _), (6, _), (7, _), (8, _)], [(5, _), (6, _), (8, _), (1000, _)], ⟨rfl, rfl, rfl, rfl, rfl, rfl, trivial⟩, ⟨rfl, rfl, rfl, rfl, trivial⟩, a4, c4, l3 ++ [str a.id, str (kindS (kindN k inf a.id)), str (dec (Y.g (kindN k inf a.id) + 1)), .slice qad (capIf k kids).length qcap], hleK, (by rw [hH]; first | done | rfl | (simp only [List.length_append]; rfl)), rfl, ?_⟩
             rw [hH]; exact (ha3.mono hleK).snoc ⟨_, rfl, inlS_of rfl hq1 hq2⟩)
        refine raall_cons rfl rfl ?_ ?_
        ·
         refine do_y (y_load_p rfl Tryz.k3 rfl rfl rfl (cut_arr2s (i := kindN k inf a.id) (by omega) (by omega)) rfl rfl) rfl ?_
         refine ra_do (i := 6) rfl rfl (by kernel_rfl) ?_
         refine do_y (y_load_s rfl Tryz.k9 rfl rfl rfl (kindS_cut (by omega) (by omega)) rfl rfl (by simp; omega)) rfl ?_
         refine ra_do (i := 11) rfl rfl (by kernel_rfl) ?_
         refine do_call (caps := []) ⟨rfl, trivial⟩ rfl rfl Tryz.c90 rfl (FnP.mono (one_fn k lv inf t d ti a.id vc vp (.slice lad line.length lcap) vk kids (kindS (kindN k inf a.id)) (Y.g (kindN k inf a.id) + 1) (by omega) (by omega) u' s4) ?_)
         rintro v uK hle0 ⟨_, rfl, qcs, ⟨qad, qcap, rfl, hq1⟩, hq2⟩ hleK
         refine ra_do (i := 12) rfl rfl (by kernel_rfl) ?_
         refine do_buildSlice ⟨rfl, trivial⟩ Tryz.s47 Tryz.z50 (ps := [(_, _)]) rfl (xs := [_, _, _, _]) rfl rfl rfl rfl rfl rfl rfl ?_
         refine ra_do (i := 13) rfl rfl (by kernel_rfl) ?_
         refine do_append_w_s 1000 ⟨rfl, trivial⟩ rfl rfl Tryz.s47 Tryz.z50 rfl rfl rfl rfl rfl rfl (by simp [Value.oneCell', str]) (by omega) (by omega) rfl rfl ?_
         intro a4 c4
         refine ra_y (i := 14) rfl (by kernel_rfl) (by kernel_rfl) (by kernel_rfl) (np_then (np_block (np_then (np_then (np_block (np_then (np_finO))))))) (y_field_p rfl Tryz.f108' rfl (by decide) rfl) rfl ?_
         refine ra_do (i := 15) rfl rfl (by kernel_rfl) ?_
         refine do_store_p ⟨rfl, trivial⟩ rfl Tryz.k47 rfl rfl rfl (vs := [_]) rfl rfl (by first | rfl | assumption | simp [Value.oneCell', str]) (Nat.le_of_ble_eq_true rfl) rfl ?_
         refine ra_end (by kernel_rfl) (ρ' := [(0, _), (1, _), (5, _), (6, _), (7, _), (8, _)]) ⟨rfl, rfl, rfl, rfl, rfl, rfl, trivial⟩ ?_
         refine q_thenK ?_
         first
          | (refine ⟨[(0, _), (1, _), (5, _), (6, _), (7, _), (8, _)], [(5, _), (6, _), (8, _), (1000, _)], ⟨rfl, rfl, rfl, rfl, rfl, rfl, trivial⟩, ⟨rfl, rfl, rfl, rfl, trivial⟩, a3, c3, l3, (VLe.refl _), (by rw [hH]; first | done | rfl | (simp only [List.length_append]; rfl)), rfl, ?_⟩
             rw [hH]; exact ha3)
          | (refine ⟨[(0, _), (1, _), (5, _), (6, _), (7, _), (8, _)], [(5, _), (6, _), (8, _), (1000, _)], ⟨rfl, rfl, rfl, rfl, rfl, rfl, trivial⟩, ⟨rfl, rfl, rfl, rfl, trivial⟩, a4, c4, l3 ++ [str a.id, str (kindS (kindN k inf a.id)), str (dec (Y.g (kindN k inf a.id) + 1)), .slice qad (capIf k kids).length qcap], hleK, (by rw [hH]; first | done | rfl | (simp only [List.length_append]; rfl)), rfl, ?_⟩
             rw [hH]; exact (ha3.mono hleK).snoc ⟨_, rfl, inlS_of rfl hq1 hq2⟩)
        exact raall_nil
       refine raall_cons rfl rfl ?_ ?_
       ·
        refine do_y (y_load_p rfl Tryz.k3 rfl rfl rfl (cut_arr2s (i := kindN k inf a.id) (by omega) (by omega)) rfl rfl) rfl ?_
        refine ra_do (i := 3) rfl rfl (by kernel_rfl) ?_
        refine do_buildSlice ⟨rfl, trivial⟩ Tryz.s37 Tryz.z9 (ps := [(_, _), (_, _), (_, _), (_, _)]) rfl (xs := [_, _, _, _]) rfl rfl rfl rfl rfl rfl rfl ?_
        refine ra_y (i := 5) rfl (by kernel_rfl) (by kernel_rfl) (by kernel_rfl) (np_then (np_block (np_then (np_then (np_block (np_then (np_finO))))))) (y_index_s rfl Tryz.s37 rfl rfl rfl (j := kindN k inf a.id) (by first | rfl | omega) (by omega)) rfl ?_
        refine ra_do (i := 6) rfl rfl (by kernel_rfl) ?_
        refine do_y (y_load_s rfl Tryz.k9 rfl rfl rfl (kindS_cut (by omega) (by omega)) rfl rfl (by simp; omega)) rfl ?_
        refine ra_do (i := 11) rfl rfl (by kernel_rfl) ?_
        refine do_call (caps := []) ⟨rfl, trivial⟩ rfl rfl Tryz.c90 rfl (FnP.mono (one_fn k lv inf t d ti a.id vc vp (.slice lad line.length lcap) vk kids (kindS (kindN k inf a.id)) (Y.g (kindN k inf a.id) + 1) (by omega) (by omega) u' s4) ?_)
        rintro v uK hle0 ⟨_, rfl, qcs, ⟨qad, qcap, rfl, hq1⟩, hq2⟩ hleK
        refine ra_do (i := 12) rfl rfl (by kernel_rfl) ?_
        refine do_buildSlice ⟨rfl, trivial⟩ Tryz.s47 Tryz.z50 (ps := [(_, _)]) rfl (xs := [_, _, _, _]) rfl rfl rfl rfl rfl rfl rfl ?_
        refine ra_do (i := 13) rfl rfl (by kernel_rfl) ?_
        refine do_append_w_s 1000 ⟨rfl, trivial⟩ rfl rfl Tryz.s47 Tryz.z50 rfl rfl rfl rfl rfl rfl (by simp [Value.oneCell', str]) (by omega) (by omega) rfl rfl ?_
        intro a4 c4
        refine ra_y (i := 14) rfl (by kernel_rfl) (by kernel_rfl) (by kernel_rfl) (np_then (np_block (np_then (np_then (np_block (np_then (np_finO))))))) (y_field_p rfl Tryz.f108' rfl (by decide) rfl) rfl ?_
        refine ra_do (i := 15) rfl rfl (by kernel_rfl) ?_
        refine do_store_p ⟨rfl, trivial⟩ rfl Tryz.k47 rfl rfl rfl (vs := [_]) rfl rfl (by first | rfl | assumption | simp [Value.oneCell', str]) (Nat.le_of_ble_eq_true rfl) rfl ?_
        refine ra_end (by kernel_rfl) (ρ' := [(0, _), (1, _), (5, _), (6, _), (7, _), (8, _)]) ⟨rfl, rfl, rfl, rfl, rfl, rfl, trivial⟩ ?_
        refine q_thenK ?_
        first
         | (refine ⟨[(0, _), (1, _), (5, _), (6, _), (7, _), (8, _)], [(5, _), (6, _), (8, _), (1000, _)], ⟨rfl, rfl, rfl, rfl, rfl, rfl, trivial⟩, ⟨rfl, rfl, rfl, rfl, trivial⟩, a3, c3, l3, (VLe.refl _), (by rw [hH]; first | done | rfl | (simp only [List.length_append]; rfl)), rfl, ?_⟩
            rw [hH]; exact ha3)
         | (refine ⟨[(0, _), (1, _), (5, _), (6, _), (7, _), (8, _)], [(5, _), (6, _), (8, _), (1000, _)], ⟨rfl, rfl, rfl, rfl, rfl, rfl, trivial⟩, ⟨rfl, rfl, rfl, rfl, trivial⟩, a4, c4, l3 ++ [str a.id, str (kindS (kindN k inf a.id)), str (dec (Y.g (kindN k inf a.id) + 1)), .slice qad (capIf k kids).length qcap], hleK, (by rw [hH]; first | done | rfl | (simp only [List.length_append]; rfl)), rfl, ?_⟩
            rw [hH]; exact (ha3.mono hleK).snoc ⟨_, rfl, inlS_of rfl hq1 hq2⟩)
       exact raall_nil
      refine raall_cons rfl rfl ?_ ?_
      ·
       refine do_buildSlice ⟨rfl, trivial⟩ Tryz.s37 Tryz.z9 (ps := [(_, _), (_, _), (_, _), (_, _)]) rfl (xs := [_, _, _, _]) rfl rfl rfl rfl rfl rfl rfl ?_
       refine ra_y (i := 5) rfl (by kernel_rfl) (by kernel_rfl) (by kernel_rfl) (np_then (np_block (np_then (np_then (np_block (np_then (np_finO))))))) (y_index_s rfl Tryz.s37 rfl rfl rfl (j := kindN k inf a.id) (by first | rfl | omega) (by omega)) rfl ?_
       refine ra_all (is := [1, 6, 10]) (by kernel_rfl) rfl ?_
       refine raall_cons rfl rfl ?_ ?_
       ·
        refine do_y (y_load_p rfl Tryz.k47 rfl rfl rfl (vs := [_]) rfl rfl rfl) rfl ?_
        refine ra_all (is := [6, 10]) (by kernel_rfl) rfl ?_
        refine raall_cons rfl rfl ?_ ?_
        ·
         refine do_y (y_load_s rfl Tryz.k9 rfl rfl rfl (kindS_cut (by omega) (by omega)) rfl rfl (by simp; omega)) rfl ?_
         refine ra_do (i := 10) rfl rfl (by kernel_rfl) ?_
         refine do_y (y_load_p rfl Tryz.k3 rfl rfl rfl (cut_arr2s (i := kindN k inf a.id) (by omega) (by omega)) rfl rfl) rfl ?_
         refine ra_do (i := 11) rfl rfl (by kernel_rfl) ?_
         refine do_call (caps := []) ⟨rfl, trivial⟩ rfl rfl Tryz.c90 rfl (FnP.mono (one_fn k lv inf t d ti a.id vc vp (.slice lad line.length lcap) vk kids (kindS (kindN k inf a.id)) (Y.g (kindN k inf a.id) + 1) (by omega) (by omega) u' s4) ?_)
         rintro v uK hle0 ⟨_, rfl, qcs, ⟨qad, qcap, rfl, hq1⟩, hq2⟩ hleK
         refine ra_do (i := 12) rfl rfl (by kernel_rfl) ?_
         refine do_buildSlice ⟨rfl, trivial⟩ Tryz.s47 Tryz.z50 (ps := [(_, _)]) rfl (xs := [_, _, _, _]) rfl rfl rfl rfl rfl rfl rfl ?_
         refine ra_do (i := 13) rfl rfl (by kernel_rfl) ?_
         refine do_append_w_s 1000 ⟨rfl, trivial⟩ rfl rfl Tryz.s47 Tryz.z50 rfl rfl rfl rfl rfl rfl (by simp [Value.oneCell', str]) (by omega) (by omega) rfl rfl ?_
         intro a4 c4
         refine ra_y (i := 14) rfl (by kernel_rfl) (by kernel_rfl) (by kernel_rfl) (np_then (np_block (np_then (np_then (np_block (np_then (np_finO))))))) (y_field_p rfl Tryz.f108' rfl (by decide) rfl) rfl ?_
         refine ra_do (i := 15) rfl rfl (by kernel_rfl) ?_
         refine do_store_p ⟨rfl, trivial⟩ rfl Tryz.k47 rfl rfl rfl (vs := [_]) rfl rfl (by first | rfl | assumption | simp [Value.oneCell', str]) (Nat.le_of_ble_eq_true rfl) rfl ?_
         refine ra_end (by kernel_rfl) (ρ' := [(0, _), (1, _), (5, _), (6, _), (7, _), (8, _)]) ⟨rfl, rfl, rfl, rfl, rfl, rfl, trivial⟩ ?_
         refine q_thenK ?_
         first
          | (refine ⟨[(0, _), (1, _), (5, _), (6, _), (7, _), (8, _)], [(5, _), (6, _), (8, _), (1000, _)], ⟨rfl, rfl, rfl, rfl, rfl, rfl, trivial⟩, ⟨rfl, rfl, rfl, rfl, trivial⟩, a3, c3, l3, (VLe.refl _), (by rw [hH]; first | done | rfl | (simp only [List.length_append]; rfl)), rfl, ?_⟩
             rw [hH]; exact ha3)
          | (refine ⟨[(0, _), (1, _), (5, _), (6, _), (7, _), (8, _)], [(5, _), (6, _), (8, _), (1000, _)], ⟨rfl, rfl, rfl, rfl, rfl, rfl, trivial⟩, ⟨rfl, rfl, rfl, rfl, trivial⟩, a4, c4, l3 ++ [str a.id, str (kindS (kindN k inf a.id)), str (dec (Y.g (kindN k inf a.id) + 1)), .slice qad (capIf k kids).length qcap], hleK, (by rw [hH]; first | done | rfl | (simp only [List.length_append]; rfl)), rfl, ?_⟩
             rw [hH]; exact (ha3.mono hleK).snoc ⟨_, rfl, inlS_of rfl hq1 hq2⟩)
        refine raall_cons rfl rfl ?_ ?_
        ·
         refine do_y (y_load_p rfl Tryz.k3 rfl rfl rfl (cut_arr2s (i := kindN k inf a.id) (by omega) (by omega)) rfl rfl) rfl ?_
         refine ra_do (i := 6) rfl rfl (by kernel_rfl) ?_
         refine do_y (y_load_s rfl Tryz.k9 rfl rfl rfl (kindS_cut (by omega) (by omega)) rfl rfl (by simp; omega)) rfl ?_
         refine ra_do (i := 11) rfl rfl (by kernel_rfl) ?_
         refine do_call (caps := []) ⟨rfl, trivial⟩ rfl rfl Tryz.c90 rfl (FnP.mono (one_fn k lv inf t d ti a.id vc vp (.slice lad line.length lcap) vk kids (kindS (kindN k inf a.id)) (Y.g (kindN k inf a.id) + 1) (by omega) (by omega) u' s4) ?_)
         rintro v uK hle0 ⟨_, rfl, qcs, ⟨qad, qcap, rfl, hq1⟩, hq2⟩ hleK
         refine ra_do (i := 12) rfl rfl (by kernel_rfl) ?_
         refine do_buildSlice ⟨rfl, trivial⟩ Tryz.s47 Tryz.z50 (ps := [(_, _)]) rfl (xs := [_, _, _, _]) rfl rfl rfl rfl rfl rfl rfl ?_
         refine ra_do (i := 13) rfl rfl (by kernel_rfl) ?_
         refine do_append_w_s 1000 ⟨rfl, trivial⟩ rfl rfl Tryz.s47 Tryz.z50 rfl rfl rfl rfl rfl rfl (by simp [Value.oneCell', str]) (by omega) (by omega) rfl rfl ?_
         intro a4 c4
         refine ra_y (i := 14) rfl (by kernel_rfl) (by kernel_rfl) (by kernel_rfl) (np_then (np_block (np_then (np_then (np_block (np_then (np_finO))))))) (y_field_p rfl Tryz.f108' rfl (by decide) rfl) rfl ?_
         refine ra_do (i := 15) rfl rfl (by kernel_rfl) ?_
         refine do_store_p ⟨rfl, trivial⟩ rfl Tryz.k47 rfl rfl rfl (vs := [_]) rfl rfl (by first | rfl | assumption | simp [Value.oneCell', str]) (Nat.le_of_ble_eq_true rfl) rfl ?_
         refine ra_end (by kernel_rfl) (ρ' := [(0, _), (1, _), (5, _), (6, _), (7, _), (8, _)]) ⟨rfl, rfl, rfl, rfl, rfl, rfl, trivial⟩ ?_
         refine q_thenK ?_
         first
          | (refine ⟨[(0, _), (1, _), (5, _), (6, _), (7, _), (8, _)], [(5, _), (6, _), (8, _), (1000, _)], ⟨rfl, rfl, rfl, rfl, rfl, rfl, trivial⟩, ⟨rfl, rfl, rfl, rfl, trivial⟩, a3, c3, l3, (VLe.refl _), (by rw [hH]; first | done | rfl | (simp only [List.length_append]; rfl)), rfl, ?_⟩
             rw [hH]; exact ha3)
          | (refine ⟨[(0, _), (1, _), (5, _), (6, _), (7, _), (8, _)], [(5, _), (6, _), (8, _), (1000, _)], ⟨rfl, rfl, rfl, rfl, rfl, rfl, trivial⟩, ⟨rfl, rfl, rfl, rfl, trivial⟩, a4, c4, l3 ++ [str a.id, str (kindS (kindN k inf a.id)), str (dec (Y.g (kindN k inf a.id) + 1)), .slice qad (capIf k kids).length qcap], hleK, (by rw [hH]; first | done | rfl | (simp only [List.length_append]; rfl)), rfl, ?_⟩
             rw [hH]; exact (ha3.mono hleK).snoc ⟨_, rfl, inlS_of rfl hq1 hq2⟩)
        exact raall_nil
       refine raall_cons rfl rfl ?_ ?_
       ·
        refine do_y (y_load_s rfl Tryz.k9 rfl rfl rfl (kindS_cut (by omega) (by omega)) rfl rfl (by simp; omega)) rfl ?_
        refine ra_all (is := [1, 10]) (by kernel_rfl) rfl ?_
        refine raall_cons rfl rfl ?_ ?_
        ·
         refine do_y (y_load_p rfl Tryz.k47 rfl rfl rfl (vs := [_]) rfl rfl rfl) rfl ?_
         refine ra_do (i := 10) rfl rfl (by kernel_rfl) ?_
         refine do_y (y_load_p rfl Tryz.k3 rfl rfl rfl (cut_arr2s (i := kindN k inf a.id) (by omega) (by omega)) rfl rfl) rfl ?_
         refine ra_do (i := 11) rfl rfl (by kernel_rfl) ?_
         refine do_call (caps := []) ⟨rfl, trivial⟩ rfl rfl Tryz.c90 rfl (FnP.mono (one_fn k lv inf t d ti a.id vc vp (.slice lad line.length lcap) vk kids (kindS (kindN k inf a.id)) (Y.g (kindN k inf a.id) + 1) (by omega) (by omega) u' s4) ?_)
         rintro v uK hle0 ⟨_, rfl, qcs, ⟨qad, qcap, rfl, hq1⟩, hq2⟩ hleK
         refine ra_do (i := 12) rfl rfl (by kernel_rfl) ?_
         refine do_buildSlice ⟨rfl, trivial⟩ Tryz.s47 Tryz.z50 (ps := [(_, _)]) rfl (xs := [_, _, _, _]) rfl rfl rfl rfl rfl rfl rfl ?_
         refine ra_do (i := 13) rfl rfl (by kernel_rfl) ?_
         refine do_append_w_s 1000 ⟨rfl, trivial⟩ rfl rfl Tryz.s47 Tryz.z50 rfl rfl rfl rfl rfl rfl (by simp [Value.oneCell', str]) (by omega) (by omega) rfl rfl ?_
         intro a4 c4
         refine ra_y (i := 14) rfl (by kernel_rfl) (by kernel_rfl) (by kernel_rfl) (np_then (np_block (np_then (np_then (np_block (np_then (np_finO))))))) (y_field_p rfl Tryz.f108' rfl (by decide) rfl) rfl ?_
         refine ra_do (i := 15) rfl rfl (by kernel_rfl) ?_
         refine do_store_p ⟨rfl, trivial⟩ rfl Tryz.k47 rfl rfl rfl (vs := [_]) rfl rfl (by first | rfl | assumption | simp [Value.oneCell', str]) (Nat.le_of_ble_eq_true rfl) rfl ?_
         refine ra_end (by kernel_rfl) (ρ' := [(0, _), (1, _), (5, _), (6, _), (7, _), (8, _)]) ⟨rfl, rfl, rfl, rfl, rfl, rfl, trivial⟩ ?_
         refine q_thenK ?_
         first
          | (refine ⟨[(0, _), (1, _), (5, _), (6, _), (7, _), (8, _)], [(5, _), (6, _), (8, _), (1000, _)], ⟨rfl, rfl, rfl, rfl, rfl, rfl, trivial⟩, ⟨rfl, rfl, rfl, rfl, trivial⟩, a3, c3, l3, (VLe.refl _), (by rw [hH]; first | done | rfl | (simp only [List.length_append]; rfl)), rfl, ?_⟩
             rw [hH]; exact ha3)
          | (refine ⟨[(0, _), (1, _), (5, _), (6, _), (7, _), (8, _)], [(5, _), (6, _), (8, _), (1000, _)], ⟨rfl, rfl, rfl, rfl, rfl, rfl, trivial⟩, ⟨rfl, rfl, rfl, rfl, trivial⟩, a4, c4, l3 ++ [str a.id, str (kindS (kindN k inf a.id)), str (dec (Y.g (kindN k inf a.id) + 1)), .slice qad (capIf k kids).length qcap], hleK, (by rw [hH]; first | done | rfl | (simp only [List.length_append]; rfl)), rfl, ?_⟩
             rw [hH]; exact (ha3.mono hleK).snoc ⟨_, rfl, inlS_of rfl hq1 hq2⟩)
        refine raall_cons rfl rfl ?_ ?_
        ·
         refine do_y (y_load_p rfl Tryz.k3 rfl rfl rfl (cut_arr2s (i := kindN k inf a.id) (by omega) (by omega)) rfl rfl) rfl ?_
         refine ra_all (is := [1, 11]) (by kernel_rfl) rfl ?_
         refine raall_cons rfl rfl ?_ ?_
         ·
          refine do_y (y_load_p rfl Tryz.k47 rfl rfl rfl (vs := [_]) rfl rfl rfl) rfl ?_
          refine ra_do (i := 11) rfl rfl (by kernel_rfl) ?_
          refine do_call (caps := []) ⟨rfl, trivial⟩ rfl rfl Tryz.c90 rfl (FnP.mono (one_fn k lv inf t d ti a.id vc vp (.slice lad line.length lcap) vk kids (kindS (kindN k inf a.id)) (Y.g (kindN k inf a.id) + 1) (by omega) (by omega) u' s4) ?_)
          rintro v uK hle0 ⟨_, rfl, qcs, ⟨qad, qcap, rfl, hq1⟩, hq2⟩ hleK
          refine ra_do (i := 12) rfl rfl (by kernel_rfl) ?_
          refine do_buildSlice ⟨rfl, trivial⟩ Tryz.s47 Tryz.z50 (ps := [(_, _)]) rfl (xs := [_, _, _, _]) rfl rfl rfl rfl rfl rfl rfl ?_
          refine ra_do (i := 13) rfl rfl (by kernel_rfl) ?_
          refine do_append_w_s 1000 ⟨rfl, trivial⟩ rfl rfl Tryz.s47 Tryz.z50 rfl rfl rfl rfl rfl rfl (by simp [Value.oneCell', str]) (by omega) (by omega) rfl rfl ?_
          intro a4 c4
          refine ra_y (i := 14) rfl (by kernel_rfl) (by kernel_rfl) (by kernel_rfl) (np_then (np_block (np_then (np_then (np_block (np_then (np_finO))))))) (y_field_p rfl Tryz.f108' rfl (by decide) rfl) rfl ?_
          refine ra_do (i := 15) rfl rfl (by kernel_rfl) ?_
          refine do_store_p ⟨rfl, trivial⟩ rfl Tryz.k47 rfl rfl rfl (vs := [_]) rfl rfl (by first | rfl | assumption | simp [Value.oneCell', str]) (Nat.le_of_ble_eq_true rfl) rfl ?_
          refine ra_end (by kernel_rfl) (ρ' := [(0, _), (1, _), (5, _), (6, _), (7, _), (8, _)]) ⟨rfl, rfl, rfl, rfl, rfl, rfl, trivial⟩ ?_
          refine q_thenK ?_
          first
           | (refine ⟨[(0, _), (1, _), (5, _), (6, _), (7, _), (8, _)], [(5, _), (6, _), (8, _), (1000, _)], ⟨rfl, rfl, rfl, rfl, rfl, rfl, trivial⟩, ⟨rfl, rfl, rfl, rfl, trivial⟩, a3, c3, l3, (VLe.refl _), (by rw [hH]; first | done | rfl | (simp only [List.length_append]; rfl)), rfl, ?_⟩
              rw [hH]; exact ha3)
           | (refine ⟨[(0, _), (1, _), (5, _), (6, _), (7, _), (8, _)], [(5, _), (6, _), (8, _), (1000, _)], ⟨rfl, rfl, rfl, rfl, rfl, rfl, trivial⟩, ⟨rfl, rfl, rfl, rfl, trivial⟩, a4, c4, l3 ++ [str a.id, str (kindS (kindN k inf a.id)), str (dec (Y.g (kindN k inf a.id) + 1)), .slice qad (capIf k kids).length qcap], hleK, (by rw [hH]; first | done | rfl | (simp only [List.length_append]; rfl)), rfl, ?_⟩
              rw [hH]; exact (ha3.mono hleK).snoc ⟨_, rfl, inlS_of rfl hq1 hq2⟩)
         refine raall_cons rfl rfl ?_ ?_
         ·
          refine do_call (caps := []) ⟨rfl, trivial⟩ rfl rfl Tryz.c90 rfl (FnP.mono (one_fn k lv inf t d ti a.id vc vp (.slice lad line.length lcap) vk kids (kindS (kindN k inf a.id)) (Y.g (kindN k inf a.id) + 1) (by omega) (by omega) u' s4) ?_)
          rintro v uK hle0 ⟨_, rfl, qcs, ⟨qad, qcap, rfl, hq1⟩, hq2⟩ hleK
          refine ra_all (is := [1, 12]) (by kernel_rfl) rfl ?_
          refine raall_cons rfl rfl ?_ ?_
          ·
           refine do_y (y_load_p rfl Tryz.k47 rfl rfl rfl (vs := [_]) rfl rfl rfl) rfl ?_
           refine ra_do (i := 12) rfl rfl (by kernel_rfl) ?_
           refine do_buildSlice ⟨rfl, trivial⟩ Tryz.s47 Tryz.z50 (ps := [(_, _)]) rfl (xs := [_, _, _, _]) rfl rfl rfl rfl rfl rfl rfl ?_
           refine ra_do (i := 13) rfl rfl (by kernel_rfl) ?_
           refine do_append_w_s 1000 ⟨rfl, trivial⟩ rfl rfl Tryz.s47 Tryz.z50 rfl rfl rfl rfl rfl rfl (by simp [Value.oneCell', str]) (by omega) (by omega) rfl rfl ?_
           intro a4 c4
           refine ra_y (i := 14) rfl (by kernel_rfl) (by kernel_rfl) (by kernel_rfl) (np_then (np_block (np_then (np_then (np_block (np_then (np_finO))))))) (y_field_p rfl Tryz.f108' rfl (by decide) rfl) rfl ?_
           refine ra_do (i := 15) rfl rfl (by kernel_rfl) ?_
           refine do_store_p ⟨rfl, trivial⟩ rfl Tryz.k47 rfl rfl rfl (vs := [_]) rfl rfl (by first | rfl | assumption | simp [Value.oneCell', str]) (Nat.le_of_ble_eq_true rfl) rfl ?_
           refine ra_end (by kernel_rfl) (ρ' := [(0, _), (1, _), (5, _), (6, _), (7, _), (8, _)]) ⟨rfl, rfl, rfl, rfl, rfl, rfl, trivial⟩ ?_
           refine q_thenK ?_
           first
            | (refine ⟨[(0, _), (1, _), (5, _), (6, _), (7, _), (8, _)], [(5, _), (6, _), (8, _), (1000, _)], ⟨rfl, rfl, rfl, rfl, rfl, rfl, trivial⟩, ⟨rfl, rfl, rfl, rfl, trivial⟩, a3, c3, l3, (VLe.refl _), (by rw [hH]; first | done | rfl | (simp only [List.length_append]; rfl)), rfl, ?_⟩
               rw [hH]; exact ha3)
            | (refine ⟨[(0, _), (1, _), (5, _), (6, _), (7, _), (8, _)], [(5, _), (6, _), (8, _), (1000, _)], ⟨rfl, rfl, rfl, rfl, rfl, rfl, trivial⟩, ⟨rfl, rfl, rfl, rfl, trivial⟩, a4, c4, l3 ++ [str a.id, str (kindS (kindN k inf a.id)), str (dec (Y.g (kindN k inf a.id) + 1)), .slice qad (capIf k kids).length qcap], hleK, (by rw [hH]; first | done | rfl | (simp only [List.length_append]; rfl)), rfl, ?_⟩
               rw [hH]; exact (ha3.mono hleK).snoc ⟨_, rfl, inlS_of rfl hq1 hq2⟩)
          refine raall_cons rfl rfl ?_ ?_
          ·
           refine do_buildSlice ⟨rfl, trivial⟩ Tryz.s47 Tryz.z50 (ps := [(_, _)]) rfl (xs := [_, _, _, _]) rfl rfl rfl rfl rfl rfl rfl ?_
           refine ra_do (i := 1) rfl rfl (by kernel_rfl) ?_
           refine do_y (y_load_p rfl Tryz.k47 rfl rfl rfl (vs := [_]) rfl rfl rfl) rfl ?_
           refine ra_do (i := 13) rfl rfl (by kernel_rfl) ?_
           refine do_append_w_s 1000 ⟨rfl, trivial⟩ rfl rfl Tryz.s47 Tryz.z50 rfl rfl rfl rfl rfl rfl (by simp [Value.oneCell', str]) (by omega) (by omega) rfl rfl ?_
           intro a4 c4
           refine ra_y (i := 14) rfl (by kernel_rfl) (by kernel_rfl) (by kernel_rfl) (np_then (np_block (np_then (np_then (np_block (np_then (np_finO))))))) (y_field_p rfl Tryz.f108' rfl (by decide) rfl) rfl ?_
           refine ra_do (i := 15) rfl rfl (by kernel_rfl) ?_
           refine do_store_p ⟨rfl, trivial⟩ rfl Tryz.k47 rfl rfl rfl (vs := [_]) rfl rfl (by first | rfl | assumption | simp [Value.oneCell', str]) (Nat.le_of_ble_eq_true rfl) rfl ?_
           refine ra_end (by kernel_rfl) (ρ' := [(0, _), (1, _), (5, _), (6, _), (7, _), (8, _)]) ⟨rfl, rfl, rfl, rfl, rfl, rfl, trivial⟩ ?_
           refine q_thenK ?_
           first
            | (refine ⟨[(0, _), (1, _), (5, _), (6, _), (7, _), (8, _)], [(5, _), (6, _), (8, _), (1000, _)], ⟨rfl, rfl, rfl, rfl, rfl, rfl, trivial⟩, ⟨rfl, rfl, rfl, rfl, trivial⟩, a3, c3, l3, (VLe.refl _), (by rw [hH]; first | done | rfl | (simp only [List.length_append]; rfl)), rfl, ?_⟩
               rw [hH]; exact ha3)
            | (refine ⟨[(0, _), (1, _), (5, _), (6, _), (7, _), (8, _)], [(5, _), (6, _), (8, _), (1000, _)], ⟨rfl, rfl, rfl, rfl, rfl, rfl, trivial⟩, ⟨rfl, rfl, rfl, rfl, trivial⟩, a4, c4, l3 ++ [str a.id, str (kindS (kindN k inf a.id)), str (dec (Y.g (kindN k inf a.id) + 1)), .slice qad (capIf k kids).length qcap], hleK, (by rw [hH]; first | done | rfl | (simp only [List.length_append]; rfl)), rfl, ?_⟩
               rw [hH]; exact (ha3.mono hleK).snoc ⟨_, rfl, inlS_of rfl hq1 hq2⟩)
          exact raall_nil
         exact raall_nil
        exact raall_nil
       refine raall_cons rfl rfl ?_ ?_
       ·
        refine do_y (y_load_p rfl Tryz.k3 rfl rfl rfl (cut_arr2s (i := kindN k inf a.id) (by omega) (by omega)) rfl rfl) rfl ?_
        refine ra_all (is := [1, 6]) (by kernel_rfl) rfl ?_
        refine raall_cons rfl rfl ?_ ?_
        ·
         refine do_y (y_load_p rfl Tryz.k47 rfl rfl rfl (vs := [_]) rfl rfl rfl) rfl ?_
         refine ra_do (i := 6) rfl rfl (by kernel_rfl) ?_
         refine do_y (y_load_s rfl Tryz.k9 rfl rfl rfl (kindS_cut (by omega) (by omega)) rfl rfl (by simp; omega)) rfl ?_
         refine ra_do (i := 11) rfl rfl (by kernel_rfl) ?_
         refine do_call (caps := []) ⟨rfl, trivial⟩ rfl rfl Tryz.c90 rfl (FnP.mono (one_fn k lv inf t d ti a.id vc vp (.slice lad line.length lcap) vk kids (kindS (kindN k inf a.id)) (Y.g (kindN k inf a.id) + 1) (by omega) (by omega) u' s4) ?_)
         rintro v uK hle0 ⟨_, rfl, qcs, ⟨qad, qcap, rfl, hq1⟩, hq2⟩ hleK
         refine ra_do (i := 12) rfl rfl (by kernel_rfl) ?_
         refine do_buildSlice ⟨rfl, trivial⟩ Tryz.s47 Tryz.z50 (ps := [(_, _)]) rfl (xs := [_, _, _, _]) rfl rfl rfl rfl rfl rfl rfl ?_
         refine ra_do (i := 13) rfl rfl (by kernel_rfl) ?_
         refine do_append_w_s 1000 ⟨rfl, trivial⟩ rfl rfl Tryz.s47 Tryz.z50 rfl rfl rfl rfl rfl rfl (by simp [Value.oneCell', str]) (by omega) (by omega) rfl rfl ?_
         intro a4 c4
         refine ra_y (i := 14) rfl (by kernel_rfl) (by kernel_rfl) (by kernel_rfl) (np_then (np_block (np_then (np_then (np_block (np_then (np_finO))))))) (y_field_p rfl Tryz.f108' rfl (by decide) rfl) rfl ?_
         refine ra_do (i := 15) rfl rfl (by kernel_rfl) ?_
         refine do_store_p ⟨rfl, trivial⟩ rfl Tryz.k47 rfl rfl rfl (vs := [_]) rfl rfl (by first | rfl | assumption | simp [Value.oneCell', str]) (Nat.le_of_ble_eq_true rfl) rfl ?_
         refine ra_end (by kernel_rfl) (ρ' := [(0, _), (1, _), (5, _), (6, _), (7, _), (8, _)]) ⟨rfl, rfl, rfl, rfl, rfl, rfl, trivial⟩ ?_
         refine q_thenK ?_
         first
          | (refine ⟨[(0, _), (1, _), (5, _), (6, _), (7, _), (8, _)], [(5, _), (6, _), (8, _), (1000, _)], ⟨rfl, rfl, rfl, rfl, rfl, rfl, trivial⟩, ⟨rfl, rfl, rfl, rfl, trivial⟩, a3, c3, l3, (VLe.refl _), (by rw [hH]; first | done | rfl | (simp only [List.length_append]; rfl)), rfl, ?_⟩
             rw [hH]; exact ha3)
          | (refine ⟨[(0, _), (1, _), (5, _), (6, _), (7, _), (8, _)], [(5, _), (6, _), (8, _), (1000, _)], ⟨rfl, rfl, rfl, rfl, rfl, rfl, trivial⟩, ⟨rfl, rfl, rfl, rfl, trivial⟩, a4, c4, l3 ++ [str a.id, str (kindS (kindN k inf a.id)), str (dec (Y.g (kindN k inf a.id) + 1)), .slice qad (capIf k kids).length qcap], hleK, (by rw [hH]; first | done | rfl | (simp only [List.length_append]; rfl)), rfl, ?_⟩
             rw [hH]; exact (ha3.mono hleK).snoc ⟨_, rfl, inlS_of rfl hq1 hq2⟩)
        refine raall_cons rfl rfl ?_ ?_
        ·
         refine do_y (y_load_s rfl Tryz.k9 rfl rfl rfl (kindS_cut (by omega) (by omega)) rfl rfl (by simp; omega)) rfl ?_
         refine ra_all (is := [1, 11]) (by kernel_rfl) rfl ?_
         refine raall_cons rfl rfl ?_ ?_
         ·
          refine do_y (y_load_p rfl Tryz.k47 rfl rfl rfl (vs := [_]) rfl rfl rfl) rfl ?_
          refine ra_do (i := 11) rfl rfl (by kernel_rfl) ?_
          refine do_call (caps := []) ⟨rfl, trivial⟩ rfl rfl Tryz.c90 rfl (FnP.mono (one_fn k lv inf t d ti a.id vc vp (.slice lad line.length lcap) vk kids (kindS (kindN k inf a.id)) (Y.g (kindN k inf a.id) + 1) (by omega) (by omega) u' s4) ?_)
          rintro v uK hle0 ⟨_, rfl, qcs, ⟨qad, qcap, rfl, hq1⟩, hq2⟩ hleK
          refine ra_do (i := 12) rfl rfl (by kernel_rfl) ?_
          refine do_buildSlice ⟨rfl, trivial⟩ Tryz.s47 Tryz.z50 (ps := [(_, _)]) rfl (xs := [_, _, _, _]) rfl rfl rfl rfl rfl rfl rfl ?_
          refine ra_do (i := 13) rfl rfl (by kernel_rfl) ?_
          refine do_append_w_s 1000 ⟨rfl, trivial⟩ rfl rfl Tryz.s47 Tryz.z50 rfl rfl rfl rfl rfl rfl (by simp [Value.oneCell', str]) (by omega) (by omega) rfl rfl ?_
          intro a4 c4
          refine ra_y (i := 14) rfl (by kernel_rfl) (by kernel_rfl) (by kernel_rfl) (np_then (np_block (np_then (np_then (np_block (np_then (np_finO))))))) (y_field_p rfl Tryz.f108' rfl (by decide) rfl) rfl ?_
          refine ra_do (i := 15) rfl rfl (by kernel_rfl) ?_
          refine do_store_p ⟨rfl, trivial⟩ rfl Tryz.k47 rfl rfl rfl (vs := [_]) rfl rfl (by first | rfl | assumption | simp [Value.oneCell', str]) (Nat.le_of_ble_eq_true rfl) rfl ?_
          refine ra_end (by kernel_rfl) (ρ' := [(0, _), (1, _), (5, _), (6, _), (7, _), (8, _)]) ⟨rfl, rfl, rfl, rfl, rfl, rfl, trivial⟩ ?_
          refine q_thenK ?_
          first
           | (refine ⟨[(0, _), (1, _), (5, _), (6, _), (7, _), (8, _)], [(5, _), (6, _), (8, _), (1000, _)], ⟨rfl, rfl, rfl, rfl, rfl, rfl, trivial⟩, ⟨rfl, rfl, rfl, rfl, trivial⟩, a3, c3, l3, (VLe.refl _), (by rw [hH]; first | done | rfl | (simp only [List.length_append]; rfl)), rfl, ?_⟩
              rw [hH]; exact ha3)
           | (refine ⟨[(0, _), (1, _), (5, _), (6, _), (7, _), (8, _)], [(5, _), (6, _), (8, _), (1000, _)], ⟨rfl, rfl, rfl, rfl, rfl, rfl, trivial⟩, ⟨rfl, rfl, rfl, rfl, trivial⟩, a4, c4, l3 ++ [str a.id, str (kindS (kindN k inf a.id)), str (dec (Y.g (kindN k inf a.id) + 1)), .slice qad (capIf k kids).length qcap], hleK, (by rw [hH]; first | done | rfl | (simp only [List.length_append]; rfl)), rfl, ?_⟩
              rw [hH]; exact (ha3.mono hleK).snoc ⟨_, rfl, inlS_of rfl hq1 hq2⟩)
         refine raall_cons rfl rfl ?_ ?_
         ·
          refine do_call (caps := []) ⟨rfl, trivial⟩ rfl rfl Tryz.c90 rfl (FnP.mono (one_fn k lv inf t d ti a.id vc vp (.slice lad line.length lcap) vk kids (kindS (kindN k inf a.id)) (Y.g (kindN k inf a.id) + 1) (by omega) (by omega) u' s4) ?_)
          rintro v uK hle0 ⟨_, rfl, qcs, ⟨qad, qcap, rfl, hq1⟩, hq2⟩ hleK
          refine ra_all (is := [1, 12]) (by kernel_rfl) rfl ?_
          refine raall_cons rfl rfl ?_ ?_
          ·
           refine do_y (y_load_p rfl Tryz.k47 rfl rfl rfl (vs := [_]) rfl rfl rfl) rfl ?_
           refine ra_do (i := 12) rfl rfl (by kernel_rfl) ?_
           refine do_buildSlice ⟨rfl, trivial⟩ Tryz.s47 Tryz.z50 (ps := [(_, _)]) rfl (xs := [_, _, _, _]) rfl rfl rfl rfl rfl rfl rfl ?_
           refine ra_do (i := 13) rfl rfl (by kernel_rfl) ?_
           refine do_append_w_s 1000 ⟨rfl, trivial⟩ rfl rfl Tryz.s47 Tryz.z50 rfl rfl rfl rfl rfl rfl (by simp [Value.oneCell', str]) (by omega) (by omega) rfl rfl ?_
           intro a4 c4
           refine ra_y (i := 14) rfl (by kernel_rfl) (by kernel_rfl) (by kernel_rfl) (np_then (np_block (np_then (np_then (np_block (np_then (np_finO))))))) (y_field_p rfl Tryz.f108' rfl (by decide) rfl) rfl ?_
           refine ra_do (i := 15) rfl rfl (by kernel_rfl) ?_
           refine do_store_p ⟨rfl, trivial⟩ rfl Tryz.k47 rfl rfl rfl (vs := [_]) rfl rfl (by first | rfl | assumption | simp [Value.oneCell', str]) (Nat.le_of_ble_eq_true rfl) rfl ?_
           refine ra_end (by kernel_rfl) (ρ' := [(0, _), (1, _), (5, _), (6, _), (7, _), (8, _)]) ⟨rfl, rfl, rfl, rfl, rfl, rfl, trivial⟩ ?_
           refine q_thenK ?_
           first
            | (refine ⟨[(0, _), (1, _), (5, _), (6, _), (7, _), (8, _)], [(5, _), (6, _), (8, _), (1000, _)], ⟨rfl, rfl, rfl, rfl, rfl, rfl, trivial⟩, ⟨rfl, rfl, rfl, rfl, trivial⟩, a3, c3, l3, (VLe.refl _), (by rw [hH]; first | done | rfl | (simp only [List.length_append]; rfl)), rfl, ?_⟩
               rw [hH]; exact ha3)
            | (refine ⟨[(0, _), (1, _), (5, _), (6, _), (7, _), (8, _)], [(5, _), (6, _), (8, _), (1000, _)], ⟨rfl, rfl, rfl, rfl, rfl, rfl, trivial⟩, ⟨rfl, rfl, rfl, rfl, trivial⟩, a4, c4, l3 ++ [str a.id, str (kindS (kindN k inf a.id)), str (dec (Y.g (kindN k inf a.id) + 1)), .slice qad (capIf k kids).length qcap], hleK, (by rw [hH]; first | done | rfl | (simp only [List.length_append]; rfl)), rfl, ?_⟩
               rw [hH]; exact (ha3.mono hleK).snoc ⟨_, rfl, inlS_of rfl hq1 hq2⟩)
          refine raall_cons rfl rfl ?_ ?_
          ·
           refine do_buildSlice ⟨rfl, trivial⟩ Tryz.s47 Tryz.z50 (ps := [(_, _)]) rfl (xs := [_, _, _, _]) rfl rfl rfl rfl rfl rfl rfl ?_
           refine ra_do (i := 1) rfl rfl (by kernel_rfl) ?_
           refine do_y (y_load_p rfl Tryz.k47 rfl rfl rfl (vs := [_]) rfl rfl rfl) rfl ?_
           refine ra_do (i := 13) rfl rfl (by kernel_rfl) ?_
           refine do_append_w_s 1000 ⟨rfl, trivial⟩ rfl rfl Tryz.s47 Tryz.z50 rfl rfl rfl rfl rfl rfl (by simp [Value.oneCell', str]) (by omega) (by omega) rfl rfl ?_
           intro a4 c4
           refine ra_y (i := 14) rfl (by kernel_rfl) (by kernel_rfl) (by kernel_rfl) (np_then (np_block (np_then (np_then (np_block (np_then (np_finO))))))) (y_field_p rfl Tryz.f108' rfl (by decide) rfl) rfl ?_
           refine ra_do (i := 15) rfl rfl (by kernel_rfl) ?_
           refine do_store_p ⟨rfl, trivial⟩ rfl Tryz.k47 rfl rfl rfl (vs := [_]) rfl rfl (by first | rfl | assumption | simp [Value.oneCell', str]) (Nat.le_of_ble_eq_true rfl) rfl ?_
           refine ra_end (by kernel_rfl) (ρ' := [(0, _), (1, _), (5, _), (6, _), (7, _), (8, _)]) ⟨rfl, rfl, rfl, rfl, rfl, rfl, trivial⟩ ?_
           refine q_thenK ?_
           first
            | (refine ⟨[(0, _), (1, _), (5, _), (6, _), (7, _), (8, _)], [(5, _), (6, _), (8, _), (1000, _)], ⟨rfl, rfl, rfl, rfl, rfl, rfl, trivial⟩, ⟨rfl, rfl, rfl, rfl, trivial⟩, a3, c3, l3, (VLe.refl _), (by rw [hH]; first | done | rfl | (simp only [List.length_append]; rfl)), rfl, ?_⟩
               rw [hH]; exact ha3)
            | (refine ⟨[(0, _), (1, _), (5, _), (6, _), (7, _), (8, _)], [(5, _), (6, _), (8, _), (1000, _)], ⟨rfl, rfl, rfl, rfl, rfl, rfl, trivial⟩, ⟨rfl, rfl, rfl, rfl, trivial⟩, a4, c4, l3 ++ [str a.id, str (kindS (kindN k inf a.id)), str (dec (Y.g (kindN k inf a.id) + 1)), .slice qad (capIf k kids).length qcap], hleK, (by rw [hH]; first | done | rfl | (simp only [List.length_append]; rfl)), rfl, ?_⟩
               rw [hH]; exact (ha3.mono hleK).snoc ⟨_, rfl, inlS_of rfl hq1 hq2⟩)
          exact raall_nil
         exact raall_nil
        exact raall_nil
       exact raall_nil
      refine raall_cons rfl rfl ?_ ?_
      ·
       refine do_y (y_load_p rfl Tryz.k3 rfl rfl rfl (cut_arr2s (i := kindN k inf a.id) (by omega) (by omega)) rfl rfl) rfl ?_
       refine ra_all (is := [1, 3]) (by kernel_rfl) rfl ?_
       refine raall_cons rfl rfl ?_ ?_
       ·
        refine do_y (y_load_p rfl Tryz.k47 rfl rfl rfl (vs := [_]) rfl rfl rfl) rfl ?_
        refine ra_do (i := 3) rfl rfl (by kernel_rfl) ?_
        refine do_buildSlice ⟨rfl, trivial⟩ Tryz.s37 Tryz.z9 (ps := [(_, _), (_, _), (_, _), (_, _)]) rfl (xs := [_, _, _, _]) rfl rfl rfl rfl rfl rfl rfl ?_
        refine ra_y (i := 5) rfl (by kernel_rfl) (by kernel_rfl) (by kernel_rfl) (np_then (np_block (np_then (np_then (np_block (np_then (np_finO))))))) (y_index_s rfl Tryz.s37 rfl rfl rfl (j := kindN k inf a.id) (by first | rfl | omega) (by omega)) rfl ?_
        refine ra_do (i := 6) rfl rfl (by kernel_rfl) ?_
        refine do_y (y_load_s rfl Tryz.k9 rfl rfl rfl (kindS_cut (by omega) (by omega)) rfl rfl (by simp; omega)) rfl ?_
        refine ra_do (i := 11) rfl rfl (by kernel_rfl) ?_
        refine do_call (caps := []) ⟨rfl, trivial⟩ rfl rfl Tryz.c90 rfl (FnP.mono (one_fn k lv inf t d ti a.id vc vp (.slice lad line.length lcap) vk kids (kindS (kindN k inf a.id)) (Y.g (kindN k inf a.id) + 1) (by omega) (by omega) u' s4) ?_)
        rintro v uK hle0 ⟨_, rfl, qcs, ⟨qad, qcap, rfl, hq1⟩, hq2⟩ hleK
        refine ra_do (i := 12) rfl rfl (by kernel_rfl) ?_
        refine do_buildSlice ⟨rfl, trivial⟩ Tryz.s47 Tryz.z50 (ps := [(_, _)]) rfl (xs := [_, _, _, _]) rfl rfl rfl rfl rfl rfl rfl ?_
        refine ra_do (i := 13) rfl rfl (by kernel_rfl) ?_
        refine do_append_w_s 1000 ⟨rfl, trivial⟩ rfl rfl Tryz.s47 Tryz.z50 rfl rfl rfl rfl rfl rfl (by simp [Value.oneCell', str]) (by omega) (by omega) rfl rfl ?_
        intro a4 c4
        refine ra_y (i := 14) rfl (by kernel_rfl) (by kernel_rfl) (by kernel_rfl) (np_then (np_block (np_then (np_then (np_block (np_then (np_finO))))))) (y_field_p rfl Tryz.f108' rfl (by decide) rfl) rfl ?_
        refine ra_do (i := 15) rfl rfl (by kernel_rfl) ?_
        refine do_store_p ⟨rfl, trivial⟩ rfl Tryz.k47 rfl rfl rfl (vs := [_]) rfl rfl (by first | rfl | assumption | simp [Value.oneCell', str]) (Nat.le_of_ble_eq_true rfl) rfl ?_
        refine ra_end (by kernel_rfl) (ρ' := [(0, _), (1, _), (5, _), (6, _), (7, _), (8, _)]) ⟨rfl, rfl, rfl, rfl, rfl, rfl, trivial⟩ ?_
        refine q_thenK ?_
        first
         | (refine ⟨[(0, _), (1, _), (5, _), (6, _), (7, _), (8, _)], [(5, _), (6, _), (8, _), (1000, _)], ⟨rfl, rfl, rfl, rfl, rfl, rfl, trivial⟩, ⟨rfl, rfl, rfl, rfl, trivial⟩, a3, c3, l3, (VLe.refl _), (by rw [hH]; first | done | rfl | (simp only [List.length_append]; rfl)), rfl, ?_⟩
            rw [hH]; exact ha3)
         | (refine ⟨[(0, _), (1, _), (5, _), (6, _), (7, _), (8, _)], [(5, _), (6, _), (8, _), (1000, _)], ⟨rfl, rfl, rfl, rfl, rfl, rfl, trivial⟩, ⟨rfl, rfl, rfl, rfl, trivial⟩, a4, c4, l3 ++ [str a.id, str (kindS (kindN k inf a.id)), str (dec (Y.g (kindN k inf a.id) + 1)), .slice qad (capIf k kids).length qcap], hleK, (by rw [hH]; first | done | rfl | (simp only [List.length_append]; rfl)), rfl, ?_⟩
            rw [hH]; exact (ha3.mono hleK).snoc ⟨_, rfl, inlS_of rfl hq1 hq2⟩)
       refine raall_cons rfl rfl ?_ ?_
       ·
        refine do_buildSlice ⟨rfl, trivial⟩ Tryz.s37 Tryz.z9 (ps := [(_, _), (_, _), (_, _), (_, _)]) rfl (xs := [_, _, _, _]) rfl rfl rfl rfl rfl rfl rfl ?_
        refine ra_y (i := 5) rfl (by kernel_rfl) (by kernel_rfl) (by kernel_rfl) (np_then (np_block (np_then (np_then (np_block (np_then (np_finO))))))) (y_index_s rfl Tryz.s37 rfl rfl rfl (j := kindN k inf a.id) (by first | rfl | omega) (by omega)) rfl ?_
        refine ra_all (is := [1, 6]) (by kernel_rfl) rfl ?_
        refine raall_cons rfl rfl ?_ ?_
        ·
         refine do_y (y_load_p rfl Tryz.k47 rfl rfl rfl (vs := [_]) rfl rfl rfl) rfl ?_
         refine ra_do (i := 6) rfl rfl (by kernel_rfl) ?_
         refine do_y (y_load_s rfl Tryz.k9 rfl rfl rfl (kindS_cut (by omega) (by omega)) rfl rfl (by simp; omega)) rfl ?_
         refine ra_do (i := 11) rfl rfl (by kernel_rfl) ?_
         refine do_call (caps := []) ⟨rfl, trivial⟩ rfl rfl Tryz.c90 rfl (FnP.mono (one_fn k lv inf t d ti a.id vc vp (.slice lad line.length lcap) vk kids (kindS (kindN k inf a.id)) (Y.g (kindN k inf a.id) + 1) (by omega) (by omega) u' s4) ?_)
         rintro v uK hle0 ⟨_, rfl, qcs, ⟨qad, qcap, rfl, hq1⟩, hq2⟩ hleK
         refine ra_do (i := 12) rfl rfl (by kernel_rfl) ?_
         refine do_buildSlice ⟨rfl, trivial⟩ Tryz.s47 Tryz.z50 (ps := [(_, _)]) rfl (xs := [_, _, _, _]) rfl rfl rfl rfl rfl rfl rfl ?_
         refine ra_do (i := 13) rfl rfl (by kernel_rfl) ?_
         refine do_append_w_s 1000 ⟨rfl, trivial⟩ rfl rfl Tryz.s47 Tryz.z50 rfl rfl rfl rfl rfl rfl (by simp [Value.oneCell', str]) (by omega) (by omega) rfl rfl ?_
         intro a4 c4
         refine ra_y (i := 14) rfl (by kernel_rfl) (by kernel_rfl) (by kernel_rfl) (np_then (np_block (np_then (np_then (np_block (np_then (np_finO))))))) (y_field_p rfl Tryz.f108' rfl (by decide) rfl) rfl ?_
         refine ra_do (i := 15) rfl rfl (by kernel_rfl) ?_
         refine do_store_p ⟨rfl, trivial⟩ rfl Tryz.k47 rfl rfl rfl (vs := [_]) rfl rfl (by first | rfl | assumption | simp [Value.oneCell', str]) (Nat.le_of_ble_eq_true rfl) rfl ?_
         refine ra_end (by kernel_rfl) (ρ' := [(0, _), (1, _), (5, _), (6, _), (7, _), (8, _)]) ⟨rfl, rfl, rfl, rfl, rfl, rfl, trivial⟩ ?_
         refine q_thenK ?_
         first
          | (refine ⟨[(0, _), (1, _), (5, _), (6, _), (7, _), (8, _)], [(5, _), (6, _), (8, _), (1000, _)], ⟨rfl, rfl, rfl, rfl, rfl, rfl, trivial⟩, ⟨rfl, rfl, rfl, rfl, trivial⟩, a3, c3, l3, (VLe.refl _), (by rw [hH]; first | done | rfl | (simp only [List.length_append]; rfl)), rfl, ?_⟩
             rw [hH]; exact ha3)
          | (refine ⟨[(0, _), (1, _), (5, _), (6, _), (7, _), (8, _)], [(5, _), (6, _), (8, _), (1000, _)], ⟨rfl, rfl, rfl, rfl, rfl, rfl, trivial⟩, ⟨rfl, rfl, rfl, rfl, trivial⟩, a4, c4, l3 ++ [str a.id, str (kindS (kindN k inf a.id)), str (dec (Y.g (kindN k inf a.id) + 1)), .slice qad (capIf k kids).length qcap], hleK, (by rw [hH]; first | done | rfl | (simp only [List.length_append]; rfl)), rfl, ?_⟩
             rw [hH]; exact (ha3.mono hleK).snoc ⟨_, rfl, inlS_of rfl hq1 hq2⟩)
        refine raall_cons rfl rfl ?_ ?_
        ·
         refine do_y (y_load_s rfl Tryz.k9 rfl rfl rfl (kindS_cut (by omega) (by omega)) rfl rfl (by simp; omega)) rfl ?_
         refine ra_all (is := [1, 11]) (by kernel_rfl) rfl ?_
         refine raall_cons rfl rfl ?_ ?_
         ·
          refine do_y (y_load_p rfl Tryz.k47 rfl rfl rfl (vs := [_]) rfl rfl rfl) rfl ?_
          refine ra_do (i := 11) rfl rfl (by kernel_rfl) ?_
          refine do_call (caps := []) ⟨rfl, trivial⟩ rfl rfl Tryz.c90 rfl (FnP.mono (one_fn k lv inf t d ti a.id vc vp (.slice lad line.length lcap) vk kids (kindS (kindN k inf a.id)) (Y.g (kindN k inf a.id) + 1) (by omega) (by omega) u' s4) ?_)
          rintro v uK hle0 ⟨_, rfl, qcs, ⟨qad, qcap, rfl, hq1⟩, hq2⟩ hleK
          refine ra_do (i := 12) rfl rfl (by kernel_rfl) ?_
          refine do_buildSlice ⟨rfl, trivial⟩ Tryz.s47 Tryz.z50 (ps := [(_, _)]) rfl (xs := [_, _, _, _]) rfl rfl rfl rfl rfl rfl rfl ?_
          refine ra_do (i := 13) rfl rfl (by kernel_rfl) ?_
          refine do_append_w_s 1000 ⟨rfl, trivial⟩ rfl rfl Tryz.s47 Tryz.z50 rfl rfl rfl rfl rfl rfl (by simp [Value.oneCell', str]) (by omega) (by omega) rfl rfl ?_
          intro a4 c4
          refine ra_y (i := 14) rfl (by kernel_rfl) (by kernel_rfl) (by kernel_rfl) (np_then (np_block (np_then (np_then (np_block (np_then (np_finO))))))) (y_field_p rfl Tryz.f108' rfl (by decide) rfl) rfl ?_
          refine ra_do (i := 15) rfl rfl (by kernel_rfl) ?_
          refine do_store_p ⟨rfl, trivial⟩ rfl Tryz.k47 rfl rfl rfl (vs := [_]) rfl rfl (by first | rfl | assumption | simp [Value.oneCell', str]) (Nat.le_of_ble_eq_true rfl) rfl ?_
          refine ra_end (by kernel_rfl) (ρ' := [(0, _), (1, _), (5, _), (6, _), (7, _), (8, _)]) ⟨rfl, rfl, rfl, rfl, rfl, rfl, trivial⟩ ?_
          refine q_thenK ?_
          first
           | (refine ⟨[(0, _), (1, _), (5, _), (6, _), (7, _), (8, _)], [(5, _), (6, _), (8, _), (1000, _)], ⟨rfl, rfl, rfl, rfl, rfl, rfl, trivial⟩, ⟨rfl, rfl, rfl, rfl, trivial⟩, a3, c3, l3, (VLe.refl _), (by rw [hH]; first | done | rfl | (simp only [List.length_append]; rfl)), rfl, ?_⟩
              rw [hH]; exact ha3)
           | (refine ⟨[(0, _), (1, _), (5, _), (6, _), (7, _), (8, _)], [(5, _), (6, _), (8, _), (1000, _)], ⟨rfl, rfl, rfl, rfl, rfl, rfl, trivial⟩, ⟨rfl, rfl, rfl, rfl, trivial⟩, a4, c4, l3 ++ [str a.id, str (kindS (kindN k inf a.id)), str (dec (Y.g (kindN k inf a.id) + 1)), .slice qad (capIf k kids).length qcap], hleK, (by rw [hH]; first | done | rfl | (simp only [List.length_append]; rfl)), rfl, ?_⟩
              rw [hH]; exact (ha3.mono hleK).snoc ⟨_, rfl, inlS_of rfl hq1 hq2⟩)
         refine raall_cons rfl rfl ?_ ?_
         ·
          refine do_call (caps := []) ⟨rfl, trivial⟩ rfl rfl Tryz.c90 rfl (FnP.mono (one_fn k lv inf t d ti a.id vc vp (.slice lad line.length lcap) vk kids (kindS (kindN k inf a.id)) (Y.g (kindN k inf a.id) + 1) (by omega) (by omega) u' s4) ?_)
          rintro v uK hle0 ⟨_, rfl, qcs, ⟨qad, qcap, rfl, hq1⟩, hq2⟩ hleK
          refine ra_all (is := [1, 12]) (by kernel_rfl) rfl ?_
          refine raall_cons rfl rfl ?_ ?_
          ·
           refine do_y (y_load_p rfl Tryz.k47 rfl rfl rfl (vs := [_]) rfl rfl rfl) rfl ?_
           refine ra_do (i := 12) rfl rfl (by kernel_rfl) ?_
           refine do_buildSlice ⟨rfl, trivial⟩ Tryz.s47 Tryz.z50 (ps := [(_, _)]) rfl (xs := [_, _, _, _]) rfl rfl rfl rfl rfl rfl rfl ?_
           refine ra_do (i := 13) rfl rfl (by kernel_rfl) ?_
           refine do_append_w_s 1000 ⟨rfl, trivial⟩ rfl rfl Tryz.s47 Tryz.z50 rfl rfl rfl rfl rfl rfl (by simp [Value.oneCell', str]) (by omega) (by omega) rfl rfl ?_
           intro a4 c4
           refine ra_y (i := 14) rfl (by kernel_rfl) (by kernel_rfl) (by kernel_rfl) (np_then (np_block (np_then (np_then (np_block (np_then (np_finO))))))) (y_field_p rfl Tryz.f108' rfl (by decide) rfl) rfl ?_
           refine ra_do (i := 15) rfl rfl (by kernel_rfl) ?_
           refine do_store_p ⟨rfl, trivial⟩ rfl Tryz.k47 rfl rfl rfl (vs := [_]) rfl rfl (by first | rfl | assumption | simp [Value.oneCell', str]) (Nat.le_of_ble_eq_true rfl) rfl ?_
           refine ra_end (by kernel_rfl) (ρ' := [(0, _), (1, _), (5, _), (6, _), (7, _), (8, _)]) ⟨rfl, rfl, rfl, rfl, rfl, rfl, trivial⟩ ?_
           refine q_thenK ?_
           first
            | (refine ⟨[(0, _), (1, _), (5, _), (6, _), (7, _), (8, _)], [(5, _), (6, _), (8, _), (1000, _)], ⟨rfl, rfl, rfl, rfl, rfl, rfl, trivial⟩, ⟨rfl, rfl, rfl, rfl, trivial⟩, a3, c3, l3, (VLe.refl _), (by rw [hH]; first | done | rfl | (simp only [List.length_append]; rfl)), rfl, ?_⟩
               rw [hH]; exact ha3)
            | (refine ⟨[(0, _), (1, _), (5, _), (6, _), (7, _), (8, _)], [(5, _), (6, _), (8, _), (1000, _)], ⟨rfl, rfl, rfl, rfl, rfl, rfl, trivial⟩, ⟨rfl, rfl, rfl, rfl, trivial⟩, a4, c4, l3 ++ [str a.id, str (kindS (kindN k inf a.id)), str (dec (Y.g (kindN k inf a.id) + 1)), .slice qad (capIf k kids).length qcap], hleK, (by rw [hH]; first | done | rfl | (simp only [List.length_append]; rfl)), rfl, ?_⟩
               rw [hH]; exact (ha3.mono hleK).snoc ⟨_, rfl, inlS_of rfl hq1 hq2⟩)
          refine raall_cons rfl rfl ?_ ?_
          ·
           refine do_buildSlice ⟨rfl, trivial⟩ Tryz.s47 Tryz.z50 (ps := [(_, _)]) rfl (xs := [_, _, _, _]) rfl rfl rfl rfl rfl rfl rfl ?_
           refine ra_do (i := 1) rfl rfl (by kernel_rfl) ?_
           refine do_y (y_load_p rfl Tryz.k47 rfl rfl rfl (vs := [_]) rfl rfl rfl) rfl ?_
           refine ra_do (i := 13) rfl rfl (by kernel_rfl) ?_
           refine do_append_w_s 1000 ⟨rfl, trivial⟩ rfl rfl Tryz.s47 Tryz.z50 rfl rfl rfl rfl rfl rfl (by simp [Value.oneCell', str]) (by omega) (by omega) rfl rfl ?_
           intro a4 c4
           refine ra_y (i := 14) rfl (by kernel_rfl) (by kernel_rfl) (by kernel_rfl) (np_then (np_block (np_then (np_then (np_block (np_then (np_finO))))))) (y_field_p rfl Tryz.f108' rfl (by decide) rfl) rfl ?_
           refine ra_do (i := 15) rfl rfl (by kernel_rfl) ?_
           refine do_store_p ⟨rfl, trivial⟩ rfl Tryz.k47 rfl rfl rfl (vs := [_]) rfl rfl (by first | rfl | assumption | simp [Value.oneCell', str]) (Nat.le_of_ble_eq_true rfl) rfl ?_
           refine ra_end (by kernel_rfl) (ρ' := [(0, _), (1, _), (5, _), (6, _), (7, _), (8, _)]) ⟨rfl, rfl, rfl, rfl, rfl, rfl, trivial⟩ ?_
           refine q_thenK ?_
           first
            | (refine ⟨[(0, _), (1, _), (5, _), (6, _), (7, _), (8, _)], [(5, _), (6, _), (8, _), (1000, _)], ⟨rfl, rfl, rfl, rfl, rfl, rfl, trivial⟩, ⟨rfl, rfl, rfl, rfl, trivial⟩, a3, c3, l3, (VLe.refl _), (by rw [hH]; first | done | rfl | (simp only [List.length_append]; rfl)), rfl, ?_⟩
               rw [hH]; exact ha3)
            | (refine ⟨[(0, _), (1, _), (5, _), (6, _), (7, _), (8, _)], [(5, _), (6, _), (8, _), (1000, _)], ⟨rfl, rfl, rfl, rfl, rfl, rfl, trivial⟩, ⟨rfl, rfl, rfl, rfl, trivial⟩, a4, c4, l3 ++ [str a.id, str (kindS (kindN k inf a.id)), str (dec (Y.g (kindN k inf a.id) + 1)), .slice qad (capIf k kids).length qcap], hleK, (by rw [hH]; first | done | rfl | (simp only [List.length_append]; rfl)), rfl, ?_⟩
               rw [hH]; exact (ha3.mono hleK).snoc ⟨_, rfl, inlS_of rfl hq1 hq2⟩)
          exact raall_nil
         exact raall_nil
        exact raall_nil
       exact raall_nil
      exact raall_nil
     ·
      have hH : kindStep k inf a kids Y = Y := if_neg (by have := of_decide_eq_false hb14; omega)
      refine wc_skip ?_
      refine q_thenK ?_
      first
       | (refine ⟨[(0, _), (1, _), (5, _), (6, _), (7, _), (8, _)], [(5, _), (6, _), (8, _), (1000, _)], ⟨rfl, rfl, rfl, rfl, rfl, rfl, trivial⟩, ⟨rfl, rfl, rfl, rfl, trivial⟩, a3, c3, l3, (VLe.refl _), (by rw [hH]; first | done | rfl | (simp only [List.length_append]; rfl)), rfl, ?_⟩
          rw [hH]; exact ha3)
       | (refine ⟨[(0, _), (1, _), (5, _), (6, _), (7, _), (8, _)], [(5, _), (6, _), (8, _), (1000, _)], ⟨rfl, rfl, rfl, rfl, rfl, rfl, trivial⟩, ⟨rfl, rfl, rfl, rfl, trivial⟩, a4, c4, l3 ++ [str a.id, str (kindS (kindN k inf a.id)), str (dec (Y.g (kindN k inf a.id) + 1)), .slice qad (capIf k kids).length qcap], hleK, (by rw [hH]; first | done | rfl | (simp only [List.length_append]; rfl)), rfl, ?_⟩
          rw [hH]; exact (ha3.mono hleK).snoc ⟨_, rfl, inlS_of rfl hq1 hq2⟩)
    ·
     rintro ρ σ uc17 ⟨a5, c5, l5, hlc17, rfl, rfl, ha5⟩
     generalize kindStep k inf a kids Y = Z at *
     obtain ⟨q, hqf⟩ : ∃ q, q = free := ⟨_, rfl⟩
     have hqe : some (SV.v (.bool free)) = some (SV.v (.bool q)) := by rw [hqf]
     have hkf : kidsFree free k = (q && decide (k = 13)) := by rw [hqf]; unfold kidsFree; cases free <;> simp
     refine wc_region ?_
     refine rl_y (y_field_p rfl Tryz.f59' rfl (by decide) rfl) rfl ?_
     refine rl_y (y_load_p rfl Tryz.k23 rfl rfl rfl (vs := [_]) rfl rfl rfl) rfl ?_
     refine ym rfl rfl ?_
     refine rl_y (y_move rfl hqe) rfl ?_
     rcases Bool.eq_false_or_eq_true (q) with hg17_3 | hg17_3
     ·
      simp only [hg17_3]
      refine rl_on rfl rfl ?_
      refine rl_y (y_field_p rfl Tryz.f59' rfl (by decide) rfl) rfl ?_
      refine rl_on rfl rfl ?_
      refine rl_y (y_load_p rfl Tryz.k3 rfl rfl rfl (vs := [_]) rfl rfl rfl) rfl ?_
      refine rl_on rfl rfl ?_
      refine rl_y (y_eql rfl rfl rfl) rfl ?_
      refine rl_y (y_pick_t rfl rfl rfl) rfl ?_
      refine rl_y (y_load_p rfl Tryz.k108 rfl rfl rfl (vs := csV Z (.slice a5 Z.out.length c5)) rfl rfl rfl) rfl ?_
      refine rl_do rfl rfl ?_
      refine do_call_o (caps := []) (ρ' := [(0, _), (1, _), (5, _), (6, _), (7, _)]) [1000] [] trivial rfl rfl rfl Tryz.c65 rfl rfl ⟨rfl, rfl, rfl, rfl, rfl, trivial⟩ rfl rfl rfl (FnO.mono (ih (szB kids) (by omega) vk kids _ Z a5 c5 l5 (B + szB (List.take i bs) + 1) uc17 (Nat.le_refl _) (by omega) hZl (s4.mono hlc17) ha5) ?_)
      rintro v u1 l1 hle1 ⟨a6, c6, l6, rfl, rfl, ha6⟩ -
      refine ⟨⟨fun _ h => h, trivial⟩, ?_⟩
      refine rl_do rfl rfl ?_
      refine do_store_p trivial rfl Tryz.k108 rfl rfl rfl (vs := csV _ (.slice _ _ _)) rfl rfl rfl (Nat.le_of_ble_eq_true rfl) (cs' := csV _ (.slice _ _ _)) rfl ?_
      refine rl_end (ρ' := [(0, _), (1, _), (5, _), (6, _), (7, _)]) ⟨rfl, rfl, rfl, rfl, rfl, trivial⟩ ?_
      refine q_block ?_
      refine q_then ?_
      refine wc_region ?_
      refine ym rfl rfl ?_
      refine rl_y (y_add rfl rfl rfl (wrap64_id (by omega))) rfl ?_
      refine ya rfl rfl ?_
      refine rl_end (ρ' := [(0, _), (1, _), (5, _), (6, _), (7, _)]) ⟨rfl, rfl, rfl, rfl, rfl, trivial⟩ ?_
      refine q_thenK ?_
      refine ⟨m - 1, [(0, _), (1, _), (5, _), (6, _), (7, _)], [(5, _), (6, _), (1000, _)], by omega, ⟨rfl, rfl, rfl, rfl, rfl, trivial⟩, ⟨rfl, rfl, rfl, trivial⟩, i + 1, by omega, (hle2.trans (hlc17.trans hle1)), a6, c6, l6, (by simp only [hst, hkf, hg17_3, Bool.true_and, Bool.false_and]), (by first | rfl | simp), ?_⟩
      simp only [hst, hkf, hg17_3, Bool.true_and, Bool.false_and]
      exact ha6
     ·
      simp only [hg17_3]
      refine rl_off rfl rfl rfl rfl ?_
      refine rl_off rfl rfl rfl rfl ?_
      refine rl_off rfl rfl rfl rfl ?_
      refine rl_y (y_pick_f rfl rfl rfl) rfl ?_
      refine rl_y (y_load_p rfl Tryz.k108 rfl rfl rfl (vs := csV Z (.slice a5 Z.out.length c5)) rfl rfl rfl) rfl ?_
      refine rl_do rfl rfl ?_
      refine do_call_o (caps := []) (ρ' := [(0, _), (1, _), (5, _), (6, _), (7, _)]) [1000] [] trivial rfl rfl rfl Tryz.c65 rfl rfl ⟨rfl, rfl, rfl, rfl, rfl, trivial⟩ rfl rfl rfl (FnO.mono (ih (szB kids) (by omega) vk kids _ Z a5 c5 l5 (B + szB (List.take i bs) + 1) uc17 (Nat.le_refl _) (by omega) hZl (s4.mono hlc17) ha5) ?_)
      rintro v u1 l1 hle1 ⟨a6, c6, l6, rfl, rfl, ha6⟩ -
      refine ⟨⟨fun _ h => h, trivial⟩, ?_⟩
      refine rl_do rfl rfl ?_
      refine do_store_p trivial rfl Tryz.k108 rfl rfl rfl (vs := csV _ (.slice _ _ _)) rfl rfl rfl (Nat.le_of_ble_eq_true rfl) (cs' := csV _ (.slice _ _ _)) rfl ?_
      refine rl_end (ρ' := [(0, _), (1, _), (5, _), (6, _), (7, _)]) ⟨rfl, rfl, rfl, rfl, rfl, trivial⟩ ?_
      refine q_block ?_
      refine q_then ?_
      refine wc_region ?_
      refine ym rfl rfl ?_
      refine rl_y (y_add rfl rfl rfl (wrap64_id (by omega))) rfl ?_
      refine ya rfl rfl ?_
      refine rl_end (ρ' := [(0, _), (1, _), (5, _), (6, _), (7, _)]) ⟨rfl, rfl, rfl, rfl, rfl, trivial⟩ ?_
      refine q_thenK ?_
      refine ⟨m - 1, [(0, _), (1, _), (5, _), (6, _), (7, _)], [(5, _), (6, _), (1000, _)], by omega, ⟨rfl, rfl, rfl, rfl, rfl, trivial⟩, ⟨rfl, rfl, rfl, trivial⟩, i + 1, by omega, (hle2.trans (hlc17.trans hle1)), a6, c6, l6, (by simp only [hst, hkf, hg17_3, Bool.true_and, Bool.false_and]), (by first | rfl | simp), ?_⟩
      simp only [hst, hkf, hg17_3, Bool.true_and, Bool.false_and]
      exact ha6
  ·
   refine wc_exit ?_
   refine q_then_exit ?_
   refine q_then_exit ?_
   refine q_block_hit ?_
   refine q_then ?_
   refine wc_seq ?_
   refine wc_region ?_
   refine rl_y (y_load_p rfl Tryz.k108 rfl rfl rfl (vs := [_, _, _, _, _, _, _, _, _, _, _, _]) rfl rfl rfl) rfl ?_
   refine rl_do rfl rfl ?_
   refine do_store_p trivial rfl Tryz.k108 rfl rfl rfl (vs := [_, _, _, _, _, _, _, _, _, _, _, _]) rfl rfl (by first | rfl | assumption | simp [Value.oneCell', str]) (Nat.le_of_ble_eq_true rfl) rfl ?_
   refine rl_end (ρ' := [(6, _)]) ⟨rfl, trivial⟩ ?_
   refine q_then ?_
   refine wc_ret ?_
   refine finO1 [1000] (.cell rfl rfl Tryz.k108 (cs := _) (vs := [_, _, _, _, _, _, _, _, _, _, _, _]) rfl rfl rfl) rfl rfl ?_
   have hge := of_decide_eq_false hb2
   rw [List.take_of_length_le (by omega)] at hai ⊢
   exact ⟨_, _, _, rfl, rfl, hai⟩
set_option linter.unusedSimpArgs false
set_option linter.unusedVariables false
set_option maxRecDepth 4000
def cs0 : Cs := ⟨fun _ => 0, fun _ => 0, []⟩
def noteNums (l : List Bs) : List DNum := (List.range l.length).map fun i => ⟨l.getD i [], notS, dec (i + 1), []⟩
def noteNumsTo (l : List Bs) (i : Nat) : List DNum := (List.range i).map fun i => ⟨l.getD i [], notS, dec (i + 1), []⟩
theorem noteNumsTo_succ (l : List Bs) (i : Nat) : noteNumsTo l (i + 1) = noteNumsTo l i ++ [⟨l.getD i [], notS, dec (i + 1), []⟩] := by simp [noteNumsTo, List.range_succ]
def numsOf (bs : List Blk) : List DNum := (numbB true cs0 bs).out ++ noteNums (notesOf bs)
theorem cs0_le : CsLe 0 cs0 := ⟨fun _ => Nat.le_refl _, fun _ => Nat.le_refl _, Nat.le_refl _⟩
theorem notesOf_len (bs : List Blk) : (notesOf bs).length ≤ szB bs := by
 have h1 := notesIn_len (noteNames (listB bs)) (inls (listB bs))
 have h2 := inls_len (listB bs)
 have h3 := szL_listB bs
 unfold notesOf
 omega
set_option maxHeartbeats 2000000 in
theorem refNumbers_fn (vm vb : Value) (bs : List Blk) (u : View) (hbig : szB bs ≤ 10000) (ha : BlkS u vb bs) :
  FnP Tryz.prog 30 [.agg #[vm, vb]] u fun r u' => NumS u' r (numsOf bs) := by
 have hle := numbB_le (free := true) bs 0 cs0 cs0_le
 have hlo := hle.2.2
 have hnl := notesOf_len bs
 refine FnP.intro [.tmp 2] Tryz.func30 rfl rfl rfl ?_
 intro w0 D hw0
 refine wc_seq ?_
 refine wc_region ?_
 refine rl_do rfl rfl ?_
 refine do_box trivial rfl (cs := [_, _]) rfl rfl rfl rfl ?_
 refine ya rfl rfl ?_
 refine rl_end (ρ' := [(1, _)]) ⟨rfl, trivial⟩ ?_
 refine q_then ?_
 refine wc_seq ?_
 refine wc_region ?_
 refine rl_y (y_field_p rfl Tryz.f25' rfl (by decide) rfl) rfl ?_
 refine rl_y (y_load_p rfl Tryz.k23 rfl rfl rfl (vs := [_]) rfl rfl rfl) rfl ?_
 refine rl_y (y_build rfl Tryz.f108' Tryz.z108 (ps := []) rfl (vs := [_, _, _, _, _, _, _, _, _, _, _, _]) rfl) rfl ?_
 refine rl_nilW 600 50 4 rfl rfl ?_
 refine rl_do rfl rfl ?_
 refine do_call_o (caps := []) (ρ' := [(1, _)]) [600] [] trivial rfl rfl rfl Tryz.c65 rfl rfl ⟨rfl, trivial⟩ rfl rfl rfl (FnO.mono (numbered_fn (szB bs) vb bs true cs0 none 0 [] 0 u (Nat.le_refl _) (by omega) cs0_le ha rfl) ?_)
 rintro v u1 l1 hle1 ⟨a1, c1, l1, rfl, rfl, hn1⟩ -
 refine ⟨⟨fun _ h => h, trivial⟩, ?_⟩
 refine rl_do rfl rfl ?_
 refine do_alloc trivial Tryz.z108 rfl rfl rfl ?_
 refine rl_do rfl rfl ?_
 refine do_store_p trivial rfl Tryz.k108 rfl rfl rfl (vs := csV _ (.slice _ _ _)) rfl rfl rfl (Nat.le_of_ble_eq_true rfl) (cs' := csV (numbB true cs0 bs) (.slice a1 (numbB true cs0 bs).out.length c1)) rfl ?_
 refine rl_end (ρ' := [(1, _), (3, _)]) ⟨rfl, rfl, trivial⟩ ?_
 refine q_then ?_
 refine wc_seq ?_
 refine wc_region ?_
 refine rl_y (y_load_p rfl Tryz.k25 rfl rfl rfl (vs := [_, _]) rfl rfl rfl) rfl ?_
 refine rl_do rfl rfl ?_
 refine do_call (caps := []) trivial rfl rfl Tryz.c66 rfl (FnP.mono (refNotes_fn vm vb bs u1 (by omega) (ha.mono hle1)) ?_)
 rintro v uN hle0 ⟨nad, ncap, rfl, hns⟩ hleN
 refine ya rfl rfl ?_
 refine rl_end (ρ' := [(3, _), (4, _)]) ⟨rfl, rfl, trivial⟩ ?_
 refine q_then ?_
 refine wc_seq ?_
 refine wc_seq ?_
 refine wc_region ?_
 refine ya rfl rfl ?_
 refine rl_end (ρ' := [(3, _), (4, _), (5, _)]) ⟨rfl, rfl, rfl, trivial⟩ ?_
 refine q_then ?_
 refine wc_block ?_
 refine wc_loop (fun m ρ σ u' => ∃ i : Nat, i + m = (notesOf bs).length ∧ VLe uN u' ∧ ∃ (ai : Option Addr) (ci : Nat) (li : List Value), σ = [(3, (none, .box (csV (numbB true cs0 bs) (.slice ai ((numbB true cs0 bs).out.length + i) ci)))), (600, (none, .rwv (.slice ai ((numbB true cs0 bs).out.length + i) ci) 50 4 ((numbB true cs0 bs).out.length + i) li))] ∧ ρ = [(3, .p 3 0), (4, .v (.slice nad (notesOf bs).length ncap)), (5, .v (.int .i64 i))] ∧ (uN = u' ∧ NumsC uN ((numbB true cs0 bs).out ++ noteNumsTo (notesOf bs) i) li)) ((notesOf bs).length) ?_ ?_
 ·
  refine ⟨[(3, _), (4, _), (5, _)], [(3, _), (600, _)], ⟨rfl, rfl, rfl, trivial⟩, ⟨rfl, rfl, trivial⟩, 0, by omega, VLe.refl _, a1, c1, l1, (by first | rfl | simp), (by first | rfl | (simp only [List.cons.injEq, Prod.mk.injEq, SV.v.injEq, Value.int.injEq, true_and, and_true]; omega) | simp), ?_⟩
  exact ⟨rfl, by simpa [noteNumsTo] using hn1.mono hleN⟩
 ·
  rintro m ρ σ u' ⟨i, hi4, hle4, ai, ci, li, rfl, rfl, ⟨rfl, hli⟩⟩
  refine wc_seq ?_
  refine wc_seq ?_
  refine wc_region ?_
  refine ym rfl rfl ?_
  refine ym rfl rfl ?_
  refine rl_y (y_len_v rfl rfl Tryz.s37 rfl) rfl ?_
  refine rl_y (y_lss rfl rfl rfl) rfl ?_
  refine rl_end (ρ' := [(3, _), (4, _), (5, _), (15, _)]) ⟨rfl, rfl, rfl, rfl, trivial⟩ ?_
  refine q_then ?_
  refine wc_cond rfl (fun hb4 => ?_) (fun hb4 => ?_)
  ·
   refine wc_skip ?_
   refine q_then ?_
   refine wc_seq ?_
   refine wc_block ?_
   have hlt : i < (notesOf bs).length := by have := of_decide_eq_true hb4; omega
   have hg := List.getElem?_eq_getElem hlt
   have hcut := cut_strsC hg
   refine wc_draw Tryz.mixed rfl [] trivial ?_
   refine ra_y (i := 0) rfl (by kernel_rfl) (by kernel_rfl) (by kernel_rfl) (np_block (np_then (np_then (np_block (np_then (np_fin)))))) (y_field_p rfl Tryz.f108' rfl (by decide) rfl) rfl ?_
   refine ra_y (i := 2) rfl (by kernel_rfl) (by kernel_rfl) (by kernel_rfl) (np_block (np_then (np_then (np_block (np_then (np_fin)))))) (y_move rfl rfl) rfl ?_
   refine ra_y (i := 3) rfl (by kernel_rfl) (by kernel_rfl) (by kernel_rfl) (np_block (np_then (np_then (np_block (np_then (np_fin)))))) (y_move rfl rfl) rfl ?_
   refine ra_y (i := 4) rfl (by kernel_rfl) (by kernel_rfl) (by kernel_rfl) (np_block (np_then (np_then (np_block (np_then (np_fin)))))) (y_index_e rfl Tryz.s37 rfl rfl (by assumption) (by first | rfl | omega) (by omega)) rfl ?_
   refine ra_y (i := 5) rfl (by kernel_rfl) (by kernel_rfl) (by kernel_rfl) (np_block (np_then (np_then (np_block (np_then (np_fin)))))) (y_load_el rfl Tryz.k9 rfl (by assumption) (by omega) (by assumption) (vs := [_]) rfl rfl rfl rfl) rfl ?_
   refine ra_y (i := 6) rfl (by kernel_rfl) (by kernel_rfl) (by kernel_rfl) (np_block (np_then (np_then (np_block (np_then (np_fin)))))) (y_move rfl rfl) rfl ?_
   refine ra_y (i := 7) rfl (by kernel_rfl) (by kernel_rfl) (by kernel_rfl) (np_block (np_then (np_then (np_block (np_then (np_fin)))))) (y_add rfl rfl rfl (wrap64_id (by omega))) rfl ?_
   refine ra_all (is := [1, 8]) (by kernel_rfl) rfl ?_
   refine raall_cons rfl rfl ?_ ?_
   ·
    refine do_y (y_load_p rfl Tryz.k47 rfl rfl rfl (vs := [_]) rfl rfl rfl) rfl ?_
    refine ra_do (i := 8) rfl rfl (by kernel_rfl) ?_
    refine do_call_f (caps := []) trivial rfl rfl Tryz.c67 rfl (FnP.mono (num_fn (i + 1) (by omega) uN) ?_)
    rintro v u1 hle1 rfl
    refine ra_y (i := 9) rfl (by kernel_rfl) (by kernel_rfl) (by kernel_rfl) (np_block (np_then (np_then (np_block (np_then (np_fin)))))) (y_build rfl Tryz.f50' Tryz.z50 (ps := [(_, _), (_, _), (_, _)]) rfl (vs := [_, _, _, _]) rfl) rfl ?_
    refine ra_do (i := 10) rfl rfl (by kernel_rfl) ?_
    refine do_buildSlice trivial Tryz.s47 Tryz.z50 (ps := [(_, _)]) rfl (xs := [_, _, _, _]) rfl rfl rfl rfl rfl rfl rfl ?_
    refine ra_do (i := 11) rfl rfl (by kernel_rfl) ?_
    refine do_append_w_s 600 trivial rfl rfl Tryz.s47 Tryz.z50 rfl rfl rfl rfl rfl rfl (by simp [Value.oneCell', str]) (by omega) (by omega) rfl rfl ?_
    intro a2 c2
    refine ra_y (i := 12) rfl (by kernel_rfl) (by kernel_rfl) (by kernel_rfl) (np_block (np_then (np_then (np_block (np_then (np_fin)))))) (y_field_p rfl Tryz.f108' rfl (by decide) rfl) rfl ?_
    refine ra_do (i := 13) rfl rfl (by kernel_rfl) ?_
    refine do_store_p trivial rfl Tryz.k47 rfl rfl rfl (vs := [_]) rfl rfl (by first | rfl | assumption | simp [Value.oneCell', str]) (Nat.le_of_ble_eq_true rfl) rfl ?_
    refine ra_end (by kernel_rfl) (ρ' := [(3, _), (4, _), (5, _)]) ⟨rfl, rfl, rfl, trivial⟩ ?_
    refine q_block ?_
    refine q_then ?_
    refine wc_region ?_
    refine ym rfl rfl ?_
    refine rl_y (y_add rfl rfl rfl (wrap64_id (by omega))) rfl ?_
    refine ya rfl rfl ?_
    refine rl_end (ρ' := [(3, _), (4, _), (5, _)]) ⟨rfl, rfl, rfl, trivial⟩ ?_
    refine q_thenK ?_
    refine ⟨m - 1, [(3, _), (4, _), (5, _)], [(3, _), (600, _)], by omega, ⟨rfl, rfl, rfl, trivial⟩, ⟨rfl, rfl, trivial⟩, i + 1, by omega, hle4, a2, c2, li ++ [str (notesOf bs)[i], str notS, str (dec (i + 1)), .slice none 0 0], (by first | rfl | simp), (by first | rfl | (simp only [List.cons.injEq, Prod.mk.injEq, SV.v.injEq, Value.int.injEq, true_and, and_true]; omega) | simp), ?_⟩
    refine ⟨rfl, ?_⟩
    rw [noteNumsTo_succ, ← List.append_assoc]
    refine hli.snoc ⟨_, ?_, nilInl _⟩
    simp [hlt]
   refine raall_cons rfl rfl ?_ ?_
   ·
    refine do_call_f (caps := []) trivial rfl rfl Tryz.c67 rfl (FnP.mono (num_fn (i + 1) (by omega) uN) ?_)
    rintro v u1 hle1 rfl
    refine ra_y (i := 9) rfl (by kernel_rfl) (by kernel_rfl) (by kernel_rfl) (np_block (np_then (np_then (np_block (np_then (np_fin)))))) (y_build rfl Tryz.f50' Tryz.z50 (ps := [(_, _), (_, _), (_, _)]) rfl (vs := [_, _, _, _]) rfl) rfl ?_
    refine ra_all (is := [1, 10]) (by kernel_rfl) rfl ?_
    refine raall_cons rfl rfl ?_ ?_
    ·
     refine do_y (y_load_p rfl Tryz.k47 rfl rfl rfl (vs := [_]) rfl rfl rfl) rfl ?_
     refine ra_do (i := 10) rfl rfl (by kernel_rfl) ?_
     refine do_buildSlice trivial Tryz.s47 Tryz.z50 (ps := [(_, _)]) rfl (xs := [_, _, _, _]) rfl rfl rfl rfl rfl rfl rfl ?_
     refine ra_do (i := 11) rfl rfl (by kernel_rfl) ?_
     refine do_append_w_s 600 trivial rfl rfl Tryz.s47 Tryz.z50 rfl rfl rfl rfl rfl rfl (by simp [Value.oneCell', str]) (by omega) (by omega) rfl rfl ?_
     intro a2 c2
     refine ra_y (i := 12) rfl (by kernel_rfl) (by kernel_rfl) (by kernel_rfl) (np_block (np_then (np_then (np_block (np_then (np_fin)))))) (y_field_p rfl Tryz.f108' rfl (by decide) rfl) rfl ?_
     refine ra_do (i := 13) rfl rfl (by kernel_rfl) ?_
     refine do_store_p trivial rfl Tryz.k47 rfl rfl rfl (vs := [_]) rfl rfl (by first | rfl | assumption | simp [Value.oneCell', str]) (Nat.le_of_ble_eq_true rfl) rfl ?_
     refine ra_end (by kernel_rfl) (ρ' := [(3, _), (4, _), (5, _)]) ⟨rfl, rfl, rfl, trivial⟩ ?_
     refine q_block ?_
     refine q_then ?_
     refine wc_region ?_
     refine ym rfl rfl ?_
     refine rl_y (y_add rfl rfl rfl (wrap64_id (by omega))) rfl ?_
     refine ya rfl rfl ?_
     refine rl_end (ρ' := [(3, _), (4, _), (5, _)]) ⟨rfl, rfl, rfl, trivial⟩ ?_
     refine q_thenK ?_
     refine ⟨m - 1, [(3, _), (4, _), (5, _)], [(3, _), (600, _)], by omega, ⟨rfl, rfl, rfl, trivial⟩, ⟨rfl, rfl, trivial⟩, i + 1, by omega, hle4, a2, c2, li ++ [str (notesOf bs)[i], str notS, str (dec (i + 1)), .slice none 0 0], (by first | rfl | simp), (by first | rfl | (simp only [List.cons.injEq, Prod.mk.injEq, SV.v.injEq, Value.int.injEq, true_and, and_true]; omega) | simp), ?_⟩
     refine ⟨rfl, ?_⟩
     rw [noteNumsTo_succ, ← List.append_assoc]
     refine hli.snoc ⟨_, ?_, nilInl _⟩
     simp [hlt]
    refine raall_cons rfl rfl ?_ ?_
    ·
     refine do_buildSlice trivial Tryz.s47 Tryz.z50 (ps := [(_, _)]) rfl (xs := [_, _, _, _]) rfl rfl rfl rfl rfl rfl rfl ?_
     refine ra_do (i := 1) rfl rfl (by kernel_rfl) ?_
     refine do_y (y_load_p rfl Tryz.k47 rfl rfl rfl (vs := [_]) rfl rfl rfl) rfl ?_
     refine ra_do (i := 11) rfl rfl (by kernel_rfl) ?_
     refine do_append_w_s 600 trivial rfl rfl Tryz.s47 Tryz.z50 rfl rfl rfl rfl rfl rfl (by simp [Value.oneCell', str]) (by omega) (by omega) rfl rfl ?_
     intro a2 c2
     refine ra_y (i := 12) rfl (by kernel_rfl) (by kernel_rfl) (by kernel_rfl) (np_block (np_then (np_then (np_block (np_then (np_fin)))))) (y_field_p rfl Tryz.f108' rfl (by decide) rfl) rfl ?_
     refine ra_do (i := 13) rfl rfl (by kernel_rfl) ?_
     refine do_store_p trivial rfl Tryz.k47 rfl rfl rfl (vs := [_]) rfl rfl (by first | rfl | assumption | simp [Value.oneCell', str]) (Nat.le_of_ble_eq_true rfl) rfl ?_
     refine ra_end (by kernel_rfl) (ρ' := [(3, _), (4, _), (5, _)]) ⟨rfl, rfl, rfl, trivial⟩ ?_
     refine q_block ?_
     refine q_then ?_
     refine wc_region ?_
     refine ym rfl rfl ?_
     refine rl_y (y_add rfl rfl rfl (wrap64_id (by omega))) rfl ?_
     refine ya rfl rfl ?_
     refine rl_end (ρ' := [(3, _), (4, _), (5, _)]) ⟨rfl, rfl, rfl, trivial⟩ ?_
     refine q_thenK ?_
     refine ⟨m - 1, [(3, _), (4, _), (5, _)], [(3, _), (600, _)], by omega, ⟨rfl, rfl, rfl, trivial⟩, ⟨rfl, rfl, trivial⟩, i + 1, by omega, hle4, a2, c2, li ++ [str (notesOf bs)[i], str notS, str (dec (i + 1)), .slice none 0 0], (by first | rfl | simp), (by first | rfl | (simp only [List.cons.injEq, Prod.mk.injEq, SV.v.injEq, Value.int.injEq, true_and, and_true]; omega) | simp), ?_⟩
     refine ⟨rfl, ?_⟩
     rw [noteNumsTo_succ, ← List.append_assoc]
     refine hli.snoc ⟨_, ?_, nilInl _⟩
     simp [hlt]
    exact raall_nil
   exact raall_nil
  ·
   refine wc_exit ?_
   refine q_then_exit ?_
   refine q_then_exit ?_
   refine q_block_hit ?_
   refine q_then ?_
   refine wc_seq ?_
   refine wc_region ?_
   refine rl_y (y_field_p rfl Tryz.f108' rfl (by decide) rfl) rfl ?_
   refine rl_y (y_load_p rfl Tryz.k47 rfl rfl rfl (vs := [_]) rfl rfl rfl) rfl ?_
   refine ya rfl rfl ?_
   refine rl_freezeW 600 rfl ?_
   intro uF hleF hF
   refine rl_end (ρ' := [(2, _)]) ⟨rfl, trivial⟩ ?_
   refine q_then ?_
   refine wc_ret ?_
   refine fin1 (.tmp rfl) ?_
   have hge := of_decide_eq_false hb4
   have hin : i = (notesOf bs).length := by omega
   subst hin
   refine ⟨li, ?_, hli.mono hleF⟩
   rw [show (numsOf bs).length = (numbB true cs0 bs).out.length + (notesOf bs).length by simp [numsOf, noteNums]]
   exact hF
theorem cloneStr_fn (v : Value) (xs : List Bs) (hx : xs.length ≤ 1000000) (u : View) (ha : StrS u v xs) : FnP Tryz.prog 108 [v] u fun r u' => StrS u' r xs := by
 obtain ⟨ad, cap, rfl, h1⟩ := ha
 have oneAll := oneCell_strs xs
 have hlen := h1.1
 refine FnP.intro [.tmp 2] Tryz.func108 rfl rfl rfl ?_
 intro w0 D hw0
 refine wc_seq ?_
 refine wc_region ?_
 refine ya rfl rfl ?_
 refine rl_end (ρ' := [(0, _)]) ⟨rfl, trivial⟩ ?_
 refine q_then ?_
 refine wc_seq ?_
 refine wc_seq ?_
 refine wc_region ?_
 refine ym rfl rfl ?_
 refine rl_y (y_eql_nil rfl Tryz.s37 rfl rfl) rfl ?_
 refine rl_end (ρ' := [(0, _), (4, _)]) ⟨rfl, rfl, trivial⟩ ?_
 refine q_then ?_
 refine wc_cond rfl (fun hb1 => ?_) (fun hb1 => ?_)
 ·
  refine wc_seq ?_
  refine wc_region ?_
  refine ya rfl rfl ?_
  refine rl_end (ρ' := [(2, _)]) ⟨rfl, trivial⟩ ?_
  refine q_then ?_
  refine wc_ret ?_
  refine q_then_ret ?_
  refine fin1 (.tmp rfl) ?_
  have h := hb1
  have h0 : xs.length = 0 := by
   cases Nat.eq_zero_or_pos xs.length with
   | inl h => exact h
   | inr hp => obtain ⟨b, off, c, T, fr, rfl, _⟩ := h1.2.2.2 (by omega); cases h
  obtain rfl := List.eq_nil_of_length_eq_zero h0
  exact nilStr _
 ·
  refine wc_skip ?_
  refine q_then ?_
  refine wc_seq ?_
  refine wc_region ?_
  refine rl_do rfl rfl ?_
  refine do_buildSlice trivial Tryz.s37 Tryz.z9 (ps := []) rfl (xs := []) rfl rfl rfl rfl rfl rfl rfl ?_
  refine ym rfl rfl ?_
  refine rl_do rfl rfl ?_
  refine do_append_v trivial rfl rfl Tryz.s37 Tryz.z9 rfl rfl rfl rfl rfl (by assumption) (by first | rfl | assumption | simp [Value.oneCell', str]) (by omega) (by omega) (ρ' := []) trivial rfl rfl rfl ?_
  refine rl_freeze 7 rfl ?_
  intro ad7 cap7 u7 hle7z hsl7
  refine ya rfl rfl ?_
  refine rl_end (ρ' := [(2, _)]) ⟨rfl, trivial⟩ ?_
  refine q_then ?_
  refine wc_ret ?_
  refine fin1 (.tmp rfl) ?_
  exact strS_of (by simp) hsl7
theorem clonePr_fn (v : Value) (xs : List (Bs × Bs)) (hx : xs.length ≤ 1000000) (u : View) (ha : PrS u v xs) : FnP Tryz.prog 130 [v] u fun r u' => PrS u' r xs := by
 obtain ⟨ad, cap, rfl, h1⟩ := ha
 have oneAll := oneCell_pairs xs
 refine FnP.intro [.tmp 2] Tryz.func130 rfl rfl rfl ?_
 intro w0 D hw0
 refine wc_seq ?_
 refine wc_region ?_
 refine ya rfl rfl ?_
 refine rl_end (ρ' := [(0, _)]) ⟨rfl, trivial⟩ ?_
 refine q_then ?_
 refine wc_seq ?_
 refine wc_seq ?_
 refine wc_region ?_
 refine ym rfl rfl ?_
 refine rl_y (y_eql_nil rfl Tryz.s22 rfl rfl) rfl ?_
 refine rl_end (ρ' := [(0, _), (4, _)]) ⟨rfl, rfl, trivial⟩ ?_
 refine q_then ?_
 refine wc_cond rfl (fun hb1 => ?_) (fun hb1 => ?_)
 ·
  refine wc_seq ?_
  refine wc_region ?_
  refine ya rfl rfl ?_
  refine rl_end (ρ' := [(2, _)]) ⟨rfl, trivial⟩ ?_
  refine q_then ?_
  refine wc_ret ?_
  refine q_then_ret ?_
  refine fin1 (.tmp rfl) ?_
  have h := hb1
  have h0 : xs.length = 0 := by
   cases Nat.eq_zero_or_pos xs.length with
   | inl h => exact h
   | inr hp => obtain ⟨b, off, c, T, fr, rfl, _⟩ := h1.2.2.2 (by omega); cases h
  obtain rfl := List.eq_nil_of_length_eq_zero h0
  exact nilPr _
 ·
  refine wc_skip ?_
  refine q_then ?_
  refine wc_seq ?_
  refine wc_region ?_
  refine rl_do rfl rfl ?_
  refine do_buildSlice trivial Tryz.s22 Tryz.z56 (ps := []) rfl (xs := []) rfl rfl rfl rfl rfl rfl rfl ?_
  refine ym rfl rfl ?_
  refine rl_do rfl rfl ?_
  refine do_append_v trivial rfl rfl Tryz.s22 Tryz.z56 rfl rfl rfl rfl rfl (by assumption) (by first | rfl | assumption | simp [Value.oneCell', str]) (by omega) (by omega) (ρ' := []) trivial rfl rfl rfl ?_
  refine rl_freeze 7 rfl ?_
  intro ad7 cap7 u7 hle7z hsl7
  refine ya rfl rfl ?_
  refine rl_end (ρ' := [(2, _)]) ⟨rfl, trivial⟩ ?_
  refine q_then ?_
  refine wc_ret ?_
  refine fin1 (.tmp rfl) ?_
  rw [Nat.zero_add] at hsl7 ⊢
  exact ⟨_, _, rfl, hsl7⟩
theorem cloneCi_fn (v : Value) (xs : List DCite) (hx : xs.length ≤ 1000000) (u : View) (ha : CiS u v xs) : FnP Tryz.prog 109 [v] u fun r u' => CiS u' r xs := by
 obtain ⟨ad, cap, rfl, h1⟩ := ha
 have oneAll := oneCell_cites xs
 refine FnP.intro [.tmp 2] Tryz.func109 rfl rfl rfl ?_
 intro w0 D hw0
 refine wc_seq ?_
 refine wc_region ?_
 refine ya rfl rfl ?_
 refine rl_end (ρ' := [(0, _)]) ⟨rfl, trivial⟩ ?_
 refine q_then ?_
 refine wc_seq ?_
 refine wc_seq ?_
 refine wc_region ?_
 refine ym rfl rfl ?_
 refine rl_y (y_eql_nil rfl Tryz.s40 rfl rfl) rfl ?_
 refine rl_end (ρ' := [(0, _), (4, _)]) ⟨rfl, rfl, trivial⟩ ?_
 refine q_then ?_
 refine wc_cond rfl (fun hb1 => ?_) (fun hb1 => ?_)
 ·
  refine wc_seq ?_
  refine wc_region ?_
  refine ya rfl rfl ?_
  refine rl_end (ρ' := [(2, _)]) ⟨rfl, trivial⟩ ?_
  refine q_then ?_
  refine wc_ret ?_
  refine q_then_ret ?_
  refine fin1 (.tmp rfl) ?_
  have h := hb1
  have h0 : xs.length = 0 := by
   cases Nat.eq_zero_or_pos xs.length with
   | inl h => exact h
   | inr hp => obtain ⟨b, off, c, T, fr, rfl, _⟩ := h1.2.2.2 (by omega); cases h
  obtain rfl := List.eq_nil_of_length_eq_zero h0
  exact nilCi _
 ·
  refine wc_skip ?_
  refine q_then ?_
  refine wc_seq ?_
  refine wc_region ?_
  refine rl_do rfl rfl ?_
  refine do_buildSlice trivial Tryz.s40 Tryz.z124 (ps := []) rfl (xs := []) rfl rfl rfl rfl rfl rfl rfl ?_
  refine ym rfl rfl ?_
  refine rl_do rfl rfl ?_
  refine do_append_v trivial rfl rfl Tryz.s40 Tryz.z124 rfl rfl rfl rfl rfl (by assumption) (by first | rfl | assumption | simp [Value.oneCell', str]) (by omega) (by omega) (ρ' := []) trivial rfl rfl rfl ?_
  refine rl_freeze 7 rfl ?_
  intro ad7 cap7 u7 hle7z hsl7
  refine ya rfl rfl ?_
  refine rl_end (ρ' := [(2, _)]) ⟨rfl, trivial⟩ ?_
  refine q_then ?_
  refine wc_ret ?_
  refine fin1 (.tmp rfl) ?_
  rw [Nat.zero_add] at hsl7 ⊢
  exact ⟨_, _, rfl, hsl7⟩
theorem copyAttr_fn (a : DAttr) (vc vp : Value) (u : View) (hc : a.classes.length ≤ 1000000) (hp : a.pairs.length ≤ 1000000) (h1 : StrS u vc a.classes) (h2 : PrS u vp a.pairs) :
  FnP Tryz.prog 107 [.agg #[str a.id, vc, vp]] u fun r u' => ∃ vc' vp', r = .agg #[str a.id, vc', vp'] ∧ StrS u' vc' a.classes ∧ PrS u' vp' a.pairs := by
 obtain ⟨ad, cap, rfl, h1⟩ := h1
 obtain ⟨ad2, cap2, rfl, h2⟩ := h2
 refine FnP.intro [.cell 2 39] Tryz.func107 rfl rfl rfl ?_
 intro w0 D hw0
 refine wc_seq ?_
 refine wc_region ?_
 refine rl_do rfl rfl ?_
 refine do_box trivial rfl (cs := [_, _, _]) rfl rfl rfl rfl ?_
 refine rl_do rfl rfl ?_
 refine do_alloc trivial Tryz.z39 rfl rfl rfl ?_
 refine rl_end (ρ' := [(1, _), (2, _)]) ⟨rfl, rfl, trivial⟩ ?_
 refine q_then ?_
 refine wc_seq ?_
 refine wc_region ?_
 refine rl_y (y_field_p rfl Tryz.f39' rfl (by decide) rfl) rfl ?_
 refine rl_y (y_load_p rfl Tryz.k37 rfl rfl rfl (vs := [_]) rfl rfl rfl) rfl ?_
 refine rl_do rfl rfl ?_
 refine do_call (caps := []) trivial rfl rfl Tryz.c108 rfl (FnP.mono (cloneStr_fn _ a.classes hc u ⟨_, _, rfl, h1⟩) ?_)
 rintro v uA hle0 ⟨ad3, cap3, rfl, h3⟩ hleA
 refine rl_y (y_field_p rfl Tryz.f39' rfl (by decide) rfl) rfl ?_
 refine rl_do rfl rfl ?_
 refine do_store_p trivial rfl Tryz.k37 rfl rfl rfl (vs := [_]) rfl rfl (by first | rfl | assumption | simp [Value.oneCell', str]) (Nat.le_of_ble_eq_true rfl) rfl ?_
 refine rl_end (ρ' := [(1, _), (2, _)]) ⟨rfl, rfl, trivial⟩ ?_
 refine q_then ?_
 refine wc_seq ?_
 refine wc_region ?_
 refine rl_y (y_field_p rfl Tryz.f39' rfl (by decide) rfl) rfl ?_
 refine rl_y (y_load_p rfl Tryz.k22 rfl rfl rfl (vs := [_]) rfl rfl rfl) rfl ?_
 refine rl_do rfl rfl ?_
 refine do_call (caps := []) trivial rfl rfl Tryz.c130 rfl (FnP.mono (clonePr_fn _ a.pairs hp uA ⟨_, _, rfl, h2.mono hleA⟩) ?_)
 rintro v uB hle0 ⟨ad4, cap4, rfl, h4⟩ hleB
 refine rl_y (y_field_p rfl Tryz.f39' rfl (by decide) rfl) rfl ?_
 refine rl_do rfl rfl ?_
 refine do_store_p trivial rfl Tryz.k22 rfl rfl rfl (vs := [_]) rfl rfl (by first | rfl | assumption | simp [Value.oneCell', str]) (Nat.le_of_ble_eq_true rfl) rfl ?_
 refine rl_end (ρ' := [(1, _), (2, _)]) ⟨rfl, rfl, trivial⟩ ?_
 refine q_then ?_
 refine wc_seq ?_
 refine wc_region ?_
 refine rl_y (y_load_p rfl Tryz.k39 rfl rfl rfl (vs := [_, _, _]) rfl rfl rfl) rfl ?_
 refine rl_do rfl rfl ?_
 refine do_store_p trivial rfl Tryz.k39 rfl rfl rfl (vs := [_, _, _]) rfl rfl (by first | rfl | assumption | simp [Value.oneCell', str]) (Nat.le_of_ble_eq_true rfl) rfl ?_
 refine rl_end (ρ' := [(2, _)]) ⟨rfl, trivial⟩ ?_
 refine q_then ?_
 refine wc_ret ?_
 refine fin1 (.cell rfl rfl Tryz.k39 (cs := _) (vs := [_, _, _]) rfl rfl rfl) ?_
 exact ⟨_, _, rfl, ⟨_, _, rfl, h3.mono hleB⟩, ⟨_, _, rfl, h4⟩⟩
theorem copyLine_fn (n : Nat) : ∀ (v : Value) (xs : List Inl) (u : View), szI xs ≤ n → szI xs ≤ 100000 → smI xs → InlS u v xs →
  FnP Tryz.prog 50 [v] u fun r u' => InlS u' r xs := by
 induction n using Nat.strongRecOn with
 | _ n ih =>
 intro v xs u hsz hbig hsm ha
 have hlx := len_szI xs
 obtain ⟨cs, ⟨ad, cap, rfl, h1⟩, hc1⟩ := ha
 refine FnP.intro [.tmp 2] Tryz.func50 rfl rfl rfl ?_
 intro w0 D hw0
 refine wc_seq ?_
 refine wc_region ?_
 refine ya rfl rfl ?_
 refine rl_end (ρ' := [(0, _)]) ⟨rfl, trivial⟩ ?_
 refine q_then ?_
 refine wc_seq ?_
 refine wc_region ?_
 refine ya rfl rfl ?_
 refine rl_own_nil 3 503 42 10 rfl rfl rfl ?_
 refine rl_end (ρ' := [(0, _), (3, _)]) ⟨rfl, rfl, trivial⟩ ?_
 refine q_then ?_
 refine wc_seq ?_
 refine wc_seq ?_
 refine wc_region ?_
 refine ym rfl rfl ?_
 refine rl_y (y_len_v rfl rfl Tryz.s35 rfl) rfl ?_
 refine ym rfl rfl ?_
 refine rl_end (ρ' := [(3, _), (6, _), (7, _), (8, _)]) ⟨rfl, rfl, rfl, rfl, trivial⟩ ?_
 refine q_then ?_
 refine wc_block ?_
 refine wc_loop (fun m ρ σ u' => ∃ i : Nat, i + m = xs.length ∧ VLe u u' ∧ ∃ (acc : List Value), σ = [(503, (none, .row 42 10 i acc))] ∧ ρ = [(3, .s 503), (6, .v (.slice ad xs.length cap)), (7, .v (.int .i64 xs.length)), (8, .v (.int .i64 i))] ∧ (InlsC u' (xs.take i) acc)) (xs.length) ?_ ?_
 ·
  refine ⟨[(3, _), (6, _), (7, _), (8, _)], [(503, _)], ⟨rfl, rfl, rfl, rfl, trivial⟩, ⟨rfl, trivial⟩, 0, by omega, VLe.refl _, [], (by first | rfl | simp), (by first | rfl | (simp only [List.cons.injEq, Prod.mk.injEq, SV.v.injEq, Value.int.injEq, true_and, and_true]; omega) | simp), ?_⟩
  exact InlsC.nil
 ·
  rintro m ρ σ u' ⟨i, hi3, hle3, acc, rfl, rfl, hacc⟩
  refine wc_seq ?_
  refine wc_region ?_
  refine rl_y (y_lss rfl rfl rfl) rfl ?_
  refine rl_end (ρ' := [(3, _), (6, _), (7, _), (8, _), (9, _)]) ⟨rfl, rfl, rfl, rfl, rfl, trivial⟩ ?_
  refine q_then ?_
  refine wc_seq ?_
  refine wc_cond rfl (fun hb3 => ?_) (fun hb3 => ?_)
  ·
   refine wc_skip ?_
   refine q_then ?_
   refine wc_seq ?_
   refine wc_block ?_
   refine wc_seq ?_
   have hlt : i < xs.length := by have := of_decide_eq_true hb3; omega
   have h1 := h1.mono hle3
   obtain ⟨k, t, d, ti, a, args, cites, kids, vc, vp, va, vt, vk, hg, hcut1, s1, s2, s3, s4, s5, hok⟩ := (hc1.mono hle3).at hlt
   have oneAll := ((hc1.mono hle3).get i _ hg).one
   rw [hcut1] at oneAll
   have hsm1 := smI_get hsm hg
   unfold smI1 at hsm1
   obtain ⟨⟨n1, n2, n3, n4, n5, n6, n7, n8⟩, hsmk⟩ := hsm1
   have hszk := szI_kids hg
   have t1 := s1
   have t2 := s2
   have t3 := s3
   have t4 := s4
   obtain ⟨ad1, cap1, rfl, s1⟩ := s1
   obtain ⟨ad2, cap2, rfl, s2⟩ := s2
   obtain ⟨ad3, cap3, rfl, s3⟩ := s3
   obtain ⟨ad4, cap4, rfl, s4⟩ := s4
   refine wc_region ?_
   refine rl_y (y_index_e rfl Tryz.s35 rfl rfl (by assumption) (by first | rfl | omega) (by omega)) rfl ?_
   refine rl_y (y_load_el rfl Tryz.k42 rfl (by assumption) (by omega) (by assumption) (vs := [_, _, _, _, _, _, _, _, _, _]) rfl rfl rfl rfl) rfl ?_
   refine rl_do rfl rfl ?_
   refine do_alloc trivial Tryz.z42 rfl rfl rfl ?_
   refine rl_do rfl rfl ?_
   refine do_store_p trivial rfl Tryz.k42 rfl rfl rfl (vs := [_, _, _, _, _, _, _, _, _, _]) rfl rfl (by first | rfl | assumption | simp [Value.oneCell', str]) (Nat.le_of_ble_eq_true rfl) rfl ?_
   refine rl_end (ρ' := [(3, _), (5, _), (6, _), (7, _), (8, _)]) ⟨rfl, rfl, rfl, rfl, rfl, trivial⟩ ?_
   refine q_then ?_
   refine wc_seq ?_
   refine wc_region ?_
   refine rl_y (y_field_p rfl Tryz.f42' rfl (by decide) rfl) rfl ?_
   refine rl_y (y_field_p rfl Tryz.f39' rfl (by decide) rfl) rfl ?_
   refine rl_y (y_load_p rfl Tryz.k37 rfl rfl rfl (vs := [_]) rfl rfl rfl) rfl ?_
   refine rl_do rfl rfl ?_
   refine do_append_nil_v trivial rfl Tryz.s37 Tryz.z9 rfl rfl rfl rfl (by assumption) (oneCell_strs _) (by omega) (by omega) rfl rfl rfl ?_
   refine rl_freeze 15 rfl ?_
   intro ad15 cap15 u15 hle15z hsl15
   refine rl_y (y_field_p rfl Tryz.f42' rfl (by decide) rfl) rfl ?_
   refine rl_y (y_field_p rfl Tryz.f39' rfl (by decide) rfl) rfl ?_
   refine rl_do rfl rfl ?_
   refine do_store_p trivial rfl Tryz.k37 rfl rfl rfl (vs := [_]) rfl rfl (by first | rfl | assumption | simp [Value.oneCell', str]) (Nat.le_of_ble_eq_true rfl) rfl ?_
   refine rl_end (ρ' := [(3, _), (5, _), (6, _), (7, _), (8, _)]) ⟨rfl, rfl, rfl, rfl, rfl, trivial⟩ ?_
   refine q_then ?_
   refine wc_seq ?_
   have s2 := s2.mono hle15z
   refine wc_region ?_
   refine rl_y (y_field_p rfl Tryz.f42' rfl (by decide) rfl) rfl ?_
   refine rl_y (y_field_p rfl Tryz.f39' rfl (by decide) rfl) rfl ?_
   refine rl_y (y_load_p rfl Tryz.k22 rfl rfl rfl (vs := [_]) rfl rfl rfl) rfl ?_
   refine rl_do rfl rfl ?_
   refine do_append_nil_v trivial rfl Tryz.s22 Tryz.z56 rfl rfl rfl rfl (by assumption) (oneCell_pairs _) (by omega) (by omega) rfl rfl rfl ?_
   refine rl_freeze 21 rfl ?_
   intro ad21 cap21 u21 hle21z hsl21
   refine rl_y (y_field_p rfl Tryz.f42' rfl (by decide) rfl) rfl ?_
   refine rl_y (y_field_p rfl Tryz.f39' rfl (by decide) rfl) rfl ?_
   refine rl_do rfl rfl ?_
   refine do_store_p trivial rfl Tryz.k22 rfl rfl rfl (vs := [_]) rfl rfl (by first | rfl | assumption | simp [Value.oneCell', str]) (Nat.le_of_ble_eq_true rfl) rfl ?_
   refine rl_end (ρ' := [(3, _), (5, _), (6, _), (7, _), (8, _)]) ⟨rfl, rfl, rfl, rfl, rfl, trivial⟩ ?_
   refine q_then ?_
   refine wc_seq ?_
   have s3 := (s3.mono hle15z).mono hle21z
   refine wc_region ?_
   refine rl_y (y_field_p rfl Tryz.f42' rfl (by decide) rfl) rfl ?_
   refine rl_y (y_load_p rfl Tryz.k37 rfl rfl rfl (vs := [_]) rfl rfl rfl) rfl ?_
   refine rl_do rfl rfl ?_
   refine do_append_nil_v trivial rfl Tryz.s37 Tryz.z9 rfl rfl rfl rfl (by assumption) (oneCell_strs _) (by omega) (by omega) rfl rfl rfl ?_
   refine rl_freeze 26 rfl ?_
   intro ad26 cap26 u26 hle26z hsl26
   refine rl_y (y_field_p rfl Tryz.f42' rfl (by decide) rfl) rfl ?_
   refine rl_do rfl rfl ?_
   refine do_store_p trivial rfl Tryz.k37 rfl rfl rfl (vs := [_]) rfl rfl (by first | rfl | assumption | simp [Value.oneCell', str]) (Nat.le_of_ble_eq_true rfl) rfl ?_
   refine rl_end (ρ' := [(3, _), (5, _), (6, _), (7, _), (8, _)]) ⟨rfl, rfl, rfl, rfl, rfl, trivial⟩ ?_
   refine q_then ?_
   refine wc_seq ?_
   have s4 := ((s4.mono hle15z).mono hle21z).mono hle26z
   refine wc_region ?_
   refine rl_y (y_field_p rfl Tryz.f42' rfl (by decide) rfl) rfl ?_
   refine rl_y (y_load_p rfl Tryz.k40 rfl rfl rfl (vs := [_]) rfl rfl rfl) rfl ?_
   refine rl_do rfl rfl ?_
   refine do_append_nil_v trivial rfl Tryz.s40 Tryz.z124 rfl rfl rfl rfl (by assumption) (oneCell_cites _) (by omega) (by omega) rfl rfl rfl ?_
   refine rl_freeze 30 rfl ?_
   intro ad30 cap30 u30 hle30z hsl30
   refine rl_y (y_field_p rfl Tryz.f42' rfl (by decide) rfl) rfl ?_
   refine rl_do rfl rfl ?_
   refine do_store_p trivial rfl Tryz.k40 rfl rfl rfl (vs := [_]) rfl rfl (by first | rfl | assumption | simp [Value.oneCell', str]) (Nat.le_of_ble_eq_true rfl) rfl ?_
   refine rl_end (ρ' := [(3, _), (5, _), (6, _), (7, _), (8, _)]) ⟨rfl, rfl, rfl, rfl, rfl, trivial⟩ ?_
   refine q_then ?_
   refine wc_seq ?_
   refine wc_region ?_
   refine rl_y (y_field_p rfl Tryz.f42' rfl (by decide) rfl) rfl ?_
   refine rl_y (y_load_p rfl Tryz.k35 rfl rfl rfl (vs := [_]) rfl rfl rfl) rfl ?_
   refine rl_do rfl rfl ?_
   refine do_call (caps := []) trivial rfl rfl Tryz.c50 rfl (FnP.mono (ih (szI kids) (by omega) vk kids u30 (Nat.le_refl _) (by omega) hsmk ((((s5.mono hle15z).mono hle21z).mono hle26z).mono hle30z)) ?_)
   rintro v uK hle0 ⟨kcs, ⟨kad, kcap, rfl, hk1⟩, hk2⟩ hleK
   refine rl_y (y_field_p rfl Tryz.f42' rfl (by decide) rfl) rfl ?_
   refine rl_do rfl rfl ?_
   refine do_store_p trivial rfl Tryz.k35 rfl rfl rfl (vs := [_]) rfl rfl (by first | rfl | assumption | simp [Value.oneCell', str]) (Nat.le_of_ble_eq_true rfl) rfl ?_
   refine rl_end (ρ' := [(3, _), (5, _), (6, _), (7, _), (8, _)]) ⟨rfl, rfl, rfl, rfl, rfl, trivial⟩ ?_
   refine q_then ?_
   refine wc_region ?_
   refine ym rfl rfl ?_
   refine rl_y (y_load_p rfl Tryz.k42 rfl rfl rfl (vs := [_, _, _, _, _, _, _, _, _, _]) rfl rfl rfl) rfl ?_
   refine rl_do rfl rfl ?_
   refine do_buildSlice trivial Tryz.s35 Tryz.z42 (ps := [(_, _)]) rfl (xs := [_, _, _, _, _, _, _, _, _, _]) rfl rfl rfl rfl rfl rfl rfl ?_
   refine rl_do rfl rfl ?_
   refine do_append_s trivial rfl rfl Tryz.s35 Tryz.z42 rfl rfl rfl rfl rfl rfl (by first | rfl | assumption | simp [Value.oneCell', str]) (by omega) (by omega) (ρ' := [(6, _), (7, _), (8, _)]) ⟨rfl, rfl, rfl, trivial⟩ rfl rfl rfl ?_
   refine ya rfl rfl ?_
   refine rl_ren 39 503 rfl rfl rfl ?_
   refine rl_end (ρ' := [(3, _), (6, _), (7, _), (8, _)]) ⟨rfl, rfl, rfl, rfl, trivial⟩ ?_
   refine q_block ?_
   refine q_then ?_
   refine wc_region ?_
   refine rl_y (y_add rfl rfl rfl (wrap64_id (by omega))) rfl ?_
   refine ym rfl rfl ?_
   refine rl_end (ρ' := [(3, _), (6, _), (7, _), (8, _)]) ⟨rfl, rfl, rfl, rfl, trivial⟩ ?_
   refine q_thenK ?_
   refine ⟨m - 1, [(3, _), (6, _), (7, _), (8, _)], [(503, _)], by omega, ⟨rfl, rfl, rfl, rfl, trivial⟩, ⟨rfl, trivial⟩, i + 1, by omega, (hle3.trans (hle15z.trans (hle21z.trans (hle26z.trans (hle30z.trans hleK))))), _, rfl, (by first | rfl | simp), ?_⟩
   rw [List.take_succ_eq_append_getElem hlt, (List.getElem?_eq_some_iff.1 hg).2]
   refine (hacc.mono (hle15z.trans (hle21z.trans (hle26z.trans (hle30z.trans hleK))))).append (InlsC.one ?_)
   exact InlC.mk' ⟨_, _, rfl, (((hsl15.mono hle21z).mono hle26z).mono hle30z).mono hleK⟩ ⟨_, _, rfl, ((hsl21.mono hle26z).mono hle30z).mono hleK⟩ ⟨_, _, rfl, (hsl26.mono hle30z).mono hleK⟩ ⟨_, _, rfl, hsl30.mono hleK⟩ ⟨kcs, ⟨kad, kcap, rfl, hk1⟩, hk2⟩ hok
  ·
   refine wc_exit ?_
   refine q_then_exit ?_
   refine q_then_exit ?_
   refine q_block_hit ?_
   refine q_then ?_
   refine wc_seq ?_
   refine wc_region ?_
   refine ym rfl rfl ?_
   refine rl_freeze 503 rfl ?_
   intro ad503 cap503 u503 hle503z hsl503
   refine ya rfl rfl ?_
   refine rl_end (ρ' := [(2, _)]) ⟨rfl, trivial⟩ ?_
   refine q_then ?_
   refine wc_ret ?_
   refine fin1 (.tmp rfl) ?_
   have hge := of_decide_eq_false hb3
   rw [List.take_of_length_le (by omega)] at hacc
   exact inlS_of (by omega) hsl503 (hacc.mono hle503z)
theorem countCaption_fn (v : Value) (bs : List Blk) (hbig : szB bs ≤ 100000) (hsm : smB bs) (u : View) (ha : BlkS u v bs) : FnP Tryz.prog 51 [v] u fun r u' => InlS u' r (capOf bs) := by
 have hlb := len_szB bs
 obtain ⟨cs, ⟨ad, cap, rfl, h1⟩, hc1⟩ := ha
 refine FnP.intro [.tmp 2] Tryz.func51 rfl rfl rfl ?_
 intro w0 D hw0
 refine wc_seq ?_
 refine wc_region ?_
 refine ya rfl rfl ?_
 refine rl_end (ρ' := [(0, _)]) ⟨rfl, trivial⟩ ?_
 refine q_then ?_
 refine wc_seq ?_
 refine wc_seq ?_
 refine wc_region ?_
 refine ym rfl rfl ?_
 refine rl_y (y_len_v rfl rfl Tryz.s23 rfl) rfl ?_
 refine ym rfl rfl ?_
 refine rl_end (ρ' := [(5, _), (6, _), (7, _)]) ⟨rfl, rfl, rfl, trivial⟩ ?_
 refine q_then ?_
 refine wc_block ?_
 refine wc_loop (fun m ρ σ u' => ∃ i : Nat, i + m = bs.length ∧ VLe u u' ∧ σ = [] ∧ ρ = [(5, .v (.slice ad bs.length cap)), (6, .v (.int .i64 bs.length)), (7, .v (.int .i64 i))] ∧ (u = u' ∧ capOf bs = firstPara (bs.drop (if i = 0 then 1 else i)))) (bs.length) ?_ ?_
 ·
  refine ⟨[(5, _), (6, _), (7, _)], [], ⟨rfl, rfl, rfl, trivial⟩, trivial, 0, by omega, VLe.refl _, (by first | rfl | simp), (by first | rfl | (simp only [List.cons.injEq, Prod.mk.injEq, SV.v.injEq, Value.int.injEq, true_and, and_true]; omega) | simp), ?_⟩
  exact ⟨rfl, rfl⟩
 ·
  rintro m ρ σ u' ⟨i, hi2, hle2, rfl, rfl, ⟨rfl, hinv⟩⟩
  refine wc_seq ?_
  refine wc_region ?_
  refine rl_y (y_lss rfl rfl rfl) rfl ?_
  refine rl_end (ρ' := [(5, _), (6, _), (7, _), (8, _)]) ⟨rfl, rfl, rfl, rfl, trivial⟩ ?_
  refine q_then ?_
  refine wc_seq ?_
  refine wc_cond rfl (fun hb2 => ?_) (fun hb2 => ?_)
  ·
   refine wc_skip ?_
   refine q_then ?_
   refine wc_seq ?_
   refine wc_block ?_
   refine wc_seq ?_
   have hlt := of_decide_eq_true hb2
   obtain ⟨k, lv, inf, t, d, ti, a, line, kids, vc, vp, vl, vk, hg, hcut1, s1, s2, s3, s4, hok⟩ := hc1.at (i := i) (by omega)
   have oneAll := (hc1.get i _ hg).one
   rw [hcut1] at oneAll
   have hst := firstPara_drop hg
   have hsm1 := smB_get hsm hg
   have hsz1 := szB_kids hg
   unfold smB1 at hsm1
   refine wc_region ?_
   refine ym rfl rfl ?_
   refine rl_y (y_index_e rfl Tryz.s23 rfl rfl (by assumption) (by first | rfl | omega) (by omega)) rfl ?_
   refine rl_y (y_load_el rfl Tryz.k59 rfl (by assumption) (by omega) (by assumption) (vs := [_, _, _, _, _, _, _, _, _, _, _]) rfl rfl rfl rfl) rfl ?_
   refine rl_do rfl rfl ?_
   refine do_alloc trivial Tryz.z59 rfl rfl rfl ?_
   refine ya rfl rfl ?_
   refine rl_do rfl rfl ?_
   refine do_store_p trivial rfl Tryz.k59 rfl rfl rfl (vs := [_, _, _, _, _, _, _, _, _, _, _]) rfl rfl (by first | rfl | assumption | simp [Value.oneCell', str]) (Nat.le_of_ble_eq_true rfl) rfl ?_
   refine rl_end (ρ' := [(3, _), (4, _), (5, _), (6, _), (7, _)]) ⟨rfl, rfl, rfl, rfl, rfl, trivial⟩ ?_
   refine q_then ?_
   refine wc_seq ?_
   refine wc_cutB 18 (decide (0 < i ∧ k = 1)) (ρk := [(4, _), (5, _), (6, _), (7, _)]) ⟨rfl, rfl, rfl, rfl, trivial⟩ ?_ ?_
   ·
    refine wc_region ?_
    refine ym rfl rfl ?_
    refine rl_y (y_gtr rfl rfl rfl) rfl ?_
    refine ym rfl rfl ?_
    rcases Bool.eq_false_or_eq_true (decide ((0 : Int) < i)) with hg4_2 | hg4_2
    ·
     simp only [hg4_2]
     refine rl_on rfl rfl ?_
     refine rl_y (y_field_p rfl Tryz.f59' rfl (by decide) rfl) rfl ?_
     refine rl_on rfl rfl ?_
     refine rl_y (y_load_p rfl Tryz.k3 rfl rfl rfl (vs := [_]) rfl rfl rfl) rfl ?_
     refine rl_on rfl rfl ?_
     refine rl_y (y_eql rfl rfl rfl) rfl ?_
     refine rl_y (y_pick_t rfl rfl rfl) rfl ?_
     exact cutB_end rfl ⟨rfl, rfl, rfl, rfl, trivial⟩ (by first | simp_all | (simp_all; omega))
    ·
     simp only [hg4_2]
     refine rl_off rfl rfl rfl rfl ?_
     refine rl_off rfl rfl rfl rfl ?_
     refine rl_off rfl rfl rfl rfl ?_
     refine rl_y (y_pick_f rfl rfl rfl) rfl ?_
     exact cutB_end rfl ⟨rfl, rfl, rfl, rfl, trivial⟩ (by first | simp_all | (simp_all; omega))
   refine q_then ?_
   refine wc_cond rfl (fun hb4 => ?_) (fun hb4 => ?_)
   ·
    refine wc_seq ?_
    refine wc_region ?_
    refine rl_y (y_field_p rfl Tryz.f59' rfl (by decide) rfl) rfl ?_
    refine rl_y (y_load_p rfl Tryz.k35 rfl rfl rfl (vs := [_]) rfl rfl rfl) rfl ?_
    refine rl_do rfl rfl ?_
    refine do_call (caps := []) trivial rfl rfl Tryz.c50 rfl (FnP.mono (copyLine_fn (szI line) vl line u (Nat.le_refl _) (by omega) hsm1.2.2.2.2.1 s3) ?_)
    rintro v u1 hle0 hcp hle1
    refine ya rfl rfl ?_
    refine rl_end (ρ' := [(2, _)]) ⟨rfl, trivial⟩ ?_
    refine q_then ?_
    refine wc_ret ?_
    refine q_block_ret ?_
    refine q_then_ret ?_
    refine q_then_ret ?_
    refine q_block_ret ?_
    refine q_then_ret ?_
    refine fin1 (.tmp rfl) ?_
    have h4 := of_decide_eq_true hb4
    rw [if_neg (by omega), hst, if_pos h4.2] at hinv
    rw [hinv]
    exact hcp
   ·
    refine wc_skip ?_
    refine q_block ?_
    refine q_then ?_
    refine wc_region ?_
    refine rl_y (y_add rfl rfl rfl (wrap64_id (by omega))) rfl ?_
    refine ym rfl rfl ?_
    refine rl_end (ρ' := [(5, _), (6, _), (7, _)]) ⟨rfl, rfl, rfl, trivial⟩ ?_
    refine q_thenK ?_
    refine ⟨m - 1, [(5, _), (6, _), (7, _)], [], by omega, ⟨rfl, rfl, rfl, trivial⟩, trivial, i + 1, by omega, hle2, (by first | rfl | simp), (by first | rfl | (simp only [List.cons.injEq, Prod.mk.injEq, SV.v.injEq, Value.int.injEq, true_and, and_true]; omega) | simp), ?_⟩
    have h4 := of_decide_eq_false hb4
    refine ⟨rfl, ?_⟩
    rw [if_neg (Nat.succ_ne_zero i)]
    by_cases h0 : i = 0
    ·
     subst h0; exact hinv
    ·
     rw [hinv, if_neg h0, hst, if_neg (fun h => h4 ⟨by omega, h⟩)]
  ·
   refine wc_exit ?_
   refine q_then_exit ?_
   refine q_then_exit ?_
   refine q_block_hit ?_
   refine q_then ?_
   refine wc_seq ?_
   refine wc_region ?_
   refine ya rfl rfl ?_
   refine rl_end (ρ' := [(2, _)]) ⟨rfl, trivial⟩ ?_
   refine q_then ?_
   refine wc_ret ?_
   refine fin1 (.tmp rfl) ?_
   have hge := of_decide_eq_false hb2
   rw [hinv, List.drop_eq_nil_of_le (by split <;> omega)]
   exact nilInl _
def knS (n : Nat) : Bs := if n = 0 then [] else kindS n
def kindOfS (k : Int) (free : Bool) (inf id : Bs) : Bs := if k = 2 ∧ free = true then secS else knS (kindN k inf id)
theorem kindOf_fn (k lv : Int) (inf t d ti id : Bs) (vc vp vl vk : Value) (free : Bool) (u : View) : FnP Tryz.prog 48 [.agg (blkV k lv inf t d ti id vc vp vl vk).toArray, .bool free] u fun r _ => r = str (kindOfS k free inf id) := by
 refine FnP.intro [.tmp 4] Tryz.func48 rfl rfl rfl ?_
 intro w0 D hw0
 refine wc_seq ?_
 refine wc_region ?_
 refine rl_do rfl rfl ?_
 refine do_box trivial rfl (cs := [_, _, _, _, _, _, _, _, _, _, _]) rfl rfl rfl rfl ?_
 refine ya rfl rfl ?_
 refine rl_end (ρ' := [(1, _), (2, _)]) ⟨rfl, rfl, trivial⟩ ?_
 refine q_then ?_
 refine wc_seq ?_
 refine wc_block ?_
 refine wc_seq ?_
 refine wc_cutB 5 (decide (k = 2 ∧ free = true)) (ρk := [(2, _)]) ⟨rfl, trivial⟩ ?_ ?_
 ·
  refine wc_region ?_
  refine rl_y (y_field_p rfl Tryz.f59' rfl (by decide) rfl) rfl ?_
  refine rl_y (y_load_p rfl Tryz.k3 rfl rfl rfl (vs := [_]) rfl rfl rfl) rfl ?_
  refine rl_y (y_eql rfl rfl rfl) rfl ?_
  refine ym rfl rfl ?_
  rcases Bool.eq_false_or_eq_true (decide (k = 2)) with hg1_3 | hg1_3
  ·
   simp only [hg1_3]
   refine rl_on rfl rfl ?_
   refine ym rfl rfl ?_
   refine rl_y (y_pick_t rfl rfl rfl) rfl ?_
   refine ya rfl rfl ?_
   exact cutB_end rfl ⟨rfl, trivial⟩ (by simp_all)
  ·
   simp only [hg1_3]
   refine rl_off rfl rfl rfl rfl ?_
   refine rl_y (y_pick_f rfl rfl rfl) rfl ?_
   refine ya rfl rfl ?_
   exact cutB_end rfl ⟨rfl, trivial⟩ (by simp_all)
 refine q_then ?_
 refine wc_cond rfl (fun hb1 => ?_) (fun hb1 => ?_)
 ·
  refine wc_seq ?_
  refine wc_region ?_
  refine ya rfl rfl ?_
  refine rl_end (ρ' := [(4, _)]) ⟨rfl, trivial⟩ ?_
  refine q_then ?_
  refine wc_ret ?_
  refine q_block_ret ?_
  refine q_then_ret ?_
  refine fin1 (.tmp rfl) ?_
  rw [kindOfS, if_pos (of_decide_eq_true hb1)]; rfl
 ·
  refine wc_seq ?_
  refine wc_cutB 12 (decide (k = 13 ∧ (inf = figS ∨ inf = tabS))) (ρk := [(2, _)]) ⟨rfl, trivial⟩ ?_ ?_
  ·
   refine wc_region ?_
   refine rl_y (y_field_p rfl Tryz.f59' rfl (by decide) rfl) rfl ?_
   refine rl_y (y_load_p rfl Tryz.k3 rfl rfl rfl (vs := [_]) rfl rfl rfl) rfl ?_
   refine rl_y (y_eql rfl rfl rfl) rfl ?_
   refine ym rfl rfl ?_
   rcases Bool.eq_false_or_eq_true (decide (k = 13)) with hg3_3 | hg3_3
   ·
    simp only [hg3_3]
    refine rl_on rfl rfl ?_
    refine rl_y (y_field_p rfl Tryz.f59' rfl (by decide) rfl) rfl ?_
    refine rl_on rfl rfl ?_
    refine rl_y (y_load_p rfl Tryz.k9 rfl rfl rfl (vs := [_]) rfl rfl rfl) rfl ?_
    refine rl_on rfl rfl ?_
    refine rl_y (y_str_eql rfl rfl rfl) rfl ?_
    refine rl_on rfl rfl ?_
    refine ym rfl rfl ?_
    rcases Bool.eq_false_or_eq_true (decide (inf = figS)) with hg3_7 | hg3_7
    ·
     simp only [hg3_7]
     refine rl_off rfl rfl rfl rfl ?_
     refine rl_off rfl rfl rfl rfl ?_
     refine rl_off rfl rfl rfl rfl ?_
     refine rl_on rfl rfl ?_
     refine rl_y (y_pick_t rfl rfl rfl) rfl ?_
     refine rl_y (y_pick_t rfl rfl rfl) rfl ?_
     refine ya rfl rfl ?_
     exact cutB_end rfl ⟨rfl, trivial⟩ (by simp_all)
    ·
     simp only [hg3_7]
     refine rl_on rfl rfl ?_
     refine rl_y (y_field_p rfl Tryz.f59' rfl (by decide) rfl) rfl ?_
     refine rl_on rfl rfl ?_
     refine rl_y (y_load_p rfl Tryz.k9 rfl rfl rfl (vs := [_]) rfl rfl rfl) rfl ?_
     refine rl_on rfl rfl ?_
     refine rl_y (y_str_eql rfl rfl rfl) rfl ?_
     refine rl_on rfl rfl ?_
     refine rl_y (y_pick_f rfl rfl rfl) rfl ?_
     refine rl_y (y_pick_t rfl rfl rfl) rfl ?_
     refine ya rfl rfl ?_
     exact cutB_end rfl ⟨rfl, trivial⟩ (by simp_all)
   ·
    simp only [hg3_3]
    refine rl_off rfl rfl rfl rfl ?_
    refine rl_off rfl rfl rfl rfl ?_
    refine rl_off rfl rfl rfl rfl ?_
    refine rl_off rfl rfl rfl rfl ?_
    refine rl_off_u rfl rfl rfl ?_
    refine rl_off_u rfl rfl rfl ?_
    refine rl_off_u rfl rfl rfl ?_
    refine rl_off rfl rfl rfl rfl ?_
    refine rl_y (y_pick_f rfl rfl rfl) rfl ?_
    refine ya rfl rfl ?_
    exact cutB_end rfl ⟨rfl, trivial⟩ (by simp_all)
  refine q_then ?_
  refine wc_cond rfl (fun hb3 => ?_) (fun hb3 => ?_)
  ·
   refine wc_seq ?_
   refine wc_region ?_
   refine rl_y (y_field_p rfl Tryz.f59' rfl (by decide) rfl) rfl ?_
   refine rl_y (y_load_p rfl Tryz.k9 rfl rfl rfl (vs := [_]) rfl rfl rfl) rfl ?_
   refine ya rfl rfl ?_
   refine rl_end (ρ' := [(4, _)]) ⟨rfl, trivial⟩ ?_
   refine q_then ?_
   refine wc_ret ?_
   refine q_block_ret ?_
   refine q_then_ret ?_
   refine fin1 (.tmp rfl) ?_
   rw [kindOfS, if_neg (of_decide_eq_false hb1)]
   obtain ⟨hk, h | h⟩ := of_decide_eq_true hb3
   ·
    rw [h, hk]; rfl
   ·
    rw [h, hk]; rfl
  ·
   refine wc_seq ?_
   refine wc_cutB 28 (decide (k = 4 ∧ id ≠ [])) (ρk := []) trivial ?_ ?_
   ·
    refine wc_region ?_
    refine rl_y (y_field_p rfl Tryz.f59' rfl (by decide) rfl) rfl ?_
    refine rl_y (y_load_p rfl Tryz.k3 rfl rfl rfl (vs := [_]) rfl rfl rfl) rfl ?_
    refine rl_y (y_eql rfl rfl rfl) rfl ?_
    refine ym rfl rfl ?_
    rcases Bool.eq_false_or_eq_true (decide (k = 4)) with hg5_3 | hg5_3
    ·
     simp only [hg5_3]
     refine rl_on rfl rfl ?_
     refine rl_y (y_field_p rfl Tryz.f59' rfl (by decide) rfl) rfl ?_
     refine rl_on rfl rfl ?_
     refine rl_y (y_field_p rfl Tryz.f39' rfl (by decide) rfl) rfl ?_
     refine rl_on rfl rfl ?_
     refine rl_y (y_load_p rfl Tryz.k9 rfl rfl rfl (vs := [_]) rfl rfl rfl) rfl ?_
     refine rl_on rfl rfl ?_
     refine rl_y (y_str_neq rfl rfl rfl) rfl ?_
     refine rl_y (y_pick_t rfl rfl rfl) rfl ?_
     refine ya rfl rfl ?_
     exact cutB_end rfl trivial (by simp_all)
    ·
     simp only [hg5_3]
     refine rl_off rfl rfl rfl rfl ?_
     refine rl_off rfl rfl rfl rfl ?_
     refine rl_off rfl rfl rfl rfl ?_
     refine rl_off rfl rfl rfl rfl ?_
     refine rl_y (y_pick_f rfl rfl rfl) rfl ?_
     refine ya rfl rfl ?_
     exact cutB_end rfl trivial (by simp_all)
   refine q_then ?_
   refine wc_cond rfl (fun hb5 => ?_) (fun hb5 => ?_)
   ·
    refine wc_seq ?_
    refine wc_region ?_
    refine ya rfl rfl ?_
    refine rl_end (ρ' := [(4, _)]) ⟨rfl, trivial⟩ ?_
    refine q_then ?_
    refine wc_ret ?_
    refine q_block_ret ?_
    refine q_then_ret ?_
    refine fin1 (.tmp rfl) ?_
    rw [kindOfS, if_neg (of_decide_eq_false hb1)]
    have h5 := of_decide_eq_true hb5
    rw [kindN, if_neg (by omega), if_neg (by omega), if_pos h5]; rfl
   ·
    refine wc_skip ?_
    refine q_block ?_
    refine q_then ?_
    refine wc_seq ?_
    refine wc_region ?_
    refine ya rfl rfl ?_
    refine rl_end (ρ' := [(4, _)]) ⟨rfl, trivial⟩ ?_
    refine q_then ?_
    refine wc_ret ?_
    refine fin1 (.tmp rfl) ?_
    rw [kindOfS, if_neg (of_decide_eq_false hb1)]
    have h3 := of_decide_eq_false hb3
    rw [kindN, if_neg (fun h => h3 ⟨h.1, .inl h.2⟩), if_neg (fun h => h3 ⟨h.1, .inr h.2⟩), if_neg (of_decide_eq_false hb5)]; rfl
def mixF (F G : Nat → Nat) (i : Nat) : Nat → Nat := fun j => if j < i then G (j + 1) else F (j + 1)
theorem mix_zero (F G : Nat → Nat) (n : Nat) : arr n (mixF F G 0) = arr n (fun j => F (j + 1)) := arr_congr fun j _ => by unfold mixF; rw [if_neg (by omega)]
theorem mix_end (F G : Nat → Nat) (n : Nat) : arr n (mixF F G n) = arr n (fun j => G (j + 1)) := arr_congr fun j hj => by unfold mixF; rw [if_pos hj]
theorem mix_set {F G : Nat → Nat} {i n o v : Nat} (hi : i < n) (ho : o = i) (hv : v = G (i + 1)) : setAt (arr n (mixF F G i)) o [.int .i64 (v : Nat)] = arr n (mixF F G (i + 1)) := by
 rw [set_arr hi ho]
 refine arr_congr fun j hj => ?_
 unfold setF mixF
 by_cases e : j = i
 ·
  subst e; rw [if_pos rfl, if_pos (by omega), hv]
 ·
  rw [if_neg e]
  by_cases e2 : j < i
  ·
   rw [if_pos e2, if_pos (by omega)]
  ·
   rw [if_neg e2, if_neg (by omega)]
theorem mix_at (F G : Nat → Nat) (i : Nat) : mixF F G i i = F (i + 1) := if_neg (by omega)
theorem mix_at2 (F G : Nat → Nat) (i : Nat) : mixF F G (i + 1) i = G (i + 1) := if_pos (by omega)
def decs (F : Nat → Nat) (n : Nat) : List Bs := (List.range n).map fun j => dec (F (j + 1))
theorem decs_len (F : Nat → Nat) (n : Nat) : (decs F n).length = n := by simp [decs]
theorem decs_succ (F : Nat → Nat) (n : Nat) : decs F (n + 1) = decs F n ++ [dec (F (n + 1))] := by simp [decs, List.range_succ]
theorem decs_val (F : Nat → Nat) (n : Nat) : Lib.join (decs F n) [46] = valF F n := by
 unfold valF dots decs
 rw [List.map_map]; rfl
theorem ctrF_le {f : Nat → Nat} {B : Nat} (hf : ∀ j, f j ≤ B) (l j : Nat) : ctrF f l j ≤ B + 1 := by
 have := hf j
 unfold ctrF
 split
 ·
  omega
 ·
  split
  ·
   omega
  ·
   split <;> omega
theorem ctr_lt {F : Nat → Nat} {k i : Nat} (h : i + 1 < k) : ctrF F k (i + 1) = max (F (i + 1)) 1 := by
 unfold ctrF; rw [if_neg (by omega), if_pos h]
theorem ctr_eq {F : Nat → Nat} {k i : Nat} (h : i + 1 = k) : ctrF F k (i + 1) = F (i + 1) + 1 := by
 unfold ctrF; rw [if_neg (by omega), if_neg (by omega), if_pos h]
theorem ctr_gt {F : Nat → Nat} {k i : Nat} (h : k < i + 1) : ctrF F k (i + 1) = 0 := by
 unfold ctrF; rw [if_neg (by omega), if_neg (by omega), if_neg (by omega)]
set_option maxHeartbeats 2000000 in
theorem next_fn (F : Nat → Nat) (lv : Int) (b : Nat) (hF : ∀ j, F j ≤ 10000) (u : View) (hT : TabU u) :
  FnO Tryz.prog 49 [.pointer (some ⟨b, 0, none⟩), .int .i64 lv] u [(some b, .box (arr 6 fun j => F (j + 1)))] fun r u' l' => r = str (valF (ctrF F (clampL lv)) (clampL lv)) ∧ l' = [(some b, .box (arr 6 fun j => ctrF F (clampL lv) (j + 1)))] := by
 have hcl := clampL_le lv
 have hkI : (lv < 1 ∧ clampL lv = 1) ∨ (6 < lv ∧ clampL lv = 6) ∨ (1 ≤ lv ∧ lv ≤ 6 ∧ (clampL lv : Int) = lv) := by
  unfold clampL
  by_cases h : lv < 1
  ·
   exact .inl ⟨h, if_pos h⟩
  ·
   by_cases h6 : 6 < lv
   ·
    exact .inr (.inl ⟨h6, by rw [if_neg h, if_pos h6]⟩)
   ·
    exact .inr (.inr ⟨by omega, by omega, by rw [if_neg h, if_neg h6]; omega⟩)
 generalize hk : clampL lv = k at *
 have hG := ctrF_le hF k
 generalize hGd : ctrF F k = G at *
 refine FnO.intro [.tmp 4] Tryz.func49 rfl rfl rfl ?_
 intro w0 D hw0
 refine wc_pin 0 1000 _ 0 rfl rfl ?_
 refine wc_seq ?_
 refine wc_region ?_
 refine ya rfl rfl ?_
 refine rl_end (ρ' := [(0, _), (1, _)]) ⟨rfl, rfl, trivial⟩ ?_
 refine q_then ?_
 refine wc_seq ?_
 refine wc_region ?_
 refine ym rfl rfl ?_
 refine rl_y (y_min (r := if (6 : Int) < lv then 6 else lv) rfl rfl rfl rfl) rfl ?_
 refine rl_y (y_max (r := ((k : Nat) : Int)) rfl rfl rfl (by rcases hkI with ⟨h, e⟩ | ⟨h, e⟩ | ⟨h, h2, e⟩ <;> by_cases h6 : (6 : Int) < lv <;> simp only [h6, if_true, if_false] <;> split <;> omega)) rfl ?_
 refine ya rfl rfl ?_
 refine rl_end (ρ' := [(0, _), (5, _)]) ⟨rfl, rfl, trivial⟩ ?_
 refine q_then ?_
 refine wc_seq ?_
 refine wc_region ?_
 refine ym rfl rfl ?_
 refine rl_do rfl rfl ?_
 refine do_make0 trivial Tryz.s37 Tryz.z9 rfl rfl (c := k) (by omega) (by omega) rfl rfl rfl ?_
 refine ya rfl rfl ?_
 refine rl_ren 12 506 rfl rfl rfl ?_
 refine rl_end (ρ' := [(0, _), (5, _), (6, _)]) ⟨rfl, rfl, rfl, trivial⟩ ?_
 refine q_then ?_
 refine wc_seq ?_
 refine wc_seq ?_
 refine wc_region ?_
 refine ym rfl rfl ?_
 refine rl_end (ρ' := [(0, _), (5, _), (6, _), (13, _)]) ⟨rfl, rfl, rfl, rfl, trivial⟩ ?_
 refine q_then ?_
 refine wc_block ?_
 refine wc_loop (fun m ρ σ u' => ∃ i : Nat, i + m = 6 ∧ VLe u u' ∧ σ = [(506, (none, .row 9 1 (min i k) (strsC (decs G (min i k))))), (1000, (some b, .box (arr 6 (mixF F G i))))] ∧ ρ = [(0, .p 1000 0), (5, .v (.int .i64 k)), (6, .s 506), (13, .v (.int .i64 i))] ∧ (u = u')) (6) ?_ ?_
 ·
  refine ⟨[(0, _), (5, _), (6, _), (13, _)], [(506, _), (1000, _)], ⟨rfl, rfl, rfl, rfl, trivial⟩, ⟨rfl, rfl, trivial⟩, 0, by omega, VLe.refl _, (by rw [mix_zero, Nat.zero_min]; rfl), rfl, ?_⟩
  rfl
 ·
  rintro m ρ σ u' ⟨i, hi4, hle4, rfl, rfl, rfl⟩
  refine wc_seq ?_
  refine wc_region ?_
  refine rl_y (y_lss rfl rfl rfl) rfl ?_
  refine rl_end (ρ' := [(0, _), (5, _), (6, _), (13, _), (14, _)]) ⟨rfl, rfl, rfl, rfl, rfl, trivial⟩ ?_
  refine q_then ?_
  refine wc_seq ?_
  refine wc_cond rfl (fun hb4 => ?_) (fun hb4 => ?_)
  ·
   refine wc_skip ?_
   refine q_then ?_
   refine wc_seq ?_
   refine wc_block ?_
   refine wc_seq ?_
   have hlt := of_decide_eq_true hb4
   refine wc_region ?_
   refine ym rfl rfl ?_
   refine ya rfl rfl ?_
   refine rl_end (ρ' := [(0, _), (5, _), (6, _), (7, _), (13, _)]) ⟨rfl, rfl, rfl, rfl, rfl, trivial⟩ ?_
   refine q_then ?_
   refine wc_cut (fun ρ σ uc11 => VLe u uc11 ∧ σ = [(506, (none, .row 9 1 (min i k) (strsC (decs G (min i k))))), (1000, (some b, .box (arr 6 (mixF F G (i + 1)))))] ∧ ρ = [(0, .p 1000 0), (5, .v (.int .i64 k)), (6, .s 506), (7, .v (.int .i64 i)), (13, .v (.int .i64 i))] ∧ (u = uc11)) ?_ ?_
   ·
    refine wc_block ?_
    refine wc_seq ?_
    refine wc_region ?_
    refine ym rfl rfl ?_
    refine ym rfl rfl ?_
    refine rl_y (y_sub (r := ((k - 1 : Nat) : Int)) rfl rfl rfl (by rw [wrap64_id (by omega)]; omega)) rfl ?_
    refine rl_y (y_lss rfl rfl rfl) rfl ?_
    refine ya rfl rfl ?_
    refine rl_end (ρ' := [(0, _), (5, _), (6, _), (7, _), (13, _), (20, _)]) ⟨rfl, rfl, rfl, rfl, rfl, rfl, trivial⟩ ?_
    refine q_then ?_
    refine wc_cond rfl (fun hb7 => ?_) (fun hb7 => ?_)
    ·
     have h7 := of_decide_eq_true hb7
     refine wc_draw Tryz.mixed rfl [] trivial ?_
     refine ra_y (i := 0) rfl (by kernel_rfl) (by kernel_rfl) (by kernel_rfl) (np_block (np_then (np_block (np_then (np_then (np_block (np_then (np_finO)))))))) (y_move rfl rfl) rfl ?_
     refine ra_y (i := 1) rfl (by kernel_rfl) (by kernel_rfl) (by kernel_rfl) (np_block (np_then (np_block (np_then (np_then (np_block (np_then (np_finO)))))))) (y_move rfl rfl) rfl ?_
     refine ra_y (i := 2) rfl (by kernel_rfl) (by kernel_rfl) (by kernel_rfl) (np_block (np_then (np_block (np_then (np_then (np_block (np_then (np_finO)))))))) (y_move rfl rfl) rfl ?_
     refine ra_y (i := 3) rfl (by kernel_rfl) (by kernel_rfl) (by kernel_rfl) (np_block (np_then (np_block (np_then (np_then (np_block (np_then (np_finO)))))))) (y_move rfl rfl) rfl ?_
     refine ra_y (i := 4) rfl (by kernel_rfl) (by kernel_rfl) (by kernel_rfl) (np_block (np_then (np_block (np_then (np_then (np_block (np_then (np_finO)))))))) (y_nilCheck_p rfl rfl) rfl ?_
     refine ra_y (i := 5) rfl (by kernel_rfl) (by kernel_rfl) (by kernel_rfl) (np_block (np_then (np_block (np_then (np_then (np_block (np_then (np_finO)))))))) (y_index_p rfl Tryz.a85 rfl rfl (by first | rfl | omega) (by omega)) rfl ?_
     refine ra_y (i := 8) rfl (by kernel_rfl) (by kernel_rfl) (by kernel_rfl) (np_block (np_then (np_block (np_then (np_then (np_block (np_then (np_finO)))))))) (y_nilCheck_p rfl rfl) rfl ?_
     refine ra_do (i := 6) rfl rfl (by kernel_rfl) ?_
     refine do_y (y_load_p rfl Tryz.k3 rfl rfl rfl (cut_arr (i := i) (by omega) (by omega)) rfl rfl) rfl ?_
     rw [mix_at]
     refine ra_y (i := 7) rfl (by kernel_rfl) (by kernel_rfl) (by kernel_rfl) (np_block (np_then (np_block (np_then (np_then (np_block (np_then (np_finO)))))))) (y_max (r := ((max (F (i + 1)) 1 : Nat) : Int)) rfl rfl rfl (by split <;> omega)) rfl ?_
     refine ra_y (i := 9) rfl (by kernel_rfl) (by kernel_rfl) (by kernel_rfl) (np_block (np_then (np_block (np_then (np_then (np_block (np_then (np_finO)))))))) (y_index_p rfl Tryz.a85 rfl rfl (by first | rfl | omega) (by omega)) rfl ?_
     refine ra_do (i := 10) rfl rfl (by kernel_rfl) ?_
     refine do_store_p trivial rfl Tryz.k3 rfl rfl rfl (vs := [_]) rfl rfl rfl (by simp [arr_len]; omega) (mix_set (i := i) (v := max (F (i + 1)) 1) (by omega) (by omega) (by rw [← hGd, ctr_lt (by omega)])) ?_
     refine ra_end (by kernel_rfl) (ρ' := [(0, _), (5, _), (6, _), (7, _), (13, _)]) ⟨rfl, rfl, rfl, rfl, rfl, trivial⟩ ?_
     refine q_block ?_
     refine q_thenK ?_
     refine ⟨[(0, _), (5, _), (6, _), (7, _), (13, _)], [(506, _), (1000, _)], ⟨rfl, rfl, rfl, rfl, rfl, trivial⟩, ⟨rfl, rfl, trivial⟩, (VLe.refl _), (by first | rfl | simp), (by first | rfl | (simp only [List.cons.injEq, Prod.mk.injEq, SV.v.injEq, Value.int.injEq, true_and, and_true]; omega) | simp), ?_⟩
     rfl
    ·
     have h7 := of_decide_eq_false hb7
     refine wc_seq ?_
     refine wc_region ?_
     refine ym rfl rfl ?_
     refine ym rfl rfl ?_
     refine rl_y (y_sub (r := ((k - 1 : Nat) : Int)) rfl rfl rfl (by rw [wrap64_id (by omega)]; omega)) rfl ?_
     refine rl_y (y_eql rfl rfl rfl) rfl ?_
     refine ya rfl rfl ?_
     refine rl_end (ρ' := [(0, _), (5, _), (6, _), (7, _), (13, _), (35, _)]) ⟨rfl, rfl, rfl, rfl, rfl, rfl, trivial⟩ ?_
     refine q_then ?_
     refine wc_cond rfl (fun hb9 => ?_) (fun hb9 => ?_)
     ·
      have h9 := of_decide_eq_true hb9
      refine wc_draw Tryz.mixed rfl [] trivial ?_
      refine ra_y (i := 0) rfl (by kernel_rfl) (by kernel_rfl) (by kernel_rfl) (np_block (np_then (np_block (np_then (np_then (np_block (np_then (np_finO)))))))) (y_move rfl rfl) rfl ?_
      refine ra_y (i := 1) rfl (by kernel_rfl) (by kernel_rfl) (by kernel_rfl) (np_block (np_then (np_block (np_then (np_then (np_block (np_then (np_finO)))))))) (y_move rfl rfl) rfl ?_
      refine ra_y (i := 2) rfl (by kernel_rfl) (by kernel_rfl) (by kernel_rfl) (np_block (np_then (np_block (np_then (np_then (np_block (np_then (np_finO)))))))) (y_nilCheck_p rfl rfl) rfl ?_
      refine ra_y (i := 3) rfl (by kernel_rfl) (by kernel_rfl) (by kernel_rfl) (np_block (np_then (np_block (np_then (np_then (np_block (np_then (np_finO)))))))) (y_index_p rfl Tryz.a85 rfl rfl (by first | rfl | omega) (by omega)) rfl ?_
      refine ra_y (i := 6) rfl (by kernel_rfl) (by kernel_rfl) (by kernel_rfl) (np_block (np_then (np_block (np_then (np_then (np_block (np_then (np_finO)))))))) (y_nilCheck_p rfl rfl) rfl ?_
      refine ra_do (i := 4) rfl rfl (by kernel_rfl) ?_
      refine do_y (y_load_p rfl Tryz.k3 rfl rfl rfl (cut_arr (i := i) (by omega) (by omega)) rfl rfl) rfl ?_
      rw [mix_at]; have hFi := hF (i + 1)
      refine ra_y (i := 5) rfl (by kernel_rfl) (by kernel_rfl) (by kernel_rfl) (np_block (np_then (np_block (np_then (np_then (np_block (np_then (np_finO)))))))) (y_add rfl rfl rfl (wrap64_id (by omega))) rfl ?_
      refine ra_y (i := 7) rfl (by kernel_rfl) (by kernel_rfl) (by kernel_rfl) (np_block (np_then (np_block (np_then (np_then (np_block (np_then (np_finO)))))))) (y_index_p rfl Tryz.a85 rfl rfl (by first | rfl | omega) (by omega)) rfl ?_
      refine ra_do (i := 8) rfl rfl (by kernel_rfl) ?_
      refine do_store_p trivial rfl Tryz.k3 rfl rfl rfl (vs := [_]) rfl rfl rfl (by simp [arr_len]; omega) (mix_set (i := i) (v := F (i + 1) + 1) (by omega) (by omega) (by rw [← hGd, ctr_eq (by omega)])) ?_
      refine ra_end (by kernel_rfl) (ρ' := [(0, _), (5, _), (6, _), (7, _), (13, _)]) ⟨rfl, rfl, rfl, rfl, rfl, trivial⟩ ?_
      refine q_block ?_
      refine q_thenK ?_
      refine ⟨[(0, _), (5, _), (6, _), (7, _), (13, _)], [(506, _), (1000, _)], ⟨rfl, rfl, rfl, rfl, rfl, trivial⟩, ⟨rfl, rfl, trivial⟩, (VLe.refl _), (by first | rfl | simp), (by first | rfl | (simp only [List.cons.injEq, Prod.mk.injEq, SV.v.injEq, Value.int.injEq, true_and, and_true]; omega) | simp), ?_⟩
      rfl
     ·
      have h9 := of_decide_eq_false hb9
      refine wc_region ?_
      refine ym rfl rfl ?_
      refine ym rfl rfl ?_
      refine rl_y (y_nilCheck_p rfl rfl) rfl ?_
      refine rl_y (y_index_p rfl Tryz.a85 rfl rfl (by first | rfl | omega) (by omega)) rfl ?_
      refine rl_do rfl rfl ?_
      refine do_store_p trivial rfl Tryz.k3 rfl rfl rfl (vs := [_]) rfl rfl rfl (by simp [arr_len]; omega) (mix_set (i := i) (v := 0) (by omega) (by omega) (by rw [← hGd, ctr_gt (by omega)])) ?_
      refine rl_end (ρ' := [(0, _), (5, _), (6, _), (7, _), (13, _)]) ⟨rfl, rfl, rfl, rfl, rfl, trivial⟩ ?_
      refine q_block ?_
      refine q_thenK ?_
      refine ⟨[(0, _), (5, _), (6, _), (7, _), (13, _)], [(506, _), (1000, _)], ⟨rfl, rfl, rfl, rfl, rfl, trivial⟩, ⟨rfl, rfl, trivial⟩, (VLe.refl _), (by first | rfl | simp), (by first | rfl | (simp only [List.cons.injEq, Prod.mk.injEq, SV.v.injEq, Value.int.injEq, true_and, and_true]; omega) | simp), ?_⟩
      rfl
   ·
    rintro ρ σ uc11 ⟨hlc11, rfl, rfl, rfl⟩
    refine wc_seq ?_
    refine wc_region ?_
    refine ym rfl rfl ?_
    refine ym rfl rfl ?_
    refine rl_y (y_lss rfl rfl rfl) rfl ?_
    refine rl_end (ρ' := [(0, _), (5, _), (6, _), (7, _), (13, _), (50, _)]) ⟨rfl, rfl, rfl, rfl, rfl, rfl, trivial⟩ ?_
    refine q_then ?_
    refine wc_cond rfl (fun hb11 => ?_) (fun hb11 => ?_)
    ·
     have h11 := of_decide_eq_true hb11
     refine wc_region ?_
     refine ym rfl rfl ?_
     refine ym rfl rfl ?_
     refine ym rfl rfl ?_
     refine rl_y (y_nilCheck_p rfl rfl) rfl ?_
     refine rl_y (y_index_p rfl Tryz.a85 rfl rfl (by first | rfl | omega) (by omega)) rfl ?_
     refine rl_y (y_load_p rfl Tryz.k3 rfl rfl rfl (cut_arr (i := i) (by omega) (by omega)) rfl rfl) rfl ?_
     rw [mix_at2]; have hGi := hG (i + 1)
     refine rl_do rfl rfl ?_
     refine do_call_f (caps := []) trivial rfl rfl Tryz.c46 rfl (FnP.mono (itoa_fn (G (i + 1)) (by omega) u hT) ?_)
     rintro v u1 hle1 rfl
     refine rl_do rfl rfl ?_
     refine do_buildSlice trivial Tryz.s37 Tryz.z9 (ps := [(_, _)]) rfl (xs := [_]) rfl rfl rfl rfl rfl rfl rfl ?_
     refine rl_do rfl rfl ?_
     refine do_append_s trivial rfl rfl Tryz.s37 Tryz.z9 rfl rfl rfl rfl rfl rfl (by first | rfl | assumption | simp [Value.oneCell', str]) (by omega) (by omega) (ρ' := [(0, _), (5, _), (13, _)]) ⟨rfl, rfl, rfl, trivial⟩ rfl rfl rfl ?_
     refine ya rfl rfl ?_
     refine rl_ren 59 506 rfl rfl rfl ?_
     refine rl_end (ρ' := [(0, _), (5, _), (6, _), (13, _)]) ⟨rfl, rfl, rfl, rfl, trivial⟩ ?_
     refine q_block ?_
     refine q_then ?_
     refine wc_region ?_
     refine rl_y (y_add rfl rfl rfl (wrap64_id (by omega))) rfl ?_
     refine ym rfl rfl ?_
     refine rl_end (ρ' := [(0, _), (5, _), (6, _), (13, _)]) ⟨rfl, rfl, rfl, rfl, trivial⟩ ?_
     refine q_thenK ?_
     refine ⟨m - 1, [(0, _), (5, _), (6, _), (13, _)], [(506, _), (1000, _)], by omega, ⟨rfl, rfl, rfl, rfl, trivial⟩, ⟨rfl, rfl, trivial⟩, i + 1, by omega, hle4, (by first | (rw [Nat.min_eq_left (by omega : i + 1 ≤ k), Nat.min_eq_left (by omega : i ≤ k), decs_succ]; simp [strsC]; done) | (rw [Nat.min_eq_right (by omega : k ≤ i + 1), Nat.min_eq_right (by omega : k ≤ i)]; done)), (by first | rfl | simp), ?_⟩
     rfl
    ·
     have h11 := of_decide_eq_false hb11
     refine wc_skip ?_
     refine q_block ?_
     refine q_then ?_
     refine wc_region ?_
     refine rl_y (y_add rfl rfl rfl (wrap64_id (by omega))) rfl ?_
     refine ym rfl rfl ?_
     refine rl_end (ρ' := [(0, _), (5, _), (6, _), (13, _)]) ⟨rfl, rfl, rfl, rfl, trivial⟩ ?_
     refine q_thenK ?_
     refine ⟨m - 1, [(0, _), (5, _), (6, _), (13, _)], [(506, _), (1000, _)], by omega, ⟨rfl, rfl, rfl, rfl, trivial⟩, ⟨rfl, rfl, trivial⟩, i + 1, by omega, hle4, (by first | (rw [Nat.min_eq_left (by omega : i + 1 ≤ k), Nat.min_eq_left (by omega : i ≤ k), decs_succ]; simp [strsC]; done) | (rw [Nat.min_eq_right (by omega : k ≤ i + 1), Nat.min_eq_right (by omega : k ≤ i)]; done)), (by first | rfl | simp), ?_⟩
     rfl
  ·
   refine wc_exit ?_
   refine q_then_exit ?_
   refine q_then_exit ?_
   refine q_block_hit ?_
   refine q_then ?_
   refine wc_seq ?_
   have hge := of_decide_eq_false hb4
   have hi6 : i = 6 := by omega
   subst hi6
   rw [mix_end, Nat.min_eq_right (by omega : k ≤ 6)]
   have hvl := valF_len (f := G) (fun j => Nat.le_trans (hG j) (by omega)) k
   refine wc_region ?_
   refine ym rfl rfl ?_
   refine rl_freeze 506 rfl ?_
   intro ad506 cap506 u506 hle506z hsl506
   refine rl_do rfl rfl ?_
   refine do_call_f (caps := []) trivial rfl rfl Tryz.c80 rfl (FnP.mono (join_fn _ (decs G k) [46] u506 (strS_of (decs_len G k).symm hsl506) (by rw [decs_len]; omega) (by rw [decs_val]; omega)) ?_)
   rintro v u1 hle1 rfl
   refine ya rfl rfl ?_
   refine rl_end (ρ' := [(4, _)]) ⟨rfl, trivial⟩ ?_
   refine q_then ?_
   refine wc_ret ?_
   refine finO1 [1000] (.tmp rfl) rfl rfl ?_
   exact ⟨by rw [decs_val], rfl⟩
theorem setAt_append {acc zs vs : List Value} {o : Nat} (ho : o = acc.length) (hl : vs.length = zs.length) : setAt (acc ++ zs) o vs = acc ++ vs := by
 subst ho
 rw [setAt_eq _ _ _ (by simp [hl])]
 simp [hl]
abbrev visI (b3 b4 : Nat) : Value := .func (.func 106) #[] #[.pointer (some ⟨b3, 0, none⟩), .pointer (some ⟨b4, 0, none⟩)]
set_option maxHeartbeats 4000000 in
theorem visI_fn (b3 b4 : Nat) (n : Nat) : ∀ (v : Value) (xs out : List Inl) (ao : Option Addr) (co : Nat) (acc : List Value) (u : View), szI xs ≤ n → out.length + szI xs ≤ 100000 → smI xs → InlS u v xs → InlsC u out acc →
  FnO Tryz.prog 106 [v, .pointer (some ⟨b3, 0, none⟩), .pointer (some ⟨b4, 0, none⟩)] u [(some b3, .box [.slice ao out.length co]), (some b4, .box [visI b3 b4]), (none, .rwv (.slice ao out.length co) 42 10 out.length acc)]
   fun r u' l' => r = .tuple #[] ∧ ∃ ao' co' acc', l' = [(some b3, .box [.slice ao' (out ++ deep xs).length co']), (some b4, .box [visI b3 b4]), (none, .rwv (.slice ao' (out ++ deep xs).length co') 42 10 (out ++ deep xs).length acc')] ∧ InlsC u' (out ++ deep xs) acc' := by
 induction n using Nat.strongRecOn with
 | _ n ih =>
 intro v xs out ao co acc u hsz hbig hsm ha hacc
 have hlx := len_szI xs
 obtain ⟨cs, ⟨ad, cap, rfl, h1⟩, hc1⟩ := ha
 refine FnO.intro [] Tryz.func106 rfl rfl rfl ?_
 intro w0 D hw0
 refine wc_pin 1 1000 _ 0 rfl rfl ?_
 refine wc_pin 2 1001 _ 0 rfl rfl ?_
 refine wc_seq ?_
 refine wc_region ?_
 refine ym rfl rfl ?_
 refine rl_y (y_len_v rfl rfl Tryz.s35 rfl) rfl ?_
 refine ym rfl rfl ?_
 refine rl_end (ρ' := [(0, _), (1, _), (2, _), (7, _), (8, _)]) ⟨rfl, rfl, rfl, rfl, rfl, trivial⟩ ?_
 refine q_then ?_
 refine wc_block ?_
 refine wc_loop (fun m ρ σ u' => ∃ i : Nat, i + m = xs.length ∧ VLe u u' ∧ ∃ (ai : Option Addr) (ci : Nat) (li : List Value), σ = [(1000, (some b3, .box [.slice ai (out ++ deep (xs.take i)).length ci])), (1001, (some b4, .box [visI b3 b4])), (1002, (none, .rwv (.slice ai (out ++ deep (xs.take i)).length ci) 42 10 (out ++ deep (xs.take i)).length li))] ∧ ρ = [(0, .v (.slice ad xs.length cap)), (1, .p 1000 0), (2, .p 1001 0), (7, .v (.int .i64 xs.length)), (8, .v (.int .i64 i))] ∧ (InlsC u' (out ++ deep (xs.take i)) li)) (xs.length) ?_ ?_
 ·
  refine ⟨[(0, _), (1, _), (2, _), (7, _), (8, _)], [(1000, _), (1001, _), (1002, _)], ⟨rfl, rfl, rfl, rfl, rfl, trivial⟩, ⟨rfl, rfl, rfl, trivial⟩, 0, by omega, VLe.refl _, ao, co, acc, (by simp [deep]), rfl, ?_⟩
  simpa [deep] using hacc
 ·
  rintro m ρ σ u' ⟨i, hi1, hle1, ai, ci, li, rfl, rfl, hli⟩
  refine wc_seq ?_
  refine wc_region ?_
  refine rl_y (y_lss rfl rfl rfl) rfl ?_
  refine rl_end (ρ' := [(0, _), (1, _), (2, _), (7, _), (8, _), (9, _)]) ⟨rfl, rfl, rfl, rfl, rfl, rfl, trivial⟩ ?_
  refine q_then ?_
  refine wc_seq ?_
  refine wc_cond rfl (fun hb1 => ?_) (fun hb1 => ?_)
  ·
   refine wc_skip ?_
   refine q_then ?_
   refine wc_seq ?_
   refine wc_block ?_
   refine wc_seq ?_
   refine wc_region ?_
   refine ym rfl rfl ?_
   refine ya rfl rfl ?_
   refine rl_end (ρ' := [(0, _), (1, _), (2, _), (4, _), (7, _), (8, _)]) ⟨rfl, rfl, rfl, rfl, rfl, rfl, trivial⟩ ?_
   refine q_then ?_
   refine wc_seq ?_
   have hlt : i < xs.length := by have := of_decide_eq_true hb1; omega
   have h1 := h1.mono hle1
   obtain ⟨k, t, d, ti, a, args, cites, kids, vc, vp, va, vt, vk, hg, hcut1, s1, s2, s3, s4, s5, hok⟩ := (hc1.mono hle1).at hlt
   have oneAll := ((hc1.mono hle1).get i _ hg).one
   rw [hcut1] at oneAll
   have t5 := s5
   obtain ⟨kcs, ⟨kad, kcap, rfl, hk1⟩, hk2⟩ := t5
   have hsm1 := smI_get hsm hg
   unfold smI1 at hsm1
   obtain ⟨⟨n1, n2, n3, n4, n5, n6, n7, n8⟩, hsmk⟩ := hsm1
   have hszk := szI_kids hg
   have hdt := deep_take hg
   have hszt := szI_take hg
   have hszle := szI_take_le xs (i + 1)
   simp only [deep1] at hdt
   simp only [sz1] at hszt
   have hAl : (out ++ deep (xs.take i)).length = out.length + szI (xs.take i) := by simp [deep_len]
   have hdt2 : out ++ deep (xs.take (i + 1)) = (out ++ deep (xs.take i) ++ [.mk k t d ti a args cites kids]) ++ deep kids := by rw [hdt]; simp
   generalize out ++ deep (xs.take i) = A at *
   refine wc_region ?_
   refine ym rfl rfl ?_
   refine ym rfl rfl ?_
   refine rl_y (y_index_e rfl Tryz.s35 rfl rfl (by assumption) (by first | rfl | omega) (by omega)) rfl ?_
   refine rl_y (y_load_el rfl Tryz.k42 rfl (by assumption) (by omega) (by assumption) (vs := [_, _, _, _, _, _, _, _, _, _]) rfl rfl rfl rfl) rfl ?_
   refine rl_do rfl rfl ?_
   refine do_alloc trivial Tryz.z42 rfl rfl rfl ?_
   refine rl_do rfl rfl ?_
   refine do_store_p trivial rfl Tryz.k42 rfl rfl rfl (vs := [_, _, _, _, _, _, _, _, _, _]) rfl rfl (by first | rfl | assumption | simp [Value.oneCell', str]) (Nat.le_of_ble_eq_true rfl) rfl ?_
   refine rl_end (ρ' := [(0, _), (1, _), (2, _), (4, _), (5, _), (7, _), (8, _)]) ⟨rfl, rfl, rfl, rfl, rfl, rfl, rfl, trivial⟩ ?_
   refine q_then ?_
   refine wc_seq ?_
   refine wc_region ?_
   refine rl_y (y_field_p rfl Tryz.f42' rfl (by decide) rfl) rfl ?_
   refine rl_y (y_load_p rfl Tryz.k39 rfl rfl rfl (vs := [_, _, _]) rfl rfl rfl) rfl ?_
   refine rl_do rfl rfl ?_
   refine do_call (caps := []) trivial rfl rfl Tryz.c107 rfl (FnP.mono (copyAttr_fn a vc vp u' (by omega) (by omega) s1 s2) ?_)
   rintro v uA hle0 ⟨vc2, vp2, rfl, ⟨ad1, cap1, rfl, q1⟩, ⟨ad2, cap2, rfl, q2⟩⟩ hleA
   refine rl_y (y_field_p rfl Tryz.f42' rfl (by decide) rfl) rfl ?_
   refine rl_do rfl rfl ?_
   refine do_store_p trivial rfl Tryz.k39 rfl rfl rfl (vs := [_, _, _]) rfl rfl (by first | rfl | assumption | simp [Value.oneCell', str]) (Nat.le_of_ble_eq_true rfl) rfl ?_
   refine rl_end (ρ' := [(0, _), (1, _), (2, _), (4, _), (5, _), (7, _), (8, _)]) ⟨rfl, rfl, rfl, rfl, rfl, rfl, rfl, trivial⟩ ?_
   refine q_then ?_
   refine wc_seq ?_
   refine wc_region ?_
   refine rl_y (y_field_p rfl Tryz.f42' rfl (by decide) rfl) rfl ?_
   refine rl_y (y_load_p rfl Tryz.k37 rfl rfl rfl (vs := [_]) rfl rfl rfl) rfl ?_
   refine rl_do rfl rfl ?_
   refine do_call (caps := []) trivial rfl rfl Tryz.c108 rfl (FnP.mono (cloneStr_fn va args (by omega) uA (s3.mono hleA)) ?_)
   rintro v uB hle0 ⟨ad3, cap3, rfl, q3⟩ hleB
   refine rl_y (y_field_p rfl Tryz.f42' rfl (by decide) rfl) rfl ?_
   refine rl_do rfl rfl ?_
   refine do_store_p trivial rfl Tryz.k37 rfl rfl rfl (vs := [_]) rfl rfl (by first | rfl | assumption | simp [Value.oneCell', str]) (Nat.le_of_ble_eq_true rfl) rfl ?_
   refine rl_end (ρ' := [(0, _), (1, _), (2, _), (4, _), (5, _), (7, _), (8, _)]) ⟨rfl, rfl, rfl, rfl, rfl, rfl, rfl, trivial⟩ ?_
   refine q_then ?_
   refine wc_seq ?_
   refine wc_region ?_
   refine rl_y (y_field_p rfl Tryz.f42' rfl (by decide) rfl) rfl ?_
   refine rl_y (y_load_p rfl Tryz.k40 rfl rfl rfl (vs := [_]) rfl rfl rfl) rfl ?_
   refine rl_do rfl rfl ?_
   refine do_call (caps := []) trivial rfl rfl Tryz.c109 rfl (FnP.mono (cloneCi_fn vt cites (by omega) uB ((s4.mono hleA).mono hleB)) ?_)
   rintro v uC hle0 ⟨ad4, cap4, rfl, q4⟩ hleC
   refine rl_y (y_field_p rfl Tryz.f42' rfl (by decide) rfl) rfl ?_
   refine rl_do rfl rfl ?_
   refine do_store_p trivial rfl Tryz.k40 rfl rfl rfl (vs := [_]) rfl rfl (by first | rfl | assumption | simp [Value.oneCell', str]) (Nat.le_of_ble_eq_true rfl) rfl ?_
   refine rl_end (ρ' := [(0, _), (1, _), (2, _), (4, _), (5, _), (7, _), (8, _)]) ⟨rfl, rfl, rfl, rfl, rfl, rfl, rfl, trivial⟩ ?_
   refine q_then ?_
   refine wc_seq ?_
   refine wc_draw Tryz.mixed rfl [(5, _)] ⟨rfl, trivial⟩ ?_
   refine ra_y (i := 1) rfl (by kernel_rfl) (by kernel_rfl) (by kernel_rfl) (np_then (np_block (np_then (np_then (np_block (np_finO)))))) (y_load_p rfl Tryz.k42 rfl rfl rfl (vs := [_, _, _, _, _, _, _, _, _, _]) rfl rfl rfl) rfl ?_
   refine ra_all (is := [0, 3]) (by kernel_rfl) rfl ?_
   refine raall_cons rfl rfl ?_ ?_
   ·
    refine do_y (y_load_p rfl Tryz.k35 rfl rfl rfl (vs := [_]) rfl rfl rfl) rfl ?_
    refine ra_y (i := 2) rfl (by kernel_rfl) (by kernel_rfl) (by kernel_rfl) (np_then (np_block (np_then (np_then (np_block (np_finO)))))) (y_len_v rfl rfl Tryz.s35 rfl) rfl ?_
    refine ra_do (i := 3) rfl rfl (by kernel_rfl) ?_
    refine do_buildSlice ⟨rfl, trivial⟩ Tryz.s35 Tryz.z42 (ps := [(_, _)]) rfl (xs := [_, _, _, _, _, _, _, _, _, _]) rfl rfl rfl rfl rfl rfl rfl ?_
    refine ra_do (i := 4) rfl rfl (by kernel_rfl) ?_
    refine do_append_w_s 1002 ⟨rfl, trivial⟩ rfl rfl Tryz.s35 Tryz.z42 rfl rfl rfl rfl rfl rfl (by first | rfl | simp [Value.oneCell', str]) (by omega) (by omega) rfl rfl ?_
    intro a2 c2
    refine ra_y (i := 5) rfl (by kernel_rfl) (by kernel_rfl) (by kernel_rfl) (np_then (np_block (np_then (np_then (np_block (np_finO)))))) (y_index_w 1002 rfl Tryz.s35 rfl rfl rfl (j := A.length) rfl (by omega)) rfl ?_
    refine ra_all (is := [6, 7]) (by kernel_rfl) rfl ?_
    refine raall_cons rfl rfl ?_ ?_
    ·
     have hlA := hli.len
     refine do_store_w ⟨rfl, trivial⟩ rfl Tryz.k42 rfl rfl rfl (vs := [_, _, _, _, _, _, _, _, _, _]) rfl rfl (by simp [Value.oneCell', str]) (by simp; omega) (setAt_append (by omega) rfl) ?_
     refine ra_do (i := 7) rfl rfl (by kernel_rfl) ?_
     refine do_store_p ⟨rfl, trivial⟩ rfl Tryz.k35 rfl rfl rfl (vs := [_]) rfl rfl (by first | rfl | assumption | simp [Value.oneCell', str]) (Nat.le_of_ble_eq_true rfl) rfl ?_
     refine ra_end (by kernel_rfl) (ρ' := [(0, _), (1, _), (2, _), (4, _), (7, _), (8, _)]) ⟨rfl, rfl, rfl, rfl, rfl, rfl, trivial⟩ ?_
     refine q_then ?_
     have hl1 : A.length + 1 = (A ++ [(.mk k t d ti a args cites kids : Inl)]).length := by simp
     rw [hl1]
     have hmono := (hleA.trans hleB).trans hleC
     have h1 := h1.mono hmono
     have hcut1' := hcut1
     have hli2 : InlsC uC (A ++ [(.mk k t d ti a args cites kids : Inl)]) _ := (hli.mono hmono).append (InlsC.one (InlC.mk' (vc := .slice ad1 _ cap1) (vp := .slice ad2 _ cap2) (va := .slice ad3 _ cap3) (vt := .slice ad4 _ cap4) (vk := .slice kad _ kcap) ⟨_, _, rfl, (q1.mono hleB).mono hleC⟩ ⟨_, _, rfl, (q2.mono hleB).mono hleC⟩ ⟨_, _, rfl, q3.mono hleC⟩ ⟨_, _, rfl, q4⟩ (s5.mono hmono) hok))
     refine wc_draw Tryz.mixed rfl [] trivial ?_
     refine ra_y (i := 1) rfl (by kernel_rfl) (by kernel_rfl) (by kernel_rfl) (np_block (np_then (np_then (np_block (np_finO))))) (y_move rfl rfl) rfl ?_
     refine ra_y (i := 2) rfl (by kernel_rfl) (by kernel_rfl) (by kernel_rfl) (np_block (np_then (np_then (np_block (np_finO))))) (y_move rfl rfl) rfl ?_
     refine ra_y (i := 3) rfl (by kernel_rfl) (by kernel_rfl) (by kernel_rfl) (np_block (np_then (np_then (np_block (np_finO))))) (y_index_e rfl Tryz.s35 rfl rfl (by assumption) (by first | rfl | omega) (by omega)) rfl ?_
     refine ra_y (i := 4) rfl (by kernel_rfl) (by kernel_rfl) (by kernel_rfl) (np_block (np_then (np_then (np_block (np_finO))))) (y_field_e rfl Tryz.f42' rfl (by decide) rfl) rfl ?_
     refine ra_y (i := 5) rfl (by kernel_rfl) (by kernel_rfl) (by kernel_rfl) (np_block (np_then (np_then (np_block (np_finO))))) (y_load_el rfl Tryz.k35 rfl (by assumption) (by omega) (by assumption) (vs := [_]) rfl rfl rfl rfl) rfl ?_
     refine ra_do (i := 0) rfl rfl (by kernel_rfl) ?_
     refine do_y (y_load_p rfl Tryz.k117 rfl rfl rfl (vs := [_]) rfl rfl rfl) rfl ?_
     refine ra_do (i := 6) rfl rfl (by kernel_rfl) ?_
     refine do_call_o (caps := [.pointer (some ⟨b3, 0, none⟩), .pointer (some ⟨b4, 0, none⟩)]) (ρ' := [(0, _), (1, _), (2, _), (7, _), (8, _)]) [1000, 1001, 1002] [] trivial rfl rfl rfl Tryz.c106 rfl rfl ⟨rfl, rfl, rfl, rfl, rfl, trivial⟩ rfl rfl rfl (FnO.mono (ih (szI kids) (by omega) _ kids (A ++ [Inl.mk k t d ti a args cites kids]) a2 c2 _ uC (Nat.le_refl _) (by simp; omega) hsmk (s5.mono hmono) hli2) ?_)
     rintro v uR l1 hleR ⟨rfl, a6, c6, l6, rfl, h6⟩ -
     refine ⟨⟨fun _ h => h, fun _ h => h, fun _ h => h, trivial⟩, ?_⟩
     refine ra_end (by kernel_rfl) (ρ' := [(0, _), (1, _), (2, _), (7, _), (8, _)]) ⟨rfl, rfl, rfl, rfl, rfl, trivial⟩ ?_
     refine q_block ?_
     refine q_then ?_
     refine wc_region ?_
     refine rl_y (y_add rfl rfl rfl (wrap64_id (by omega))) rfl ?_
     refine ym rfl rfl ?_
     refine rl_end (ρ' := [(0, _), (1, _), (2, _), (7, _), (8, _)]) ⟨rfl, rfl, rfl, rfl, rfl, trivial⟩ ?_
     refine q_thenK ?_
     refine ⟨m - 1, [(0, _), (1, _), (2, _), (7, _), (8, _)], [(1000, _), (1001, _), (1002, _)], by omega, ⟨rfl, rfl, rfl, rfl, rfl, trivial⟩, ⟨rfl, rfl, rfl, trivial⟩, i + 1, by omega, (hle1.trans (hmono.trans hleR)), a6, c6, l6, (by rw [hdt2]), (by first | rfl | simp), ?_⟩
     rw [hdt2]; exact h6
    refine raall_cons rfl rfl ?_ ?_
    ·
     refine do_store_p ⟨rfl, trivial⟩ rfl Tryz.k35 rfl rfl rfl (vs := [_]) rfl rfl (by first | rfl | assumption | simp [Value.oneCell', str]) (Nat.le_of_ble_eq_true rfl) rfl ?_
     have hlA := hli.len
     refine ra_do (i := 6) rfl rfl (by kernel_rfl) ?_
     refine do_store_w ⟨rfl, trivial⟩ rfl Tryz.k42 rfl rfl rfl (vs := [_, _, _, _, _, _, _, _, _, _]) rfl rfl (by simp [Value.oneCell', str]) (by simp; omega) (setAt_append (by omega) rfl) ?_
     refine ra_end (by kernel_rfl) (ρ' := [(0, _), (1, _), (2, _), (4, _), (7, _), (8, _)]) ⟨rfl, rfl, rfl, rfl, rfl, rfl, trivial⟩ ?_
     refine q_then ?_
     have hl1 : A.length + 1 = (A ++ [(.mk k t d ti a args cites kids : Inl)]).length := by simp
     rw [hl1]
     have hmono := (hleA.trans hleB).trans hleC
     have h1 := h1.mono hmono
     have hcut1' := hcut1
     have hli2 : InlsC uC (A ++ [(.mk k t d ti a args cites kids : Inl)]) _ := (hli.mono hmono).append (InlsC.one (InlC.mk' (vc := .slice ad1 _ cap1) (vp := .slice ad2 _ cap2) (va := .slice ad3 _ cap3) (vt := .slice ad4 _ cap4) (vk := .slice kad _ kcap) ⟨_, _, rfl, (q1.mono hleB).mono hleC⟩ ⟨_, _, rfl, (q2.mono hleB).mono hleC⟩ ⟨_, _, rfl, q3.mono hleC⟩ ⟨_, _, rfl, q4⟩ (s5.mono hmono) hok))
     refine wc_draw Tryz.mixed rfl [] trivial ?_
     refine ra_y (i := 1) rfl (by kernel_rfl) (by kernel_rfl) (by kernel_rfl) (np_block (np_then (np_then (np_block (np_finO))))) (y_move rfl rfl) rfl ?_
     refine ra_y (i := 2) rfl (by kernel_rfl) (by kernel_rfl) (by kernel_rfl) (np_block (np_then (np_then (np_block (np_finO))))) (y_move rfl rfl) rfl ?_
     refine ra_y (i := 3) rfl (by kernel_rfl) (by kernel_rfl) (by kernel_rfl) (np_block (np_then (np_then (np_block (np_finO))))) (y_index_e rfl Tryz.s35 rfl rfl (by assumption) (by first | rfl | omega) (by omega)) rfl ?_
     refine ra_y (i := 4) rfl (by kernel_rfl) (by kernel_rfl) (by kernel_rfl) (np_block (np_then (np_then (np_block (np_finO))))) (y_field_e rfl Tryz.f42' rfl (by decide) rfl) rfl ?_
     refine ra_y (i := 5) rfl (by kernel_rfl) (by kernel_rfl) (by kernel_rfl) (np_block (np_then (np_then (np_block (np_finO))))) (y_load_el rfl Tryz.k35 rfl (by assumption) (by omega) (by assumption) (vs := [_]) rfl rfl rfl rfl) rfl ?_
     refine ra_do (i := 0) rfl rfl (by kernel_rfl) ?_
     refine do_y (y_load_p rfl Tryz.k117 rfl rfl rfl (vs := [_]) rfl rfl rfl) rfl ?_
     refine ra_do (i := 6) rfl rfl (by kernel_rfl) ?_
     refine do_call_o (caps := [.pointer (some ⟨b3, 0, none⟩), .pointer (some ⟨b4, 0, none⟩)]) (ρ' := [(0, _), (1, _), (2, _), (7, _), (8, _)]) [1000, 1001, 1002] [] trivial rfl rfl rfl Tryz.c106 rfl rfl ⟨rfl, rfl, rfl, rfl, rfl, trivial⟩ rfl rfl rfl (FnO.mono (ih (szI kids) (by omega) _ kids (A ++ [Inl.mk k t d ti a args cites kids]) a2 c2 _ uC (Nat.le_refl _) (by simp; omega) hsmk (s5.mono hmono) hli2) ?_)
     rintro v uR l1 hleR ⟨rfl, a6, c6, l6, rfl, h6⟩ -
     refine ⟨⟨fun _ h => h, fun _ h => h, fun _ h => h, trivial⟩, ?_⟩
     refine ra_end (by kernel_rfl) (ρ' := [(0, _), (1, _), (2, _), (7, _), (8, _)]) ⟨rfl, rfl, rfl, rfl, rfl, trivial⟩ ?_
     refine q_block ?_
     refine q_then ?_
     refine wc_region ?_
     refine rl_y (y_add rfl rfl rfl (wrap64_id (by omega))) rfl ?_
     refine ym rfl rfl ?_
     refine rl_end (ρ' := [(0, _), (1, _), (2, _), (7, _), (8, _)]) ⟨rfl, rfl, rfl, rfl, rfl, trivial⟩ ?_
     refine q_thenK ?_
     refine ⟨m - 1, [(0, _), (1, _), (2, _), (7, _), (8, _)], [(1000, _), (1001, _), (1002, _)], by omega, ⟨rfl, rfl, rfl, rfl, rfl, trivial⟩, ⟨rfl, rfl, rfl, trivial⟩, i + 1, by omega, (hle1.trans (hmono.trans hleR)), a6, c6, l6, (by rw [hdt2]), (by first | rfl | simp), ?_⟩
     rw [hdt2]; exact h6
    exact raall_nil
   refine raall_cons rfl rfl ?_ ?_
   ·
    refine do_buildSlice ⟨rfl, trivial⟩ Tryz.s35 Tryz.z42 (ps := [(_, _)]) rfl (xs := [_, _, _, _, _, _, _, _, _, _]) rfl rfl rfl rfl rfl rfl rfl ?_
    refine ra_do (i := 0) rfl rfl (by kernel_rfl) ?_
    refine do_y (y_load_p rfl Tryz.k35 rfl rfl rfl (vs := [_]) rfl rfl rfl) rfl ?_
    refine ra_y (i := 2) rfl (by kernel_rfl) (by kernel_rfl) (by kernel_rfl) (np_then (np_block (np_then (np_then (np_block (np_finO)))))) (y_len_v rfl rfl Tryz.s35 rfl) rfl ?_
    refine ra_do (i := 4) rfl rfl (by kernel_rfl) ?_
    refine do_append_w_s 1002 ⟨rfl, trivial⟩ rfl rfl Tryz.s35 Tryz.z42 rfl rfl rfl rfl rfl rfl (by first | rfl | simp [Value.oneCell', str]) (by omega) (by omega) rfl rfl ?_
    intro a2 c2
    refine ra_y (i := 5) rfl (by kernel_rfl) (by kernel_rfl) (by kernel_rfl) (np_then (np_block (np_then (np_then (np_block (np_finO)))))) (y_index_w 1002 rfl Tryz.s35 rfl rfl rfl (j := A.length) rfl (by omega)) rfl ?_
    refine ra_all (is := [6, 7]) (by kernel_rfl) rfl ?_
    refine raall_cons rfl rfl ?_ ?_
    ·
     have hlA := hli.len
     refine do_store_w ⟨rfl, trivial⟩ rfl Tryz.k42 rfl rfl rfl (vs := [_, _, _, _, _, _, _, _, _, _]) rfl rfl (by simp [Value.oneCell', str]) (by simp; omega) (setAt_append (by omega) rfl) ?_
     refine ra_do (i := 7) rfl rfl (by kernel_rfl) ?_
     refine do_store_p ⟨rfl, trivial⟩ rfl Tryz.k35 rfl rfl rfl (vs := [_]) rfl rfl (by first | rfl | assumption | simp [Value.oneCell', str]) (Nat.le_of_ble_eq_true rfl) rfl ?_
     refine ra_end (by kernel_rfl) (ρ' := [(0, _), (1, _), (2, _), (4, _), (7, _), (8, _)]) ⟨rfl, rfl, rfl, rfl, rfl, rfl, trivial⟩ ?_
     refine q_then ?_
     have hl1 : A.length + 1 = (A ++ [(.mk k t d ti a args cites kids : Inl)]).length := by simp
     rw [hl1]
     have hmono := (hleA.trans hleB).trans hleC
     have h1 := h1.mono hmono
     have hcut1' := hcut1
     have hli2 : InlsC uC (A ++ [(.mk k t d ti a args cites kids : Inl)]) _ := (hli.mono hmono).append (InlsC.one (InlC.mk' (vc := .slice ad1 _ cap1) (vp := .slice ad2 _ cap2) (va := .slice ad3 _ cap3) (vt := .slice ad4 _ cap4) (vk := .slice kad _ kcap) ⟨_, _, rfl, (q1.mono hleB).mono hleC⟩ ⟨_, _, rfl, (q2.mono hleB).mono hleC⟩ ⟨_, _, rfl, q3.mono hleC⟩ ⟨_, _, rfl, q4⟩ (s5.mono hmono) hok))
     refine wc_draw Tryz.mixed rfl [] trivial ?_
     refine ra_y (i := 1) rfl (by kernel_rfl) (by kernel_rfl) (by kernel_rfl) (np_block (np_then (np_then (np_block (np_finO))))) (y_move rfl rfl) rfl ?_
     refine ra_y (i := 2) rfl (by kernel_rfl) (by kernel_rfl) (by kernel_rfl) (np_block (np_then (np_then (np_block (np_finO))))) (y_move rfl rfl) rfl ?_
     refine ra_y (i := 3) rfl (by kernel_rfl) (by kernel_rfl) (by kernel_rfl) (np_block (np_then (np_then (np_block (np_finO))))) (y_index_e rfl Tryz.s35 rfl rfl (by assumption) (by first | rfl | omega) (by omega)) rfl ?_
     refine ra_y (i := 4) rfl (by kernel_rfl) (by kernel_rfl) (by kernel_rfl) (np_block (np_then (np_then (np_block (np_finO))))) (y_field_e rfl Tryz.f42' rfl (by decide) rfl) rfl ?_
     refine ra_y (i := 5) rfl (by kernel_rfl) (by kernel_rfl) (by kernel_rfl) (np_block (np_then (np_then (np_block (np_finO))))) (y_load_el rfl Tryz.k35 rfl (by assumption) (by omega) (by assumption) (vs := [_]) rfl rfl rfl rfl) rfl ?_
     refine ra_do (i := 0) rfl rfl (by kernel_rfl) ?_
     refine do_y (y_load_p rfl Tryz.k117 rfl rfl rfl (vs := [_]) rfl rfl rfl) rfl ?_
     refine ra_do (i := 6) rfl rfl (by kernel_rfl) ?_
     refine do_call_o (caps := [.pointer (some ⟨b3, 0, none⟩), .pointer (some ⟨b4, 0, none⟩)]) (ρ' := [(0, _), (1, _), (2, _), (7, _), (8, _)]) [1000, 1001, 1002] [] trivial rfl rfl rfl Tryz.c106 rfl rfl ⟨rfl, rfl, rfl, rfl, rfl, trivial⟩ rfl rfl rfl (FnO.mono (ih (szI kids) (by omega) _ kids (A ++ [Inl.mk k t d ti a args cites kids]) a2 c2 _ uC (Nat.le_refl _) (by simp; omega) hsmk (s5.mono hmono) hli2) ?_)
     rintro v uR l1 hleR ⟨rfl, a6, c6, l6, rfl, h6⟩ -
     refine ⟨⟨fun _ h => h, fun _ h => h, fun _ h => h, trivial⟩, ?_⟩
     refine ra_end (by kernel_rfl) (ρ' := [(0, _), (1, _), (2, _), (7, _), (8, _)]) ⟨rfl, rfl, rfl, rfl, rfl, trivial⟩ ?_
     refine q_block ?_
     refine q_then ?_
     refine wc_region ?_
     refine rl_y (y_add rfl rfl rfl (wrap64_id (by omega))) rfl ?_
     refine ym rfl rfl ?_
     refine rl_end (ρ' := [(0, _), (1, _), (2, _), (7, _), (8, _)]) ⟨rfl, rfl, rfl, rfl, rfl, trivial⟩ ?_
     refine q_thenK ?_
     refine ⟨m - 1, [(0, _), (1, _), (2, _), (7, _), (8, _)], [(1000, _), (1001, _), (1002, _)], by omega, ⟨rfl, rfl, rfl, rfl, rfl, trivial⟩, ⟨rfl, rfl, rfl, trivial⟩, i + 1, by omega, (hle1.trans (hmono.trans hleR)), a6, c6, l6, (by rw [hdt2]), (by first | rfl | simp), ?_⟩
     rw [hdt2]; exact h6
    refine raall_cons rfl rfl ?_ ?_
    ·
     refine do_store_p ⟨rfl, trivial⟩ rfl Tryz.k35 rfl rfl rfl (vs := [_]) rfl rfl (by first | rfl | assumption | simp [Value.oneCell', str]) (Nat.le_of_ble_eq_true rfl) rfl ?_
     have hlA := hli.len
     refine ra_do (i := 6) rfl rfl (by kernel_rfl) ?_
     refine do_store_w ⟨rfl, trivial⟩ rfl Tryz.k42 rfl rfl rfl (vs := [_, _, _, _, _, _, _, _, _, _]) rfl rfl (by simp [Value.oneCell', str]) (by simp; omega) (setAt_append (by omega) rfl) ?_
     refine ra_end (by kernel_rfl) (ρ' := [(0, _), (1, _), (2, _), (4, _), (7, _), (8, _)]) ⟨rfl, rfl, rfl, rfl, rfl, rfl, trivial⟩ ?_
     refine q_then ?_
     have hl1 : A.length + 1 = (A ++ [(.mk k t d ti a args cites kids : Inl)]).length := by simp
     rw [hl1]
     have hmono := (hleA.trans hleB).trans hleC
     have h1 := h1.mono hmono
     have hcut1' := hcut1
     have hli2 : InlsC uC (A ++ [(.mk k t d ti a args cites kids : Inl)]) _ := (hli.mono hmono).append (InlsC.one (InlC.mk' (vc := .slice ad1 _ cap1) (vp := .slice ad2 _ cap2) (va := .slice ad3 _ cap3) (vt := .slice ad4 _ cap4) (vk := .slice kad _ kcap) ⟨_, _, rfl, (q1.mono hleB).mono hleC⟩ ⟨_, _, rfl, (q2.mono hleB).mono hleC⟩ ⟨_, _, rfl, q3.mono hleC⟩ ⟨_, _, rfl, q4⟩ (s5.mono hmono) hok))
     refine wc_draw Tryz.mixed rfl [] trivial ?_
     refine ra_y (i := 1) rfl (by kernel_rfl) (by kernel_rfl) (by kernel_rfl) (np_block (np_then (np_then (np_block (np_finO))))) (y_move rfl rfl) rfl ?_
     refine ra_y (i := 2) rfl (by kernel_rfl) (by kernel_rfl) (by kernel_rfl) (np_block (np_then (np_then (np_block (np_finO))))) (y_move rfl rfl) rfl ?_
     refine ra_y (i := 3) rfl (by kernel_rfl) (by kernel_rfl) (by kernel_rfl) (np_block (np_then (np_then (np_block (np_finO))))) (y_index_e rfl Tryz.s35 rfl rfl (by assumption) (by first | rfl | omega) (by omega)) rfl ?_
     refine ra_y (i := 4) rfl (by kernel_rfl) (by kernel_rfl) (by kernel_rfl) (np_block (np_then (np_then (np_block (np_finO))))) (y_field_e rfl Tryz.f42' rfl (by decide) rfl) rfl ?_
     refine ra_y (i := 5) rfl (by kernel_rfl) (by kernel_rfl) (by kernel_rfl) (np_block (np_then (np_then (np_block (np_finO))))) (y_load_el rfl Tryz.k35 rfl (by assumption) (by omega) (by assumption) (vs := [_]) rfl rfl rfl rfl) rfl ?_
     refine ra_do (i := 0) rfl rfl (by kernel_rfl) ?_
     refine do_y (y_load_p rfl Tryz.k117 rfl rfl rfl (vs := [_]) rfl rfl rfl) rfl ?_
     refine ra_do (i := 6) rfl rfl (by kernel_rfl) ?_
     refine do_call_o (caps := [.pointer (some ⟨b3, 0, none⟩), .pointer (some ⟨b4, 0, none⟩)]) (ρ' := [(0, _), (1, _), (2, _), (7, _), (8, _)]) [1000, 1001, 1002] [] trivial rfl rfl rfl Tryz.c106 rfl rfl ⟨rfl, rfl, rfl, rfl, rfl, trivial⟩ rfl rfl rfl (FnO.mono (ih (szI kids) (by omega) _ kids (A ++ [Inl.mk k t d ti a args cites kids]) a2 c2 _ uC (Nat.le_refl _) (by simp; omega) hsmk (s5.mono hmono) hli2) ?_)
     rintro v uR l1 hleR ⟨rfl, a6, c6, l6, rfl, h6⟩ -
     refine ⟨⟨fun _ h => h, fun _ h => h, fun _ h => h, trivial⟩, ?_⟩
     refine ra_end (by kernel_rfl) (ρ' := [(0, _), (1, _), (2, _), (7, _), (8, _)]) ⟨rfl, rfl, rfl, rfl, rfl, trivial⟩ ?_
     refine q_block ?_
     refine q_then ?_
     refine wc_region ?_
     refine rl_y (y_add rfl rfl rfl (wrap64_id (by omega))) rfl ?_
     refine ym rfl rfl ?_
     refine rl_end (ρ' := [(0, _), (1, _), (2, _), (7, _), (8, _)]) ⟨rfl, rfl, rfl, rfl, rfl, trivial⟩ ?_
     refine q_thenK ?_
     refine ⟨m - 1, [(0, _), (1, _), (2, _), (7, _), (8, _)], [(1000, _), (1001, _), (1002, _)], by omega, ⟨rfl, rfl, rfl, rfl, rfl, trivial⟩, ⟨rfl, rfl, rfl, trivial⟩, i + 1, by omega, (hle1.trans (hmono.trans hleR)), a6, c6, l6, (by rw [hdt2]), (by first | rfl | simp), ?_⟩
     rw [hdt2]; exact h6
    exact raall_nil
   exact raall_nil
  ·
   refine wc_exit ?_
   refine q_then_exit ?_
   refine q_then_exit ?_
   refine q_block_hit ?_
   refine finO0n [1000, 1001, 1002]  rfl rfl ?_
   have hge := of_decide_eq_false hb1
   rw [List.take_of_length_le (by omega)] at hli ⊢
   exact ⟨rfl, _, _, _, rfl, hli⟩
abbrev visB (b4 b5 : Nat) : Value := .func (.func 110) #[] #[.pointer (some ⟨b4, 0, none⟩), .pointer (some ⟨b5, 0, none⟩)]
theorem inls_append (xs ys : List Blk) : inls (xs ++ ys) = inls xs ++ inls ys := by simp [inls]
theorem inlsB_take {bs : List Blk} {i : Nat} {k lv : Int} {inf t d ti : Bs} {a : DAttr} {line : List Inl} {kids : List Blk} (h : bs[i]? = some (.mk k lv inf t d ti a line kids)) :
  inls (listB (bs.take (i + 1))) = inls (listB (bs.take i)) ++ (deep line ++ inls (listB kids)) := by
 rw [listB_take h, inls_append]
 simp [listb, inls, lineOf]
theorem inlsB_len (bs : List Blk) : (inls (listB bs)).length ≤ szB bs := by
 rw [inls_len]
 exact szL_listB bs
set_option maxHeartbeats 4000000 in
theorem visB_fn (b3 b4 b5 : Nat) (n : Nat) : ∀ (v : Value) (bs : List Blk) (out : List Inl) (ao : Option Addr) (co : Nat) (acc : List Value) (u : View), szB bs ≤ n → out.length + szB bs ≤ 100000 → smB bs → BlkS u v bs → InlsC u out acc →
  FnO Tryz.prog 110 [v, .pointer (some ⟨b4, 0, none⟩), .pointer (some ⟨b5, 0, none⟩)] u [(some b3, .box [.slice ao out.length co]), (some b4, .box [visI b3 b4]), (some b5, .box [visB b4 b5]), (none, .rwv (.slice ao out.length co) 42 10 out.length acc)]
   fun r u' l' => r = .tuple #[] ∧ ∃ ao' co' acc', l' = [(some b3, .box [.slice ao' (out ++ inls (listB bs)).length co']), (some b4, .box [visI b3 b4]), (some b5, .box [visB b4 b5]), (none, .rwv (.slice ao' (out ++ inls (listB bs)).length co') 42 10 (out ++ inls (listB bs)).length acc')] ∧ InlsC u' (out ++ inls (listB bs)) acc' := by
 induction n using Nat.strongRecOn with
 | _ n ih =>
 intro v bs out ao co acc u hsz hbig hsm ha hacc
 have hlx := len_szB bs
 obtain ⟨cs, ⟨ad, cap, rfl, h1⟩, hc1⟩ := ha
 refine FnO.intro [] Tryz.func110 rfl rfl rfl ?_
 intro w0 D hw0
 refine wc_pin 1 1001 _ 0 rfl rfl ?_
 refine wc_pin 2 1002 _ 0 rfl rfl ?_
 refine wc_seq ?_
 refine wc_region ?_
 refine ym rfl rfl ?_
 refine rl_y (y_len_v rfl rfl Tryz.s23 rfl) rfl ?_
 refine ym rfl rfl ?_
 refine rl_end (ρ' := [(0, _), (1, _), (2, _), (6, _), (7, _)]) ⟨rfl, rfl, rfl, rfl, rfl, trivial⟩ ?_
 refine q_then ?_
 refine wc_block ?_
 refine wc_loop (fun m ρ σ u' => ∃ i : Nat, i + m = bs.length ∧ VLe u u' ∧ ∃ (ai : Option Addr) (ci : Nat) (li : List Value), σ = [(1000, (some b3, .box [.slice ai (out ++ inls (listB (bs.take i))).length ci])), (1001, (some b4, .box [visI b3 b4])), (1002, (some b5, .box [visB b4 b5])), (1003, (none, .rwv (.slice ai (out ++ inls (listB (bs.take i))).length ci) 42 10 (out ++ inls (listB (bs.take i))).length li))] ∧ ρ = [(0, .v (.slice ad bs.length cap)), (1, .p 1001 0), (2, .p 1002 0), (6, .v (.int .i64 bs.length)), (7, .v (.int .i64 i))] ∧ (InlsC u' (out ++ inls (listB (bs.take i))) li)) (bs.length) ?_ ?_
 ·
  refine ⟨[(0, _), (1, _), (2, _), (6, _), (7, _)], [(1000, _), (1001, _), (1002, _), (1003, _)], ⟨rfl, rfl, rfl, rfl, rfl, trivial⟩, ⟨rfl, rfl, rfl, rfl, trivial⟩, 0, by omega, VLe.refl _, ao, co, acc, (by simp [listB, inls]), rfl, ?_⟩
  simpa [listB, inls] using hacc
 ·
  rintro m ρ σ u' ⟨i, hi1, hle1, ai, ci, li, rfl, rfl, hli⟩
  refine wc_seq ?_
  refine wc_region ?_
  refine rl_y (y_lss rfl rfl rfl) rfl ?_
  refine rl_end (ρ' := [(0, _), (1, _), (2, _), (6, _), (7, _), (8, _)]) ⟨rfl, rfl, rfl, rfl, rfl, rfl, trivial⟩ ?_
  refine q_then ?_
  refine wc_seq ?_
  refine wc_cond rfl (fun hb1 => ?_) (fun hb1 => ?_)
  ·
   refine wc_skip ?_
   refine q_then ?_
   refine wc_seq ?_
   refine wc_block ?_
   refine wc_seq ?_
   refine wc_region ?_
   refine ym rfl rfl ?_
   refine ya rfl rfl ?_
   refine rl_end (ρ' := [(0, _), (1, _), (2, _), (4, _), (6, _), (7, _)]) ⟨rfl, rfl, rfl, rfl, rfl, rfl, trivial⟩ ?_
   refine q_then ?_
   refine wc_seq ?_
   have hlt : i < bs.length := by have := of_decide_eq_true hb1; omega
   have h1 := h1.mono hle1
   obtain ⟨k, lv, inf, t, d, ti, a, line, kids, vc, vp, vl, vk, hg, hcut1, s1, s2, s3, s4, hok⟩ := (hc1.mono hle1).at hlt
   have oneAll := ((hc1.mono hle1).get i _ hg).one
   rw [hcut1] at oneAll
   have hsm1 := smB_get hsm hg
   unfold smB1 at hsm1
   have hszk := szB_kids hg
   have htg := szB_take_get hg
   simp only [szb] at htg
   have hdt := inlsB_take hg
   have hil := inlsB_len (bs.take i)
   have hAl : (out ++ inls (listB (bs.take i))).length ≤ out.length + szB (bs.take i) := by simp; omega
   have hdt2 : out ++ inls (listB (bs.take (i + 1))) = (out ++ inls (listB (bs.take i)) ++ deep line) ++ inls (listB kids) := by rw [hdt]; simp
   generalize out ++ inls (listB (bs.take i)) = A at *
   have hdl := deep_len line
   refine wc_draw Tryz.mixed rfl [] trivial ?_
   refine ra_y (i := 1) rfl (by kernel_rfl) (by kernel_rfl) (by kernel_rfl) (np_then (np_block (np_then (np_then (np_block (np_finO)))))) (y_move rfl rfl) rfl ?_
   refine ra_y (i := 2) rfl (by kernel_rfl) (by kernel_rfl) (by kernel_rfl) (np_then (np_block (np_then (np_then (np_block (np_finO)))))) (y_move rfl rfl) rfl ?_
   refine ra_y (i := 3) rfl (by kernel_rfl) (by kernel_rfl) (by kernel_rfl) (np_then (np_block (np_then (np_then (np_block (np_finO)))))) (y_index_e rfl Tryz.s23 rfl rfl (by assumption) (by first | rfl | omega) (by omega)) rfl ?_
   refine ra_y (i := 4) rfl (by kernel_rfl) (by kernel_rfl) (by kernel_rfl) (np_then (np_block (np_then (np_then (np_block (np_finO)))))) (y_field_e rfl Tryz.f59' rfl (by decide) rfl) rfl ?_
   refine ra_y (i := 5) rfl (by kernel_rfl) (by kernel_rfl) (by kernel_rfl) (np_then (np_block (np_then (np_then (np_block (np_finO)))))) (y_load_el rfl Tryz.k35 rfl (by assumption) (by omega) (by assumption) (vs := [_]) rfl rfl rfl rfl) rfl ?_
   refine ra_do (i := 0) rfl rfl (by kernel_rfl) ?_
   refine do_y (y_load_p rfl Tryz.k117 rfl rfl rfl (vs := [_]) rfl rfl rfl) rfl ?_
   refine ra_do (i := 6) rfl rfl (by kernel_rfl) ?_
   refine do_call_o (caps := [.pointer (some ⟨b3, 0, none⟩), .pointer (some ⟨b4, 0, none⟩)]) (ρ' := [(0, _), (1, _), (2, _), (4, _), (6, _), (7, _)]) [1000, 1001, 1003] [] trivial rfl rfl rfl Tryz.c106 rfl rfl ⟨rfl, rfl, rfl, rfl, rfl, rfl, trivial⟩ rfl rfl rfl (FnO.mono (visI_fn b3 b4 (szI line) vl line A ai ci li u' (Nat.le_refl _) (by omega) hsm1.2.2.2.2.1 s3 hli) ?_)
   rintro v uI l1 hleI ⟨rfl, a6, c6, l6, rfl, h6⟩ -
   refine ⟨⟨fun _ h => h, fun _ h => h, fun _ h => h, trivial⟩, ?_⟩
   refine ra_end (by kernel_rfl) (ρ' := [(0, _), (1, _), (2, _), (4, _), (6, _), (7, _)]) ⟨rfl, rfl, rfl, rfl, rfl, rfl, trivial⟩ ?_
   refine q_then ?_
   have h1 := h1.mono hleI
   refine wc_draw Tryz.mixed rfl [] trivial ?_
   refine ra_y (i := 1) rfl (by kernel_rfl) (by kernel_rfl) (by kernel_rfl) (np_block (np_then (np_then (np_block (np_finO))))) (y_move rfl rfl) rfl ?_
   refine ra_y (i := 2) rfl (by kernel_rfl) (by kernel_rfl) (by kernel_rfl) (np_block (np_then (np_then (np_block (np_finO))))) (y_move rfl rfl) rfl ?_
   refine ra_y (i := 3) rfl (by kernel_rfl) (by kernel_rfl) (by kernel_rfl) (np_block (np_then (np_then (np_block (np_finO))))) (y_index_e rfl Tryz.s23 rfl rfl (by assumption) (by first | rfl | omega) (by omega)) rfl ?_
   refine ra_y (i := 4) rfl (by kernel_rfl) (by kernel_rfl) (by kernel_rfl) (np_block (np_then (np_then (np_block (np_finO))))) (y_field_e rfl Tryz.f59' rfl (by decide) rfl) rfl ?_
   refine ra_y (i := 5) rfl (by kernel_rfl) (by kernel_rfl) (by kernel_rfl) (np_block (np_then (np_then (np_block (np_finO))))) (y_load_el rfl Tryz.k23 rfl (by assumption) (by omega) (by assumption) (vs := [_]) rfl rfl rfl rfl) rfl ?_
   refine ra_do (i := 0) rfl rfl (by kernel_rfl) ?_
   refine do_y (y_load_p rfl Tryz.k83 rfl rfl rfl (vs := [_]) rfl rfl rfl) rfl ?_
   refine ra_do (i := 6) rfl rfl (by kernel_rfl) ?_
   refine do_call_o (caps := [.pointer (some ⟨b4, 0, none⟩), .pointer (some ⟨b5, 0, none⟩)]) (ρ' := [(0, _), (1, _), (2, _), (6, _), (7, _)]) [1000, 1001, 1002, 1003] [] trivial rfl rfl rfl Tryz.c110 rfl rfl ⟨rfl, rfl, rfl, rfl, rfl, trivial⟩ rfl rfl rfl (FnO.mono (ih (szB kids) (by omega) vk kids (A ++ deep line) a6 c6 l6 uI (Nat.le_refl _) (by simp; omega) hsm1.2.2.2.2.2 (s4.mono hleI) h6) ?_)
   rintro v uK l1 hleK ⟨rfl, a7, c7, l7, rfl, h7⟩ -
   refine ⟨⟨fun _ h => h, fun _ h => h, fun _ h => h, fun _ h => h, trivial⟩, ?_⟩
   refine ra_end (by kernel_rfl) (ρ' := [(0, _), (1, _), (2, _), (6, _), (7, _)]) ⟨rfl, rfl, rfl, rfl, rfl, trivial⟩ ?_
   refine q_block ?_
   refine q_then ?_
   refine wc_region ?_
   refine rl_y (y_add rfl rfl rfl (wrap64_id (by omega))) rfl ?_
   refine ym rfl rfl ?_
   refine rl_end (ρ' := [(0, _), (1, _), (2, _), (6, _), (7, _)]) ⟨rfl, rfl, rfl, rfl, rfl, trivial⟩ ?_
   refine q_thenK ?_
   refine ⟨m - 1, [(0, _), (1, _), (2, _), (6, _), (7, _)], [(1000, _), (1001, _), (1002, _), (1003, _)], by omega, ⟨rfl, rfl, rfl, rfl, rfl, trivial⟩, ⟨rfl, rfl, rfl, rfl, trivial⟩, i + 1, by omega, (hle1.trans (hleI.trans hleK)), a7, c7, l7, (by rw [hdt2]), (by first | rfl | simp), ?_⟩
   rw [hdt2]; exact h7
  ·
   refine wc_exit ?_
   refine q_then_exit ?_
   refine q_then_exit ?_
   refine q_block_hit ?_
   refine finO0n [1000, 1001, 1002, 1003]  rfl rfl ?_
   have hge := of_decide_eq_false hb1
   rw [List.take_of_length_le (by omega)] at hli ⊢
   exact ⟨rfl, _, _, _, rfl, hli⟩
theorem treeInlines_fn (v : Value) (bs : List Blk) (u : View) (hbig : szB bs ≤ 100000) (hsm : smB bs) (ha : BlkS u v bs) : FnP Tryz.prog 82 [v] u fun r u' => InlS u' r (inls (listB bs)) := by
 refine FnP.intro [.tmp 2] Tryz.func82 rfl rfl rfl ?_
 intro w0 D hw0
 refine wc_seq ?_
 refine wc_region ?_
 refine ya rfl rfl ?_
 refine rl_end (ρ' := [(0, _)]) ⟨rfl, trivial⟩ ?_
 refine q_then ?_
 refine wc_seq ?_
 refine wc_region ?_
 refine rl_do rfl rfl ?_
 refine do_alloc trivial Tryz.z35 rfl rfl rfl ?_
 refine rl_end (ρ' := [(0, _), (3, _)]) ⟨rfl, rfl, trivial⟩ ?_
 refine q_then ?_
 refine wc_seq ?_
 refine wc_region ?_
 refine rl_do rfl rfl ?_
 refine do_alloc trivial Tryz.z117 rfl rfl rfl ?_
 refine rl_end (ρ' := [(0, _), (3, _), (4, _)]) ⟨rfl, rfl, rfl, trivial⟩ ?_
 refine q_then ?_
 refine wc_seq ?_
 refine wc_region ?_
 refine rl_name 3 rfl ⟨3, _, .inl rfl⟩ ?_
 intro b3
 refine rl_name 4 rfl ⟨4, _, .inl rfl⟩ ?_
 intro b4
 refine rl_y (y_makeFunc rfl rfl rfl) rfl ?_
 refine rl_do rfl rfl ?_
 refine do_store_p trivial rfl Tryz.k117 rfl rfl rfl (vs := [_]) rfl rfl (by first | rfl | assumption | simp [Value.oneCell', str]) (Nat.le_of_ble_eq_true rfl) rfl ?_
 refine rl_end (ρ' := [(0, _), (3, _), (4, _)]) ⟨rfl, rfl, rfl, trivial⟩ ?_
 refine q_then ?_
 refine wc_seq ?_
 refine wc_region ?_
 refine rl_do rfl rfl ?_
 refine do_alloc trivial Tryz.z83 rfl rfl rfl ?_
 refine rl_end (ρ' := [(0, _), (3, _), (4, _), (5, _)]) ⟨rfl, rfl, rfl, rfl, trivial⟩ ?_
 refine q_then ?_
 refine wc_seq ?_
 refine wc_region ?_
 refine rl_name 5 rfl ⟨5, _, .inl rfl⟩ ?_
 intro b5
 refine rl_y (y_makeFunc rfl rfl rfl) rfl ?_
 refine rl_do rfl rfl ?_
 refine do_store_p trivial rfl Tryz.k83 rfl rfl rfl (vs := [_]) rfl rfl (by first | rfl | assumption | simp [Value.oneCell', str]) (Nat.le_of_ble_eq_true rfl) rfl ?_
 refine rl_end (ρ' := [(0, _), (3, _), (5, _)]) ⟨rfl, rfl, rfl, trivial⟩ ?_
 refine q_then ?_
 refine wc_seq ?_
 refine wc_region ?_
 refine rl_y (y_load_p rfl Tryz.k83 rfl rfl rfl (vs := [_]) rfl rfl rfl) rfl ?_
 refine ym rfl rfl ?_
 refine rl_nilW 600 42 10 rfl rfl ?_
 refine rl_do rfl rfl ?_
 refine do_call_o (caps := [.pointer (some ⟨b4, 0, none⟩), .pointer (some ⟨b5, 0, none⟩)]) (ρ' := [(3, _)]) [3, 4, 5, 600] [] trivial rfl rfl rfl Tryz.c110 rfl rfl ⟨rfl, trivial⟩ rfl rfl rfl (FnO.mono (visB_fn b3 b4 b5 (szB bs) v bs [] none 0 [] u (Nat.le_refl _) (by simp; omega) hsm ha InlsC.nil) ?_)
 rintro v u1 l1 hle1 ⟨rfl, a7, c7, l7, rfl, h7⟩ -
 refine ⟨⟨fun _ h => h, fun _ h => h, fun _ h => h, fun _ h => h, trivial⟩, ?_⟩
 refine rl_end (ρ' := [(3, _)]) ⟨rfl, trivial⟩ ?_
 refine q_then ?_
 refine wc_seq ?_
 refine wc_region ?_
 refine rl_y (y_load_p rfl Tryz.k35 rfl rfl rfl (vs := [_]) rfl rfl rfl) rfl ?_
 refine rl_freezeW 600 rfl ?_
 intro uF hleF hF
 refine ya rfl rfl ?_
 refine rl_end (ρ' := [(2, _)]) ⟨rfl, trivial⟩ ?_
 refine q_then ?_
 refine wc_ret ?_
 refine fin1 (.tmp rfl) ?_
 exact ⟨_, hF, h7.mono hleF⟩
abbrev FgP := List Blk → (Nat → Prop) → (World → Prop) → Prop
def RoundsB (L : Nat) (u : View) (Y : FgP) : Prop :=
 ∀ pre H I, Y pre H I → ∀ u' x cs, VLe u u' → BlkC u' x cs → YldO Tryz.prog L [.agg cs.toArray] u' [(none, .fg H I)] fun r u'' l' => r = .bool true ∧ ∃ H' I', l' = [(none, .fg H' I')] ∧ Y (pre ++ [x]) H' I'
theorem RoundsB.mono {L : Nat} {u u' : View} {Y : FgP} (h : RoundsB L u Y) (hu : VLe u u') : RoundsB L u' Y := fun pre H I hY u2 x cs hv hc => h pre H I hY u2 x cs (hu.trans hv) hc
abbrev eachV (b2 b3 : Nat) : Value := .func (.func 105) #[] #[.pointer (some ⟨b2, 0, none⟩), .pointer (some ⟨b3, 0, none⟩)]
abbrev yldV (L : Nat) : Value := .func (.yield L) #[] #[]
set_option maxHeartbeats 4000000 in
theorem eachRec_fn (b2 b3 L : Nat) (Y : FgP) (n : Nat) : ∀ (v : Value) (bs : List Blk) (pre : List Blk) (H : Nat → Prop) (I : World → Prop) (u : View), szB bs ≤ n → szB bs ≤ 100000 → BlkS u v bs → RoundsB L u Y → Y pre H I →
  FnO Tryz.prog 105 [v, .pointer (some ⟨b2, 0, none⟩), .pointer (some ⟨b3, 0, none⟩)] u [(some b2, .box [yldV L]), (some b3, .box [eachV b2 b3]), (none, .fg H I)]
   fun r u' l' => r = .bool true ∧ ∃ H' I', l' = [(some b2, .box [yldV L]), (some b3, .box [eachV b2 b3]), (none, .fg H' I')] ∧ Y (pre ++ listB bs) H' I' := by
 induction n using Nat.strongRecOn with
 | _ n ih =>
 intro v bs pre H I u hsz hbig ha hR hY
 have hlx := len_szB bs
 obtain ⟨cs, ⟨ad, cap, rfl, h1⟩, hc1⟩ := ha
 refine FnO.intro [.tmp 4] Tryz.func105 rfl rfl rfl ?_
 intro w0 D hw0
 refine wc_pin 1 1000 _ 0 rfl rfl ?_
 refine wc_pin 2 1001 _ 0 rfl rfl ?_
 refine wc_seq ?_
 refine wc_region ?_
 refine ya rfl rfl ?_
 refine rl_end (ρ' := [(0, _), (1, _), (2, _)]) ⟨rfl, rfl, rfl, trivial⟩ ?_
 refine q_then ?_
 refine wc_seq ?_
 refine wc_seq ?_
 refine wc_region ?_
 refine ym rfl rfl ?_
 refine rl_y (y_len_v rfl rfl Tryz.s23 rfl) rfl ?_
 refine ym rfl rfl ?_
 refine rl_end (ρ' := [(0, _), (1, _), (2, _), (7, _), (8, _)]) ⟨rfl, rfl, rfl, rfl, rfl, trivial⟩ ?_
 refine q_then ?_
 refine wc_block ?_
 refine wc_loop (fun m ρ σ u' => ∃ i : Nat, i + m = bs.length ∧ VLe u u' ∧ ∃ (Hi : Nat → Prop) (Ii : World → Prop), σ = [(1000, (some b2, .box [yldV L])), (1001, (some b3, .box [eachV b2 b3])), (1002, (none, .fg Hi Ii))] ∧ ρ = [(0, .v (.slice ad bs.length cap)), (1, .p 1000 0), (2, .p 1001 0), (7, .v (.int .i64 bs.length)), (8, .v (.int .i64 i))] ∧ (Y (pre ++ listB (bs.take i)) Hi Ii)) (bs.length) ?_ ?_
 ·
  refine ⟨[(0, _), (1, _), (2, _), (7, _), (8, _)], [(1000, _), (1001, _), (1002, _)], ⟨rfl, rfl, rfl, rfl, rfl, trivial⟩, ⟨rfl, rfl, rfl, trivial⟩, 0, by omega, VLe.refl _, H, I, rfl, rfl, ?_⟩
  simpa [listB] using hY
 ·
  rintro m ρ σ u' ⟨i, hi2, hle2, Hi, Ii, rfl, rfl, hYi⟩
  refine wc_seq ?_
  refine wc_region ?_
  refine rl_y (y_lss rfl rfl rfl) rfl ?_
  refine rl_end (ρ' := [(0, _), (1, _), (2, _), (7, _), (8, _), (9, _)]) ⟨rfl, rfl, rfl, rfl, rfl, rfl, trivial⟩ ?_
  refine q_then ?_
  refine wc_seq ?_
  refine wc_cond rfl (fun hb2 => ?_) (fun hb2 => ?_)
  ·
   refine wc_skip ?_
   refine q_then ?_
   refine wc_seq ?_
   refine wc_block ?_
   refine wc_seq ?_
   refine wc_region ?_
   refine ym rfl rfl ?_
   refine ya rfl rfl ?_
   refine rl_end (ρ' := [(0, _), (1, _), (2, _), (5, _), (7, _), (8, _)]) ⟨rfl, rfl, rfl, rfl, rfl, rfl, trivial⟩ ?_
   refine q_then ?_
   refine wc_seq ?_
   have hlt : i < bs.length := by have := of_decide_eq_true hb2; omega
   have h1 := h1.mono hle2
   obtain ⟨k, lv, inf, t, d, ti, a, line, kids, vc, vp, vl, vk, hg, hcut1, s1, s2, s3, s4, hok⟩ := (hc1.mono hle2).at hlt
   have hbc := (hc1.mono hle2).get i _ hg
   rw [hcut1] at hbc
   have oneAll := hbc.one
   have hszk := szB_kids hg
   have hdt : pre ++ listB (bs.take (i + 1)) = (pre ++ listB (bs.take i) ++ [.mk k lv inf t d ti a line kids]) ++ listB kids := by rw [listB_take hg]; simp [listb]
   refine wc_drawI Tryz.mixed ?_
   refine ri_y (i := 1) rfl rfl (by kernel_rfl) (by kernel_rfl) (by kernel_rfl) (np_then (np_block (np_then (np_then (np_block (np_then (np_finO))))))) (fun _ _ => rfl) (y_move rfl rfl) rfl ?_
   refine ri_y (i := 2) rfl rfl (by kernel_rfl) (by kernel_rfl) (by kernel_rfl) (np_then (np_block (np_then (np_then (np_block (np_then (np_finO))))))) (fun _ _ => rfl) (y_move rfl rfl) rfl ?_
   refine ri_y (i := 3) rfl rfl (by kernel_rfl) (by kernel_rfl) (by kernel_rfl) (np_then (np_block (np_then (np_then (np_block (np_then (np_finO))))))) (fun _ _ => rfl) (y_index_eX rfl Tryz.s23 rfl rfl (by assumption) (by first | rfl | omega) (by omega)) rfl ?_
   refine ri_all (is := [0, 4]) (by kernel_rfl) rfl ?_
   refine riall_cons rfl rfl ?_ ?_
   ·
    refine Does.toI (by simp) ?_
    refine do_y (y_load_p rfl Tryz.k64 rfl rfl rfl (vs := [_]) rfl rfl rfl) rfl ?_
    refine ri_do (i := 4) rfl rfl (by kernel_rfl) ?_
    refine Does.toI (by simp) ?_
    refine do_y (y_load_el rfl Tryz.k59 rfl (by assumption) (by omega) (by assumption) (vs := [_, _, _, _, _, _, _, _, _, _, _]) rfl rfl rfl rfl) rfl ?_
    refine ri_do (i := 5) rfl rfl (by kernel_rfl) ?_
    refine do_yield (ρ' := [(0, _), (1, _), (2, _), (5, _), (7, _), (8, _)]) [1002] [] rfl rfl rfl rfl rfl ⟨rfl, rfl, rfl, rfl, rfl, rfl, trivial⟩ rfl rfl rfl (YldO.mono (hR.mono hle2 _ _ _ hYi u' _ _ (VLe.refl _) hbc) ?_)
    rintro v uY l1 hleY ⟨rfl, H2, I2, rfl, hY2⟩ -
    refine ⟨⟨fun _ h => h, trivial⟩, ?_⟩
    have h1 := h1.mono hleY
    refine ri_y (i := 6) rfl rfl (by kernel_rfl) (by kernel_rfl) (by kernel_rfl) (np_then (np_block (np_then (np_then (np_block (np_then (np_finO))))))) (fun _ _ => rfl) (y_not rfl rfl) rfl ?_
    refine ri_y (i := 7) rfl rfl (by kernel_rfl) (by kernel_rfl) (by kernel_rfl) (np_then (np_block (np_then (np_then (np_block (np_then (np_finO))))))) (fun _ _ => rfl) (y_move rfl rfl) rfl ?_
    refine ri_y_on (i := 9) rfl rfl rfl rfl (by kernel_rfl) (by kernel_rfl) (by kernel_rfl) (np_then (np_block (np_then (np_then (np_block (np_then (np_finO))))))) (fun _ _ => rfl) (y_move rfl rfl) rfl ?_
    refine ri_y_on (i := 10) rfl rfl rfl rfl (by kernel_rfl) (by kernel_rfl) (by kernel_rfl) (np_then (np_block (np_then (np_then (np_block (np_then (np_finO))))))) (fun _ _ => rfl) (y_move rfl rfl) rfl ?_
    refine ri_y_on (i := 11) rfl rfl rfl rfl (by kernel_rfl) (by kernel_rfl) (by kernel_rfl) (np_then (np_block (np_then (np_then (np_block (np_then (np_finO))))))) (fun _ _ => rfl) (y_index_eX rfl Tryz.s23 rfl rfl (by assumption) (by first | rfl | omega) (by omega)) rfl ?_
    refine ri_y_on (i := 12) rfl rfl rfl rfl (by kernel_rfl) (by kernel_rfl) (by kernel_rfl) (np_then (np_block (np_then (np_then (np_block (np_then (np_finO))))))) (fun _ _ => rfl) (y_field_e rfl Tryz.f59' rfl (by decide) rfl) rfl ?_
    refine ri_all (is := [8, 13]) (by kernel_rfl) rfl ?_
    refine riall_cons_on rfl rfl rfl (by simp) ?_ ?_
    ·
     refine Does.toI (by simp) ?_
     refine do_y (y_load_p rfl Tryz.k150 rfl rfl rfl (vs := [_]) rfl rfl rfl) rfl ?_
     refine ri_do_on (i := 13) rfl rfl rfl (by kernel_rfl) (by simp) ?_
     refine Does.toI (by simp) ?_
     refine do_y (y_load_el rfl Tryz.k23 rfl (by assumption) (by omega) (by assumption) (vs := [_]) rfl rfl rfl rfl) rfl ?_
     refine ri_do_on (i := 14) rfl rfl rfl (by kernel_rfl) (by simp) ?_
     refine Does.toI (by simp) ?_
     refine do_call_o (caps := [.pointer (some ⟨b2, 0, none⟩), .pointer (some ⟨b3, 0, none⟩)]) (ρ' := [(0, _), (1, _), (2, _), (7, _), (8, _), (18, _)]) [1000, 1001, 1002] [] trivial rfl rfl rfl Tryz.c105 rfl rfl ⟨rfl, rfl, rfl, rfl, rfl, rfl, trivial⟩ rfl rfl rfl (FnO.mono (ih (szB kids) (by omega) vk kids _ H2 I2 uY (Nat.le_refl _) (by omega) (s4.mono hleY) (hR.mono (hle2.trans hleY)) hY2) ?_)
     rintro v uK l1 hleK ⟨rfl, H3, I3, rfl, hY3⟩ -
     refine ⟨⟨fun _ h => h, fun _ h => h, fun _ h => h, trivial⟩, ?_⟩
     refine ri_y_on (i := 15) rfl rfl rfl rfl (by kernel_rfl) (by kernel_rfl) (by kernel_rfl) (np_then (np_block (np_then (np_then (np_block (np_then (np_finO))))))) (fun _ _ => rfl) (y_not rfl rfl) rfl ?_
     refine ri_y (i := 16) rfl rfl (by kernel_rfl) (by kernel_rfl) (by kernel_rfl) (np_then (np_block (np_then (np_then (np_block (np_then (np_finO))))))) (fun _ _ => rfl) (y_pick_f rfl rfl rfl) rfl ?_
     refine ri_end (by kernel_rfl) (ρ' := [(0, _), (1, _), (2, _), (7, _), (8, _), (27, _)]) ⟨rfl, rfl, rfl, rfl, rfl, rfl, trivial⟩ ?_
     refine q_then ?_
     refine wc_cond_f rfl (rfl) ?_
     refine wc_skip ?_
     refine q_block ?_
     refine q_then ?_
     refine wc_region ?_
     refine rl_y (y_add rfl rfl rfl (wrap64_id (by omega))) rfl ?_
     refine ym rfl rfl ?_
     refine rl_end (ρ' := [(0, _), (1, _), (2, _), (7, _), (8, _)]) ⟨rfl, rfl, rfl, rfl, rfl, trivial⟩ ?_
     refine q_thenK ?_
     refine ⟨m - 1, [(0, _), (1, _), (2, _), (7, _), (8, _)], [(1000, _), (1001, _), (1002, _)], by omega, ⟨rfl, rfl, rfl, rfl, rfl, trivial⟩, ⟨rfl, rfl, rfl, trivial⟩, i + 1, by omega, (hle2.trans (hleY.trans hleK)), H3, I3, rfl, (by first | rfl | simp), ?_⟩
     rw [hdt]; exact hY3
    refine riall_cons_on rfl rfl rfl (by simp) ?_ ?_
    ·
     refine Does.toI (by simp) ?_
     refine do_y (y_load_el rfl Tryz.k23 rfl (by assumption) (by omega) (by assumption) (vs := [_]) rfl rfl rfl rfl) rfl ?_
     refine ri_do_on (i := 8) rfl rfl rfl (by kernel_rfl) (by simp) ?_
     refine Does.toI (by simp) ?_
     refine do_y (y_load_p rfl Tryz.k150 rfl rfl rfl (vs := [_]) rfl rfl rfl) rfl ?_
     refine ri_do_on (i := 14) rfl rfl rfl (by kernel_rfl) (by simp) ?_
     refine Does.toI (by simp) ?_
     refine do_call_o (caps := [.pointer (some ⟨b2, 0, none⟩), .pointer (some ⟨b3, 0, none⟩)]) (ρ' := [(0, _), (1, _), (2, _), (7, _), (8, _), (18, _)]) [1000, 1001, 1002] [] trivial rfl rfl rfl Tryz.c105 rfl rfl ⟨rfl, rfl, rfl, rfl, rfl, rfl, trivial⟩ rfl rfl rfl (FnO.mono (ih (szB kids) (by omega) vk kids _ H2 I2 uY (Nat.le_refl _) (by omega) (s4.mono hleY) (hR.mono (hle2.trans hleY)) hY2) ?_)
     rintro v uK l1 hleK ⟨rfl, H3, I3, rfl, hY3⟩ -
     refine ⟨⟨fun _ h => h, fun _ h => h, fun _ h => h, trivial⟩, ?_⟩
     refine ri_y_on (i := 15) rfl rfl rfl rfl (by kernel_rfl) (by kernel_rfl) (by kernel_rfl) (np_then (np_block (np_then (np_then (np_block (np_then (np_finO))))))) (fun _ _ => rfl) (y_not rfl rfl) rfl ?_
     refine ri_y (i := 16) rfl rfl (by kernel_rfl) (by kernel_rfl) (by kernel_rfl) (np_then (np_block (np_then (np_then (np_block (np_then (np_finO))))))) (fun _ _ => rfl) (y_pick_f rfl rfl rfl) rfl ?_
     refine ri_end (by kernel_rfl) (ρ' := [(0, _), (1, _), (2, _), (7, _), (8, _), (27, _)]) ⟨rfl, rfl, rfl, rfl, rfl, rfl, trivial⟩ ?_
     refine q_then ?_
     refine wc_cond_f rfl (rfl) ?_
     refine wc_skip ?_
     refine q_block ?_
     refine q_then ?_
     refine wc_region ?_
     refine rl_y (y_add rfl rfl rfl (wrap64_id (by omega))) rfl ?_
     refine ym rfl rfl ?_
     refine rl_end (ρ' := [(0, _), (1, _), (2, _), (7, _), (8, _)]) ⟨rfl, rfl, rfl, rfl, rfl, trivial⟩ ?_
     refine q_thenK ?_
     refine ⟨m - 1, [(0, _), (1, _), (2, _), (7, _), (8, _)], [(1000, _), (1001, _), (1002, _)], by omega, ⟨rfl, rfl, rfl, rfl, rfl, trivial⟩, ⟨rfl, rfl, rfl, trivial⟩, i + 1, by omega, (hle2.trans (hleY.trans hleK)), H3, I3, rfl, (by first | rfl | simp), ?_⟩
     rw [hdt]; exact hY3
    exact riall_nil
   refine riall_cons rfl rfl ?_ ?_
   ·
    refine Does.toI (by simp) ?_
    refine do_y (y_load_el rfl Tryz.k59 rfl (by assumption) (by omega) (by assumption) (vs := [_, _, _, _, _, _, _, _, _, _, _]) rfl rfl rfl rfl) rfl ?_
    refine ri_do (i := 0) rfl rfl (by kernel_rfl) ?_
    refine Does.toI (by simp) ?_
    refine do_y (y_load_p rfl Tryz.k64 rfl rfl rfl (vs := [_]) rfl rfl rfl) rfl ?_
    refine ri_do (i := 5) rfl rfl (by kernel_rfl) ?_
    refine do_yield (ρ' := [(0, _), (1, _), (2, _), (5, _), (7, _), (8, _)]) [1002] [] rfl rfl rfl rfl rfl ⟨rfl, rfl, rfl, rfl, rfl, rfl, trivial⟩ rfl rfl rfl (YldO.mono (hR.mono hle2 _ _ _ hYi u' _ _ (VLe.refl _) hbc) ?_)
    rintro v uY l1 hleY ⟨rfl, H2, I2, rfl, hY2⟩ -
    refine ⟨⟨fun _ h => h, trivial⟩, ?_⟩
    have h1 := h1.mono hleY
    refine ri_y (i := 6) rfl rfl (by kernel_rfl) (by kernel_rfl) (by kernel_rfl) (np_then (np_block (np_then (np_then (np_block (np_then (np_finO))))))) (fun _ _ => rfl) (y_not rfl rfl) rfl ?_
    refine ri_y (i := 7) rfl rfl (by kernel_rfl) (by kernel_rfl) (by kernel_rfl) (np_then (np_block (np_then (np_then (np_block (np_then (np_finO))))))) (fun _ _ => rfl) (y_move rfl rfl) rfl ?_
    refine ri_y_on (i := 9) rfl rfl rfl rfl (by kernel_rfl) (by kernel_rfl) (by kernel_rfl) (np_then (np_block (np_then (np_then (np_block (np_then (np_finO))))))) (fun _ _ => rfl) (y_move rfl rfl) rfl ?_
    refine ri_y_on (i := 10) rfl rfl rfl rfl (by kernel_rfl) (by kernel_rfl) (by kernel_rfl) (np_then (np_block (np_then (np_then (np_block (np_then (np_finO))))))) (fun _ _ => rfl) (y_move rfl rfl) rfl ?_
    refine ri_y_on (i := 11) rfl rfl rfl rfl (by kernel_rfl) (by kernel_rfl) (by kernel_rfl) (np_then (np_block (np_then (np_then (np_block (np_then (np_finO))))))) (fun _ _ => rfl) (y_index_eX rfl Tryz.s23 rfl rfl (by assumption) (by first | rfl | omega) (by omega)) rfl ?_
    refine ri_y_on (i := 12) rfl rfl rfl rfl (by kernel_rfl) (by kernel_rfl) (by kernel_rfl) (np_then (np_block (np_then (np_then (np_block (np_then (np_finO))))))) (fun _ _ => rfl) (y_field_e rfl Tryz.f59' rfl (by decide) rfl) rfl ?_
    refine ri_all (is := [8, 13]) (by kernel_rfl) rfl ?_
    refine riall_cons_on rfl rfl rfl (by simp) ?_ ?_
    ·
     refine Does.toI (by simp) ?_
     refine do_y (y_load_p rfl Tryz.k150 rfl rfl rfl (vs := [_]) rfl rfl rfl) rfl ?_
     refine ri_do_on (i := 13) rfl rfl rfl (by kernel_rfl) (by simp) ?_
     refine Does.toI (by simp) ?_
     refine do_y (y_load_el rfl Tryz.k23 rfl (by assumption) (by omega) (by assumption) (vs := [_]) rfl rfl rfl rfl) rfl ?_
     refine ri_do_on (i := 14) rfl rfl rfl (by kernel_rfl) (by simp) ?_
     refine Does.toI (by simp) ?_
     refine do_call_o (caps := [.pointer (some ⟨b2, 0, none⟩), .pointer (some ⟨b3, 0, none⟩)]) (ρ' := [(0, _), (1, _), (2, _), (7, _), (8, _), (18, _)]) [1000, 1001, 1002] [] trivial rfl rfl rfl Tryz.c105 rfl rfl ⟨rfl, rfl, rfl, rfl, rfl, rfl, trivial⟩ rfl rfl rfl (FnO.mono (ih (szB kids) (by omega) vk kids _ H2 I2 uY (Nat.le_refl _) (by omega) (s4.mono hleY) (hR.mono (hle2.trans hleY)) hY2) ?_)
     rintro v uK l1 hleK ⟨rfl, H3, I3, rfl, hY3⟩ -
     refine ⟨⟨fun _ h => h, fun _ h => h, fun _ h => h, trivial⟩, ?_⟩
     refine ri_y_on (i := 15) rfl rfl rfl rfl (by kernel_rfl) (by kernel_rfl) (by kernel_rfl) (np_then (np_block (np_then (np_then (np_block (np_then (np_finO))))))) (fun _ _ => rfl) (y_not rfl rfl) rfl ?_
     refine ri_y (i := 16) rfl rfl (by kernel_rfl) (by kernel_rfl) (by kernel_rfl) (np_then (np_block (np_then (np_then (np_block (np_then (np_finO))))))) (fun _ _ => rfl) (y_pick_f rfl rfl rfl) rfl ?_
     refine ri_end (by kernel_rfl) (ρ' := [(0, _), (1, _), (2, _), (7, _), (8, _), (27, _)]) ⟨rfl, rfl, rfl, rfl, rfl, rfl, trivial⟩ ?_
     refine q_then ?_
     refine wc_cond_f rfl (rfl) ?_
     refine wc_skip ?_
     refine q_block ?_
     refine q_then ?_
     refine wc_region ?_
     refine rl_y (y_add rfl rfl rfl (wrap64_id (by omega))) rfl ?_
     refine ym rfl rfl ?_
     refine rl_end (ρ' := [(0, _), (1, _), (2, _), (7, _), (8, _)]) ⟨rfl, rfl, rfl, rfl, rfl, trivial⟩ ?_
     refine q_thenK ?_
     refine ⟨m - 1, [(0, _), (1, _), (2, _), (7, _), (8, _)], [(1000, _), (1001, _), (1002, _)], by omega, ⟨rfl, rfl, rfl, rfl, rfl, trivial⟩, ⟨rfl, rfl, rfl, trivial⟩, i + 1, by omega, (hle2.trans (hleY.trans hleK)), H3, I3, rfl, (by first | rfl | simp), ?_⟩
     rw [hdt]; exact hY3
    refine riall_cons_on rfl rfl rfl (by simp) ?_ ?_
    ·
     refine Does.toI (by simp) ?_
     refine do_y (y_load_el rfl Tryz.k23 rfl (by assumption) (by omega) (by assumption) (vs := [_]) rfl rfl rfl rfl) rfl ?_
     refine ri_do_on (i := 8) rfl rfl rfl (by kernel_rfl) (by simp) ?_
     refine Does.toI (by simp) ?_
     refine do_y (y_load_p rfl Tryz.k150 rfl rfl rfl (vs := [_]) rfl rfl rfl) rfl ?_
     refine ri_do_on (i := 14) rfl rfl rfl (by kernel_rfl) (by simp) ?_
     refine Does.toI (by simp) ?_
     refine do_call_o (caps := [.pointer (some ⟨b2, 0, none⟩), .pointer (some ⟨b3, 0, none⟩)]) (ρ' := [(0, _), (1, _), (2, _), (7, _), (8, _), (18, _)]) [1000, 1001, 1002] [] trivial rfl rfl rfl Tryz.c105 rfl rfl ⟨rfl, rfl, rfl, rfl, rfl, rfl, trivial⟩ rfl rfl rfl (FnO.mono (ih (szB kids) (by omega) vk kids _ H2 I2 uY (Nat.le_refl _) (by omega) (s4.mono hleY) (hR.mono (hle2.trans hleY)) hY2) ?_)
     rintro v uK l1 hleK ⟨rfl, H3, I3, rfl, hY3⟩ -
     refine ⟨⟨fun _ h => h, fun _ h => h, fun _ h => h, trivial⟩, ?_⟩
     refine ri_y_on (i := 15) rfl rfl rfl rfl (by kernel_rfl) (by kernel_rfl) (by kernel_rfl) (np_then (np_block (np_then (np_then (np_block (np_then (np_finO))))))) (fun _ _ => rfl) (y_not rfl rfl) rfl ?_
     refine ri_y (i := 16) rfl rfl (by kernel_rfl) (by kernel_rfl) (by kernel_rfl) (np_then (np_block (np_then (np_then (np_block (np_then (np_finO))))))) (fun _ _ => rfl) (y_pick_f rfl rfl rfl) rfl ?_
     refine ri_end (by kernel_rfl) (ρ' := [(0, _), (1, _), (2, _), (7, _), (8, _), (27, _)]) ⟨rfl, rfl, rfl, rfl, rfl, rfl, trivial⟩ ?_
     refine q_then ?_
     refine wc_cond_f rfl (rfl) ?_
     refine wc_skip ?_
     refine q_block ?_
     refine q_then ?_
     refine wc_region ?_
     refine rl_y (y_add rfl rfl rfl (wrap64_id (by omega))) rfl ?_
     refine ym rfl rfl ?_
     refine rl_end (ρ' := [(0, _), (1, _), (2, _), (7, _), (8, _)]) ⟨rfl, rfl, rfl, rfl, rfl, trivial⟩ ?_
     refine q_thenK ?_
     refine ⟨m - 1, [(0, _), (1, _), (2, _), (7, _), (8, _)], [(1000, _), (1001, _), (1002, _)], by omega, ⟨rfl, rfl, rfl, rfl, rfl, trivial⟩, ⟨rfl, rfl, rfl, trivial⟩, i + 1, by omega, (hle2.trans (hleY.trans hleK)), H3, I3, rfl, (by first | rfl | simp), ?_⟩
     rw [hdt]; exact hY3
    exact riall_nil
   exact riall_nil
  ·
   refine wc_exit ?_
   refine q_then_exit ?_
   refine q_then_exit ?_
   refine q_block_hit ?_
   refine q_then ?_
   refine wc_seq ?_
   refine wc_region ?_
   refine ya rfl rfl ?_
   refine rl_end (ρ' := [(4, _)]) ⟨rfl, trivial⟩ ?_
   refine q_then ?_
   refine wc_ret ?_
   refine finO1 [1000, 1001, 1002] (.tmp rfl) rfl rfl ?_
   have hge := of_decide_eq_false hb2
   rw [List.take_of_length_le (by omega)] at hYi
   exact ⟨rfl, _, _, rfl, hYi⟩
def EachIt (u : View) (r : Value) (bs : List Blk) : Prop := ∃ b v T fr, r = .func (.func 104) #[] #[.pointer (some ⟨b, 0, none⟩)] ∧ u b = some (.cells #[v] T fr) ∧ BlkS u v bs
theorem eachIt_fn (b1 L : Nat) (Y : FgP) (v : Value) (T : TypeId) (fr : Nat × Nat) (bs : List Blk) (H : Nat → Prop) (I : World → Prop) (u : View) (hbig : szB bs ≤ 100000) (hb1 : u b1 = some (.cells #[v] T fr)) (ha : BlkS u v bs) (hR : RoundsB L u Y) (hY : Y [] H I) :
  FnO Tryz.prog 104 [yldV L, .pointer (some ⟨b1, 0, none⟩)] u [(none, .fg H I)] fun r u' l' => ∃ H' I', l' = [(none, .fg H' I')] ∧ Y (listB bs) H' I' := by
 refine FnO.intro [] Tryz.func104 rfl rfl rfl ?_
 intro w0 D hw0
 refine wc_seq ?_
 refine wc_region ?_
 refine rl_do rfl rfl ?_
 refine do_box trivial rfl (cs := [_]) rfl rfl rfl rfl ?_
 refine rl_end (ρ' := [(1, _), (2, _)]) ⟨rfl, rfl, trivial⟩ ?_
 refine q_then ?_
 refine wc_seq ?_
 refine wc_region ?_
 refine rl_do rfl rfl ?_
 refine do_alloc trivial Tryz.z150 rfl rfl rfl ?_
 refine rl_end (ρ' := [(1, _), (2, _), (3, _)]) ⟨rfl, rfl, rfl, trivial⟩ ?_
 refine q_then ?_
 refine wc_seq ?_
 refine wc_region ?_
 refine rl_name 2 rfl ⟨2, _, .inl rfl⟩ ?_
 intro b2
 refine rl_name 3 rfl ⟨3, _, .inl rfl⟩ ?_
 intro b3
 refine rl_y (y_makeFunc rfl rfl rfl) rfl ?_
 refine rl_do rfl rfl ?_
 refine do_store_p trivial rfl Tryz.k150 rfl rfl rfl (vs := [_]) rfl rfl (by first | rfl | assumption | simp [Value.oneCell', str]) (Nat.le_of_ble_eq_true rfl) rfl ?_
 refine rl_end (ρ' := [(1, _), (3, _)]) ⟨rfl, rfl, trivial⟩ ?_
 refine q_then ?_
 refine wc_region ?_
 refine rl_y (y_load_p rfl Tryz.k150 rfl rfl rfl (vs := [_]) rfl rfl rfl) rfl ?_
 refine rl_y (y_load_v rfl Tryz.k23 rfl (by assumption) (vs := [_]) (by first | rfl | exact hP | exact cut_at hP rfl (Nat.le_of_ble_eq_true rfl) rfl) rfl rfl) rfl ?_
 refine rl_do rfl rfl ?_
 refine do_call_o (caps := [.pointer (some ⟨b2, 0, none⟩), .pointer (some ⟨b3, 0, none⟩)]) (ρ' := []) [2, 3, 1000] [] trivial rfl rfl rfl Tryz.c105 rfl rfl trivial rfl rfl rfl (FnO.mono (eachRec_fn b2 b3 L Y (szB bs) v bs [] H I u (Nat.le_refl _) hbig ha hR hY) ?_)
 rintro v u1 l1 hle1 ⟨rfl, H3, I3, rfl, hY3⟩ -
 refine ⟨⟨fun _ h => h, fun _ h => h, fun _ h => h, trivial⟩, ?_⟩
 refine rl_end (ρ' := []) trivial ?_
 refine finO0n [1000]  rfl rfl ?_
 exact ⟨_, _, rfl, by simpa using hY3⟩
theorem each_fn (v : Value) (bs : List Blk) (u : View) (ha : BlkS u v bs) : FnP Tryz.prog 81 [v] u fun r u' => EachIt u' r bs := by
 have ha2 := ha
 obtain ⟨cs, ⟨ad, cap, rfl, h1⟩, hc1⟩ := ha2
 refine FnP.intro [.tmp 2] Tryz.func81 rfl rfl rfl ?_
 intro w0 D hw0
 refine wc_seq ?_
 refine wc_region ?_
 refine rl_do rfl rfl ?_
 refine do_box trivial rfl (cs := [_]) rfl rfl rfl rfl ?_
 refine ya rfl rfl ?_
 refine rl_end (ρ' := [(1, _)]) ⟨rfl, trivial⟩ ?_
 refine q_then ?_
 refine wc_seq ?_
 refine wc_region ?_
 refine rl_name 1 rfl ⟨1, _, .inl rfl⟩ ?_
 intro b1
 refine rl_y (y_makeFunc rfl rfl rfl) rfl ?_
 refine rl_reveal 1 rfl ?_
 intro b T u1 hle1 hb1 hpin
 obtain rfl := hpin _ rfl
 refine ya rfl rfl ?_
 refine rl_end (ρ' := [(2, _)]) ⟨rfl, trivial⟩ ?_
 refine q_then ?_
 refine wc_ret ?_
 refine fin1 (.tmp rfl) ?_
 exact ⟨_, _, T, (0, 0), rfl, hb1, ha.mono hle1⟩
def openM (l : List Blk) : List (Value × Value) := (noteNames l).foldl (fun m s => mset m (str s) (.bool true)) []
theorem openM_snoc (l : List Blk) (k lv : Int) (inf t d ti : Bs) (a : DAttr) (line : List Inl) (kids : List Blk) : openM (l ++ [.mk k lv inf t d ti a line kids]) = if k = 14 then mset (openM l) (str inf) (.bool true) else openM l := by
 unfold openM noteNames
 rw [List.filterMap_append, List.foldl_append]
 simp only [List.filterMap_cons, List.filterMap_nil, noteName]
 by_cases h : k = 14 <;> simp [h]
theorem openM_keys : ∀ (D : List Bs) (m : List (Value × Value)), SKeys m → SKeys (D.foldl (fun m s => mset m (str s) (.bool true)) m)
 | [], m, h => h
 | s :: D, m, h => openM_keys D _ h.mset
theorem openM_get : ∀ (D : List Bs) (m : List (Value × Value)) (s : Bs), SKeys m → (mget (D.foldl (fun m s => mset m (str s) (.bool true)) m) (str s)).getD (.bool false) = if s ∈ D then .bool true else (mget m (str s)).getD (.bool false)
 | [], m, s, h => by simp
 | x :: D, m, s, h => by
  rw [List.foldl_cons, openM_get D _ s h.mset, mget_mset _ _ _ _ h]
  by_cases h1 : s ∈ D
  ·
   simp [h1]
  ·
   by_cases h2 : s = x
   ·
    subst h2; simp
   ·
    simp [h1, h2]
def OpenIs (m : List (Value × Value)) (D out : List Bs) : Prop := SKeys m ∧ ∀ s, (mget m (str s)).getD (.bool false) = .bool (decide (s ∈ D ∧ s ∉ out))
theorem openIs_start (l : List Blk) : OpenIs (openM l) (noteNames l) [] := by
 refine ⟨openM_keys _ _ rfl, fun s => ?_⟩
 unfold openM
 rw [openM_get (noteNames l) [] s rfl]
 by_cases h : s ∈ noteNames l <;> simp [h, mget_nil]
theorem OpenIs.use {m : List (Value × Value)} {D out : List Bs} (h : OpenIs m D out) (t : Bs) : OpenIs (mset m (str t) (.bool false)) D (out ++ [t]) := by
 refine ⟨h.1.mset, fun s => ?_⟩
 rw [mget_mset _ _ _ _ h.1]
 by_cases e : s = t
 ·
  subst e; simp
 ·
  rw [if_neg e, h.2 s]; simp [e]
abbrev notesJ (b3 bm : Nat) (l : List Blk) : List PO := [(some b3, .box [.map (some bm)]), (some bm, .mp (openM l))]
def notesK (vm : Value) (bs : List Blk) (ρ : Env) (σ : Own) (u1 : View) : Prop :=
 ∃ b3 bm b1 ad cap v1 T1 fr1, ρ = [(1, .p 1 0), (3, .p 3 0), (11, .v (.func (.func 104) #[] #[.pointer (some ⟨b1, 0, none⟩)]))] ∧ σ = [(1, (none, .box [vm, .slice ad bs.length cap])), (3, (some b3, .box [.map (some bm)])), (8, (some bm, .mp []))] ∧ u1 b1 = some (.cells #[v1] T1 fr1) ∧ BlkS u1 v1 bs ∧ BlkS u1 (.slice ad bs.length cap) bs
def notesM (b3 bm : Nat) (pre : List Blk) (x : Blk) (ρ : Env) (σ : Own) (u : View) : Prop :=
 ∃ k lv inf t d ti a line kids vc vp vl vk, x = .mk k lv inf t d ti a line kids ∧ ρ = [(3, .p 1000 0), (4, .p 4 0)] ∧ σ = [(4, (none, .box (blkV k lv inf t d ti a.id vc vp vl vk))), (1000, (some b3, .box [.map (some bm)])), (1001, (some bm, .mp (openM pre)))]
set_option maxHeartbeats 4000000 in
theorem notes_fn (vm vb : Value) (bs : List Blk) (u : View) (hbig : szB bs ≤ 10000) (hsm : smB bs) (ha : BlkS u vb bs) :
  FnP Tryz.prog 52 [.agg #[vm, vb]] u fun r u' => StrS u' r (notesOf bs) := by
 have ha2 := ha
 obtain ⟨cs, ⟨ad, cap, rfl, h1⟩, hc1⟩ := ha2
 have hll := listB_len bs
 have hls := szL_listB bs
 have hli := inls_len (listB bs)
 refine FnP.intro_range (α := Blk) (pre := [_, _]) [.tmp 2] (fun u x v => ∃ cs, v = .agg cs.toArray ∧ BlkC u x cs) (notesK vm bs) Tryz.func52 rfl rfl rfl rfl ?_ ?_
 ·
  intro w0 D hw0
  refine wc_region ?_
  refine rl_do rfl rfl ?_
  refine do_box trivial rfl (cs := [_, _]) rfl rfl rfl rfl ?_
  refine ya rfl rfl ?_
  refine rl_end (ρ' := [(1, _)]) ⟨rfl, trivial⟩ ?_
  refine ⟨rfl, ?_⟩
  refine wc_region ?_
  refine rl_do rfl rfl ?_
  refine do_makeMap trivial rfl rfl rfl ?_
  refine rl_do rfl rfl ?_
  refine do_alloc trivial Tryz.z75 rfl rfl rfl ?_
  refine rl_name 8 rfl ⟨8, 0, .inr rfl⟩ ?_
  intro b8
  refine rl_do rfl rfl ?_
  refine do_store_p trivial rfl Tryz.k75 rfl rfl rfl (vs := [_]) rfl rfl (by first | rfl | assumption | simp [Value.oneCell', str]) (Nat.le_of_ble_eq_true rfl) rfl ?_
  refine rl_name 3 rfl ⟨3, _, .inl rfl⟩ ?_
  intro b3
  refine rl_end (ρ' := [(1, _), (3, _)]) ⟨rfl, rfl, trivial⟩ ?_
  refine ⟨rfl, ?_⟩
  refine wc_region ?_
  refine rl_y (y_field_p rfl Tryz.f25' rfl (by decide) rfl) rfl ?_
  refine rl_y (y_load_p rfl Tryz.k23 rfl rfl rfl (vs := [_]) rfl rfl rfl) rfl ?_
  refine rl_do rfl rfl ?_
  refine do_call (caps := []) trivial rfl rfl Tryz.c81 rfl (FnP.mono (each_fn _ bs u ha) ?_)
  rintro v uE hle0 ⟨b1, v1, T1, fr1, rfl, hb1, ha1⟩ hleE
  refine rl_end (ρ' := [(1, _), (3, _), (11, _)]) ⟨rfl, rfl, rfl, trivial⟩ ?_
  exact ⟨rfl, [(1, _), (3, _), (11, _)], [(1, _), (3, _), (8, _)], ⟨rfl, rfl, rfl, trivial⟩, ⟨rfl, rfl, rfl, trivial⟩, b3, b8, b1, ad, cap, v1, T1, fr1, rfl, rfl, hb1, ha1, ha.mono hleE⟩
 ·
  rintro ρ σ u1 hle ⟨b3, bm, b1, ad, cap, v1, T1, fr1, rfl, rfl, hb1, ha1, ha⟩
  refine ⟨104, [.pointer (some ⟨b1, 0, none⟩)], [3, 8], notesJ b3 bm, listB bs, [(3, .pointer (some ⟨b3, 0, none⟩))], [(1, .p 1 0), (3, .p 3 0)], notesM b3 bm, rfl, Tryz.c104, rfl, rfl, ?_, ⟨rfl, rfl, trivial⟩, rfl, ⟨fun _ h => h, fun _ h => h, trivial⟩, rfl, ?_, ?_, ?_, ?_⟩
  ·
   intro k x hk
   simp only [gv] at hk
   split at hk
   ·
    rename_i hb
    cases hk
    have := Nat.eq_of_beq_eq_true hb
    subst this
    rfl
   ·
    cases hk
  ·
   intro L Y hY H I hYI
   exact FnO.mono (eachIt_fn b1 L Y v1 T1 fr1 bs H I u1 (by omega) hb1 ha1 (fun pre H I h u' x cs hv hc => hY pre H I h u' x _ hv ⟨cs, rfl, hc⟩) hYI) fun _ _ _ _ h => h
  ·
   rintro L pre x v u' w0 D hv ⟨cs, rfl, hc⟩ hlt
   obtain ⟨k, lv, inf, t, d, ti, a, line, kids⟩ := x
   have oneAll := hc.one
   obtain ⟨vc, vp, vl, vk, rfl, s1, s2, s3, s4, hok⟩ := hc.cells
   refine wc_pin 3 1000 _ 0 rfl rfl ?_
   refine wc_region ?_
   refine rl_do rfl rfl ?_
   refine do_alloc trivial Tryz.z59 rfl rfl rfl ?_
   refine rl_do rfl rfl ?_
   refine do_store_p trivial rfl Tryz.k59 rfl rfl rfl (vs := [_, _, _, _, _, _, _, _, _, _, _]) rfl rfl (by first | rfl | assumption | simp [Value.oneCell', str]) (Nat.le_of_ble_eq_true rfl) rfl ?_
   refine rl_end (ρ' := [(3, _), (4, _)]) ⟨rfl, rfl, trivial⟩ ?_
   exact ⟨rfl, [(3, _), (4, _)], [(4, _), (1000, _), (1001, _)], ⟨rfl, rfl, trivial⟩, ⟨rfl, rfl, rfl, trivial⟩, k, lv, inf, t, d, ti, a, line, kids, vc, vp, vl, vk, rfl, rfl, rfl⟩
  ·
   rintro L pre x ρ σ u'' w0 D ⟨k, lv, inf, t, d, ti, a, line, kids, vc, vp, vl, vk, rfl, rfl, rfl⟩
   have hkeys := openM_keys (noteNames pre) [] rfl
   have hsn := openM_snoc pre k lv inf t d ti a line kids
   unfold SKeys at hkeys
   refine wc_block ?_
   refine wc_seq ?_
   refine wc_region ?_
   refine rl_y (y_field_p rfl Tryz.f59' rfl (by decide) rfl) rfl ?_
   refine rl_y (y_load_p rfl Tryz.k3 rfl rfl rfl (vs := [_]) rfl rfl rfl) rfl ?_
   refine rl_y (y_eql rfl rfl rfl) rfl ?_
   refine rl_end (ρ' := [(3, _), (4, _), (15, _)]) ⟨rfl, rfl, rfl, trivial⟩ ?_
   refine q_then ?_
   refine wc_cond rfl (fun hb4 => ?_) (fun hb4 => ?_)
   ·
    rw [if_pos (of_decide_eq_true hb4)] at hsn
    refine wc_region ?_
    refine rl_y (y_load_bm (id2 := 1001) rfl Tryz.k75 rfl rfl rfl rfl rfl) rfl ?_
    refine rl_y (y_field_p rfl Tryz.f59' rfl (by decide) rfl) rfl ?_
    refine rl_y (y_load_p rfl Tryz.k9 rfl rfl rfl (vs := [_]) rfl rfl rfl) rfl ?_
    refine rl_do rfl rfl ?_
    refine do_mapUpdate trivial rfl Tryz.m75 Tryz.str9 rfl rfl rfl rfl rfl hkeys ?_
    refine rl_end (ρ' := []) trivial ?_
    refine q_block ?_
    refine ⟨rfl, [1000, 1001], ?_, rfl⟩
    rw [show notesJ b3 bm (pre ++ [.mk k lv inf t d ti a line kids]) = [(some b3, .box [.map (some bm)]), (some bm, .mp (openM (pre ++ [.mk k lv inf t d ti a line kids])))] from rfl, hsn]
    rfl
   ·
    rw [if_neg (of_decide_eq_false hb4)] at hsn
    refine wc_skip ?_
    refine q_block ?_
    refine ⟨rfl, [1000, 1001], ?_, rfl⟩
    rw [show notesJ b3 bm (pre ++ [.mk k lv inf t d ti a line kids]) = [(some b3, .box [.map (some bm)]), (some bm, .mp (openM (pre ++ [.mk k lv inf t d ti a line kids])))] from rfl, hsn]
    rfl
  ·
   intro w0 D df dH dI u2 hle2
   show WC _ _ [(1, .p 1 0), (3, .p 3 0)] [(3, (some b3, .box [.map (some bm)])), (8, (some bm, .mp (openM (listB bs)))), (900, (none, .fg dH dI)), (1, (none, .box [vm, .slice ad bs.length cap]))] _ _
   have hM0 := openIs_start (listB bs)
   refine wc_seq ?_
   refine wc_region ?_
   refine ya rfl rfl ?_
   refine rl_own_nil 5 505 9 1 rfl rfl rfl ?_
   refine rl_end (ρ' := [(1, _), (3, _), (5, _)]) ⟨rfl, rfl, rfl, trivial⟩ ?_
   refine q_then ?_
   refine wc_seq ?_
   refine wc_seq ?_
   refine wc_region ?_
   refine rl_y (y_field_p rfl Tryz.f25' rfl (by decide) rfl) rfl ?_
   refine rl_y (y_load_p rfl Tryz.k23 rfl rfl rfl (vs := [_]) rfl rfl rfl) rfl ?_
   refine rl_do rfl rfl ?_
   refine do_call (caps := []) trivial rfl rfl Tryz.c82 rfl (FnP.mono (treeInlines_fn _ bs u2 (by omega) hsm (ha.mono hle2)) ?_)
   rintro v uI hle0 ⟨is, ⟨adi, capi, rfl, hi1⟩, hic⟩ hleI
   refine rl_y (y_len_v rfl rfl Tryz.s35 rfl) rfl ?_
   refine ym rfl rfl ?_
   refine rl_end (ρ' := [(3, _), (5, _), (21, _), (22, _), (23, _)]) ⟨rfl, rfl, rfl, rfl, rfl, trivial⟩ ?_
   refine q_then ?_
   refine wc_block ?_
   refine wc_loop (fun m ρ σ u' => ∃ i : Nat, i + m = (inls (listB bs)).length ∧ VLe uI u' ∧ ∃ (mi : List (Value × Value)), σ = [(3, (some b3, .box [.map (some bm)])), (8, (some bm, .mp mi)), (505, (none, .row 9 1 (notesIn (noteNames (listB bs)) ((inls (listB bs)).take i)).length (strsC (notesIn (noteNames (listB bs)) ((inls (listB bs)).take i))))), (900, (none, .fg dH dI))] ∧ ρ = [(3, .p 3 0), (5, .s 505), (21, .v (.slice adi (inls (listB bs)).length capi)), (22, .v (.int .i64 (inls (listB bs)).length)), (23, .v (.int .i64 i))] ∧ (uI = u' ∧ OpenIs mi (noteNames (listB bs)) (notesIn (noteNames (listB bs)) ((inls (listB bs)).take i)))) ((inls (listB bs)).length) ?_ ?_
   ·
    refine ⟨[(3, _), (5, _), (21, _), (22, _), (23, _)], [(3, _), (8, _), (505, _), (900, _)], ⟨rfl, rfl, rfl, rfl, rfl, trivial⟩, ⟨rfl, rfl, rfl, rfl, trivial⟩, 0, by omega, VLe.refl _, openM (listB bs), rfl, rfl, ?_⟩
    exact ⟨rfl, hM0⟩
   ·
    rintro m ρ σ u' ⟨i, hi8, hle8, mi, rfl, rfl, ⟨rfl, hM⟩⟩
    refine wc_seq ?_
    refine wc_region ?_
    refine rl_y (y_lss rfl rfl rfl) rfl ?_
    refine rl_end (ρ' := [(3, _), (5, _), (21, _), (22, _), (23, _), (24, _)]) ⟨rfl, rfl, rfl, rfl, rfl, rfl, trivial⟩ ?_
    refine q_then ?_
    refine wc_seq ?_
    refine wc_cond rfl (fun hb8 => ?_) (fun hb8 => ?_)
    ·
     refine wc_skip ?_
     refine q_then ?_
     refine wc_seq ?_
     refine wc_block ?_
     refine wc_seq ?_
     have hlt : i < (inls (listB bs)).length := by have := of_decide_eq_true hb8; omega
     obtain ⟨k, t, d, ti, a, args, cites, kids, vc, vp, va, vt, vk, hg, hcut1, s1, s2, s3, s4, s5, hok⟩ := hic.at hlt
     have oneAll := (hic.get i _ hg).one
     rw [hcut1] at oneAll
     have hkeys := hM.1
     unfold SKeys at hkeys
     have hst := notesIn_take (noteNames (listB bs)) hg
     have hnl := notesIn_len (noteNames (listB bs)) ((inls (listB bs)).take i)
     have htl : ((inls (listB bs)).take i).length ≤ i := by simp; omega
     have hO : noteStep (noteNames (listB bs)) (notesIn (noteNames (listB bs)) ((inls (listB bs)).take i)) (.mk k t d ti a args cites kids) = if k = 12 ∧ t ∈ noteNames (listB bs) ∧ t ∉ notesIn (noteNames (listB bs)) ((inls (listB bs)).take i) then notesIn (noteNames (listB bs)) ((inls (listB bs)).take i) ++ [t] else notesIn (noteNames (listB bs)) ((inls (listB bs)).take i) := rfl
     rw [hO] at hst
     refine wc_region ?_
     refine rl_y (y_index_e rfl Tryz.s35 rfl rfl (by assumption) (by first | rfl | omega) (by omega)) rfl ?_
     refine rl_y (y_load_el rfl Tryz.k42 rfl (by assumption) (by omega) (by assumption) (vs := [_, _, _, _, _, _, _, _, _, _]) rfl rfl rfl rfl) rfl ?_
     refine rl_do rfl rfl ?_
     refine do_alloc trivial Tryz.z42 rfl rfl rfl ?_
     refine rl_do rfl rfl ?_
     refine do_store_p trivial rfl Tryz.k42 rfl rfl rfl (vs := [_, _, _, _, _, _, _, _, _, _]) rfl rfl (by first | rfl | assumption | simp [Value.oneCell', str]) (Nat.le_of_ble_eq_true rfl) rfl ?_
     refine rl_end (ρ' := [(3, _), (5, _), (7, _), (21, _), (22, _), (23, _)]) ⟨rfl, rfl, rfl, rfl, rfl, rfl, trivial⟩ ?_
     refine q_then ?_
     refine wc_seq ?_
     refine wc_cutB 35 (decide (k = 12 ∧ t ∈ noteNames (listB bs) ∧ t ∉ notesIn (noteNames (listB bs)) ((inls (listB bs)).take i))) (ρk := [(3, _), (5, _), (7, _), (21, _), (22, _), (23, _)]) ⟨rfl, rfl, rfl, rfl, rfl, rfl, trivial⟩ ?_ ?_
     ·
      refine wc_region ?_
      refine rl_y (y_field_p rfl Tryz.f42' rfl (by decide) rfl) rfl ?_
      refine rl_y (y_load_p rfl Tryz.k3 rfl rfl rfl (vs := [_]) rfl rfl rfl) rfl ?_
      refine rl_y (y_eql rfl rfl rfl) rfl ?_
      refine ym rfl rfl ?_
      rcases Bool.eq_false_or_eq_true (decide (k = 12)) with hg10_3 | hg10_3
      ·
       simp only [hg10_3]
       refine rl_on rfl rfl ?_
       refine rl_y (y_load_bm (id2 := 8) rfl Tryz.k75 rfl rfl rfl rfl rfl) rfl ?_
       refine rl_on rfl rfl ?_
       refine rl_y (y_field_p rfl Tryz.f42' rfl (by decide) rfl) rfl ?_
       refine rl_on rfl rfl ?_
       refine rl_y (y_load_p rfl Tryz.k9 rfl rfl rfl (vs := [_]) rfl rfl rfl) rfl ?_
       refine rl_on rfl rfl ?_
       refine rl_y (y_lookup rfl Tryz.m75 Tryz.str9 Tryz.v4 rfl rfl rfl rfl rfl (by assumption)) rfl ?_
       rw [hM.2 t]
       refine rl_y (y_pick_t rfl rfl rfl) rfl ?_
       exact cutB_end rfl ⟨rfl, rfl, rfl, rfl, rfl, rfl, trivial⟩ (by simp_all)
      ·
       simp only [hg10_3]
       refine rl_off rfl rfl rfl rfl ?_
       refine rl_off rfl rfl rfl rfl ?_
       refine rl_off rfl rfl rfl rfl ?_
       refine rl_off rfl rfl rfl rfl ?_
       refine rl_y (y_pick_f rfl rfl rfl) rfl ?_
       exact cutB_end rfl ⟨rfl, rfl, rfl, rfl, rfl, rfl, trivial⟩ (by simp_all)
     refine q_then ?_
     refine wc_cond rfl (fun hb10 => ?_) (fun hb10 => ?_)
     ·
      have h5 := of_decide_eq_true hb10; rw [if_pos h5] at hst
      refine wc_seq ?_
      refine wc_region ?_
      refine rl_y (y_load_bm (id2 := 8) rfl Tryz.k75 rfl rfl rfl rfl rfl) rfl ?_
      refine rl_y (y_field_p rfl Tryz.f42' rfl (by decide) rfl) rfl ?_
      refine rl_y (y_load_p rfl Tryz.k9 rfl rfl rfl (vs := [_]) rfl rfl rfl) rfl ?_
      refine rl_do rfl rfl ?_
      refine do_mapUpdate trivial rfl Tryz.m75 Tryz.str9 rfl rfl rfl rfl rfl (by assumption) ?_
      refine rl_end (ρ' := [(3, _), (5, _), (7, _), (21, _), (22, _), (23, _)]) ⟨rfl, rfl, rfl, rfl, rfl, rfl, trivial⟩ ?_
      refine q_then ?_
      refine wc_region ?_
      refine ym rfl rfl ?_
      refine rl_y (y_field_p rfl Tryz.f42' rfl (by decide) rfl) rfl ?_
      refine rl_y (y_load_p rfl Tryz.k9 rfl rfl rfl (vs := [_]) rfl rfl rfl) rfl ?_
      refine rl_do rfl rfl ?_
      refine do_buildSlice trivial Tryz.s37 Tryz.z9 (ps := [(_, _)]) rfl (xs := [_]) rfl rfl rfl rfl rfl rfl rfl ?_
      refine rl_do rfl rfl ?_
      refine do_append_s trivial rfl rfl Tryz.s37 Tryz.z9 rfl rfl rfl rfl rfl rfl (by first | rfl | assumption | simp [Value.oneCell', str]) (by omega) (by omega) (ρ' := [(3, _), (21, _), (22, _), (23, _)]) ⟨rfl, rfl, rfl, rfl, trivial⟩ rfl rfl rfl ?_
      refine ya rfl rfl ?_
      refine rl_ren 43 505 rfl rfl rfl ?_
      refine rl_end (ρ' := [(3, _), (5, _), (21, _), (22, _), (23, _)]) ⟨rfl, rfl, rfl, rfl, rfl, trivial⟩ ?_
      refine q_block ?_
      refine q_then ?_
      refine wc_region ?_
      refine rl_y (y_add rfl rfl rfl (wrap64_id (by omega))) rfl ?_
      refine ym rfl rfl ?_
      refine rl_end (ρ' := [(3, _), (5, _), (21, _), (22, _), (23, _)]) ⟨rfl, rfl, rfl, rfl, rfl, trivial⟩ ?_
      refine q_thenK ?_
      refine ⟨m - 1, [(3, _), (5, _), (21, _), (22, _), (23, _)], [(3, _), (8, _), (505, _), (900, _)], by omega, ⟨rfl, rfl, rfl, rfl, rfl, trivial⟩, ⟨rfl, rfl, rfl, rfl, trivial⟩, i + 1, by omega, hle8, _, (by simp only [hst, List.length_append, List.length_cons, List.length_nil, strsC, List.map_append, List.map_cons, List.map_nil]; rfl), (by first | rfl | simp), ?_⟩
      exact ⟨rfl, by rw [hst]; first | exact hM.use t | exact hM⟩
     ·
      have h5 := of_decide_eq_false hb10; rw [if_neg h5] at hst
      refine wc_skip ?_
      refine q_block ?_
      refine q_then ?_
      refine wc_region ?_
      refine rl_y (y_add rfl rfl rfl (wrap64_id (by omega))) rfl ?_
      refine ym rfl rfl ?_
      refine rl_end (ρ' := [(3, _), (5, _), (21, _), (22, _), (23, _)]) ⟨rfl, rfl, rfl, rfl, rfl, trivial⟩ ?_
      refine q_thenK ?_
      refine ⟨m - 1, [(3, _), (5, _), (21, _), (22, _), (23, _)], [(3, _), (8, _), (505, _), (900, _)], by omega, ⟨rfl, rfl, rfl, rfl, rfl, trivial⟩, ⟨rfl, rfl, rfl, rfl, trivial⟩, i + 1, by omega, hle8, _, (by simp only [hst, List.length_append, List.length_cons, List.length_nil, strsC, List.map_append, List.map_cons, List.map_nil]; rfl), (by first | rfl | simp), ?_⟩
      exact ⟨rfl, by rw [hst]; first | exact hM.use t | exact hM⟩
    ·
     refine wc_exit ?_
     refine q_then_exit ?_
     refine q_then_exit ?_
     refine q_block_hit ?_
     refine q_then ?_
     refine wc_seq ?_
     refine wc_region ?_
     refine ym rfl rfl ?_
     refine rl_freeze 505 rfl ?_
     intro ad505 cap505 u505 hle505z hsl505
     refine ya rfl rfl ?_
     refine rl_end (ρ' := [(2, _)]) ⟨rfl, trivial⟩ ?_
     refine q_then ?_
     refine wc_ret ?_
     refine ⟨?_, rfl⟩
     refine fin1 (.tmp rfl) ?_
     have hge := of_decide_eq_false hb8
     rw [List.take_of_length_le (by omega)] at hsl505 ⊢
     exact strS_of rfl hsl505
def CtrM (kvs : List (Value × Value)) (c : Bs → Nat) : Prop := SKeys kvs ∧ ∀ s, (mget kvs (str s)).getD (.int .i64 0) = .int .i64 (c s : Nat)
def upC (c : Bs → Nat) (k : Bs) : Bs → Nat := fun s => if s = k then c k + 1 else c s
theorem CtrM.up {kvs : List (Value × Value)} {c : Bs → Nat} (h : CtrM kvs c) (k : Bs) : CtrM (mset kvs (str k) (.int .i64 ((c k : Int) + 1))) (upC c k) := by
 refine ⟨h.1.mset, fun s => ?_⟩
 rw [mget_mset _ _ _ _ h.1]
 unfold upC
 by_cases e : s = k
 ·
  rw [if_pos e, if_pos e]; rfl
 ·
  rw [if_neg e, if_neg e]; exact h.2 s
abbrev cntV (b5 : Nat) : Value := .func (.func 45) #[] #[.pointer (some ⟨b5, 0, none⟩)]
theorem count_fn (b5 bm : Nat) (kvs : List (Value × Value)) (c : Bs → Nat) (k : Bs) (hc : c k ≤ 1000000) (u : View) (hT : TabU u) (hM : CtrM kvs c) :
  FnO Tryz.prog 45 [str k, .pointer (some ⟨b5, 0, none⟩)] u [(some b5, .box [.map (some bm)]), (some bm, .mp kvs)]
   fun r u' l' => r = str (dec (c k + 1)) ∧ ∃ kvs', l' = [(some b5, .box [.map (some bm)]), (some bm, .mp kvs')] ∧ CtrM kvs' (upC c k) := by
 have hk1 := hM.1
 have hk2 := (hM.up k).1
 unfold SKeys at hk1 hk2
 refine FnO.intro [.tmp 3] Tryz.func45 rfl rfl rfl ?_
 intro w0 D hw0
 refine wc_pin 1 1000 _ 0 rfl rfl ?_
 refine wc_seq ?_
 refine wc_region ?_
 refine ya rfl rfl ?_
 refine rl_end (ρ' := [(0, _), (1, _)]) ⟨rfl, rfl, trivial⟩ ?_
 refine q_then ?_
 refine wc_seq ?_
 refine wc_region ?_
 refine rl_y (y_load_bm (id2 := 1001) rfl Tryz.k86 rfl rfl rfl rfl rfl) rfl ?_
 refine ym rfl rfl ?_
 refine rl_y (y_lookup rfl Tryz.m86 Tryz.str9 Tryz.v3 rfl rfl rfl rfl rfl (by assumption)) rfl ?_
 rw [hM.2 k]
 refine rl_y (y_add rfl rfl rfl (wrap64_id (by omega))) rfl ?_
 refine rl_do rfl rfl ?_
 refine do_mapUpdate trivial rfl Tryz.m86 Tryz.str9 rfl rfl rfl rfl rfl (by assumption) ?_
 refine rl_end (ρ' := [(0, _), (1, _)]) ⟨rfl, rfl, trivial⟩ ?_
 refine q_then ?_
 refine wc_seq ?_
 refine wc_region ?_
 refine rl_y (y_load_bm (id2 := 1001) rfl Tryz.k86 rfl rfl rfl rfl rfl) rfl ?_
 refine ym rfl rfl ?_
 refine rl_y (y_lookup rfl Tryz.m86 Tryz.str9 Tryz.v3 rfl rfl rfl rfl rfl (by assumption)) rfl ?_
 rw [(hM.up k).2 k, show upC c k k = c k + 1 from if_pos rfl]
 refine rl_do rfl rfl ?_
 refine do_call_f (caps := []) trivial rfl rfl Tryz.c46 rfl (FnP.mono (itoa_fn (c k + 1) (by omega) u hT) ?_)
 rintro v u1 hle1 rfl
 refine ya rfl rfl ?_
 refine rl_end (ρ' := [(3, _)]) ⟨rfl, trivial⟩ ?_
 refine q_then ?_
 refine wc_ret ?_
 refine finO1 [1000, 1001] (.tmp rfl) rfl rfl ?_
 exact ⟨rfl, _, rfl, hM.up k⟩
end Go.Proofs.Ythkgcakpjknlbaa
