/- Count: the next value of a section. -/
import Derived.Test.YthnboadnehbciaaDoorCntL
namespace Go.Proofs.Ythnboadnehbciaa
open Go Go.Eng
set_option linter.unusedSimpArgs false
set_option linter.unusedVariables false
set_option maxRecDepth 4000

def mixF (F G : Nat → Nat) (i : Nat) : Nat → Nat := fun j => if j < i then G (j + 1) else F (j + 1)
theorem mix_zero (F G : Nat → Nat) (n : Nat) : arr n (mixF F G 0) = arr n (fun j => F (j + 1)) := arr_congr fun j _ => by unfold mixF; rw [if_neg (by omega)]
theorem mix_end (F G : Nat → Nat) (n : Nat) : arr n (mixF F G n) = arr n (fun j => G (j + 1)) := arr_congr fun j hj => by unfold mixF; rw [if_pos hj]
theorem mix_set {F G : Nat → Nat} {i n o v : Nat} (hi : i < n) (ho : o = i) (hv : v = G (i + 1)) : setAt (arr n (mixF F G i)) o [.int .i64 (v : Nat)] = arr n (mixF F G (i + 1)) := by
  rw [set_arr hi ho]
  refine arr_congr fun j hj => ?_
  unfold setF mixF
  by_cases e : j = i
  · subst e; rw [if_pos rfl, if_pos (by omega), hv]
  · rw [if_neg e]
    by_cases e2 : j < i
    · rw [if_pos e2, if_pos (by omega)]
    · rw [if_neg e2, if_neg (by omega)]
theorem mix_at (F G : Nat → Nat) (i : Nat) : mixF F G i i = F (i + 1) := if_neg (by omega)
theorem mix_at2 (F G : Nat → Nat) (i : Nat) : mixF F G (i + 1) i = G (i + 1) := if_pos (by omega)
def decs (F : Nat → Nat) (n : Nat) : List Bs := (List.range n).map fun j => dec (F (j + 1))
theorem decs_len (F : Nat → Nat) (n : Nat) : (decs F n).length = n := by simp [decs]
theorem decs_succ (F : Nat → Nat) (n : Nat) : decs F (n + 1) = decs F n ++ [dec (F (n + 1))] := by simp [decs, List.range_succ]
theorem decs_val (F : Nat → Nat) (n : Nat) : Lib.join (decs F n) [46] = valF F n := by
  unfold valF dots decs
  rw [List.map_map]; rfl
theorem ctrF_le {f : Nat → Nat} {B : Nat} (hf : ∀ j, f j ≤ B) (l j : Nat) : ctrF f l j ≤ B + 1 := by
  have := hf j
  unfold ctrF
  split
  · omega
  · split
    · omega
    · split <;> omega
theorem ctr_lt {F : Nat → Nat} {k i : Nat} (h : i + 1 < k) : ctrF F k (i + 1) = max (F (i + 1)) 1 := by
  unfold ctrF; rw [if_neg (by omega), if_pos h]
theorem ctr_eq {F : Nat → Nat} {k i : Nat} (h : i + 1 = k) : ctrF F k (i + 1) = F (i + 1) + 1 := by
  unfold ctrF; rw [if_neg (by omega), if_neg (by omega), if_pos h]
theorem ctr_gt {F : Nat → Nat} {k i : Nat} (h : k < i + 1) : ctrF F k (i + 1) = 0 := by
  unfold ctrF; rw [if_neg (by omega), if_neg (by omega), if_neg (by omega)]

set_option maxHeartbeats 2000000 in
theorem next_fn (F : Nat → Nat) (lv : Int) (b : Nat) (hF : ∀ j, F j ≤ 10000) (u : View) (hT : TabU u) :
    FnO Tryd.prog 31 [.pointer (some ⟨b, 0, none⟩), .int .i64 lv] u [(some b, .box (arr 6 fun j => F (j + 1)))] fun r u' l' => r = str (valF (ctrF F (clampL lv)) (clampL lv)) ∧ l' = [(some b, .box (arr 6 fun j => ctrF F (clampL lv) (j + 1)))] := by
  have hcl := clampL_le lv
  have hkI : (lv < 1 ∧ clampL lv = 1) ∨ (6 < lv ∧ clampL lv = 6) ∨ (1 ≤ lv ∧ lv ≤ 6 ∧ (clampL lv : Int) = lv) := by
    unfold clampL
    by_cases h : lv < 1
    · exact .inl ⟨h, if_pos h⟩
    · by_cases h6 : 6 < lv
      · exact .inr (.inl ⟨h6, by rw [if_neg h, if_pos h6]⟩)
      · exact .inr (.inr ⟨by omega, by omega, by rw [if_neg h, if_neg h6]; omega⟩)
  generalize hk : clampL lv = k at *
  have hG := ctrF_le hF k
  generalize hGd : ctrF F k = G at *
  refine FnO.intro [.tmp 4] Tryd.func31 rfl rfl rfl ?_
  intro w0 D hw0
  refine wc_pin 0 1000 _ 0 rfl rfl ?_
  refine wc_seq ?_
  refine wc_region ?_
  refine rl_y (y_assign rfl rfl) rfl ?_
  refine rl_end (ρ' := [(0, _), (1, _)]) ⟨rfl, rfl, trivial⟩ ?_
  refine q_then ?_
  refine wc_seq ?_
  refine wc_region ?_
  refine rl_y (y_move rfl rfl) rfl ?_
  refine rl_y (y_min (r := if (6 : Int) < lv then 6 else lv) rfl rfl rfl rfl) rfl ?_
  refine rl_y (y_max (r := ((k : Nat) : Int)) rfl rfl rfl (by rcases hkI with ⟨h, e⟩ | ⟨h, e⟩ | ⟨h, h2, e⟩ <;> by_cases h6 : (6 : Int) < lv <;> simp only [h6, if_true, if_false] <;> split <;> omega)) rfl ?_
  refine rl_y (y_assign rfl rfl) rfl ?_
  refine rl_end (ρ' := [(0, _), (5, _)]) ⟨rfl, rfl, trivial⟩ ?_
  refine q_then ?_
  refine wc_seq ?_
  refine wc_region ?_
  refine rl_y (y_move rfl rfl) rfl ?_
  refine rl_do rfl rfl ?_
  refine do_make0 trivial Tryd.s32 Tryd.z9 rfl rfl (c := k) (by omega) (by omega) rfl rfl rfl ?_
  refine rl_y (y_assign rfl rfl) rfl ?_
  refine rl_ren 12 506 rfl rfl rfl ?_
  refine rl_end (ρ' := [(0, _), (5, _), (6, _)]) ⟨rfl, rfl, rfl, trivial⟩ ?_
  refine q_then ?_
  refine wc_seq ?_
  refine wc_seq ?_
  refine wc_region ?_
  refine rl_y (y_move rfl rfl) rfl ?_
  refine rl_end (ρ' := [(0, _), (5, _), (6, _), (13, _)]) ⟨rfl, rfl, rfl, rfl, trivial⟩ ?_
  refine q_then ?_
  refine wc_block ?_
  refine wc_loop (fun m ρ σ u' => ∃ i : Nat, i + m = 6 ∧ VLe u u' ∧ σ = [(506, (none, .row 9 1 (min i k) (strsC (decs G (min i k))))), (1000, (some b, .box (arr 6 (mixF F G i))))] ∧ ρ = [(0, .p 1000 0), (5, .v (.int .i64 k)), (6, .s 506), (13, .v (.int .i64 i))] ∧ (u = u')) (6) ?_ ?_
  ·
    refine ⟨[(0, _), (5, _), (6, _), (13, _)], [(506, _), (1000, _)], ⟨rfl, rfl, rfl, rfl, trivial⟩, ⟨rfl, rfl, trivial⟩, 0, by omega, VLe.refl _, (by rw [mix_zero, Nat.zero_min]; rfl), rfl, ?_⟩
    rfl
  ·
    rintro m ρ σ u' ⟨i, hi4, hle4, rfl, rfl, rfl⟩
    refine wc_seq ?_
    refine wc_region ?_
    refine rl_y (y_lss rfl rfl rfl) rfl ?_
    refine rl_end (ρ' := [(0, _), (5, _), (6, _), (13, _), (14, _)]) ⟨rfl, rfl, rfl, rfl, rfl, trivial⟩ ?_
    refine q_then ?_
    refine wc_seq ?_
    refine wc_cond rfl (fun hb4 => ?_) (fun hb4 => ?_)
    ·
      refine wc_skip ?_
      refine q_then ?_
      refine wc_seq ?_
      refine wc_block ?_
      refine wc_seq ?_
      have hlt := of_decide_eq_true hb4
      refine wc_region ?_
      refine rl_y (y_move rfl rfl) rfl ?_
      refine rl_y (y_assign rfl rfl) rfl ?_
      refine rl_end (ρ' := [(0, _), (5, _), (6, _), (7, _), (13, _)]) ⟨rfl, rfl, rfl, rfl, rfl, trivial⟩ ?_
      refine q_then ?_
      refine wc_cut (fun ρ σ uc11 => VLe u uc11 ∧ σ = [(506, (none, .row 9 1 (min i k) (strsC (decs G (min i k))))), (1000, (some b, .box (arr 6 (mixF F G (i + 1)))))] ∧ ρ = [(0, .p 1000 0), (5, .v (.int .i64 k)), (6, .s 506), (7, .v (.int .i64 i)), (13, .v (.int .i64 i))] ∧ (u = uc11)) ?_ ?_
      ·
        refine wc_block ?_
        refine wc_seq ?_
        refine wc_region ?_
        refine rl_y (y_move rfl rfl) rfl ?_
        refine rl_y (y_move rfl rfl) rfl ?_
        refine rl_y (y_sub (r := ((k - 1 : Nat) : Int)) rfl rfl rfl (by rw [wrap64_id (by omega)]; omega)) rfl ?_
        refine rl_y (y_lss rfl rfl rfl) rfl ?_
        refine rl_y (y_assign rfl rfl) rfl ?_
        refine rl_end (ρ' := [(0, _), (5, _), (6, _), (7, _), (13, _), (20, _)]) ⟨rfl, rfl, rfl, rfl, rfl, rfl, trivial⟩ ?_
        refine q_then ?_
        refine wc_cond rfl (fun hb7 => ?_) (fun hb7 => ?_)
        ·
          have h7 := of_decide_eq_true hb7
          refine wc_draw Tryd.mixed rfl [] trivial ?_
          refine ra_y (i := 0) rfl (by kernel_rfl) (by kernel_rfl) (by kernel_rfl) (np_block (np_then (np_block (np_then (np_then (np_block (np_then (np_finO)))))))) (y_move rfl rfl) rfl ?_
          refine ra_y (i := 1) rfl (by kernel_rfl) (by kernel_rfl) (by kernel_rfl) (np_block (np_then (np_block (np_then (np_then (np_block (np_then (np_finO)))))))) (y_move rfl rfl) rfl ?_
          refine ra_y (i := 2) rfl (by kernel_rfl) (by kernel_rfl) (by kernel_rfl) (np_block (np_then (np_block (np_then (np_then (np_block (np_then (np_finO)))))))) (y_move rfl rfl) rfl ?_
          refine ra_y (i := 3) rfl (by kernel_rfl) (by kernel_rfl) (by kernel_rfl) (np_block (np_then (np_block (np_then (np_then (np_block (np_then (np_finO)))))))) (y_move rfl rfl) rfl ?_
          refine ra_y (i := 4) rfl (by kernel_rfl) (by kernel_rfl) (by kernel_rfl) (np_block (np_then (np_block (np_then (np_then (np_block (np_then (np_finO)))))))) (y_nilCheck_p rfl rfl) rfl ?_
          refine ra_y (i := 5) rfl (by kernel_rfl) (by kernel_rfl) (by kernel_rfl) (np_block (np_then (np_block (np_then (np_then (np_block (np_then (np_finO)))))))) (y_index_p rfl Tryd.a61 rfl rfl (by first | rfl | omega) (by omega)) rfl ?_
          refine ra_y (i := 8) rfl (by kernel_rfl) (by kernel_rfl) (by kernel_rfl) (np_block (np_then (np_block (np_then (np_then (np_block (np_then (np_finO)))))))) (y_nilCheck_p rfl rfl) rfl ?_
          refine ra_do (i := 6) rfl rfl (by kernel_rfl) ?_
          refine do_y (y_load_p rfl Tryd.k3 rfl rfl rfl (cut_arr (i := i) (by omega) (by omega)) rfl rfl) rfl ?_
          rw [mix_at]
          refine ra_y (i := 7) rfl (by kernel_rfl) (by kernel_rfl) (by kernel_rfl) (np_block (np_then (np_block (np_then (np_then (np_block (np_then (np_finO)))))))) (y_max (r := ((max (F (i + 1)) 1 : Nat) : Int)) rfl rfl rfl (by split <;> omega)) rfl ?_
          refine ra_y (i := 9) rfl (by kernel_rfl) (by kernel_rfl) (by kernel_rfl) (np_block (np_then (np_block (np_then (np_then (np_block (np_then (np_finO)))))))) (y_index_p rfl Tryd.a61 rfl rfl (by first | rfl | omega) (by omega)) rfl ?_
          refine ra_do (i := 10) rfl rfl (by kernel_rfl) ?_
          refine do_store_p trivial rfl Tryd.k3 rfl rfl rfl (vs := [_]) rfl rfl rfl (by simp [arr_len]; omega) (mix_set (i := i) (v := max (F (i + 1)) 1) (by omega) (by omega) (by rw [← hGd, ctr_lt (by omega)])) ?_
          refine ra_end (by kernel_rfl) (ρ' := [(0, _), (5, _), (6, _), (7, _), (13, _)]) ⟨rfl, rfl, rfl, rfl, rfl, trivial⟩ ?_
          refine q_block ?_
          refine q_thenK ?_
          refine ⟨[(0, _), (5, _), (6, _), (7, _), (13, _)], [(506, _), (1000, _)], ⟨rfl, rfl, rfl, rfl, rfl, trivial⟩, ⟨rfl, rfl, trivial⟩, (VLe.refl _), (by first | rfl | simp), (by first | rfl | (simp only [List.cons.injEq, Prod.mk.injEq, SV.v.injEq, Value.int.injEq, true_and, and_true]; omega) | simp), ?_⟩
          rfl
        ·
          have h7 := of_decide_eq_false hb7
          refine wc_seq ?_
          refine wc_region ?_
          refine rl_y (y_move rfl rfl) rfl ?_
          refine rl_y (y_move rfl rfl) rfl ?_
          refine rl_y (y_sub (r := ((k - 1 : Nat) : Int)) rfl rfl rfl (by rw [wrap64_id (by omega)]; omega)) rfl ?_
          refine rl_y (y_eql rfl rfl rfl) rfl ?_
          refine rl_y (y_assign rfl rfl) rfl ?_
          refine rl_end (ρ' := [(0, _), (5, _), (6, _), (7, _), (13, _), (35, _)]) ⟨rfl, rfl, rfl, rfl, rfl, rfl, trivial⟩ ?_
          refine q_then ?_
          refine wc_cond rfl (fun hb9 => ?_) (fun hb9 => ?_)
          ·
            have h9 := of_decide_eq_true hb9
            refine wc_draw Tryd.mixed rfl [] trivial ?_
            refine ra_y (i := 0) rfl (by kernel_rfl) (by kernel_rfl) (by kernel_rfl) (np_block (np_then (np_block (np_then (np_then (np_block (np_then (np_finO)))))))) (y_move rfl rfl) rfl ?_
            refine ra_y (i := 1) rfl (by kernel_rfl) (by kernel_rfl) (by kernel_rfl) (np_block (np_then (np_block (np_then (np_then (np_block (np_then (np_finO)))))))) (y_move rfl rfl) rfl ?_
            refine ra_y (i := 2) rfl (by kernel_rfl) (by kernel_rfl) (by kernel_rfl) (np_block (np_then (np_block (np_then (np_then (np_block (np_then (np_finO)))))))) (y_nilCheck_p rfl rfl) rfl ?_
            refine ra_y (i := 3) rfl (by kernel_rfl) (by kernel_rfl) (by kernel_rfl) (np_block (np_then (np_block (np_then (np_then (np_block (np_then (np_finO)))))))) (y_index_p rfl Tryd.a61 rfl rfl (by first | rfl | omega) (by omega)) rfl ?_
            refine ra_y (i := 6) rfl (by kernel_rfl) (by kernel_rfl) (by kernel_rfl) (np_block (np_then (np_block (np_then (np_then (np_block (np_then (np_finO)))))))) (y_nilCheck_p rfl rfl) rfl ?_
            refine ra_do (i := 4) rfl rfl (by kernel_rfl) ?_
            refine do_y (y_load_p rfl Tryd.k3 rfl rfl rfl (cut_arr (i := i) (by omega) (by omega)) rfl rfl) rfl ?_
            rw [mix_at]; have hFi := hF (i + 1)
            refine ra_y (i := 5) rfl (by kernel_rfl) (by kernel_rfl) (by kernel_rfl) (np_block (np_then (np_block (np_then (np_then (np_block (np_then (np_finO)))))))) (y_add rfl rfl rfl (wrap64_id (by omega))) rfl ?_
            refine ra_y (i := 7) rfl (by kernel_rfl) (by kernel_rfl) (by kernel_rfl) (np_block (np_then (np_block (np_then (np_then (np_block (np_then (np_finO)))))))) (y_index_p rfl Tryd.a61 rfl rfl (by first | rfl | omega) (by omega)) rfl ?_
            refine ra_do (i := 8) rfl rfl (by kernel_rfl) ?_
            refine do_store_p trivial rfl Tryd.k3 rfl rfl rfl (vs := [_]) rfl rfl rfl (by simp [arr_len]; omega) (mix_set (i := i) (v := F (i + 1) + 1) (by omega) (by omega) (by rw [← hGd, ctr_eq (by omega)])) ?_
            refine ra_end (by kernel_rfl) (ρ' := [(0, _), (5, _), (6, _), (7, _), (13, _)]) ⟨rfl, rfl, rfl, rfl, rfl, trivial⟩ ?_
            refine q_block ?_
            refine q_thenK ?_
            refine ⟨[(0, _), (5, _), (6, _), (7, _), (13, _)], [(506, _), (1000, _)], ⟨rfl, rfl, rfl, rfl, rfl, trivial⟩, ⟨rfl, rfl, trivial⟩, (VLe.refl _), (by first | rfl | simp), (by first | rfl | (simp only [List.cons.injEq, Prod.mk.injEq, SV.v.injEq, Value.int.injEq, true_and, and_true]; omega) | simp), ?_⟩
            rfl
          ·
            have h9 := of_decide_eq_false hb9
            refine wc_region ?_
            refine rl_y (y_move rfl rfl) rfl ?_
            refine rl_y (y_move rfl rfl) rfl ?_
            refine rl_y (y_nilCheck_p rfl rfl) rfl ?_
            refine rl_y (y_index_p rfl Tryd.a61 rfl rfl (by first | rfl | omega) (by omega)) rfl ?_
            refine rl_do rfl rfl ?_
            refine do_store_p trivial rfl Tryd.k3 rfl rfl rfl (vs := [_]) rfl rfl rfl (by simp [arr_len]; omega) (mix_set (i := i) (v := 0) (by omega) (by omega) (by rw [← hGd, ctr_gt (by omega)])) ?_
            refine rl_end (ρ' := [(0, _), (5, _), (6, _), (7, _), (13, _)]) ⟨rfl, rfl, rfl, rfl, rfl, trivial⟩ ?_
            refine q_block ?_
            refine q_thenK ?_
            refine ⟨[(0, _), (5, _), (6, _), (7, _), (13, _)], [(506, _), (1000, _)], ⟨rfl, rfl, rfl, rfl, rfl, trivial⟩, ⟨rfl, rfl, trivial⟩, (VLe.refl _), (by first | rfl | simp), (by first | rfl | (simp only [List.cons.injEq, Prod.mk.injEq, SV.v.injEq, Value.int.injEq, true_and, and_true]; omega) | simp), ?_⟩
            rfl
      ·
        rintro ρ σ uc11 ⟨hlc11, rfl, rfl, rfl⟩
        refine wc_seq ?_
        refine wc_region ?_
        refine rl_y (y_move rfl rfl) rfl ?_
        refine rl_y (y_move rfl rfl) rfl ?_
        refine rl_y (y_lss rfl rfl rfl) rfl ?_
        refine rl_end (ρ' := [(0, _), (5, _), (6, _), (7, _), (13, _), (50, _)]) ⟨rfl, rfl, rfl, rfl, rfl, rfl, trivial⟩ ?_
        refine q_then ?_
        refine wc_cond rfl (fun hb11 => ?_) (fun hb11 => ?_)
        ·
          have h11 := of_decide_eq_true hb11
          refine wc_region ?_
          refine rl_y (y_move rfl rfl) rfl ?_
          refine rl_y (y_move rfl rfl) rfl ?_
          refine rl_y (y_move rfl rfl) rfl ?_
          refine rl_y (y_nilCheck_p rfl rfl) rfl ?_
          refine rl_y (y_index_p rfl Tryd.a61 rfl rfl (by first | rfl | omega) (by omega)) rfl ?_
          refine rl_y (y_load_p rfl Tryd.k3 rfl rfl rfl (cut_arr (i := i) (by omega) (by omega)) rfl rfl) rfl ?_
          rw [mix_at2]; have hGi := hG (i + 1)
          refine rl_do rfl rfl ?_
          refine do_call_f (caps := []) trivial rfl rfl Tryd.c28 rfl (FnP.mono (itoa_fn (G (i + 1)) (by omega) u hT) ?_)
          rintro v u1 hle1 rfl
          refine rl_do rfl rfl ?_
          refine do_buildSlice trivial Tryd.s32 Tryd.z9 (ps := [(_, _)]) rfl (xs := [_]) rfl rfl rfl rfl rfl rfl rfl ?_
          refine rl_do rfl rfl ?_
          refine do_append_s trivial rfl rfl Tryd.s32 Tryd.z9 rfl rfl rfl rfl rfl rfl (by first | rfl | exact oneAll | exact oneAll2 | simp [Value.oneCell', str]) (by omega) (by omega) (ρ' := [(0, _), (5, _), (13, _)]) ⟨rfl, rfl, rfl, trivial⟩ rfl rfl rfl ?_
          refine rl_y (y_assign rfl rfl) rfl ?_
          refine rl_ren 59 506 rfl rfl rfl ?_
          refine rl_end (ρ' := [(0, _), (5, _), (6, _), (13, _)]) ⟨rfl, rfl, rfl, rfl, trivial⟩ ?_
          refine q_block ?_
          refine q_then ?_
          refine wc_region ?_
          refine rl_y (y_add rfl rfl rfl (wrap64_id (by omega))) rfl ?_
          refine rl_y (y_move rfl rfl) rfl ?_
          refine rl_end (ρ' := [(0, _), (5, _), (6, _), (13, _)]) ⟨rfl, rfl, rfl, rfl, trivial⟩ ?_
          refine q_thenK ?_
          refine ⟨m - 1, [(0, _), (5, _), (6, _), (13, _)], [(506, _), (1000, _)], by omega, ⟨rfl, rfl, rfl, rfl, trivial⟩, ⟨rfl, rfl, trivial⟩, i + 1, by omega, hle4, (by first | (rw [Nat.min_eq_left (by omega : i + 1 ≤ k), Nat.min_eq_left (by omega : i ≤ k), decs_succ]; simp [strsC]; done) | (rw [Nat.min_eq_right (by omega : k ≤ i + 1), Nat.min_eq_right (by omega : k ≤ i)]; done)), (by first | rfl | simp), ?_⟩
          rfl
        ·
          have h11 := of_decide_eq_false hb11
          refine wc_skip ?_
          refine q_block ?_
          refine q_then ?_
          refine wc_region ?_
          refine rl_y (y_add rfl rfl rfl (wrap64_id (by omega))) rfl ?_
          refine rl_y (y_move rfl rfl) rfl ?_
          refine rl_end (ρ' := [(0, _), (5, _), (6, _), (13, _)]) ⟨rfl, rfl, rfl, rfl, trivial⟩ ?_
          refine q_thenK ?_
          refine ⟨m - 1, [(0, _), (5, _), (6, _), (13, _)], [(506, _), (1000, _)], by omega, ⟨rfl, rfl, rfl, rfl, trivial⟩, ⟨rfl, rfl, trivial⟩, i + 1, by omega, hle4, (by first | (rw [Nat.min_eq_left (by omega : i + 1 ≤ k), Nat.min_eq_left (by omega : i ≤ k), decs_succ]; simp [strsC]; done) | (rw [Nat.min_eq_right (by omega : k ≤ i + 1), Nat.min_eq_right (by omega : k ≤ i)]; done)), (by first | rfl | simp), ?_⟩
          rfl
    ·
      refine wc_exit ?_
      refine q_then_exit ?_
      refine q_then_exit ?_
      refine q_block_hit ?_
      refine q_then ?_
      refine wc_seq ?_
      have hge := of_decide_eq_false hb4
      have hi6 : i = 6 := by omega
      subst hi6
      rw [mix_end, Nat.min_eq_right (by omega : k ≤ 6)]
      have hvl := valF_len (f := G) (fun j => Nat.le_trans (hG j) (by omega)) k
      refine wc_region ?_
      refine rl_y (y_move rfl rfl) rfl ?_
      refine rl_freeze 506 rfl ?_
      intro ad506 cap506 u506 hle506z hsl506
      refine rl_do rfl rfl ?_
      refine do_call_f (caps := []) trivial rfl rfl Tryd.c47 rfl (FnP.mono (join_fn _ (decs G k) [46] u506 (strS_of (decs_len G k).symm hsl506) (by rw [decs_len]; omega) (by rw [decs_val]; omega)) ?_)
      rintro v u1 hle1 rfl
      refine rl_y (y_assign rfl rfl) rfl ?_
      refine rl_end (ρ' := [(4, _)]) ⟨rfl, trivial⟩ ?_
      refine q_then ?_
      refine wc_ret ?_
      refine finO1 [1000] (.tmp rfl) rfl rfl ?_
      exact ⟨by rw [decs_val], rfl⟩
end Go.Proofs.Ythnboadnehbciaa
