/- Font: the statement on dividing words, as a call. -/
import Derived.Test.YtceodelgalfjfaaDoorFontE
namespace Go.Proofs.Ytceodelgalfjfaa
open Go Go.Eng
set_option linter.unusedSimpArgs false
set_option linter.unusedVariables false

theorem hyUp_mem (l : List UInt8) : ∀ (k : Nat) (x : Int), x ∈ hyUp l k → 2 ≤ x ∧ x < k
  | 0, x, h => by simp [hyUp] at h
  | k + 1, x, h => by
    simp only [hyUp, List.mem_append] at h
    rcases h with h | h
    · have := hyUp_mem l k x h; omega
    · split at h
      · rename_i hk
        simp only [List.mem_singleton] at h
        omega
      · simp at h
theorem hyUp_asc (l : List UInt8) : ∀ k : Nat, (hyUp l k).Pairwise (· < ·)
  | 0 => by simp [hyUp]
  | k + 1 => by
    simp only [hyUp]
    rw [List.pairwise_append]
    refine ⟨hyUp_asc l k, ?_, ?_⟩
    · split <;> simp
    · intro a ha b hb
      have := hyUp_mem l k a ha
      split at hb
      · simp only [List.mem_singleton] at hb; omega
      · simp at hb
theorem hyL_mem {l : List UInt8} {x : Int} (h : x ∈ hyL l) : 2 ≤ x ∧ x + 3 ≤ l.length := by
  unfold hyL at h
  split at h
  · have := hyUp_mem l _ x h; omega
  · simp at h
theorem hyL_asc {l : List UInt8} {i : Nat} {x y : Int} (h1 : (hyL l)[i]? = some x) (h2 : (hyL l)[i + 1]? = some y) : x < y := by
  have hp : (hyL l).Pairwise (· < ·) := by
    unfold hyL
    split
    · exact hyUp_asc l _
    · exact List.Pairwise.nil
  obtain ⟨a1, rfl⟩ := List.getElem?_eq_some_iff.1 h1
  obtain ⟨a2, rfl⟩ := List.getElem?_eq_some_iff.1 h2
  exact List.pairwise_iff_getElem.1 hp i (i + 1) a1 a2 (by omega)

theorem law_hyphens (l : List UInt8) (u : View) (hT : TabU u) : FnP Tryd.prog 6 [str l] u fun v _ => v = .bool true := by
  have hlen0 := hyL_len l
  refine FnP.intro [.tmp 2] Tryd.func6 rfl rfl rfl ?_
  intro w0 hw0
  refine wc_seq ?_
  refine wc_region ?_
  refine rl_y (y_assign rfl rfl) rfl ?_
  refine rl_end (ρ' := [(0, _)]) ⟨rfl, trivial⟩ ?_
  refine q_then ?_
  refine wc_seq ?_
  refine wc_seq ?_
  refine wc_region ?_
  refine rl_y (y_move rfl rfl) rfl ?_
  refine rl_y (y_len_str rfl rfl Tryd.str9 rfl) rfl ?_
  refine rl_y (y_gtr rfl rfl rfl) rfl ?_
  refine rl_end (ρ' := [(0, _), (7, _)]) ⟨rfl, rfl, trivial⟩ ?_
  refine q_then ?_
  refine wc_cond rfl (fun hb1 => ?_) (fun hb1 => ?_)
  ·
    skip
    refine wc_seq ?_
    refine wc_region ?_
    refine rl_call_f (caps := []) rfl rfl Tryd.c10 rfl (FnP.mono (awake_fn _ hT) ?_)
    rintro v u1 hle1 rfl
    refine rl_y (y_assign rfl rfl) rfl ?_
    refine rl_end (ρ' := [(2, _)]) ⟨rfl, trivial⟩ ?_
    refine q_then ?_
    refine wc_ret ?_
    refine q_then_ret ?_
    refine fin1 (.tmp rfl) ?_
    rfl
  ·
    have hl : l.length ≤ 200 := by have := of_decide_eq_false hb1; omega
    refine wc_skip ?_
    refine q_then ?_
    refine wc_seq ?_
    refine wc_region ?_
    refine rl_y (y_move rfl rfl) rfl ?_
    refine rl_call (caps := []) rfl rfl Tryd.c14 rfl (FnP.mono (hyphens_fn l (by omega) _) ?_)
    rintro v u1 hle0 ⟨ad, cap, rfl, hs⟩ hle1
    replace hT := hT.mono hle0
    refine rl_y (y_assign rfl rfl) rfl ?_
    refine rl_end (ρ' := [(0, _), (3, _)]) ⟨rfl, rfl, trivial⟩ ?_
    refine q_then ?_
    refine wc_seq ?_
    refine wc_seq ?_
    refine wc_region ?_
    refine rl_y (y_assign rfl rfl) rfl ?_
    refine rl_end (ρ' := [(0, _), (3, _), (4, _)]) ⟨rfl, rfl, rfl, trivial⟩ ?_
    refine q_then ?_
    refine wc_block ?_
    refine wc_loop (fun m ρ σ u' μ => ∃ i : Nat, i + m = (hyL l).length ∧ u1 = u' ∧ μ = [] ∧ σ = [] ∧ ρ = [(0, .v (str l)), (3, .v (.slice ad (hyL l).length cap)), (4, .v (.int .i64 i))]) (hyL l).length ?_ ?_
    ·
      refine ⟨[(0, _), (3, _), (4, _)], [], ⟨rfl, rfl, rfl, trivial⟩, trivial, 0, by omega, rfl, rfl, rfl, rfl⟩
    ·
      rintro m ρ σ u' μ ⟨i, hi, rfl, rfl, rfl, rfl⟩
      refine wc_seq ?_
      refine wc_seq ?_
      refine wc_region ?_
      refine rl_y (y_move rfl rfl) rfl ?_
      refine rl_y (y_move rfl rfl) rfl ?_
      refine rl_y (y_len_v rfl rfl Tryd.s28 rfl) rfl ?_
      refine rl_y (y_lss rfl rfl rfl) rfl ?_
      refine rl_end (ρ' := [(0, _), (3, _), (4, _), (14, _)]) ⟨rfl, rfl, rfl, rfl, trivial⟩ ?_
      refine q_then ?_
      refine wc_cond rfl (fun hb5 => ?_) (fun hb5 => ?_)
      ·
        refine wc_skip ?_
        refine q_then ?_
        refine wc_seq ?_
        refine wc_block ?_
        refine wc_seq ?_
        have hlt : i < (hyL l).length := by have := of_decide_eq_true hb5; omega
        obtain ⟨x, hx⟩ : ∃ x, (hyL l)[i]? = some x := ⟨_, List.getElem?_eq_getElem hlt⟩
        have hcx := cut_ints hx
        have hxr := hyL_mem (List.mem_of_getElem? hx)
        obtain ⟨y, hy⟩ : ∃ y : Int, 0 < i → (cut (ints (hyL l)) ((i - 1) * 1) 1 = [.int .i64 y] ∧ y < x) := by
          by_cases hi0 : 0 < i
          · obtain ⟨y, hy⟩ : ∃ y, (hyL l)[i - 1]? = some y := ⟨_, List.getElem?_eq_getElem (by omega)⟩
            exact ⟨y, fun _ => ⟨cut_ints hy, hyL_asc hy (by rw [show i - 1 + 1 = i by omega]; exact hx)⟩⟩
          · exact ⟨0, fun h => absurd h hi0⟩
        refine wc_draw Tryd.mixed [] ?_
        refine ra_y (i := 0) rfl (by kernel_rfl) (by kernel_rfl) (by kernel_rfl) (np_then (np_block (np_then (np_then (np_block (np_then (np_fin))))))) (y_move rfl rfl) rfl ?_
        refine ra_y (i := 1) rfl (by kernel_rfl) (by kernel_rfl) (by kernel_rfl) (np_then (np_block (np_then (np_then (np_block (np_then (np_fin))))))) (y_move rfl rfl) rfl ?_
        refine ra_y (i := 2) rfl (by kernel_rfl) (by kernel_rfl) (by kernel_rfl) (np_then (np_block (np_then (np_then (np_block (np_then (np_fin))))))) (y_index_e rfl Tryd.s28 rfl rfl hs (j := i) rfl (by omega)) rfl ?_
        refine ra_y (i := 3) rfl (by kernel_rfl) (by kernel_rfl) (by kernel_rfl) (np_then (np_block (np_then (np_then (np_block (np_then (np_fin))))))) (y_load_el rfl Tryd.k3 rfl hs (by omega) hcx (vs := [_]) rfl rfl rfl rfl) rfl ?_
        refine ra_y (i := 4) rfl (by kernel_rfl) (by kernel_rfl) (by kernel_rfl) (np_then (np_block (np_then (np_then (np_block (np_then (np_fin))))))) (y_lss rfl rfl rfl) rfl ?_
        rw [decide_eq_false (show ¬ x < 2 by omega)]
        refine ra_y (i := 5) rfl (by kernel_rfl) (by kernel_rfl) (by kernel_rfl) (np_then (np_block (np_then (np_then (np_block (np_then (np_fin))))))) (y_move rfl rfl) rfl ?_
        refine ra_y_on (i := 6) rfl rfl rfl (by kernel_rfl) (by kernel_rfl) (by kernel_rfl) (np_then (np_block (np_then (np_then (np_block (np_then (np_fin))))))) (y_move rfl rfl) rfl ?_
        refine ra_y_on (i := 7) rfl rfl rfl (by kernel_rfl) (by kernel_rfl) (by kernel_rfl) (np_then (np_block (np_then (np_then (np_block (np_then (np_fin))))))) (y_move rfl rfl) rfl ?_
        refine ra_y_on (i := 8) rfl rfl rfl (by kernel_rfl) (by kernel_rfl) (by kernel_rfl) (np_then (np_block (np_then (np_then (np_block (np_then (np_fin))))))) (y_index_e rfl Tryd.s28 rfl rfl hs (j := i) rfl (by omega)) rfl ?_
        refine ra_y_on (i := 9) rfl rfl rfl (by kernel_rfl) (by kernel_rfl) (by kernel_rfl) (np_then (np_block (np_then (np_then (np_block (np_then (np_fin))))))) (y_load_el rfl Tryd.k3 rfl hs (by omega) hcx (vs := [_]) rfl rfl rfl rfl) rfl ?_
        refine ra_y_on (i := 10) rfl rfl rfl (by kernel_rfl) (by kernel_rfl) (by kernel_rfl) (np_then (np_block (np_then (np_then (np_block (np_then (np_fin))))))) (y_add rfl rfl rfl (wrap64_id (by omega))) rfl ?_
        refine ra_y_on (i := 11) rfl rfl rfl (by kernel_rfl) (by kernel_rfl) (by kernel_rfl) (np_then (np_block (np_then (np_then (np_block (np_then (np_fin))))))) (y_move rfl rfl) rfl ?_
        refine ra_y_on (i := 12) rfl rfl rfl (by kernel_rfl) (by kernel_rfl) (by kernel_rfl) (np_then (np_block (np_then (np_then (np_block (np_then (np_fin))))))) (y_len_str rfl rfl Tryd.str9 rfl) rfl ?_
        refine ra_y_on (i := 13) rfl rfl rfl (by kernel_rfl) (by kernel_rfl) (by kernel_rfl) (np_then (np_block (np_then (np_then (np_block (np_then (np_fin))))))) (y_gtr rfl rfl rfl) rfl ?_
        rw [decide_eq_false (show ¬ (l.length : Int) < x + 3 by omega)]
        refine ra_y (i := 14) rfl (by kernel_rfl) (by kernel_rfl) (by kernel_rfl) (np_then (np_block (np_then (np_then (np_block (np_then (np_fin))))))) (y_pick_f rfl rfl rfl) rfl ?_
        refine ra_y (i := 15) rfl (by kernel_rfl) (by kernel_rfl) (by kernel_rfl) (np_then (np_block (np_then (np_then (np_block (np_then (np_fin))))))) (y_move rfl rfl) rfl ?_
        refine ra_y_on (i := 16) rfl rfl rfl (by kernel_rfl) (by kernel_rfl) (by kernel_rfl) (np_then (np_block (np_then (np_then (np_block (np_then (np_fin))))))) (y_move rfl rfl) rfl ?_
        refine ra_y_on (i := 17) rfl rfl rfl (by kernel_rfl) (by kernel_rfl) (by kernel_rfl) (np_then (np_block (np_then (np_then (np_block (np_then (np_fin))))))) (y_gtr rfl rfl rfl) rfl ?_
        refine ra_y_on (i := 18) rfl rfl rfl (by kernel_rfl) (by kernel_rfl) (by kernel_rfl) (np_then (np_block (np_then (np_then (np_block (np_then (np_fin))))))) (y_move rfl rfl) rfl ?_
        rcases Bool.eq_false_or_eq_true (decide (0 < (i : Int))) with hg7_18 | hg7_18
        ·
          simp only [hg7_18]
          refine ra_y_on (i := 19) rfl rfl rfl (by kernel_rfl) (by kernel_rfl) (by kernel_rfl) (np_then (np_block (np_then (np_then (np_block (np_then (np_fin))))))) (y_move rfl rfl) rfl ?_
          refine ra_y_on (i := 20) rfl rfl rfl (by kernel_rfl) (by kernel_rfl) (by kernel_rfl) (np_then (np_block (np_then (np_then (np_block (np_then (np_fin))))))) (y_move rfl rfl) rfl ?_
          refine ra_y_on (i := 21) rfl rfl rfl (by kernel_rfl) (by kernel_rfl) (by kernel_rfl) (np_then (np_block (np_then (np_then (np_block (np_then (np_fin))))))) (y_index_e rfl Tryd.s28 rfl rfl hs (j := i) rfl (by omega)) rfl ?_
          refine ra_y_on (i := 22) rfl rfl rfl (by kernel_rfl) (by kernel_rfl) (by kernel_rfl) (np_then (np_block (np_then (np_then (np_block (np_then (np_fin))))))) (y_load_el rfl Tryd.k3 rfl hs (by omega) hcx (vs := [_]) rfl rfl rfl rfl) rfl ?_
          refine ra_y_on (i := 23) rfl rfl rfl (by kernel_rfl) (by kernel_rfl) (by kernel_rfl) (np_then (np_block (np_then (np_then (np_block (np_then (np_fin))))))) (y_move rfl rfl) rfl ?_
          refine ra_y_on (i := 24) rfl rfl rfl (by kernel_rfl) (by kernel_rfl) (by kernel_rfl) (np_then (np_block (np_then (np_then (np_block (np_then (np_fin))))))) (y_move rfl rfl) rfl ?_
          refine ra_y_on (i := 25) rfl rfl rfl (by kernel_rfl) (by kernel_rfl) (by kernel_rfl) (np_then (np_block (np_then (np_then (np_block (np_then (np_fin))))))) (y_sub rfl rfl rfl (wrap64_id (by omega))) rfl ?_
          refine ra_y_on (i := 26) rfl rfl rfl (by kernel_rfl) (by kernel_rfl) (by kernel_rfl) (np_then (np_block (np_then (np_then (np_block (np_then (np_fin))))))) (y_index_e rfl Tryd.s28 rfl rfl hs (j := i - 1) (by have := of_decide_eq_true hg7_18; omega) (by omega)) rfl ?_
          refine ra_y_on (i := 27) rfl rfl rfl (by kernel_rfl) (by kernel_rfl) (by kernel_rfl) (np_then (np_block (np_then (np_then (np_block (np_then (np_fin))))))) (y_load_el rfl Tryd.k3 rfl hs (by omega) (hy (by have := of_decide_eq_true hg7_18; omega)).1 (vs := [_]) rfl rfl rfl rfl) rfl ?_
          refine ra_y_on (i := 28) rfl rfl rfl (by kernel_rfl) (by kernel_rfl) (by kernel_rfl) (np_then (np_block (np_then (np_then (np_block (np_then (np_fin))))))) (y_leq rfl rfl rfl) rfl ?_
          rw [decide_eq_false (show ¬ x ≤ y by have := (hy (by have := of_decide_eq_true hg7_18; omega)).2; omega)]
          refine ra_y_on (i := 29) rfl rfl rfl (by kernel_rfl) (by kernel_rfl) (by kernel_rfl) (np_then (np_block (np_then (np_then (np_block (np_then (np_fin))))))) (y_pick_t rfl rfl rfl) rfl ?_
          refine ra_y (i := 30) rfl (by kernel_rfl) (by kernel_rfl) (by kernel_rfl) (np_then (np_block (np_then (np_then (np_block (np_then (np_fin))))))) (y_pick_f rfl rfl rfl) rfl ?_
          refine ra_end (by kernel_rfl) (ρ' := [(0, _), (3, _), (4, _), (47, _)]) ⟨rfl, rfl, rfl, rfl, trivial⟩ ?_
          refine q_then ?_
          refine wc_cond_f rfl (rfl) ?_
          refine wc_skip ?_
          refine q_block ?_
          refine q_then ?_
          refine wc_region ?_
          refine rl_y (y_move rfl rfl) rfl ?_
          refine rl_y (y_add rfl rfl rfl (wrap64_id (by omega))) rfl ?_
          refine rl_y (y_assign rfl rfl) rfl ?_
          refine rl_end (ρ' := [(0, _), (3, _), (4, _)]) ⟨rfl, rfl, rfl, trivial⟩ ?_
          refine q_thenK ?_
          refine ⟨m - 1, [(0, _), (3, _), (4, _)], [], by omega, ⟨rfl, rfl, rfl, trivial⟩, trivial, i + 1, by omega, rfl, rfl, rfl, rfl⟩
        ·
          simp only [hg7_18]
          refine ra_off (i := 19) rfl rfl rfl rfl (by kernel_rfl) (by kernel_rfl) (by kernel_rfl) (np_then (np_block (np_then (np_then (np_block (np_then (np_fin))))))) rfl ?_
          refine ra_off (i := 20) rfl rfl rfl rfl (by kernel_rfl) (by kernel_rfl) (by kernel_rfl) (np_then (np_block (np_then (np_then (np_block (np_then (np_fin))))))) rfl ?_
          refine ra_off (i := 21) rfl rfl rfl rfl (by kernel_rfl) (by kernel_rfl) (by kernel_rfl) (np_then (np_block (np_then (np_then (np_block (np_then (np_fin))))))) rfl ?_
          refine ra_off (i := 22) rfl rfl rfl rfl (by kernel_rfl) (by kernel_rfl) (by kernel_rfl) (np_then (np_block (np_then (np_then (np_block (np_then (np_fin))))))) rfl ?_
          refine ra_off (i := 23) rfl rfl rfl rfl (by kernel_rfl) (by kernel_rfl) (by kernel_rfl) (np_then (np_block (np_then (np_then (np_block (np_then (np_fin))))))) rfl ?_
          refine ra_off (i := 24) rfl rfl rfl rfl (by kernel_rfl) (by kernel_rfl) (by kernel_rfl) (np_then (np_block (np_then (np_then (np_block (np_then (np_fin))))))) rfl ?_
          refine ra_off (i := 25) rfl rfl rfl rfl (by kernel_rfl) (by kernel_rfl) (by kernel_rfl) (np_then (np_block (np_then (np_then (np_block (np_then (np_fin))))))) rfl ?_
          refine ra_off (i := 26) rfl rfl rfl rfl (by kernel_rfl) (by kernel_rfl) (by kernel_rfl) (np_then (np_block (np_then (np_then (np_block (np_then (np_fin))))))) rfl ?_
          refine ra_off (i := 27) rfl rfl rfl rfl (by kernel_rfl) (by kernel_rfl) (by kernel_rfl) (np_then (np_block (np_then (np_then (np_block (np_then (np_fin))))))) rfl ?_
          refine ra_off (i := 28) rfl rfl rfl rfl (by kernel_rfl) (by kernel_rfl) (by kernel_rfl) (np_then (np_block (np_then (np_then (np_block (np_then (np_fin))))))) rfl ?_
          refine ra_y_on (i := 29) rfl rfl rfl (by kernel_rfl) (by kernel_rfl) (by kernel_rfl) (np_then (np_block (np_then (np_then (np_block (np_then (np_fin))))))) (y_pick_f rfl rfl rfl) rfl ?_
          refine ra_y (i := 30) rfl (by kernel_rfl) (by kernel_rfl) (by kernel_rfl) (np_then (np_block (np_then (np_then (np_block (np_then (np_fin))))))) (y_pick_f rfl rfl rfl) rfl ?_
          refine ra_end (by kernel_rfl) (ρ' := [(0, _), (3, _), (4, _), (47, _)]) ⟨rfl, rfl, rfl, rfl, trivial⟩ ?_
          refine q_then ?_
          refine wc_cond_f rfl (rfl) ?_
          refine wc_skip ?_
          refine q_block ?_
          refine q_then ?_
          refine wc_region ?_
          refine rl_y (y_move rfl rfl) rfl ?_
          refine rl_y (y_add rfl rfl rfl (wrap64_id (by omega))) rfl ?_
          refine rl_y (y_assign rfl rfl) rfl ?_
          refine rl_end (ρ' := [(0, _), (3, _), (4, _)]) ⟨rfl, rfl, rfl, trivial⟩ ?_
          refine q_thenK ?_
          refine ⟨m - 1, [(0, _), (3, _), (4, _)], [], by omega, ⟨rfl, rfl, rfl, trivial⟩, trivial, i + 1, by omega, rfl, rfl, rfl, rfl⟩
      ·
        refine wc_exit ?_
        refine q_then_exit ?_
        refine q_then_exit ?_
        refine q_block_hit ?_
        refine q_then ?_
        refine wc_seq ?_
        refine wc_region ?_
        refine rl_y (y_move rfl rfl) rfl ?_
        refine rl_y (y_move rfl rfl) rfl ?_
        refine rl_call (caps := []) rfl rfl Tryd.c16 rfl (FnP.mono (rhyphens_fn l (by omega) _) ?_)
        rintro v u1 hle0 ⟨ad2, cap2, rfl, hs2⟩ hle1
        replace hT := hT.mono hle0
        have hs1 := hs.mono hle0
        refine rl_call_f (caps := []) rfl rfl Tryd.c15 rfl (FnP.mono (ints_fn ad ad2 cap cap2 (hyL l) (hyL l) (by omega) _ hs1 hs2) ?_)
        rintro v u1 hle1 rfl
        rw [decide_eq_true (show hyL l = hyL l from rfl)]
        refine rl_y (y_move rfl rfl) rfl ?_
        refine rl_on rfl rfl ?_
        refine rl_call_f (caps := []) rfl rfl Tryd.c10 rfl (FnP.mono (awake_fn _ hT) ?_)
        rintro v u1 hle1 rfl
        refine rl_y (y_pick_t rfl rfl rfl) rfl ?_
        refine rl_y (y_assign rfl rfl) rfl ?_
        refine rl_end (ρ' := [(2, _)]) ⟨rfl, trivial⟩ ?_
        refine q_then ?_
        refine wc_ret ?_
        refine fin1 (.tmp rfl) ?_
        rfl
end Go.Proofs.Ytceodelgalfjfaa
