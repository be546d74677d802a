/- Font: lists of integers compared; the width of a string; what of it fits; the page's examples. -/
import Derived.Test.YtceodelgalfjfaaDoorFontC
namespace Go.Proofs.Ytceodelgalfjfaa
open Go Go.Eng
set_option linter.unusedSimpArgs false
set_option linter.unusedVariables false

theorem ints_fn (ad ad2 : Option Addr) (cap cap2 : Nat) (xs ys : List Int) (hx : xs.length ≤ 1000) (u : View) (h1 : SlC u ad xs.length cap 1 (ints xs)) (h2 : SlC u ad2 ys.length cap2 1 (ints ys)) :
    FnP Tryd.prog 15 [.slice ad xs.length cap, .slice ad2 ys.length cap2] u fun v _ => v = .bool (decide (xs = ys)) := by
  refine FnP.intro [.tmp 4] Tryd.func15 rfl rfl rfl ?_
  intro w0 hw0
  refine wc_seq ?_
  refine wc_region ?_
  refine rl_y (y_assign rfl rfl) rfl ?_
  refine rl_end (ρ' := [(0, _), (1, _)]) ⟨rfl, rfl, trivial⟩ ?_
  refine q_then ?_
  refine wc_seq ?_
  refine wc_seq ?_
  refine wc_region ?_
  refine rl_y (y_move rfl rfl) rfl ?_
  refine rl_y (y_len_v rfl rfl Tryd.s28 rfl) rfl ?_
  refine rl_y (y_move rfl rfl) rfl ?_
  refine rl_y (y_len_v rfl rfl Tryd.s28 rfl) rfl ?_
  refine rl_y (y_neq rfl rfl rfl) rfl ?_
  refine rl_end (ρ' := [(0, _), (1, _), (10, _)]) ⟨rfl, rfl, rfl, trivial⟩ ?_
  refine q_then ?_
  refine wc_cond rfl (fun hb1 => ?_) (fun hb1 => ?_)
  ·
    have hne : (xs.length : Int) ≠ ys.length := of_decide_eq_true hb1
    refine wc_seq ?_
    refine wc_region ?_
    refine rl_y (y_assign rfl rfl) rfl ?_
    refine rl_end (ρ' := [(4, _)]) ⟨rfl, trivial⟩ ?_
    refine q_then ?_
    refine wc_ret ?_
    refine q_then_ret ?_
    refine fin1 (.tmp rfl) ?_
    rw [decide_eq_false (fun e => hne (by rw [e]))]
  ·
    have heq : (xs.length : Int) = ys.length := by simpa using hb1
    refine wc_skip ?_
    refine q_then ?_
    refine wc_seq ?_
    refine wc_seq ?_
    refine wc_region ?_
    refine rl_y (y_assign rfl rfl) rfl ?_
    refine rl_end (ρ' := [(0, _), (1, _), (5, _)]) ⟨rfl, rfl, rfl, trivial⟩ ?_
    refine q_then ?_
    refine wc_block ?_
    refine wc_loop (fun m ρ σ u' μ => ∃ i : Nat, i + m = xs.length ∧ u = u' ∧ μ = [] ∧ σ = [] ∧ ρ = [(0, .v (.slice ad xs.length cap)), (1, .v (.slice ad2 ys.length cap2)), (5, .v (.int .i64 i))] ∧ ∀ j : Nat, j < i → xs[j]? = ys[j]?) xs.length ?_ ?_
    ·
      refine ⟨[(0, _), (1, _), (5, _)], [], ⟨rfl, rfl, rfl, trivial⟩, trivial, 0, by omega, rfl, rfl, rfl, rfl, by omega⟩
    ·
      rintro m ρ σ u' μ ⟨i, hi, rfl, rfl, rfl, rfl, hno⟩
      refine wc_seq ?_
      refine wc_seq ?_
      refine wc_cutB 20 (decide (i < xs.length)) (ρk := [(0, _), (1, _), (5, _)]) ⟨rfl, rfl, rfl, trivial⟩ ?_ ?_
      ·
        refine wc_region ?_
        refine rl_y (y_move rfl rfl) rfl ?_
        refine rl_y (y_move rfl rfl) rfl ?_
        refine rl_y (y_len_v rfl rfl Tryd.s28 rfl) rfl ?_
        refine rl_y (y_lss rfl rfl rfl) rfl ?_
        refine rl_y (y_move rfl rfl) rfl ?_
        rcases Bool.eq_false_or_eq_true (decide (i < xs.length)) with hg4_4 | hg4_4
        ·
          first | rw [decide_eq_decide.2 (show ((i : Int) < xs.length) ↔ i < xs.length by omega), hg4_4] | skip
          refine rl_on rfl rfl ?_
          refine rl_y (y_move rfl rfl) rfl ?_
          refine rl_on rfl rfl ?_
          refine rl_y (y_move rfl rfl) rfl ?_
          refine rl_on rfl rfl ?_
          refine rl_y (y_len_v rfl rfl Tryd.s28 rfl) rfl ?_
          refine rl_on rfl rfl ?_
          refine rl_y (y_lss rfl rfl rfl) rfl ?_
          refine rl_y (y_pick_t rfl rfl rfl) rfl ?_
          exact cutB_end rfl ⟨rfl, rfl, rfl, trivial⟩ (by first | rfl | ((first | refine (decide_eq_true ?_).symm | refine (decide_eq_false ?_).symm | refine decide_eq_decide.2 ?_ | refine decide_eq_true ?_ | refine decide_eq_false ?_) <;> (try unfold LetP) <;> (try simp only [decide_eq_true_eq, decide_eq_false_iff_not] at *) <;> omega))
        ·
          first | rw [decide_eq_decide.2 (show ((i : Int) < xs.length) ↔ i < xs.length by omega), hg4_4] | skip
          refine rl_off rfl rfl rfl rfl ?_
          refine rl_off rfl rfl rfl rfl ?_
          refine rl_off rfl rfl rfl rfl ?_
          refine rl_off rfl rfl rfl rfl ?_
          refine rl_y (y_pick_f rfl rfl rfl) rfl ?_
          exact cutB_end rfl ⟨rfl, rfl, rfl, trivial⟩ (by first | rfl | ((first | refine (decide_eq_true ?_).symm | refine (decide_eq_false ?_).symm | refine decide_eq_decide.2 ?_ | refine decide_eq_true ?_ | refine decide_eq_false ?_) <;> (try unfold LetP) <;> (try simp only [decide_eq_true_eq, decide_eq_false_iff_not] at *) <;> omega))
      refine q_then ?_
      refine wc_cond rfl (fun hb4 => ?_) (fun hb4 => ?_)
      ·
        refine wc_skip ?_
        refine q_then ?_
        refine wc_seq ?_
        refine wc_block ?_
        refine wc_seq ?_
        have hlt : i < xs.length := of_decide_eq_true hb4
        obtain ⟨a, ha⟩ : ∃ a, xs[i]? = some a := ⟨_, List.getElem?_eq_getElem hlt⟩
        obtain ⟨b, hb⟩ : ∃ b, ys[i]? = some b := ⟨_, List.getElem?_eq_getElem (by omega)⟩
        have hca := cut_ints ha
        have hcb := cut_ints hb
        refine wc_draw Tryd.mixed [] ?_
        refine ra_y (i := 0) rfl (by kernel_rfl) (by kernel_rfl) (by kernel_rfl) (np_then (np_block (np_then (np_then (np_block (np_then (np_fin))))))) (y_move rfl rfl) rfl ?_
        refine ra_y (i := 1) rfl (by kernel_rfl) (by kernel_rfl) (by kernel_rfl) (np_then (np_block (np_then (np_then (np_block (np_then (np_fin))))))) (y_move rfl rfl) rfl ?_
        refine ra_y (i := 2) rfl (by kernel_rfl) (by kernel_rfl) (by kernel_rfl) (np_then (np_block (np_then (np_then (np_block (np_then (np_fin))))))) (y_index_e rfl Tryd.s28 rfl rfl h1 (j := i) rfl (by omega)) rfl ?_
        refine ra_y (i := 3) rfl (by kernel_rfl) (by kernel_rfl) (by kernel_rfl) (np_then (np_block (np_then (np_then (np_block (np_then (np_fin))))))) (y_load_el rfl Tryd.k3 rfl h1 (by omega) hca (vs := [_]) rfl rfl rfl rfl) rfl ?_
        refine ra_y (i := 4) rfl (by kernel_rfl) (by kernel_rfl) (by kernel_rfl) (np_then (np_block (np_then (np_then (np_block (np_then (np_fin))))))) (y_move rfl rfl) rfl ?_
        refine ra_y (i := 5) rfl (by kernel_rfl) (by kernel_rfl) (by kernel_rfl) (np_then (np_block (np_then (np_then (np_block (np_then (np_fin))))))) (y_move rfl rfl) rfl ?_
        refine ra_y (i := 6) rfl (by kernel_rfl) (by kernel_rfl) (by kernel_rfl) (np_then (np_block (np_then (np_then (np_block (np_then (np_fin))))))) (y_index_e rfl Tryd.s28 rfl rfl h2 (j := i) rfl (by omega)) rfl ?_
        refine ra_y (i := 7) rfl (by kernel_rfl) (by kernel_rfl) (by kernel_rfl) (np_then (np_block (np_then (np_then (np_block (np_then (np_fin))))))) (y_load_el rfl Tryd.k3 rfl h2 (by omega) hcb (vs := [_]) rfl rfl rfl rfl) rfl ?_
        refine ra_y (i := 8) rfl (by kernel_rfl) (by kernel_rfl) (by kernel_rfl) (np_then (np_block (np_then (np_then (np_block (np_then (np_fin))))))) (y_neq rfl rfl rfl) rfl ?_
        refine ra_end (by kernel_rfl) (ρ' := [(0, _), (1, _), (5, _), (31, _)]) ⟨rfl, rfl, rfl, rfl, trivial⟩ ?_
        refine q_then ?_
        refine wc_cond rfl (fun hb6 => ?_) (fun hb6 => ?_)
        ·
          have hab : a ≠ b := of_decide_eq_true hb6
          refine wc_seq ?_
          refine wc_region ?_
          refine rl_y (y_assign rfl rfl) rfl ?_
          refine rl_end (ρ' := [(4, _)]) ⟨rfl, trivial⟩ ?_
          refine q_then ?_
          refine wc_ret ?_
          refine q_block_ret ?_
          refine q_then_ret ?_
          refine q_then_ret ?_
          refine q_block_ret ?_
          refine q_then_ret ?_
          refine fin1 (.tmp rfl) ?_
          rw [decide_eq_false (fun e => hab (by subst e; rw [ha] at hb; cases hb; rfl))]
        ·
          have hab : a = b := by simpa using hb6
          refine wc_skip ?_
          refine q_block ?_
          refine q_then ?_
          refine wc_region ?_
          refine rl_y (y_move rfl rfl) rfl ?_
          refine rl_y (y_add rfl rfl rfl (wrap64_id (by omega))) rfl ?_
          refine rl_y (y_assign rfl rfl) rfl ?_
          refine rl_end (ρ' := [(0, _), (1, _), (5, _)]) ⟨rfl, rfl, rfl, trivial⟩ ?_
          refine q_thenK ?_
          refine ⟨m - 1, [(0, _), (1, _), (5, _)], [], by omega, ⟨rfl, rfl, rfl, trivial⟩, trivial, i + 1, by omega, rfl, rfl, rfl, rfl, ?_⟩
          intro j hj
          by_cases hji : j = i
          · subst hji
            rw [ha, hb, hab]
          · exact hno j (by omega)
      ·
        refine wc_exit ?_
        refine q_then_exit ?_
        refine q_then_exit ?_
        refine q_block_hit ?_
        refine q_then ?_
        refine wc_seq ?_
        refine wc_region ?_
        refine rl_y (y_assign rfl rfl) rfl ?_
        refine rl_end (ρ' := [(4, _)]) ⟨rfl, trivial⟩ ?_
        refine q_then ?_
        refine wc_ret ?_
        refine fin1 (.tmp rfl) ?_
        have hge : ¬ i < xs.length := of_decide_eq_false hb4
        rw [decide_eq_true]
        apply List.ext_getElem?
        intro j
        by_cases hj : j < i
        · exact hno j hj
        · rw [List.getElem?_eq_none (by omega), List.getElem?_eq_none (by omega)]

theorem rhyphens_fn (l : List UInt8) (hl : l.length ≤ 1000) (u : View) : FnP Tryd.prog 16 [str l] u fun v u' => IsInts u' v (hyL l) := by
  have hbyte : ∀ x : UInt8, 0 ≤ (x.toNat : Int) ∧ (x.toNat : Int) < 256 := fun x => by have := x.toNat_lt; omega
  have hvow : ∀ (i : Nat) (x : UInt8), l[i]? = some x → decide (VowP x.toNat) = vow l i := fun i x hx => by simp only [vow, hx]
  refine FnP.intro [.tmp 2] Tryd.func16 rfl rfl rfl ?_
  intro w0 hw0
  refine wc_seq ?_
  refine wc_region ?_
  refine rl_y (y_assign rfl rfl) rfl ?_
  refine rl_end (ρ' := [(0, _)]) ⟨rfl, trivial⟩ ?_
  refine q_then ?_
  refine wc_seq ?_
  refine wc_seq ?_
  refine wc_region ?_
  refine rl_y (y_assign rfl rfl) rfl ?_
  refine rl_end (ρ' := [(0, _), (3, _)]) ⟨rfl, rfl, trivial⟩ ?_
  refine q_then ?_
  refine wc_block ?_
  refine wc_loop (fun m ρ σ u' μ => ∃ i : Nat, i + m = l.length ∧ u = u' ∧ μ = [] ∧ σ = [] ∧ ρ = [(0, .v (str l)), (3, .v (.int .i64 i))] ∧ ∀ j : Nat, j < i → ∀ x, l[j]? = some x → LetP x.toNat) l.length ?_ ?_
  ·
    refine ⟨[(0, _), (3, _)], [], ⟨rfl, rfl, trivial⟩, trivial, 0, by omega, rfl, rfl, rfl, rfl, by omega⟩
  ·
    rintro m ρ σ u' μ ⟨i, hi, rfl, rfl, rfl, rfl, hno⟩
    refine wc_seq ?_
    refine wc_seq ?_
    refine wc_region ?_
    refine rl_y (y_move rfl rfl) rfl ?_
    refine rl_y (y_move rfl rfl) rfl ?_
    refine rl_y (y_len_str rfl rfl Tryd.str9 rfl) rfl ?_
    refine rl_y (y_lss rfl rfl rfl) rfl ?_
    refine rl_end (ρ' := [(0, _), (3, _), (9, _)]) ⟨rfl, rfl, rfl, trivial⟩ ?_
    refine q_then ?_
    refine wc_cond rfl (fun hb2 => ?_) (fun hb2 => ?_)
    ·
      refine wc_skip ?_
      refine q_then ?_
      refine wc_seq ?_
      refine wc_block ?_
      refine wc_seq ?_
      have hlt : i < l.length := by have := of_decide_eq_true hb2; omega
      obtain ⟨x, hx⟩ : ∃ x, l[i]? = some x := ⟨_, List.getElem?_eq_getElem hlt⟩
      refine wc_region ?_
      refine rl_y (y_move rfl rfl) rfl ?_
      refine rl_y (y_move rfl rfl) rfl ?_
      refine rl_y (y_index_str rfl Tryd.str9 rfl rfl (by first | rfl | omega) (by assumption)) rfl ?_
      refine rl_call_f (caps := []) rfl rfl Tryd.c28 rfl (FnP.mono (rletter_fn x.toNat _) ?_)
      rintro v u1 hle1 rfl
      refine rl_y (y_not rfl rfl) rfl ?_
      refine rl_end (ρ' := [(0, _), (3, _), (16, _)]) ⟨rfl, rfl, rfl, trivial⟩ ?_
      refine q_then ?_
      refine wc_cond rfl (fun hb4 => ?_) (fun hb4 => ?_)
      ·
        have hnl : ¬ LetP x.toNat := by simpa using hb4
        refine wc_seq ?_
        refine wc_region ?_
        refine rl_y (y_assign rfl rfl) rfl ?_
        refine rl_end (ρ' := [(2, _)]) ⟨rfl, trivial⟩ ?_
        refine q_then ?_
        refine wc_ret ?_
        refine q_block_ret ?_
        refine q_then_ret ?_
        refine q_then_ret ?_
        refine q_block_ret ?_
        refine q_then_ret ?_
        refine fin1 (.tmp rfl) ?_
        have hna : ¬ allLet l := fun h => hnl (h x (List.mem_of_getElem? hx))
        have he : hyL l = [] := by unfold hyL; rw [if_neg hna]
        rw [he]
        exact isInts_nil _
      ·
        have hyl : LetP x.toNat := by simpa using hb4
        refine wc_skip ?_
        refine q_block ?_
        refine q_then ?_
        refine wc_region ?_
        refine rl_y (y_move rfl rfl) rfl ?_
        refine rl_y (y_add rfl rfl rfl (wrap64_id (by omega))) rfl ?_
        refine rl_y (y_assign rfl rfl) rfl ?_
        refine rl_end (ρ' := [(0, _), (3, _)]) ⟨rfl, rfl, trivial⟩ ?_
        refine q_thenK ?_
        refine ⟨m - 1, [(0, _), (3, _)], [], by omega, ⟨rfl, rfl, trivial⟩, trivial, i + 1, by omega, rfl, rfl, rfl, rfl, ?_⟩
        intro j hj y hy
        by_cases hji : j = i
        · subst hji
          rw [hx] at hy
          cases hy
          exact hyl
        · exact hno j (by omega) y hy
    ·
      refine wc_exit ?_
      refine q_then_exit ?_
      refine q_then_exit ?_
      refine q_block_hit ?_
      refine q_then ?_
      refine wc_seq ?_
      have hge : ¬ ((i : Int) < l.length) := of_decide_eq_false hb2
      have hall : allLet l := by
        intro x hx
        obtain ⟨j, hj⟩ := List.getElem?_of_mem hx
        exact hno j (by have := (List.getElem?_eq_some_iff.1 hj).1; omega) x hj
      have hhy : hyL l = hyUp l (l.length - 2) := by unfold hyL; rw [if_pos hall]
      refine wc_region ?_
      refine rl_y (y_assign rfl rfl) rfl ?_
      refine rl_own_nil 4 4 3 1 rfl rfl rfl ?_
      refine rl_end (ρ' := [(0, _), (4, _)]) ⟨rfl, rfl, trivial⟩ ?_
      refine q_then ?_
      refine wc_seq ?_
      refine wc_seq ?_
      refine wc_region ?_
      refine rl_y (y_assign rfl rfl) rfl ?_
      refine rl_end (ρ' := [(0, _), (4, _), (5, _)]) ⟨rfl, rfl, rfl, trivial⟩ ?_
      refine q_then ?_
      refine wc_block ?_
      refine wc_loop (fun m ρ σ u' μ => ∃ k : Nat, k + m = l.length + 2 ∧ 2 ≤ k ∧ (k = 2 ∨ k + 2 ≤ l.length) ∧ u = u' ∧ μ = [] ∧ ρ = [(0, .v (str l)), (4, .s 4), (5, .v (.int .i64 k))] ∧
      σ = [(4, .row 3 1 (hyUp l k).length (ints (hyUp l k)))]) l.length ?_ ?_
      ·
        refine ⟨[(0, _), (4, _), (5, _)], [(4, _)], ⟨rfl, rfl, rfl, trivial⟩, ⟨?_, trivial⟩, 2, by omega, by omega, .inl rfl, rfl, rfl, rfl, rfl⟩
        rw [hyUp_two]
        rfl
      ·
        rintro m ρ σ u' μ ⟨k, hk, hk2, hke, rfl, rfl, rfl, rfl⟩
        refine wc_seq ?_
        refine wc_seq ?_
        refine wc_region ?_
        refine rl_y (y_move rfl rfl) rfl ?_
        refine rl_y (y_add rfl rfl rfl (wrap64_id (by omega))) rfl ?_
        refine rl_y (y_move rfl rfl) rfl ?_
        refine rl_y (y_len_str rfl rfl Tryd.str9 rfl) rfl ?_
        refine rl_y (y_leq rfl rfl rfl) rfl ?_
        refine rl_end (ρ' := [(0, _), (4, _), (5, _), (21, _)]) ⟨rfl, rfl, rfl, rfl, trivial⟩ ?_
        refine q_then ?_
        refine wc_cond rfl (fun hb8 => ?_) (fun hb8 => ?_)
        ·
          have hk3 : (k : Int) + 3 ≤ l.length := of_decide_eq_true hb8
          refine wc_skip ?_
          refine q_then ?_
          refine wc_seq ?_
          refine wc_block ?_
          refine wc_seq ?_
          refine wc_seq ?_
          obtain ⟨x0, hx0⟩ : ∃ x, l[k]? = some x := ⟨_, List.getElem?_eq_getElem (by omega)⟩
          obtain ⟨x1, hx1⟩ : ∃ x, l[k + 1]? = some x := ⟨_, List.getElem?_eq_getElem (by omega)⟩
          obtain ⟨y1, hy1⟩ : ∃ x, l[k - 1]? = some x := ⟨_, List.getElem?_eq_getElem (by omega)⟩
          obtain ⟨y2, hy2⟩ : ∃ x, l[k - 2]? = some x := ⟨_, List.getElem?_eq_getElem (by omega)⟩
          refine wc_cutB 35 (vow l k || !vow l (k + 1)) (ρk := [(0, _), (4, _), (5, _)]) ⟨rfl, rfl, rfl, trivial⟩ ?_ ?_
          ·
            refine wc_region ?_
            refine rl_y (y_move rfl rfl) rfl ?_
            refine rl_y (y_move rfl rfl) rfl ?_
            refine rl_y (y_index_str rfl Tryd.str9 rfl rfl (j := k) rfl hx0) rfl ?_
            refine rl_call_f (caps := []) rfl rfl Tryd.c29 rfl (FnP.mono (rvowel_fn x0.toNat (hbyte _) _) ?_)
            rintro v u1 hle1 rfl
            rw [hvow k x0 hx0]
            refine rl_y (y_move rfl rfl) rfl ?_
            rcases Bool.eq_false_or_eq_true (vow l k) with hg10_4 | hg10_4
            ·
              simp only [hg10_4]
              refine rl_off rfl rfl rfl rfl ?_
              refine rl_off rfl rfl rfl rfl ?_
              refine rl_off rfl rfl rfl rfl ?_
              refine rl_off rfl rfl rfl rfl ?_
              refine rl_off rfl rfl rfl rfl ?_
              refine rl_off rfl rfl rfl rfl ?_
              refine rl_y (y_pick_t rfl rfl rfl) rfl ?_
              exact cutB_end rfl ⟨rfl, rfl, rfl, trivial⟩ (by simp [*])
            ·
              simp only [hg10_4]
              refine rl_on rfl rfl ?_
              refine rl_y (y_move rfl rfl) rfl ?_
              refine rl_on rfl rfl ?_
              refine rl_y (y_move rfl rfl) rfl ?_
              refine rl_on rfl rfl ?_
              refine rl_y (y_add rfl rfl rfl (wrap64_id (by omega))) rfl ?_
              refine rl_on rfl rfl ?_
              refine rl_y (y_index_str rfl Tryd.str9 rfl rfl (j := k + 1) (by omega) hx1) rfl ?_
              refine rl_on rfl rfl ?_
              refine rl_call_f (caps := []) rfl rfl Tryd.c29 rfl (FnP.mono (rvowel_fn x1.toNat (hbyte _) _) ?_)
              rintro v u1 hle1 rfl
              rw [hvow (k + 1) x1 hx1]
              refine rl_on rfl rfl ?_
              refine rl_y (y_not rfl rfl) rfl ?_
              refine rl_y (y_pick_f rfl rfl rfl) rfl ?_
              exact cutB_end rfl ⟨rfl, rfl, rfl, trivial⟩ (by simp [*])
          refine q_then ?_
          refine wc_cond rfl (fun hb10 => ?_) (fun hb10 => ?_)
          ·
            have hup := hyUp_no1 hb10
            refine wc_exit ?_
            refine q_then_exit ?_
            refine q_block_hit ?_
            refine q_then ?_
            refine wc_region ?_
            refine rl_y (y_move rfl rfl) rfl ?_
            refine rl_y (y_add rfl rfl rfl (wrap64_id (by omega))) rfl ?_
            refine rl_y (y_assign rfl rfl) rfl ?_
            refine rl_end (ρ' := [(0, _), (4, _), (5, _)]) ⟨rfl, rfl, rfl, trivial⟩ ?_
            refine q_thenK ?_
            refine ⟨m - 1, [(0, _), (4, _), (5, _)], [(4, _)], by omega, ⟨rfl, rfl, rfl, trivial⟩, ⟨?_, trivial⟩, k + 1, by omega, by omega, by omega, rfl, rfl, rfl, rfl⟩
            simp only [hup, ints, List.length_append, List.map_append]
            rfl
          ·
            skip
            refine wc_skip ?_
            refine q_then ?_
            refine wc_seq ?_
            refine wc_cutB 47 (vow l (k - 1) || vow l (k - 2)) (ρk := [(0, _), (4, _), (5, _)]) ⟨rfl, rfl, rfl, trivial⟩ ?_ ?_
            ·
              refine wc_region ?_
              refine rl_y (y_move rfl rfl) rfl ?_
              refine rl_y (y_move rfl rfl) rfl ?_
              refine rl_y (y_sub rfl rfl rfl (wrap64_id (by omega))) rfl ?_
              refine rl_y (y_index_str rfl Tryd.str9 rfl rfl (j := k - 1) (by omega) hy1) rfl ?_
              refine rl_call_f (caps := []) rfl rfl Tryd.c29 rfl (FnP.mono (rvowel_fn y1.toNat (hbyte _) _) ?_)
              rintro v u1 hle1 rfl
              rw [hvow (k - 1) y1 hy1]
              refine rl_y (y_move rfl rfl) rfl ?_
              rcases Bool.eq_false_or_eq_true (vow l (k - 1)) with hg11_5 | hg11_5
              ·
                simp only [hg11_5]
                refine rl_off rfl rfl rfl rfl ?_
                refine rl_off rfl rfl rfl rfl ?_
                refine rl_off rfl rfl rfl rfl ?_
                refine rl_off rfl rfl rfl rfl ?_
                refine rl_off rfl rfl rfl rfl ?_
                refine rl_y (y_pick_t rfl rfl rfl) rfl ?_
                exact cutB_end rfl ⟨rfl, rfl, rfl, trivial⟩ (by simp [*])
              ·
                simp only [hg11_5]
                refine rl_on rfl rfl ?_
                refine rl_y (y_move rfl rfl) rfl ?_
                refine rl_on rfl rfl ?_
                refine rl_y (y_move rfl rfl) rfl ?_
                refine rl_on rfl rfl ?_
                refine rl_y (y_sub rfl rfl rfl (wrap64_id (by omega))) rfl ?_
                refine rl_on rfl rfl ?_
                refine rl_y (y_index_str rfl Tryd.str9 rfl rfl (j := k - 2) (by omega) hy2) rfl ?_
                refine rl_on rfl rfl ?_
                refine rl_call_f (caps := []) rfl rfl Tryd.c29 rfl (FnP.mono (rvowel_fn y2.toNat (hbyte _) _) ?_)
                rintro v u1 hle1 rfl
                rw [hvow (k - 2) y2 hy2]
                refine rl_y (y_pick_f rfl rfl rfl) rfl ?_
                exact cutB_end rfl ⟨rfl, rfl, rfl, trivial⟩ (by simp [*])
            refine q_then ?_
            refine wc_cond rfl (fun hb11 => ?_) (fun hb11 => ?_)
            ·
              have hup := hyUp_yes hk2 hb10 hb11; have hle2 := hyUp_len l k
              refine wc_region ?_
              refine rl_y (y_move rfl rfl) rfl ?_
              refine rl_y (y_move rfl rfl) rfl ?_
              refine rl_buildSlice Tryd.s28 Tryd.z3 (ps := [(_, _)]) rfl (xs := [_]) rfl rfl rfl rfl rfl rfl rfl ?_
              refine rl_append_s rfl Tryd.s28 Tryd.z3 rfl rfl rfl rfl rfl rfl (by first | rfl | simp [Value.oneCell', str]) (by omega) (by omega) (ρ' := [(0, _), (5, _)]) ⟨rfl, rfl, trivial⟩ rfl rfl rfl ?_
              refine rl_y (y_assign rfl rfl) rfl ?_
              refine rl_ren 51 4 rfl rfl rfl ?_
              refine rl_end (ρ' := [(0, _), (4, _), (5, _)]) ⟨rfl, rfl, rfl, trivial⟩ ?_
              refine q_block ?_
              refine q_then ?_
              refine wc_region ?_
              refine rl_y (y_move rfl rfl) rfl ?_
              refine rl_y (y_add rfl rfl rfl (wrap64_id (by omega))) rfl ?_
              refine rl_y (y_assign rfl rfl) rfl ?_
              refine rl_end (ρ' := [(0, _), (4, _), (5, _)]) ⟨rfl, rfl, rfl, trivial⟩ ?_
              refine q_thenK ?_
              refine ⟨m - 1, [(0, _), (4, _), (5, _)], [(4, _)], by omega, ⟨rfl, rfl, rfl, trivial⟩, ⟨?_, trivial⟩, k + 1, by omega, by omega, by omega, rfl, rfl, rfl, rfl⟩
              simp only [hup, ints, List.length_append, List.map_append]
              rfl
            ·
              have hup := hyUp_no2 hb11
              refine wc_skip ?_
              refine q_block ?_
              refine q_then ?_
              refine wc_region ?_
              refine rl_y (y_move rfl rfl) rfl ?_
              refine rl_y (y_add rfl rfl rfl (wrap64_id (by omega))) rfl ?_
              refine rl_y (y_assign rfl rfl) rfl ?_
              refine rl_end (ρ' := [(0, _), (4, _), (5, _)]) ⟨rfl, rfl, rfl, trivial⟩ ?_
              refine q_thenK ?_
              refine ⟨m - 1, [(0, _), (4, _), (5, _)], [(4, _)], by omega, ⟨rfl, rfl, rfl, trivial⟩, ⟨?_, trivial⟩, k + 1, by omega, by omega, by omega, rfl, rfl, rfl, rfl⟩
              simp only [hup, ints, List.length_append, List.map_append]
              rfl
        ·
          have hk3 : ¬ (k : Int) + 3 ≤ l.length := of_decide_eq_false hb8
          refine wc_exit ?_
          refine q_then_exit ?_
          refine q_then_exit ?_
          refine q_block_hit ?_
          refine q_then ?_
          refine wc_seq ?_
          refine wc_region ?_
          refine rl_freeze 4 rfl ?_
          intro ad cap u3 hle3 hsl
          refine rl_y (y_move rfl rfl) rfl ?_
          refine rl_y (y_assign rfl rfl) rfl ?_
          refine rl_end (ρ' := [(2, _)]) ⟨rfl, trivial⟩ ?_
          refine q_then ?_
          refine wc_ret ?_
          refine fin1 (.tmp rfl) ?_
          rw [hhy, hyUp_end hke hk3]
          exact ⟨ad, cap, rfl, hsl⟩

/-! ### strings -/
/-- the widths of the code points from p on, n of them at most -/
def wsum (l : List UInt8) : Nat → Nat → Int
  | 0, _ => 0
  | n + 1, p => if p < l.length then wid (dec l p).1 + wsum l n (p + (dec l p).2) else 0
/-- the width of a string -/
def wideOf (l : List UInt8) : Int := wsum l l.length 0
/-- where the first code point begins that does not fit -/
def fitF (l : List UInt8) (w : Int) : Nat → Nat → Int → Nat
  | 0, _, _ => l.length
  | n + 1, p, s => if p < l.length then (if w < s + wid (dec l p).1 then p else fitF l w n (p + (dec l p).2) (s + wid (dec l p).1)) else l.length
def fitOf (l : List UInt8) (w : Int) : Nat := if w < 0 then 0 else fitF l w l.length 0 0

theorem wsum_range (l : List UInt8) : ∀ n p, 0 ≤ wsum l n p ∧ wsum l n p ≤ 100 * n
  | 0, _ => by simp [wsum]
  | n + 1, p => by
    have h1 := wid_range (dec l p).1
    have h2 := wsum_range l n (p + (dec l p).2)
    simp only [wsum]
    split <;> omega
theorem wsum_over {l : List UInt8} {p : Nat} (h : l.length ≤ p) : ∀ n, wsum l n p = 0
  | 0 => rfl
  | n + 1 => by simp only [wsum]; rw [if_neg (by omega)]
theorem dec_pos (l : List UInt8) (p : Nat) (h : p < l.length) : 1 ≤ (dec l p).2 := by
  by_cases ha : ((⟨l.toArray⟩ : ByteArray)[p]'h).toNat < 128
  · have := decode_ascii ⟨l.toArray⟩ p h ha
    simp [dec, this]
  · exact (decode_high ⟨l.toArray⟩ p h (by omega)).2

theorem wide_str_fn (l : List UInt8) (hl : l.length ≤ 1000) (u : View) (hT : TabU u) : FnP Tryd.prog 11 [str l] u fun v _ => v = .int .i64 (wideOf l) := by
  refine FnP.intro [.tmp 2] Tryd.func11 rfl rfl rfl ?_
  intro w0 hw0
  refine wc_seq ?_
  refine wc_region ?_
  refine rl_y (y_assign rfl rfl) rfl ?_
  refine rl_end (ρ' := [(0, _)]) ⟨rfl, trivial⟩ ?_
  refine q_then ?_
  refine wc_seq ?_
  refine wc_region ?_
  refine rl_y (y_assign rfl rfl) rfl ?_
  refine rl_end (ρ' := [(0, _), (3, _)]) ⟨rfl, rfl, trivial⟩ ?_
  refine q_then ?_
  refine wc_seq ?_
  refine wc_seq ?_
  refine wc_region ?_
  refine rl_y (y_move rfl rfl) rfl ?_
  refine rl_range Tryd.str9 rfl rfl rfl rfl ?_
  refine rl_end (ρ' := [(3, _), (7, _)]) ⟨rfl, rfl, trivial⟩ ?_
  refine q_then ?_
  refine wc_block ?_
  refine wc_loop (fun m ρ σ u' μ => ∃ (p : Nat) (s : Int), l.length ≤ p + m ∧ m ≤ l.length ∧ 0 ≤ s ∧ s ≤ 100 * (l.length - m : Nat) ∧ s + wsum l m p = wideOf l ∧ u = u' ∧ μ = [] ∧ σ = [(7, .it l p)] ∧ ρ = [(3, .v (.int .i64 s)), (7, .p 7 0)]) l.length ?_ ?_
  ·
    refine ⟨[(3, _), (7, _)], [(7, _)], ⟨rfl, rfl, trivial⟩, ⟨rfl, trivial⟩, 0, 0, by omega, by omega, by omega, by omega, by simp [wideOf], rfl, rfl, rfl, rfl⟩
  ·
    rintro m ρ σ u' μ ⟨p, s, hp, hm, hs0, hs1, hsum, rfl, rfl, rfl, rfl⟩
    refine wc_seq ?_
    refine wc_region ?_
    refine rl_next rfl rfl rfl ?_
    refine rl_y (y_nx0 rfl rfl) rfl ?_
    refine rl_end (ρ' := [(3, _), (7, _), (8, _), (9, _)]) ⟨rfl, rfl, rfl, rfl, trivial⟩ ?_
    refine q_then ?_
    refine wc_seq ?_
    refine wc_cond rfl (fun hb3 => ?_) (fun hb3 => ?_)
    ·
      have hlt : p < l.length := of_decide_eq_true hb3
      refine wc_skip ?_
      refine q_then ?_
      refine wc_block ?_
      refine wc_seq ?_
      obtain ⟨m, rfl⟩ : ∃ k, m = k + 1 := ⟨m - 1, by omega⟩
      have hw := wid_range (dec l p).1
      have hd := dec_pos l p hlt
      have hdr : -2147483648 ≤ (dec l p).1 ∧ (dec l p).1 ≤ 2147483647 := ⟨by
        have : 0 ≤ (dec l p).1 := Int.natCast_nonneg _
        omega, by
        have := decode_le ⟨l.toArray⟩ p
        simp only [dec]; omega⟩
      have hne : nxP l p = p + (dec l p).2 := by simp [nxP, hlt]
      have hse : wsum l (m + 1) p = wid (dec l p).1 + wsum l m (p + (dec l p).2) := by simp only [wsum]; rw [if_pos hlt]
      refine wc_region ?_
      refine rl_y (y_nx2 rfl rfl (by assumption)) rfl ?_
      refine rl_y (y_assign rfl rfl) rfl ?_
      refine rl_end (ρ' := [(3, _), (5, _), (7, _)]) ⟨rfl, rfl, rfl, trivial⟩ ?_
      refine q_then ?_
      refine wc_region ?_
      refine rl_y (y_move rfl rfl) rfl ?_
      refine rl_y (y_move rfl rfl) rfl ?_
      refine rl_y (y_conv rfl Tryd.u21 Tryd.u3 rfl (wrap64_id (by omega))) rfl ?_
      refine rl_call_f (caps := []) rfl rfl Tryd.c8 rfl (FnP.mono (width_fn (dec l p).1 _ hT) ?_)
      rintro v u1 hle1 rfl
      refine rl_y (y_add rfl rfl rfl (wrap64_id (by omega))) rfl ?_
      refine rl_y (y_assign rfl rfl) rfl ?_
      refine rl_end (ρ' := [(3, _), (7, _)]) ⟨rfl, rfl, trivial⟩ ?_
      refine q_block ?_
      refine q_thenK ?_
      refine ⟨m, [(3, _), (7, _)], [(7, _)], by omega, ⟨rfl, rfl, trivial⟩, ⟨by rw [hne]; rfl, trivial⟩, p + (dec l p).2, s + wid (dec l p).1, by omega, by omega, by omega, by omega, by rw [← hsum, hse]; omega, rfl, rfl, rfl, rfl⟩
    ·
      have hge : ¬ p < l.length := of_decide_eq_false hb3
      refine wc_exit ?_
      refine q_then_exit ?_
      refine q_then_exit ?_
      refine q_block_hit ?_
      refine q_then ?_
      refine wc_seq ?_
      refine wc_region ?_
      refine rl_y (y_move rfl rfl) rfl ?_
      refine rl_y (y_assign rfl rfl) rfl ?_
      refine rl_end (ρ' := [(2, _)]) ⟨rfl, trivial⟩ ?_
      refine q_then ?_
      refine wc_ret ?_
      refine fin1 (.tmp rfl) ?_
      rw [wsum_over (by omega)] at hsum
      rw [← hsum, Int.add_zero]

theorem fit_fn (l : List UInt8) (hl : l.length ≤ 1000) (width : Int) (u : View) (hT : TabU u) : FnP Tryd.prog 17 [str l, .int .i64 width] u fun v _ => v = .int .i64 (fitOf l width) := by
  refine FnP.intro [.tmp 4] Tryd.func17 rfl rfl rfl ?_
  intro w0 hw0
  refine wc_seq ?_
  refine wc_region ?_
  refine rl_y (y_assign rfl rfl) rfl ?_
  refine rl_end (ρ' := [(0, _), (1, _)]) ⟨rfl, rfl, trivial⟩ ?_
  refine q_then ?_
  refine wc_seq ?_
  refine wc_seq ?_
  refine wc_region ?_
  refine rl_y (y_move rfl rfl) rfl ?_
  refine rl_y (y_lss rfl rfl rfl) rfl ?_
  refine rl_end (ρ' := [(0, _), (1, _), (9, _)]) ⟨rfl, rfl, rfl, trivial⟩ ?_
  refine q_then ?_
  refine wc_cond rfl (fun hb1 => ?_) (fun hb1 => ?_)
  ·
    have hneg : width < 0 := of_decide_eq_true hb1
    refine wc_seq ?_
    refine wc_region ?_
    refine rl_y (y_assign rfl rfl) rfl ?_
    refine rl_end (ρ' := [(4, _)]) ⟨rfl, trivial⟩ ?_
    refine q_then ?_
    refine wc_ret ?_
    refine q_then_ret ?_
    refine fin1 (.tmp rfl) ?_
    simp [fitOf, hneg]
  ·
    have hpos : ¬ width < 0 := of_decide_eq_false hb1
    refine wc_skip ?_
    refine q_then ?_
    refine wc_seq ?_
    refine wc_region ?_
    refine rl_y (y_assign rfl rfl) rfl ?_
    refine rl_end (ρ' := [(0, _), (1, _), (5, _)]) ⟨rfl, rfl, rfl, trivial⟩ ?_
    refine q_then ?_
    refine wc_seq ?_
    refine wc_seq ?_
    refine wc_region ?_
    refine rl_y (y_move rfl rfl) rfl ?_
    refine rl_range Tryd.str9 rfl rfl rfl rfl ?_
    refine rl_end (ρ' := [(0, _), (1, _), (5, _), (11, _)]) ⟨rfl, rfl, rfl, rfl, trivial⟩ ?_
    refine q_then ?_
    refine wc_block ?_
    refine wc_loop (fun m ρ σ u' μ => ∃ (p : Nat) (s : Int), l.length ≤ p + m ∧ m ≤ l.length ∧ 0 ≤ s ∧ s ≤ 100 * (l.length - m : Nat) ∧ fitF l width m p s = fitOf l width ∧ u = u' ∧ μ = [] ∧ σ = [(11, .it l p)] ∧ ρ = [(0, .v (str l)), (1, .v (.int .i64 width)), (5, .v (.int .i64 s)), (11, .p 11 0)]) l.length ?_ ?_
    ·
      refine ⟨[(0, _), (1, _), (5, _), (11, _)], [(11, _)], ⟨rfl, rfl, rfl, rfl, trivial⟩, ⟨rfl, trivial⟩, 0, 0, by omega, by omega, by omega, by omega, by simp [fitOf, hpos], rfl, rfl, rfl, rfl⟩
    ·
      rintro m ρ σ u' μ ⟨p, s, hp, hm, hs0, hs1, hsum, rfl, rfl, rfl, rfl⟩
      refine wc_seq ?_
      refine wc_region ?_
      refine rl_next rfl rfl rfl ?_
      refine rl_y (y_nx0 rfl rfl) rfl ?_
      refine rl_end (ρ' := [(0, _), (1, _), (5, _), (11, _), (12, _), (13, _)]) ⟨rfl, rfl, rfl, rfl, rfl, rfl, trivial⟩ ?_
      refine q_then ?_
      refine wc_seq ?_
      refine wc_cond rfl (fun hb5 => ?_) (fun hb5 => ?_)
      ·
        have hlt : p < l.length := of_decide_eq_true hb5
        refine wc_skip ?_
        refine q_then ?_
        refine wc_block ?_
        refine wc_seq ?_
        obtain ⟨m, rfl⟩ : ∃ k, m = k + 1 := ⟨m - 1, by omega⟩
        have hw := wid_range (dec l p).1
        have hd := dec_pos l p hlt
        have hdr : -2147483648 ≤ (dec l p).1 ∧ (dec l p).1 ≤ 2147483647 := ⟨by
          have : 0 ≤ (dec l p).1 := Int.natCast_nonneg _
          omega, by
          have := decode_le ⟨l.toArray⟩ p
          simp only [dec]; omega⟩
        have hne : nxP l p = p + (dec l p).2 := by simp [nxP, hlt]
        simp only [fitF] at hsum
        rw [if_pos hlt] at hsum
        refine wc_region ?_
        refine rl_y (y_nx1 rfl rfl (by assumption)) rfl ?_
        refine rl_y (y_nx2 rfl rfl (by assumption)) rfl ?_
        refine rl_y (y_assign rfl rfl) rfl ?_
        refine rl_y (y_assign rfl rfl) rfl ?_
        refine rl_end (ρ' := [(0, _), (1, _), (5, _), (6, _), (7, _), (11, _)]) ⟨rfl, rfl, rfl, rfl, rfl, rfl, trivial⟩ ?_
        refine q_then ?_
        refine wc_seq ?_
        refine wc_region ?_
        refine rl_y (y_move rfl rfl) rfl ?_
        refine rl_y (y_move rfl rfl) rfl ?_
        refine rl_y (y_conv rfl Tryd.u21 Tryd.u3 rfl (wrap64_id (by omega))) rfl ?_
        refine rl_call_f (caps := []) rfl rfl Tryd.c8 rfl (FnP.mono (width_fn (dec l p).1 _ hT) ?_)
        rintro v u1 hle1 rfl
        refine rl_y (y_add rfl rfl rfl (wrap64_id (by omega))) rfl ?_
        refine rl_y (y_assign rfl rfl) rfl ?_
        refine rl_end (ρ' := [(0, _), (1, _), (5, _), (6, _), (11, _)]) ⟨rfl, rfl, rfl, rfl, rfl, trivial⟩ ?_
        refine q_then ?_
        refine wc_seq ?_
        refine wc_region ?_
        refine rl_y (y_move rfl rfl) rfl ?_
        refine rl_y (y_move rfl rfl) rfl ?_
        refine rl_y (y_gtr rfl rfl rfl) rfl ?_
        refine rl_end (ρ' := [(0, _), (1, _), (5, _), (6, _), (11, _), (23, _)]) ⟨rfl, rfl, rfl, rfl, rfl, rfl, trivial⟩ ?_
        refine q_then ?_
        refine wc_cond rfl (fun hb8 => ?_) (fun hb8 => ?_)
        ·
          have hover : width < s + wid (dec l p).1 := of_decide_eq_true hb8
          refine wc_seq ?_
          refine wc_region ?_
          refine rl_y (y_move rfl rfl) rfl ?_
          refine rl_y (y_assign rfl rfl) rfl ?_
          refine rl_end (ρ' := [(4, _)]) ⟨rfl, trivial⟩ ?_
          refine q_then ?_
          refine wc_ret ?_
          refine q_block_ret ?_
          refine q_then_ret ?_
          refine q_block_ret ?_
          refine q_then_ret ?_
          refine fin1 (.tmp rfl) ?_
          rw [if_pos hover] at hsum
          rw [← hsum]
        ·
          have hover : ¬ width < s + wid (dec l p).1 := of_decide_eq_false hb8
          refine wc_skip ?_
          refine q_block ?_
          refine q_thenK ?_
          rw [if_neg hover] at hsum
          refine ⟨m, [(0, _), (1, _), (5, _), (11, _)], [(11, _)], by omega, ⟨rfl, rfl, rfl, rfl, trivial⟩, ⟨by rw [hne]; rfl, trivial⟩, p + (dec l p).2, s + wid (dec l p).1, by omega, by omega, by omega, by omega, hsum, rfl, rfl, rfl, rfl⟩
      ·
        have hge : ¬ p < l.length := of_decide_eq_false hb5
        refine wc_exit ?_
        refine q_then_exit ?_
        refine q_then_exit ?_
        refine q_block_hit ?_
        refine q_then ?_
        refine wc_seq ?_
        refine wc_region ?_
        refine rl_y (y_move rfl rfl) rfl ?_
        refine rl_y (y_len_str rfl rfl Tryd.str9 rfl) rfl ?_
        refine rl_y (y_assign rfl rfl) rfl ?_
        refine rl_end (ρ' := [(4, _)]) ⟨rfl, trivial⟩ ?_
        refine q_then ?_
        refine wc_ret ?_
        refine fin1 (.tmp rfl) ?_
        have : fitF l width m p s = l.length := by
          cases m with
          | zero => rfl
          | succ m => simp only [fitF]; rw [if_neg hge]
        rw [← hsum, this]
end Go.Proofs.Ytceodelgalfjfaa
