/- Count: lists of numbers that are the same. -/
import Derived.Test.YthnboadnehbciaaDoorDocA
namespace Go.Proofs.Ythnboadnehbciaa
open Go Go.Eng
set_option linter.unusedSimpArgs false
set_option linter.unusedVariables false
set_option maxRecDepth 4000

theorem same_same (va vb : Value) (xs : List DNum) (hx : xs.length ≤ 1000000) (hl : ∀ x ∈ xs, x.line.length ≤ 1000000) (u : View) (ha : NumS u va xs) (hb : NumS u vb xs) :
    FnP Tryd.prog 11 [va, vb] u fun v _ => v = .bool true := by
  obtain ⟨cs1, ⟨ad, cap, rfl, h1⟩, hc1⟩ := ha
  obtain ⟨cs2, ⟨ad2, cap2, rfl, h2⟩, hc2⟩ := hb
  refine FnP.intro [.tmp 4] Tryd.func11 rfl rfl rfl ?_
  intro w0 D hw0
  refine wc_seq ?_
  refine wc_region ?_
  refine rl_y (y_assign rfl rfl) rfl ?_
  refine rl_end (ρ' := [(0, _), (1, _)]) ⟨rfl, rfl, trivial⟩ ?_
  refine q_then ?_
  refine wc_seq ?_
  refine wc_seq ?_
  refine wc_region ?_
  refine rl_y (y_move rfl rfl) rfl ?_
  refine rl_y (y_len_v rfl rfl Tryd.s29 rfl) rfl ?_
  refine rl_y (y_move rfl rfl) rfl ?_
  refine rl_y (y_len_v rfl rfl Tryd.s29 rfl) rfl ?_
  refine rl_y (y_neq_refl rfl rfl rfl) rfl ?_
  refine rl_end (ρ' := [(0, _), (1, _), (10, _)]) ⟨rfl, rfl, rfl, trivial⟩ ?_
  refine q_then ?_
  refine wc_cond_f rfl (rfl) ?_
  refine wc_skip ?_
  refine q_then ?_
  refine wc_seq ?_
  refine wc_seq ?_
  refine wc_region ?_
  refine rl_y (y_assign rfl rfl) rfl ?_
  refine rl_end (ρ' := [(0, _), (1, _), (5, _)]) ⟨rfl, rfl, rfl, trivial⟩ ?_
  refine q_then ?_
  refine wc_block ?_
  refine wc_loop (fun m ρ σ u' => ∃ i : Nat, i + m = xs.length ∧ VLe u u' ∧ σ = [] ∧ ρ = [(0, .v (.slice ad xs.length cap)), (1, .v (.slice ad2 xs.length cap2)), (5, .v (.int .i64 i))] ∧ (u = u')) (xs.length) ?_ ?_
  ·
    refine ⟨[(0, _), (1, _), (5, _)], [], ⟨rfl, rfl, rfl, trivial⟩, trivial, 0, by omega, VLe.refl _, (by first | rfl | simp), (by first | rfl | (simp only [List.cons.injEq, Prod.mk.injEq, SV.v.injEq, Value.int.injEq, true_and, and_true]; omega) | simp), ?_⟩
    rfl
  ·
    rintro m ρ σ u' ⟨i, hi4, hle4, rfl, rfl, rfl⟩
    refine wc_seq ?_
    refine wc_seq ?_
    refine wc_region ?_
    refine rl_y (y_move rfl rfl) rfl ?_
    refine rl_y (y_move rfl rfl) rfl ?_
    refine rl_y (y_len_v rfl rfl Tryd.s29 rfl) rfl ?_
    refine rl_y (y_lss rfl rfl rfl) rfl ?_
    refine rl_end (ρ' := [(0, _), (1, _), (5, _), (14, _)]) ⟨rfl, rfl, rfl, rfl, trivial⟩ ?_
    refine q_then ?_
    refine wc_cond rfl (fun hb4 => ?_) (fun hb4 => ?_)
    ·
      refine wc_skip ?_
      refine q_then ?_
      refine wc_seq ?_
      refine wc_block ?_
      refine wc_seq ?_
      have hlt : i < xs.length := by have := of_decide_eq_true hb4; omega
      obtain ⟨x, vl, hg, hcut1, s1⟩ := hc1.at hlt
      obtain ⟨vl2, hcut2, s2⟩ := hc2.get i _ hg
      have hxl := hl x (List.mem_of_getElem? hg)
      refine wc_draw Tryd.mixed rfl [] trivial ?_
      refine ra_y (i := 0) rfl (by kernel_rfl) (by kernel_rfl) (by kernel_rfl) (np_then (np_block (np_then (np_then (np_block (np_then (np_fin))))))) (y_move rfl rfl) rfl ?_
      refine ra_y (i := 1) rfl (by kernel_rfl) (by kernel_rfl) (by kernel_rfl) (np_then (np_block (np_then (np_then (np_block (np_then (np_fin))))))) (y_move rfl rfl) rfl ?_
      refine ra_y (i := 2) rfl (by kernel_rfl) (by kernel_rfl) (by kernel_rfl) (np_then (np_block (np_then (np_then (np_block (np_then (np_fin))))))) (y_index_e rfl Tryd.s29 rfl rfl (by assumption) (by first | rfl | omega) (by omega)) rfl ?_
      refine ra_y (i := 3) rfl (by kernel_rfl) (by kernel_rfl) (by kernel_rfl) (np_then (np_block (np_then (np_then (np_block (np_then (np_fin))))))) (y_field_e rfl Tryd.f38' rfl (by decide) rfl) rfl ?_
      refine ra_y (i := 4) rfl (by kernel_rfl) (by kernel_rfl) (by kernel_rfl) (np_then (np_block (np_then (np_then (np_block (np_then (np_fin))))))) (y_load_el rfl Tryd.k9 rfl (by assumption) (by omega) (by assumption) (vs := [_]) rfl rfl rfl rfl) rfl ?_
      refine ra_y (i := 5) rfl (by kernel_rfl) (by kernel_rfl) (by kernel_rfl) (np_then (np_block (np_then (np_then (np_block (np_then (np_fin))))))) (y_move rfl rfl) rfl ?_
      refine ra_y (i := 6) rfl (by kernel_rfl) (by kernel_rfl) (by kernel_rfl) (np_then (np_block (np_then (np_then (np_block (np_then (np_fin))))))) (y_move rfl rfl) rfl ?_
      refine ra_y (i := 7) rfl (by kernel_rfl) (by kernel_rfl) (by kernel_rfl) (np_then (np_block (np_then (np_then (np_block (np_then (np_fin))))))) (y_index_e rfl Tryd.s29 rfl rfl (by assumption) (by first | rfl | omega) (by omega)) rfl ?_
      refine ra_y (i := 8) rfl (by kernel_rfl) (by kernel_rfl) (by kernel_rfl) (np_then (np_block (np_then (np_then (np_block (np_then (np_fin))))))) (y_field_e rfl Tryd.f38' rfl (by decide) rfl) rfl ?_
      refine ra_y (i := 9) rfl (by kernel_rfl) (by kernel_rfl) (by kernel_rfl) (np_then (np_block (np_then (np_then (np_block (np_then (np_fin))))))) (y_load_el rfl Tryd.k9 rfl (by assumption) (by omega) (by assumption) (vs := [_]) rfl rfl rfl rfl) rfl ?_
      refine ra_y (i := 10) rfl (by kernel_rfl) (by kernel_rfl) (by kernel_rfl) (np_then (np_block (np_then (np_then (np_block (np_then (np_fin))))))) (y_str_neq_refl rfl rfl rfl) rfl ?_
      refine ra_y (i := 11) rfl (by kernel_rfl) (by kernel_rfl) (by kernel_rfl) (np_then (np_block (np_then (np_then (np_block (np_then (np_fin))))))) (y_move rfl rfl) rfl ?_
      refine ra_y_on (i := 12) rfl rfl rfl (by kernel_rfl) (by kernel_rfl) (by kernel_rfl) (np_then (np_block (np_then (np_then (np_block (np_then (np_fin))))))) (y_move rfl rfl) rfl ?_
      refine ra_y_on (i := 13) rfl rfl rfl (by kernel_rfl) (by kernel_rfl) (by kernel_rfl) (np_then (np_block (np_then (np_then (np_block (np_then (np_fin))))))) (y_move rfl rfl) rfl ?_
      refine ra_y_on (i := 14) rfl rfl rfl (by kernel_rfl) (by kernel_rfl) (by kernel_rfl) (np_then (np_block (np_then (np_then (np_block (np_then (np_fin))))))) (y_index_e rfl Tryd.s29 rfl rfl (by assumption) (by first | rfl | omega) (by omega)) rfl ?_
      refine ra_y_on (i := 15) rfl rfl rfl (by kernel_rfl) (by kernel_rfl) (by kernel_rfl) (np_then (np_block (np_then (np_then (np_block (np_then (np_fin))))))) (y_field_e rfl Tryd.f38' rfl (by decide) rfl) rfl ?_
      refine ra_y_on (i := 16) rfl rfl rfl (by kernel_rfl) (by kernel_rfl) (by kernel_rfl) (np_then (np_block (np_then (np_then (np_block (np_then (np_fin))))))) (y_load_el rfl Tryd.k9 rfl (by assumption) (by omega) (by assumption) (vs := [_]) rfl rfl rfl rfl) rfl ?_
      refine ra_y_on (i := 17) rfl rfl rfl (by kernel_rfl) (by kernel_rfl) (by kernel_rfl) (np_then (np_block (np_then (np_then (np_block (np_then (np_fin))))))) (y_move rfl rfl) rfl ?_
      refine ra_y_on (i := 18) rfl rfl rfl (by kernel_rfl) (by kernel_rfl) (by kernel_rfl) (np_then (np_block (np_then (np_then (np_block (np_then (np_fin))))))) (y_move rfl rfl) rfl ?_
      refine ra_y_on (i := 19) rfl rfl rfl (by kernel_rfl) (by kernel_rfl) (by kernel_rfl) (np_then (np_block (np_then (np_then (np_block (np_then (np_fin))))))) (y_index_e rfl Tryd.s29 rfl rfl (by assumption) (by first | rfl | omega) (by omega)) rfl ?_
      refine ra_y_on (i := 20) rfl rfl rfl (by kernel_rfl) (by kernel_rfl) (by kernel_rfl) (np_then (np_block (np_then (np_then (np_block (np_then (np_fin))))))) (y_field_e rfl Tryd.f38' rfl (by decide) rfl) rfl ?_
      refine ra_y_on (i := 21) rfl rfl rfl (by kernel_rfl) (by kernel_rfl) (by kernel_rfl) (np_then (np_block (np_then (np_then (np_block (np_then (np_fin))))))) (y_load_el rfl Tryd.k9 rfl (by assumption) (by omega) (by assumption) (vs := [_]) rfl rfl rfl rfl) rfl ?_
      refine ra_y_on (i := 22) rfl rfl rfl (by kernel_rfl) (by kernel_rfl) (by kernel_rfl) (np_then (np_block (np_then (np_then (np_block (np_then (np_fin))))))) (y_str_neq_refl rfl rfl rfl) rfl ?_
      refine ra_y (i := 23) rfl (by kernel_rfl) (by kernel_rfl) (by kernel_rfl) (np_then (np_block (np_then (np_then (np_block (np_then (np_fin))))))) (y_pick_f rfl rfl rfl) rfl ?_
      refine ra_y (i := 24) rfl (by kernel_rfl) (by kernel_rfl) (by kernel_rfl) (np_then (np_block (np_then (np_then (np_block (np_then (np_fin))))))) (y_move rfl rfl) rfl ?_
      refine ra_y_on (i := 25) rfl rfl rfl (by kernel_rfl) (by kernel_rfl) (by kernel_rfl) (np_then (np_block (np_then (np_then (np_block (np_then (np_fin))))))) (y_move rfl rfl) rfl ?_
      refine ra_y_on (i := 26) rfl rfl rfl (by kernel_rfl) (by kernel_rfl) (by kernel_rfl) (np_then (np_block (np_then (np_then (np_block (np_then (np_fin))))))) (y_move rfl rfl) rfl ?_
      refine ra_y_on (i := 27) rfl rfl rfl (by kernel_rfl) (by kernel_rfl) (by kernel_rfl) (np_then (np_block (np_then (np_then (np_block (np_then (np_fin))))))) (y_index_e rfl Tryd.s29 rfl rfl (by assumption) (by first | rfl | omega) (by omega)) rfl ?_
      refine ra_y_on (i := 28) rfl rfl rfl (by kernel_rfl) (by kernel_rfl) (by kernel_rfl) (np_then (np_block (np_then (np_then (np_block (np_then (np_fin))))))) (y_field_e rfl Tryd.f38' rfl (by decide) rfl) rfl ?_
      refine ra_y_on (i := 29) rfl rfl rfl (by kernel_rfl) (by kernel_rfl) (by kernel_rfl) (np_then (np_block (np_then (np_then (np_block (np_then (np_fin))))))) (y_load_el rfl Tryd.k9 rfl (by assumption) (by omega) (by assumption) (vs := [_]) rfl rfl rfl rfl) rfl ?_
      refine ra_y_on (i := 30) rfl rfl rfl (by kernel_rfl) (by kernel_rfl) (by kernel_rfl) (np_then (np_block (np_then (np_then (np_block (np_then (np_fin))))))) (y_move rfl rfl) rfl ?_
      refine ra_y_on (i := 31) rfl rfl rfl (by kernel_rfl) (by kernel_rfl) (by kernel_rfl) (np_then (np_block (np_then (np_then (np_block (np_then (np_fin))))))) (y_move rfl rfl) rfl ?_
      refine ra_y_on (i := 32) rfl rfl rfl (by kernel_rfl) (by kernel_rfl) (by kernel_rfl) (np_then (np_block (np_then (np_then (np_block (np_then (np_fin))))))) (y_index_e rfl Tryd.s29 rfl rfl (by assumption) (by first | rfl | omega) (by omega)) rfl ?_
      refine ra_y_on (i := 33) rfl rfl rfl (by kernel_rfl) (by kernel_rfl) (by kernel_rfl) (np_then (np_block (np_then (np_then (np_block (np_then (np_fin))))))) (y_field_e rfl Tryd.f38' rfl (by decide) rfl) rfl ?_
      refine ra_y_on (i := 34) rfl rfl rfl (by kernel_rfl) (by kernel_rfl) (by kernel_rfl) (np_then (np_block (np_then (np_then (np_block (np_then (np_fin))))))) (y_load_el rfl Tryd.k9 rfl (by assumption) (by omega) (by assumption) (vs := [_]) rfl rfl rfl rfl) rfl ?_
      refine ra_y_on (i := 35) rfl rfl rfl (by kernel_rfl) (by kernel_rfl) (by kernel_rfl) (np_then (np_block (np_then (np_then (np_block (np_then (np_fin))))))) (y_str_neq_refl rfl rfl rfl) rfl ?_
      refine ra_y (i := 36) rfl (by kernel_rfl) (by kernel_rfl) (by kernel_rfl) (np_then (np_block (np_then (np_then (np_block (np_then (np_fin))))))) (y_pick_f rfl rfl rfl) rfl ?_
      refine ra_y (i := 37) rfl (by kernel_rfl) (by kernel_rfl) (by kernel_rfl) (np_then (np_block (np_then (np_then (np_block (np_then (np_fin))))))) (y_move rfl rfl) rfl ?_
      refine ra_y_on (i := 38) rfl rfl rfl (by kernel_rfl) (by kernel_rfl) (by kernel_rfl) (np_then (np_block (np_then (np_then (np_block (np_then (np_fin))))))) (y_move rfl rfl) rfl ?_
      refine ra_y_on (i := 39) rfl rfl rfl (by kernel_rfl) (by kernel_rfl) (by kernel_rfl) (np_then (np_block (np_then (np_then (np_block (np_then (np_fin))))))) (y_move rfl rfl) rfl ?_
      refine ra_y_on (i := 40) rfl rfl rfl (by kernel_rfl) (by kernel_rfl) (by kernel_rfl) (np_then (np_block (np_then (np_then (np_block (np_then (np_fin))))))) (y_index_e rfl Tryd.s29 rfl rfl (by assumption) (by first | rfl | omega) (by omega)) rfl ?_
      refine ra_y_on (i := 41) rfl rfl rfl (by kernel_rfl) (by kernel_rfl) (by kernel_rfl) (np_then (np_block (np_then (np_then (np_block (np_then (np_fin))))))) (y_field_e rfl Tryd.f38' rfl (by decide) rfl) rfl ?_
      refine ra_y_on (i := 42) rfl rfl rfl (by kernel_rfl) (by kernel_rfl) (by kernel_rfl) (np_then (np_block (np_then (np_then (np_block (np_then (np_fin))))))) (y_load_el rfl Tryd.k36 rfl (by assumption) (by omega) (by assumption) (vs := [_]) rfl rfl rfl rfl) rfl ?_
      refine ra_y_on (i := 43) rfl rfl rfl (by kernel_rfl) (by kernel_rfl) (by kernel_rfl) (np_then (np_block (np_then (np_then (np_block (np_then (np_fin))))))) (y_move rfl rfl) rfl ?_
      refine ra_y_on (i := 44) rfl rfl rfl (by kernel_rfl) (by kernel_rfl) (by kernel_rfl) (np_then (np_block (np_then (np_then (np_block (np_then (np_fin))))))) (y_move rfl rfl) rfl ?_
      refine ra_y_on (i := 45) rfl rfl rfl (by kernel_rfl) (by kernel_rfl) (by kernel_rfl) (np_then (np_block (np_then (np_then (np_block (np_then (np_fin))))))) (y_index_e rfl Tryd.s29 rfl rfl (by assumption) (by first | rfl | omega) (by omega)) rfl ?_
      refine ra_y_on (i := 46) rfl rfl rfl (by kernel_rfl) (by kernel_rfl) (by kernel_rfl) (np_then (np_block (np_then (np_then (np_block (np_then (np_fin))))))) (y_field_e rfl Tryd.f38' rfl (by decide) rfl) rfl ?_
      refine ra_y_on (i := 47) rfl rfl rfl (by kernel_rfl) (by kernel_rfl) (by kernel_rfl) (np_then (np_block (np_then (np_then (np_block (np_then (np_fin))))))) (y_load_el rfl Tryd.k36 rfl (by assumption) (by omega) (by assumption) (vs := [_]) rfl rfl rfl rfl) rfl ?_
      refine ra_do_on (i := 48) rfl rfl rfl (by kernel_rfl) ?_
      refine do_call_f (caps := []) trivial rfl rfl Tryd.c26 rfl (FnP.mono (inl_same (by omega) s1 s2) ?_)
      rintro v u1 hle1 rfl
      refine ra_y_on (i := 49) rfl rfl rfl (by kernel_rfl) (by kernel_rfl) (by kernel_rfl) (np_then (np_block (np_then (np_then (np_block (np_then (np_fin))))))) (y_not rfl rfl) rfl ?_
      refine ra_y (i := 50) rfl (by kernel_rfl) (by kernel_rfl) (by kernel_rfl) (np_then (np_block (np_then (np_then (np_block (np_then (np_fin))))))) (y_pick_f rfl rfl rfl) rfl ?_
      refine ra_end (by kernel_rfl) (ρ' := [(0, _), (1, _), (5, _), (67, _)]) ⟨rfl, rfl, rfl, rfl, trivial⟩ ?_
      refine q_then ?_
      refine wc_cond_f rfl (rfl) ?_
      refine wc_skip ?_
      refine q_block ?_
      refine q_then ?_
      refine wc_region ?_
      refine rl_y (y_move rfl rfl) rfl ?_
      refine rl_y (y_add rfl rfl rfl (wrap64_id (by omega))) rfl ?_
      refine rl_y (y_assign rfl rfl) rfl ?_
      refine rl_end (ρ' := [(0, _), (1, _), (5, _)]) ⟨rfl, rfl, rfl, trivial⟩ ?_
      refine q_thenK ?_
      refine ⟨m - 1, [(0, _), (1, _), (5, _)], [], by omega, ⟨rfl, rfl, rfl, trivial⟩, trivial, i + 1, by omega, hle4, (by first | rfl | simp), (by first | rfl | (simp only [List.cons.injEq, Prod.mk.injEq, SV.v.injEq, Value.int.injEq, true_and, and_true]; omega) | simp), ?_⟩
      rfl
    ·
      refine wc_exit ?_
      refine q_then_exit ?_
      refine q_then_exit ?_
      refine q_block_hit ?_
      refine q_then ?_
      refine wc_seq ?_
      refine wc_region ?_
      refine rl_y (y_assign rfl rfl) rfl ?_
      refine rl_end (ρ' := [(4, _)]) ⟨rfl, trivial⟩ ?_
      refine q_then ?_
      refine wc_ret ?_
      refine fin1 (.tmp rfl) ?_
      rfl

/-- how much the texts of attributes are -/
def longN (a : DAttr) : Nat := a.id.length + (a.classes.map List.length).sum + (a.pairs.map fun p => p.1.length + p.2.length).sum
theorem sum_take {α : Type} (f : α → Nat) {xs : List α} {i : Nat} {x : α} (h : xs[i]? = some x) : ((xs.take (i + 1)).map f).sum = ((xs.take i).map f).sum + f x := by
  obtain ⟨hlt, rfl⟩ := List.getElem?_eq_some_iff.1 h
  rw [List.take_succ_eq_append_getElem hlt, List.map_append, List.sum_append]
  simp only [List.map_cons, List.map_nil, List.sum_cons, List.sum_nil, Nat.add_zero]
theorem sum_le {α : Type} (f : α → Nat) (B : Nat) : ∀ (xs : List α), (∀ x ∈ xs, f x ≤ B) → (xs.map f).sum ≤ xs.length * B
  | [], _ => by simp
  | x :: xs, h => by
    have := sum_le f B xs (fun y hy => h y (by simp [hy]))
    have := h x (by simp)
    simp only [List.map_cons, List.sum_cons, List.length_cons, Nat.add_mul]
    omega
theorem sum_take_le {α : Type} (f : α → Nat) (B : Nat) (xs : List α) (i : Nat) (h : ∀ x ∈ xs, f x ≤ B) : ((xs.take i).map f).sum ≤ xs.length * B := by
  refine Nat.le_trans (sum_le f B _ fun x hx => h x (List.mem_of_mem_take hx)) ?_
  exact Nat.mul_le_mul_right _ (by simp; omega)

theorem long_fn (a : DAttr) (vc vp : Value) (u : View) (hok : AttrOk a) (h1 : StrS u vc a.classes) (h2 : PrS u vp a.pairs) :
    FnP Tryd.prog 42 [.agg #[str a.id, vc, vp]] u fun v _ => v = .bool (decide (40 < a.classes.length ∨ 40 < a.pairs.length ∨ 600 < longN a)) := by
  obtain ⟨ad, cap, rfl, h1⟩ := h1
  obtain ⟨ad2, cap2, rfl, h2⟩ := h2
  obtain ⟨hid, ⟨hcl, hcs⟩, ⟨hpl, hps⟩⟩ := hok
  refine FnP.intro [.tmp 2] Tryd.func42 rfl rfl rfl ?_
  intro w0 D hw0
  refine wc_seq ?_
  refine wc_region ?_
  refine rl_do rfl rfl ?_
  refine do_box trivial rfl (cs := [_, _, _]) rfl rfl rfl rfl ?_
  refine rl_y (y_assign rfl rfl) rfl ?_
  refine rl_end (ρ' := [(1, _)]) ⟨rfl, trivial⟩ ?_
  refine q_then ?_
  refine wc_seq ?_
  refine wc_region ?_
  refine rl_y (y_field_p rfl Tryd.f40' rfl (by decide) rfl) rfl ?_
  refine rl_y (y_load_p rfl Tryd.k9 rfl rfl rfl (vs := [_]) rfl rfl rfl) rfl ?_
  refine rl_y (y_len_str rfl rfl Tryd.str9 rfl) rfl ?_
  refine rl_y (y_assign rfl rfl) rfl ?_
  refine rl_end (ρ' := [(1, _), (3, _)]) ⟨rfl, rfl, trivial⟩ ?_
  refine q_then ?_
  refine wc_seq ?_
  refine wc_seq ?_
  refine wc_cutB 18 ((decide (40 < a.classes.length ∨ 40 < a.pairs.length))) (ρk := [(1, _), (3, _)]) ⟨rfl, rfl, trivial⟩ ?_ ?_
  ·
    refine wc_region ?_
    refine rl_y (y_field_p rfl Tryd.f40' rfl (by decide) rfl) rfl ?_
    refine rl_y (y_load_p rfl Tryd.k32 rfl rfl rfl (vs := [_]) rfl rfl rfl) rfl ?_
    refine rl_y (y_len_v rfl rfl Tryd.s32 rfl) rfl ?_
    refine rl_y (y_gtr rfl rfl rfl) rfl ?_
    refine rl_y (y_move rfl rfl) rfl ?_
    rcases Bool.eq_false_or_eq_true (decide ((40 : Int) < a.classes.length)) with hg2_4 | hg2_4
    ·
      simp only [hg2_4]
      refine rl_off rfl rfl rfl rfl ?_
      refine rl_off rfl rfl rfl rfl ?_
      refine rl_off rfl rfl rfl rfl ?_
      refine rl_off rfl rfl rfl rfl ?_
      refine rl_y (y_pick_t rfl rfl rfl) rfl ?_
      exact cutB_end rfl ⟨rfl, rfl, trivial⟩ (by (first | refine (decide_eq_true ?_).symm | refine (decide_eq_false ?_).symm | refine decide_eq_decide.2 ?_ | refine decide_eq_true ?_ | refine decide_eq_false ?_) <;> (try unfold longN) <;> (try simp only [decide_eq_true_eq, decide_eq_false_iff_not] at *) <;> omega)
    ·
      simp only [hg2_4]
      refine rl_on rfl rfl ?_
      refine rl_y (y_field_p rfl Tryd.f40' rfl (by decide) rfl) rfl ?_
      refine rl_on rfl rfl ?_
      refine rl_y (y_load_p rfl Tryd.k22 rfl rfl rfl (vs := [_]) rfl rfl rfl) rfl ?_
      refine rl_on rfl rfl ?_
      refine rl_y (y_len_v rfl rfl Tryd.s22 rfl) rfl ?_
      refine rl_on rfl rfl ?_
      refine rl_y (y_gtr rfl rfl rfl) rfl ?_
      refine rl_y (y_pick_f rfl rfl rfl) rfl ?_
      exact cutB_end rfl ⟨rfl, rfl, trivial⟩ (by (first | refine (decide_eq_true ?_).symm | refine (decide_eq_false ?_).symm | refine decide_eq_decide.2 ?_ | refine decide_eq_true ?_ | refine decide_eq_false ?_) <;> (try unfold longN) <;> (try simp only [decide_eq_true_eq, decide_eq_false_iff_not] at *) <;> omega)
  refine q_then ?_
  refine wc_cond rfl (fun hb2 => ?_) (fun hb2 => ?_)
  ·
    refine wc_seq ?_
    refine wc_region ?_
    refine rl_y (y_assign rfl rfl) rfl ?_
    refine rl_end (ρ' := [(2, _)]) ⟨rfl, trivial⟩ ?_
    refine q_then ?_
    refine wc_ret ?_
    refine q_then_ret ?_
    refine fin1 (.tmp rfl) ?_
    have := of_decide_eq_true hb2
    rw [decide_eq_true]
    omega
  ·
    refine wc_skip ?_
    refine q_then ?_
    refine wc_seq ?_
    refine wc_seq ?_
    refine wc_region ?_
    refine rl_y (y_assign rfl rfl) rfl ?_
    refine rl_end (ρ' := [(1, _), (3, _), (4, _)]) ⟨rfl, rfl, rfl, trivial⟩ ?_
    refine q_then ?_
    refine wc_block ?_
    refine wc_loop (fun m ρ σ u' => ∃ i : Nat, i + m = a.classes.length ∧ VLe u u' ∧ σ = [(1, (none, .box [str a.id, .slice ad a.classes.length cap, .slice ad2 a.pairs.length cap2]))] ∧ ρ = [(1, .p 1 0), (3, .v (.int .i64 (a.id.length + ((a.classes.take i).map List.length).sum : Nat))), (4, .v (.int .i64 i))] ∧ (u = u')) (a.classes.length) ?_ ?_
    ·
      refine ⟨[(1, _), (3, _), (4, _)], [(1, _)], ⟨rfl, rfl, rfl, trivial⟩, ⟨rfl, trivial⟩, 0, by omega, VLe.refl _, (by first | rfl | simp), (by first | rfl | (simp only [List.cons.injEq, Prod.mk.injEq, SV.v.injEq, Value.int.injEq, true_and, and_true]; omega) | simp), ?_⟩
      rfl
    ·
      rintro m ρ σ u' ⟨i, hi5, hle5, rfl, rfl, rfl⟩
      refine wc_seq ?_
      refine wc_seq ?_
      refine wc_region ?_
      refine rl_y (y_move rfl rfl) rfl ?_
      refine rl_y (y_field_p rfl Tryd.f40' rfl (by decide) rfl) rfl ?_
      refine rl_y (y_load_p rfl Tryd.k32 rfl rfl rfl (vs := [_]) rfl rfl rfl) rfl ?_
      refine rl_y (y_len_v rfl rfl Tryd.s32 rfl) rfl ?_
      refine rl_y (y_lss rfl rfl rfl) rfl ?_
      refine rl_end (ρ' := [(1, _), (3, _), (4, _), (23, _)]) ⟨rfl, rfl, rfl, rfl, trivial⟩ ?_
      refine q_then ?_
      refine wc_cond rfl (fun hb5 => ?_) (fun hb5 => ?_)
      ·
        refine wc_skip ?_
        refine q_then ?_
        refine wc_seq ?_
        refine wc_block ?_
        have hlt : i < a.classes.length := by have := of_decide_eq_true hb5; omega
        have h40 := of_decide_eq_false hb2
        have hg := List.getElem?_eq_getElem hlt
        have hc := cut_strsC hg
        have hst := sum_take List.length hg
        have hb := sum_take_le List.length _ a.classes i hcs
        have hcb := hcs _ (List.mem_of_getElem? hg)
        refine wc_region ?_
        refine rl_y (y_move rfl rfl) rfl ?_
        refine rl_y (y_field_p rfl Tryd.f40' rfl (by decide) rfl) rfl ?_
        refine rl_y (y_load_p rfl Tryd.k32 rfl rfl rfl (vs := [_]) rfl rfl rfl) rfl ?_
        refine rl_y (y_move rfl rfl) rfl ?_
        refine rl_y (y_index_e rfl Tryd.s32 rfl rfl (by assumption) (by first | rfl | omega) (by omega)) rfl ?_
        refine rl_y (y_load_el rfl Tryd.k9 rfl (by assumption) (by omega) (by assumption) (vs := [_]) rfl rfl rfl rfl) rfl ?_
        refine rl_y (y_len_str rfl rfl Tryd.str9 rfl) rfl ?_
        refine rl_y (y_add rfl rfl rfl (wrap64_id (by omega))) rfl ?_
        refine rl_y (y_assign rfl rfl) rfl ?_
        refine rl_end (ρ' := [(1, _), (3, _), (4, _)]) ⟨rfl, rfl, rfl, trivial⟩ ?_
        refine q_block ?_
        refine q_then ?_
        refine wc_region ?_
        refine rl_y (y_move rfl rfl) rfl ?_
        refine rl_y (y_add rfl rfl rfl (wrap64_id (by omega))) rfl ?_
        refine rl_y (y_assign rfl rfl) rfl ?_
        refine rl_end (ρ' := [(1, _), (3, _), (4, _)]) ⟨rfl, rfl, rfl, trivial⟩ ?_
        refine q_thenK ?_
        refine ⟨m - 1, [(1, _), (3, _), (4, _)], [(1, _)], by omega, ⟨rfl, rfl, rfl, trivial⟩, ⟨rfl, trivial⟩, i + 1, by omega, hle5, (by first | rfl | simp), (by first | rfl | (simp only [List.cons.injEq, Prod.mk.injEq, SV.v.injEq, Value.int.injEq, true_and, and_true]; omega) | simp), ?_⟩
        rfl
      ·
        refine wc_exit ?_
        refine q_then_exit ?_
        refine q_then_exit ?_
        refine q_block_hit ?_
        refine q_then ?_
        refine wc_seq ?_
        refine wc_seq ?_
        refine wc_region ?_
        refine rl_y (y_assign rfl rfl) rfl ?_
        refine rl_end (ρ' := [(1, _), (3, _), (5, _)]) ⟨rfl, rfl, rfl, trivial⟩ ?_
        refine q_then ?_
        refine wc_block ?_
        refine wc_loop (fun m ρ σ u' => ∃ i : Nat, i + m = a.pairs.length ∧ VLe u u' ∧ σ = [(1, (none, .box [str a.id, .slice ad a.classes.length cap, .slice ad2 a.pairs.length cap2]))] ∧ ρ = [(1, .p 1 0), (3, .v (.int .i64 (a.id.length + (a.classes.map List.length).sum + ((a.pairs.take i).map fun p => p.1.length + p.2.length).sum : Nat))), (5, .v (.int .i64 i))] ∧ (u = u')) (a.pairs.length) ?_ ?_
        ·
          refine ⟨[(1, _), (3, _), (5, _)], [(1, _)], ⟨rfl, rfl, rfl, trivial⟩, ⟨rfl, trivial⟩, 0, by omega, VLe.refl _, rfl, (by have hge := of_decide_eq_false hb5; rw [List.take_of_length_le (l := a.classes) (by omega)]; simp), ?_⟩
          rfl
        ·
          rintro m ρ σ u' ⟨i, hi9, hle9, rfl, rfl, rfl⟩
          refine wc_seq ?_
          refine wc_seq ?_
          refine wc_region ?_
          refine rl_y (y_move rfl rfl) rfl ?_
          refine rl_y (y_field_p rfl Tryd.f40' rfl (by decide) rfl) rfl ?_
          refine rl_y (y_load_p rfl Tryd.k22 rfl rfl rfl (vs := [_]) rfl rfl rfl) rfl ?_
          refine rl_y (y_len_v rfl rfl Tryd.s22 rfl) rfl ?_
          refine rl_y (y_lss rfl rfl rfl) rfl ?_
          refine rl_end (ρ' := [(1, _), (3, _), (5, _), (38, _)]) ⟨rfl, rfl, rfl, rfl, trivial⟩ ?_
          refine q_then ?_
          refine wc_cond rfl (fun hb9 => ?_) (fun hb9 => ?_)
          ·
            refine wc_skip ?_
            refine q_then ?_
            refine wc_seq ?_
            refine wc_block ?_
            have hlt : i < a.pairs.length := by have := of_decide_eq_true hb9; omega
            have h40 := of_decide_eq_false hb2
            have hg := List.getElem?_eq_getElem hlt
            have hc := cut_pairsC hg
            have hst := sum_take (fun p : Bs × Bs => p.1.length + p.2.length) hg
            have hb := sum_take_le List.length _ a.classes a.classes.length hcs
            rw [List.take_of_length_le (Nat.le_refl _)] at hb
            have hb2' := sum_take_le (fun p : Bs × Bs => p.1.length + p.2.length) 281474976702464 a.pairs i (fun p hp => by have := hps p hp; omega)
            have hcb := hps _ (List.mem_of_getElem? hg)
            refine wc_draw Tryd.mixed rfl [(1, _)] ⟨rfl, trivial⟩ ?_
            refine ra_y (i := 0) rfl (by kernel_rfl) (by kernel_rfl) (by kernel_rfl) (np_block (np_then (np_then (np_block (np_then (np_fin)))))) (y_move rfl rfl) rfl ?_
            refine ra_y (i := 1) rfl (by kernel_rfl) (by kernel_rfl) (by kernel_rfl) (np_block (np_then (np_then (np_block (np_then (np_fin)))))) (y_field_p rfl Tryd.f40' rfl (by decide) rfl) rfl ?_
            refine ra_y (i := 2) rfl (by kernel_rfl) (by kernel_rfl) (by kernel_rfl) (np_block (np_then (np_then (np_block (np_then (np_fin)))))) (y_load_p rfl Tryd.k22 rfl rfl rfl (vs := [_]) rfl rfl rfl) rfl ?_
            refine ra_y (i := 3) rfl (by kernel_rfl) (by kernel_rfl) (by kernel_rfl) (np_block (np_then (np_then (np_block (np_then (np_fin)))))) (y_move rfl rfl) rfl ?_
            refine ra_y (i := 4) rfl (by kernel_rfl) (by kernel_rfl) (by kernel_rfl) (np_block (np_then (np_then (np_block (np_then (np_fin)))))) (y_index_e rfl Tryd.s22 rfl rfl (by assumption) (by first | rfl | omega) (by omega)) rfl ?_
            refine ra_y (i := 5) rfl (by kernel_rfl) (by kernel_rfl) (by kernel_rfl) (np_block (np_then (np_then (np_block (np_then (np_fin)))))) (y_field_e rfl Tryd.f53' rfl (by decide) rfl) rfl ?_
            refine ra_y (i := 6) rfl (by kernel_rfl) (by kernel_rfl) (by kernel_rfl) (np_block (np_then (np_then (np_block (np_then (np_fin)))))) (y_load_el rfl Tryd.k9 rfl (by assumption) (by omega) (by assumption) (vs := [_]) rfl rfl rfl rfl) rfl ?_
            refine ra_y (i := 7) rfl (by kernel_rfl) (by kernel_rfl) (by kernel_rfl) (np_block (np_then (np_then (np_block (np_then (np_fin)))))) (y_len_str rfl rfl Tryd.str9 rfl) rfl ?_
            refine ra_y (i := 8) rfl (by kernel_rfl) (by kernel_rfl) (by kernel_rfl) (np_block (np_then (np_then (np_block (np_then (np_fin)))))) (y_field_p rfl Tryd.f40' rfl (by decide) rfl) rfl ?_
            refine ra_y (i := 9) rfl (by kernel_rfl) (by kernel_rfl) (by kernel_rfl) (np_block (np_then (np_then (np_block (np_then (np_fin)))))) (y_load_p rfl Tryd.k22 rfl rfl rfl (vs := [_]) rfl rfl rfl) rfl ?_
            refine ra_y (i := 10) rfl (by kernel_rfl) (by kernel_rfl) (by kernel_rfl) (np_block (np_then (np_then (np_block (np_then (np_fin)))))) (y_move rfl rfl) rfl ?_
            refine ra_y (i := 11) rfl (by kernel_rfl) (by kernel_rfl) (by kernel_rfl) (np_block (np_then (np_then (np_block (np_then (np_fin)))))) (y_index_e rfl Tryd.s22 rfl rfl (by assumption) (by first | rfl | omega) (by omega)) rfl ?_
            refine ra_y (i := 12) rfl (by kernel_rfl) (by kernel_rfl) (by kernel_rfl) (np_block (np_then (np_then (np_block (np_then (np_fin)))))) (y_field_e rfl Tryd.f53' rfl (by decide) rfl) rfl ?_
            refine ra_y (i := 13) rfl (by kernel_rfl) (by kernel_rfl) (by kernel_rfl) (np_block (np_then (np_then (np_block (np_then (np_fin)))))) (y_load_el rfl Tryd.k9 rfl (by assumption) (by omega) (by assumption) (vs := [_]) rfl rfl rfl rfl) rfl ?_
            refine ra_y (i := 14) rfl (by kernel_rfl) (by kernel_rfl) (by kernel_rfl) (np_block (np_then (np_then (np_block (np_then (np_fin)))))) (y_len_str rfl rfl Tryd.str9 rfl) rfl ?_
            refine ra_y (i := 15) rfl (by kernel_rfl) (by kernel_rfl) (by kernel_rfl) (np_block (np_then (np_then (np_block (np_then (np_fin)))))) (y_add rfl rfl rfl (wrap64_id (by omega))) rfl ?_
            refine ra_y (i := 16) rfl (by kernel_rfl) (by kernel_rfl) (by kernel_rfl) (np_block (np_then (np_then (np_block (np_then (np_fin)))))) (y_add rfl rfl rfl (wrap64_id (by omega))) rfl ?_
            refine ra_y (i := 17) rfl (by kernel_rfl) (by kernel_rfl) (by kernel_rfl) (np_block (np_then (np_then (np_block (np_then (np_fin)))))) (y_assign rfl rfl) rfl ?_
            refine ra_end (by kernel_rfl) (ρ' := [(1, _), (3, _), (5, _)]) ⟨rfl, rfl, rfl, trivial⟩ ?_
            refine q_block ?_
            refine q_then ?_
            refine wc_region ?_
            refine rl_y (y_move rfl rfl) rfl ?_
            refine rl_y (y_add rfl rfl rfl (wrap64_id (by omega))) rfl ?_
            refine rl_y (y_assign rfl rfl) rfl ?_
            refine rl_end (ρ' := [(1, _), (3, _), (5, _)]) ⟨rfl, rfl, rfl, trivial⟩ ?_
            refine q_thenK ?_
            refine ⟨m - 1, [(1, _), (3, _), (5, _)], [(1, _)], by omega, ⟨rfl, rfl, rfl, trivial⟩, ⟨rfl, trivial⟩, i + 1, by omega, hle9, (by first | rfl | simp), (by first | rfl | (simp only [List.cons.injEq, Prod.mk.injEq, SV.v.injEq, Value.int.injEq, true_and, and_true]; omega) | simp), ?_⟩
            rfl
          ·
            refine wc_exit ?_
            refine q_then_exit ?_
            refine q_then_exit ?_
            refine q_block_hit ?_
            refine q_then ?_
            refine wc_seq ?_
            have h40 := of_decide_eq_false hb2
            have hge := of_decide_eq_false hb9
            have hfull : ((a.pairs.take i).map fun p => p.1.length + p.2.length) = (a.pairs.map fun p => p.1.length + p.2.length) := by rw [List.take_of_length_le (by omega)]
            rw [hfull]
            refine wc_region ?_
            refine rl_y (y_move rfl rfl) rfl ?_
            refine rl_y (y_gtr rfl rfl rfl) rfl ?_
            refine rl_y (y_assign rfl rfl) rfl ?_
            refine rl_end (ρ' := [(2, _)]) ⟨rfl, trivial⟩ ?_
            refine q_then ?_
            refine wc_ret ?_
            refine fin1 (.tmp rfl) ?_
            congr 1
            refine decide_eq_decide.2 ?_
            unfold longN
            omega
end Go.Proofs.Ythnboadnehbciaa
