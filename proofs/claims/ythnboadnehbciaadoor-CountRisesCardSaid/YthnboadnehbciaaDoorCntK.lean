/- Count: copies. -/
import Derived.Test.YthnboadnehbciaaDoorCntJ
namespace Go.Proofs.Ythnboadnehbciaa
open Go Go.Eng
set_option linter.unusedSimpArgs false
set_option linter.unusedVariables false
set_option maxRecDepth 4000

theorem smI_get : ∀ {xs : List Inl} {i : Nat} {x : Inl}, smI xs → xs[i]? = some x → smI1 x
  | [], i, x, _, h => by simp at h
  | y :: ys, 0, x, h, hi => by
    simp at hi; subst hi
    unfold smI at h; exact h.1
  | y :: ys, i + 1, x, h, hi => by
    unfold smI at h
    exact smI_get h.2 (by simpa using hi)
theorem smB_get : ∀ {xs : List Blk} {i : Nat} {x : Blk}, smB xs → xs[i]? = some x → smB1 x
  | [], i, x, _, h => by simp at h
  | y :: ys, 0, x, h, hi => by
    simp at hi; subst hi
    unfold smB at h; exact h.1
  | y :: ys, i + 1, x, h, hi => by
    unfold smB at h
    exact smB_get h.2 (by simpa using hi)

theorem cloneStr_fn (v : Value) (xs : List Bs) (hx : xs.length ≤ 1000000) (u : View) (ha : StrS u v xs) : FnP Tryd.prog 56 [v] u fun r u' => StrS u' r xs := by
  obtain ⟨ad, cap, rfl, h1⟩ := ha
  have oneAll := oneCell_strs xs
  have hlen := h1.1
  refine FnP.intro [.tmp 2] Tryd.func56 rfl rfl rfl ?_
  intro w0 D hw0
  refine wc_seq ?_
  refine wc_region ?_
  refine rl_y (y_assign rfl rfl) rfl ?_
  refine rl_end (ρ' := [(0, _)]) ⟨rfl, trivial⟩ ?_
  refine q_then ?_
  refine wc_seq ?_
  refine wc_seq ?_
  refine wc_region ?_
  refine rl_y (y_move rfl rfl) rfl ?_
  refine rl_y (y_eql_nil rfl Tryd.s32 rfl rfl) rfl ?_
  refine rl_end (ρ' := [(0, _), (4, _)]) ⟨rfl, rfl, trivial⟩ ?_
  refine q_then ?_
  refine wc_cond rfl (fun hb1 => ?_) (fun hb1 => ?_)
  ·
    refine wc_seq ?_
    refine wc_region ?_
    refine rl_y (y_assign rfl rfl) rfl ?_
    refine rl_end (ρ' := [(2, _)]) ⟨rfl, trivial⟩ ?_
    refine q_then ?_
    refine wc_ret ?_
    refine q_then_ret ?_
    refine fin1 (.tmp rfl) ?_
    have h := hb1
    have h0 : xs.length = 0 := by
      cases Nat.eq_zero_or_pos xs.length with
      | inl h => exact h
      | inr hp => obtain ⟨b, off, c, T, fr, rfl, _⟩ := h1.2.2.2 (by omega); cases h
    obtain rfl := List.eq_nil_of_length_eq_zero h0
    exact nilStr _
  ·
    refine wc_skip ?_
    refine q_then ?_
    refine wc_seq ?_
    refine wc_region ?_
    refine rl_do rfl rfl ?_
    refine do_buildSlice trivial Tryd.s32 Tryd.z9 (ps := []) rfl (xs := []) rfl rfl rfl rfl rfl rfl rfl ?_
    refine rl_y (y_move rfl rfl) rfl ?_
    refine rl_do rfl rfl ?_
    refine do_append_v trivial rfl rfl Tryd.s32 Tryd.z9 rfl rfl rfl rfl rfl (by assumption) (by first | rfl | exact oneAll | exact oneAll2 | simp [Value.oneCell', str]) (by omega) (by omega) (ρ' := []) trivial rfl rfl rfl ?_
    refine rl_freeze 7 rfl ?_
    intro ad7 cap7 u7 hle7z hsl7
    refine rl_y (y_assign rfl rfl) rfl ?_
    refine rl_end (ρ' := [(2, _)]) ⟨rfl, trivial⟩ ?_
    refine q_then ?_
    refine wc_ret ?_
    refine fin1 (.tmp rfl) ?_
    exact strS_of (by simp) hsl7
theorem clonePr_fn (v : Value) (xs : List (Bs × Bs)) (hx : xs.length ≤ 1000000) (u : View) (ha : PrS u v xs) : FnP Tryd.prog 66 [v] u fun r u' => PrS u' r xs := by
  obtain ⟨ad, cap, rfl, h1⟩ := ha
  have oneAll := oneCell_pairs xs
  refine FnP.intro [.tmp 2] Tryd.func66 rfl rfl rfl ?_
  intro w0 D hw0
  refine wc_seq ?_
  refine wc_region ?_
  refine rl_y (y_assign rfl rfl) rfl ?_
  refine rl_end (ρ' := [(0, _)]) ⟨rfl, trivial⟩ ?_
  refine q_then ?_
  refine wc_seq ?_
  refine wc_seq ?_
  refine wc_region ?_
  refine rl_y (y_move rfl rfl) rfl ?_
  refine rl_y (y_eql_nil rfl Tryd.s22 rfl rfl) rfl ?_
  refine rl_end (ρ' := [(0, _), (4, _)]) ⟨rfl, rfl, trivial⟩ ?_
  refine q_then ?_
  refine wc_cond rfl (fun hb1 => ?_) (fun hb1 => ?_)
  ·
    refine wc_seq ?_
    refine wc_region ?_
    refine rl_y (y_assign rfl rfl) rfl ?_
    refine rl_end (ρ' := [(2, _)]) ⟨rfl, trivial⟩ ?_
    refine q_then ?_
    refine wc_ret ?_
    refine q_then_ret ?_
    refine fin1 (.tmp rfl) ?_
    have h := hb1
    have h0 : xs.length = 0 := by
      cases Nat.eq_zero_or_pos xs.length with
      | inl h => exact h
      | inr hp => obtain ⟨b, off, c, T, fr, rfl, _⟩ := h1.2.2.2 (by omega); cases h
    obtain rfl := List.eq_nil_of_length_eq_zero h0
    exact nilPr _
  ·
    refine wc_skip ?_
    refine q_then ?_
    refine wc_seq ?_
    refine wc_region ?_
    refine rl_do rfl rfl ?_
    refine do_buildSlice trivial Tryd.s22 Tryd.z53 (ps := []) rfl (xs := []) rfl rfl rfl rfl rfl rfl rfl ?_
    refine rl_y (y_move rfl rfl) rfl ?_
    refine rl_do rfl rfl ?_
    refine do_append_v trivial rfl rfl Tryd.s22 Tryd.z53 rfl rfl rfl rfl rfl (by assumption) (by first | rfl | exact oneAll | exact oneAll2 | simp [Value.oneCell', str]) (by omega) (by omega) (ρ' := []) trivial rfl rfl rfl ?_
    refine rl_freeze 7 rfl ?_
    intro ad7 cap7 u7 hle7z hsl7
    refine rl_y (y_assign rfl rfl) rfl ?_
    refine rl_end (ρ' := [(2, _)]) ⟨rfl, trivial⟩ ?_
    refine q_then ?_
    refine wc_ret ?_
    refine fin1 (.tmp rfl) ?_
    rw [Nat.zero_add] at hsl7 ⊢
    exact ⟨_, _, rfl, hsl7⟩
theorem cloneCi_fn (v : Value) (xs : List DCite) (hx : xs.length ≤ 1000000) (u : View) (ha : CiS u v xs) : FnP Tryd.prog 57 [v] u fun r u' => CiS u' r xs := by
  obtain ⟨ad, cap, rfl, h1⟩ := ha
  have oneAll := oneCell_cites xs
  refine FnP.intro [.tmp 2] Tryd.func57 rfl rfl rfl ?_
  intro w0 D hw0
  refine wc_seq ?_
  refine wc_region ?_
  refine rl_y (y_assign rfl rfl) rfl ?_
  refine rl_end (ρ' := [(0, _)]) ⟨rfl, trivial⟩ ?_
  refine q_then ?_
  refine wc_seq ?_
  refine wc_seq ?_
  refine wc_region ?_
  refine rl_y (y_move rfl rfl) rfl ?_
  refine rl_y (y_eql_nil rfl Tryd.s55 rfl rfl) rfl ?_
  refine rl_end (ρ' := [(0, _), (4, _)]) ⟨rfl, rfl, trivial⟩ ?_
  refine q_then ?_
  refine wc_cond rfl (fun hb1 => ?_) (fun hb1 => ?_)
  ·
    refine wc_seq ?_
    refine wc_region ?_
    refine rl_y (y_assign rfl rfl) rfl ?_
    refine rl_end (ρ' := [(2, _)]) ⟨rfl, trivial⟩ ?_
    refine q_then ?_
    refine wc_ret ?_
    refine q_then_ret ?_
    refine fin1 (.tmp rfl) ?_
    have h := hb1
    have h0 : xs.length = 0 := by
      cases Nat.eq_zero_or_pos xs.length with
      | inl h => exact h
      | inr hp => obtain ⟨b, off, c, T, fr, rfl, _⟩ := h1.2.2.2 (by omega); cases h
    obtain rfl := List.eq_nil_of_length_eq_zero h0
    exact nilCi _
  ·
    refine wc_skip ?_
    refine q_then ?_
    refine wc_seq ?_
    refine wc_region ?_
    refine rl_do rfl rfl ?_
    refine do_buildSlice trivial Tryd.s55 Tryd.z84 (ps := []) rfl (xs := []) rfl rfl rfl rfl rfl rfl rfl ?_
    refine rl_y (y_move rfl rfl) rfl ?_
    refine rl_do rfl rfl ?_
    refine do_append_v trivial rfl rfl Tryd.s55 Tryd.z84 rfl rfl rfl rfl rfl (by assumption) (by first | rfl | exact oneAll | exact oneAll2 | simp [Value.oneCell', str]) (by omega) (by omega) (ρ' := []) trivial rfl rfl rfl ?_
    refine rl_freeze 7 rfl ?_
    intro ad7 cap7 u7 hle7z hsl7
    refine rl_y (y_assign rfl rfl) rfl ?_
    refine rl_end (ρ' := [(2, _)]) ⟨rfl, trivial⟩ ?_
    refine q_then ?_
    refine wc_ret ?_
    refine fin1 (.tmp rfl) ?_
    rw [Nat.zero_add] at hsl7 ⊢
    exact ⟨_, _, rfl, hsl7⟩
theorem copyAttr_fn (a : DAttr) (vc vp : Value) (u : View) (hc : a.classes.length ≤ 1000000) (hp : a.pairs.length ≤ 1000000) (h1 : StrS u vc a.classes) (h2 : PrS u vp a.pairs) :
    FnP Tryd.prog 55 [.agg #[str a.id, vc, vp]] u fun r u' => ∃ vc' vp', r = .agg #[str a.id, vc', vp'] ∧ StrS u' vc' a.classes ∧ PrS u' vp' a.pairs := by
  obtain ⟨ad, cap, rfl, h1⟩ := h1
  obtain ⟨ad2, cap2, rfl, h2⟩ := h2
  refine FnP.intro [.cell 2 40] Tryd.func55 rfl rfl rfl ?_
  intro w0 D hw0
  refine wc_seq ?_
  refine wc_region ?_
  refine rl_do rfl rfl ?_
  refine do_box trivial rfl (cs := [_, _, _]) rfl rfl rfl rfl ?_
  refine rl_do rfl rfl ?_
  refine do_alloc trivial Tryd.z40 rfl rfl rfl ?_
  refine rl_end (ρ' := [(1, _), (2, _)]) ⟨rfl, rfl, trivial⟩ ?_
  refine q_then ?_
  refine wc_seq ?_
  refine wc_region ?_
  refine rl_y (y_field_p rfl Tryd.f40' rfl (by decide) rfl) rfl ?_
  refine rl_y (y_load_p rfl Tryd.k32 rfl rfl rfl (vs := [_]) rfl rfl rfl) rfl ?_
  refine rl_do rfl rfl ?_
  refine do_call (caps := []) trivial rfl rfl Tryd.c56 rfl (FnP.mono (cloneStr_fn _ a.classes hc u ⟨_, _, rfl, h1⟩) ?_)
  rintro v uA hle0 ⟨ad3, cap3, rfl, h3⟩ hleA
  refine rl_y (y_field_p rfl Tryd.f40' rfl (by decide) rfl) rfl ?_
  refine rl_do rfl rfl ?_
  refine do_store_p trivial rfl Tryd.k32 rfl rfl rfl (vs := [_]) rfl rfl (by first | rfl | exact oneAll | exact oneAll2 | simp [Value.oneCell', str]) (Nat.le_of_ble_eq_true rfl) rfl ?_
  refine rl_end (ρ' := [(1, _), (2, _)]) ⟨rfl, rfl, trivial⟩ ?_
  refine q_then ?_
  refine wc_seq ?_
  refine wc_region ?_
  refine rl_y (y_field_p rfl Tryd.f40' rfl (by decide) rfl) rfl ?_
  refine rl_y (y_load_p rfl Tryd.k22 rfl rfl rfl (vs := [_]) rfl rfl rfl) rfl ?_
  refine rl_do rfl rfl ?_
  refine do_call (caps := []) trivial rfl rfl Tryd.c66 rfl (FnP.mono (clonePr_fn _ a.pairs hp uA ⟨_, _, rfl, h2.mono hleA⟩) ?_)
  rintro v uB hle0 ⟨ad4, cap4, rfl, h4⟩ hleB
  refine rl_y (y_field_p rfl Tryd.f40' rfl (by decide) rfl) rfl ?_
  refine rl_do rfl rfl ?_
  refine do_store_p trivial rfl Tryd.k22 rfl rfl rfl (vs := [_]) rfl rfl (by first | rfl | exact oneAll | exact oneAll2 | simp [Value.oneCell', str]) (Nat.le_of_ble_eq_true rfl) rfl ?_
  refine rl_end (ρ' := [(1, _), (2, _)]) ⟨rfl, rfl, trivial⟩ ?_
  refine q_then ?_
  refine wc_seq ?_
  refine wc_region ?_
  refine rl_y (y_load_p rfl Tryd.k40 rfl rfl rfl (vs := [_, _, _]) rfl rfl rfl) rfl ?_
  refine rl_do rfl rfl ?_
  refine do_store_p trivial rfl Tryd.k40 rfl rfl rfl (vs := [_, _, _]) rfl rfl (by first | rfl | exact oneAll | exact oneAll2 | simp [Value.oneCell', str]) (Nat.le_of_ble_eq_true rfl) rfl ?_
  refine rl_end (ρ' := [(2, _)]) ⟨rfl, trivial⟩ ?_
  refine q_then ?_
  refine wc_ret ?_
  refine fin1 (.cell rfl rfl Tryd.k40 (cs := _) (vs := [_, _, _]) rfl rfl rfl) ?_
  exact ⟨_, _, rfl, ⟨_, _, rfl, h3.mono hleB⟩, ⟨_, _, rfl, h4⟩⟩

theorem copyLine_fn (n : Nat) : ∀ (v : Value) (xs : List Inl) (u : View), szI xs ≤ n → szI xs ≤ 100000 → smI xs → InlS u v xs →
    FnP Tryd.prog 32 [v] u fun r u' => InlS u' r xs := by
  induction n using Nat.strongRecOn with
  | _ n ih =>
  intro v xs u hsz hbig hsm ha
  have hlx := len_szI xs
  obtain ⟨cs, ⟨ad, cap, rfl, h1⟩, hc1⟩ := ha
  refine FnP.intro [.tmp 2] Tryd.func32 rfl rfl rfl ?_
  intro w0 D hw0
  refine wc_seq ?_
  refine wc_region ?_
  refine rl_y (y_assign rfl rfl) rfl ?_
  refine rl_end (ρ' := [(0, _)]) ⟨rfl, trivial⟩ ?_
  refine q_then ?_
  refine wc_seq ?_
  refine wc_region ?_
  refine rl_y (y_assign rfl rfl) rfl ?_
  refine rl_own_nil 3 503 57 10 rfl rfl rfl ?_
  refine rl_end (ρ' := [(0, _), (3, _)]) ⟨rfl, rfl, trivial⟩ ?_
  refine q_then ?_
  refine wc_seq ?_
  refine wc_seq ?_
  refine wc_region ?_
  refine rl_y (y_move rfl rfl) rfl ?_
  refine rl_y (y_len_v rfl rfl Tryd.s36 rfl) rfl ?_
  refine rl_y (y_move rfl rfl) rfl ?_
  refine rl_end (ρ' := [(3, _), (6, _), (7, _), (8, _)]) ⟨rfl, rfl, rfl, rfl, trivial⟩ ?_
  refine q_then ?_
  refine wc_block ?_
  refine wc_loop (fun m ρ σ u' => ∃ i : Nat, i + m = xs.length ∧ VLe u u' ∧ ∃ (acc : List Value), σ = [(503, (none, .row 57 10 i acc))] ∧ ρ = [(3, .s 503), (6, .v (.slice ad xs.length cap)), (7, .v (.int .i64 xs.length)), (8, .v (.int .i64 i))] ∧ (InlsC u' (xs.take i) acc)) (xs.length) ?_ ?_
  ·
    refine ⟨[(3, _), (6, _), (7, _), (8, _)], [(503, _)], ⟨rfl, rfl, rfl, rfl, trivial⟩, ⟨rfl, trivial⟩, 0, by omega, VLe.refl _, [], (by first | rfl | simp), (by first | rfl | (simp only [List.cons.injEq, Prod.mk.injEq, SV.v.injEq, Value.int.injEq, true_and, and_true]; omega) | simp), ?_⟩
    exact InlsC.nil
  ·
    rintro m ρ σ u' ⟨i, hi3, hle3, acc, rfl, rfl, hacc⟩
    refine wc_seq ?_
    refine wc_region ?_
    refine rl_y (y_lss rfl rfl rfl) rfl ?_
    refine rl_end (ρ' := [(3, _), (6, _), (7, _), (8, _), (9, _)]) ⟨rfl, rfl, rfl, rfl, rfl, trivial⟩ ?_
    refine q_then ?_
    refine wc_seq ?_
    refine wc_cond rfl (fun hb3 => ?_) (fun hb3 => ?_)
    ·
      refine wc_skip ?_
      refine q_then ?_
      refine wc_seq ?_
      refine wc_block ?_
      refine wc_seq ?_
      have hlt : i < xs.length := by have := of_decide_eq_true hb3; omega
      have h1 := h1.mono hle3
      obtain ⟨k, t, d, ti, a, args, cites, kids, vc, vp, va, vt, vk, hg, hcut1, s1, s2, s3, s4, s5, hok⟩ := (hc1.mono hle3).at hlt
      have oneAll := ((hc1.mono hle3).get i _ hg).one
      rw [hcut1] at oneAll
      have hsm1 := smI_get hsm hg
      unfold smI1 at hsm1
      obtain ⟨⟨n1, n2, n3, n4, n5, n6, n7, n8⟩, hsmk⟩ := hsm1
      have hszk := szI_kids hg
      have t1 := s1
      have t2 := s2
      have t3 := s3
      have t4 := s4
      obtain ⟨ad1, cap1, rfl, s1⟩ := s1
      obtain ⟨ad2, cap2, rfl, s2⟩ := s2
      obtain ⟨ad3, cap3, rfl, s3⟩ := s3
      obtain ⟨ad4, cap4, rfl, s4⟩ := s4
      refine wc_region ?_
      refine rl_y (y_index_e rfl Tryd.s36 rfl rfl (by assumption) (by first | rfl | omega) (by omega)) rfl ?_
      refine rl_y (y_load_el rfl Tryd.k57 rfl (by assumption) (by omega) (by assumption) (vs := [_, _, _, _, _, _, _, _, _, _]) rfl rfl rfl rfl) rfl ?_
      refine rl_do rfl rfl ?_
      refine do_alloc trivial Tryd.z57 rfl rfl rfl ?_
      refine rl_do rfl rfl ?_
      refine do_store_p trivial rfl Tryd.k57 rfl rfl rfl (vs := [_, _, _, _, _, _, _, _, _, _]) rfl rfl (by first | rfl | exact oneAll | exact oneAll2 | simp [Value.oneCell', str]) (Nat.le_of_ble_eq_true rfl) rfl ?_
      refine rl_end (ρ' := [(3, _), (5, _), (6, _), (7, _), (8, _)]) ⟨rfl, rfl, rfl, rfl, rfl, trivial⟩ ?_
      refine q_then ?_
      refine wc_seq ?_
      refine wc_region ?_
      refine rl_y (y_field_p rfl Tryd.f57' rfl (by decide) rfl) rfl ?_
      refine rl_y (y_field_p rfl Tryd.f40' rfl (by decide) rfl) rfl ?_
      refine rl_y (y_load_p rfl Tryd.k32 rfl rfl rfl (vs := [_]) rfl rfl rfl) rfl ?_
      refine rl_do rfl rfl ?_
      refine do_append_nil_v trivial rfl Tryd.s32 Tryd.z9 rfl rfl rfl rfl (by assumption) (oneCell_strs _) (by omega) (by omega) rfl rfl rfl ?_
      refine rl_freeze 15 rfl ?_
      intro ad15 cap15 u15 hle15z hsl15
      refine rl_y (y_field_p rfl Tryd.f57' rfl (by decide) rfl) rfl ?_
      refine rl_y (y_field_p rfl Tryd.f40' rfl (by decide) rfl) rfl ?_
      refine rl_do rfl rfl ?_
      refine do_store_p trivial rfl Tryd.k32 rfl rfl rfl (vs := [_]) rfl rfl (by first | rfl | exact oneAll | exact oneAll2 | simp [Value.oneCell', str]) (Nat.le_of_ble_eq_true rfl) rfl ?_
      refine rl_end (ρ' := [(3, _), (5, _), (6, _), (7, _), (8, _)]) ⟨rfl, rfl, rfl, rfl, rfl, trivial⟩ ?_
      refine q_then ?_
      refine wc_seq ?_
      have s2 := s2.mono hle15z
      refine wc_region ?_
      refine rl_y (y_field_p rfl Tryd.f57' rfl (by decide) rfl) rfl ?_
      refine rl_y (y_field_p rfl Tryd.f40' rfl (by decide) rfl) rfl ?_
      refine rl_y (y_load_p rfl Tryd.k22 rfl rfl rfl (vs := [_]) rfl rfl rfl) rfl ?_
      refine rl_do rfl rfl ?_
      refine do_append_nil_v trivial rfl Tryd.s22 Tryd.z53 rfl rfl rfl rfl (by assumption) (oneCell_pairs _) (by omega) (by omega) rfl rfl rfl ?_
      refine rl_freeze 21 rfl ?_
      intro ad21 cap21 u21 hle21z hsl21
      refine rl_y (y_field_p rfl Tryd.f57' rfl (by decide) rfl) rfl ?_
      refine rl_y (y_field_p rfl Tryd.f40' rfl (by decide) rfl) rfl ?_
      refine rl_do rfl rfl ?_
      refine do_store_p trivial rfl Tryd.k22 rfl rfl rfl (vs := [_]) rfl rfl (by first | rfl | exact oneAll | exact oneAll2 | simp [Value.oneCell', str]) (Nat.le_of_ble_eq_true rfl) rfl ?_
      refine rl_end (ρ' := [(3, _), (5, _), (6, _), (7, _), (8, _)]) ⟨rfl, rfl, rfl, rfl, rfl, trivial⟩ ?_
      refine q_then ?_
      refine wc_seq ?_
      have s3 := (s3.mono hle15z).mono hle21z
      refine wc_region ?_
      refine rl_y (y_field_p rfl Tryd.f57' rfl (by decide) rfl) rfl ?_
      refine rl_y (y_load_p rfl Tryd.k32 rfl rfl rfl (vs := [_]) rfl rfl rfl) rfl ?_
      refine rl_do rfl rfl ?_
      refine do_append_nil_v trivial rfl Tryd.s32 Tryd.z9 rfl rfl rfl rfl (by assumption) (oneCell_strs _) (by omega) (by omega) rfl rfl rfl ?_
      refine rl_freeze 26 rfl ?_
      intro ad26 cap26 u26 hle26z hsl26
      refine rl_y (y_field_p rfl Tryd.f57' rfl (by decide) rfl) rfl ?_
      refine rl_do rfl rfl ?_
      refine do_store_p trivial rfl Tryd.k32 rfl rfl rfl (vs := [_]) rfl rfl (by first | rfl | exact oneAll | exact oneAll2 | simp [Value.oneCell', str]) (Nat.le_of_ble_eq_true rfl) rfl ?_
      refine rl_end (ρ' := [(3, _), (5, _), (6, _), (7, _), (8, _)]) ⟨rfl, rfl, rfl, rfl, rfl, trivial⟩ ?_
      refine q_then ?_
      refine wc_seq ?_
      have s4 := ((s4.mono hle15z).mono hle21z).mono hle26z
      refine wc_region ?_
      refine rl_y (y_field_p rfl Tryd.f57' rfl (by decide) rfl) rfl ?_
      refine rl_y (y_load_p rfl Tryd.k55 rfl rfl rfl (vs := [_]) rfl rfl rfl) rfl ?_
      refine rl_do rfl rfl ?_
      refine do_append_nil_v trivial rfl Tryd.s55 Tryd.z84 rfl rfl rfl rfl (by assumption) (oneCell_cites _) (by omega) (by omega) rfl rfl rfl ?_
      refine rl_freeze 30 rfl ?_
      intro ad30 cap30 u30 hle30z hsl30
      refine rl_y (y_field_p rfl Tryd.f57' rfl (by decide) rfl) rfl ?_
      refine rl_do rfl rfl ?_
      refine do_store_p trivial rfl Tryd.k55 rfl rfl rfl (vs := [_]) rfl rfl (by first | rfl | exact oneAll | exact oneAll2 | simp [Value.oneCell', str]) (Nat.le_of_ble_eq_true rfl) rfl ?_
      refine rl_end (ρ' := [(3, _), (5, _), (6, _), (7, _), (8, _)]) ⟨rfl, rfl, rfl, rfl, rfl, trivial⟩ ?_
      refine q_then ?_
      refine wc_seq ?_
      refine wc_region ?_
      refine rl_y (y_field_p rfl Tryd.f57' rfl (by decide) rfl) rfl ?_
      refine rl_y (y_load_p rfl Tryd.k36 rfl rfl rfl (vs := [_]) rfl rfl rfl) rfl ?_
      refine rl_do rfl rfl ?_
      refine do_call (caps := []) trivial rfl rfl Tryd.c32 rfl (FnP.mono (ih (szI kids) (by omega) vk kids u30 (Nat.le_refl _) (by omega) hsmk ((((s5.mono hle15z).mono hle21z).mono hle26z).mono hle30z)) ?_)
      rintro v uK hle0 ⟨kcs, ⟨kad, kcap, rfl, hk1⟩, hk2⟩ hleK
      refine rl_y (y_field_p rfl Tryd.f57' rfl (by decide) rfl) rfl ?_
      refine rl_do rfl rfl ?_
      refine do_store_p trivial rfl Tryd.k36 rfl rfl rfl (vs := [_]) rfl rfl (by first | rfl | exact oneAll | exact oneAll2 | simp [Value.oneCell', str]) (Nat.le_of_ble_eq_true rfl) rfl ?_
      refine rl_end (ρ' := [(3, _), (5, _), (6, _), (7, _), (8, _)]) ⟨rfl, rfl, rfl, rfl, rfl, trivial⟩ ?_
      refine q_then ?_
      refine wc_region ?_
      refine rl_y (y_move rfl rfl) rfl ?_
      refine rl_y (y_load_p rfl Tryd.k57 rfl rfl rfl (vs := [_, _, _, _, _, _, _, _, _, _]) rfl rfl rfl) rfl ?_
      refine rl_do rfl rfl ?_
      refine do_buildSlice trivial Tryd.s36 Tryd.z57 (ps := [(_, _)]) rfl (xs := [_, _, _, _, _, _, _, _, _, _]) rfl rfl rfl rfl rfl rfl rfl ?_
      refine rl_do rfl rfl ?_
      refine do_append_s trivial rfl rfl Tryd.s36 Tryd.z57 rfl rfl rfl rfl rfl rfl (by first | rfl | exact oneAll | exact oneAll2 | simp [Value.oneCell', str]) (by omega) (by omega) (ρ' := [(6, _), (7, _), (8, _)]) ⟨rfl, rfl, rfl, trivial⟩ rfl rfl rfl ?_
      refine rl_y (y_assign rfl rfl) rfl ?_
      refine rl_ren 39 503 rfl rfl rfl ?_
      refine rl_end (ρ' := [(3, _), (6, _), (7, _), (8, _)]) ⟨rfl, rfl, rfl, rfl, trivial⟩ ?_
      refine q_block ?_
      refine q_then ?_
      refine wc_region ?_
      refine rl_y (y_add rfl rfl rfl (wrap64_id (by omega))) rfl ?_
      refine rl_y (y_move rfl rfl) rfl ?_
      refine rl_end (ρ' := [(3, _), (6, _), (7, _), (8, _)]) ⟨rfl, rfl, rfl, rfl, trivial⟩ ?_
      refine q_thenK ?_
      refine ⟨m - 1, [(3, _), (6, _), (7, _), (8, _)], [(503, _)], by omega, ⟨rfl, rfl, rfl, rfl, trivial⟩, ⟨rfl, trivial⟩, i + 1, by omega, (hle3.trans (hle15z.trans (hle21z.trans (hle26z.trans (hle30z.trans hleK))))), _, rfl, (by first | rfl | simp), ?_⟩
      rw [List.take_succ_eq_append_getElem hlt, (List.getElem?_eq_some_iff.1 hg).2]
      refine (hacc.mono (hle15z.trans (hle21z.trans (hle26z.trans (hle30z.trans hleK))))).append (InlsC.one ?_)
      exact InlC.mk' ⟨_, _, rfl, (((hsl15.mono hle21z).mono hle26z).mono hle30z).mono hleK⟩ ⟨_, _, rfl, ((hsl21.mono hle26z).mono hle30z).mono hleK⟩ ⟨_, _, rfl, (hsl26.mono hle30z).mono hleK⟩ ⟨_, _, rfl, hsl30.mono hleK⟩ ⟨kcs, ⟨kad, kcap, rfl, hk1⟩, hk2⟩ hok
    ·
      refine wc_exit ?_
      refine q_then_exit ?_
      refine q_then_exit ?_
      refine q_block_hit ?_
      refine q_then ?_
      refine wc_seq ?_
      refine wc_region ?_
      refine rl_y (y_move rfl rfl) rfl ?_
      refine rl_freeze 503 rfl ?_
      intro ad503 cap503 u503 hle503z hsl503
      refine rl_y (y_assign rfl rfl) rfl ?_
      refine rl_end (ρ' := [(2, _)]) ⟨rfl, trivial⟩ ?_
      refine q_then ?_
      refine wc_ret ?_
      refine fin1 (.tmp rfl) ?_
      have hge := of_decide_eq_false hb3
      rw [List.take_of_length_le (by omega)] at hacc
      exact inlS_of (by omega) hsl503 (hacc.mono hle503z)
end Go.Proofs.Ythnboadnehbciaa
