/- Font: the page's examples; the widths as a call. -/
import Derived.Test.YtceodelgalfjfaaDoorFontD
namespace Go.Proofs.Ytceodelgalfjfaa
open Go Go.Eng
set_option linter.unusedSimpArgs false
set_option linter.unusedVariables false

theorem ex1 : wid 97 = 50 := by decide +kernel
theorem ex2 : wid 87 = 85 := by decide +kernel
theorem ex3 : wideOf [97, 32, 98] = 130 := by decide +kernel
theorem ex4 : hyL [108, 101, 116, 116, 101, 114] = [3] := by decide +kernel
theorem ex5 : hyL [112, 97, 112, 101, 114] = [2] := by decide +kernel
theorem ex6 : hyL [116, 114, 101, 101] = [] := by decide +kernel
theorem ex7 : fitOf [97, 87] 100 = 1 := by decide +kernel
theorem ex8 : fitOf [97] (-1) = 0 := by decide +kernel

theorem awake_fn (u : View) (hT : TabU u) : FnP Tryd.prog 10 [] u fun v _ => v = .bool true := by
  refine FnP.intro [.tmp 0] Tryd.func10 rfl rfl rfl ?_
  intro w0 hw0
  refine wc_seq ?_
  refine wc_region ?_
  refine rl_y (y_assign rfl rfl) rfl ?_
  refine rl_end (ρ' := []) trivial ?_
  refine q_then ?_
  refine wc_seq ?_
  refine wc_region ?_
  refine rl_call_f (caps := []) rfl rfl Tryd.c8 rfl (FnP.mono (width_fn 97 _ hT) ?_)
  rintro v u1 hle1 rfl
  rw [ex1]
  refine rl_y (y_eql rfl rfl rfl) rfl ?_
  rw [decide_eq_true (show (50 : Int) = 50 from rfl)]
  refine rl_y (y_move rfl rfl) rfl ?_
  refine rl_on rfl rfl ?_
  refine rl_call_f (caps := []) rfl rfl Tryd.c8 rfl (FnP.mono (width_fn 87 _ hT) ?_)
  rintro v u1 hle1 rfl
  rw [ex2]
  refine rl_on rfl rfl ?_
  refine rl_y (y_eql rfl rfl rfl) rfl ?_
  rw [decide_eq_true (show (85 : Int) = 85 from rfl)]
  refine rl_y (y_pick_t rfl rfl rfl) rfl ?_
  refine rl_y (y_move rfl rfl) rfl ?_
  refine rl_on rfl rfl ?_
  refine rl_call_f (caps := []) rfl rfl Tryd.c11 rfl (FnP.mono (wide_str_fn [97, 32, 98] (by decide) _ hT) ?_)
  rintro v u1 hle1 rfl
  rw [ex3]
  refine rl_on rfl rfl ?_
  refine rl_y (y_eql rfl rfl rfl) rfl ?_
  rw [decide_eq_true (show (130 : Int) = 130 from rfl)]
  refine rl_y (y_pick_t rfl rfl rfl) rfl ?_
  refine rl_y (y_move rfl rfl) rfl ?_
  refine rl_on rfl rfl ?_
  refine rl_call (caps := []) rfl rfl Tryd.c14 rfl (FnP.mono (hyphens_fn [108, 101, 116, 116, 101, 114] (by decide) _) ?_)
  rintro v u1 hle0 ⟨ad1, cap1, rfl, hs1⟩ hle1
  rw [ex4] at hs1 ⊢
  have hT1 := hT.mono hle0
  refine rl_on rfl rfl ?_
  refine rl_buildSlice Tryd.s28 Tryd.z3 (ps := [(_, _)]) rfl (xs := [_]) rfl rfl rfl rfl rfl rfl rfl ?_
  refine rl_on rfl rfl ?_
  refine rl_call_b 13 rfl rfl Tryd.c15 rfl ?_
  intro ad2 cap2 u4 hle4 hs4
  refine ⟨[_, _], rfl, FnP.mono (ints_fn ad1 ad2 cap1 cap2 [3] [3] (by decide) _ (hs1.mono hle4) hs4) ?_⟩
  rintro v u5 hle5 rfl
  rw [decide_eq_true (show ([3] : List Int) = [3] from rfl)]
  refine rl_y (y_pick_t rfl rfl rfl) rfl ?_
  refine rl_y (y_move rfl rfl) rfl ?_
  refine rl_on rfl rfl ?_
  refine rl_call (caps := []) rfl rfl Tryd.c14 rfl (FnP.mono (hyphens_fn [112, 97, 112, 101, 114] (by decide) _) ?_)
  rintro v u1 hle0 ⟨ad3, cap3, rfl, hs3⟩ hle1
  rw [ex5] at hs3 ⊢
  have hT2 := hT1.mono hle0
  refine rl_on rfl rfl ?_
  refine rl_buildSlice Tryd.s28 Tryd.z3 (ps := [(_, _)]) rfl (xs := [_]) rfl rfl rfl rfl rfl rfl rfl ?_
  refine rl_on rfl rfl ?_
  refine rl_call_b 18 rfl rfl Tryd.c15 rfl ?_
  intro ad2 cap2 u4 hle4 hs4
  refine ⟨[_, _], rfl, FnP.mono (ints_fn ad3 ad2 cap3 cap2 [2] [2] (by decide) _ (hs3.mono hle4) hs4) ?_⟩
  rintro v u5 hle5 rfl
  rw [decide_eq_true (show ([2] : List Int) = [2] from rfl)]
  refine rl_y (y_pick_t rfl rfl rfl) rfl ?_
  refine rl_y (y_move rfl rfl) rfl ?_
  refine rl_on rfl rfl ?_
  refine rl_call (caps := []) rfl rfl Tryd.c14 rfl (FnP.mono (hyphens_fn [116, 114, 101, 101] (by decide) _) ?_)
  rintro v u1 hle0 ⟨ad6, cap6, rfl, hs6⟩ hle1
  rw [ex6] at hs6 ⊢
  have hT3 := hT2.mono hle0
  refine rl_on rfl rfl ?_
  refine rl_y (y_len_v rfl rfl Tryd.s28 rfl) rfl ?_
  refine rl_on rfl rfl ?_
  refine rl_y (y_eql rfl rfl rfl) rfl ?_
  rw [decide_eq_true (show (([] : List Int).length : Int) = 0 from rfl)]
  refine rl_y (y_pick_t rfl rfl rfl) rfl ?_
  refine rl_y (y_move rfl rfl) rfl ?_
  refine rl_on rfl rfl ?_
  refine rl_call_f (caps := []) rfl rfl Tryd.c17 rfl (FnP.mono (fit_fn [97, 87] (by decide) 100 _ hT3) ?_)
  rintro v u1 hle1 rfl
  rw [ex7]
  refine rl_on rfl rfl ?_
  refine rl_y (y_eql rfl rfl rfl) rfl ?_
  rw [decide_eq_true (show ((1 : Nat) : Int) = 1 from rfl)]
  refine rl_y (y_pick_t rfl rfl rfl) rfl ?_
  refine rl_y (y_move rfl rfl) rfl ?_
  refine rl_on rfl rfl ?_
  refine rl_call_f (caps := []) rfl rfl Tryd.c17 rfl (FnP.mono (fit_fn [97] (by decide) (-1) _ hT3) ?_)
  rintro v u1 hle1 rfl
  rw [ex8]
  refine rl_on rfl rfl ?_
  refine rl_y (y_eql rfl rfl rfl) rfl ?_
  rw [decide_eq_true (show ((0 : Nat) : Int) = 0 from rfl)]
  refine rl_y (y_pick_t rfl rfl rfl) rfl ?_
  refine rl_y (y_assign rfl rfl) rfl ?_
  refine rl_end (ρ' := [(0, _)]) ⟨rfl, trivial⟩ ?_
  refine q_then ?_
  refine wc_ret ?_
  refine fin1 (.tmp rfl) ?_
  rfl

theorem law_widths (c : Int) (u : View) (hT : TabU u) : FnP Tryd.prog 3 [.int .i64 c] u fun v _ => v = .bool true := by
  refine FnP.intro [.tmp 2] Tryd.func3 rfl rfl rfl ?_
  intro w0 hw0
  refine wc_seq ?_
  refine wc_region ?_
  refine rl_y (y_assign rfl rfl) rfl ?_
  refine rl_end (ρ' := [(0, _)]) ⟨rfl, trivial⟩ ?_
  refine q_then ?_
  refine wc_seq ?_
  refine wc_region ?_
  refine rl_y (y_move rfl rfl) rfl ?_
  refine rl_call_f (caps := []) rfl rfl Tryd.c8 rfl (FnP.mono (width_fn c _ hT) ?_)
  rintro v u1 hle1 rfl
  refine rl_y (y_move rfl rfl) rfl ?_
  refine rl_call_f (caps := []) rfl rfl Tryd.c9 rfl (FnP.mono (rwidth_fn c _) ?_)
  rintro v u1 hle1 rfl
  refine rl_y (y_eql rfl rfl rfl) rfl ?_
  rw [decide_eq_true (show wid c = wid c from rfl)]
  refine rl_y (y_move rfl rfl) rfl ?_
  refine rl_on rfl rfl ?_
  refine rl_call_f (caps := []) rfl rfl Tryd.c10 rfl (FnP.mono (awake_fn _ hT) ?_)
  rintro v u1 hle1 rfl
  refine rl_y (y_pick_t rfl rfl rfl) rfl ?_
  refine rl_y (y_assign rfl rfl) rfl ?_
  refine rl_end (ρ' := [(2, _)]) ⟨rfl, trivial⟩ ?_
  refine q_then ?_
  refine wc_ret ?_
  refine fin1 (.tmp rfl) ?_
  rfl

/-- what the program's text lays -/
def asciiL : List Int := (List.range 95).map fun j : Nat => wid ((j : Int) + 32)
end Go.Proofs.Ytceodelgalfjfaa
