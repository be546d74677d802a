/- Settle: lists of pairs: one step, and the settling. -/
import Derived.Test.YtchmiljeidkkpaaSetK
namespace Go.Proofs.Ytchmiljeidkkpaa
open Go Go.Eng
set_option linter.unusedSimpArgs false
set_option linter.unusedVariables false

theorem turn_fn (ad : Option Addr) (cap : Nat) (xs : List Pr) (hx : xs.length ≤ 1000) (u : View) (h1 : SlC u ad xs.length cap 2 (prs xs)) :
    FnP Try.prog 15 [.slice ad xs.length cap] u fun v u' => ∃ w, v = .tuple #[w, .int .i64 0] ∧ IsPrs u' w (trn xs) := by
  refine FnP.intro [.tmp 2, .tmp 3] Try.func15 rfl rfl rfl ?_
  intro w0 hw0
  refine wc_seq ?_
  refine wc_region ?_
  refine rl_y (y_assign rfl rfl) rfl ?_
  refine rl_y (y_assign rfl rfl) rfl ?_
  refine rl_end (ρ' := [(0, _)]) ⟨rfl, trivial⟩ ?_
  refine q_then ?_
  refine wc_seq ?_
  refine wc_region ?_
  refine rl_y (y_assign rfl rfl) rfl ?_
  refine rl_own_nil 4 4 50 2 rfl rfl rfl ?_
  refine rl_end (ρ' := [(0, _), (4, _)]) ⟨rfl, rfl, trivial⟩ ?_
  refine q_then ?_
  refine wc_seq ?_
  refine wc_seq ?_
  refine wc_region ?_
  refine rl_y (y_assign rfl rfl) rfl ?_
  refine rl_end (ρ' := [(0, _), (4, _), (5, _)]) ⟨rfl, rfl, rfl, trivial⟩ ?_
  refine q_then ?_
  refine wc_block ?_
  refine wc_loop (fun m ρ σ u' μ => ∃ k : Nat, k + m = xs.length + 1 ∧ 1 ≤ k ∧ (k ≤ xs.length ∨ k = 1) ∧ u = u' ∧ μ = [] ∧ σ = [(4, .row 50 2 (k - 1) (prs ((xs.drop 1).take (k - 1))))] ∧ ρ = [(0, .v (.slice ad xs.length cap)), (4, .s 4), (5, .v (.int .i64 k))]) xs.length ?_ ?_
  ·
    refine ⟨[(0, _), (4, _), (5, _)], [(4, _)], ⟨rfl, rfl, rfl, trivial⟩, ⟨rfl, trivial⟩, 1, by omega, by omega, .inr rfl, rfl, rfl, rfl, rfl⟩
  ·
    rintro m ρ σ u' μ ⟨k, hk, hk1, hk2, rfl, rfl, rfl, rfl⟩
    refine wc_seq ?_
    refine wc_seq ?_
    refine wc_region ?_
    refine rl_y (y_move rfl rfl) rfl ?_
    refine rl_y (y_move rfl rfl) rfl ?_
    refine rl_y (y_len_v rfl rfl Try.s35 rfl) rfl ?_
    refine rl_y (y_lss rfl rfl rfl) rfl ?_
    refine rl_end (ρ' := [(0, _), (4, _), (5, _), (9, _)]) ⟨rfl, rfl, rfl, rfl, trivial⟩ ?_
    refine q_then ?_
    refine wc_cond rfl (fun hb3 => ?_) (fun hb3 => ?_)
    ·
      have hlt : k < xs.length := by have := of_decide_eq_true hb3; omega
      refine wc_skip ?_
      refine q_then ?_
      refine wc_seq ?_
      refine wc_block ?_
      obtain ⟨a, ha⟩ : ∃ a, xs[k]? = some a := ⟨_, List.getElem?_eq_getElem hlt⟩
      have hca := cut_prs ha
      refine wc_region ?_
      refine rl_y (y_move rfl rfl) rfl ?_
      refine rl_y (y_move rfl rfl) rfl ?_
      refine rl_y (y_move rfl rfl) rfl ?_
      refine rl_y (y_index_e rfl Try.s35 rfl rfl h1 (j := k) rfl (by omega)) rfl ?_
      refine rl_y (y_load_el rfl Try.k50 rfl h1 (by omega) hca (vs := [_, _]) rfl rfl rfl rfl) rfl ?_
      refine rl_buildSlice Try.s35 Try.z50 (ps := [(_, _)]) rfl (xs := [_, _]) rfl rfl rfl rfl rfl rfl rfl ?_
      refine rl_append_s rfl Try.s35 Try.z50 rfl rfl rfl rfl rfl rfl (by first | rfl | simp [Value.oneCell', str]) (by omega) (by omega) (ρ' := [(0, _), (5, _)]) ⟨rfl, rfl, trivial⟩ rfl rfl rfl ?_
      refine rl_y (y_assign rfl rfl) rfl ?_
      refine rl_ren 18 4 rfl rfl rfl ?_
      refine rl_end (ρ' := [(0, _), (4, _), (5, _)]) ⟨rfl, rfl, rfl, trivial⟩ ?_
      refine q_block ?_
      refine q_then ?_
      refine wc_region ?_
      refine rl_y (y_move rfl rfl) rfl ?_
      refine rl_y (y_add rfl rfl rfl (wrap64_id (by omega))) rfl ?_
      refine rl_y (y_assign rfl rfl) rfl ?_
      refine rl_end (ρ' := [(0, _), (4, _), (5, _)]) ⟨rfl, rfl, rfl, trivial⟩ ?_
      refine q_thenK ?_
      refine ⟨m - 1, [(0, _), (4, _), (5, _)], [(4, _)], by omega, ⟨rfl, rfl, rfl, trivial⟩, ⟨?_, trivial⟩, k + 1, by omega, by omega, by omega, rfl, rfl, rfl, rfl⟩
      have e : (xs.drop 1).take (k + 1 - 1) = (xs.drop 1).take (k - 1) ++ [a] := by
        obtain ⟨j, rfl⟩ : ∃ j, k = j + 1 := ⟨k - 1, by omega⟩
        rw [show j + 1 + 1 - 1 = j + 1 by omega, show j + 1 - 1 = j by omega, List.take_add_one]
        simp [Nat.add_comm 1 j, ha]
      rw [e, prs_app, show k + 1 - 1 = k - 1 + 1 by omega]
      rfl
    ·
      have hge : ¬ k < xs.length := by have := of_decide_eq_false hb3; omega
      refine wc_exit ?_
      refine q_then_exit ?_
      refine q_then_exit ?_
      refine q_block_hit ?_
      refine q_then ?_
      refine wc_seq ?_
      refine wc_seq ?_
      refine wc_region ?_
      refine rl_y (y_move rfl rfl) rfl ?_
      refine rl_y (y_len_v rfl rfl Try.s35 rfl) rfl ?_
      refine rl_y (y_gtr rfl rfl rfl) rfl ?_
      refine rl_end (ρ' := [(0, _), (4, _), (21, _)]) ⟨rfl, rfl, rfl, trivial⟩ ?_
      refine q_then ?_
      refine wc_cond rfl (fun hb6 => ?_) (fun hb6 => ?_)
      ·
        have hpos : 0 < xs.length := by have := of_decide_eq_true hb6; omega
        obtain ⟨a, ha⟩ : ∃ a, xs[0]? = some a := ⟨_, List.getElem?_eq_getElem hpos⟩
        have hca := cut_prs ha
        have hkl : k - 1 = xs.length - 1 := by omega
        have hfull : (xs.drop 1).take (k - 1) ++ [a] = trn xs := by
          rw [List.take_of_length_le (by simp; omega)]
          unfold trn
          cases xs with
          | nil => simp at hpos
          | cons y l => simp at ha; subst ha; simp
        have hfl : k - 1 + 1 = (trn xs).length := by rw [← hfull]; simp; omega
        refine wc_region ?_
        refine rl_y (y_move rfl rfl) rfl ?_
        refine rl_y (y_move rfl rfl) rfl ?_
        refine rl_y (y_index_e rfl Try.s35 rfl rfl h1 (j := 0) rfl hpos) rfl ?_
        refine rl_y (y_load_el rfl Try.k50 rfl h1 hpos hca (vs := [_, _]) rfl rfl rfl rfl) rfl ?_
        refine rl_buildSlice Try.s35 Try.z50 (ps := [(_, _)]) rfl (xs := [_, _]) rfl rfl rfl rfl rfl rfl rfl ?_
        refine rl_append_s rfl Try.s35 Try.z50 rfl rfl rfl rfl rfl rfl (by first | rfl | simp [Value.oneCell', str]) (by omega) (by omega) (ρ' := []) trivial rfl rfl rfl ?_
        refine rl_y (y_assign rfl rfl) rfl ?_
        refine rl_ren 27 4 rfl rfl rfl ?_
        refine rl_end (ρ' := [(4, _)]) ⟨rfl, trivial⟩ ?_
        refine q_then ?_
        refine wc_seq ?_
        refine wc_region ?_
        refine rl_freeze 4 rfl ?_
        intro ad3 cap3 u3 hle3 hsl
        refine rl_y (y_move rfl rfl) rfl ?_
        refine rl_y (y_assign rfl rfl) rfl ?_
        refine rl_y (y_assign rfl rfl) rfl ?_
        refine rl_end (ρ' := [(2, _), (3, _)]) ⟨rfl, rfl, trivial⟩ ?_
        refine q_then ?_
        refine wc_ret ?_
        refine fin2 (.tmp rfl) (.tmp rfl) ?_
        refine ⟨_, rfl, ad3, cap3, ?_, ?_⟩
        · rw [← hfl]
        · rw [← hfl, ← hfull, prs_app]
          exact hsl
      ·
        have hpos : xs.length = 0 := by have := of_decide_eq_false hb6; omega
        refine wc_skip ?_
        refine q_then ?_
        refine wc_seq ?_
        refine wc_region ?_
        refine rl_freeze 4 rfl ?_
        intro ad3 cap3 u3 hle3 hsl
        refine rl_y (y_move rfl rfl) rfl ?_
        refine rl_y (y_assign rfl rfl) rfl ?_
        refine rl_y (y_assign rfl rfl) rfl ?_
        refine rl_end (ρ' := [(2, _), (3, _)]) ⟨rfl, rfl, trivial⟩ ?_
        refine q_then ?_
        refine wc_ret ?_
        refine fin2 (.tmp rfl) (.tmp rfl) ?_
        obtain rfl : xs = [] := List.eq_nil_of_length_eq_zero hpos
        obtain rfl : k = 1 := by simp at hge hk; omega
        exact ⟨_, rfl, ad3, cap3, rfl, hsl⟩

/-- what a step does: the next list, and the error -/
structure Step (g : FuncId) (nx : List Pr → List Pr) (er : List Pr → Int) : Prop where
  can : canCall Try.prog g = true
  len : ∀ xs, (nx xs).length ≤ xs.length
  run : ∀ (ad : Option Addr) (cap : Nat) (xs : List Pr) (u : View), xs.length ≤ 1000 → SlC u ad xs.length cap 2 (prs xs) →
    FnP Try.prog g [.slice ad xs.length cap] u fun v u' => ∃ w, v = .tuple #[w, .int .i64 (er xs)] ∧ IsPrs u' w (nx xs)

theorem step_turn : Step 15 trn (fun _ => 0) := ⟨Try.c15, fun xs => by simp [trn]; omega, fun ad cap xs u hx h => turn_fn ad cap xs hx u h⟩
theorem step_drop : Step 17 (fun xs => xs.drop 1) (fun xs => if xs = [] then 13 else 0) := ⟨Try.c17, fun xs => by simp, fun ad cap xs u hx h => drop_fn ad cap xs hx u h⟩
theorem step_keep : Step 18 (fun xs => if 3 < xs.length then xs.drop 1 else xs) (fun _ => 0) := ⟨Try.c18, fun xs => by split <;> simp, fun ad cap xs u hx h => keep_fn ad cap xs hx u h⟩

theorem apart_fn {g : FuncId} {nx : List Pr → List Pr} {er : List Pr → Int} (S : Step g nx er) (ad : Option Addr) (cap : Nat) (xs : List Pr) (hx : xs.length ≤ 1000) (p : Nat) (T : TypeId) (fr : Nat × Nat) (u : View) (h1 : SlC u ad xs.length cap 2 (prs xs)) (hp : u p = some (.cells #[.func (.func g) #[] #[]] T fr)) :
    FnP Try.prog 24 [.slice ad xs.length cap, .pointer (some ⟨p, 0, none⟩)] u fun v u' => ∃ w, v = .tuple #[w, .int .i64 (er xs)] ∧ IsPrs u' w (nx xs) := by
  have hl := S.len xs
  refine FnP.intro [.tmp 3, .tmp 4] Try.func24 rfl rfl rfl ?_
  intro w0 hw0
  refine wc_seq ?_
  refine wc_region ?_
  refine rl_y (y_assign rfl rfl) rfl ?_
  refine rl_y (y_assign rfl rfl) rfl ?_
  refine rl_end (ρ' := [(0, _), (1, _)]) ⟨rfl, rfl, trivial⟩ ?_
  refine q_then ?_
  refine wc_seq ?_
  refine wc_draw Try.mixed [] ?_
  refine ra_y (i := 0) rfl (by kernel_rfl) (by kernel_rfl) (by kernel_rfl) (np_then (np_fin)) (y_load_v rfl Try.k38 rfl hp (vs := [_]) rfl rfl rfl) rfl ?_
  refine ra_y (i := 1) rfl (by kernel_rfl) (by kernel_rfl) (by kernel_rfl) (np_then (np_fin)) (y_move rfl rfl) rfl ?_
  refine ra_do (i := 2) rfl rfl (by kernel_rfl) ?_
  refine do_call (caps := []) rfl rfl Try.c25 rfl rfl (FnP.mono (clone_fn ad cap xs hx _ h1) ?_)
  rintro v u1 hle0 ⟨ad1, cap1, rfl, hs1⟩ hle1
  refine ra_do (i := 3) rfl rfl (by kernel_rfl) ?_
  refine do_call (caps := []) rfl rfl S.can rfl rfl (FnP.mono (S.run ad1 cap1 xs _ hx hs1) ?_)
  rintro v u1 hle0 ⟨w, rfl, ad2, cap2, rfl, hs2⟩ hle1
  refine ra_y (i := 4) rfl (by kernel_rfl) (by kernel_rfl) (by kernel_rfl) (np_then (np_fin)) (y_move rfl rfl) rfl ?_
  refine ra_y (i := 5) rfl (by kernel_rfl) (by kernel_rfl) (by kernel_rfl) (np_then (np_fin)) (y_extract rfl rfl rfl) rfl ?_
  refine ra_y (i := 6) rfl (by kernel_rfl) (by kernel_rfl) (by kernel_rfl) (np_then (np_fin)) (y_extract rfl rfl rfl) rfl ?_
  refine ra_y (i := 7) rfl (by kernel_rfl) (by kernel_rfl) (by kernel_rfl) (np_then (np_fin)) (y_assign rfl rfl) rfl ?_
  refine ra_y (i := 8) rfl (by kernel_rfl) (by kernel_rfl) (by kernel_rfl) (np_then (np_fin)) (y_assign rfl rfl) rfl ?_
  refine ra_end (by kernel_rfl) (ρ' := [(5, _), (6, _)]) ⟨rfl, rfl, trivial⟩ ?_
  refine q_then ?_
  refine wc_seq ?_
  refine wc_region ?_
  refine rl_y (y_move rfl rfl) rfl ?_
  refine rl_call (caps := []) rfl rfl Try.c25 rfl (FnP.mono (clone_fn ad2 cap2 (nx xs) (by omega) _ hs2) ?_)
  rintro v u1 hle0 ⟨ad3, cap3, rfl, hs3⟩ hle1
  refine rl_y (y_move rfl rfl) rfl ?_
  refine rl_y (y_assign rfl rfl) rfl ?_
  refine rl_y (y_assign rfl rfl) rfl ?_
  refine rl_end (ρ' := [(3, _), (4, _)]) ⟨rfl, rfl, trivial⟩ ?_
  refine q_then ?_
  refine wc_ret ?_
  refine fin2 (.tmp rfl) (.tmp rfl) ?_
  exact ⟨_, rfl, ad3, cap3, rfl, hs3⟩
end Go.Proofs.Ytchmiljeidkkpaa
