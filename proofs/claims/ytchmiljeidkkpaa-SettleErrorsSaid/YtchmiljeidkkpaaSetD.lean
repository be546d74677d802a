/- Settle: Run at boxes. -/
import Derived.Test.YtchmiljeidkkpaaSetC
namespace Go.Proofs.Ytchmiljeidkkpaa
open Go Go.Eng

theorem func_nil {P : Program} {t : TypeId} {ps rs : Array TypeId} {v : Bool} (hu : P.underlying t = some (.func ps rs v)) (x y : Operand) (fn : _root_.Go.Fn) (a b : Array Value) (w : World) :
    (do eqGuard .eql t x y (.func fn a b) .nilFunc; binOp .eql t (.func fn a b) .nilFunc).run P w = .ok (.bool false) w := by
  have h1 : (eqGuard .eql t x y (.func fn a b) .nilFunc).run P w = .ok () w := by simp [eqGuard]
  have h2 : (Op.equal t (.func fn a b) .nilFunc).run P w = .ok false w := by
    unfold Op.equal Op.maxDepth Op.equalIn
    simp [run_underlying hu]
  rw [Sem.run_bind, h1]
  simp [binOp, h2]

theorem run_fn (p : Int) (t : List Int) (ht : t.length = 8) (most : Int) (u : View) :
    FnP Try.prog 11 [box p t, .func (.func 12) #[] #[], .int .i64 most] u
      fun v _ => if 1 ≤ most ∧ most ≤ 64 then ∃ k j e, Ends (fun n => it t p n) most.toNat k j e ∧ v = setRes t p k j e else v = .tuple #[zbox, .int .i64 0, .int .i64 0, .int .i64 2] := by
  have hb : ∃ cs : List Value, box p t = .agg cs.toArray ∧ cs.length = 9 := ⟨vals (p :: t), rfl, by simp [vals, ht]⟩
  match t, ht with
  | [a0, a1, a2, a3, a4, a5, a6, a7], ht =>
  have hbx : box p [a0, a1, a2, a3, a4, a5, a6, a7] = .agg #[.int .i64 p, .int .i64 a0, .int .i64 a1, .int .i64 a2, .int .i64 a3, .int .i64 a4, .int .i64 a5, .int .i64 a6, .int .i64 a7] := rfl
  rw [hbx]
  refine FnP.intro [.cell 6 26, .tmp 7, .tmp 8, .tmp 9] Try.func11 rfl rfl rfl ?_
  intro w0 hw0
  refine wc_seq ?_
  refine wc_region ?_
  refine rl_box rfl (cs := [_, _, _, _, _, _, _, _, _]) rfl rfl rfl rfl ?_
  refine rl_box rfl (cs := [_]) rfl rfl rfl rfl ?_
  refine rl_alloc Try.z26 rfl rfl rfl ?_
  refine rl_y (y_assign rfl rfl) rfl ?_
  refine rl_y (y_assign rfl rfl) rfl ?_
  refine rl_y (y_assign rfl rfl) rfl ?_
  refine rl_end (ρ' := [(2, _), (3, _), (4, _), (6, _)]) ⟨rfl, rfl, rfl, rfl, trivial⟩ ?_
  refine q_then ?_
  refine wc_seq ?_
  refine wc_seq ?_
  refine wc_cutB 19 (decide (most < 1) || decide (64 < most)) (ρk := [(2, _), (3, _), (4, _), (6, _)]) ⟨rfl, rfl, rfl, rfl, trivial⟩ ?_ ?_
  ·
    refine wc_region ?_
    refine rl_y (y_load_p rfl Try.k30 rfl rfl rfl (vs := [_]) rfl rfl rfl) rfl ?_
    refine rl_y (y_run (z := .bool false) fun a h w => by have h10 := h (.tmp 10) _ rfl; simp only [execOp, h10]; rw [Sem.run_bind]; erw [func_nil (P := Try.prog) (t := 30) (ps := #[26]) (rs := #[26]) (v := false) (by kernel_rfl)]; rfl) rfl ?_
    refine rl_y (y_move rfl rfl) rfl ?_
    refine rl_on rfl rfl ?_
    refine rl_y (y_move rfl rfl) rfl ?_
    refine rl_on rfl rfl ?_
    refine rl_y (y_lss rfl rfl rfl) rfl ?_
    refine rl_y (y_pick_f rfl rfl rfl) rfl ?_
    refine rl_y (y_move rfl rfl) rfl ?_
    rcases Bool.eq_false_or_eq_true (decide (most < 1)) with hg1_6 | hg1_6
    ·
      simp only [hg1_6]
      refine rl_off rfl rfl rfl rfl ?_
      refine rl_off rfl rfl rfl rfl ?_
      refine rl_y (y_pick_t rfl rfl rfl) rfl ?_
      exact cutB_end rfl ⟨rfl, rfl, rfl, rfl, trivial⟩ (by simp)
    ·
      simp only [hg1_6]
      refine rl_on rfl rfl ?_
      refine rl_y (y_move rfl rfl) rfl ?_
      refine rl_on rfl rfl ?_
      refine rl_y (y_gtr rfl rfl rfl) rfl ?_
      refine rl_y (y_pick_f rfl rfl rfl) rfl ?_
      exact cutB_end rfl ⟨rfl, rfl, rfl, rfl, trivial⟩ (by simp)
  refine q_then ?_
  refine wc_cond rfl (fun hb1 => ?_) (fun hb1 => ?_)
  ·
    have hno : ¬ (1 ≤ most ∧ most ≤ 64) := by simp at hb1; omega
    refine wc_seq ?_
    refine wc_region ?_
    refine rl_y (y_load_p rfl Try.k26 rfl rfl rfl (vs := [_, _, _, _, _, _, _, _, _]) rfl rfl rfl) rfl ?_
    refine rl_store_p Try.k26 rfl rfl rfl (vs := [_, _, _, _, _, _, _, _, _]) rfl rfl (by first | rfl | simp [Value.oneCell', str]) rfl rfl ?_
    refine rl_y (y_assign rfl rfl) rfl ?_
    refine rl_y (y_assign rfl rfl) rfl ?_
    refine rl_y (y_assign rfl rfl) rfl ?_
    refine rl_end (ρ' := [(6, _), (7, _), (8, _), (9, _)]) ⟨rfl, rfl, rfl, rfl, trivial⟩ ?_
    refine q_then ?_
    refine wc_ret ?_
    refine q_then_ret ?_
    refine fin4 (.cell rfl rfl Try.k26 (cs := _) (vs := [_, _, _, _, _, _, _, _, _]) rfl rfl rfl) (.tmp rfl) (.tmp rfl) (.tmp rfl) ?_
    rw [if_neg hno]
    rfl
  ·
    have hyes : 1 ≤ most ∧ most ≤ 64 := by simp at hb1; omega
    refine wc_skip ?_
    refine q_then ?_
    refine wc_seq ?_
    refine wc_region ?_
    refine rl_y (y_load_p rfl Try.k26 rfl rfl rfl (vs := [_, _, _, _, _, _, _, _, _]) rfl rfl rfl) rfl ?_
    refine rl_reveal 4 rfl ?_
    intro b T u2 hle hub
    obtain ⟨m, rfl⟩ : ∃ m : Nat, most = m := ⟨most.toNat, by omega⟩
    refine rl_y (y_makeFunc rfl rfl rfl) rfl ?_
    refine rl_y (y_move rfl rfl) rfl ?_
    rw [← hbx]
    refine rl_call_f (caps := []) rfl rfl Try.c21 rfl (FnP.mono (settle_fn p _ ht m (by omega) (by omega) _ b T _ hub) ?_)
    rintro v u1 hle1 ⟨k, j, e, hE, rfl⟩
    have hcs : ∃ x0 x1 x2 x3 x4 x5 x6 x7 x8 : Value, (if e = 0 then box (it [a0, a1, a2, a3, a4, a5, a6, a7] p k) [a0, a1, a2, a3, a4, a5, a6, a7] else zbox) = .agg #[x0, x1, x2, x3, x4, x5, x6, x7, x8] ∧ [x0, x1, x2, x3, x4, x5, x6, x7, x8].all Value.oneCell' = true := by
      split
      · exact ⟨_, _, _, _, _, _, _, _, _, rfl, rfl⟩
      · exact ⟨_, _, _, _, _, _, _, _, _, rfl, rfl⟩
    obtain ⟨x0, x1, x2, x3, x4, x5, x6, x7, x8, hcs, hone⟩ := hcs
    unfold setRes
    rw [hcs]
    refine rl_y (y_extract rfl rfl rfl) rfl ?_
    refine rl_y (y_extract rfl rfl rfl) rfl ?_
    refine rl_y (y_extract rfl rfl rfl) rfl ?_
    refine rl_y (y_extract rfl rfl rfl) rfl ?_
    refine rl_store_p Try.k26 rfl rfl rfl (vs := [_, _, _, _, _, _, _, _, _]) rfl rfl hone rfl rfl ?_
    refine rl_y (y_assign rfl rfl) rfl ?_
    refine rl_y (y_assign rfl rfl) rfl ?_
    refine rl_y (y_assign rfl rfl) rfl ?_
    refine rl_end (ρ' := [(6, _), (7, _), (8, _), (9, _)]) ⟨rfl, rfl, rfl, rfl, trivial⟩ ?_
    refine q_then ?_
    refine wc_ret ?_
    refine fin4 (.cell rfl rfl Try.k26 (cs := _) (vs := [_, _, _, _, _, _, _, _, _]) rfl rfl rfl) (.tmp rfl) (.tmp rfl) (.tmp rfl) ?_
    rw [if_pos hyes]
    refine ⟨k, j, e, hE, ?_⟩
    simp only [hcs]
end Go.Proofs.Ytchmiljeidkkpaa
