/- Settle: the three other statements on boxes, as calls. -/
import Derived.Test.YtchmiljeidkkpaaSetH
namespace Go.Proofs.Ytchmiljeidkkpaa
open Go Go.Eng

section
variable {F : Fx} {ρ : Env} {σ : Own} {u : View} {μ : Mem} {σS : Own} {uS : View} {μS : Mem} {o : Oper}
theorem neq_box (x y : Operand) (p q : Int) (t s : List Int) (ht : t.length = 8) (hs : s.length = 8) (w : World) : (do eqGuard .neq 26 x y (box p t) (box q s); binOp .neq 26 (box p t) (box q s)).run Try.prog w = .ok (.bool (!decide (p = q ∧ t = s))) w := by
  have h := eq_box x y p q t s ht hs w
  have hg : (eqGuard .eql 26 x y (box p t) (box q s)).run Try.prog w = .ok () w := run_eqGuard_agg (P := Try.prog) w _ _ _ _ _ _ (by kernel_rfl)
  have hg2 : (eqGuard .neq 26 x y (box p t) (box q s)).run Try.prog w = .ok () w := run_eqGuard_agg (P := Try.prog) w _ _ _ _ _ _ (by kernel_rfl)
  rw [Sem.run_bind, hg] at h
  rw [Sem.run_bind, hg2]
  simp only [Result.andThen_ok] at h ⊢
  unfold box at h ⊢
  rw [run_eql_struct (P := Try.prog)] at h
  rw [run_neq_struct (P := Try.prog)]
  generalize (Op.equalIn 10000 26 (.agg ((p :: t).map (Value.int .i64)).toArray) (.agg ((q :: s).map (Value.int .i64)).toArray)).run Try.prog w = r at h ⊢
  cases r with
  | ok b w' =>
    simp only [Result.andThen_ok, Result.ok.injEq, Value.bool.injEq] at h ⊢
    obtain ⟨h1, h2⟩ := h
    exact ⟨by rw [h1], h2⟩
  | halt x w' => simp at h

theorem y_neq_box {x y : Operand} {t' : TypeId} {p a0 a1 a2 a3 a4 a5 a6 a7 q b0 b1 b2 b3 b4 b5 b6 b7 : Int} (hP : F.P = Try.prog) (ho : o.op = .binOp .neq 26 x y t')
    (hx : opv ρ x = some (.v (.agg #[.int .i64 p, .int .i64 a0, .int .i64 a1, .int .i64 a2, .int .i64 a3, .int .i64 a4, .int .i64 a5, .int .i64 a6, .int .i64 a7])))
    (hy : opv ρ y = some (.v (.agg #[.int .i64 q, .int .i64 b0, .int .i64 b1, .int .i64 b2, .int .i64 b3, .int .i64 b4, .int .i64 b5, .int .i64 b6, .int .i64 b7]))) :
    Yld F σS uS μS ρ σ u μ o (.v (.bool (!decide (p = q ∧ [a0, a1, a2, a3, a4, a5, a6, a7] = [b0, b1, b2, b3, b4, b5, b6, b7])))) := by
  refine y_run fun a h w => ?_
  have h1 := h _ _ hx
  have h2 := h _ _ hy
  have := neq_box x y p q [a0, a1, a2, a3, a4, a5, a6, a7] [b0, b1, b2, b3, b4, b5, b6, b7] rfl rfl w
  simp only [execOp, ho, h1, h2, hP]
  rw [Sem.run_bind]
  erw [this]
  rfl
end

theorem next_fn2 (p a0 a1 a2 a3 a4 a5 a6 a7 : Int) (u : View) : FnP Try.prog 12 [.agg #[.int .i64 p, .int .i64 a0, .int .i64 a1, .int .i64 a2, .int .i64 a3, .int .i64 a4, .int .i64 a5, .int .i64 a6, .int .i64 a7]] u
    fun v _ => v = .agg #[.int .i64 (at8 [a0, a1, a2, a3, a4, a5, a6, a7] p), .int .i64 a0, .int .i64 a1, .int .i64 a2, .int .i64 a3, .int .i64 a4, .int .i64 a5, .int .i64 a6, .int .i64 a7] :=
  next_fn p [a0, a1, a2, a3, a4, a5, a6, a7] u rfl

theorem it_succ (t : List Int) (p : Int) (n : Nat) : at8 t (it t p n) = it t p (n + 1) := rfl

theorem law_fixed (start a0 a1 a2 a3 a4 a5 a6 a7 most : Int) (u : View) :
    FnP Try.prog 4 [.int .i64 start, .agg #[.int .i64 a0, .int .i64 a1, .int .i64 a2, .int .i64 a3, .int .i64 a4, .int .i64 a5, .int .i64 a6, .int .i64 a7], .int .i64 most] u fun v _ => v = .bool true := by
  generalize hT : [a0, a1, a2, a3, a4, a5, a6, a7] = t
  refine FnP.intro [.tmp 6] Try.func4 rfl rfl rfl ?_
  intro w0 hw0
  refine wc_seq ?_
  refine wc_region ?_
  refine rl_box rfl (cs := [_, _, _, _, _, _, _, _]) rfl rfl rfl rfl ?_
  refine rl_y (y_assign rfl rfl) rfl ?_
  refine rl_end (ρ' := [(0, _), (2, _), (4, _)]) ⟨rfl, rfl, rfl, trivial⟩ ?_
  refine q_then ?_
  refine wc_seq ?_
  refine wc_seq ?_
  refine wc_region ?_
  refine rl_y (y_move rfl rfl) rfl ?_
  refine rl_call_f (caps := []) rfl rfl Try.c9 rfl (FnP.mono (small_fn most _) ?_)
  rintro v u1 hle1 rfl
  refine rl_y (y_not rfl rfl) rfl ?_
  refine rl_end (ρ' := [(0, _), (2, _), (4, _), (15, _)]) ⟨rfl, rfl, rfl, rfl, trivial⟩ ?_
  refine q_then ?_
  refine wc_cond rfl (fun hb1 => ?_) (fun hb1 => ?_)
  ·
    refine wc_seq ?_
    refine wc_region ?_
    refine rl_call_f (caps := []) rfl rfl Try.c10 rfl (FnP.mono (awake_fn _) ?_)
    rintro v u1 hle1 rfl
    refine rl_y (y_assign rfl rfl) rfl ?_
    refine rl_end (ρ' := [(6, _)]) ⟨rfl, trivial⟩ ?_
    refine q_then ?_
    refine wc_ret ?_
    refine q_then_ret ?_
    refine fin1 (.tmp rfl) ?_
    rfl
  ·
    refine wc_skip ?_
    refine q_then ?_
    refine wc_seq ?_
    refine wc_region ?_
    refine rl_y (y_move rfl rfl) rfl ?_
    refine rl_y (y_and7 rfl rfl rfl) rfl ?_
    refine rl_y (y_load_p rfl Try.k22 rfl rfl rfl (vs := [_, _, _, _, _, _, _, _]) rfl rfl rfl) rfl ?_
    refine rl_y (y_build rfl Try.f26' Try.z26 (ps := [(_, _), (_, _)]) rfl (vs := [_, _, _, _, _, _, _, _, _]) rfl) rfl ?_
    refine rl_alloc Try.z26 rfl rfl rfl ?_
    refine rl_store_p Try.k26 rfl rfl rfl (vs := [_, _, _, _, _, _, _, _, _]) rfl rfl (by first | rfl | simp [Value.oneCell', str]) rfl rfl ?_
    refine rl_end (ρ' := [(2, _), (7, _)]) ⟨rfl, rfl, trivial⟩ ?_
    refine q_then ?_
    refine wc_seq ?_
    refine wc_region ?_
    refine rl_y (y_load_p rfl Try.k26 rfl rfl rfl (vs := [_, _, _, _, _, _, _, _, _]) rfl rfl rfl) rfl ?_
    refine rl_y (y_move rfl rfl) rfl ?_
    refine rl_call_f (caps := []) rfl rfl Try.c11 rfl (FnP.mono (run_fn2 (start % 8) a0 a1 a2 a3 a4 a5 a6 a7 most _) ?_)
    rintro v u1 hle1 ⟨x0, x1, x2, x3, x4, x5, x6, x7, x8, kn, k, per, e, rfl, hO, hz, hnz⟩
    rw [hT] at hO hz
    generalize hp : start % 8 = p at *
    refine rl_y (y_move rfl rfl) rfl ?_
    refine rl_y (y_extract rfl rfl rfl) rfl ?_
    refine rl_y (y_extract rfl rfl rfl) rfl ?_
    refine rl_y (y_extract rfl rfl rfl) rfl ?_
    refine rl_y (y_extract rfl rfl rfl) rfl ?_
    refine rl_alloc Try.z26 rfl rfl rfl ?_
    refine rl_store_p Try.k26 rfl rfl rfl (vs := [_, _, _, _, _, _, _, _, _]) rfl rfl (by first | rfl | simp [Value.oneCell', str]) rfl rfl ?_
    refine rl_y (y_assign rfl rfl) rfl ?_
    refine rl_y (y_assign rfl rfl) rfl ?_
    refine rl_y (y_assign rfl rfl) rfl ?_
    refine rl_end (ρ' := [(2, _), (7, _), (8, _), (9, _), (10, _), (11, _)]) ⟨rfl, rfl, rfl, rfl, rfl, rfl, trivial⟩ ?_
    refine q_then ?_
    refine wc_seq ?_
    refine wc_seq ?_
    refine wc_region ?_
    refine rl_y (y_move rfl rfl) rfl ?_
    refine rl_y (y_neq rfl rfl rfl) rfl ?_
    refine rl_end (ρ' := [(2, _), (7, _), (8, _), (9, _), (10, _), (30, _)]) ⟨rfl, rfl, rfl, rfl, rfl, rfl, trivial⟩ ?_
    refine q_then ?_
    refine wc_cond rfl (fun hb5 => ?_) (fun hb5 => ?_)
    ·
      refine wc_seq ?_
      refine wc_region ?_
      refine rl_call_f (caps := []) rfl rfl Try.c10 rfl (FnP.mono (awake_fn _) ?_)
      rintro v u1 hle1 rfl
      refine rl_y (y_assign rfl rfl) rfl ?_
      refine rl_end (ρ' := [(6, _)]) ⟨rfl, trivial⟩ ?_
      refine q_then ?_
      refine wc_ret ?_
      refine q_then_ret ?_
      refine fin1 (.tmp rfl) ?_
      rfl
    ·
      refine wc_skip ?_
      refine q_then ?_
      refine wc_seq ?_
      refine wc_seq ?_
      have he0 : e = 0 := by simpa using hb5
      subst he0
      obtain ⟨rfl, hz'⟩ := hz rfl
      rw [← hT] at hz'
      obtain ⟨rfl, rfl, rfl, rfl, rfl, rfl, rfl, rfl⟩ : x1 = a0 ∧ x2 = a1 ∧ x3 = a2 ∧ x4 = a3 ∧ x5 = a4 ∧ x6 = a5 ∧ x7 = a6 ∧ x8 = a7 := by simpa using hz'
      obtain ⟨hm1, hm2, hk, j, hE, hper⟩ : 1 ≤ most ∧ most ≤ 64 ∧ k = kn ∧ ∃ j, Ends (it t p) most.toNat kn j 0 ∧ per = if (0 : Int) = 10 then (kn : Int) - j else 0 := by
        rcases hO with ⟨_, _, _, _, h⟩ | h
        · exact absurd h (by decide)
        · exact h
      rw [if_neg (by decide)] at hper
      subst hk hper
      obtain ⟨hk1, hk2, hdist, hcase⟩ := hE
      obtain ⟨hj, hfix⟩ : j + 1 = kn ∧ it t p kn = it t p j := by
        rcases hcase with ⟨_, h1, h2⟩ | ⟨h, _⟩ | ⟨h, _⟩
        · exact ⟨h1, h2⟩
        · exact absurd h (by decide)
        · exact absurd h (by decide)
      have hnext : at8 t (it t p kn) = it t p kn := by
        have : at8 t (it t p j) = it t p kn := by rw [← hj]; rfl
        rw [hfix]
        rw [hfix] at this
        exact this
      refine wc_draw Try.mixed [(8, .box [])] ?_
      refine ra_y (i := 0) rfl (by kernel_rfl) (by kernel_rfl) (by kernel_rfl) (np_then (np_then (np_fin))) (y_move rfl rfl) rfl ?_
      refine ra_y (i := 1) rfl (by kernel_rfl) (by kernel_rfl) (by kernel_rfl) (np_then (np_then (np_fin))) (y_lss rfl rfl rfl) rfl ?_
      rw [decide_eq_false (show ¬ ((kn : Int) < 1) by omega)]
      refine ra_y (i := 2) rfl (by kernel_rfl) (by kernel_rfl) (by kernel_rfl) (np_then (np_then (np_fin))) (y_move rfl rfl) rfl ?_
      refine ra_y_on (i := 3) rfl rfl rfl (by kernel_rfl) (by kernel_rfl) (by kernel_rfl) (np_then (np_then (np_fin))) (y_move rfl rfl) rfl ?_
      refine ra_y_on (i := 4) rfl rfl rfl (by kernel_rfl) (by kernel_rfl) (by kernel_rfl) (np_then (np_then (np_fin))) (y_move rfl rfl) rfl ?_
      refine ra_y_on (i := 5) rfl rfl rfl (by kernel_rfl) (by kernel_rfl) (by kernel_rfl) (np_then (np_then (np_fin))) (y_gtr rfl rfl rfl) rfl ?_
      rw [decide_eq_false (show ¬ (most < (kn : Int)) by omega)]
      refine ra_y (i := 6) rfl (by kernel_rfl) (by kernel_rfl) (by kernel_rfl) (np_then (np_then (np_fin))) (y_pick_f rfl rfl rfl) rfl ?_
      refine ra_y (i := 7) rfl (by kernel_rfl) (by kernel_rfl) (by kernel_rfl) (np_then (np_then (np_fin))) (y_move rfl rfl) rfl ?_
      refine ra_y_on (i := 8) rfl rfl rfl (by kernel_rfl) (by kernel_rfl) (by kernel_rfl) (np_then (np_then (np_fin))) (y_move rfl rfl) rfl ?_
      refine ra_y_on (i := 9) rfl rfl rfl (by kernel_rfl) (by kernel_rfl) (by kernel_rfl) (np_then (np_then (np_fin))) (y_neq rfl rfl rfl) rfl ?_
      rw [decide_eq_false (show ¬ ((0 : Int) ≠ 0) by omega)]
      refine ra_y (i := 10) rfl (by kernel_rfl) (by kernel_rfl) (by kernel_rfl) (np_then (np_then (np_fin))) (y_pick_f rfl rfl rfl) rfl ?_
      refine ra_y (i := 11) rfl (by kernel_rfl) (by kernel_rfl) (by kernel_rfl) (np_then (np_then (np_fin))) (y_move rfl rfl) rfl ?_
      refine ra_y_on (i := 12) rfl rfl rfl (by kernel_rfl) (by kernel_rfl) (by kernel_rfl) (np_then (np_then (np_fin))) (y_load_p rfl Try.k26 rfl rfl rfl (vs := [_, _, _, _, _, _, _, _, _]) rfl rfl rfl) rfl ?_
      refine ra_y_on (i := 14) rfl rfl rfl (by kernel_rfl) (by kernel_rfl) (by kernel_rfl) (np_then (np_then (np_fin))) (y_load_p rfl Try.k26 rfl rfl rfl (vs := [_, _, _, _, _, _, _, _, _]) rfl rfl rfl) rfl ?_
      refine ra_do_on (i := 13) rfl rfl rfl (by kernel_rfl) ?_
      refine do_call_f (caps := []) rfl rfl Try.c12 rfl rfl (FnP.mono (next_fn2 (it t p kn) x1 x2 x3 x4 x5 x6 x7 x8 _) ?_)
      rintro v u1 hle1 rfl
      rw [hT, hnext]
      refine ra_y_on (i := 15) rfl rfl rfl (by kernel_rfl) (by kernel_rfl) (by kernel_rfl) (np_then (np_then (np_fin))) (y_neq_box rfl rfl rfl rfl) rfl ?_
      rw [decide_eq_true ⟨rfl, rfl⟩]
      refine ra_y (i := 16) rfl (by kernel_rfl) (by kernel_rfl) (by kernel_rfl) (np_then (np_then (np_fin))) (y_pick_f rfl rfl rfl) rfl ?_
      refine ra_end (by kernel_rfl) (ρ' := [(7, _), (8, _), (9, _), (48, _)]) ⟨rfl, rfl, rfl, rfl, trivial⟩ ?_
      refine q_then ?_
      refine wc_cond_f rfl (rfl) ?_
      refine wc_skip ?_
      refine q_then ?_
      refine wc_seq ?_
      refine wc_seq ?_
      refine wc_region ?_
      refine rl_y (y_assign rfl rfl) rfl ?_
      refine rl_end (ρ' := [(7, _), (8, _), (9, _), (12, _)]) ⟨rfl, rfl, rfl, rfl, trivial⟩ ?_
      refine q_then ?_
      refine wc_block ?_
      refine wc_loop (fun m ρ σ u' μ => ∃ i : Nat, 1 ≤ i ∧ i + m = kn ∧ u = u' ∧ μ = [] ∧ ρ = [(7, .p 7 0), (8, .p 8 0), (9, .v (.int .i64 kn)), (12, .v (.int .i64 i))] ∧
      σ = [(7, .box [.int .i64 (it t p (i - 1)), .int .i64 x1, .int .i64 x2, .int .i64 x3, .int .i64 x4, .int .i64 x5, .int .i64 x6, .int .i64 x7, .int .i64 x8]), (8, .box [.int .i64 (it t p kn), .int .i64 x1, .int .i64 x2, .int .i64 x3, .int .i64 x4, .int .i64 x5, .int .i64 x6, .int .i64 x7, .int .i64 x8])]) (kn - 1) ?_ ?_
      ·
        refine ⟨_, _, ?_, ?_, 1, by omega, by omega, rfl, rfl, rfl, rfl⟩
        · exact ⟨rfl, rfl, rfl, rfl, trivial⟩
        · exact ⟨rfl, rfl, trivial⟩
      ·
        rintro m ρ σ u' μ ⟨i, hi1, hi2, rfl, rfl, rfl, rfl⟩
        refine wc_seq ?_
        refine wc_seq ?_
        refine wc_region ?_
        refine rl_y (y_move rfl rfl) rfl ?_
        refine rl_y (y_move rfl rfl) rfl ?_
        refine rl_y (y_lss rfl rfl rfl) rfl ?_
        refine rl_end (ρ' := [(7, _), (8, _), (9, _), (12, _), (51, _)]) ⟨rfl, rfl, rfl, rfl, rfl, trivial⟩ ?_
        refine q_then ?_
        refine wc_cond rfl (fun hb10 => ?_) (fun hb10 => ?_)
        ·
          have hlt : i < kn := by have := of_decide_eq_true hb10; omega
          refine wc_skip ?_
          refine q_then ?_
          refine wc_seq ?_
          refine wc_block ?_
          refine wc_seq ?_
          refine wc_seq ?_
          have hne : it t p i ≠ it t p (i - 1) := Ne.symm (hdist (i - 1) i (by omega) hlt)
          refine wc_draw Try.mixed [(7, .box [])] ?_
          refine ra_y (i := 0) rfl (by kernel_rfl) (by kernel_rfl) (by kernel_rfl) (np_then (np_then (np_block (np_then (np_then (np_block (np_then (np_fin)))))))) (y_load_p rfl Try.k26 rfl rfl rfl (vs := [_, _, _, _, _, _, _, _, _]) rfl rfl rfl) rfl ?_
          refine ra_y (i := 2) rfl (by kernel_rfl) (by kernel_rfl) (by kernel_rfl) (np_then (np_then (np_block (np_then (np_then (np_block (np_then (np_fin)))))))) (y_load_p rfl Try.k26 rfl rfl rfl (vs := [_, _, _, _, _, _, _, _, _]) rfl rfl rfl) rfl ?_
          refine ra_do (i := 1) rfl rfl (by kernel_rfl) ?_
          refine do_call_f (caps := []) rfl rfl Try.c12 rfl rfl (FnP.mono (next_fn2 (it t p (i - 1)) x1 x2 x3 x4 x5 x6 x7 x8 _) ?_)
          rintro v u1 hle1 rfl
          rw [hT, it_succ, show i - 1 + 1 = i by omega]
          refine ra_y (i := 3) rfl (by kernel_rfl) (by kernel_rfl) (by kernel_rfl) (np_then (np_then (np_block (np_then (np_then (np_block (np_then (np_fin)))))))) (y_eq_box rfl rfl rfl rfl) rfl ?_
          rw [decide_eq_false (fun h => hne h.1)]
          refine ra_end (by kernel_rfl) (ρ' := [(7, _), (8, _), (9, _), (12, _), (57, _)]) ⟨rfl, rfl, rfl, rfl, rfl, trivial⟩ ?_
          refine q_then ?_
          refine wc_cond_f rfl (rfl) ?_
          refine wc_skip ?_
          refine q_then ?_
          refine wc_region ?_
          refine rl_y (y_load_p rfl Try.k26 rfl rfl rfl (vs := [_, _, _, _, _, _, _, _, _]) rfl rfl rfl) rfl ?_
          refine rl_call_f (caps := []) rfl rfl Try.c12 rfl (FnP.mono (next_fn2 (it t p (i - 1)) x1 x2 x3 x4 x5 x6 x7 x8 _) ?_)
          rintro v u1 hle1 rfl
          rw [hT, it_succ, show i - 1 + 1 = i by omega]
          refine rl_store_p Try.k26 rfl rfl rfl (vs := [_, _, _, _, _, _, _, _, _]) rfl rfl (by first | rfl | simp [Value.oneCell', str]) rfl rfl ?_
          refine rl_end (ρ' := [(7, _), (8, _), (9, _), (12, _)]) ⟨rfl, rfl, rfl, rfl, trivial⟩ ?_
          refine q_block ?_
          refine q_then ?_
          refine wc_region ?_
          refine rl_y (y_move rfl rfl) rfl ?_
          refine rl_y (y_add rfl rfl rfl (wrap64_id (by omega))) rfl ?_
          refine rl_y (y_assign rfl rfl) rfl ?_
          refine rl_end (ρ' := [(7, _), (8, _), (9, _), (12, _)]) ⟨rfl, rfl, rfl, rfl, trivial⟩ ?_
          refine q_thenK ?_
          refine ⟨m - 1, _, _, by omega, ?_, ?_, i + 1, by omega, by omega, rfl, rfl, rfl, rfl⟩
          · exact ⟨rfl, rfl, rfl, rfl, trivial⟩
          · exact ⟨rfl, rfl, trivial⟩
        ·
          have hik : i = kn := by have := of_decide_eq_false hb10; omega
          refine wc_exit ?_
          refine q_then_exit ?_
          refine q_then_exit ?_
          refine q_block_hit ?_
          refine q_then ?_
          refine wc_seq ?_
          subst hik
          have hbx : it t p (i - 1) = it t p i := by rw [hfix]; congr 1; omega
          refine wc_region ?_
          refine rl_y (y_load_p rfl Try.k26 rfl rfl rfl (vs := [_, _, _, _, _, _, _, _, _]) rfl rfl rfl) rfl ?_
          refine rl_y (y_load_p rfl Try.k26 rfl rfl rfl (vs := [_, _, _, _, _, _, _, _, _]) rfl rfl rfl) rfl ?_
          refine rl_y (y_eq_box rfl rfl rfl rfl) rfl ?_
          rw [decide_eq_true ⟨hbx, rfl⟩]
          refine rl_y (y_move rfl rfl) rfl ?_
          refine rl_on rfl rfl ?_
          refine rl_call_f (caps := []) rfl rfl Try.c10 rfl (FnP.mono (awake_fn _) ?_)
          rintro v u1 hle1 rfl
          refine rl_y (y_pick_t rfl rfl rfl) rfl ?_
          refine rl_y (y_assign rfl rfl) rfl ?_
          refine rl_end (ρ' := [(6, _)]) ⟨rfl, trivial⟩ ?_
          refine q_then ?_
          refine wc_ret ?_
          refine fin1 (.tmp rfl) ?_
          rfl

theorem law_cycles (start a0 a1 a2 a3 a4 a5 a6 a7 most : Int) (u : View) :
    FnP Try.prog 5 [.int .i64 start, .agg #[.int .i64 a0, .int .i64 a1, .int .i64 a2, .int .i64 a3, .int .i64 a4, .int .i64 a5, .int .i64 a6, .int .i64 a7], .int .i64 most] u fun v _ => v = .bool true := by
  generalize hT : [a0, a1, a2, a3, a4, a5, a6, a7] = t
  refine FnP.intro [.tmp 6] Try.func5 rfl rfl rfl ?_
  intro w0 hw0
  refine wc_seq ?_
  refine wc_region ?_
  refine rl_box rfl (cs := [_, _, _, _, _, _, _, _]) rfl rfl rfl rfl ?_
  refine rl_y (y_assign rfl rfl) rfl ?_
  refine rl_end (ρ' := [(0, _), (2, _), (4, _)]) ⟨rfl, rfl, rfl, trivial⟩ ?_
  refine q_then ?_
  refine wc_seq ?_
  refine wc_seq ?_
  refine wc_region ?_
  refine rl_y (y_move rfl rfl) rfl ?_
  refine rl_call_f (caps := []) rfl rfl Try.c9 rfl (FnP.mono (small_fn most _) ?_)
  rintro v u1 hle1 rfl
  refine rl_y (y_not rfl rfl) rfl ?_
  refine rl_end (ρ' := [(0, _), (2, _), (4, _), (17, _)]) ⟨rfl, rfl, rfl, rfl, trivial⟩ ?_
  refine q_then ?_
  refine wc_cond rfl (fun hb1 => ?_) (fun hb1 => ?_)
  ·
    refine wc_seq ?_
    refine wc_region ?_
    refine rl_call_f (caps := []) rfl rfl Try.c10 rfl (FnP.mono (awake_fn _) ?_)
    rintro v u1 hle1 rfl
    refine rl_y (y_assign rfl rfl) rfl ?_
    refine rl_end (ρ' := [(6, _)]) ⟨rfl, trivial⟩ ?_
    refine q_then ?_
    refine wc_ret ?_
    refine q_then_ret ?_
    refine fin1 (.tmp rfl) ?_
    rfl
  ·
    refine wc_skip ?_
    refine q_then ?_
    refine wc_seq ?_
    refine wc_region ?_
    refine rl_y (y_move rfl rfl) rfl ?_
    refine rl_y (y_and7 rfl rfl rfl) rfl ?_
    refine rl_y (y_load_p rfl Try.k22 rfl rfl rfl (vs := [_, _, _, _, _, _, _, _]) rfl rfl rfl) rfl ?_
    refine rl_y (y_build rfl Try.f26' Try.z26 (ps := [(_, _), (_, _)]) rfl (vs := [_, _, _, _, _, _, _, _, _]) rfl) rfl ?_
    refine rl_alloc Try.z26 rfl rfl rfl ?_
    refine rl_store_p Try.k26 rfl rfl rfl (vs := [_, _, _, _, _, _, _, _, _]) rfl rfl (by first | rfl | simp [Value.oneCell', str]) rfl rfl ?_
    refine rl_end (ρ' := [(2, _), (7, _)]) ⟨rfl, rfl, trivial⟩ ?_
    refine q_then ?_
    refine wc_seq ?_
    refine wc_region ?_
    refine rl_y (y_load_p rfl Try.k26 rfl rfl rfl (vs := [_, _, _, _, _, _, _, _, _]) rfl rfl rfl) rfl ?_
    refine rl_y (y_move rfl rfl) rfl ?_
    refine rl_call_f (caps := []) rfl rfl Try.c11 rfl (FnP.mono (run_fn2 (start % 8) a0 a1 a2 a3 a4 a5 a6 a7 most _) ?_)
    rintro v u1 hle1 ⟨x0, x1, x2, x3, x4, x5, x6, x7, x8, kn, k, per, e, rfl, hO, hz, hnz⟩
    rw [hT] at hO hz
    generalize hp : start % 8 = p at *
    refine rl_y (y_move rfl rfl) rfl ?_
    refine rl_y (y_extract rfl rfl rfl) rfl ?_
    refine rl_y (y_extract rfl rfl rfl) rfl ?_
    refine rl_y (y_extract rfl rfl rfl) rfl ?_
    refine rl_y (y_extract rfl rfl rfl) rfl ?_
    refine rl_alloc Try.z26 rfl rfl rfl ?_
    refine rl_store_p Try.k26 rfl rfl rfl (vs := [_, _, _, _, _, _, _, _, _]) rfl rfl (by first | rfl | simp [Value.oneCell', str]) rfl rfl ?_
    refine rl_y (y_assign rfl rfl) rfl ?_
    refine rl_y (y_assign rfl rfl) rfl ?_
    refine rl_y (y_assign rfl rfl) rfl ?_
    refine rl_end (ρ' := [(2, _), (7, _), (9, _), (10, _), (11, _)]) ⟨rfl, rfl, rfl, rfl, rfl, trivial⟩ ?_
    refine q_then ?_
    refine wc_seq ?_
    refine wc_seq ?_
    refine wc_region ?_
    refine rl_y (y_move rfl rfl) rfl ?_
    refine rl_y (y_neq rfl rfl rfl) rfl ?_
    refine rl_end (ρ' := [(2, _), (7, _), (9, _), (10, _), (32, _)]) ⟨rfl, rfl, rfl, rfl, rfl, trivial⟩ ?_
    refine q_then ?_
    refine wc_cond rfl (fun hb5 => ?_) (fun hb5 => ?_)
    ·
      refine wc_seq ?_
      refine wc_region ?_
      refine rl_call_f (caps := []) rfl rfl Try.c10 rfl (FnP.mono (awake_fn _) ?_)
      rintro v u1 hle1 rfl
      refine rl_y (y_assign rfl rfl) rfl ?_
      refine rl_end (ρ' := [(6, _)]) ⟨rfl, trivial⟩ ?_
      refine q_then ?_
      refine wc_ret ?_
      refine q_then_ret ?_
      refine fin1 (.tmp rfl) ?_
      rfl
    ·
      refine wc_skip ?_
      refine q_then ?_
      refine wc_seq ?_
      refine wc_seq ?_
      have he0 : e = 10 := by simpa using hb5
      subst he0
      obtain ⟨hm1, hm2, hk, j, hE, hper⟩ : 1 ≤ most ∧ most ≤ 64 ∧ k = kn ∧ ∃ j, Ends (it t p) most.toNat kn j 10 ∧ per = if (10 : Int) = 10 then (kn : Int) - j else 0 := by
        rcases hO with ⟨_, _, _, _, h⟩ | h
        · exact absurd h (by decide)
        · exact h
      rw [if_pos rfl] at hper
      obtain ⟨hk1, hk2, hdist, hcase⟩ := hE
      obtain ⟨hj, hfix⟩ : j + 1 < kn ∧ it t p kn = it t p j := by
        rcases hcase with ⟨h, _⟩ | ⟨_, h1, h2⟩ | ⟨h, _⟩
        · exact absurd h (by decide)
        · exact ⟨h1, h2⟩
        · exact absurd h (by decide)
      obtain ⟨pn, hpn⟩ : ∃ pn : Nat, pn = kn - j := ⟨_, rfl⟩
      obtain rfl : per = (pn : Int) := by omega
      subst hk
      refine wc_region ?_
      refine rl_y (y_move rfl rfl) rfl ?_
      refine rl_y (y_lss rfl rfl rfl) rfl ?_
      rw [decide_eq_false (show ¬ ((pn : Int) < 2) by omega)]
      refine rl_y (y_move rfl rfl) rfl ?_
      refine rl_on rfl rfl ?_
      refine rl_y (y_move rfl rfl) rfl ?_
      refine rl_on rfl rfl ?_
      refine rl_y (y_move rfl rfl) rfl ?_
      refine rl_on rfl rfl ?_
      refine rl_y (y_lss rfl rfl rfl) rfl ?_
      rw [decide_eq_false (show ¬ ((kn : Int) < (pn : Int)) by omega)]
      refine rl_y (y_pick_f rfl rfl rfl) rfl ?_
      refine rl_y (y_move rfl rfl) rfl ?_
      refine rl_on rfl rfl ?_
      refine rl_y (y_move rfl rfl) rfl ?_
      refine rl_on rfl rfl ?_
      refine rl_y (y_move rfl rfl) rfl ?_
      refine rl_on rfl rfl ?_
      refine rl_y (y_gtr rfl rfl rfl) rfl ?_
      rw [decide_eq_false (show ¬ (most < (kn : Int)) by omega)]
      refine rl_y (y_pick_f rfl rfl rfl) rfl ?_
      refine rl_end (ρ' := [(7, _), (9, _), (10, _), (45, _)]) ⟨rfl, rfl, rfl, rfl, trivial⟩ ?_
      refine q_then ?_
      refine wc_cond_f rfl (rfl) ?_
      refine wc_skip ?_
      refine q_then ?_
      refine wc_seq ?_
      refine wc_seq ?_
      refine wc_region ?_
      refine rl_y (y_assign rfl rfl) rfl ?_
      refine rl_end (ρ' := [(7, _), (9, _), (10, _), (12, _)]) ⟨rfl, rfl, rfl, rfl, trivial⟩ ?_
      refine q_then ?_
      refine wc_block ?_
      refine wc_loop (fun m ρ σ u' μ => ∃ i : Nat, i + m = j ∧ u = u' ∧ μ = [] ∧ ρ = [(7, .p 7 0), (9, .v (.int .i64 kn)), (10, .v (.int .i64 pn)), (12, .v (.int .i64 i))] ∧
      σ = [(7, .box [.int .i64 (it t p i), .int .i64 a0, .int .i64 a1, .int .i64 a2, .int .i64 a3, .int .i64 a4, .int .i64 a5, .int .i64 a6, .int .i64 a7])]) j ?_ ?_
      ·
        refine ⟨_, _, ?_, ?_, 0, by omega, rfl, rfl, rfl, rfl⟩
        · exact ⟨rfl, rfl, rfl, rfl, trivial⟩
        · exact ⟨rfl, trivial⟩
      ·
        rintro m ρ σ u' μ ⟨i, hi2, rfl, rfl, rfl, rfl⟩
        refine wc_seq ?_
        refine wc_seq ?_
        refine wc_region ?_
        refine rl_y (y_move rfl rfl) rfl ?_
        refine rl_y (y_move rfl rfl) rfl ?_
        refine rl_y (y_move rfl rfl) rfl ?_
        refine rl_y (y_sub rfl rfl rfl (wrap64_id (by omega))) rfl ?_
        refine rl_y (y_lss rfl rfl rfl) rfl ?_
        refine rl_end (ρ' := [(7, _), (9, _), (10, _), (12, _), (50, _)]) ⟨rfl, rfl, rfl, rfl, rfl, trivial⟩ ?_
        refine q_then ?_
        refine wc_cond rfl (fun hb10 => ?_) (fun hb10 => ?_)
        ·
          have hlt : i < j := by have := of_decide_eq_true hb10; omega
          refine wc_skip ?_
          refine q_then ?_
          refine wc_seq ?_
          refine wc_block ?_
          refine wc_region ?_
          refine rl_y (y_load_p rfl Try.k26 rfl rfl rfl (vs := [_, _, _, _, _, _, _, _, _]) rfl rfl rfl) rfl ?_
          refine rl_call_f (caps := []) rfl rfl Try.c12 rfl (FnP.mono (next_fn2 (it t p i) a0 a1 a2 a3 a4 a5 a6 a7 _) ?_)
          rintro v u1 hle1 rfl
          rw [hT, it_succ]
          refine rl_store_p Try.k26 rfl rfl rfl (vs := [_, _, _, _, _, _, _, _, _]) rfl rfl (by first | rfl | simp [Value.oneCell', str]) rfl rfl ?_
          refine rl_end (ρ' := [(7, _), (9, _), (10, _), (12, _)]) ⟨rfl, rfl, rfl, rfl, trivial⟩ ?_
          refine q_block ?_
          refine q_then ?_
          refine wc_region ?_
          refine rl_y (y_move rfl rfl) rfl ?_
          refine rl_y (y_add rfl rfl rfl (wrap64_id (by omega))) rfl ?_
          refine rl_y (y_assign rfl rfl) rfl ?_
          refine rl_end (ρ' := [(7, _), (9, _), (10, _), (12, _)]) ⟨rfl, rfl, rfl, rfl, trivial⟩ ?_
          refine q_thenK ?_
          refine ⟨m - 1, _, _, by omega, ?_, ?_, i + 1, by omega, rfl, rfl, rfl, rfl⟩
          · exact ⟨rfl, rfl, rfl, rfl, trivial⟩
          · exact ⟨rfl, trivial⟩
        ·
          have hik : i = j := by have := of_decide_eq_false hb10; omega
          refine wc_exit ?_
          refine q_then_exit ?_
          refine q_then_exit ?_
          refine q_block_hit ?_
          refine q_then ?_
          refine wc_seq ?_
          subst hik
          refine wc_region ?_
          refine rl_y (y_load_p rfl Try.k26 rfl rfl rfl (vs := [_, _, _, _, _, _, _, _, _]) rfl rfl rfl) rfl ?_
          refine rl_alloc Try.z26 rfl rfl rfl ?_
          refine rl_store_p Try.k26 rfl rfl rfl (vs := [_, _, _, _, _, _, _, _, _]) rfl rfl (by first | rfl | simp [Value.oneCell', str]) rfl rfl ?_
          refine rl_end (ρ' := [(7, _), (10, _), (13, _)]) ⟨rfl, rfl, rfl, trivial⟩ ?_
          refine q_then ?_
          refine wc_seq ?_
          refine wc_seq ?_
          refine wc_region ?_
          refine rl_y (y_assign rfl rfl) rfl ?_
          refine rl_end (ρ' := [(7, _), (10, _), (13, _), (14, _)]) ⟨rfl, rfl, rfl, rfl, trivial⟩ ?_
          refine q_then ?_
          refine wc_block ?_
          refine wc_loop (fun m ρ σ u' μ => ∃ n : Nat, n + m = pn ∧ u = u' ∧ μ = [] ∧ ρ = [(7, .p 7 0), (10, .v (.int .i64 pn)), (13, .p 13 0), (14, .v (.int .i64 n))] ∧
          σ = [(7, .box [.int .i64 (it t p i), .int .i64 a0, .int .i64 a1, .int .i64 a2, .int .i64 a3, .int .i64 a4, .int .i64 a5, .int .i64 a6, .int .i64 a7]), (13, .box [.int .i64 (it t p (i + n)), .int .i64 a0, .int .i64 a1, .int .i64 a2, .int .i64 a3, .int .i64 a4, .int .i64 a5, .int .i64 a6, .int .i64 a7])]) pn ?_ ?_
          ·
            refine ⟨_, _, ?_, ?_, 0, by omega, rfl, rfl, rfl, rfl⟩
            · exact ⟨rfl, rfl, rfl, rfl, trivial⟩
            · exact ⟨rfl, rfl, trivial⟩
          ·
            rintro m' ρ σ u' μ ⟨n, hn2, rfl, rfl, rfl, rfl⟩
            refine wc_seq ?_
            refine wc_seq ?_
            refine wc_region ?_
            refine rl_y (y_move rfl rfl) rfl ?_
            refine rl_y (y_move rfl rfl) rfl ?_
            refine rl_y (y_lss rfl rfl rfl) rfl ?_
            refine rl_end (ρ' := [(7, _), (10, _), (13, _), (14, _), (58, _)]) ⟨rfl, rfl, rfl, rfl, rfl, trivial⟩ ?_
            refine q_then ?_
            refine wc_cond rfl (fun hb15 => ?_) (fun hb15 => ?_)
            ·
              have hlt : n < pn := by have := of_decide_eq_true hb15; omega
              refine wc_skip ?_
              refine q_then ?_
              refine wc_seq ?_
              refine wc_block ?_
              refine wc_seq ?_
              refine wc_region ?_
              refine rl_y (y_load_p rfl Try.k26 rfl rfl rfl (vs := [_, _, _, _, _, _, _, _, _]) rfl rfl rfl) rfl ?_
              refine rl_call_f (caps := []) rfl rfl Try.c12 rfl (FnP.mono (next_fn2 (it t p (i + n)) a0 a1 a2 a3 a4 a5 a6 a7 _) ?_)
              rintro v u1 hle1 rfl
              rw [hT, it_succ]
              refine rl_store_p Try.k26 rfl rfl rfl (vs := [_, _, _, _, _, _, _, _, _]) rfl rfl (by first | rfl | simp [Value.oneCell', str]) rfl rfl ?_
              refine rl_end (ρ' := [(7, _), (10, _), (13, _), (14, _)]) ⟨rfl, rfl, rfl, rfl, trivial⟩ ?_
              refine q_then ?_
              refine wc_seq ?_
              refine wc_cutB 71 (false) (ρk := [(7, _), (10, _), (13, _), (14, _)]) ⟨rfl, rfl, rfl, rfl, trivial⟩ ?_ ?_
              ·
                refine wc_region ?_
                refine rl_y (y_move rfl rfl) rfl ?_
                refine rl_y (y_move rfl rfl) rfl ?_
                refine rl_y (y_sub rfl rfl rfl (wrap64_id (by omega))) rfl ?_
                refine rl_y (y_lss rfl rfl rfl) rfl ?_
                refine rl_y (y_move rfl rfl) rfl ?_
                rcases Bool.eq_false_or_eq_true (decide ((n : Int) < (pn : Int) - 1)) with hg18_4 | hg18_4
                ·
                  simp only [hg18_4]
                  refine rl_on rfl rfl ?_
                  refine rl_y (y_load_p rfl Try.k26 rfl rfl rfl (vs := [_, _, _, _, _, _, _, _, _]) rfl rfl rfl) rfl ?_
                  refine rl_on rfl rfl ?_
                  refine rl_y (y_load_p rfl Try.k26 rfl rfl rfl (vs := [_, _, _, _, _, _, _, _, _]) rfl rfl rfl) rfl ?_
                  refine rl_on rfl rfl ?_
                  refine rl_y (y_eq_box rfl rfl rfl rfl) rfl ?_
                  rw [decide_eq_false (fun h => absurd h.1 (Ne.symm (hdist i (i + n + 1) (by omega) (by have := of_decide_eq_true hg18_4; omega))))]
                  refine rl_y (y_pick_t rfl rfl rfl) rfl ?_
                  exact cutB_end rfl ⟨rfl, rfl, rfl, rfl, trivial⟩ (rfl)
                ·
                  simp only [hg18_4]
                  refine rl_off rfl rfl rfl rfl ?_
                  refine rl_off rfl rfl rfl rfl ?_
                  refine rl_off rfl rfl rfl rfl ?_
                  refine rl_y (y_pick_f rfl rfl rfl) rfl ?_
                  exact cutB_end rfl ⟨rfl, rfl, rfl, rfl, trivial⟩ (rfl)
              refine q_then ?_
              refine wc_cond_f rfl (rfl) ?_
              refine wc_skip ?_
              refine q_block ?_
              refine q_then ?_
              refine wc_region ?_
              refine rl_y (y_move rfl rfl) rfl ?_
              refine rl_y (y_add rfl rfl rfl (wrap64_id (by omega))) rfl ?_
              refine rl_y (y_assign rfl rfl) rfl ?_
              refine rl_end (ρ' := [(7, _), (10, _), (13, _), (14, _)]) ⟨rfl, rfl, rfl, rfl, trivial⟩ ?_
              refine q_thenK ?_
              refine ⟨m' - 1, _, _, by omega, ?_, ?_, n + 1, by omega, rfl, rfl, rfl, rfl⟩
              · exact ⟨rfl, rfl, rfl, rfl, trivial⟩
              · exact ⟨rfl, rfl, trivial⟩
            ·
              have hnp : n = pn := by have := of_decide_eq_false hb15; omega
              refine wc_exit ?_
              refine q_then_exit ?_
              refine q_then_exit ?_
              refine q_block_hit ?_
              refine q_then ?_
              refine wc_seq ?_
              have hbx : it t p (i + n) = it t p i := by rw [← hfix]; congr 1; omega
              refine wc_region ?_
              refine rl_y (y_load_p rfl Try.k26 rfl rfl rfl (vs := [_, _, _, _, _, _, _, _, _]) rfl rfl rfl) rfl ?_
              refine rl_y (y_load_p rfl Try.k26 rfl rfl rfl (vs := [_, _, _, _, _, _, _, _, _]) rfl rfl rfl) rfl ?_
              refine rl_y (y_eq_box rfl rfl rfl rfl) rfl ?_
              rw [decide_eq_true ⟨hbx, rfl⟩]
              refine rl_y (y_move rfl rfl) rfl ?_
              refine rl_on rfl rfl ?_
              refine rl_call_f (caps := []) rfl rfl Try.c10 rfl (FnP.mono (awake_fn _) ?_)
              rintro v u1 hle1 rfl
              refine rl_y (y_pick_t rfl rfl rfl) rfl ?_
              refine rl_y (y_assign rfl rfl) rfl ?_
              refine rl_end (ρ' := [(6, _)]) ⟨rfl, trivial⟩ ?_
              refine q_then ?_
              refine wc_ret ?_
              refine fin1 (.tmp rfl) ?_
              rfl

theorem law_more (start a0 a1 a2 a3 a4 a5 a6 a7 most more : Int) (u : View) :
    FnP Try.prog 6 [.int .i64 start, .agg #[.int .i64 a0, .int .i64 a1, .int .i64 a2, .int .i64 a3, .int .i64 a4, .int .i64 a5, .int .i64 a6, .int .i64 a7], .int .i64 most, .int .i64 more] u fun v _ => v = .bool true := by
  generalize hT : [a0, a1, a2, a3, a4, a5, a6, a7] = t
  refine FnP.intro [.tmp 8] Try.func6 rfl rfl rfl ?_
  intro w0 hw0
  refine wc_seq ?_
  refine wc_region ?_
  refine rl_box rfl (cs := [_, _, _, _, _, _, _, _]) rfl rfl rfl rfl ?_
  refine rl_y (y_assign rfl rfl) rfl ?_
  refine rl_end (ρ' := [(0, _), (2, _), (3, _), (5, _)]) ⟨rfl, rfl, rfl, rfl, trivial⟩ ?_
  refine q_then ?_
  refine wc_seq ?_
  refine wc_seq ?_
  refine wc_cutB 34 ((((!(decide (-9 ≤ most) && decide (most ≤ 99))) || (!(decide (-9 ≤ more) && decide (more ≤ 99)))) || decide (more < most)) || decide (64 < more)) (ρk := [(0, _), (2, _), (3, _), (5, _)]) ⟨rfl, rfl, rfl, rfl, trivial⟩ ?_ ?_
  ·
    refine wc_region ?_
    refine rl_y (y_move rfl rfl) rfl ?_
    refine rl_call_f (caps := []) rfl rfl Try.c9 rfl (FnP.mono (small_fn most _) ?_)
    rintro v u1 hle1 rfl
    refine rl_y (y_not rfl rfl) rfl ?_
    refine rl_y (y_move rfl rfl) rfl ?_
    rcases Bool.eq_false_or_eq_true (!(decide (-9 ≤ most) && decide (most ≤ 99))) with hg1_3 | hg1_3
    ·
      simp only [hg1_3]
      refine rl_off rfl rfl rfl rfl ?_
      refine rl_off rfl rfl rfl rfl ?_
      refine rl_off rfl rfl rfl rfl ?_
      refine rl_y (y_pick_t rfl rfl rfl) rfl ?_
      refine rl_y (y_move rfl rfl) rfl ?_
      refine rl_off rfl rfl rfl rfl ?_
      refine rl_off rfl rfl rfl rfl ?_
      refine rl_off rfl rfl rfl rfl ?_
      refine rl_y (y_pick_t rfl rfl rfl) rfl ?_
      refine rl_y (y_move rfl rfl) rfl ?_
      refine rl_off rfl rfl rfl rfl ?_
      refine rl_off rfl rfl rfl rfl ?_
      refine rl_y (y_pick_t rfl rfl rfl) rfl ?_
      exact cutB_end rfl ⟨rfl, rfl, rfl, rfl, trivial⟩ (by simp)
    ·
      simp only [hg1_3]
      refine rl_on rfl rfl ?_
      refine rl_y (y_move rfl rfl) rfl ?_
      refine rl_on rfl rfl ?_
      refine rl_call_f (caps := []) rfl rfl Try.c9 rfl (FnP.mono (small_fn more _) ?_)
      rintro v u1 hle1 rfl
      refine rl_on rfl rfl ?_
      refine rl_y (y_not rfl rfl) rfl ?_
      refine rl_y (y_pick_f rfl rfl rfl) rfl ?_
      refine rl_y (y_move rfl rfl) rfl ?_
      rcases Bool.eq_false_or_eq_true (!(decide (-9 ≤ more) && decide (more ≤ 99))) with hg1_8 | hg1_8
      ·
        simp only [hg1_8]
        refine rl_off rfl rfl rfl rfl ?_
        refine rl_off rfl rfl rfl rfl ?_
        refine rl_off rfl rfl rfl rfl ?_
        refine rl_y (y_pick_t rfl rfl rfl) rfl ?_
        refine rl_y (y_move rfl rfl) rfl ?_
        refine rl_off rfl rfl rfl rfl ?_
        refine rl_off rfl rfl rfl rfl ?_
        refine rl_y (y_pick_t rfl rfl rfl) rfl ?_
        exact cutB_end rfl ⟨rfl, rfl, rfl, rfl, trivial⟩ (by simp)
      ·
        simp only [hg1_8]
        refine rl_on rfl rfl ?_
        refine rl_y (y_move rfl rfl) rfl ?_
        refine rl_on rfl rfl ?_
        refine rl_y (y_move rfl rfl) rfl ?_
        refine rl_on rfl rfl ?_
        refine rl_y (y_lss rfl rfl rfl) rfl ?_
        refine rl_y (y_pick_f rfl rfl rfl) rfl ?_
        refine rl_y (y_move rfl rfl) rfl ?_
        rcases Bool.eq_false_or_eq_true (decide (more < most)) with hg1_13 | hg1_13
        ·
          simp only [hg1_13]
          refine rl_off rfl rfl rfl rfl ?_
          refine rl_off rfl rfl rfl rfl ?_
          refine rl_y (y_pick_t rfl rfl rfl) rfl ?_
          exact cutB_end rfl ⟨rfl, rfl, rfl, rfl, trivial⟩ (by simp)
        ·
          simp only [hg1_13]
          refine rl_on rfl rfl ?_
          refine rl_y (y_move rfl rfl) rfl ?_
          refine rl_on rfl rfl ?_
          refine rl_y (y_gtr rfl rfl rfl) rfl ?_
          refine rl_y (y_pick_f rfl rfl rfl) rfl ?_
          exact cutB_end rfl ⟨rfl, rfl, rfl, rfl, trivial⟩ (by simp)
  refine q_then ?_
  refine wc_cond rfl (fun hb1 => ?_) (fun hb1 => ?_)
  ·
    refine wc_seq ?_
    refine wc_region ?_
    refine rl_call_f (caps := []) rfl rfl Try.c10 rfl (FnP.mono (awake_fn _) ?_)
    rintro v u1 hle1 rfl
    refine rl_y (y_assign rfl rfl) rfl ?_
    refine rl_end (ρ' := [(8, _)]) ⟨rfl, trivial⟩ ?_
    refine q_then ?_
    refine wc_ret ?_
    refine q_then_ret ?_
    refine fin1 (.tmp rfl) ?_
    rfl
  ·
    refine wc_skip ?_
    refine q_then ?_
    refine wc_seq ?_
    refine wc_region ?_
    refine rl_y (y_move rfl rfl) rfl ?_
    refine rl_y (y_and7 rfl rfl rfl) rfl ?_
    refine rl_y (y_load_p rfl Try.k22 rfl rfl rfl (vs := [_, _, _, _, _, _, _, _]) rfl rfl rfl) rfl ?_
    refine rl_y (y_build rfl Try.f26' Try.z26 (ps := [(_, _), (_, _)]) rfl (vs := [_, _, _, _, _, _, _, _, _]) rfl) rfl ?_
    refine rl_alloc Try.z26 rfl rfl rfl ?_
    refine rl_store_p Try.k26 rfl rfl rfl (vs := [_, _, _, _, _, _, _, _, _]) rfl rfl (by first | rfl | simp [Value.oneCell', str]) rfl rfl ?_
    refine rl_end (ρ' := [(2, _), (3, _), (9, _)]) ⟨rfl, rfl, rfl, trivial⟩ ?_
    refine q_then ?_
    refine wc_seq ?_
    refine wc_region ?_
    refine rl_y (y_load_p rfl Try.k26 rfl rfl rfl (vs := [_, _, _, _, _, _, _, _, _]) rfl rfl rfl) rfl ?_
    refine rl_y (y_move rfl rfl) rfl ?_
    refine rl_call_f (caps := []) rfl rfl Try.c11 rfl (FnP.mono (run_fn2 (start % 8) a0 a1 a2 a3 a4 a5 a6 a7 most _) ?_)
    rintro v u1 hle1 ⟨x0, x1, x2, x3, x4, x5, x6, x7, x8, kn, k, per, e, rfl, hO, hz, hnz⟩
    refine rl_y (y_move rfl rfl) rfl ?_
    refine rl_y (y_extract rfl rfl rfl) rfl ?_
    refine rl_y (y_extract rfl rfl rfl) rfl ?_
    refine rl_y (y_extract rfl rfl rfl) rfl ?_
    refine rl_y (y_extract rfl rfl rfl) rfl ?_
    refine rl_alloc Try.z26 rfl rfl rfl ?_
    refine rl_store_p Try.k26 rfl rfl rfl (vs := [_, _, _, _, _, _, _, _, _]) rfl rfl (by first | rfl | simp [Value.oneCell', str]) rfl rfl ?_
    refine rl_y (y_assign rfl rfl) rfl ?_
    refine rl_y (y_assign rfl rfl) rfl ?_
    refine rl_y (y_assign rfl rfl) rfl ?_
    refine rl_end (ρ' := [(2, _), (3, _), (9, _), (10, _), (11, _), (12, _), (13, _)]) ⟨rfl, rfl, rfl, rfl, rfl, rfl, rfl, trivial⟩ ?_
    refine q_then ?_
    refine wc_seq ?_
    refine wc_region ?_
    refine rl_y (y_load_p rfl Try.k26 rfl rfl rfl (vs := [_, _, _, _, _, _, _, _, _]) rfl rfl rfl) rfl ?_
    refine rl_y (y_move rfl rfl) rfl ?_
    refine rl_call_f (caps := []) rfl rfl Try.c11 rfl (FnP.mono (run_fn2 (start % 8) a0 a1 a2 a3 a4 a5 a6 a7 more _) ?_)
    rintro v u1 hle1 ⟨y0, y1, y2, y3, y4, y5, y6, y7, y8, kn', k', per', e', rfl, hO', hz2, hnz2⟩
    rw [hT] at hO hz hO' hz2
    generalize hp : start % 8 = p at *
    have hmore : most ≤ more ∧ more ≤ 64 := by simp at hb1; omega
    refine rl_y (y_move rfl rfl) rfl ?_
    refine rl_y (y_extract rfl rfl rfl) rfl ?_
    refine rl_y (y_extract rfl rfl rfl) rfl ?_
    refine rl_y (y_extract rfl rfl rfl) rfl ?_
    refine rl_y (y_extract rfl rfl rfl) rfl ?_
    refine rl_alloc Try.z26 rfl rfl rfl ?_
    refine rl_store_p Try.k26 rfl rfl rfl (vs := [_, _, _, _, _, _, _, _, _]) rfl rfl (by first | rfl | simp [Value.oneCell', str]) rfl rfl ?_
    refine rl_y (y_assign rfl rfl) rfl ?_
    refine rl_y (y_assign rfl rfl) rfl ?_
    refine rl_y (y_assign rfl rfl) rfl ?_
    refine rl_end (ρ' := [(2, _), (10, _), (11, _), (12, _), (13, _), (14, _), (15, _), (16, _), (17, _)]) ⟨rfl, rfl, rfl, rfl, rfl, rfl, rfl, rfl, rfl, trivial⟩ ?_
    refine q_then ?_
    refine wc_seq ?_
    refine wc_seq ?_
    refine wc_cutB 61 (decide (e ≠ 0) && decide (e ≠ 10)) (ρk := [(2, _), (10, _), (11, _), (12, _), (13, _), (14, _), (15, _), (16, _), (17, _)]) ⟨rfl, rfl, rfl, rfl, rfl, rfl, rfl, rfl, rfl, trivial⟩ ?_ ?_
    ·
      refine wc_region ?_
      refine rl_y (y_move rfl rfl) rfl ?_
      refine rl_y (y_neq rfl rfl rfl) rfl ?_
      refine rl_y (y_move rfl rfl) rfl ?_
      rcases Bool.eq_false_or_eq_true (decide (e ≠ 0)) with hg6_2 | hg6_2
      ·
        simp only [hg6_2]
        refine rl_on rfl rfl ?_
        refine rl_y (y_move rfl rfl) rfl ?_
        refine rl_on rfl rfl ?_
        refine rl_y (y_neq rfl rfl rfl) rfl ?_
        refine rl_y (y_pick_t rfl rfl rfl) rfl ?_
        exact cutB_end rfl ⟨rfl, rfl, rfl, rfl, rfl, rfl, rfl, rfl, rfl, trivial⟩ (by simp)
      ·
        simp only [hg6_2]
        refine rl_off rfl rfl rfl rfl ?_
        refine rl_off rfl rfl rfl rfl ?_
        refine rl_y (y_pick_f rfl rfl rfl) rfl ?_
        exact cutB_end rfl ⟨rfl, rfl, rfl, rfl, rfl, rfl, rfl, rfl, rfl, trivial⟩ (by simp)
    refine q_then ?_
    refine wc_cond rfl (fun hb6 => ?_) (fun hb6 => ?_)
    ·
      refine wc_seq ?_
      have hne : e ≠ 0 ∧ e ≠ 10 := by simpa using hb6
      have heq : (decide (e = 2) == decide (most < 1)) = true := by
        rcases hO with ⟨h1, _, _, _, h2⟩ | ⟨h1, h2, _, j, hE, _⟩
        · rw [decide_eq_true h2, decide_eq_true (show most < 1 by omega)]; rfl
        · rcases hE.kinds with h | h | h
          · exact absurd h hne.1
          · exact absurd h hne.2
          · rw [decide_eq_false (show ¬ e = 2 by omega), decide_eq_false (show ¬ most < 1 by omega)]; rfl
      refine wc_region ?_
      refine rl_y (y_move rfl rfl) rfl ?_
      refine rl_y (y_eql rfl rfl rfl) rfl ?_
      refine rl_y (y_move rfl rfl) rfl ?_
      refine rl_y (y_lss rfl rfl rfl) rfl ?_
      refine rl_y (y_bool_eql rfl rfl rfl Try.b4) rfl ?_
      rw [heq]
      refine rl_y (y_move rfl rfl) rfl ?_
      refine rl_on rfl rfl ?_
      refine rl_call_f (caps := []) rfl rfl Try.c10 rfl (FnP.mono (awake_fn _) ?_)
      rintro v u1 hle1 rfl
      refine rl_y (y_pick_t rfl rfl rfl) rfl ?_
      refine rl_y (y_assign rfl rfl) rfl ?_
      refine rl_end (ρ' := [(8, _)]) ⟨rfl, trivial⟩ ?_
      refine q_then ?_
      refine wc_ret ?_
      refine q_then_ret ?_
      refine fin1 (.tmp rfl) ?_
      rfl
    ·
      refine wc_skip ?_
      refine q_then ?_
      refine wc_seq ?_
      have hne : e = 0 ∨ e = 10 := by
        simp at hb6
        by_cases h : e = 0
        · exact .inl h
        · exact .inr (hb6 h)
      have hsame : kn = kn' ∧ k = k' ∧ per = per' ∧ e = e' := by
        rcases hO with ⟨_, _, _, _, h2⟩ | ⟨h1, h2, hk, j, hE, hper⟩
        · omega
        · refine Out.unique (.inr ⟨by omega, by omega, hk, j, hE.more (by omega) (by omega), hper⟩) hO'
      obtain ⟨rfl, rfl, rfl, rfl⟩ := hsame
      have hxy : x0 = y0 ∧ [x1, x2, x3, x4, x5, x6, x7, x8] = [y1, y2, y3, y4, y5, y6, y7, y8] := by
        by_cases h : e = 0
        · obtain ⟨h1, h2⟩ := hz h
          obtain ⟨h3, h4⟩ := hz2 h
          exact ⟨h1.trans h3.symm, h2.trans h4.symm⟩
        · obtain ⟨h1, h2⟩ := hnz h
          obtain ⟨h3, h4⟩ := hnz2 h
          exact ⟨h1.trans h3.symm, h2.trans h4.symm⟩
      refine wc_region ?_
      refine rl_y (y_load_p rfl Try.k26 rfl rfl rfl (vs := [_, _, _, _, _, _, _, _, _]) rfl rfl rfl) rfl ?_
      refine rl_y (y_load_p rfl Try.k26 rfl rfl rfl (vs := [_, _, _, _, _, _, _, _, _]) rfl rfl rfl) rfl ?_
      refine rl_y (y_eq_box rfl rfl rfl rfl) rfl ?_
      rw [decide_eq_true hxy]
      refine rl_y (y_move rfl rfl) rfl ?_
      refine rl_on rfl rfl ?_
      refine rl_y (y_move rfl rfl) rfl ?_
      refine rl_on rfl rfl ?_
      refine rl_y (y_move rfl rfl) rfl ?_
      refine rl_on rfl rfl ?_
      refine rl_y (y_eql rfl rfl rfl) rfl ?_
      rw [decide_eq_true (show k = k from rfl)]
      refine rl_y (y_pick_t rfl rfl rfl) rfl ?_
      refine rl_y (y_move rfl rfl) rfl ?_
      refine rl_on rfl rfl ?_
      refine rl_y (y_move rfl rfl) rfl ?_
      refine rl_on rfl rfl ?_
      refine rl_y (y_move rfl rfl) rfl ?_
      refine rl_on rfl rfl ?_
      refine rl_y (y_eql rfl rfl rfl) rfl ?_
      rw [decide_eq_true (show per = per from rfl)]
      refine rl_y (y_pick_t rfl rfl rfl) rfl ?_
      refine rl_y (y_move rfl rfl) rfl ?_
      refine rl_on rfl rfl ?_
      refine rl_y (y_move rfl rfl) rfl ?_
      refine rl_on rfl rfl ?_
      refine rl_y (y_move rfl rfl) rfl ?_
      refine rl_on rfl rfl ?_
      refine rl_y (y_eql rfl rfl rfl) rfl ?_
      rw [decide_eq_true (show e = e from rfl)]
      refine rl_y (y_pick_t rfl rfl rfl) rfl ?_
      refine rl_y (y_move rfl rfl) rfl ?_
      refine rl_on rfl rfl ?_
      refine rl_call_f (caps := []) rfl rfl Try.c10 rfl (FnP.mono (awake_fn _) ?_)
      rintro v u1 hle1 rfl
      refine rl_y (y_pick_t rfl rfl rfl) rfl ?_
      refine rl_y (y_assign rfl rfl) rfl ?_
      refine rl_end (ρ' := [(8, _)]) ⟨rfl, trivial⟩ ?_
      refine q_then ?_
      refine wc_ret ?_
      refine fin1 (.tmp rfl) ?_
      rfl
end Go.Proofs.Ytchmiljeidkkpaa
