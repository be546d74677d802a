/- Settle: the four statements on boxes, as calls. -/
import Derived.Test.YtchmiljeidkkpaaSetG
namespace Go.Proofs.Ytchmiljeidkkpaa
open Go Go.Eng

/-- what Run and the reference answer: rounds, period, error -/
def Out {α : Type} (f : Nat → α) (most : Int) (kn : Nat) (k per e : Int) : Prop :=
  (¬ (1 ≤ most ∧ most ≤ 64) ∧ kn = 0 ∧ k = 0 ∧ per = 0 ∧ e = 2) ∨ (1 ≤ most ∧ most ≤ 64 ∧ k = kn ∧ ∃ j, Ends f most.toNat kn j e ∧ per = if e = 10 then (kn : Int) - j else 0)

theorem Out.unique {α : Type} {f : Nat → α} {most : Int} {kn kn' : Nat} {k per e k' per' e' : Int} (h : Out f most kn k per e) (h' : Out f most kn' k' per' e') : kn = kn' ∧ k = k' ∧ per = per' ∧ e = e' := by
  rcases h with ⟨h0, h1, h2, h3, h4⟩ | ⟨h0, h1, h2, j, hE, hp⟩ <;> rcases h' with ⟨h0', h1', h2', h3', h4'⟩ | ⟨h0', h1', h2', j', hE', hp'⟩
  · exact ⟨by omega, by omega, by omega, by omega⟩
  · exact absurd ⟨h0', h1'⟩ h0
  · exact absurd ⟨h0, h1⟩ h0'
  · obtain ⟨rfl, rfl, rfl⟩ := hE.unique hE'
    exact ⟨rfl, by omega, by omega, rfl⟩

theorem run_fn2 (p a0 a1 a2 a3 a4 a5 a6 a7 most : Int) (u : View) :
    FnP Try.prog 11 [.agg #[.int .i64 p, .int .i64 a0, .int .i64 a1, .int .i64 a2, .int .i64 a3, .int .i64 a4, .int .i64 a5, .int .i64 a6, .int .i64 a7], .func (.func 12) #[] #[], .int .i64 most] u
      fun v _ => ∃ (x0 x1 x2 x3 x4 x5 x6 x7 x8 : Int) (kn : Nat) (k per e : Int), v = .tuple #[.agg #[.int .i64 x0, .int .i64 x1, .int .i64 x2, .int .i64 x3, .int .i64 x4, .int .i64 x5, .int .i64 x6, .int .i64 x7, .int .i64 x8], .int .i64 k, .int .i64 per, .int .i64 e] ∧
        Out (it [a0, a1, a2, a3, a4, a5, a6, a7] p) most kn k per e ∧ (e = 0 → x0 = it [a0, a1, a2, a3, a4, a5, a6, a7] p kn ∧ [x1, x2, x3, x4, x5, x6, x7, x8] = [a0, a1, a2, a3, a4, a5, a6, a7]) ∧ (e ≠ 0 → x0 = 0 ∧ [x1, x2, x3, x4, x5, x6, x7, x8] = [0, 0, 0, 0, 0, 0, 0, 0]) := by
  refine (run_fn p [a0, a1, a2, a3, a4, a5, a6, a7] rfl most u).mono ?_
  intro v u' _ h
  by_cases hm : 1 ≤ most ∧ most ≤ 64
  · rw [if_pos hm] at h
    obtain ⟨k, j, e, hE, rfl⟩ := h
    unfold setRes
    by_cases he : e = 0
    · rw [if_pos he]
      exact ⟨_, _, _, _, _, _, _, _, _, k, _, _, _, rfl, .inr ⟨hm.1, hm.2, rfl, j, hE, rfl⟩, fun _ => ⟨rfl, rfl⟩, fun h => absurd he h⟩
    · rw [if_neg he]
      exact ⟨_, _, _, _, _, _, _, _, _, k, _, _, _, rfl, .inr ⟨hm.1, hm.2, rfl, j, hE, rfl⟩, fun h => absurd h he, fun _ => ⟨rfl, rfl⟩⟩
  · rw [if_neg hm] at h
    subst h
    exact ⟨_, _, _, _, _, _, _, _, _, 0, _, _, _, rfl, .inl ⟨hm, rfl, rfl, rfl, rfl⟩, fun h => absurd h (by decide), fun _ => ⟨rfl, rfl⟩⟩

theorem ref_fn2 (start a0 a1 a2 a3 a4 a5 a6 a7 most : Int) (u : View) :
    FnP Try.prog 13 [.int .i64 start, .agg #[.int .i64 a0, .int .i64 a1, .int .i64 a2, .int .i64 a3, .int .i64 a4, .int .i64 a5, .int .i64 a6, .int .i64 a7], .int .i64 most] u
      fun v _ => ∃ (x : Int) (kn : Nat) (k per e : Int), v = .tuple #[.int .i64 x, .int .i64 k, .int .i64 per, .int .i64 e] ∧ Out (it [a0, a1, a2, a3, a4, a5, a6, a7] (start % 8)) most kn k per e ∧ (e = 0 → x = it [a0, a1, a2, a3, a4, a5, a6, a7] (start % 8) kn) := by
  refine (ref_fn start [a0, a1, a2, a3, a4, a5, a6, a7] rfl most u).mono ?_
  intro v u' _ h
  by_cases hm : 1 ≤ most ∧ most ≤ 64
  · rw [if_pos hm] at h
    obtain ⟨k, j, e, hE, rfl⟩ := h
    exact ⟨_, k, _, _, _, rfl, .inr ⟨hm.1, hm.2, rfl, j, hE, rfl⟩, fun h => if_pos h⟩
  · rw [if_neg hm] at h
    subst h
    exact ⟨_, 0, _, _, _, rfl, .inl ⟨hm, rfl, rfl, rfl, rfl⟩, fun h => absurd h (by decide)⟩

section
variable {F : Fx} {ρ : Env} {σ : Own} {u : View} {μ : Mem} {σS : Own} {uS : View} {μS : Mem} {o : Oper}
theorem y_eq_box {x y : Operand} {t' : TypeId} {p a0 a1 a2 a3 a4 a5 a6 a7 q b0 b1 b2 b3 b4 b5 b6 b7 : Int} (hP : F.P = Try.prog) (ho : o.op = .binOp .eql 26 x y t')
    (hx : opv ρ x = some (.v (.agg #[.int .i64 p, .int .i64 a0, .int .i64 a1, .int .i64 a2, .int .i64 a3, .int .i64 a4, .int .i64 a5, .int .i64 a6, .int .i64 a7])))
    (hy : opv ρ y = some (.v (.agg #[.int .i64 q, .int .i64 b0, .int .i64 b1, .int .i64 b2, .int .i64 b3, .int .i64 b4, .int .i64 b5, .int .i64 b6, .int .i64 b7]))) :
    Yld F σS uS μS ρ σ u μ o (.v (.bool (decide (p = q ∧ [a0, a1, a2, a3, a4, a5, a6, a7] = [b0, b1, b2, b3, b4, b5, b6, b7])))) := by
  refine y_run fun a h w => ?_
  have h1 := h _ _ hx
  have h2 := h _ _ hy
  have := eq_box x y p q [a0, a1, a2, a3, a4, a5, a6, a7] [b0, b1, b2, b3, b4, b5, b6, b7] rfl rfl w
  simp only [execOp, ho, h1, h2, hP]
  rw [Sem.run_bind]
  erw [this]
  rfl
end

theorem law_runs (start a0 a1 a2 a3 a4 a5 a6 a7 most : Int) (u : View) :
    FnP Try.prog 3 [.int .i64 start, .agg #[.int .i64 a0, .int .i64 a1, .int .i64 a2, .int .i64 a3, .int .i64 a4, .int .i64 a5, .int .i64 a6, .int .i64 a7], .int .i64 most] u fun v _ => v = .bool true := by
  refine FnP.intro [.tmp 6] Try.func3 rfl rfl rfl ?_
  intro w0 hw0
  refine wc_seq ?_
  refine wc_region ?_
  refine rl_box rfl (cs := [_, _, _, _, _, _, _, _]) rfl rfl rfl rfl ?_
  refine rl_y (y_assign rfl rfl) rfl ?_
  refine rl_end (ρ' := [(0, _), (2, _), (4, _)]) ⟨rfl, rfl, rfl, trivial⟩ ?_
  refine q_then ?_
  refine wc_seq ?_
  refine wc_seq ?_
  refine wc_region ?_
  refine rl_y (y_move rfl rfl) rfl ?_
  refine rl_call_f (caps := []) rfl rfl Try.c9 rfl (FnP.mono (small_fn most _) ?_)
  rintro v u1 hle1 rfl
  refine rl_y (y_not rfl rfl) rfl ?_
  refine rl_end (ρ' := [(0, _), (2, _), (4, _), (17, _)]) ⟨rfl, rfl, rfl, rfl, trivial⟩ ?_
  refine q_then ?_
  refine wc_cond rfl (fun hb1 => ?_) (fun hb1 => ?_)
  ·
    refine wc_seq ?_
    refine wc_region ?_
    refine rl_call_f (caps := []) rfl rfl Try.c10 rfl (FnP.mono (awake_fn _) ?_)
    rintro v u1 hle1 rfl
    refine rl_y (y_assign rfl rfl) rfl ?_
    refine rl_end (ρ' := [(6, _)]) ⟨rfl, trivial⟩ ?_
    refine q_then ?_
    refine wc_ret ?_
    refine q_then_ret ?_
    refine fin1 (.tmp rfl) ?_
    rfl
  ·
    refine wc_skip ?_
    refine q_then ?_
    refine wc_seq ?_
    refine wc_region ?_
    refine rl_y (y_move rfl rfl) rfl ?_
    refine rl_y (y_and7 rfl rfl rfl) rfl ?_
    refine rl_y (y_load_p rfl Try.k22 rfl rfl rfl (vs := [_, _, _, _, _, _, _, _]) rfl rfl rfl) rfl ?_
    refine rl_y (y_build rfl Try.f26' Try.z26 (ps := [(_, _), (_, _)]) rfl (vs := [_, _, _, _, _, _, _, _, _]) rfl) rfl ?_
    refine rl_y (y_move rfl rfl) rfl ?_
    refine rl_call_f (caps := []) rfl rfl Try.c11 rfl (FnP.mono (run_fn2 (start % 8) a0 a1 a2 a3 a4 a5 a6 a7 most _) ?_)
    rintro v u1 hle1 ⟨x0, x1, x2, x3, x4, x5, x6, x7, x8, kn, k, per, e, rfl, hO, hz, hnz⟩
    refine rl_y (y_move rfl rfl) rfl ?_
    refine rl_y (y_extract rfl rfl rfl) rfl ?_
    refine rl_y (y_extract rfl rfl rfl) rfl ?_
    refine rl_y (y_extract rfl rfl rfl) rfl ?_
    refine rl_y (y_extract rfl rfl rfl) rfl ?_
    refine rl_alloc Try.z26 rfl rfl rfl ?_
    refine rl_store_p Try.k26 rfl rfl rfl (vs := [_, _, _, _, _, _, _, _, _]) rfl rfl (by first | rfl | simp [Value.oneCell', str]) rfl rfl ?_
    refine rl_y (y_assign rfl rfl) rfl ?_
    refine rl_y (y_assign rfl rfl) rfl ?_
    refine rl_y (y_assign rfl rfl) rfl ?_
    refine rl_end (ρ' := [(0, _), (2, _), (4, _), (7, _), (8, _), (9, _), (10, _)]) ⟨rfl, rfl, rfl, rfl, rfl, rfl, rfl, trivial⟩ ?_
    refine q_then ?_
    refine wc_seq ?_
    refine wc_region ?_
    refine rl_y (y_move rfl rfl) rfl ?_
    refine rl_y (y_load_p rfl Try.k22 rfl rfl rfl (vs := [_, _, _, _, _, _, _, _]) rfl rfl rfl) rfl ?_
    refine rl_y (y_move rfl rfl) rfl ?_
    refine rl_call_f (caps := []) rfl rfl Try.c13 rfl (FnP.mono (ref_fn2 start a0 a1 a2 a3 a4 a5 a6 a7 most _) ?_)
    rintro v u1 hle1 ⟨y, kn', k', per', e', rfl, hO', hy⟩
    obtain ⟨rfl, rfl, rfl, rfl⟩ := hO.unique hO'
    refine rl_y (y_move rfl rfl) rfl ?_
    refine rl_y (y_extract rfl rfl rfl) rfl ?_
    refine rl_y (y_extract rfl rfl rfl) rfl ?_
    refine rl_y (y_extract rfl rfl rfl) rfl ?_
    refine rl_y (y_extract rfl rfl rfl) rfl ?_
    refine rl_y (y_assign rfl rfl) rfl ?_
    refine rl_y (y_assign rfl rfl) rfl ?_
    refine rl_y (y_assign rfl rfl) rfl ?_
    refine rl_y (y_assign rfl rfl) rfl ?_
    refine rl_end (ρ' := [(4, _), (7, _), (8, _), (9, _), (10, _), (11, _), (12, _), (13, _), (14, _)]) ⟨rfl, rfl, rfl, rfl, rfl, rfl, rfl, rfl, rfl, trivial⟩ ?_
    refine q_then ?_
    refine wc_seq ?_
    refine wc_seq ?_
    refine wc_region ?_
    refine rl_y (y_move rfl rfl) rfl ?_
    refine rl_y (y_move rfl rfl) rfl ?_
    refine rl_y (y_neq rfl rfl rfl) rfl ?_
    rw [show decide (e ≠ e) = false from by simp]
    refine rl_y (y_move rfl rfl) rfl ?_
    refine rl_on rfl rfl ?_
    refine rl_y (y_move rfl rfl) rfl ?_
    refine rl_on rfl rfl ?_
    refine rl_y (y_move rfl rfl) rfl ?_
    refine rl_on rfl rfl ?_
    refine rl_y (y_neq rfl rfl rfl) rfl ?_
    rw [show decide (k ≠ k) = false from by simp]
    refine rl_y (y_pick_f rfl rfl rfl) rfl ?_
    refine rl_y (y_move rfl rfl) rfl ?_
    refine rl_on rfl rfl ?_
    refine rl_y (y_move rfl rfl) rfl ?_
    refine rl_on rfl rfl ?_
    refine rl_y (y_move rfl rfl) rfl ?_
    refine rl_on rfl rfl ?_
    refine rl_y (y_neq rfl rfl rfl) rfl ?_
    rw [show decide (per ≠ per) = false from by simp]
    refine rl_y (y_pick_f rfl rfl rfl) rfl ?_
    refine rl_end (ρ' := [(4, _), (7, _), (10, _), (11, _), (51, _)]) ⟨rfl, rfl, rfl, rfl, rfl, trivial⟩ ?_
    refine q_then ?_
    refine wc_cond_f rfl (rfl) ?_
    refine wc_skip ?_
    refine q_then ?_
    refine wc_seq ?_
    refine wc_seq ?_
    refine wc_region ?_
    refine rl_y (y_move rfl rfl) rfl ?_
    refine rl_y (y_neq rfl rfl rfl) rfl ?_
    refine rl_end (ρ' := [(4, _), (7, _), (11, _), (53, _)]) ⟨rfl, rfl, rfl, rfl, trivial⟩ ?_
    refine q_then ?_
    refine wc_cond rfl (fun hb7 => ?_) (fun hb7 => ?_)
    ·
      obtain ⟨rfl, hz'⟩ := hnz (by simpa using hb7)
      refine wc_seq ?_
      refine wc_region ?_
      refine rl_y (y_load_p rfl Try.k26 rfl rfl rfl (vs := [_, _, _, _, _, _, _, _, _]) rfl rfl rfl) rfl ?_
      refine rl_y (y_build rfl Try.f26' Try.z26 (ps := []) rfl (vs := [_, _, _, _, _, _, _, _, _]) rfl) rfl ?_
      refine rl_y (y_eq_box rfl rfl rfl rfl) rfl ?_
      rw [decide_eq_true ⟨rfl, hz'⟩]
      refine rl_y (y_move rfl rfl) rfl ?_
      refine rl_on rfl rfl ?_
      refine rl_call_f (caps := []) rfl rfl Try.c10 rfl (FnP.mono (awake_fn _) ?_)
      rintro v u1 hle1 rfl
      refine rl_y (y_pick_t rfl rfl rfl) rfl ?_
      refine rl_y (y_assign rfl rfl) rfl ?_
      refine rl_end (ρ' := [(6, _)]) ⟨rfl, trivial⟩ ?_
      refine q_then ?_
      refine wc_ret ?_
      refine q_then_ret ?_
      refine fin1 (.tmp rfl) ?_
      rfl
    ·
      obtain ⟨hx0, hz'⟩ := hz (by simpa using hb7); have hyk := hy (by simpa using hb7); subst hx0; subst hyk
      refine wc_skip ?_
      refine q_then ?_
      refine wc_seq ?_
      refine wc_region ?_
      refine rl_y (y_load_p rfl Try.k26 rfl rfl rfl (vs := [_, _, _, _, _, _, _, _, _]) rfl rfl rfl) rfl ?_
      refine rl_y (y_move rfl rfl) rfl ?_
      refine rl_y (y_load_p rfl Try.k22 rfl rfl rfl (vs := [_, _, _, _, _, _, _, _]) rfl rfl rfl) rfl ?_
      refine rl_y (y_build rfl Try.f26' Try.z26 (ps := [(_, _), (_, _)]) rfl (vs := [_, _, _, _, _, _, _, _, _]) rfl) rfl ?_
      refine rl_y (y_eq_box rfl rfl rfl rfl) rfl ?_
      rw [decide_eq_true ⟨rfl, hz'⟩]
      refine rl_y (y_move rfl rfl) rfl ?_
      refine rl_on rfl rfl ?_
      refine rl_call_f (caps := []) rfl rfl Try.c10 rfl (FnP.mono (awake_fn _) ?_)
      rintro v u1 hle1 rfl
      refine rl_y (y_pick_t rfl rfl rfl) rfl ?_
      refine rl_y (y_assign rfl rfl) rfl ?_
      refine rl_end (ρ' := [(6, _)]) ⟨rfl, trivial⟩ ?_
      refine q_then ?_
      refine wc_ret ?_
      refine fin1 (.tmp rfl) ?_
      rfl
end Go.Proofs.Ytchmiljeidkkpaa
