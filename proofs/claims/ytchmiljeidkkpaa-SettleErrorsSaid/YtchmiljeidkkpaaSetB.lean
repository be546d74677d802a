/- Settle: boxes are compared, behind a deferred recover. -/
import Derived.Test.YtchmiljeidkkpaaSetA
import Derived.Laws.StructEq
import Derived.Test.YtchmiljeidkkpaaEngDefer
import Derived.Recover
namespace Go.Proofs.Ytchmiljeidkkpaa
open Go Go.Eng

def vals (l : List Int) : List Value := l.map (Value.int .i64)

theorem part_int (xs : Array Value) (i : Nat) (x : Value) (w : World) (h : xs[i]? = some x) : (part 3 xs i).run Try.prog w = .ok x w := by
  unfold part
  rw [Sem.run_bind, run_isAgg Try.k3]
  simp [h]

theorem eq_arr (d : Nat) (a0 a1 a2 a3 a4 a5 a6 a7 b0 b1 b2 b3 b4 b5 b6 b7 : Int) (w : World) :
    (Op.equalIn (d + 2) 22 (.agg #[.int .i64 a0, .int .i64 a1, .int .i64 a2, .int .i64 a3, .int .i64 a4, .int .i64 a5, .int .i64 a6, .int .i64 a7]) (.agg #[.int .i64 b0, .int .i64 b1, .int .i64 b2, .int .i64 b3, .int .i64 b4, .int .i64 b5, .int .i64 b6, .int .i64 b7])).run Try.prog w =
     .ok (decide ([a0, a1, a2, a3, a4, a5, a6, a7] = [b0, b1, b2, b3, b4, b5, b6, b7])) w := by
  have hu : Try.prog.underlying 22 = some (.array 8 3) := by kernel_rfl
  have hi : Try.prog.underlying 3 = some (.int .i64) := by kernel_rfl
  have hk : ∀ w, (sizeOf 3).run Try.prog w = .ok 1 w := fun w => Eng.run_sizeOf Try.k3 w
  have hp := part_int
  have he : ∀ (a b : Int) (w : World), (Op.equalIn (d + 1) 3 (.int .i64 a) (.int .i64 b)).run Try.prog w = .ok (a == b) w := fun a b w => run_equalIn_int (P := Try.prog) w d 3 .i64 .i64 a b hi
  unfold Op.equalIn
  simp only [Sem.run_bind, run_underlying hu, Result.andThen_ok, hk]
  simp only [Std.Legacy.Range.forIn_eq_forIn_range', Std.Legacy.Range.size]
  simp [List.range', hp, he]
  by_cases h0 : a0 = b0 <;> simp [h0]
  by_cases h1 : a1 = b1 <;> simp [h1]
  by_cases h2 : a2 = b2 <;> simp [h2]
  by_cases h3 : a3 = b3 <;> simp [h3]
  by_cases h4 : a4 = b4 <;> simp [h4]
  by_cases h5 : a5 = b5 <;> simp [h5]
  by_cases h6 : a6 = b6 <;> simp [h6]
  by_cases h7 : a7 = b7 <;> simp [h7]

theorem eq_box (x y : Operand) (p q : Int) (t s : List Int) (ht : t.length = 8) (hs : s.length = 8) (w : World) : (do eqGuard .eql 26 x y (box p t) (box q s); binOp .eql 26 (box p t) (box q s)).run Try.prog w = .ok (.bool (decide (p = q ∧ t = s))) w := by
  match t, ht, s, hs with
  | [a0, a1, a2, a3, a4, a5, a6, a7], _, [b0, b1, b2, b3, b4, b5, b6, b7], _ =>
  have hg : (eqGuard .eql 26 x y (box p [a0, a1, a2, a3, a4, a5, a6, a7]) (box q [b0, b1, b2, b3, b4, b5, b6, b7])).run Try.prog w = .ok () w := run_eqGuard_agg (P := Try.prog) w _ _ _ _ _ _ (by kernel_rfl)
  have hu : Try.prog.underlying 26 = some (.struct #[{ name := "At", type := 3, offset := 0, embedded := false, tag := "", pkgPath := "", byteOffset := 0 }, { name := "Table", type := 22, offset := 1, embedded := false, tag := "", pkgPath := "", byteOffset := 8 }]) := by kernel_rfl
  have hi : Try.prog.underlying 3 = some (.int .i64) := by kernel_rfl
  have hst : Try.prog.stoodInHeld 26 = false := by kernel_rfl
  have hp := part_int
  have hp2 : ∀ (xs : Array Value) (i : Nat) (w : World), (part 22 xs i).run Try.prog w = .ok (.agg (xs.extract i (i + 8))) w := by
    intro xs i w
    unfold part
    rw [Sem.run_bind, run_isAgg Try.k22]
    simp [Eng.run_sizeOf Try.k22]
  have he : ∀ (d : Nat) (a b : Int) (w : World), (Op.equalIn (d + 1) 3 (.int .i64 a) (.int .i64 b)).run Try.prog w = .ok (a == b) w := fun d a b w => run_equalIn_int (P := Try.prog) w d 3 .i64 .i64 a b hi
  have hb : (binOp .eql 26 (box p [a0, a1, a2, a3, a4, a5, a6, a7]) (box q [b0, b1, b2, b3, b4, b5, b6, b7])).run Try.prog w = .ok (.bool (decide (p = q ∧ [a0, a1, a2, a3, a4, a5, a6, a7] = [b0, b1, b2, b3, b4, b5, b6, b7]))) w := by
    unfold box
    rw [run_eql_struct (P := Try.prog)]
    rw [show (10000 : Nat) = 9997 + 3 from rfl]
    unfold Op.equalIn
    simp only [Sem.run_bind, run_underlying hu, Result.andThen_ok, run_program, hst, Bool.false_eq_true, if_false]
    simp [hp, hp2, he]
    by_cases h0 : p = q
    · simp [h0]
      have := eq_arr 9997 a0 a1 a2 a3 a4 a5 a6 a7 b0 b1 b2 b3 b4 b5 b6 b7 w
      have h9 : (9997 + 2 : Nat) = 9999 := rfl
      rw [h9] at this
      simp [this]
      split
      · rename_i h; rw [h]
      · rename_i h; rw [Bool.not_eq_false] at h; rw [h]
    · simp [h0]
  rw [Sem.run_bind, hg]
  exact hb

theorem same_idle (p : Addr) (w : World) :
    CallsD Try.prog 31 #[.pointer (some p)] .returning w fun e u' w' => e = .returned (.tuple #[]) ∧ u' = .returning ∧ w' = w := by
  refine callsD_of_wpS Try.func31 rfl fun c₀ cs hu => ?_
  apply wpS_seq
  apply wpS_region
  simp [wpOpsS, go_sem, recoverD, hu, Try.ntmps31, Exit.thenS]
  refine wpS_cond (t := false) (by simp [Act.eval, Array.replicate]) ?_
  simp only [Bool.false_eq_true, if_false]
  refine wpS_of_wp (wp_skip ?_)
  cases c₀
  simp_all [bodyPostS, results, Try.results31]

theorem same_fn (p q : Int) (t s : List Int) (ht : t.length = 8) (hs : s.length = 8) (u : View) : FnP Try.prog 23 [box p t, box q s] u fun v _ => v = .bool (decide (p = q ∧ t = s)) := by
  match t, ht, s, hs with
  | [a0, a1, a2, a3, a4, a5, a6, a7], _, [b0, b1, b2, b3, b4, b5, b6, b7], _ =>
  refine FnP.intro_defer (c0 := .region 0 (List.toArray [_, _, _]) false) (c1 := .seq (.region 2 (List.toArray [_, _, _, _]) false) .ret) (zs := [.bool false]) Try.func23 rfl rfl rfl rfl Try.c31 same_idle
    (fun ρ σ _ => ρ = [(4, .p 4 0), (3, .p 3 0), (2, .p 2 0)] ∧ σ = [(4, .box [.bool false]), (3, .box (vals (q :: [b0, b1, b2, b3, b4, b5, b6, b7]))), (2, .box (vals (p :: [a0, a1, a2, a3, a4, a5, a6, a7])))]) ?_ ?_
  · intro w0 _
    refine wc_region ?_
    refine rl_box rfl (cs := vals (p :: [a0, a1, a2, a3, a4, a5, a6, a7])) rfl rfl rfl rfl ?_
    refine rl_box rfl (cs := vals (q :: [b0, b1, b2, b3, b4, b5, b6, b7])) rfl rfl rfl rfl ?_
    refine rl_alloc Try.z4 rfl rfl rfl ?_
    exact rl_end (ρ' := [(4, .p 4 0), (3, .p 3 0), (2, .p 2 0)]) ⟨rfl, rfl, rfl, trivial⟩ ⟨rfl, rfl, rfl, rfl, rfl, rfl⟩
  · rintro w0 b Tb d ρ σ u' ⟨rfl, rfl⟩ hun
    refine wc_seq ?_
    refine wc_region ?_
    refine rl_y (y_load_p rfl Try.k26 rfl rfl rfl (vs := [_, _, _, _, _, _, _, _, _]) rfl rfl rfl) rfl ?_
    refine rl_y (y_load_p rfl Try.k26 rfl rfl rfl (vs := [_, _, _, _, _, _, _, _, _]) rfl rfl rfl) rfl ?_
    refine rl_y (sv := .v (.bool (decide (p = q ∧ [a0, a1, a2, a3, a4, a5, a6, a7] = [b0, b1, b2, b3, b4, b5, b6, b7])))) (y_run fun a h w => ?_) rfl ?_
    · have h6 := h (.tmp 6) _ rfl
      have h7 := h (.tmp 7) _ rfl
      have := eq_box (.tmp 6) (.tmp 7) p q [a0, a1, a2, a3, a4, a5, a6, a7] [b0, b1, b2, b3, b4, b5, b6, b7] rfl rfl w
      simp only [execOp, h6, h7]
      rw [Sem.run_bind]
      erw [this]
      rfl
    refine rl_store_m [] Try.k4 rfl rfl (List.mem_singleton.2 rfl) rfl rfl rfl (by decide) rfl (by simp) ?_
    refine rl_end (ρ' := [(4, _)]) ⟨rfl, trivial⟩ ?_
    refine q_then ?_
    refine wc_ret ?_
    exact ⟨.inr rfl, rfl, _, Tb, _, _, _, _, List.mem_singleton.2 rfl, Try.k4, rfl, rfl, rfl, rfl⟩
end Go.Proofs.Ytchmiljeidkkpaa
