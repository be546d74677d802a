/- Settle: the loop over boxes. -/
import Derived.Test.YtchmiljeidkkpaaSetB
namespace Go.Proofs.Ytchmiljeidkkpaa
open Go Go.Eng

/-- the values, one after the other -/
def it (t : List Int) (p : Int) : Nat → Int
  | 0 => p
  | n + 1 => at8 t (it t p n)

/-- how the rounds end: k rounds; e = 0: the value before the last is the last; e = 10: the last value is that of round j; e = 18: no more rounds -/
def Ends {α : Type} (f : Nat → α) (most k j : Nat) (e : Int) : Prop :=
  1 ≤ k ∧ k ≤ most ∧ (∀ a b, a < b → b < k → f a ≠ f b) ∧
  ((e = 0 ∧ j + 1 = k ∧ f k = f j) ∨ (e = 10 ∧ j + 1 < k ∧ f k = f j) ∨ (e = 18 ∧ k = most ∧ j = k ∧ ∀ i, i < k → f k ≠ f i))

def zbox : Value := box 0 [0, 0, 0, 0, 0, 0, 0, 0]

/-- the four results -/
def setRes (t : List Int) (p : Int) (k j : Nat) (e : Int) : Value :=
  .tuple #[if e = 0 then box (it t p k) t else zbox, .int .i64 k, .int .i64 (if e = 10 then (k : Int) - j else 0), .int .i64 e]

def boxC (t : List Int) (p : Int) (n : Nat) : List Value := vals (it t p n :: t)
theorem boxC_len {t : List Int} (ht : t.length = 8) (p : Int) (n : Nat) : (boxC t p n).length = 9 := by simp [boxC, vals, ht]

theorem step_fn (p : Int) (t : List Int) (ht : t.length = 8) (u : View) (b0 : Nat) (T0 : TypeId) (fr : Nat × Nat) (hu : u b0 = some (.cells #[.func (.func 12) #[] #[]] T0 fr)) :
    FnP Try.prog 22 [box p t, .pointer (some ⟨b0, 0, none⟩)] u fun v _ => v = .tuple #[box (at8 t p) t, .int .i64 0] := by
  match t, ht with
  | [a0, a1, a2, a3, a4, a5, a6, a7], ht =>
  refine FnP.intro [.cell 3 26, .tmp 4] Try.func22 rfl rfl rfl ?_
  intro w0 hw0
  refine wc_seq ?_
  refine wc_region ?_
  refine rl_box rfl (cs := [_, _, _, _, _, _, _, _, _]) rfl rfl rfl rfl ?_
  refine rl_alloc Try.z26 rfl rfl rfl ?_
  refine rl_y (y_assign rfl rfl) rfl ?_
  refine rl_end (ρ' := [(1, _), (2, _), (3, _)]) ⟨rfl, rfl, rfl, trivial⟩ ?_
  refine q_then ?_
  refine wc_seq ?_
  refine wc_region ?_
  refine rl_y (y_load_v rfl Try.k30 rfl hu rfl rfl rfl) rfl ?_
  refine rl_y (y_load_p rfl Try.k26 rfl rfl rfl (vs := [_, _, _, _, _, _, _, _, _]) rfl rfl rfl) rfl ?_
  refine rl_call_f (caps := []) rfl rfl Try.c12 rfl (FnP.mono (next_fn p [a0, a1, a2, a3, a4, a5, a6, a7] _ ht) ?_)
  rintro v u1 hle1 rfl
  refine rl_store_p Try.k26 rfl rfl rfl (vs := [_, _, _, _, _, _, _, _, _]) rfl rfl (by first | rfl | simp [Value.oneCell', str]) rfl rfl ?_
  refine rl_y (y_assign rfl rfl) rfl ?_
  refine rl_end (ρ' := [(3, _), (4, _)]) ⟨rfl, rfl, trivial⟩ ?_
  refine q_then ?_
  refine wc_ret ?_
  refine fin2 (.cell rfl rfl Try.k26 (cs := _) (vs := [_, _, _, _, _, _, _, _, _]) rfl rfl rfl) (.tmp rfl) ?_
  rfl

theorem settle_fn (p : Int) (t : List Int) (ht : t.length = 8) (most : Nat) (hm : 1 ≤ most) (hm2 : most ≤ 64) (u : View) (b0 : Nat) (T0 : TypeId) (fr : Nat × Nat) (hu : u b0 = some (.cells #[.func (.func 12) #[] #[]] T0 fr)) :
    FnP Try.prog 21 [box p t, .func (.func 22) #[] #[.pointer (some ⟨b0, 0, none⟩)], .func (.func 23) #[] #[], .int .i64 most] u
      fun v _ => ∃ k j e, Ends (fun n => it t p n) most k j e ∧ v = setRes t p k j e := by
  match t, ht with
  | [a0, a1, a2, a3, a4, a5, a6, a7], ht =>
  generalize hT : [a0, a1, a2, a3, a4, a5, a6, a7] = t at *
  have hbl := boxC_len ht p
  have hrow : ∀ k i : Nat, i < k → cut (rowsN (boxC t p) k) (i * 9) 9 = [.int .i64 (it t p i), .int .i64 a0, .int .i64 a1, .int .i64 a2, .int .i64 a3, .int .i64 a4, .int .i64 a5, .int .i64 a6, .int .i64 a7] := by
    intro k i hi
    rw [cut_rowsN hbl hi, ← hT]
    rfl
  have hlen : ∀ k, (rowsN (boxC t p) k).length = k * 9 := length_rowsN hbl
  have hbox : ∀ q, box q t = .agg #[.int .i64 q, .int .i64 a0, .int .i64 a1, .int .i64 a2, .int .i64 a3, .int .i64 a4, .int .i64 a5, .int .i64 a6, .int .i64 a7] := by
    intro q
    rw [← hT]
    rfl
  rw [hbox]
  refine FnP.intro [.cell 8 26, .tmp 9, .tmp 10, .tmp 11] Try.func21 rfl rfl rfl ?_
  intro w0 hw0
  refine wc_seq ?_
  refine wc_region ?_
  refine rl_box rfl (cs := [_, _, _, _, _, _, _, _, _]) rfl rfl rfl rfl ?_
  refine rl_alloc Try.z26 rfl rfl rfl ?_
  refine rl_y (y_assign rfl rfl) rfl ?_
  refine rl_y (y_assign rfl rfl) rfl ?_
  refine rl_y (y_assign rfl rfl) rfl ?_
  refine rl_end (ρ' := [(1, _), (2, _), (3, _), (4, _), (8, _)]) ⟨rfl, rfl, rfl, rfl, rfl, trivial⟩ ?_
  refine q_then ?_
  refine wc_seq ?_
  refine wc_region ?_
  refine rl_alloc Try.z26 rfl rfl rfl ?_
  refine rl_end (ρ' := [(1, _), (2, _), (3, _), (4, _), (8, _), (12, _)]) ⟨rfl, rfl, rfl, rfl, rfl, rfl, trivial⟩ ?_
  refine q_then ?_
  refine wc_seq ?_
  refine wc_region ?_
  refine rl_y (y_load_p rfl Try.k26 rfl rfl rfl (vs := [_, _, _, _, _, _, _, _, _]) rfl rfl rfl) rfl ?_
  refine rl_buildSlice Try.s55 Try.z26 (ps := [(_, _)]) rfl (xs := [_, _, _, _, _, _, _, _, _]) rfl rfl rfl rfl rfl rfl rfl ?_
  refine rl_y (y_assign rfl rfl) rfl ?_
  refine rl_ren 19 13 rfl rfl rfl ?_
  refine rl_end (ρ' := [(1, _), (2, _), (3, _), (8, _), (12, _), (13, _)]) ⟨rfl, rfl, rfl, rfl, rfl, rfl, trivial⟩ ?_
  refine q_then ?_
  refine wc_seq ?_
  refine wc_region ?_
  refine rl_y (y_assign rfl rfl) rfl ?_
  refine rl_end (ρ' := [(1, _), (2, _), (3, _), (8, _), (12, _), (13, _), (14, _)]) ⟨rfl, rfl, rfl, rfl, rfl, rfl, rfl, trivial⟩ ?_
  refine q_then ?_
  refine wc_block ?_
  refine wc_loop (fun m ρ σ u' μ => ∃ k : Nat, 1 ≤ k ∧ k + m = most ∧ (∀ a b, a < b → b < k → it t p a ≠ it t p b) ∧ u = u' ∧ μ = [] ∧
  ρ = [(1, .v (.func (.func 22) #[] #[.pointer (some ⟨b0, 0, none⟩)])), (2, .v (.func (.func 23) #[] #[])), (3, .v (.int .i64 most)), (8, .p 8 0), (12, .p 12 0), (13, .s 13), (14, .v (.int .i64 k))] ∧
  σ = [(8, .box (vals [0, 0, 0, 0, 0, 0, 0, 0, 0])), (12, .box (vals [0, 0, 0, 0, 0, 0, 0, 0, 0])), (13, .row 26 9 k (rowsN (boxC t p) k))]) (most - 1) ?_ ?_
  ·
    refine ⟨_, _, ?_, ?_, 1, by omega, by omega, fun a b h1 h2 => by omega, rfl, rfl, rfl, rfl⟩
    · exact ⟨rfl, rfl, rfl, rfl, rfl, rfl, rfl, trivial⟩
    · refine ⟨rfl, rfl, ?_, trivial⟩
      rw [← hT]
      rfl
  ·
    rintro m ρ σ u' μ ⟨k, hk1, hk2, hdist, rfl, rfl, rfl, rfl⟩
    refine wc_seq ?_
    refine wc_block ?_
    refine wc_seq ?_
    refine wc_region ?_
    refine rl_y (y_move rfl rfl) rfl ?_
    refine rl_y (y_move rfl rfl) rfl ?_
    refine rl_y (y_move rfl rfl) rfl ?_
    refine rl_y (y_sub rfl rfl rfl (wrap64_id (by omega))) rfl ?_
    refine rl_y (y_index_s rfl Try.s55 rfl rfl rfl (j := k - 1) (by omega) (by omega)) rfl ?_
    refine rl_y (y_load_s rfl Try.k26 rfl rfl rfl (hrow k (k - 1) (by omega)) rfl rfl (by rw [hlen]; omega)) rfl ?_
    rw [← hbox]
    refine rl_call_f (caps := [.pointer (some ⟨b0, 0, none⟩)]) rfl rfl Try.c22 rfl (FnP.mono (step_fn (it t p (k - 1)) t ht _ b0 T0 fr hu) ?_)
    rintro v u1 hle1 rfl
    have hnext : at8 t (it t p (k - 1)) = it t p k := by
      obtain ⟨k', rfl⟩ : ∃ k', k = k' + 1 := ⟨k - 1, by omega⟩
      rfl
    rw [hnext, hbox]
    refine rl_y (y_move rfl rfl) rfl ?_
    refine rl_y (y_extract rfl rfl rfl) rfl ?_
    refine rl_y (y_extract rfl rfl rfl) rfl ?_
    refine rl_alloc Try.z26 rfl rfl rfl ?_
    refine rl_store_p Try.k26 rfl rfl rfl (vs := [_, _, _, _, _, _, _, _, _]) rfl rfl (by first | rfl | simp [Value.oneCell', str]) rfl rfl ?_
    refine rl_y (y_assign rfl rfl) rfl ?_
    refine rl_end (ρ' := [(1, _), (2, _), (3, _), (8, _), (12, _), (13, _), (14, _), (15, _), (16, _)]) ⟨rfl, rfl, rfl, rfl, rfl, rfl, rfl, rfl, rfl, trivial⟩ ?_
    refine q_then ?_
    refine wc_seq ?_
    refine wc_seq ?_
    refine wc_region ?_
    refine rl_y (y_move rfl rfl) rfl ?_
    refine rl_y (y_neq rfl rfl rfl) rfl ?_
    refine rl_end (ρ' := [(1, _), (2, _), (3, _), (8, _), (12, _), (13, _), (14, _), (15, _), (16, _), (33, _)]) ⟨rfl, rfl, rfl, rfl, rfl, rfl, rfl, rfl, rfl, rfl, trivial⟩ ?_
    refine q_then ?_
    refine wc_cond_f rfl (rfl) ?_
    refine wc_skip ?_
    refine q_then ?_
    refine wc_seq ?_
    refine wc_seq ?_
    refine wc_draw Try.mixed [(15, .box []), (13, .box [])] ?_
    refine ra_y (i := 0) rfl (by kernel_rfl) (by kernel_rfl) (by kernel_rfl) (np_then (np_then (np_block (np_then (np_then (np_block (np_fin))))))) (y_move rfl rfl) rfl ?_
    refine ra_y (i := 1) rfl (by kernel_rfl) (by kernel_rfl) (by kernel_rfl) (np_then (np_then (np_block (np_then (np_then (np_block (np_fin))))))) (y_load_p rfl Try.k26 rfl rfl rfl (vs := [_, _, _, _, _, _, _, _, _]) rfl rfl rfl) rfl ?_
    refine ra_y (i := 2) rfl (by kernel_rfl) (by kernel_rfl) (by kernel_rfl) (np_then (np_then (np_block (np_then (np_then (np_block (np_fin))))))) (y_move rfl rfl) rfl ?_
    refine ra_y (i := 3) rfl (by kernel_rfl) (by kernel_rfl) (by kernel_rfl) (np_then (np_then (np_block (np_then (np_then (np_block (np_fin))))))) (y_move rfl rfl) rfl ?_
    refine ra_y (i := 4) rfl (by kernel_rfl) (by kernel_rfl) (by kernel_rfl) (np_then (np_then (np_block (np_then (np_then (np_block (np_fin))))))) (y_sub rfl rfl rfl (wrap64_id (by omega))) rfl ?_
    refine ra_y (i := 5) rfl (by kernel_rfl) (by kernel_rfl) (by kernel_rfl) (np_then (np_then (np_block (np_then (np_then (np_block (np_fin))))))) (y_index_s rfl Try.s55 rfl rfl rfl (j := k - 1) (by omega) (by omega)) rfl ?_
    refine ra_y (i := 6) rfl (by kernel_rfl) (by kernel_rfl) (by kernel_rfl) (np_then (np_then (np_block (np_then (np_then (np_block (np_fin))))))) (y_load_s rfl Try.k26 rfl rfl rfl (hrow k (k - 1) (by omega)) rfl rfl (by rw [hlen]; omega)) rfl ?_
    rw [← hbox, ← hbox]
    refine ra_do (i := 7) rfl rfl (by kernel_rfl) ?_
    refine do_call_f (caps := []) rfl rfl Try.c23 rfl rfl (FnP.mono (same_fn (it t p k) (it t p (k - 1)) t t ht ht _) ?_)
    rintro v u1 hle1 rfl
    refine ra_end (by kernel_rfl) (ρ' := [(1, _), (2, _), (3, _), (8, _), (12, _), (13, _), (14, _), (15, _), (44, _)]) ⟨rfl, rfl, rfl, rfl, rfl, rfl, rfl, rfl, rfl, trivial⟩ ?_
    refine q_then ?_
    refine wc_cond rfl (fun hb8 => ?_) (fun hb8 => ?_)
    ·
      have hq : it t p k = it t p (k - 1) := by simpa using hb8
      refine wc_seq ?_
      refine wc_region ?_
      refine rl_y (y_load_p rfl Try.k26 rfl rfl rfl (vs := [_, _, _, _, _, _, _, _, _]) rfl rfl rfl) rfl ?_
      refine rl_y (y_move rfl rfl) rfl ?_
      refine rl_store_p Try.k26 rfl rfl rfl (vs := [_, _, _, _, _, _, _, _, _]) rfl rfl (by first | rfl | simp [Value.oneCell', str]) rfl rfl ?_
      refine rl_y (y_assign rfl rfl) rfl ?_
      refine rl_y (y_assign rfl rfl) rfl ?_
      refine rl_y (y_assign rfl rfl) rfl ?_
      refine rl_end (ρ' := [(8, _), (9, _), (10, _), (11, _)]) ⟨rfl, rfl, rfl, rfl, trivial⟩ ?_
      refine q_then ?_
      refine wc_ret ?_
      refine q_then_ret ?_
      refine q_block_ret ?_
      refine q_then_ret ?_
      refine q_then_ret ?_
      refine q_block_ret ?_
      refine fin4 (.cell rfl rfl Try.k26 (cs := _) (vs := [_, _, _, _, _, _, _, _, _]) rfl rfl rfl) (.tmp rfl) (.tmp rfl) (.tmp rfl) ?_
      refine ⟨k, k - 1, 0, ⟨hk1, by omega, hdist, .inl ⟨rfl, by omega, hq⟩⟩, ?_⟩
      simp [setRes, hbox]
    ·
      have hq : it t p k ≠ it t p (k - 1) := by simpa using hb8
      refine wc_skip ?_
      refine q_then ?_
      refine wc_seq ?_
      refine wc_seq ?_
      refine wc_region ?_
      refine rl_y (y_move rfl rfl) rfl ?_
      refine rl_y (y_sub rfl rfl rfl (wrap64_id (by omega))) rfl ?_
      refine rl_y (y_assign rfl rfl) rfl ?_
      refine rl_end (ρ' := [(1, _), (2, _), (3, _), (8, _), (12, _), (13, _), (14, _), (15, _), (17, _)]) ⟨rfl, rfl, rfl, rfl, rfl, rfl, rfl, rfl, rfl, trivial⟩ ?_
      refine q_then ?_
      refine wc_block ?_
      refine wc_loop (fun m2 ρ σ u' μ => ∃ i : Int, i = (m2 : Int) - 1 ∧ m2 + 1 ≤ k ∧ (∀ j, m2 ≤ j → j < k → it t p j ≠ it t p k) ∧ u = u' ∧ μ = [] ∧
      ρ = [(1, .v (.func (.func 22) #[] #[.pointer (some ⟨b0, 0, none⟩)])), (2, .v (.func (.func 23) #[] #[])), (3, .v (.int .i64 most)), (8, .p 8 0), (12, .p 12 0), (13, .s 13), (14, .v (.int .i64 k)), (15, .p 15 0), (17, .v (.int .i64 i))] ∧
      σ = [(8, .box (vals [0, 0, 0, 0, 0, 0, 0, 0, 0])), (12, .box (vals [0, 0, 0, 0, 0, 0, 0, 0, 0])), (13, .row 26 9 k (rowsN (boxC t p) k)), (15, .box [.int .i64 (it t p k), .int .i64 a0, .int .i64 a1, .int .i64 a2, .int .i64 a3, .int .i64 a4, .int .i64 a5, .int .i64 a6, .int .i64 a7])]) (k - 1) ?_ ?_
      ·
        refine ⟨_, _, ?_, ?_, (k : Int) - 2, by omega, by omega, ?_, rfl, rfl, rfl, rfl⟩
        · exact ⟨rfl, rfl, rfl, rfl, rfl, rfl, rfl, rfl, rfl, trivial⟩
        · exact ⟨rfl, rfl, rfl, rfl, trivial⟩
        · intro j h1 h2
          obtain rfl : j = k - 1 := by omega
          exact Ne.symm hq
      ·
        rintro m2 ρ σ u' μ ⟨i, hi, hm2k, hno, rfl, rfl, rfl, rfl⟩
        refine wc_seq ?_
        refine wc_seq ?_
        refine wc_region ?_
        refine rl_y (y_move rfl rfl) rfl ?_
        refine rl_y (y_geq rfl rfl rfl) rfl ?_
        refine rl_end (ρ' := [(1, _), (2, _), (3, _), (8, _), (12, _), (13, _), (14, _), (15, _), (17, _), (50, _)]) ⟨rfl, rfl, rfl, rfl, rfl, rfl, rfl, rfl, rfl, rfl, trivial⟩ ?_
        refine q_then ?_
        refine wc_cond rfl (fun hb11 => ?_) (fun hb11 => ?_)
        ·
          have hge : 1 ≤ m2 := by have := of_decide_eq_true hb11; omega
          refine wc_skip ?_
          refine q_then ?_
          refine wc_seq ?_
          refine wc_block ?_
          refine wc_seq ?_
          refine wc_draw Try.mixed [(15, .box []), (13, .box [])] ?_
          refine ra_y (i := 0) rfl (by kernel_rfl) (by kernel_rfl) (by kernel_rfl) (np_then (np_block (np_then (np_then (np_block (np_then (np_block (np_then (np_then (np_block (np_fin))))))))))) (y_move rfl rfl) rfl ?_
          refine ra_y (i := 1) rfl (by kernel_rfl) (by kernel_rfl) (by kernel_rfl) (np_then (np_block (np_then (np_then (np_block (np_then (np_block (np_then (np_then (np_block (np_fin))))))))))) (y_load_p rfl Try.k26 rfl rfl rfl (vs := [_, _, _, _, _, _, _, _, _]) rfl rfl rfl) rfl ?_
          refine ra_y (i := 2) rfl (by kernel_rfl) (by kernel_rfl) (by kernel_rfl) (np_then (np_block (np_then (np_then (np_block (np_then (np_block (np_then (np_then (np_block (np_fin))))))))))) (y_move rfl rfl) rfl ?_
          refine ra_y (i := 3) rfl (by kernel_rfl) (by kernel_rfl) (by kernel_rfl) (np_then (np_block (np_then (np_then (np_block (np_then (np_block (np_then (np_then (np_block (np_fin))))))))))) (y_move rfl rfl) rfl ?_
          refine ra_y (i := 4) rfl (by kernel_rfl) (by kernel_rfl) (by kernel_rfl) (np_then (np_block (np_then (np_then (np_block (np_then (np_block (np_then (np_then (np_block (np_fin))))))))))) (y_index_s rfl Try.s55 rfl rfl rfl (j := m2 - 1) (by omega) (by omega)) rfl ?_
          refine ra_y (i := 5) rfl (by kernel_rfl) (by kernel_rfl) (by kernel_rfl) (np_then (np_block (np_then (np_then (np_block (np_then (np_block (np_then (np_then (np_block (np_fin))))))))))) (y_load_s rfl Try.k26 rfl rfl rfl (hrow k (m2 - 1) (by omega)) rfl rfl (by rw [hlen]; have : (m2 - 1 + 1) * 9 ≤ k * 9 := Nat.mul_le_mul_right _ (by omega); omega)) rfl ?_
          rw [← hbox, ← hbox]
          refine ra_do (i := 6) rfl rfl (by kernel_rfl) ?_
          refine do_call_f (caps := []) rfl rfl Try.c23 rfl rfl (FnP.mono (same_fn (it t p k) (it t p (m2 - 1)) t t ht ht _) ?_)
          rintro v u1 hle1 rfl
          refine ra_end (by kernel_rfl) (ρ' := [(1, _), (2, _), (3, _), (8, _), (12, _), (13, _), (14, _), (15, _), (17, _), (59, _)]) ⟨rfl, rfl, rfl, rfl, rfl, rfl, rfl, rfl, rfl, rfl, trivial⟩ ?_
          refine q_then ?_
          refine wc_cond rfl (fun hb13 => ?_) (fun hb13 => ?_)
          ·
            have hq2 : it t p k = it t p (m2 - 1) := by simpa using hb13
            refine wc_seq ?_
            refine wc_region ?_
            refine rl_y (y_load_p rfl Try.k26 rfl rfl rfl (vs := [_, _, _, _, _, _, _, _, _]) rfl rfl rfl) rfl ?_
            refine rl_y (y_move rfl rfl) rfl ?_
            refine rl_y (y_move rfl rfl) rfl ?_
            refine rl_y (y_move rfl rfl) rfl ?_
            refine rl_y (y_sub rfl rfl rfl (wrap64_id (by omega))) rfl ?_
            refine rl_store_p Try.k26 rfl rfl rfl (vs := [_, _, _, _, _, _, _, _, _]) rfl rfl (by first | rfl | simp [Value.oneCell', str]) rfl rfl ?_
            refine rl_y (y_assign rfl rfl) rfl ?_
            refine rl_y (y_assign rfl rfl) rfl ?_
            refine rl_y (y_assign rfl rfl) rfl ?_
            refine rl_end (ρ' := [(8, _), (9, _), (10, _), (11, _)]) ⟨rfl, rfl, rfl, rfl, trivial⟩ ?_
            refine q_then ?_
            refine wc_ret ?_
            refine q_block_ret ?_
            refine q_then_ret ?_
            refine q_then_ret ?_
            refine q_block_ret ?_
            refine q_then_ret ?_
            refine q_block_ret ?_
            refine q_then_ret ?_
            refine q_then_ret ?_
            refine q_block_ret ?_
            refine fin4 (.cell rfl rfl Try.k26 (cs := _) (vs := [_, _, _, _, _, _, _, _, _]) rfl rfl rfl) (.tmp rfl) (.tmp rfl) (.tmp rfl) ?_
            refine ⟨k, m2 - 1, 10, ⟨hk1, by omega, hdist, .inr (.inl ⟨rfl, by omega, hq2⟩)⟩, ?_⟩
            rw [show i = ((m2 - 1 : Nat) : Int) by omega]
            rfl
          ·
            have hq2 : it t p k ≠ it t p (m2 - 1) := by simpa using hb13
            refine wc_skip ?_
            refine q_block ?_
            refine q_then ?_
            refine wc_region ?_
            refine rl_y (y_move rfl rfl) rfl ?_
            refine rl_y (y_sub rfl rfl rfl (wrap64_id (by omega))) rfl ?_
            refine rl_y (y_assign rfl rfl) rfl ?_
            refine rl_end (ρ' := [(1, _), (2, _), (3, _), (8, _), (12, _), (13, _), (14, _), (15, _), (17, _)]) ⟨rfl, rfl, rfl, rfl, rfl, rfl, rfl, rfl, rfl, trivial⟩ ?_
            refine q_thenK ?_
            refine ⟨m2 - 1, _, _, by omega, ?_, ?_, i - 1, by omega, by omega, ?_, rfl, rfl, rfl, rfl⟩
            · exact ⟨rfl, rfl, rfl, rfl, rfl, rfl, rfl, rfl, rfl, trivial⟩
            · exact ⟨rfl, rfl, rfl, rfl, trivial⟩
            · intro j h1 h2
              by_cases e : j = m2 - 1
              · subst e; exact Ne.symm hq2
              · exact hno j (by omega) h2
        ·
          have hlt : m2 = 0 := by have := of_decide_eq_false hb11; omega
          refine wc_exit ?_
          refine q_then_exit ?_
          refine q_then_exit ?_
          refine q_block_hit ?_
          refine q_then ?_
          refine wc_seq ?_
          refine wc_seq ?_
          refine wc_region ?_
          refine rl_y (y_move rfl rfl) rfl ?_
          refine rl_y (y_move rfl rfl) rfl ?_
          refine rl_y (y_eql rfl rfl rfl) rfl ?_
          refine rl_end (ρ' := [(1, _), (2, _), (3, _), (8, _), (12, _), (13, _), (14, _), (15, _), (67, _)]) ⟨rfl, rfl, rfl, rfl, rfl, rfl, rfl, rfl, rfl, trivial⟩ ?_
          refine q_then ?_
          refine wc_cond rfl (fun hb15 => ?_) (fun hb15 => ?_)
          ·
            have hkm : k = most := by have := of_decide_eq_true hb15; omega
            refine wc_seq ?_
            refine wc_region ?_
            refine rl_y (y_load_p rfl Try.k26 rfl rfl rfl (vs := [_, _, _, _, _, _, _, _, _]) rfl rfl rfl) rfl ?_
            refine rl_y (y_move rfl rfl) rfl ?_
            refine rl_store_p Try.k26 rfl rfl rfl (vs := [_, _, _, _, _, _, _, _, _]) rfl rfl (by first | rfl | simp [Value.oneCell', str]) rfl rfl ?_
            refine rl_y (y_assign rfl rfl) rfl ?_
            refine rl_y (y_assign rfl rfl) rfl ?_
            refine rl_y (y_assign rfl rfl) rfl ?_
            refine rl_end (ρ' := [(8, _), (9, _), (10, _), (11, _)]) ⟨rfl, rfl, rfl, rfl, trivial⟩ ?_
            refine q_then ?_
            refine wc_ret ?_
            refine q_then_ret ?_
            refine q_block_ret ?_
            refine q_then_ret ?_
            refine q_then_ret ?_
            refine q_block_ret ?_
            refine fin4 (.cell rfl rfl Try.k26 (cs := _) (vs := [_, _, _, _, _, _, _, _, _]) rfl rfl rfl) (.tmp rfl) (.tmp rfl) (.tmp rfl) ?_
            refine ⟨k, k, 18, ⟨hk1, by omega, hdist, .inr (.inr ⟨rfl, hkm, rfl, fun i hi => Ne.symm (hno i (by omega) hi)⟩)⟩, ?_⟩
            rfl
          ·
            have hkm : k ≠ most := by have := of_decide_eq_false hb15; omega
            refine wc_skip ?_
            refine q_then ?_
            refine wc_region ?_
            refine rl_y (y_move rfl rfl) rfl ?_
            refine rl_y (y_load_p rfl Try.k26 rfl rfl rfl (vs := [_, _, _, _, _, _, _, _, _]) rfl rfl rfl) rfl ?_
            refine rl_buildSlice Try.s55 Try.z26 (ps := [(_, _)]) rfl (xs := [_, _, _, _, _, _, _, _, _]) rfl rfl rfl rfl rfl rfl rfl ?_
            refine rl_append_s rfl Try.s55 Try.z26 rfl rfl rfl rfl rfl rfl (by first | rfl | simp [Value.oneCell', str]) (by omega) (by omega) (ρ' := [(1, _), (2, _), (3, _), (8, _), (12, _), (14, _)]) ⟨rfl, rfl, rfl, rfl, rfl, rfl, trivial⟩ rfl rfl rfl ?_
            refine rl_y (y_assign rfl rfl) rfl ?_
            refine rl_ren 73 13 rfl rfl rfl ?_
            refine rl_end (ρ' := [(1, _), (2, _), (3, _), (8, _), (12, _), (13, _), (14, _)]) ⟨rfl, rfl, rfl, rfl, rfl, rfl, rfl, trivial⟩ ?_
            refine q_block ?_
            refine q_then ?_
            refine wc_region ?_
            refine rl_y (y_move rfl rfl) rfl ?_
            refine rl_y (y_add rfl rfl rfl (wrap64_id (by omega))) rfl ?_
            refine rl_y (y_assign rfl rfl) rfl ?_
            refine rl_end (ρ' := [(1, _), (2, _), (3, _), (8, _), (12, _), (13, _), (14, _)]) ⟨rfl, rfl, rfl, rfl, rfl, rfl, rfl, trivial⟩ ?_
            refine q_thenK ?_
            refine ⟨m - 1, _, _, by omega, ?_, ?_, k + 1, by omega, by omega, ?_, rfl, rfl, rfl, rfl⟩
            · exact ⟨rfl, rfl, rfl, rfl, rfl, rfl, rfl, trivial⟩
            · refine ⟨rfl, rfl, ?_, trivial⟩
              rw [rowsN_succ, ← hT]
              rfl
            · intro x y h1 h2
              by_cases e : y = k
              · subst e; exact hno x (by omega) (by omega)
              · exact hdist x y h1 (by omega)
end Go.Proofs.Ytchmiljeidkkpaa
