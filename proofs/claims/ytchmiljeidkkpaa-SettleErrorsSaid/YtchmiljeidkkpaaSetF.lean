/- Settle: the reference. -/
import Derived.Test.YtchmiljeidkkpaaSetE
namespace Go.Proofs.Ytchmiljeidkkpaa
open Go Go.Eng

theorem at8_bd (t : List Int) (p : Int) : 0 ≤ at8 t p ∧ at8 t p < 8 := by unfold at8; omega
theorem it_bd (t : List Int) (p : Int) (h : 0 ≤ p ∧ p < 8) : ∀ n, 0 ≤ it t p n ∧ it t p n < 8
  | 0 => h
  | _ + 1 => at8_bd t _

def setResR (t : List Int) (p : Int) (k j : Nat) (e : Int) : Value :=
  .tuple #[.int .i64 (if e = 0 then it t p k else 0), .int .i64 k, .int .i64 (if e = 10 then (k : Int) - j else 0), .int .i64 e]

theorem ref_fn (start : Int) (t : List Int) (ht : t.length = 8) (most : Int) (u : View) :
    FnP Try.prog 13 [.int .i64 start, .agg (vals t).toArray, .int .i64 most] u
      fun v _ => if 1 ≤ most ∧ most ≤ 64 then ∃ k j e, Ends (it t (start % 8)) most.toNat k j e ∧ v = setResR t (start % 8) k j e else v = .tuple #[.int .i64 0, .int .i64 0, .int .i64 0, .int .i64 2] := by
  have hbd := it_bd t (start % 8) (by omega)
  generalize hp : start % 8 = p at *
  have hbl : ∀ n, ([Value.int .i64 (it t p n)]).length = 1 := fun _ => rfl
  have hrow : ∀ k i : Nat, i < k → cut (rowsN (fun n => [Value.int .i64 (it t p n)]) k) (i * 1) 1 = [.int .i64 (it t p i)] := by
    intro k i hi
    rw [cut_rowsN hbl hi]
  have hlen : ∀ k, (rowsN (fun n => [Value.int .i64 (it t p n)]) k).length = k * 1 := length_rowsN hbl
  have htab : ∀ n, ∃ (j : Nat) (x : Int), j < 8 ∧ it t p n = j ∧ cut (vals t) (0 + j * 1) 1 = [.int .i64 x] ∧ x % 8 = it t p (n + 1) := by
    intro n
    have hb := hbd n
    obtain ⟨j, hj⟩ : ∃ j : Nat, it t p n = j := ⟨(it t p n).toNat, by omega⟩
    have hj8 : j < 8 := by omega
    have hjl : j < t.length := by omega
    refine ⟨j, t[j], hj8, hj, ?_, ?_⟩
    · unfold cut vals
      rw [show 0 + j * 1 = j by omega, List.drop_eq_getElem_cons (by simpa using hjl)]
      simp
    · show _ = at8 t (it t p n)
      unfold at8
      rw [hj, show ((j : Int) % 8).toNat = j by omega]
      simp [hjl]
  match t, ht with
  | [a0, a1, a2, a3, a4, a5, a6, a7], ht =>
  generalize hT : [a0, a1, a2, a3, a4, a5, a6, a7] = t at *
  have hv : Value.agg (vals t).toArray = .agg #[.int .i64 a0, .int .i64 a1, .int .i64 a2, .int .i64 a3, .int .i64 a4, .int .i64 a5, .int .i64 a6, .int .i64 a7] := by rw [← hT]; rfl
  rw [hv]
  have hvt : [Value.int .i64 a0, .int .i64 a1, .int .i64 a2, .int .i64 a3, .int .i64 a4, .int .i64 a5, .int .i64 a6, .int .i64 a7] = vals t := by rw [← hT]; rfl
  refine FnP.intro [.tmp 6, .tmp 7, .tmp 8, .tmp 9] Try.func13 rfl rfl rfl ?_
  intro w0 hw0
  refine wc_seq ?_
  refine wc_region ?_
  refine rl_box rfl (cs := [_, _, _, _, _, _, _, _]) rfl rfl rfl rfl ?_
  refine rl_y (y_assign rfl rfl) rfl ?_
  refine rl_y (y_assign rfl rfl) rfl ?_
  refine rl_y (y_assign rfl rfl) rfl ?_
  refine rl_y (y_assign rfl rfl) rfl ?_
  refine rl_end (ρ' := [(0, _), (2, _), (4, _)]) ⟨rfl, rfl, rfl, trivial⟩ ?_
  refine q_then ?_
  refine wc_seq ?_
  refine wc_seq ?_
  refine wc_cutB 19 (decide (most < 1) || decide (64 < most)) (ρk := [(0, _), (2, _), (4, _)]) ⟨rfl, rfl, rfl, trivial⟩ ?_ ?_
  ·
    refine wc_region ?_
    refine rl_y (y_move rfl rfl) rfl ?_
    refine rl_y (y_lss rfl rfl rfl) rfl ?_
    refine rl_y (y_move rfl rfl) rfl ?_
    rcases Bool.eq_false_or_eq_true (decide (most < 1)) with hg1_2 | hg1_2
    ·
      simp only [hg1_2]
      refine rl_off rfl rfl rfl rfl ?_
      refine rl_off rfl rfl rfl rfl ?_
      refine rl_y (y_pick_t rfl rfl rfl) rfl ?_
      exact cutB_end rfl ⟨rfl, rfl, rfl, trivial⟩ (by simp)
    ·
      simp only [hg1_2]
      refine rl_on rfl rfl ?_
      refine rl_y (y_move rfl rfl) rfl ?_
      refine rl_on rfl rfl ?_
      refine rl_y (y_gtr rfl rfl rfl) rfl ?_
      refine rl_y (y_pick_f rfl rfl rfl) rfl ?_
      exact cutB_end rfl ⟨rfl, rfl, rfl, trivial⟩ (by simp)
  refine q_then ?_
  refine wc_cond rfl (fun hb1 => ?_) (fun hb1 => ?_)
  ·
    have hno : ¬ (1 ≤ most ∧ most ≤ 64) := by simp at hb1; omega
    refine wc_seq ?_
    refine wc_region ?_
    refine rl_y (y_assign rfl rfl) rfl ?_
    refine rl_y (y_assign rfl rfl) rfl ?_
    refine rl_y (y_assign rfl rfl) rfl ?_
    refine rl_y (y_assign rfl rfl) rfl ?_
    refine rl_end (ρ' := [(6, _), (7, _), (8, _), (9, _)]) ⟨rfl, rfl, rfl, rfl, trivial⟩ ?_
    refine q_then ?_
    refine wc_ret ?_
    refine q_then_ret ?_
    refine fin4 (.tmp rfl) (.tmp rfl) (.tmp rfl) (.tmp rfl) ?_
    rw [if_neg hno]
  ·
    have hyes : 1 ≤ most ∧ most ≤ 64 := by simp at hb1; omega
    refine wc_skip ?_
    refine q_then ?_
    refine wc_seq ?_
    obtain ⟨mo, rfl⟩ : ∃ m : Nat, most = m := ⟨most.toNat, by omega⟩
    refine wc_region ?_
    refine rl_y (y_move rfl rfl) rfl ?_
    refine rl_y (y_and7 rfl rfl rfl) rfl ?_
    rw [hp]
    refine rl_buildSlice Try.s47 Try.z3 (ps := [(_, _)]) rfl (xs := [_]) rfl rfl rfl rfl rfl rfl rfl ?_
    refine rl_y (y_assign rfl rfl) rfl ?_
    refine rl_ren 22 10 rfl rfl rfl ?_
    refine rl_end (ρ' := [(2, _), (4, _), (10, _)]) ⟨rfl, rfl, rfl, trivial⟩ ?_
    refine q_then ?_
    refine wc_seq ?_
    refine wc_seq ?_
    refine wc_region ?_
    refine rl_y (y_assign rfl rfl) rfl ?_
    refine rl_end (ρ' := [(2, _), (4, _), (10, _), (11, _)]) ⟨rfl, rfl, rfl, rfl, trivial⟩ ?_
    refine q_then ?_
    refine wc_block ?_
    refine wc_loop (fun m ρ σ u' μ => ∃ k : Nat, 1 ≤ k ∧ k + m = mo + 1 ∧ (∀ a b, a < b → b < k → it t p a ≠ it t p b) ∧ u = u' ∧ μ = [] ∧
    ρ = [(2, .v (.int .i64 mo)), (4, .p 4 0), (10, .s 10), (11, .v (.int .i64 k))] ∧
    σ = [(4, .box (vals t)), (10, .row 3 1 k (rowsN (fun n => [Value.int .i64 (it t p n)]) k))]) mo ?_ ?_
    ·
      refine ⟨_, _, ?_, ?_, 1, by omega, by omega, fun a b h1 h2 => by omega, rfl, rfl, rfl, rfl⟩
      · exact ⟨rfl, rfl, rfl, rfl, trivial⟩
      · exact ⟨hvt ▸ rfl, rfl, trivial⟩
    ·
      rintro m ρ σ u' μ ⟨k, hk1, hk2, hdist, rfl, rfl, rfl, rfl⟩
      refine wc_seq ?_
      refine wc_seq ?_
      refine wc_region ?_
      refine rl_y (y_move rfl rfl) rfl ?_
      refine rl_y (y_move rfl rfl) rfl ?_
      refine rl_y (y_leq rfl rfl rfl) rfl ?_
      refine rl_end (ρ' := [(2, _), (4, _), (10, _), (11, _), (25, _)]) ⟨rfl, rfl, rfl, rfl, rfl, trivial⟩ ?_
      refine q_then ?_
      refine wc_cond rfl (fun hb5 => ?_) (fun hb5 => ?_)
      ·
        have hkm : k ≤ mo := by have := of_decide_eq_true hb5; omega
        refine wc_skip ?_
        refine q_then ?_
        refine wc_seq ?_
        refine wc_block ?_
        refine wc_seq ?_
        obtain ⟨jj, x, hj8, hjj, hcut, hx8⟩ := htab (k - 1)
        refine wc_region ?_
        refine rl_y (y_move rfl rfl) rfl ?_
        refine rl_y (y_move rfl rfl) rfl ?_
        refine rl_y (y_sub rfl rfl rfl (wrap64_id (by omega))) rfl ?_
        refine rl_y (y_index_s rfl Try.s47 rfl rfl rfl (j := k - 1) (by omega) (by omega)) rfl ?_
        refine rl_y (y_load_s rfl Try.k3 rfl rfl rfl (hrow k (k - 1) (by omega)) rfl rfl (by rw [hlen]; omega)) rfl ?_
        refine rl_y (y_index_p rfl Try.a22 rfl rfl hjj hj8) rfl ?_
        refine rl_y (y_load_p rfl Try.k3 rfl rfl rfl hcut rfl rfl) rfl ?_
        refine rl_y (y_and7 rfl rfl rfl) rfl ?_
        rw [hx8, show k - 1 + 1 = k by omega]
        refine rl_y (y_assign rfl rfl) rfl ?_
        refine rl_end (ρ' := [(2, _), (4, _), (10, _), (11, _), (12, _)]) ⟨rfl, rfl, rfl, rfl, rfl, trivial⟩ ?_
        refine q_then ?_
        refine wc_seq ?_
        refine wc_seq ?_
        refine wc_region ?_
        refine rl_y (y_move rfl rfl) rfl ?_
        refine rl_y (y_move rfl rfl) rfl ?_
        refine rl_y (y_move rfl rfl) rfl ?_
        refine rl_y (y_sub rfl rfl rfl (wrap64_id (by omega))) rfl ?_
        refine rl_y (y_index_s rfl Try.s47 rfl rfl rfl (j := k - 1) (by omega) (by omega)) rfl ?_
        refine rl_y (y_load_s rfl Try.k3 rfl rfl rfl (hrow k (k - 1) (by omega)) rfl rfl (by rw [hlen]; omega)) rfl ?_
        refine rl_y (y_eql rfl rfl rfl) rfl ?_
        refine rl_end (ρ' := [(2, _), (4, _), (10, _), (11, _), (12, _), (42, _)]) ⟨rfl, rfl, rfl, rfl, rfl, rfl, trivial⟩ ?_
        refine q_then ?_
        refine wc_cond rfl (fun hb8 => ?_) (fun hb8 => ?_)
        ·
          have hq : it t p k = it t p (k - 1) := by simpa using hb8
          refine wc_seq ?_
          refine wc_region ?_
          refine rl_y (y_move rfl rfl) rfl ?_
          refine rl_y (y_move rfl rfl) rfl ?_
          refine rl_y (y_assign rfl rfl) rfl ?_
          refine rl_y (y_assign rfl rfl) rfl ?_
          refine rl_y (y_assign rfl rfl) rfl ?_
          refine rl_y (y_assign rfl rfl) rfl ?_
          refine rl_end (ρ' := [(6, _), (7, _), (8, _), (9, _)]) ⟨rfl, rfl, rfl, rfl, trivial⟩ ?_
          refine q_then ?_
          refine wc_ret ?_
          refine q_then_ret ?_
          refine q_block_ret ?_
          refine q_then_ret ?_
          refine q_then_ret ?_
          refine q_block_ret ?_
          refine q_then_ret ?_
          refine fin4 (.tmp rfl) (.tmp rfl) (.tmp rfl) (.tmp rfl) ?_
          rw [if_pos hyes]
          exact ⟨k, k - 1, 0, ⟨hk1, by omega, hdist, .inl ⟨rfl, by omega, hq⟩⟩, rfl⟩
        ·
          have hq : it t p k ≠ it t p (k - 1) := by simpa using hb8
          refine wc_skip ?_
          refine q_then ?_
          refine wc_seq ?_
          refine wc_seq ?_
          refine wc_region ?_
          refine rl_y (y_move rfl rfl) rfl ?_
          refine rl_y (y_sub rfl rfl rfl (wrap64_id (by omega))) rfl ?_
          refine rl_y (y_assign rfl rfl) rfl ?_
          refine rl_end (ρ' := [(2, _), (4, _), (10, _), (11, _), (12, _), (13, _)]) ⟨rfl, rfl, rfl, rfl, rfl, rfl, trivial⟩ ?_
          refine q_then ?_
          refine wc_block ?_
          refine wc_loop (fun m2 ρ σ u' μ => ∃ i : Int, i = (m2 : Int) - 1 ∧ m2 + 1 ≤ k ∧ (∀ j, m2 ≤ j → j < k → it t p j ≠ it t p k) ∧ u = u' ∧ μ = [] ∧
          ρ = [(2, .v (.int .i64 mo)), (4, .p 4 0), (10, .s 10), (11, .v (.int .i64 k)), (12, .v (.int .i64 (it t p k))), (13, .v (.int .i64 i))] ∧
          σ = [(4, .box (vals t)), (10, .row 3 1 k (rowsN (fun n => [Value.int .i64 (it t p n)]) k))]) (k - 1) ?_ ?_
          ·
            refine ⟨_, _, ?_, ?_, (k : Int) - 2, by omega, by omega, ?_, rfl, rfl, rfl, rfl⟩
            · exact ⟨rfl, rfl, rfl, rfl, rfl, rfl, trivial⟩
            · exact ⟨rfl, rfl, trivial⟩
            · intro j h1 h2
              obtain rfl : j = k - 1 := by omega
              exact Ne.symm hq
          ·
            rintro m2 ρ σ u' μ ⟨i, hi, hm2k, hno, rfl, rfl, rfl, rfl⟩
            refine wc_seq ?_
            refine wc_seq ?_
            refine wc_region ?_
            refine rl_y (y_move rfl rfl) rfl ?_
            refine rl_y (y_geq rfl rfl rfl) rfl ?_
            refine rl_end (ρ' := [(2, _), (4, _), (10, _), (11, _), (12, _), (13, _), (48, _)]) ⟨rfl, rfl, rfl, rfl, rfl, rfl, rfl, trivial⟩ ?_
            refine q_then ?_
            refine wc_cond rfl (fun hb11 => ?_) (fun hb11 => ?_)
            ·
              have hge : 1 ≤ m2 := by have := of_decide_eq_true hb11; omega
              refine wc_skip ?_
              refine q_then ?_
              refine wc_seq ?_
              refine wc_block ?_
              refine wc_seq ?_
              refine wc_region ?_
              refine rl_y (y_move rfl rfl) rfl ?_
              refine rl_y (y_move rfl rfl) rfl ?_
              refine rl_y (y_index_s rfl Try.s47 rfl rfl rfl (j := m2 - 1) (by omega) (by omega)) rfl ?_
              refine rl_y (y_load_s rfl Try.k3 rfl rfl rfl (hrow k (m2 - 1) (by omega)) rfl rfl (by rw [hlen]; omega)) rfl ?_
              refine rl_y (y_move rfl rfl) rfl ?_
              refine rl_y (y_eql rfl rfl rfl) rfl ?_
              refine rl_end (ρ' := [(2, _), (4, _), (10, _), (11, _), (12, _), (13, _), (56, _)]) ⟨rfl, rfl, rfl, rfl, rfl, rfl, rfl, trivial⟩ ?_
              refine q_then ?_
              refine wc_cond rfl (fun hb13 => ?_) (fun hb13 => ?_)
              ·
                have hq2 : it t p (m2 - 1) = it t p k := by simpa using hb13
                refine wc_seq ?_
                refine wc_region ?_
                refine rl_y (y_move rfl rfl) rfl ?_
                refine rl_y (y_move rfl rfl) rfl ?_
                refine rl_y (y_move rfl rfl) rfl ?_
                refine rl_y (y_sub rfl rfl rfl (wrap64_id (by omega))) rfl ?_
                refine rl_y (y_assign rfl rfl) rfl ?_
                refine rl_y (y_assign rfl rfl) rfl ?_
                refine rl_y (y_assign rfl rfl) rfl ?_
                refine rl_y (y_assign rfl rfl) rfl ?_
                refine rl_end (ρ' := [(6, _), (7, _), (8, _), (9, _)]) ⟨rfl, rfl, rfl, rfl, trivial⟩ ?_
                refine q_then ?_
                refine wc_ret ?_
                refine q_block_ret ?_
                refine q_then_ret ?_
                refine q_then_ret ?_
                refine q_block_ret ?_
                refine q_then_ret ?_
                refine q_block_ret ?_
                refine q_then_ret ?_
                refine q_then_ret ?_
                refine q_block_ret ?_
                refine q_then_ret ?_
                refine fin4 (.tmp rfl) (.tmp rfl) (.tmp rfl) (.tmp rfl) ?_
                rw [if_pos hyes]
                refine ⟨k, m2 - 1, 10, ⟨hk1, by omega, hdist, .inr (.inl ⟨rfl, by omega, hq2.symm⟩)⟩, ?_⟩
                rw [show i = ((m2 - 1 : Nat) : Int) by omega]
                rfl
              ·
                have hq2 : it t p (m2 - 1) ≠ it t p k := by simpa using hb13
                refine wc_skip ?_
                refine q_block ?_
                refine q_then ?_
                refine wc_region ?_
                refine rl_y (y_move rfl rfl) rfl ?_
                refine rl_y (y_sub rfl rfl rfl (wrap64_id (by omega))) rfl ?_
                refine rl_y (y_assign rfl rfl) rfl ?_
                refine rl_end (ρ' := [(2, _), (4, _), (10, _), (11, _), (12, _), (13, _)]) ⟨rfl, rfl, rfl, rfl, rfl, rfl, trivial⟩ ?_
                refine q_thenK ?_
                refine ⟨m2 - 1, _, _, by omega, ?_, ?_, i - 1, by omega, by omega, ?_, rfl, rfl, rfl, rfl⟩
                · exact ⟨rfl, rfl, rfl, rfl, rfl, rfl, trivial⟩
                · exact ⟨rfl, rfl, trivial⟩
                · intro j h1 h2
                  by_cases e : j = m2 - 1
                  · subst e; exact hq2
                  · exact hno j (by omega) h2
            ·
              have hlt : m2 = 0 := by have := of_decide_eq_false hb11; omega
              refine wc_exit ?_
              refine q_then_exit ?_
              refine q_then_exit ?_
              refine q_block_hit ?_
              refine q_then ?_
              refine wc_region ?_
              refine rl_y (y_move rfl rfl) rfl ?_
              refine rl_y (y_move rfl rfl) rfl ?_
              refine rl_buildSlice Try.s47 Try.z3 (ps := [(_, _)]) rfl (xs := [_]) rfl rfl rfl rfl rfl rfl rfl ?_
              refine rl_append_s rfl Try.s47 Try.z3 rfl rfl rfl rfl rfl rfl (by first | rfl | simp [Value.oneCell', str]) (by omega) (by omega) (ρ' := [(2, _), (4, _), (11, _)]) ⟨rfl, rfl, rfl, trivial⟩ rfl rfl rfl ?_
              refine rl_y (y_assign rfl rfl) rfl ?_
              refine rl_ren 64 10 rfl rfl rfl ?_
              refine rl_end (ρ' := [(2, _), (4, _), (10, _), (11, _)]) ⟨rfl, rfl, rfl, rfl, trivial⟩ ?_
              refine q_block ?_
              refine q_then ?_
              refine wc_region ?_
              refine rl_y (y_move rfl rfl) rfl ?_
              refine rl_y (y_add rfl rfl rfl (wrap64_id (by omega))) rfl ?_
              refine rl_y (y_assign rfl rfl) rfl ?_
              refine rl_end (ρ' := [(2, _), (4, _), (10, _), (11, _)]) ⟨rfl, rfl, rfl, rfl, trivial⟩ ?_
              refine q_thenK ?_
              refine ⟨m - 1, _, _, by omega, ?_, ?_, k + 1, by omega, by omega, ?_, rfl, rfl, rfl, rfl⟩
              · exact ⟨rfl, rfl, rfl, rfl, trivial⟩
              · refine ⟨rfl, ?_, trivial⟩
                rw [rowsN_succ]
                rfl
              · intro x y h1 h2
                by_cases e : y = k
                · subst e; exact hno x (by omega) (by omega)
                · exact hdist x y h1 (by omega)
      ·
        have hkm : k = mo + 1 := by have := of_decide_eq_false hb5; omega
        refine wc_exit ?_
        refine q_then_exit ?_
        refine q_then_exit ?_
        refine q_block_hit ?_
        refine q_then ?_
        refine wc_seq ?_
        refine wc_region ?_
        refine rl_y (y_move rfl rfl) rfl ?_
        refine rl_y (y_assign rfl rfl) rfl ?_
        refine rl_y (y_assign rfl rfl) rfl ?_
        refine rl_y (y_assign rfl rfl) rfl ?_
        refine rl_y (y_assign rfl rfl) rfl ?_
        refine rl_end (ρ' := [(6, _), (7, _), (8, _), (9, _)]) ⟨rfl, rfl, rfl, rfl, trivial⟩ ?_
        refine q_then ?_
        refine wc_ret ?_
        refine fin4 (.tmp rfl) (.tmp rfl) (.tmp rfl) (.tmp rfl) ?_
        rw [if_pos hyes]
        subst hkm
        exact ⟨mo, mo, 18, ⟨by omega, by omega, fun a b h1 h2 => hdist a b h1 (by omega), .inr (.inr ⟨rfl, by omega, rfl, fun i hi => Ne.symm (hdist i mo hi (by omega))⟩)⟩, rfl⟩
end Go.Proofs.Ytchmiljeidkkpaa
