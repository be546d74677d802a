/- Font: the width of a code point, in the program and in the reference. -/
import Derived.Test.YtceodelgalfjfaaDoorFacts
import Derived.Test.YtceodelgalfjfaaDoorEngDefer
namespace Go.Proofs.Ytceodelgalfjfaa
set_option linter.unusedSimpArgs false
set_option linter.unusedVariables false
open Go Go.Eng

/-- the chapter's wide ones -/
def WideP (c : Int) : Prop := (4352 ≤ c ∧ c ≤ 4447) ∨ (11904 ≤ c ∧ c ≤ 42191) ∨ (44032 ≤ c ∧ c ≤ 55203) ∨ (63744 ≤ c ∧ c ≤ 64255) ∨ (65072 ≤ c ∧ c ≤ 65103) ∨ (65281 ≤ c ∧ c ≤ 65376)
instance (c : Int) : Decidable (WideP c) := by unfold WideP; infer_instance
def ZeroP (c : Int) : Prop := c < 32 ∨ c = 127 ∨ (55296 ≤ c ∧ c ≤ 57343) ∨ 1114111 < c
instance (c : Int) : Decidable (ZeroP c) := by unfold ZeroP; infer_instance
def l25 : List UInt8 := [33, 39, 44, 46, 58, 59, 124, 96, 105, 106, 108]
def l30 : List UInt8 := [32, 40, 41, 45, 47, 91, 92, 93, 102, 114, 116, 73]
def l85 : List UInt8 := [109, 119, 77, 87, 37, 64]
def Am (c : Int) (l : List UInt8) : Prop := ∃ x ∈ l, (x.toNat : Int) = c
instance (c : Int) (l : List UInt8) : Decidable (Am c l) := by unfold Am; infer_instance
/-- the width of a code point -/
def wid (c : Int) : Int :=
  if ZeroP c then 0 else if 127 < c then (if WideP c then 100 else 60) else if Am c l25 then 25 else if Am c l30 then 30 else if Am c l85 then 85
  else if (65 ≤ c ∧ c ≤ 90 ∧ c ≠ 74) ∨ c = 38 then 70 else 50

theorem wid_range (c : Int) : 0 ≤ wid c ∧ wid c ≤ 100 := by
  unfold wid
  split; · omega
  split
  · split <;> omega
  split; · omega
  split; · omega
  split; · omega
  split <;> omega

/-- the table of the program lies in block 0 -/
def TabU (u : View) : Prop := ∃ c T fr, u 0 = some (.cells c T fr) ∧ ∀ j : Nat, j < 95 → c[j]? = some (.int .u8 (wid (j + 32)))
theorem TabU.mono {u u' : View} (h : TabU u) (hu : VLe u u') : TabU u' := let ⟨c, T, fr, h1, h2⟩ := h; ⟨c, T, fr, hu _ _ h1, h2⟩

theorem bool_val {a b : Bool} (h : a = b) : Value.bool a = .bool b := by rw [h]
theorem cut_one {c : List Value} {j : Nat} {x : Value} (h : c[j]? = some x) : cut c j 1 = [x] := by
  obtain ⟨hlt, he⟩ := List.getElem?_eq_some_iff.1 h
  unfold cut
  rw [List.drop_eq_getElem_cons hlt, he]
  rfl

theorem in_fn (a b c : Int) (p : Nat) (T : TypeId) (u : View) (hu : u p = some (.cells #[.int .i64 c] T (0, 0))) :
    FnP Tryd.prog 19 [.int .i64 a, .int .i64 b, .pointer (some ⟨p, 0, none⟩)] u fun v _ => v = .bool (decide (a ≤ c ∧ c ≤ b)) := by
  refine FnP.intro [.tmp 5] Tryd.func19 rfl rfl rfl ?_
  intro w0 hw0
  refine wc_seq ?_
  refine wc_region ?_
  refine rl_y (y_assign rfl rfl) rfl ?_
  refine rl_end (ρ' := [(0, _), (1, _), (2, _)]) ⟨rfl, rfl, rfl, trivial⟩ ?_
  refine q_then ?_
  refine wc_seq ?_
  refine wc_region ?_
  refine rl_y (y_load_v rfl Tryd.k3 rfl hu (vs := [_]) rfl rfl rfl) rfl ?_
  refine rl_y (y_move rfl rfl) rfl ?_
  refine rl_y (y_geq rfl rfl rfl) rfl ?_
  refine rl_y (y_move rfl rfl) rfl ?_
  rcases Bool.eq_false_or_eq_true (decide (a ≤ c)) with hg1_3 | hg1_3
  ·
    simp only [hg1_3]
    refine rl_on rfl rfl ?_
    refine rl_y (y_load_v rfl Tryd.k3 rfl hu (vs := [_]) rfl rfl rfl) rfl ?_
    refine rl_on rfl rfl ?_
    refine rl_y (y_move rfl rfl) rfl ?_
    refine rl_on rfl rfl ?_
    refine rl_y (y_leq rfl rfl rfl) rfl ?_
    refine rl_y (y_pick_t rfl rfl rfl) rfl ?_
    refine rl_y (y_assign rfl rfl) rfl ?_
    refine rl_end (ρ' := [(5, _)]) ⟨rfl, trivial⟩ ?_
    refine q_then ?_
    refine wc_ret ?_
    refine fin1 (.tmp rfl) ?_
    simp at hg1_3 ⊢; simp [hg1_3]
  ·
    simp only [hg1_3]
    refine rl_off rfl rfl rfl rfl ?_
    refine rl_off rfl rfl rfl rfl ?_
    refine rl_off rfl rfl rfl rfl ?_
    refine rl_y (y_pick_f rfl rfl rfl) rfl ?_
    refine rl_y (y_assign rfl rfl) rfl ?_
    refine rl_end (ρ' := [(5, _)]) ⟨rfl, trivial⟩ ?_
    refine q_then ?_
    refine wc_ret ?_
    refine fin1 (.tmp rfl) ?_
    simp at hg1_3 ⊢; omega

theorem width_fn (c : Int) (u : View) (hT : TabU u) : FnP Tryd.prog 8 [.int .i64 c] u fun v _ => v = .int .i64 (wid c) := by
  have hr := wid_range c
  refine FnP.intro [.tmp 2] Tryd.func8 rfl rfl rfl ?_
  intro w0 hw0
  refine wc_seq ?_
  refine wc_region ?_
  refine rl_box rfl (cs := [_]) rfl rfl rfl rfl ?_
  refine rl_reveal 1 rfl ?_
  intro b T u1 hle hu1
  replace hT := hT.mono hle
  obtain ⟨tc, tT, tfr, ht1, ht2⟩ := hT
  refine rl_y (y_assign rfl rfl) rfl ?_
  refine rl_end (ρ' := [(1, _)]) ⟨rfl, trivial⟩ ?_
  refine q_then ?_
  refine wc_seq ?_
  refine wc_region ?_
  refine rl_y (y_makeFunc rfl rfl rfl) rfl ?_
  refine rl_y (y_assign rfl rfl) rfl ?_
  refine rl_end (ρ' := [(1, _), (3, _)]) ⟨rfl, rfl, trivial⟩ ?_
  refine q_then ?_
  refine wc_seq ?_
  refine wc_block ?_
  refine wc_cut (fun ρ σ u' μ => u1 = u' ∧ μ = [] ∧ σ = [] ∧ ∃ q, q = decide (ZeroP c) ∧ ρ = [(1, .v (.pointer (some ⟨b, 0, none⟩))), (3, .v (.func (.func 19) #[] #[.pointer (some ⟨b, 0, none⟩)])), (5, .v (.bool q))]) ?_ ?_
  ·
    refine wc_seq ?_
    refine wc_region ?_
    refine rl_y (y_load_v rfl Tryd.k3 rfl hu1 (vs := [_]) rfl rfl rfl) rfl ?_
    refine rl_y (y_lss rfl rfl rfl) rfl ?_
    refine rl_y (y_assign rfl rfl) rfl ?_
    refine rl_end (ρ' := [(1, _), (3, _), (5, _)]) ⟨rfl, rfl, rfl, trivial⟩ ?_
    refine q_then ?_
    refine wc_cond rfl (fun hb2 => ?_) (fun hb2 => ?_)
    ·
      refine wc_skip ?_
      refine q_thenK ?_
      refine ⟨[(1, _), (3, _), (5, _)], [], ⟨rfl, rfl, rfl, trivial⟩, trivial, rfl, rfl, rfl, _, ?_, rfl⟩
      refine decide_eq_decide.2 ?_
      unfold ZeroP
      simp only [decide_eq_true_eq, decide_eq_false_iff_not] at *
      omega
    ·
      refine wc_seq ?_
      refine wc_region ?_
      refine rl_y (y_load_v rfl Tryd.k3 rfl hu1 (vs := [_]) rfl rfl rfl) rfl ?_
      refine rl_y (y_eql rfl rfl rfl) rfl ?_
      refine rl_y (y_assign rfl rfl) rfl ?_
      refine rl_end (ρ' := [(1, _), (3, _), (5, _)]) ⟨rfl, rfl, rfl, trivial⟩ ?_
      refine q_then ?_
      refine wc_cond rfl (fun hb3 => ?_) (fun hb3 => ?_)
      ·
        refine wc_skip ?_
        refine q_thenK ?_
        refine ⟨[(1, _), (3, _), (5, _)], [], ⟨rfl, rfl, rfl, trivial⟩, trivial, rfl, rfl, rfl, _, ?_, rfl⟩
        refine decide_eq_decide.2 ?_
        unfold ZeroP
        simp only [decide_eq_true_eq, decide_eq_false_iff_not] at *
        omega
      ·
        refine wc_seq ?_
        refine wc_region ?_
        refine rl_y (y_move rfl rfl) rfl ?_
        refine rl_call_f (caps := [_]) rfl rfl Tryd.c19 rfl (FnP.mono (in_fn 55296 57343 c b T _ hu1) ?_)
        rintro v u1 hle1 rfl
        refine rl_y (y_assign rfl rfl) rfl ?_
        refine rl_end (ρ' := [(1, _), (3, _), (5, _)]) ⟨rfl, rfl, rfl, trivial⟩ ?_
        refine q_then ?_
        refine wc_cond rfl (fun hb4 => ?_) (fun hb4 => ?_)
        ·
          refine wc_skip ?_
          refine q_thenK ?_
          refine ⟨[(1, _), (3, _), (5, _)], [], ⟨rfl, rfl, rfl, trivial⟩, trivial, rfl, rfl, rfl, _, ?_, rfl⟩
          refine decide_eq_decide.2 ?_
          unfold ZeroP
          simp only [decide_eq_true_eq, decide_eq_false_iff_not] at *
          omega
        ·
          refine wc_region ?_
          refine rl_y (y_load_v rfl Tryd.k3 rfl hu1 (vs := [_]) rfl rfl rfl) rfl ?_
          refine rl_y (y_gtr rfl rfl rfl) rfl ?_
          refine rl_y (y_assign rfl rfl) rfl ?_
          refine rl_end (ρ' := [(1, _), (3, _), (5, _)]) ⟨rfl, rfl, rfl, trivial⟩ ?_
          refine q_thenK ?_
          refine ⟨[(1, _), (3, _), (5, _)], [], ⟨rfl, rfl, rfl, trivial⟩, trivial, rfl, rfl, rfl, _, ?_, rfl⟩
          refine decide_eq_decide.2 ?_
          unfold ZeroP
          simp only [decide_eq_true_eq, decide_eq_false_iff_not] at *
          omega
  ·
    rintro _ _ _ _ ⟨rfl, rfl, rfl, q, hq, rfl⟩
    refine wc_cond rfl (fun hb5 => ?_) (fun hb5 => ?_)
    ·
      have hz : ZeroP c := of_decide_eq_true (hq ▸ hb5)
      refine wc_seq ?_
      refine wc_region ?_
      refine rl_y (y_assign rfl rfl) rfl ?_
      refine rl_end (ρ' := [(2, _)]) ⟨rfl, trivial⟩ ?_
      refine q_then ?_
      refine wc_ret ?_
      refine q_block_ret ?_
      refine q_then_ret ?_
      refine fin1 (.tmp rfl) ?_
      simp only [wid, if_pos hz]
    ·
      have hz : ¬ ZeroP c := of_decide_eq_false (hq ▸ hb5)
      refine wc_seq ?_
      refine wc_region ?_
      refine rl_y (y_load_v rfl Tryd.k3 rfl hu1 (vs := [_]) rfl rfl rfl) rfl ?_
      refine rl_y (y_lss rfl rfl rfl) rfl ?_
      refine rl_y (y_assign rfl rfl) rfl ?_
      refine rl_end (ρ' := [(1, _), (3, _), (14, _)]) ⟨rfl, rfl, rfl, trivial⟩ ?_
      refine q_then ?_
      refine wc_cond rfl (fun hb7 => ?_) (fun hb7 => ?_)
      ·
        refine wc_seq ?_
        refine wc_region ?_
        refine rl_y (y_load_v rfl Tryd.k3 rfl hu1 (vs := [_]) rfl rfl rfl) rfl ?_
        have h7 : c < 127 := of_decide_eq_true hb7
        have h32 : 32 ≤ c := by unfold ZeroP at hz; omega
        refine rl_y (y_sub rfl rfl rfl (wrap64_id (by omega))) rfl ?_
        refine rl_y (y_index_av rfl Tryd.a34 rfl rfl (j := (c - 32).toNat) (by omega) (by omega)) rfl ?_
        have hcel := ht2 (c - 32).toNat (by omega)
        rw [show ((c - 32).toNat : Int) + 32 = c by omega] at hcel
        have hcut := cut_one (c := tc.toList) (j := (c - 32).toNat) (by simpa using hcel)
        refine rl_y (y_load_v rfl Tryd.k5 rfl ht1 (vs := [_]) (by simpa using hcut) rfl rfl) rfl ?_
        refine rl_y (y_conv rfl Tryd.u5 Tryd.u3 rfl (wrap64_id (by omega))) rfl ?_
        refine rl_y (y_assign rfl rfl) rfl ?_
        refine rl_end (ρ' := [(2, _)]) ⟨rfl, trivial⟩ ?_
        refine q_then ?_
        refine wc_ret ?_
        refine q_block_ret ?_
        refine q_then_ret ?_
        refine fin1 (.tmp rfl) ?_
        rfl
      ·
        refine wc_cut (fun ρ σ u' μ => u1 = u' ∧ μ = [] ∧ σ = [] ∧ ∃ q, q = decide (WideP c) ∧ ρ = [(22, .v (.bool q))]) ?_ ?_
        ·
          refine wc_seq ?_
          refine wc_region ?_
          refine rl_y (y_move rfl rfl) rfl ?_
          refine rl_call_f (caps := [_]) rfl rfl Tryd.c19 rfl (FnP.mono (in_fn 4352 4447 c b T _ hu1) ?_)
          rintro v u1 hle1 rfl
          refine rl_y (y_assign rfl rfl) rfl ?_
          refine rl_end (ρ' := [(3, _), (22, _)]) ⟨rfl, rfl, trivial⟩ ?_
          refine q_then ?_
          refine wc_cond rfl (fun hb9 => ?_) (fun hb9 => ?_)
          ·
            refine wc_skip ?_
            refine q_thenK ?_
            refine ⟨[(22, _)], [], ⟨rfl, trivial⟩, trivial, rfl, rfl, rfl, _, ?_, rfl⟩
            refine decide_eq_decide.2 ?_
            unfold WideP
            simp only [decide_eq_true_eq, decide_eq_false_iff_not] at *
            omega
          ·
            refine wc_seq ?_
            refine wc_region ?_
            refine rl_y (y_move rfl rfl) rfl ?_
            refine rl_call_f (caps := [_]) rfl rfl Tryd.c19 rfl (FnP.mono (in_fn 11904 42191 c b T _ hu1) ?_)
            rintro v u1 hle1 rfl
            refine rl_y (y_assign rfl rfl) rfl ?_
            refine rl_end (ρ' := [(3, _), (22, _)]) ⟨rfl, rfl, trivial⟩ ?_
            refine q_then ?_
            refine wc_cond rfl (fun hb10 => ?_) (fun hb10 => ?_)
            ·
              refine wc_skip ?_
              refine q_thenK ?_
              refine ⟨[(22, _)], [], ⟨rfl, trivial⟩, trivial, rfl, rfl, rfl, _, ?_, rfl⟩
              refine decide_eq_decide.2 ?_
              unfold WideP
              simp only [decide_eq_true_eq, decide_eq_false_iff_not] at *
              omega
            ·
              refine wc_seq ?_
              refine wc_region ?_
              refine rl_y (y_move rfl rfl) rfl ?_
              refine rl_call_f (caps := [_]) rfl rfl Tryd.c19 rfl (FnP.mono (in_fn 44032 55203 c b T _ hu1) ?_)
              rintro v u1 hle1 rfl
              refine rl_y (y_assign rfl rfl) rfl ?_
              refine rl_end (ρ' := [(3, _), (22, _)]) ⟨rfl, rfl, trivial⟩ ?_
              refine q_then ?_
              refine wc_cond rfl (fun hb11 => ?_) (fun hb11 => ?_)
              ·
                refine wc_skip ?_
                refine q_thenK ?_
                refine ⟨[(22, _)], [], ⟨rfl, trivial⟩, trivial, rfl, rfl, rfl, _, ?_, rfl⟩
                refine decide_eq_decide.2 ?_
                unfold WideP
                simp only [decide_eq_true_eq, decide_eq_false_iff_not] at *
                omega
              ·
                refine wc_seq ?_
                refine wc_region ?_
                refine rl_y (y_move rfl rfl) rfl ?_
                refine rl_call_f (caps := [_]) rfl rfl Tryd.c19 rfl (FnP.mono (in_fn 63744 64255 c b T _ hu1) ?_)
                rintro v u1 hle1 rfl
                refine rl_y (y_assign rfl rfl) rfl ?_
                refine rl_end (ρ' := [(3, _), (22, _)]) ⟨rfl, rfl, trivial⟩ ?_
                refine q_then ?_
                refine wc_cond rfl (fun hb12 => ?_) (fun hb12 => ?_)
                ·
                  refine wc_skip ?_
                  refine q_thenK ?_
                  refine ⟨[(22, _)], [], ⟨rfl, trivial⟩, trivial, rfl, rfl, rfl, _, ?_, rfl⟩
                  refine decide_eq_decide.2 ?_
                  unfold WideP
                  simp only [decide_eq_true_eq, decide_eq_false_iff_not] at *
                  omega
                ·
                  refine wc_seq ?_
                  refine wc_region ?_
                  refine rl_y (y_move rfl rfl) rfl ?_
                  refine rl_call_f (caps := [_]) rfl rfl Tryd.c19 rfl (FnP.mono (in_fn 65072 65103 c b T _ hu1) ?_)
                  rintro v u1 hle1 rfl
                  refine rl_y (y_assign rfl rfl) rfl ?_
                  refine rl_end (ρ' := [(3, _), (22, _)]) ⟨rfl, rfl, trivial⟩ ?_
                  refine q_then ?_
                  refine wc_cond rfl (fun hb13 => ?_) (fun hb13 => ?_)
                  ·
                    refine wc_skip ?_
                    refine q_thenK ?_
                    refine ⟨[(22, _)], [], ⟨rfl, trivial⟩, trivial, rfl, rfl, rfl, _, ?_, rfl⟩
                    refine decide_eq_decide.2 ?_
                    unfold WideP
                    simp only [decide_eq_true_eq, decide_eq_false_iff_not] at *
                    omega
                  ·
                    refine wc_region ?_
                    refine rl_y (y_move rfl rfl) rfl ?_
                    refine rl_call_f (caps := [_]) rfl rfl Tryd.c19 rfl (FnP.mono (in_fn 65281 65376 c b T _ hu1) ?_)
                    rintro v u1 hle1 rfl
                    refine rl_y (y_assign rfl rfl) rfl ?_
                    refine rl_end (ρ' := [(22, _)]) ⟨rfl, trivial⟩ ?_
                    refine q_thenK ?_
                    refine ⟨[(22, _)], [], ⟨rfl, trivial⟩, trivial, rfl, rfl, rfl, _, ?_, rfl⟩
                    refine decide_eq_decide.2 ?_
                    unfold WideP
                    simp only [decide_eq_true_eq, decide_eq_false_iff_not] at *
                    omega
        ·
          rintro _ _ _ _ ⟨rfl, rfl, rfl, q2, hq2, rfl⟩
          refine wc_cond rfl (fun hb14 => ?_) (fun hb14 => ?_)
          ·
            have hw : WideP c := of_decide_eq_true (hq2 ▸ hb14)
            refine wc_seq ?_
            refine wc_region ?_
            refine rl_y (y_assign rfl rfl) rfl ?_
            refine rl_end (ρ' := [(2, _)]) ⟨rfl, trivial⟩ ?_
            refine q_then ?_
            refine wc_ret ?_
            refine q_block_ret ?_
            refine q_then_ret ?_
            refine fin1 (.tmp rfl) ?_
            have h7 : 127 < c := by have := of_decide_eq_false hb7; unfold ZeroP at hz; omega
            simp only [wid, if_neg hz, if_pos h7, if_pos hw]
          ·
            have hw : ¬ WideP c := of_decide_eq_false (hq2 ▸ hb14)
            refine wc_skip ?_
            refine q_block ?_
            refine q_then ?_
            refine wc_seq ?_
            refine wc_region ?_
            refine rl_y (y_assign rfl rfl) rfl ?_
            refine rl_end (ρ' := [(2, _)]) ⟨rfl, trivial⟩ ?_
            refine q_then ?_
            refine wc_ret ?_
            refine fin1 (.tmp rfl) ?_
            have h7 : 127 < c := by have := of_decide_eq_false hb7; unfold ZeroP at hz; omega
            simp only [wid, if_neg hz, if_pos h7, if_neg hw]

/-- the reference's -/
theorem among_fn (c : Int) (l : List UInt8) (hl : l.length ≤ 100) (u : View) : FnP Tryd.prog 21 [.int .i64 c, str l] u fun v _ => v = .bool (decide (Am c l)) := by
  refine FnP.intro [.tmp 4] Tryd.func21 rfl rfl rfl ?_
  intro w0 hw0
  refine wc_seq ?_
  refine wc_region ?_
  refine rl_y (y_assign rfl rfl) rfl ?_
  refine rl_end (ρ' := [(0, _), (1, _)]) ⟨rfl, rfl, trivial⟩ ?_
  refine q_then ?_
  refine wc_seq ?_
  refine wc_seq ?_
  refine wc_region ?_
  refine rl_y (y_assign rfl rfl) rfl ?_
  refine rl_end (ρ' := [(0, _), (1, _), (5, _)]) ⟨rfl, rfl, rfl, trivial⟩ ?_
  refine q_then ?_
  refine wc_block ?_
  refine wc_loop (fun m ρ σ u' μ => ∃ i : Nat, i + m = l.length ∧ u = u' ∧ μ = [] ∧ σ = [] ∧ ρ = [(0, .v (.int .i64 c)), (1, .v (str l)), (5, .v (.int .i64 i))] ∧ ∀ j : Nat, j < i → ∀ x, l[j]? = some x → (x.toNat : Int) ≠ c) l.length ?_ ?_
  ·
    refine ⟨[(0, _), (1, _), (5, _)], [], ⟨rfl, rfl, rfl, trivial⟩, trivial, 0, by omega, rfl, rfl, rfl, rfl, by omega⟩
  ·
    rintro m ρ σ u' μ ⟨i, hi, rfl, rfl, rfl, rfl, hno⟩
    refine wc_seq ?_
    refine wc_seq ?_
    refine wc_region ?_
    refine rl_y (y_move rfl rfl) rfl ?_
    refine rl_y (y_move rfl rfl) rfl ?_
    refine rl_y (y_len_str rfl rfl Tryd.str9 rfl) rfl ?_
    refine rl_y (y_lss rfl rfl rfl) rfl ?_
    refine rl_end (ρ' := [(0, _), (1, _), (5, _), (9, _)]) ⟨rfl, rfl, rfl, rfl, trivial⟩ ?_
    refine q_then ?_
    refine wc_cond rfl (fun hb2 => ?_) (fun hb2 => ?_)
    ·
      refine wc_skip ?_
      refine q_then ?_
      refine wc_seq ?_
      refine wc_block ?_
      refine wc_seq ?_
      have hlt : i < l.length := by have := of_decide_eq_true hb2; omega
      obtain ⟨x, hx⟩ : ∃ x, l[i]? = some x := ⟨_, List.getElem?_eq_getElem hlt⟩
      have hx256 := x.toNat_lt
      refine wc_region ?_
      refine rl_y (y_move rfl rfl) rfl ?_
      refine rl_y (y_move rfl rfl) rfl ?_
      refine rl_y (y_index_str rfl Tryd.str9 rfl rfl (by first | rfl | omega) (by assumption)) rfl ?_
      refine rl_y (y_conv rfl Tryd.u5 Tryd.u3 rfl (wrap64_id (by omega))) rfl ?_
      refine rl_y (y_move rfl rfl) rfl ?_
      refine rl_y (y_eql rfl rfl rfl) rfl ?_
      refine rl_end (ρ' := [(0, _), (1, _), (5, _), (17, _)]) ⟨rfl, rfl, rfl, rfl, trivial⟩ ?_
      refine q_then ?_
      refine wc_cond rfl (fun hb4 => ?_) (fun hb4 => ?_)
      ·
        refine wc_seq ?_
        refine wc_region ?_
        refine rl_y (y_assign rfl rfl) rfl ?_
        refine rl_end (ρ' := [(4, _)]) ⟨rfl, trivial⟩ ?_
        refine q_then ?_
        refine wc_ret ?_
        refine q_block_ret ?_
        refine q_then_ret ?_
        refine q_then_ret ?_
        refine q_block_ret ?_
        refine q_then_ret ?_
        refine fin1 (.tmp rfl) ?_
        have hxe : (x.toNat : Int) = c := of_decide_eq_true hb4
        rw [decide_eq_true (show Am c l from ⟨x, List.mem_of_getElem? hx, hxe⟩)]
      ·
        refine wc_skip ?_
        refine q_block ?_
        refine q_then ?_
        have hxe : (x.toNat : Int) ≠ c := of_decide_eq_false hb4
        refine wc_region ?_
        refine rl_y (y_move rfl rfl) rfl ?_
        refine rl_y (y_add rfl rfl rfl (wrap64_id (by omega))) rfl ?_
        refine rl_y (y_assign rfl rfl) rfl ?_
        refine rl_end (ρ' := [(0, _), (1, _), (5, _)]) ⟨rfl, rfl, rfl, trivial⟩ ?_
        refine q_thenK ?_
        refine ⟨m - 1, [(0, _), (1, _), (5, _)], [], by omega, ⟨rfl, rfl, rfl, trivial⟩, trivial, i + 1, by omega, rfl, rfl, rfl, rfl, ?_⟩
        intro j hj y hy
        by_cases hji : j = i
        · subst hji
          rw [hx] at hy
          cases hy
          exact hxe
        · exact hno j (by omega) y hy
    ·
      refine wc_exit ?_
      refine q_then_exit ?_
      refine q_then_exit ?_
      refine q_block_hit ?_
      refine q_then ?_
      refine wc_seq ?_
      refine wc_region ?_
      refine rl_y (y_assign rfl rfl) rfl ?_
      refine rl_end (ρ' := [(4, _)]) ⟨rfl, trivial⟩ ?_
      refine q_then ?_
      refine wc_ret ?_
      refine fin1 (.tmp rfl) ?_
      have hge : ¬ ((i : Int) < l.length) := of_decide_eq_false hb2
      rw [decide_eq_false]
      rintro ⟨x, hx, hxe⟩
      obtain ⟨j, hj⟩ := List.getElem?_of_mem hx
      exact hno j (by have := (List.getElem?_eq_some_iff.1 hj).1; omega) x hj hxe

theorem wide_fn (c : Int) (u : View) : FnP Tryd.prog 20 [.int .i64 c] u fun v _ => v = .bool (decide (WideP c)) := by
  refine FnP.intro [.tmp 2] Tryd.func20 rfl rfl rfl ?_
  intro w0 hw0
  refine wc_seq ?_
  refine wc_region ?_
  refine rl_y (y_assign rfl rfl) rfl ?_
  refine rl_end (ρ' := [(0, _)]) ⟨rfl, trivial⟩ ?_
  refine q_then ?_
  refine wc_seq ?_
  refine wc_region ?_
  refine rl_y (y_move rfl rfl) rfl ?_
  refine rl_y (y_geq rfl rfl rfl) rfl ?_
  refine rl_y (y_move rfl rfl) rfl ?_
  rcases Bool.eq_false_or_eq_true (decide (4352 ≤ c)) with hg1_2 | hg1_2
  ·
    simp only [hg1_2]
    refine rl_on rfl rfl ?_
    refine rl_y (y_move rfl rfl) rfl ?_
    refine rl_on rfl rfl ?_
    refine rl_y (y_leq rfl rfl rfl) rfl ?_
    refine rl_y (y_pick_t rfl rfl rfl) rfl ?_
    refine rl_y (y_move rfl rfl) rfl ?_
    rcases Bool.eq_false_or_eq_true (decide (c ≤ 4447)) with hg1_6 | hg1_6
    ·
      simp only [hg1_6]
      refine rl_off rfl rfl rfl rfl ?_
      refine rl_off rfl rfl rfl rfl ?_
      refine rl_off rfl rfl rfl rfl ?_
      refine rl_off_u rfl rfl rfl ?_
      refine rl_off_u rfl rfl rfl ?_
      refine rl_off rfl rfl rfl rfl ?_
      refine rl_y (y_pick_t rfl rfl rfl) rfl ?_
      refine rl_y (y_move rfl rfl) rfl ?_
      refine rl_off rfl rfl rfl rfl ?_
      refine rl_off rfl rfl rfl rfl ?_
      refine rl_off rfl rfl rfl rfl ?_
      refine rl_off_u rfl rfl rfl ?_
      refine rl_off_u rfl rfl rfl ?_
      refine rl_off rfl rfl rfl rfl ?_
      refine rl_y (y_pick_t rfl rfl rfl) rfl ?_
      refine rl_y (y_move rfl rfl) rfl ?_
      refine rl_off rfl rfl rfl rfl ?_
      refine rl_off rfl rfl rfl rfl ?_
      refine rl_off rfl rfl rfl rfl ?_
      refine rl_off_u rfl rfl rfl ?_
      refine rl_off_u rfl rfl rfl ?_
      refine rl_off rfl rfl rfl rfl ?_
      refine rl_y (y_pick_t rfl rfl rfl) rfl ?_
      refine rl_y (y_move rfl rfl) rfl ?_
      refine rl_off rfl rfl rfl rfl ?_
      refine rl_off rfl rfl rfl rfl ?_
      refine rl_off rfl rfl rfl rfl ?_
      refine rl_off_u rfl rfl rfl ?_
      refine rl_off_u rfl rfl rfl ?_
      refine rl_off rfl rfl rfl rfl ?_
      refine rl_y (y_pick_t rfl rfl rfl) rfl ?_
      refine rl_y (y_move rfl rfl) rfl ?_
      refine rl_off rfl rfl rfl rfl ?_
      refine rl_off rfl rfl rfl rfl ?_
      refine rl_off rfl rfl rfl rfl ?_
      refine rl_off_u rfl rfl rfl ?_
      refine rl_off_u rfl rfl rfl ?_
      refine rl_off rfl rfl rfl rfl ?_
      refine rl_y (y_pick_t rfl rfl rfl) rfl ?_
      refine rl_y (y_assign rfl rfl) rfl ?_
      refine rl_end (ρ' := [(2, _)]) ⟨rfl, trivial⟩ ?_
      refine q_then ?_
      refine wc_ret ?_
      refine fin1 (.tmp rfl) ?_
      refine bool_val ?_
      first | refine (decide_eq_true ?_).symm | refine (decide_eq_false ?_).symm | refine decide_eq_decide.2 ?_
      all_goals unfold WideP
      all_goals simp only [decide_eq_true_eq, decide_eq_false_iff_not] at *
      all_goals omega
    ·
      simp only [hg1_6]
      refine rl_on rfl rfl ?_
      refine rl_y (y_move rfl rfl) rfl ?_
      refine rl_on rfl rfl ?_
      refine rl_y (y_geq rfl rfl rfl) rfl ?_
      refine rl_on rfl rfl ?_
      refine rl_y (y_move rfl rfl) rfl ?_
      rcases Bool.eq_false_or_eq_true (decide (11904 ≤ c)) with hg1_9 | hg1_9
      ·
        simp only [hg1_9]
        refine rl_on rfl rfl ?_
        refine rl_y (y_move rfl rfl) rfl ?_
        refine rl_on rfl rfl ?_
        refine rl_y (y_leq rfl rfl rfl) rfl ?_
        refine rl_on rfl rfl ?_
        refine rl_y (y_pick_t rfl rfl rfl) rfl ?_
        refine rl_y (y_pick_f rfl rfl rfl) rfl ?_
        refine rl_y (y_move rfl rfl) rfl ?_
        rcases Bool.eq_false_or_eq_true (decide (c ≤ 42191)) with hg1_14 | hg1_14
        ·
          simp only [hg1_14]
          refine rl_off rfl rfl rfl rfl ?_
          refine rl_off rfl rfl rfl rfl ?_
          refine rl_off rfl rfl rfl rfl ?_
          refine rl_off_u rfl rfl rfl ?_
          refine rl_off_u rfl rfl rfl ?_
          refine rl_off rfl rfl rfl rfl ?_
          refine rl_y (y_pick_t rfl rfl rfl) rfl ?_
          refine rl_y (y_move rfl rfl) rfl ?_
          refine rl_off rfl rfl rfl rfl ?_
          refine rl_off rfl rfl rfl rfl ?_
          refine rl_off rfl rfl rfl rfl ?_
          refine rl_off_u rfl rfl rfl ?_
          refine rl_off_u rfl rfl rfl ?_
          refine rl_off rfl rfl rfl rfl ?_
          refine rl_y (y_pick_t rfl rfl rfl) rfl ?_
          refine rl_y (y_move rfl rfl) rfl ?_
          refine rl_off rfl rfl rfl rfl ?_
          refine rl_off rfl rfl rfl rfl ?_
          refine rl_off rfl rfl rfl rfl ?_
          refine rl_off_u rfl rfl rfl ?_
          refine rl_off_u rfl rfl rfl ?_
          refine rl_off rfl rfl rfl rfl ?_
          refine rl_y (y_pick_t rfl rfl rfl) rfl ?_
          refine rl_y (y_move rfl rfl) rfl ?_
          refine rl_off rfl rfl rfl rfl ?_
          refine rl_off rfl rfl rfl rfl ?_
          refine rl_off rfl rfl rfl rfl ?_
          refine rl_off_u rfl rfl rfl ?_
          refine rl_off_u rfl rfl rfl ?_
          refine rl_off rfl rfl rfl rfl ?_
          refine rl_y (y_pick_t rfl rfl rfl) rfl ?_
          refine rl_y (y_assign rfl rfl) rfl ?_
          refine rl_end (ρ' := [(2, _)]) ⟨rfl, trivial⟩ ?_
          refine q_then ?_
          refine wc_ret ?_
          refine fin1 (.tmp rfl) ?_
          refine bool_val ?_
          first | refine (decide_eq_true ?_).symm | refine (decide_eq_false ?_).symm | refine decide_eq_decide.2 ?_
          all_goals unfold WideP
          all_goals simp only [decide_eq_true_eq, decide_eq_false_iff_not] at *
          all_goals omega
        ·
          simp only [hg1_14]
          refine rl_on rfl rfl ?_
          refine rl_y (y_move rfl rfl) rfl ?_
          refine rl_on rfl rfl ?_
          refine rl_y (y_geq rfl rfl rfl) rfl ?_
          refine rl_on rfl rfl ?_
          refine rl_y (y_move rfl rfl) rfl ?_
          rcases Bool.eq_false_or_eq_true (decide (44032 ≤ c)) with hg1_17 | hg1_17
          ·
            simp only [hg1_17]
            refine rl_on rfl rfl ?_
            refine rl_y (y_move rfl rfl) rfl ?_
            refine rl_on rfl rfl ?_
            refine rl_y (y_leq rfl rfl rfl) rfl ?_
            refine rl_on rfl rfl ?_
            refine rl_y (y_pick_t rfl rfl rfl) rfl ?_
            refine rl_y (y_pick_f rfl rfl rfl) rfl ?_
            refine rl_y (y_move rfl rfl) rfl ?_
            rcases Bool.eq_false_or_eq_true (decide (c ≤ 55203)) with hg1_22 | hg1_22
            ·
              simp only [hg1_22]
              refine rl_off rfl rfl rfl rfl ?_
              refine rl_off rfl rfl rfl rfl ?_
              refine rl_off rfl rfl rfl rfl ?_
              refine rl_off_u rfl rfl rfl ?_
              refine rl_off_u rfl rfl rfl ?_
              refine rl_off rfl rfl rfl rfl ?_
              refine rl_y (y_pick_t rfl rfl rfl) rfl ?_
              refine rl_y (y_move rfl rfl) rfl ?_
              refine rl_off rfl rfl rfl rfl ?_
              refine rl_off rfl rfl rfl rfl ?_
              refine rl_off rfl rfl rfl rfl ?_
              refine rl_off_u rfl rfl rfl ?_
              refine rl_off_u rfl rfl rfl ?_
              refine rl_off rfl rfl rfl rfl ?_
              refine rl_y (y_pick_t rfl rfl rfl) rfl ?_
              refine rl_y (y_move rfl rfl) rfl ?_
              refine rl_off rfl rfl rfl rfl ?_
              refine rl_off rfl rfl rfl rfl ?_
              refine rl_off rfl rfl rfl rfl ?_
              refine rl_off_u rfl rfl rfl ?_
              refine rl_off_u rfl rfl rfl ?_
              refine rl_off rfl rfl rfl rfl ?_
              refine rl_y (y_pick_t rfl rfl rfl) rfl ?_
              refine rl_y (y_assign rfl rfl) rfl ?_
              refine rl_end (ρ' := [(2, _)]) ⟨rfl, trivial⟩ ?_
              refine q_then ?_
              refine wc_ret ?_
              refine fin1 (.tmp rfl) ?_
              refine bool_val ?_
              first | refine (decide_eq_true ?_).symm | refine (decide_eq_false ?_).symm | refine decide_eq_decide.2 ?_
              all_goals unfold WideP
              all_goals simp only [decide_eq_true_eq, decide_eq_false_iff_not] at *
              all_goals omega
            ·
              simp only [hg1_22]
              refine rl_on rfl rfl ?_
              refine rl_y (y_move rfl rfl) rfl ?_
              refine rl_on rfl rfl ?_
              refine rl_y (y_geq rfl rfl rfl) rfl ?_
              refine rl_on rfl rfl ?_
              refine rl_y (y_move rfl rfl) rfl ?_
              rcases Bool.eq_false_or_eq_true (decide (63744 ≤ c)) with hg1_25 | hg1_25
              ·
                simp only [hg1_25]
                refine rl_on rfl rfl ?_
                refine rl_y (y_move rfl rfl) rfl ?_
                refine rl_on rfl rfl ?_
                refine rl_y (y_leq rfl rfl rfl) rfl ?_
                refine rl_on rfl rfl ?_
                refine rl_y (y_pick_t rfl rfl rfl) rfl ?_
                refine rl_y (y_pick_f rfl rfl rfl) rfl ?_
                refine rl_y (y_move rfl rfl) rfl ?_
                rcases Bool.eq_false_or_eq_true (decide (c ≤ 64255)) with hg1_30 | hg1_30
                ·
                  simp only [hg1_30]
                  refine rl_off rfl rfl rfl rfl ?_
                  refine rl_off rfl rfl rfl rfl ?_
                  refine rl_off rfl rfl rfl rfl ?_
                  refine rl_off_u rfl rfl rfl ?_
                  refine rl_off_u rfl rfl rfl ?_
                  refine rl_off rfl rfl rfl rfl ?_
                  refine rl_y (y_pick_t rfl rfl rfl) rfl ?_
                  refine rl_y (y_move rfl rfl) rfl ?_
                  refine rl_off rfl rfl rfl rfl ?_
                  refine rl_off rfl rfl rfl rfl ?_
                  refine rl_off rfl rfl rfl rfl ?_
                  refine rl_off_u rfl rfl rfl ?_
                  refine rl_off_u rfl rfl rfl ?_
                  refine rl_off rfl rfl rfl rfl ?_
                  refine rl_y (y_pick_t rfl rfl rfl) rfl ?_
                  refine rl_y (y_assign rfl rfl) rfl ?_
                  refine rl_end (ρ' := [(2, _)]) ⟨rfl, trivial⟩ ?_
                  refine q_then ?_
                  refine wc_ret ?_
                  refine fin1 (.tmp rfl) ?_
                  refine bool_val ?_
                  first | refine (decide_eq_true ?_).symm | refine (decide_eq_false ?_).symm | refine decide_eq_decide.2 ?_
                  all_goals unfold WideP
                  all_goals simp only [decide_eq_true_eq, decide_eq_false_iff_not] at *
                  all_goals omega
                ·
                  simp only [hg1_30]
                  refine rl_on rfl rfl ?_
                  refine rl_y (y_move rfl rfl) rfl ?_
                  refine rl_on rfl rfl ?_
                  refine rl_y (y_geq rfl rfl rfl) rfl ?_
                  refine rl_on rfl rfl ?_
                  refine rl_y (y_move rfl rfl) rfl ?_
                  rcases Bool.eq_false_or_eq_true (decide (65072 ≤ c)) with hg1_33 | hg1_33
                  ·
                    simp only [hg1_33]
                    refine rl_on rfl rfl ?_
                    refine rl_y (y_move rfl rfl) rfl ?_
                    refine rl_on rfl rfl ?_
                    refine rl_y (y_leq rfl rfl rfl) rfl ?_
                    refine rl_on rfl rfl ?_
                    refine rl_y (y_pick_t rfl rfl rfl) rfl ?_
                    refine rl_y (y_pick_f rfl rfl rfl) rfl ?_
                    refine rl_y (y_move rfl rfl) rfl ?_
                    rcases Bool.eq_false_or_eq_true (decide (c ≤ 65103)) with hg1_38 | hg1_38
                    ·
                      simp only [hg1_38]
                      refine rl_off rfl rfl rfl rfl ?_
                      refine rl_off rfl rfl rfl rfl ?_
                      refine rl_off rfl rfl rfl rfl ?_
                      refine rl_off_u rfl rfl rfl ?_
                      refine rl_off_u rfl rfl rfl ?_
                      refine rl_off rfl rfl rfl rfl ?_
                      refine rl_y (y_pick_t rfl rfl rfl) rfl ?_
                      refine rl_y (y_assign rfl rfl) rfl ?_
                      refine rl_end (ρ' := [(2, _)]) ⟨rfl, trivial⟩ ?_
                      refine q_then ?_
                      refine wc_ret ?_
                      refine fin1 (.tmp rfl) ?_
                      refine bool_val ?_
                      first | refine (decide_eq_true ?_).symm | refine (decide_eq_false ?_).symm | refine decide_eq_decide.2 ?_
                      all_goals unfold WideP
                      all_goals simp only [decide_eq_true_eq, decide_eq_false_iff_not] at *
                      all_goals omega
                    ·
                      simp only [hg1_38]
                      refine rl_on rfl rfl ?_
                      refine rl_y (y_move rfl rfl) rfl ?_
                      refine rl_on rfl rfl ?_
                      refine rl_y (y_geq rfl rfl rfl) rfl ?_
                      refine rl_on rfl rfl ?_
                      refine rl_y (y_move rfl rfl) rfl ?_
                      rcases Bool.eq_false_or_eq_true (decide (65281 ≤ c)) with hg1_41 | hg1_41
                      ·
                        simp only [hg1_41]
                        refine rl_on rfl rfl ?_
                        refine rl_y (y_move rfl rfl) rfl ?_
                        refine rl_on rfl rfl ?_
                        refine rl_y (y_leq rfl rfl rfl) rfl ?_
                        refine rl_on rfl rfl ?_
                        refine rl_y (y_pick_t rfl rfl rfl) rfl ?_
                        refine rl_y (y_pick_f rfl rfl rfl) rfl ?_
                        refine rl_y (y_assign rfl rfl) rfl ?_
                        refine rl_end (ρ' := [(2, _)]) ⟨rfl, trivial⟩ ?_
                        refine q_then ?_
                        refine wc_ret ?_
                        refine fin1 (.tmp rfl) ?_
                        refine bool_val ?_
                        first | refine (decide_eq_true ?_).symm | refine (decide_eq_false ?_).symm | refine decide_eq_decide.2 ?_
                        all_goals unfold WideP
                        all_goals simp only [decide_eq_true_eq, decide_eq_false_iff_not] at *
                        all_goals omega
                      ·
                        simp only [hg1_41]
                        refine rl_off rfl rfl rfl rfl ?_
                        refine rl_off rfl rfl rfl rfl ?_
                        refine rl_on rfl rfl ?_
                        refine rl_y (y_pick_f rfl rfl rfl) rfl ?_
                        refine rl_y (y_pick_f rfl rfl rfl) rfl ?_
                        refine rl_y (y_assign rfl rfl) rfl ?_
                        refine rl_end (ρ' := [(2, _)]) ⟨rfl, trivial⟩ ?_
                        refine q_then ?_
                        refine wc_ret ?_
                        refine fin1 (.tmp rfl) ?_
                        refine bool_val ?_
                        first | refine (decide_eq_true ?_).symm | refine (decide_eq_false ?_).symm | refine decide_eq_decide.2 ?_
                        all_goals unfold WideP
                        all_goals simp only [decide_eq_true_eq, decide_eq_false_iff_not] at *
                        all_goals omega
                  ·
                    simp only [hg1_33]
                    refine rl_off rfl rfl rfl rfl ?_
                    refine rl_off rfl rfl rfl rfl ?_
                    refine rl_on rfl rfl ?_
                    refine rl_y (y_pick_f rfl rfl rfl) rfl ?_
                    refine rl_y (y_pick_f rfl rfl rfl) rfl ?_
                    refine rl_y (y_move rfl rfl) rfl ?_
                    refine rl_on rfl rfl ?_
                    refine rl_y (y_move rfl rfl) rfl ?_
                    refine rl_on rfl rfl ?_
                    refine rl_y (y_geq rfl rfl rfl) rfl ?_
                    refine rl_on rfl rfl ?_
                    refine rl_y (y_move rfl rfl) rfl ?_
                    rcases Bool.eq_false_or_eq_true (decide (65281 ≤ c)) with hg1_41 | hg1_41
                    ·
                      simp only [hg1_41]
                      refine rl_on rfl rfl ?_
                      refine rl_y (y_move rfl rfl) rfl ?_
                      refine rl_on rfl rfl ?_
                      refine rl_y (y_leq rfl rfl rfl) rfl ?_
                      refine rl_on rfl rfl ?_
                      refine rl_y (y_pick_t rfl rfl rfl) rfl ?_
                      refine rl_y (y_pick_f rfl rfl rfl) rfl ?_
                      refine rl_y (y_assign rfl rfl) rfl ?_
                      refine rl_end (ρ' := [(2, _)]) ⟨rfl, trivial⟩ ?_
                      refine q_then ?_
                      refine wc_ret ?_
                      refine fin1 (.tmp rfl) ?_
                      refine bool_val ?_
                      first | refine (decide_eq_true ?_).symm | refine (decide_eq_false ?_).symm | refine decide_eq_decide.2 ?_
                      all_goals unfold WideP
                      all_goals simp only [decide_eq_true_eq, decide_eq_false_iff_not] at *
                      all_goals omega
                    ·
                      simp only [hg1_41]
                      refine rl_off rfl rfl rfl rfl ?_
                      refine rl_off rfl rfl rfl rfl ?_
                      refine rl_on rfl rfl ?_
                      refine rl_y (y_pick_f rfl rfl rfl) rfl ?_
                      refine rl_y (y_pick_f rfl rfl rfl) rfl ?_
                      refine rl_y (y_assign rfl rfl) rfl ?_
                      refine rl_end (ρ' := [(2, _)]) ⟨rfl, trivial⟩ ?_
                      refine q_then ?_
                      refine wc_ret ?_
                      refine fin1 (.tmp rfl) ?_
                      refine bool_val ?_
                      first | refine (decide_eq_true ?_).symm | refine (decide_eq_false ?_).symm | refine decide_eq_decide.2 ?_
                      all_goals unfold WideP
                      all_goals simp only [decide_eq_true_eq, decide_eq_false_iff_not] at *
                      all_goals omega
              ·
                simp only [hg1_25]
                refine rl_off rfl rfl rfl rfl ?_
                refine rl_off rfl rfl rfl rfl ?_
                refine rl_on rfl rfl ?_
                refine rl_y (y_pick_f rfl rfl rfl) rfl ?_
                refine rl_y (y_pick_f rfl rfl rfl) rfl ?_
                refine rl_y (y_move rfl rfl) rfl ?_
                refine rl_on rfl rfl ?_
                refine rl_y (y_move rfl rfl) rfl ?_
                refine rl_on rfl rfl ?_
                refine rl_y (y_geq rfl rfl rfl) rfl ?_
                refine rl_on rfl rfl ?_
                refine rl_y (y_move rfl rfl) rfl ?_
                rcases Bool.eq_false_or_eq_true (decide (65072 ≤ c)) with hg1_33 | hg1_33
                ·
                  simp only [hg1_33]
                  refine rl_on rfl rfl ?_
                  refine rl_y (y_move rfl rfl) rfl ?_
                  refine rl_on rfl rfl ?_
                  refine rl_y (y_leq rfl rfl rfl) rfl ?_
                  refine rl_on rfl rfl ?_
                  refine rl_y (y_pick_t rfl rfl rfl) rfl ?_
                  refine rl_y (y_pick_f rfl rfl rfl) rfl ?_
                  refine rl_y (y_move rfl rfl) rfl ?_
                  rcases Bool.eq_false_or_eq_true (decide (c ≤ 65103)) with hg1_38 | hg1_38
                  ·
                    simp only [hg1_38]
                    refine rl_off rfl rfl rfl rfl ?_
                    refine rl_off rfl rfl rfl rfl ?_
                    refine rl_off rfl rfl rfl rfl ?_
                    refine rl_off_u rfl rfl rfl ?_
                    refine rl_off_u rfl rfl rfl ?_
                    refine rl_off rfl rfl rfl rfl ?_
                    refine rl_y (y_pick_t rfl rfl rfl) rfl ?_
                    refine rl_y (y_assign rfl rfl) rfl ?_
                    refine rl_end (ρ' := [(2, _)]) ⟨rfl, trivial⟩ ?_
                    refine q_then ?_
                    refine wc_ret ?_
                    refine fin1 (.tmp rfl) ?_
                    refine bool_val ?_
                    first | refine (decide_eq_true ?_).symm | refine (decide_eq_false ?_).symm | refine decide_eq_decide.2 ?_
                    all_goals unfold WideP
                    all_goals simp only [decide_eq_true_eq, decide_eq_false_iff_not] at *
                    all_goals omega
                  ·
                    simp only [hg1_38]
                    refine rl_on rfl rfl ?_
                    refine rl_y (y_move rfl rfl) rfl ?_
                    refine rl_on rfl rfl ?_
                    refine rl_y (y_geq rfl rfl rfl) rfl ?_
                    refine rl_on rfl rfl ?_
                    refine rl_y (y_move rfl rfl) rfl ?_
                    rcases Bool.eq_false_or_eq_true (decide (65281 ≤ c)) with hg1_41 | hg1_41
                    ·
                      simp only [hg1_41]
                      refine rl_on rfl rfl ?_
                      refine rl_y (y_move rfl rfl) rfl ?_
                      refine rl_on rfl rfl ?_
                      refine rl_y (y_leq rfl rfl rfl) rfl ?_
                      refine rl_on rfl rfl ?_
                      refine rl_y (y_pick_t rfl rfl rfl) rfl ?_
                      refine rl_y (y_pick_f rfl rfl rfl) rfl ?_
                      refine rl_y (y_assign rfl rfl) rfl ?_
                      refine rl_end (ρ' := [(2, _)]) ⟨rfl, trivial⟩ ?_
                      refine q_then ?_
                      refine wc_ret ?_
                      refine fin1 (.tmp rfl) ?_
                      refine bool_val ?_
                      first | refine (decide_eq_true ?_).symm | refine (decide_eq_false ?_).symm | refine decide_eq_decide.2 ?_
                      all_goals unfold WideP
                      all_goals simp only [decide_eq_true_eq, decide_eq_false_iff_not] at *
                      all_goals omega
                    ·
                      simp only [hg1_41]
                      refine rl_off rfl rfl rfl rfl ?_
                      refine rl_off rfl rfl rfl rfl ?_
                      refine rl_on rfl rfl ?_
                      refine rl_y (y_pick_f rfl rfl rfl) rfl ?_
                      refine rl_y (y_pick_f rfl rfl rfl) rfl ?_
                      refine rl_y (y_assign rfl rfl) rfl ?_
                      refine rl_end (ρ' := [(2, _)]) ⟨rfl, trivial⟩ ?_
                      refine q_then ?_
                      refine wc_ret ?_
                      refine fin1 (.tmp rfl) ?_
                      refine bool_val ?_
                      first | refine (decide_eq_true ?_).symm | refine (decide_eq_false ?_).symm | refine decide_eq_decide.2 ?_
                      all_goals unfold WideP
                      all_goals simp only [decide_eq_true_eq, decide_eq_false_iff_not] at *
                      all_goals omega
                ·
                  simp only [hg1_33]
                  refine rl_off rfl rfl rfl rfl ?_
                  refine rl_off rfl rfl rfl rfl ?_
                  refine rl_on rfl rfl ?_
                  refine rl_y (y_pick_f rfl rfl rfl) rfl ?_
                  refine rl_y (y_pick_f rfl rfl rfl) rfl ?_
                  refine rl_y (y_move rfl rfl) rfl ?_
                  refine rl_on rfl rfl ?_
                  refine rl_y (y_move rfl rfl) rfl ?_
                  refine rl_on rfl rfl ?_
                  refine rl_y (y_geq rfl rfl rfl) rfl ?_
                  refine rl_on rfl rfl ?_
                  refine rl_y (y_move rfl rfl) rfl ?_
                  rcases Bool.eq_false_or_eq_true (decide (65281 ≤ c)) with hg1_41 | hg1_41
                  ·
                    simp only [hg1_41]
                    refine rl_on rfl rfl ?_
                    refine rl_y (y_move rfl rfl) rfl ?_
                    refine rl_on rfl rfl ?_
                    refine rl_y (y_leq rfl rfl rfl) rfl ?_
                    refine rl_on rfl rfl ?_
                    refine rl_y (y_pick_t rfl rfl rfl) rfl ?_
                    refine rl_y (y_pick_f rfl rfl rfl) rfl ?_
                    refine rl_y (y_assign rfl rfl) rfl ?_
                    refine rl_end (ρ' := [(2, _)]) ⟨rfl, trivial⟩ ?_
                    refine q_then ?_
                    refine wc_ret ?_
                    refine fin1 (.tmp rfl) ?_
                    refine bool_val ?_
                    first | refine (decide_eq_true ?_).symm | refine (decide_eq_false ?_).symm | refine decide_eq_decide.2 ?_
                    all_goals unfold WideP
                    all_goals simp only [decide_eq_true_eq, decide_eq_false_iff_not] at *
                    all_goals omega
                  ·
                    simp only [hg1_41]
                    refine rl_off rfl rfl rfl rfl ?_
                    refine rl_off rfl rfl rfl rfl ?_
                    refine rl_on rfl rfl ?_
                    refine rl_y (y_pick_f rfl rfl rfl) rfl ?_
                    refine rl_y (y_pick_f rfl rfl rfl) rfl ?_
                    refine rl_y (y_assign rfl rfl) rfl ?_
                    refine rl_end (ρ' := [(2, _)]) ⟨rfl, trivial⟩ ?_
                    refine q_then ?_
                    refine wc_ret ?_
                    refine fin1 (.tmp rfl) ?_
                    refine bool_val ?_
                    first | refine (decide_eq_true ?_).symm | refine (decide_eq_false ?_).symm | refine decide_eq_decide.2 ?_
                    all_goals unfold WideP
                    all_goals simp only [decide_eq_true_eq, decide_eq_false_iff_not] at *
                    all_goals omega
          ·
            simp only [hg1_17]
            refine rl_off rfl rfl rfl rfl ?_
            refine rl_off rfl rfl rfl rfl ?_
            refine rl_on rfl rfl ?_
            refine rl_y (y_pick_f rfl rfl rfl) rfl ?_
            refine rl_y (y_pick_f rfl rfl rfl) rfl ?_
            refine rl_y (y_move rfl rfl) rfl ?_
            refine rl_on rfl rfl ?_
            refine rl_y (y_move rfl rfl) rfl ?_
            refine rl_on rfl rfl ?_
            refine rl_y (y_geq rfl rfl rfl) rfl ?_
            refine rl_on rfl rfl ?_
            refine rl_y (y_move rfl rfl) rfl ?_
            rcases Bool.eq_false_or_eq_true (decide (63744 ≤ c)) with hg1_25 | hg1_25
            ·
              simp only [hg1_25]
              refine rl_on rfl rfl ?_
              refine rl_y (y_move rfl rfl) rfl ?_
              refine rl_on rfl rfl ?_
              refine rl_y (y_leq rfl rfl rfl) rfl ?_
              refine rl_on rfl rfl ?_
              refine rl_y (y_pick_t rfl rfl rfl) rfl ?_
              refine rl_y (y_pick_f rfl rfl rfl) rfl ?_
              refine rl_y (y_move rfl rfl) rfl ?_
              rcases Bool.eq_false_or_eq_true (decide (c ≤ 64255)) with hg1_30 | hg1_30
              ·
                simp only [hg1_30]
                refine rl_off rfl rfl rfl rfl ?_
                refine rl_off rfl rfl rfl rfl ?_
                refine rl_off rfl rfl rfl rfl ?_
                refine rl_off_u rfl rfl rfl ?_
                refine rl_off_u rfl rfl rfl ?_
                refine rl_off rfl rfl rfl rfl ?_
                refine rl_y (y_pick_t rfl rfl rfl) rfl ?_
                refine rl_y (y_move rfl rfl) rfl ?_
                refine rl_off rfl rfl rfl rfl ?_
                refine rl_off rfl rfl rfl rfl ?_
                refine rl_off rfl rfl rfl rfl ?_
                refine rl_off_u rfl rfl rfl ?_
                refine rl_off_u rfl rfl rfl ?_
                refine rl_off rfl rfl rfl rfl ?_
                refine rl_y (y_pick_t rfl rfl rfl) rfl ?_
                refine rl_y (y_assign rfl rfl) rfl ?_
                refine rl_end (ρ' := [(2, _)]) ⟨rfl, trivial⟩ ?_
                refine q_then ?_
                refine wc_ret ?_
                refine fin1 (.tmp rfl) ?_
                refine bool_val ?_
                first | refine (decide_eq_true ?_).symm | refine (decide_eq_false ?_).symm | refine decide_eq_decide.2 ?_
                all_goals unfold WideP
                all_goals simp only [decide_eq_true_eq, decide_eq_false_iff_not] at *
                all_goals omega
              ·
                simp only [hg1_30]
                refine rl_on rfl rfl ?_
                refine rl_y (y_move rfl rfl) rfl ?_
                refine rl_on rfl rfl ?_
                refine rl_y (y_geq rfl rfl rfl) rfl ?_
                refine rl_on rfl rfl ?_
                refine rl_y (y_move rfl rfl) rfl ?_
                rcases Bool.eq_false_or_eq_true (decide (65072 ≤ c)) with hg1_33 | hg1_33
                ·
                  simp only [hg1_33]
                  refine rl_on rfl rfl ?_
                  refine rl_y (y_move rfl rfl) rfl ?_
                  refine rl_on rfl rfl ?_
                  refine rl_y (y_leq rfl rfl rfl) rfl ?_
                  refine rl_on rfl rfl ?_
                  refine rl_y (y_pick_t rfl rfl rfl) rfl ?_
                  refine rl_y (y_pick_f rfl rfl rfl) rfl ?_
                  refine rl_y (y_move rfl rfl) rfl ?_
                  rcases Bool.eq_false_or_eq_true (decide (c ≤ 65103)) with hg1_38 | hg1_38
                  ·
                    simp only [hg1_38]
                    refine rl_off rfl rfl rfl rfl ?_
                    refine rl_off rfl rfl rfl rfl ?_
                    refine rl_off rfl rfl rfl rfl ?_
                    refine rl_off_u rfl rfl rfl ?_
                    refine rl_off_u rfl rfl rfl ?_
                    refine rl_off rfl rfl rfl rfl ?_
                    refine rl_y (y_pick_t rfl rfl rfl) rfl ?_
                    refine rl_y (y_assign rfl rfl) rfl ?_
                    refine rl_end (ρ' := [(2, _)]) ⟨rfl, trivial⟩ ?_
                    refine q_then ?_
                    refine wc_ret ?_
                    refine fin1 (.tmp rfl) ?_
                    refine bool_val ?_
                    first | refine (decide_eq_true ?_).symm | refine (decide_eq_false ?_).symm | refine decide_eq_decide.2 ?_
                    all_goals unfold WideP
                    all_goals simp only [decide_eq_true_eq, decide_eq_false_iff_not] at *
                    all_goals omega
                  ·
                    simp only [hg1_38]
                    refine rl_on rfl rfl ?_
                    refine rl_y (y_move rfl rfl) rfl ?_
                    refine rl_on rfl rfl ?_
                    refine rl_y (y_geq rfl rfl rfl) rfl ?_
                    refine rl_on rfl rfl ?_
                    refine rl_y (y_move rfl rfl) rfl ?_
                    rcases Bool.eq_false_or_eq_true (decide (65281 ≤ c)) with hg1_41 | hg1_41
                    ·
                      simp only [hg1_41]
                      refine rl_on rfl rfl ?_
                      refine rl_y (y_move rfl rfl) rfl ?_
                      refine rl_on rfl rfl ?_
                      refine rl_y (y_leq rfl rfl rfl) rfl ?_
                      refine rl_on rfl rfl ?_
                      refine rl_y (y_pick_t rfl rfl rfl) rfl ?_
                      refine rl_y (y_pick_f rfl rfl rfl) rfl ?_
                      refine rl_y (y_assign rfl rfl) rfl ?_
                      refine rl_end (ρ' := [(2, _)]) ⟨rfl, trivial⟩ ?_
                      refine q_then ?_
                      refine wc_ret ?_
                      refine fin1 (.tmp rfl) ?_
                      refine bool_val ?_
                      first | refine (decide_eq_true ?_).symm | refine (decide_eq_false ?_).symm | refine decide_eq_decide.2 ?_
                      all_goals unfold WideP
                      all_goals simp only [decide_eq_true_eq, decide_eq_false_iff_not] at *
                      all_goals omega
                    ·
                      simp only [hg1_41]
                      refine rl_off rfl rfl rfl rfl ?_
                      refine rl_off rfl rfl rfl rfl ?_
                      refine rl_on rfl rfl ?_
                      refine rl_y (y_pick_f rfl rfl rfl) rfl ?_
                      refine rl_y (y_pick_f rfl rfl rfl) rfl ?_
                      refine rl_y (y_assign rfl rfl) rfl ?_
                      refine rl_end (ρ' := [(2, _)]) ⟨rfl, trivial⟩ ?_
                      refine q_then ?_
                      refine wc_ret ?_
                      refine fin1 (.tmp rfl) ?_
                      refine bool_val ?_
                      first | refine (decide_eq_true ?_).symm | refine (decide_eq_false ?_).symm | refine decide_eq_decide.2 ?_
                      all_goals unfold WideP
                      all_goals simp only [decide_eq_true_eq, decide_eq_false_iff_not] at *
                      all_goals omega
                ·
                  simp only [hg1_33]
                  refine rl_off rfl rfl rfl rfl ?_
                  refine rl_off rfl rfl rfl rfl ?_
                  refine rl_on rfl rfl ?_
                  refine rl_y (y_pick_f rfl rfl rfl) rfl ?_
                  refine rl_y (y_pick_f rfl rfl rfl) rfl ?_
                  refine rl_y (y_move rfl rfl) rfl ?_
                  refine rl_on rfl rfl ?_
                  refine rl_y (y_move rfl rfl) rfl ?_
                  refine rl_on rfl rfl ?_
                  refine rl_y (y_geq rfl rfl rfl) rfl ?_
                  refine rl_on rfl rfl ?_
                  refine rl_y (y_move rfl rfl) rfl ?_
                  rcases Bool.eq_false_or_eq_true (decide (65281 ≤ c)) with hg1_41 | hg1_41
                  ·
                    simp only [hg1_41]
                    refine rl_on rfl rfl ?_
                    refine rl_y (y_move rfl rfl) rfl ?_
                    refine rl_on rfl rfl ?_
                    refine rl_y (y_leq rfl rfl rfl) rfl ?_
                    refine rl_on rfl rfl ?_
                    refine rl_y (y_pick_t rfl rfl rfl) rfl ?_
                    refine rl_y (y_pick_f rfl rfl rfl) rfl ?_
                    refine rl_y (y_assign rfl rfl) rfl ?_
                    refine rl_end (ρ' := [(2, _)]) ⟨rfl, trivial⟩ ?_
                    refine q_then ?_
                    refine wc_ret ?_
                    refine fin1 (.tmp rfl) ?_
                    refine bool_val ?_
                    first | refine (decide_eq_true ?_).symm | refine (decide_eq_false ?_).symm | refine decide_eq_decide.2 ?_
                    all_goals unfold WideP
                    all_goals simp only [decide_eq_true_eq, decide_eq_false_iff_not] at *
                    all_goals omega
                  ·
                    simp only [hg1_41]
                    refine rl_off rfl rfl rfl rfl ?_
                    refine rl_off rfl rfl rfl rfl ?_
                    refine rl_on rfl rfl ?_
                    refine rl_y (y_pick_f rfl rfl rfl) rfl ?_
                    refine rl_y (y_pick_f rfl rfl rfl) rfl ?_
                    refine rl_y (y_assign rfl rfl) rfl ?_
                    refine rl_end (ρ' := [(2, _)]) ⟨rfl, trivial⟩ ?_
                    refine q_then ?_
                    refine wc_ret ?_
                    refine fin1 (.tmp rfl) ?_
                    refine bool_val ?_
                    first | refine (decide_eq_true ?_).symm | refine (decide_eq_false ?_).symm | refine decide_eq_decide.2 ?_
                    all_goals unfold WideP
                    all_goals simp only [decide_eq_true_eq, decide_eq_false_iff_not] at *
                    all_goals omega
            ·
              simp only [hg1_25]
              refine rl_off rfl rfl rfl rfl ?_
              refine rl_off rfl rfl rfl rfl ?_
              refine rl_on rfl rfl ?_
              refine rl_y (y_pick_f rfl rfl rfl) rfl ?_
              refine rl_y (y_pick_f rfl rfl rfl) rfl ?_
              refine rl_y (y_move rfl rfl) rfl ?_
              refine rl_on rfl rfl ?_
              refine rl_y (y_move rfl rfl) rfl ?_
              refine rl_on rfl rfl ?_
              refine rl_y (y_geq rfl rfl rfl) rfl ?_
              refine rl_on rfl rfl ?_
              refine rl_y (y_move rfl rfl) rfl ?_
              rcases Bool.eq_false_or_eq_true (decide (65072 ≤ c)) with hg1_33 | hg1_33
              ·
                simp only [hg1_33]
                refine rl_on rfl rfl ?_
                refine rl_y (y_move rfl rfl) rfl ?_
                refine rl_on rfl rfl ?_
                refine rl_y (y_leq rfl rfl rfl) rfl ?_
                refine rl_on rfl rfl ?_
                refine rl_y (y_pick_t rfl rfl rfl) rfl ?_
                refine rl_y (y_pick_f rfl rfl rfl) rfl ?_
                refine rl_y (y_move rfl rfl) rfl ?_
                rcases Bool.eq_false_or_eq_true (decide (c ≤ 65103)) with hg1_38 | hg1_38
                ·
                  simp only [hg1_38]
                  refine rl_off rfl rfl rfl rfl ?_
                  refine rl_off rfl rfl rfl rfl ?_
                  refine rl_off rfl rfl rfl rfl ?_
                  refine rl_off_u rfl rfl rfl ?_
                  refine rl_off_u rfl rfl rfl ?_
                  refine rl_off rfl rfl rfl rfl ?_
                  refine rl_y (y_pick_t rfl rfl rfl) rfl ?_
                  refine rl_y (y_assign rfl rfl) rfl ?_
                  refine rl_end (ρ' := [(2, _)]) ⟨rfl, trivial⟩ ?_
                  refine q_then ?_
                  refine wc_ret ?_
                  refine fin1 (.tmp rfl) ?_
                  refine bool_val ?_
                  first | refine (decide_eq_true ?_).symm | refine (decide_eq_false ?_).symm | refine decide_eq_decide.2 ?_
                  all_goals unfold WideP
                  all_goals simp only [decide_eq_true_eq, decide_eq_false_iff_not] at *
                  all_goals omega
                ·
                  simp only [hg1_38]
                  refine rl_on rfl rfl ?_
                  refine rl_y (y_move rfl rfl) rfl ?_
                  refine rl_on rfl rfl ?_
                  refine rl_y (y_geq rfl rfl rfl) rfl ?_
                  refine rl_on rfl rfl ?_
                  refine rl_y (y_move rfl rfl) rfl ?_
                  rcases Bool.eq_false_or_eq_true (decide (65281 ≤ c)) with hg1_41 | hg1_41
                  ·
                    simp only [hg1_41]
                    refine rl_on rfl rfl ?_
                    refine rl_y (y_move rfl rfl) rfl ?_
                    refine rl_on rfl rfl ?_
                    refine rl_y (y_leq rfl rfl rfl) rfl ?_
                    refine rl_on rfl rfl ?_
                    refine rl_y (y_pick_t rfl rfl rfl) rfl ?_
                    refine rl_y (y_pick_f rfl rfl rfl) rfl ?_
                    refine rl_y (y_assign rfl rfl) rfl ?_
                    refine rl_end (ρ' := [(2, _)]) ⟨rfl, trivial⟩ ?_
                    refine q_then ?_
                    refine wc_ret ?_
                    refine fin1 (.tmp rfl) ?_
                    refine bool_val ?_
                    first | refine (decide_eq_true ?_).symm | refine (decide_eq_false ?_).symm | refine decide_eq_decide.2 ?_
                    all_goals unfold WideP
                    all_goals simp only [decide_eq_true_eq, decide_eq_false_iff_not] at *
                    all_goals omega
                  ·
                    simp only [hg1_41]
                    refine rl_off rfl rfl rfl rfl ?_
                    refine rl_off rfl rfl rfl rfl ?_
                    refine rl_on rfl rfl ?_
                    refine rl_y (y_pick_f rfl rfl rfl) rfl ?_
                    refine rl_y (y_pick_f rfl rfl rfl) rfl ?_
                    refine rl_y (y_assign rfl rfl) rfl ?_
                    refine rl_end (ρ' := [(2, _)]) ⟨rfl, trivial⟩ ?_
                    refine q_then ?_
                    refine wc_ret ?_
                    refine fin1 (.tmp rfl) ?_
                    refine bool_val ?_
                    first | refine (decide_eq_true ?_).symm | refine (decide_eq_false ?_).symm | refine decide_eq_decide.2 ?_
                    all_goals unfold WideP
                    all_goals simp only [decide_eq_true_eq, decide_eq_false_iff_not] at *
                    all_goals omega
              ·
                simp only [hg1_33]
                refine rl_off rfl rfl rfl rfl ?_
                refine rl_off rfl rfl rfl rfl ?_
                refine rl_on rfl rfl ?_
                refine rl_y (y_pick_f rfl rfl rfl) rfl ?_
                refine rl_y (y_pick_f rfl rfl rfl) rfl ?_
                refine rl_y (y_move rfl rfl) rfl ?_
                refine rl_on rfl rfl ?_
                refine rl_y (y_move rfl rfl) rfl ?_
                refine rl_on rfl rfl ?_
                refine rl_y (y_geq rfl rfl rfl) rfl ?_
                refine rl_on rfl rfl ?_
                refine rl_y (y_move rfl rfl) rfl ?_
                rcases Bool.eq_false_or_eq_true (decide (65281 ≤ c)) with hg1_41 | hg1_41
                ·
                  simp only [hg1_41]
                  refine rl_on rfl rfl ?_
                  refine rl_y (y_move rfl rfl) rfl ?_
                  refine rl_on rfl rfl ?_
                  refine rl_y (y_leq rfl rfl rfl) rfl ?_
                  refine rl_on rfl rfl ?_
                  refine rl_y (y_pick_t rfl rfl rfl) rfl ?_
                  refine rl_y (y_pick_f rfl rfl rfl) rfl ?_
                  refine rl_y (y_assign rfl rfl) rfl ?_
                  refine rl_end (ρ' := [(2, _)]) ⟨rfl, trivial⟩ ?_
                  refine q_then ?_
                  refine wc_ret ?_
                  refine fin1 (.tmp rfl) ?_
                  refine bool_val ?_
                  first | refine (decide_eq_true ?_).symm | refine (decide_eq_false ?_).symm | refine decide_eq_decide.2 ?_
                  all_goals unfold WideP
                  all_goals simp only [decide_eq_true_eq, decide_eq_false_iff_not] at *
                  all_goals omega
                ·
                  simp only [hg1_41]
                  refine rl_off rfl rfl rfl rfl ?_
                  refine rl_off rfl rfl rfl rfl ?_
                  refine rl_on rfl rfl ?_
                  refine rl_y (y_pick_f rfl rfl rfl) rfl ?_
                  refine rl_y (y_pick_f rfl rfl rfl) rfl ?_
                  refine rl_y (y_assign rfl rfl) rfl ?_
                  refine rl_end (ρ' := [(2, _)]) ⟨rfl, trivial⟩ ?_
                  refine q_then ?_
                  refine wc_ret ?_
                  refine fin1 (.tmp rfl) ?_
                  refine bool_val ?_
                  first | refine (decide_eq_true ?_).symm | refine (decide_eq_false ?_).symm | refine decide_eq_decide.2 ?_
                  all_goals unfold WideP
                  all_goals simp only [decide_eq_true_eq, decide_eq_false_iff_not] at *
                  all_goals omega
      ·
        simp only [hg1_9]
        refine rl_off rfl rfl rfl rfl ?_
        refine rl_off rfl rfl rfl rfl ?_
        refine rl_on rfl rfl ?_
        refine rl_y (y_pick_f rfl rfl rfl) rfl ?_
        refine rl_y (y_pick_f rfl rfl rfl) rfl ?_
        refine rl_y (y_move rfl rfl) rfl ?_
        refine rl_on rfl rfl ?_
        refine rl_y (y_move rfl rfl) rfl ?_
        refine rl_on rfl rfl ?_
        refine rl_y (y_geq rfl rfl rfl) rfl ?_
        refine rl_on rfl rfl ?_
        refine rl_y (y_move rfl rfl) rfl ?_
        rcases Bool.eq_false_or_eq_true (decide (44032 ≤ c)) with hg1_17 | hg1_17
        ·
          simp only [hg1_17]
          refine rl_on rfl rfl ?_
          refine rl_y (y_move rfl rfl) rfl ?_
          refine rl_on rfl rfl ?_
          refine rl_y (y_leq rfl rfl rfl) rfl ?_
          refine rl_on rfl rfl ?_
          refine rl_y (y_pick_t rfl rfl rfl) rfl ?_
          refine rl_y (y_pick_f rfl rfl rfl) rfl ?_
          refine rl_y (y_move rfl rfl) rfl ?_
          rcases Bool.eq_false_or_eq_true (decide (c ≤ 55203)) with hg1_22 | hg1_22
          ·
            simp only [hg1_22]
            refine rl_off rfl rfl rfl rfl ?_
            refine rl_off rfl rfl rfl rfl ?_
            refine rl_off rfl rfl rfl rfl ?_
            refine rl_off_u rfl rfl rfl ?_
            refine rl_off_u rfl rfl rfl ?_
            refine rl_off rfl rfl rfl rfl ?_
            refine rl_y (y_pick_t rfl rfl rfl) rfl ?_
            refine rl_y (y_move rfl rfl) rfl ?_
            refine rl_off rfl rfl rfl rfl ?_
            refine rl_off rfl rfl rfl rfl ?_
            refine rl_off rfl rfl rfl rfl ?_
            refine rl_off_u rfl rfl rfl ?_
            refine rl_off_u rfl rfl rfl ?_
            refine rl_off rfl rfl rfl rfl ?_
            refine rl_y (y_pick_t rfl rfl rfl) rfl ?_
            refine rl_y (y_move rfl rfl) rfl ?_
            refine rl_off rfl rfl rfl rfl ?_
            refine rl_off rfl rfl rfl rfl ?_
            refine rl_off rfl rfl rfl rfl ?_
            refine rl_off_u rfl rfl rfl ?_
            refine rl_off_u rfl rfl rfl ?_
            refine rl_off rfl rfl rfl rfl ?_
            refine rl_y (y_pick_t rfl rfl rfl) rfl ?_
            refine rl_y (y_assign rfl rfl) rfl ?_
            refine rl_end (ρ' := [(2, _)]) ⟨rfl, trivial⟩ ?_
            refine q_then ?_
            refine wc_ret ?_
            refine fin1 (.tmp rfl) ?_
            refine bool_val ?_
            first | refine (decide_eq_true ?_).symm | refine (decide_eq_false ?_).symm | refine decide_eq_decide.2 ?_
            all_goals unfold WideP
            all_goals simp only [decide_eq_true_eq, decide_eq_false_iff_not] at *
            all_goals omega
          ·
            simp only [hg1_22]
            refine rl_on rfl rfl ?_
            refine rl_y (y_move rfl rfl) rfl ?_
            refine rl_on rfl rfl ?_
            refine rl_y (y_geq rfl rfl rfl) rfl ?_
            refine rl_on rfl rfl ?_
            refine rl_y (y_move rfl rfl) rfl ?_
            rcases Bool.eq_false_or_eq_true (decide (63744 ≤ c)) with hg1_25 | hg1_25
            ·
              simp only [hg1_25]
              refine rl_on rfl rfl ?_
              refine rl_y (y_move rfl rfl) rfl ?_
              refine rl_on rfl rfl ?_
              refine rl_y (y_leq rfl rfl rfl) rfl ?_
              refine rl_on rfl rfl ?_
              refine rl_y (y_pick_t rfl rfl rfl) rfl ?_
              refine rl_y (y_pick_f rfl rfl rfl) rfl ?_
              refine rl_y (y_move rfl rfl) rfl ?_
              rcases Bool.eq_false_or_eq_true (decide (c ≤ 64255)) with hg1_30 | hg1_30
              ·
                simp only [hg1_30]
                refine rl_off rfl rfl rfl rfl ?_
                refine rl_off rfl rfl rfl rfl ?_
                refine rl_off rfl rfl rfl rfl ?_
                refine rl_off_u rfl rfl rfl ?_
                refine rl_off_u rfl rfl rfl ?_
                refine rl_off rfl rfl rfl rfl ?_
                refine rl_y (y_pick_t rfl rfl rfl) rfl ?_
                refine rl_y (y_move rfl rfl) rfl ?_
                refine rl_off rfl rfl rfl rfl ?_
                refine rl_off rfl rfl rfl rfl ?_
                refine rl_off rfl rfl rfl rfl ?_
                refine rl_off_u rfl rfl rfl ?_
                refine rl_off_u rfl rfl rfl ?_
                refine rl_off rfl rfl rfl rfl ?_
                refine rl_y (y_pick_t rfl rfl rfl) rfl ?_
                refine rl_y (y_assign rfl rfl) rfl ?_
                refine rl_end (ρ' := [(2, _)]) ⟨rfl, trivial⟩ ?_
                refine q_then ?_
                refine wc_ret ?_
                refine fin1 (.tmp rfl) ?_
                refine bool_val ?_
                first | refine (decide_eq_true ?_).symm | refine (decide_eq_false ?_).symm | refine decide_eq_decide.2 ?_
                all_goals unfold WideP
                all_goals simp only [decide_eq_true_eq, decide_eq_false_iff_not] at *
                all_goals omega
              ·
                simp only [hg1_30]
                refine rl_on rfl rfl ?_
                refine rl_y (y_move rfl rfl) rfl ?_
                refine rl_on rfl rfl ?_
                refine rl_y (y_geq rfl rfl rfl) rfl ?_
                refine rl_on rfl rfl ?_
                refine rl_y (y_move rfl rfl) rfl ?_
                rcases Bool.eq_false_or_eq_true (decide (65072 ≤ c)) with hg1_33 | hg1_33
                ·
                  simp only [hg1_33]
                  refine rl_on rfl rfl ?_
                  refine rl_y (y_move rfl rfl) rfl ?_
                  refine rl_on rfl rfl ?_
                  refine rl_y (y_leq rfl rfl rfl) rfl ?_
                  refine rl_on rfl rfl ?_
                  refine rl_y (y_pick_t rfl rfl rfl) rfl ?_
                  refine rl_y (y_pick_f rfl rfl rfl) rfl ?_
                  refine rl_y (y_move rfl rfl) rfl ?_
                  rcases Bool.eq_false_or_eq_true (decide (c ≤ 65103)) with hg1_38 | hg1_38
                  ·
                    simp only [hg1_38]
                    refine rl_off rfl rfl rfl rfl ?_
                    refine rl_off rfl rfl rfl rfl ?_
                    refine rl_off rfl rfl rfl rfl ?_
                    refine rl_off_u rfl rfl rfl ?_
                    refine rl_off_u rfl rfl rfl ?_
                    refine rl_off rfl rfl rfl rfl ?_
                    refine rl_y (y_pick_t rfl rfl rfl) rfl ?_
                    refine rl_y (y_assign rfl rfl) rfl ?_
                    refine rl_end (ρ' := [(2, _)]) ⟨rfl, trivial⟩ ?_
                    refine q_then ?_
                    refine wc_ret ?_
                    refine fin1 (.tmp rfl) ?_
                    refine bool_val ?_
                    first | refine (decide_eq_true ?_).symm | refine (decide_eq_false ?_).symm | refine decide_eq_decide.2 ?_
                    all_goals unfold WideP
                    all_goals simp only [decide_eq_true_eq, decide_eq_false_iff_not] at *
                    all_goals omega
                  ·
                    simp only [hg1_38]
                    refine rl_on rfl rfl ?_
                    refine rl_y (y_move rfl rfl) rfl ?_
                    refine rl_on rfl rfl ?_
                    refine rl_y (y_geq rfl rfl rfl) rfl ?_
                    refine rl_on rfl rfl ?_
                    refine rl_y (y_move rfl rfl) rfl ?_
                    rcases Bool.eq_false_or_eq_true (decide (65281 ≤ c)) with hg1_41 | hg1_41
                    ·
                      simp only [hg1_41]
                      refine rl_on rfl rfl ?_
                      refine rl_y (y_move rfl rfl) rfl ?_
                      refine rl_on rfl rfl ?_
                      refine rl_y (y_leq rfl rfl rfl) rfl ?_
                      refine rl_on rfl rfl ?_
                      refine rl_y (y_pick_t rfl rfl rfl) rfl ?_
                      refine rl_y (y_pick_f rfl rfl rfl) rfl ?_
                      refine rl_y (y_assign rfl rfl) rfl ?_
                      refine rl_end (ρ' := [(2, _)]) ⟨rfl, trivial⟩ ?_
                      refine q_then ?_
                      refine wc_ret ?_
                      refine fin1 (.tmp rfl) ?_
                      refine bool_val ?_
                      first | refine (decide_eq_true ?_).symm | refine (decide_eq_false ?_).symm | refine decide_eq_decide.2 ?_
                      all_goals unfold WideP
                      all_goals simp only [decide_eq_true_eq, decide_eq_false_iff_not] at *
                      all_goals omega
                    ·
                      simp only [hg1_41]
                      refine rl_off rfl rfl rfl rfl ?_
                      refine rl_off rfl rfl rfl rfl ?_
                      refine rl_on rfl rfl ?_
                      refine rl_y (y_pick_f rfl rfl rfl) rfl ?_
                      refine rl_y (y_pick_f rfl rfl rfl) rfl ?_
                      refine rl_y (y_assign rfl rfl) rfl ?_
                      refine rl_end (ρ' := [(2, _)]) ⟨rfl, trivial⟩ ?_
                      refine q_then ?_
                      refine wc_ret ?_
                      refine fin1 (.tmp rfl) ?_
                      refine bool_val ?_
                      first | refine (decide_eq_true ?_).symm | refine (decide_eq_false ?_).symm | refine decide_eq_decide.2 ?_
                      all_goals unfold WideP
                      all_goals simp only [decide_eq_true_eq, decide_eq_false_iff_not] at *
                      all_goals omega
                ·
                  simp only [hg1_33]
                  refine rl_off rfl rfl rfl rfl ?_
                  refine rl_off rfl rfl rfl rfl ?_
                  refine rl_on rfl rfl ?_
                  refine rl_y (y_pick_f rfl rfl rfl) rfl ?_
                  refine rl_y (y_pick_f rfl rfl rfl) rfl ?_
                  refine rl_y (y_move rfl rfl) rfl ?_
                  refine rl_on rfl rfl ?_
                  refine rl_y (y_move rfl rfl) rfl ?_
                  refine rl_on rfl rfl ?_
                  refine rl_y (y_geq rfl rfl rfl) rfl ?_
                  refine rl_on rfl rfl ?_
                  refine rl_y (y_move rfl rfl) rfl ?_
                  rcases Bool.eq_false_or_eq_true (decide (65281 ≤ c)) with hg1_41 | hg1_41
                  ·
                    simp only [hg1_41]
                    refine rl_on rfl rfl ?_
                    refine rl_y (y_move rfl rfl) rfl ?_
                    refine rl_on rfl rfl ?_
                    refine rl_y (y_leq rfl rfl rfl) rfl ?_
                    refine rl_on rfl rfl ?_
                    refine rl_y (y_pick_t rfl rfl rfl) rfl ?_
                    refine rl_y (y_pick_f rfl rfl rfl) rfl ?_
                    refine rl_y (y_assign rfl rfl) rfl ?_
                    refine rl_end (ρ' := [(2, _)]) ⟨rfl, trivial⟩ ?_
                    refine q_then ?_
                    refine wc_ret ?_
                    refine fin1 (.tmp rfl) ?_
                    refine bool_val ?_
                    first | refine (decide_eq_true ?_).symm | refine (decide_eq_false ?_).symm | refine decide_eq_decide.2 ?_
                    all_goals unfold WideP
                    all_goals simp only [decide_eq_true_eq, decide_eq_false_iff_not] at *
                    all_goals omega
                  ·
                    simp only [hg1_41]
                    refine rl_off rfl rfl rfl rfl ?_
                    refine rl_off rfl rfl rfl rfl ?_
                    refine rl_on rfl rfl ?_
                    refine rl_y (y_pick_f rfl rfl rfl) rfl ?_
                    refine rl_y (y_pick_f rfl rfl rfl) rfl ?_
                    refine rl_y (y_assign rfl rfl) rfl ?_
                    refine rl_end (ρ' := [(2, _)]) ⟨rfl, trivial⟩ ?_
                    refine q_then ?_
                    refine wc_ret ?_
                    refine fin1 (.tmp rfl) ?_
                    refine bool_val ?_
                    first | refine (decide_eq_true ?_).symm | refine (decide_eq_false ?_).symm | refine decide_eq_decide.2 ?_
                    all_goals unfold WideP
                    all_goals simp only [decide_eq_true_eq, decide_eq_false_iff_not] at *
                    all_goals omega
            ·
              simp only [hg1_25]
              refine rl_off rfl rfl rfl rfl ?_
              refine rl_off rfl rfl rfl rfl ?_
              refine rl_on rfl rfl ?_
              refine rl_y (y_pick_f rfl rfl rfl) rfl ?_
              refine rl_y (y_pick_f rfl rfl rfl) rfl ?_
              refine rl_y (y_move rfl rfl) rfl ?_
              refine rl_on rfl rfl ?_
              refine rl_y (y_move rfl rfl) rfl ?_
              refine rl_on rfl rfl ?_
              refine rl_y (y_geq rfl rfl rfl) rfl ?_
              refine rl_on rfl rfl ?_
              refine rl_y (y_move rfl rfl) rfl ?_
              rcases Bool.eq_false_or_eq_true (decide (65072 ≤ c)) with hg1_33 | hg1_33
              ·
                simp only [hg1_33]
                refine rl_on rfl rfl ?_
                refine rl_y (y_move rfl rfl) rfl ?_
                refine rl_on rfl rfl ?_
                refine rl_y (y_leq rfl rfl rfl) rfl ?_
                refine rl_on rfl rfl ?_
                refine rl_y (y_pick_t rfl rfl rfl) rfl ?_
                refine rl_y (y_pick_f rfl rfl rfl) rfl ?_
                refine rl_y (y_move rfl rfl) rfl ?_
                rcases Bool.eq_false_or_eq_true (decide (c ≤ 65103)) with hg1_38 | hg1_38
                ·
                  simp only [hg1_38]
                  refine rl_off rfl rfl rfl rfl ?_
                  refine rl_off rfl rfl rfl rfl ?_
                  refine rl_off rfl rfl rfl rfl ?_
                  refine rl_off_u rfl rfl rfl ?_
                  refine rl_off_u rfl rfl rfl ?_
                  refine rl_off rfl rfl rfl rfl ?_
                  refine rl_y (y_pick_t rfl rfl rfl) rfl ?_
                  refine rl_y (y_assign rfl rfl) rfl ?_
                  refine rl_end (ρ' := [(2, _)]) ⟨rfl, trivial⟩ ?_
                  refine q_then ?_
                  refine wc_ret ?_
                  refine fin1 (.tmp rfl) ?_
                  refine bool_val ?_
                  first | refine (decide_eq_true ?_).symm | refine (decide_eq_false ?_).symm | refine decide_eq_decide.2 ?_
                  all_goals unfold WideP
                  all_goals simp only [decide_eq_true_eq, decide_eq_false_iff_not] at *
                  all_goals omega
                ·
                  simp only [hg1_38]
                  refine rl_on rfl rfl ?_
                  refine rl_y (y_move rfl rfl) rfl ?_
                  refine rl_on rfl rfl ?_
                  refine rl_y (y_geq rfl rfl rfl) rfl ?_
                  refine rl_on rfl rfl ?_
                  refine rl_y (y_move rfl rfl) rfl ?_
                  rcases Bool.eq_false_or_eq_true (decide (65281 ≤ c)) with hg1_41 | hg1_41
                  ·
                    simp only [hg1_41]
                    refine rl_on rfl rfl ?_
                    refine rl_y (y_move rfl rfl) rfl ?_
                    refine rl_on rfl rfl ?_
                    refine rl_y (y_leq rfl rfl rfl) rfl ?_
                    refine rl_on rfl rfl ?_
                    refine rl_y (y_pick_t rfl rfl rfl) rfl ?_
                    refine rl_y (y_pick_f rfl rfl rfl) rfl ?_
                    refine rl_y (y_assign rfl rfl) rfl ?_
                    refine rl_end (ρ' := [(2, _)]) ⟨rfl, trivial⟩ ?_
                    refine q_then ?_
                    refine wc_ret ?_
                    refine fin1 (.tmp rfl) ?_
                    refine bool_val ?_
                    first | refine (decide_eq_true ?_).symm | refine (decide_eq_false ?_).symm | refine decide_eq_decide.2 ?_
                    all_goals unfold WideP
                    all_goals simp only [decide_eq_true_eq, decide_eq_false_iff_not] at *
                    all_goals omega
                  ·
                    simp only [hg1_41]
                    refine rl_off rfl rfl rfl rfl ?_
                    refine rl_off rfl rfl rfl rfl ?_
                    refine rl_on rfl rfl ?_
                    refine rl_y (y_pick_f rfl rfl rfl) rfl ?_
                    refine rl_y (y_pick_f rfl rfl rfl) rfl ?_
                    refine rl_y (y_assign rfl rfl) rfl ?_
                    refine rl_end (ρ' := [(2, _)]) ⟨rfl, trivial⟩ ?_
                    refine q_then ?_
                    refine wc_ret ?_
                    refine fin1 (.tmp rfl) ?_
                    refine bool_val ?_
                    first | refine (decide_eq_true ?_).symm | refine (decide_eq_false ?_).symm | refine decide_eq_decide.2 ?_
                    all_goals unfold WideP
                    all_goals simp only [decide_eq_true_eq, decide_eq_false_iff_not] at *
                    all_goals omega
              ·
                simp only [hg1_33]
                refine rl_off rfl rfl rfl rfl ?_
                refine rl_off rfl rfl rfl rfl ?_
                refine rl_on rfl rfl ?_
                refine rl_y (y_pick_f rfl rfl rfl) rfl ?_
                refine rl_y (y_pick_f rfl rfl rfl) rfl ?_
                refine rl_y (y_move rfl rfl) rfl ?_
                refine rl_on rfl rfl ?_
                refine rl_y (y_move rfl rfl) rfl ?_
                refine rl_on rfl rfl ?_
                refine rl_y (y_geq rfl rfl rfl) rfl ?_
                refine rl_on rfl rfl ?_
                refine rl_y (y_move rfl rfl) rfl ?_
                rcases Bool.eq_false_or_eq_true (decide (65281 ≤ c)) with hg1_41 | hg1_41
                ·
                  simp only [hg1_41]
                  refine rl_on rfl rfl ?_
                  refine rl_y (y_move rfl rfl) rfl ?_
                  refine rl_on rfl rfl ?_
                  refine rl_y (y_leq rfl rfl rfl) rfl ?_
                  refine rl_on rfl rfl ?_
                  refine rl_y (y_pick_t rfl rfl rfl) rfl ?_
                  refine rl_y (y_pick_f rfl rfl rfl) rfl ?_
                  refine rl_y (y_assign rfl rfl) rfl ?_
                  refine rl_end (ρ' := [(2, _)]) ⟨rfl, trivial⟩ ?_
                  refine q_then ?_
                  refine wc_ret ?_
                  refine fin1 (.tmp rfl) ?_
                  refine bool_val ?_
                  first | refine (decide_eq_true ?_).symm | refine (decide_eq_false ?_).symm | refine decide_eq_decide.2 ?_
                  all_goals unfold WideP
                  all_goals simp only [decide_eq_true_eq, decide_eq_false_iff_not] at *
                  all_goals omega
                ·
                  simp only [hg1_41]
                  refine rl_off rfl rfl rfl rfl ?_
                  refine rl_off rfl rfl rfl rfl ?_
                  refine rl_on rfl rfl ?_
                  refine rl_y (y_pick_f rfl rfl rfl) rfl ?_
                  refine rl_y (y_pick_f rfl rfl rfl) rfl ?_
                  refine rl_y (y_assign rfl rfl) rfl ?_
                  refine rl_end (ρ' := [(2, _)]) ⟨rfl, trivial⟩ ?_
                  refine q_then ?_
                  refine wc_ret ?_
                  refine fin1 (.tmp rfl) ?_
                  refine bool_val ?_
                  first | refine (decide_eq_true ?_).symm | refine (decide_eq_false ?_).symm | refine decide_eq_decide.2 ?_
                  all_goals unfold WideP
                  all_goals simp only [decide_eq_true_eq, decide_eq_false_iff_not] at *
                  all_goals omega
        ·
          simp only [hg1_17]
          refine rl_off rfl rfl rfl rfl ?_
          refine rl_off rfl rfl rfl rfl ?_
          refine rl_on rfl rfl ?_
          refine rl_y (y_pick_f rfl rfl rfl) rfl ?_
          refine rl_y (y_pick_f rfl rfl rfl) rfl ?_
          refine rl_y (y_move rfl rfl) rfl ?_
          refine rl_on rfl rfl ?_
          refine rl_y (y_move rfl rfl) rfl ?_
          refine rl_on rfl rfl ?_
          refine rl_y (y_geq rfl rfl rfl) rfl ?_
          refine rl_on rfl rfl ?_
          refine rl_y (y_move rfl rfl) rfl ?_
          rcases Bool.eq_false_or_eq_true (decide (63744 ≤ c)) with hg1_25 | hg1_25
          ·
            simp only [hg1_25]
            refine rl_on rfl rfl ?_
            refine rl_y (y_move rfl rfl) rfl ?_
            refine rl_on rfl rfl ?_
            refine rl_y (y_leq rfl rfl rfl) rfl ?_
            refine rl_on rfl rfl ?_
            refine rl_y (y_pick_t rfl rfl rfl) rfl ?_
            refine rl_y (y_pick_f rfl rfl rfl) rfl ?_
            refine rl_y (y_move rfl rfl) rfl ?_
            rcases Bool.eq_false_or_eq_true (decide (c ≤ 64255)) with hg1_30 | hg1_30
            ·
              simp only [hg1_30]
              refine rl_off rfl rfl rfl rfl ?_
              refine rl_off rfl rfl rfl rfl ?_
              refine rl_off rfl rfl rfl rfl ?_
              refine rl_off_u rfl rfl rfl ?_
              refine rl_off_u rfl rfl rfl ?_
              refine rl_off rfl rfl rfl rfl ?_
              refine rl_y (y_pick_t rfl rfl rfl) rfl ?_
              refine rl_y (y_move rfl rfl) rfl ?_
              refine rl_off rfl rfl rfl rfl ?_
              refine rl_off rfl rfl rfl rfl ?_
              refine rl_off rfl rfl rfl rfl ?_
              refine rl_off_u rfl rfl rfl ?_
              refine rl_off_u rfl rfl rfl ?_
              refine rl_off rfl rfl rfl rfl ?_
              refine rl_y (y_pick_t rfl rfl rfl) rfl ?_
              refine rl_y (y_assign rfl rfl) rfl ?_
              refine rl_end (ρ' := [(2, _)]) ⟨rfl, trivial⟩ ?_
              refine q_then ?_
              refine wc_ret ?_
              refine fin1 (.tmp rfl) ?_
              refine bool_val ?_
              first | refine (decide_eq_true ?_).symm | refine (decide_eq_false ?_).symm | refine decide_eq_decide.2 ?_
              all_goals unfold WideP
              all_goals simp only [decide_eq_true_eq, decide_eq_false_iff_not] at *
              all_goals omega
            ·
              simp only [hg1_30]
              refine rl_on rfl rfl ?_
              refine rl_y (y_move rfl rfl) rfl ?_
              refine rl_on rfl rfl ?_
              refine rl_y (y_geq rfl rfl rfl) rfl ?_
              refine rl_on rfl rfl ?_
              refine rl_y (y_move rfl rfl) rfl ?_
              rcases Bool.eq_false_or_eq_true (decide (65072 ≤ c)) with hg1_33 | hg1_33
              ·
                simp only [hg1_33]
                refine rl_on rfl rfl ?_
                refine rl_y (y_move rfl rfl) rfl ?_
                refine rl_on rfl rfl ?_
                refine rl_y (y_leq rfl rfl rfl) rfl ?_
                refine rl_on rfl rfl ?_
                refine rl_y (y_pick_t rfl rfl rfl) rfl ?_
                refine rl_y (y_pick_f rfl rfl rfl) rfl ?_
                refine rl_y (y_move rfl rfl) rfl ?_
                rcases Bool.eq_false_or_eq_true (decide (c ≤ 65103)) with hg1_38 | hg1_38
                ·
                  simp only [hg1_38]
                  refine rl_off rfl rfl rfl rfl ?_
                  refine rl_off rfl rfl rfl rfl ?_
                  refine rl_off rfl rfl rfl rfl ?_
                  refine rl_off_u rfl rfl rfl ?_
                  refine rl_off_u rfl rfl rfl ?_
                  refine rl_off rfl rfl rfl rfl ?_
                  refine rl_y (y_pick_t rfl rfl rfl) rfl ?_
                  refine rl_y (y_assign rfl rfl) rfl ?_
                  refine rl_end (ρ' := [(2, _)]) ⟨rfl, trivial⟩ ?_
                  refine q_then ?_
                  refine wc_ret ?_
                  refine fin1 (.tmp rfl) ?_
                  refine bool_val ?_
                  first | refine (decide_eq_true ?_).symm | refine (decide_eq_false ?_).symm | refine decide_eq_decide.2 ?_
                  all_goals unfold WideP
                  all_goals simp only [decide_eq_true_eq, decide_eq_false_iff_not] at *
                  all_goals omega
                ·
                  simp only [hg1_38]
                  refine rl_on rfl rfl ?_
                  refine rl_y (y_move rfl rfl) rfl ?_
                  refine rl_on rfl rfl ?_
                  refine rl_y (y_geq rfl rfl rfl) rfl ?_
                  refine rl_on rfl rfl ?_
                  refine rl_y (y_move rfl rfl) rfl ?_
                  rcases Bool.eq_false_or_eq_true (decide (65281 ≤ c)) with hg1_41 | hg1_41
                  ·
                    simp only [hg1_41]
                    refine rl_on rfl rfl ?_
                    refine rl_y (y_move rfl rfl) rfl ?_
                    refine rl_on rfl rfl ?_
                    refine rl_y (y_leq rfl rfl rfl) rfl ?_
                    refine rl_on rfl rfl ?_
                    refine rl_y (y_pick_t rfl rfl rfl) rfl ?_
                    refine rl_y (y_pick_f rfl rfl rfl) rfl ?_
                    refine rl_y (y_assign rfl rfl) rfl ?_
                    refine rl_end (ρ' := [(2, _)]) ⟨rfl, trivial⟩ ?_
                    refine q_then ?_
                    refine wc_ret ?_
                    refine fin1 (.tmp rfl) ?_
                    refine bool_val ?_
                    first | refine (decide_eq_true ?_).symm | refine (decide_eq_false ?_).symm | refine decide_eq_decide.2 ?_
                    all_goals unfold WideP
                    all_goals simp only [decide_eq_true_eq, decide_eq_false_iff_not] at *
                    all_goals omega
                  ·
                    simp only [hg1_41]
                    refine rl_off rfl rfl rfl rfl ?_
                    refine rl_off rfl rfl rfl rfl ?_
                    refine rl_on rfl rfl ?_
                    refine rl_y (y_pick_f rfl rfl rfl) rfl ?_
                    refine rl_y (y_pick_f rfl rfl rfl) rfl ?_
                    refine rl_y (y_assign rfl rfl) rfl ?_
                    refine rl_end (ρ' := [(2, _)]) ⟨rfl, trivial⟩ ?_
                    refine q_then ?_
                    refine wc_ret ?_
                    refine fin1 (.tmp rfl) ?_
                    refine bool_val ?_
                    first | refine (decide_eq_true ?_).symm | refine (decide_eq_false ?_).symm | refine decide_eq_decide.2 ?_
                    all_goals unfold WideP
                    all_goals simp only [decide_eq_true_eq, decide_eq_false_iff_not] at *
                    all_goals omega
              ·
                simp only [hg1_33]
                refine rl_off rfl rfl rfl rfl ?_
                refine rl_off rfl rfl rfl rfl ?_
                refine rl_on rfl rfl ?_
                refine rl_y (y_pick_f rfl rfl rfl) rfl ?_
                refine rl_y (y_pick_f rfl rfl rfl) rfl ?_
                refine rl_y (y_move rfl rfl) rfl ?_
                refine rl_on rfl rfl ?_
                refine rl_y (y_move rfl rfl) rfl ?_
                refine rl_on rfl rfl ?_
                refine rl_y (y_geq rfl rfl rfl) rfl ?_
                refine rl_on rfl rfl ?_
                refine rl_y (y_move rfl rfl) rfl ?_
                rcases Bool.eq_false_or_eq_true (decide (65281 ≤ c)) with hg1_41 | hg1_41
                ·
                  simp only [hg1_41]
                  refine rl_on rfl rfl ?_
                  refine rl_y (y_move rfl rfl) rfl ?_
                  refine rl_on rfl rfl ?_
                  refine rl_y (y_leq rfl rfl rfl) rfl ?_
                  refine rl_on rfl rfl ?_
                  refine rl_y (y_pick_t rfl rfl rfl) rfl ?_
                  refine rl_y (y_pick_f rfl rfl rfl) rfl ?_
                  refine rl_y (y_assign rfl rfl) rfl ?_
                  refine rl_end (ρ' := [(2, _)]) ⟨rfl, trivial⟩ ?_
                  refine q_then ?_
                  refine wc_ret ?_
                  refine fin1 (.tmp rfl) ?_
                  refine bool_val ?_
                  first | refine (decide_eq_true ?_).symm | refine (decide_eq_false ?_).symm | refine decide_eq_decide.2 ?_
                  all_goals unfold WideP
                  all_goals simp only [decide_eq_true_eq, decide_eq_false_iff_not] at *
                  all_goals omega
                ·
                  simp only [hg1_41]
                  refine rl_off rfl rfl rfl rfl ?_
                  refine rl_off rfl rfl rfl rfl ?_
                  refine rl_on rfl rfl ?_
                  refine rl_y (y_pick_f rfl rfl rfl) rfl ?_
                  refine rl_y (y_pick_f rfl rfl rfl) rfl ?_
                  refine rl_y (y_assign rfl rfl) rfl ?_
                  refine rl_end (ρ' := [(2, _)]) ⟨rfl, trivial⟩ ?_
                  refine q_then ?_
                  refine wc_ret ?_
                  refine fin1 (.tmp rfl) ?_
                  refine bool_val ?_
                  first | refine (decide_eq_true ?_).symm | refine (decide_eq_false ?_).symm | refine decide_eq_decide.2 ?_
                  all_goals unfold WideP
                  all_goals simp only [decide_eq_true_eq, decide_eq_false_iff_not] at *
                  all_goals omega
          ·
            simp only [hg1_25]
            refine rl_off rfl rfl rfl rfl ?_
            refine rl_off rfl rfl rfl rfl ?_
            refine rl_on rfl rfl ?_
            refine rl_y (y_pick_f rfl rfl rfl) rfl ?_
            refine rl_y (y_pick_f rfl rfl rfl) rfl ?_
            refine rl_y (y_move rfl rfl) rfl ?_
            refine rl_on rfl rfl ?_
            refine rl_y (y_move rfl rfl) rfl ?_
            refine rl_on rfl rfl ?_
            refine rl_y (y_geq rfl rfl rfl) rfl ?_
            refine rl_on rfl rfl ?_
            refine rl_y (y_move rfl rfl) rfl ?_
            rcases Bool.eq_false_or_eq_true (decide (65072 ≤ c)) with hg1_33 | hg1_33
            ·
              simp only [hg1_33]
              refine rl_on rfl rfl ?_
              refine rl_y (y_move rfl rfl) rfl ?_
              refine rl_on rfl rfl ?_
              refine rl_y (y_leq rfl rfl rfl) rfl ?_
              refine rl_on rfl rfl ?_
              refine rl_y (y_pick_t rfl rfl rfl) rfl ?_
              refine rl_y (y_pick_f rfl rfl rfl) rfl ?_
              refine rl_y (y_move rfl rfl) rfl ?_
              rcases Bool.eq_false_or_eq_true (decide (c ≤ 65103)) with hg1_38 | hg1_38
              ·
                simp only [hg1_38]
                refine rl_off rfl rfl rfl rfl ?_
                refine rl_off rfl rfl rfl rfl ?_
                refine rl_off rfl rfl rfl rfl ?_
                refine rl_off_u rfl rfl rfl ?_
                refine rl_off_u rfl rfl rfl ?_
                refine rl_off rfl rfl rfl rfl ?_
                refine rl_y (y_pick_t rfl rfl rfl) rfl ?_
                refine rl_y (y_assign rfl rfl) rfl ?_
                refine rl_end (ρ' := [(2, _)]) ⟨rfl, trivial⟩ ?_
                refine q_then ?_
                refine wc_ret ?_
                refine fin1 (.tmp rfl) ?_
                refine bool_val ?_
                first | refine (decide_eq_true ?_).symm | refine (decide_eq_false ?_).symm | refine decide_eq_decide.2 ?_
                all_goals unfold WideP
                all_goals simp only [decide_eq_true_eq, decide_eq_false_iff_not] at *
                all_goals omega
              ·
                simp only [hg1_38]
                refine rl_on rfl rfl ?_
                refine rl_y (y_move rfl rfl) rfl ?_
                refine rl_on rfl rfl ?_
                refine rl_y (y_geq rfl rfl rfl) rfl ?_
                refine rl_on rfl rfl ?_
                refine rl_y (y_move rfl rfl) rfl ?_
                rcases Bool.eq_false_or_eq_true (decide (65281 ≤ c)) with hg1_41 | hg1_41
                ·
                  simp only [hg1_41]
                  refine rl_on rfl rfl ?_
                  refine rl_y (y_move rfl rfl) rfl ?_
                  refine rl_on rfl rfl ?_
                  refine rl_y (y_leq rfl rfl rfl) rfl ?_
                  refine rl_on rfl rfl ?_
                  refine rl_y (y_pick_t rfl rfl rfl) rfl ?_
                  refine rl_y (y_pick_f rfl rfl rfl) rfl ?_
                  refine rl_y (y_assign rfl rfl) rfl ?_
                  refine rl_end (ρ' := [(2, _)]) ⟨rfl, trivial⟩ ?_
                  refine q_then ?_
                  refine wc_ret ?_
                  refine fin1 (.tmp rfl) ?_
                  refine bool_val ?_
                  first | refine (decide_eq_true ?_).symm | refine (decide_eq_false ?_).symm | refine decide_eq_decide.2 ?_
                  all_goals unfold WideP
                  all_goals simp only [decide_eq_true_eq, decide_eq_false_iff_not] at *
                  all_goals omega
                ·
                  simp only [hg1_41]
                  refine rl_off rfl rfl rfl rfl ?_
                  refine rl_off rfl rfl rfl rfl ?_
                  refine rl_on rfl rfl ?_
                  refine rl_y (y_pick_f rfl rfl rfl) rfl ?_
                  refine rl_y (y_pick_f rfl rfl rfl) rfl ?_
                  refine rl_y (y_assign rfl rfl) rfl ?_
                  refine rl_end (ρ' := [(2, _)]) ⟨rfl, trivial⟩ ?_
                  refine q_then ?_
                  refine wc_ret ?_
                  refine fin1 (.tmp rfl) ?_
                  refine bool_val ?_
                  first | refine (decide_eq_true ?_).symm | refine (decide_eq_false ?_).symm | refine decide_eq_decide.2 ?_
                  all_goals unfold WideP
                  all_goals simp only [decide_eq_true_eq, decide_eq_false_iff_not] at *
                  all_goals omega
            ·
              simp only [hg1_33]
              refine rl_off rfl rfl rfl rfl ?_
              refine rl_off rfl rfl rfl rfl ?_
              refine rl_on rfl rfl ?_
              refine rl_y (y_pick_f rfl rfl rfl) rfl ?_
              refine rl_y (y_pick_f rfl rfl rfl) rfl ?_
              refine rl_y (y_move rfl rfl) rfl ?_
              refine rl_on rfl rfl ?_
              refine rl_y (y_move rfl rfl) rfl ?_
              refine rl_on rfl rfl ?_
              refine rl_y (y_geq rfl rfl rfl) rfl ?_
              refine rl_on rfl rfl ?_
              refine rl_y (y_move rfl rfl) rfl ?_
              rcases Bool.eq_false_or_eq_true (decide (65281 ≤ c)) with hg1_41 | hg1_41
              ·
                simp only [hg1_41]
                refine rl_on rfl rfl ?_
                refine rl_y (y_move rfl rfl) rfl ?_
                refine rl_on rfl rfl ?_
                refine rl_y (y_leq rfl rfl rfl) rfl ?_
                refine rl_on rfl rfl ?_
                refine rl_y (y_pick_t rfl rfl rfl) rfl ?_
                refine rl_y (y_pick_f rfl rfl rfl) rfl ?_
                refine rl_y (y_assign rfl rfl) rfl ?_
                refine rl_end (ρ' := [(2, _)]) ⟨rfl, trivial⟩ ?_
                refine q_then ?_
                refine wc_ret ?_
                refine fin1 (.tmp rfl) ?_
                refine bool_val ?_
                first | refine (decide_eq_true ?_).symm | refine (decide_eq_false ?_).symm | refine decide_eq_decide.2 ?_
                all_goals unfold WideP
                all_goals simp only [decide_eq_true_eq, decide_eq_false_iff_not] at *
                all_goals omega
              ·
                simp only [hg1_41]
                refine rl_off rfl rfl rfl rfl ?_
                refine rl_off rfl rfl rfl rfl ?_
                refine rl_on rfl rfl ?_
                refine rl_y (y_pick_f rfl rfl rfl) rfl ?_
                refine rl_y (y_pick_f rfl rfl rfl) rfl ?_
                refine rl_y (y_assign rfl rfl) rfl ?_
                refine rl_end (ρ' := [(2, _)]) ⟨rfl, trivial⟩ ?_
                refine q_then ?_
                refine wc_ret ?_
                refine fin1 (.tmp rfl) ?_
                refine bool_val ?_
                first | refine (decide_eq_true ?_).symm | refine (decide_eq_false ?_).symm | refine decide_eq_decide.2 ?_
                all_goals unfold WideP
                all_goals simp only [decide_eq_true_eq, decide_eq_false_iff_not] at *
                all_goals omega
  ·
    simp only [hg1_2]
    refine rl_off rfl rfl rfl rfl ?_
    refine rl_off rfl rfl rfl rfl ?_
    refine rl_y (y_pick_f rfl rfl rfl) rfl ?_
    refine rl_y (y_move rfl rfl) rfl ?_
    refine rl_on rfl rfl ?_
    refine rl_y (y_move rfl rfl) rfl ?_
    refine rl_on rfl rfl ?_
    refine rl_y (y_geq rfl rfl rfl) rfl ?_
    refine rl_on rfl rfl ?_
    refine rl_y (y_move rfl rfl) rfl ?_
    rcases Bool.eq_false_or_eq_true (decide (11904 ≤ c)) with hg1_9 | hg1_9
    ·
      simp only [hg1_9]
      refine rl_on rfl rfl ?_
      refine rl_y (y_move rfl rfl) rfl ?_
      refine rl_on rfl rfl ?_
      refine rl_y (y_leq rfl rfl rfl) rfl ?_
      refine rl_on rfl rfl ?_
      refine rl_y (y_pick_t rfl rfl rfl) rfl ?_
      refine rl_y (y_pick_f rfl rfl rfl) rfl ?_
      refine rl_y (y_move rfl rfl) rfl ?_
      rcases Bool.eq_false_or_eq_true (decide (c ≤ 42191)) with hg1_14 | hg1_14
      ·
        simp only [hg1_14]
        refine rl_off rfl rfl rfl rfl ?_
        refine rl_off rfl rfl rfl rfl ?_
        refine rl_off rfl rfl rfl rfl ?_
        refine rl_off_u rfl rfl rfl ?_
        refine rl_off_u rfl rfl rfl ?_
        refine rl_off rfl rfl rfl rfl ?_
        refine rl_y (y_pick_t rfl rfl rfl) rfl ?_
        refine rl_y (y_move rfl rfl) rfl ?_
        refine rl_off rfl rfl rfl rfl ?_
        refine rl_off rfl rfl rfl rfl ?_
        refine rl_off rfl rfl rfl rfl ?_
        refine rl_off_u rfl rfl rfl ?_
        refine rl_off_u rfl rfl rfl ?_
        refine rl_off rfl rfl rfl rfl ?_
        refine rl_y (y_pick_t rfl rfl rfl) rfl ?_
        refine rl_y (y_move rfl rfl) rfl ?_
        refine rl_off rfl rfl rfl rfl ?_
        refine rl_off rfl rfl rfl rfl ?_
        refine rl_off rfl rfl rfl rfl ?_
        refine rl_off_u rfl rfl rfl ?_
        refine rl_off_u rfl rfl rfl ?_
        refine rl_off rfl rfl rfl rfl ?_
        refine rl_y (y_pick_t rfl rfl rfl) rfl ?_
        refine rl_y (y_move rfl rfl) rfl ?_
        refine rl_off rfl rfl rfl rfl ?_
        refine rl_off rfl rfl rfl rfl ?_
        refine rl_off rfl rfl rfl rfl ?_
        refine rl_off_u rfl rfl rfl ?_
        refine rl_off_u rfl rfl rfl ?_
        refine rl_off rfl rfl rfl rfl ?_
        refine rl_y (y_pick_t rfl rfl rfl) rfl ?_
        refine rl_y (y_assign rfl rfl) rfl ?_
        refine rl_end (ρ' := [(2, _)]) ⟨rfl, trivial⟩ ?_
        refine q_then ?_
        refine wc_ret ?_
        refine fin1 (.tmp rfl) ?_
        refine bool_val ?_
        first | refine (decide_eq_true ?_).symm | refine (decide_eq_false ?_).symm | refine decide_eq_decide.2 ?_
        all_goals unfold WideP
        all_goals simp only [decide_eq_true_eq, decide_eq_false_iff_not] at *
        all_goals omega
      ·
        simp only [hg1_14]
        refine rl_on rfl rfl ?_
        refine rl_y (y_move rfl rfl) rfl ?_
        refine rl_on rfl rfl ?_
        refine rl_y (y_geq rfl rfl rfl) rfl ?_
        refine rl_on rfl rfl ?_
        refine rl_y (y_move rfl rfl) rfl ?_
        rcases Bool.eq_false_or_eq_true (decide (44032 ≤ c)) with hg1_17 | hg1_17
        ·
          simp only [hg1_17]
          refine rl_on rfl rfl ?_
          refine rl_y (y_move rfl rfl) rfl ?_
          refine rl_on rfl rfl ?_
          refine rl_y (y_leq rfl rfl rfl) rfl ?_
          refine rl_on rfl rfl ?_
          refine rl_y (y_pick_t rfl rfl rfl) rfl ?_
          refine rl_y (y_pick_f rfl rfl rfl) rfl ?_
          refine rl_y (y_move rfl rfl) rfl ?_
          rcases Bool.eq_false_or_eq_true (decide (c ≤ 55203)) with hg1_22 | hg1_22
          ·
            simp only [hg1_22]
            refine rl_off rfl rfl rfl rfl ?_
            refine rl_off rfl rfl rfl rfl ?_
            refine rl_off rfl rfl rfl rfl ?_
            refine rl_off_u rfl rfl rfl ?_
            refine rl_off_u rfl rfl rfl ?_
            refine rl_off rfl rfl rfl rfl ?_
            refine rl_y (y_pick_t rfl rfl rfl) rfl ?_
            refine rl_y (y_move rfl rfl) rfl ?_
            refine rl_off rfl rfl rfl rfl ?_
            refine rl_off rfl rfl rfl rfl ?_
            refine rl_off rfl rfl rfl rfl ?_
            refine rl_off_u rfl rfl rfl ?_
            refine rl_off_u rfl rfl rfl ?_
            refine rl_off rfl rfl rfl rfl ?_
            refine rl_y (y_pick_t rfl rfl rfl) rfl ?_
            refine rl_y (y_move rfl rfl) rfl ?_
            refine rl_off rfl rfl rfl rfl ?_
            refine rl_off rfl rfl rfl rfl ?_
            refine rl_off rfl rfl rfl rfl ?_
            refine rl_off_u rfl rfl rfl ?_
            refine rl_off_u rfl rfl rfl ?_
            refine rl_off rfl rfl rfl rfl ?_
            refine rl_y (y_pick_t rfl rfl rfl) rfl ?_
            refine rl_y (y_assign rfl rfl) rfl ?_
            refine rl_end (ρ' := [(2, _)]) ⟨rfl, trivial⟩ ?_
            refine q_then ?_
            refine wc_ret ?_
            refine fin1 (.tmp rfl) ?_
            refine bool_val ?_
            first | refine (decide_eq_true ?_).symm | refine (decide_eq_false ?_).symm | refine decide_eq_decide.2 ?_
            all_goals unfold WideP
            all_goals simp only [decide_eq_true_eq, decide_eq_false_iff_not] at *
            all_goals omega
          ·
            simp only [hg1_22]
            refine rl_on rfl rfl ?_
            refine rl_y (y_move rfl rfl) rfl ?_
            refine rl_on rfl rfl ?_
            refine rl_y (y_geq rfl rfl rfl) rfl ?_
            refine rl_on rfl rfl ?_
            refine rl_y (y_move rfl rfl) rfl ?_
            rcases Bool.eq_false_or_eq_true (decide (63744 ≤ c)) with hg1_25 | hg1_25
            ·
              simp only [hg1_25]
              refine rl_on rfl rfl ?_
              refine rl_y (y_move rfl rfl) rfl ?_
              refine rl_on rfl rfl ?_
              refine rl_y (y_leq rfl rfl rfl) rfl ?_
              refine rl_on rfl rfl ?_
              refine rl_y (y_pick_t rfl rfl rfl) rfl ?_
              refine rl_y (y_pick_f rfl rfl rfl) rfl ?_
              refine rl_y (y_move rfl rfl) rfl ?_
              rcases Bool.eq_false_or_eq_true (decide (c ≤ 64255)) with hg1_30 | hg1_30
              ·
                simp only [hg1_30]
                refine rl_off rfl rfl rfl rfl ?_
                refine rl_off rfl rfl rfl rfl ?_
                refine rl_off rfl rfl rfl rfl ?_
                refine rl_off_u rfl rfl rfl ?_
                refine rl_off_u rfl rfl rfl ?_
                refine rl_off rfl rfl rfl rfl ?_
                refine rl_y (y_pick_t rfl rfl rfl) rfl ?_
                refine rl_y (y_move rfl rfl) rfl ?_
                refine rl_off rfl rfl rfl rfl ?_
                refine rl_off rfl rfl rfl rfl ?_
                refine rl_off rfl rfl rfl rfl ?_
                refine rl_off_u rfl rfl rfl ?_
                refine rl_off_u rfl rfl rfl ?_
                refine rl_off rfl rfl rfl rfl ?_
                refine rl_y (y_pick_t rfl rfl rfl) rfl ?_
                refine rl_y (y_assign rfl rfl) rfl ?_
                refine rl_end (ρ' := [(2, _)]) ⟨rfl, trivial⟩ ?_
                refine q_then ?_
                refine wc_ret ?_
                refine fin1 (.tmp rfl) ?_
                refine bool_val ?_
                first | refine (decide_eq_true ?_).symm | refine (decide_eq_false ?_).symm | refine decide_eq_decide.2 ?_
                all_goals unfold WideP
                all_goals simp only [decide_eq_true_eq, decide_eq_false_iff_not] at *
                all_goals omega
              ·
                simp only [hg1_30]
                refine rl_on rfl rfl ?_
                refine rl_y (y_move rfl rfl) rfl ?_
                refine rl_on rfl rfl ?_
                refine rl_y (y_geq rfl rfl rfl) rfl ?_
                refine rl_on rfl rfl ?_
                refine rl_y (y_move rfl rfl) rfl ?_
                rcases Bool.eq_false_or_eq_true (decide (65072 ≤ c)) with hg1_33 | hg1_33
                ·
                  simp only [hg1_33]
                  refine rl_on rfl rfl ?_
                  refine rl_y (y_move rfl rfl) rfl ?_
                  refine rl_on rfl rfl ?_
                  refine rl_y (y_leq rfl rfl rfl) rfl ?_
                  refine rl_on rfl rfl ?_
                  refine rl_y (y_pick_t rfl rfl rfl) rfl ?_
                  refine rl_y (y_pick_f rfl rfl rfl) rfl ?_
                  refine rl_y (y_move rfl rfl) rfl ?_
                  rcases Bool.eq_false_or_eq_true (decide (c ≤ 65103)) with hg1_38 | hg1_38
                  ·
                    simp only [hg1_38]
                    refine rl_off rfl rfl rfl rfl ?_
                    refine rl_off rfl rfl rfl rfl ?_
                    refine rl_off rfl rfl rfl rfl ?_
                    refine rl_off_u rfl rfl rfl ?_
                    refine rl_off_u rfl rfl rfl ?_
                    refine rl_off rfl rfl rfl rfl ?_
                    refine rl_y (y_pick_t rfl rfl rfl) rfl ?_
                    refine rl_y (y_assign rfl rfl) rfl ?_
                    refine rl_end (ρ' := [(2, _)]) ⟨rfl, trivial⟩ ?_
                    refine q_then ?_
                    refine wc_ret ?_
                    refine fin1 (.tmp rfl) ?_
                    refine bool_val ?_
                    first | refine (decide_eq_true ?_).symm | refine (decide_eq_false ?_).symm | refine decide_eq_decide.2 ?_
                    all_goals unfold WideP
                    all_goals simp only [decide_eq_true_eq, decide_eq_false_iff_not] at *
                    all_goals omega
                  ·
                    simp only [hg1_38]
                    refine rl_on rfl rfl ?_
                    refine rl_y (y_move rfl rfl) rfl ?_
                    refine rl_on rfl rfl ?_
                    refine rl_y (y_geq rfl rfl rfl) rfl ?_
                    refine rl_on rfl rfl ?_
                    refine rl_y (y_move rfl rfl) rfl ?_
                    rcases Bool.eq_false_or_eq_true (decide (65281 ≤ c)) with hg1_41 | hg1_41
                    ·
                      simp only [hg1_41]
                      refine rl_on rfl rfl ?_
                      refine rl_y (y_move rfl rfl) rfl ?_
                      refine rl_on rfl rfl ?_
                      refine rl_y (y_leq rfl rfl rfl) rfl ?_
                      refine rl_on rfl rfl ?_
                      refine rl_y (y_pick_t rfl rfl rfl) rfl ?_
                      refine rl_y (y_pick_f rfl rfl rfl) rfl ?_
                      refine rl_y (y_assign rfl rfl) rfl ?_
                      refine rl_end (ρ' := [(2, _)]) ⟨rfl, trivial⟩ ?_
                      refine q_then ?_
                      refine wc_ret ?_
                      refine fin1 (.tmp rfl) ?_
                      refine bool_val ?_
                      first | refine (decide_eq_true ?_).symm | refine (decide_eq_false ?_).symm | refine decide_eq_decide.2 ?_
                      all_goals unfold WideP
                      all_goals simp only [decide_eq_true_eq, decide_eq_false_iff_not] at *
                      all_goals omega
                    ·
                      simp only [hg1_41]
                      refine rl_off rfl rfl rfl rfl ?_
                      refine rl_off rfl rfl rfl rfl ?_
                      refine rl_on rfl rfl ?_
                      refine rl_y (y_pick_f rfl rfl rfl) rfl ?_
                      refine rl_y (y_pick_f rfl rfl rfl) rfl ?_
                      refine rl_y (y_assign rfl rfl) rfl ?_
                      refine rl_end (ρ' := [(2, _)]) ⟨rfl, trivial⟩ ?_
                      refine q_then ?_
                      refine wc_ret ?_
                      refine fin1 (.tmp rfl) ?_
                      refine bool_val ?_
                      first | refine (decide_eq_true ?_).symm | refine (decide_eq_false ?_).symm | refine decide_eq_decide.2 ?_
                      all_goals unfold WideP
                      all_goals simp only [decide_eq_true_eq, decide_eq_false_iff_not] at *
                      all_goals omega
                ·
                  simp only [hg1_33]
                  refine rl_off rfl rfl rfl rfl ?_
                  refine rl_off rfl rfl rfl rfl ?_
                  refine rl_on rfl rfl ?_
                  refine rl_y (y_pick_f rfl rfl rfl) rfl ?_
                  refine rl_y (y_pick_f rfl rfl rfl) rfl ?_
                  refine rl_y (y_move rfl rfl) rfl ?_
                  refine rl_on rfl rfl ?_
                  refine rl_y (y_move rfl rfl) rfl ?_
                  refine rl_on rfl rfl ?_
                  refine rl_y (y_geq rfl rfl rfl) rfl ?_
                  refine rl_on rfl rfl ?_
                  refine rl_y (y_move rfl rfl) rfl ?_
                  rcases Bool.eq_false_or_eq_true (decide (65281 ≤ c)) with hg1_41 | hg1_41
                  ·
                    simp only [hg1_41]
                    refine rl_on rfl rfl ?_
                    refine rl_y (y_move rfl rfl) rfl ?_
                    refine rl_on rfl rfl ?_
                    refine rl_y (y_leq rfl rfl rfl) rfl ?_
                    refine rl_on rfl rfl ?_
                    refine rl_y (y_pick_t rfl rfl rfl) rfl ?_
                    refine rl_y (y_pick_f rfl rfl rfl) rfl ?_
                    refine rl_y (y_assign rfl rfl) rfl ?_
                    refine rl_end (ρ' := [(2, _)]) ⟨rfl, trivial⟩ ?_
                    refine q_then ?_
                    refine wc_ret ?_
                    refine fin1 (.tmp rfl) ?_
                    refine bool_val ?_
                    first | refine (decide_eq_true ?_).symm | refine (decide_eq_false ?_).symm | refine decide_eq_decide.2 ?_
                    all_goals unfold WideP
                    all_goals simp only [decide_eq_true_eq, decide_eq_false_iff_not] at *
                    all_goals omega
                  ·
                    simp only [hg1_41]
                    refine rl_off rfl rfl rfl rfl ?_
                    refine rl_off rfl rfl rfl rfl ?_
                    refine rl_on rfl rfl ?_
                    refine rl_y (y_pick_f rfl rfl rfl) rfl ?_
                    refine rl_y (y_pick_f rfl rfl rfl) rfl ?_
                    refine rl_y (y_assign rfl rfl) rfl ?_
                    refine rl_end (ρ' := [(2, _)]) ⟨rfl, trivial⟩ ?_
                    refine q_then ?_
                    refine wc_ret ?_
                    refine fin1 (.tmp rfl) ?_
                    refine bool_val ?_
                    first | refine (decide_eq_true ?_).symm | refine (decide_eq_false ?_).symm | refine decide_eq_decide.2 ?_
                    all_goals unfold WideP
                    all_goals simp only [decide_eq_true_eq, decide_eq_false_iff_not] at *
                    all_goals omega
            ·
              simp only [hg1_25]
              refine rl_off rfl rfl rfl rfl ?_
              refine rl_off rfl rfl rfl rfl ?_
              refine rl_on rfl rfl ?_
              refine rl_y (y_pick_f rfl rfl rfl) rfl ?_
              refine rl_y (y_pick_f rfl rfl rfl) rfl ?_
              refine rl_y (y_move rfl rfl) rfl ?_
              refine rl_on rfl rfl ?_
              refine rl_y (y_move rfl rfl) rfl ?_
              refine rl_on rfl rfl ?_
              refine rl_y (y_geq rfl rfl rfl) rfl ?_
              refine rl_on rfl rfl ?_
              refine rl_y (y_move rfl rfl) rfl ?_
              rcases Bool.eq_false_or_eq_true (decide (65072 ≤ c)) with hg1_33 | hg1_33
              ·
                simp only [hg1_33]
                refine rl_on rfl rfl ?_
                refine rl_y (y_move rfl rfl) rfl ?_
                refine rl_on rfl rfl ?_
                refine rl_y (y_leq rfl rfl rfl) rfl ?_
                refine rl_on rfl rfl ?_
                refine rl_y (y_pick_t rfl rfl rfl) rfl ?_
                refine rl_y (y_pick_f rfl rfl rfl) rfl ?_
                refine rl_y (y_move rfl rfl) rfl ?_
                rcases Bool.eq_false_or_eq_true (decide (c ≤ 65103)) with hg1_38 | hg1_38
                ·
                  simp only [hg1_38]
                  refine rl_off rfl rfl rfl rfl ?_
                  refine rl_off rfl rfl rfl rfl ?_
                  refine rl_off rfl rfl rfl rfl ?_
                  refine rl_off_u rfl rfl rfl ?_
                  refine rl_off_u rfl rfl rfl ?_
                  refine rl_off rfl rfl rfl rfl ?_
                  refine rl_y (y_pick_t rfl rfl rfl) rfl ?_
                  refine rl_y (y_assign rfl rfl) rfl ?_
                  refine rl_end (ρ' := [(2, _)]) ⟨rfl, trivial⟩ ?_
                  refine q_then ?_
                  refine wc_ret ?_
                  refine fin1 (.tmp rfl) ?_
                  refine bool_val ?_
                  first | refine (decide_eq_true ?_).symm | refine (decide_eq_false ?_).symm | refine decide_eq_decide.2 ?_
                  all_goals unfold WideP
                  all_goals simp only [decide_eq_true_eq, decide_eq_false_iff_not] at *
                  all_goals omega
                ·
                  simp only [hg1_38]
                  refine rl_on rfl rfl ?_
                  refine rl_y (y_move rfl rfl) rfl ?_
                  refine rl_on rfl rfl ?_
                  refine rl_y (y_geq rfl rfl rfl) rfl ?_
                  refine rl_on rfl rfl ?_
                  refine rl_y (y_move rfl rfl) rfl ?_
                  rcases Bool.eq_false_or_eq_true (decide (65281 ≤ c)) with hg1_41 | hg1_41
                  ·
                    simp only [hg1_41]
                    refine rl_on rfl rfl ?_
                    refine rl_y (y_move rfl rfl) rfl ?_
                    refine rl_on rfl rfl ?_
                    refine rl_y (y_leq rfl rfl rfl) rfl ?_
                    refine rl_on rfl rfl ?_
                    refine rl_y (y_pick_t rfl rfl rfl) rfl ?_
                    refine rl_y (y_pick_f rfl rfl rfl) rfl ?_
                    refine rl_y (y_assign rfl rfl) rfl ?_
                    refine rl_end (ρ' := [(2, _)]) ⟨rfl, trivial⟩ ?_
                    refine q_then ?_
                    refine wc_ret ?_
                    refine fin1 (.tmp rfl) ?_
                    refine bool_val ?_
                    first | refine (decide_eq_true ?_).symm | refine (decide_eq_false ?_).symm | refine decide_eq_decide.2 ?_
                    all_goals unfold WideP
                    all_goals simp only [decide_eq_true_eq, decide_eq_false_iff_not] at *
                    all_goals omega
                  ·
                    simp only [hg1_41]
                    refine rl_off rfl rfl rfl rfl ?_
                    refine rl_off rfl rfl rfl rfl ?_
                    refine rl_on rfl rfl ?_
                    refine rl_y (y_pick_f rfl rfl rfl) rfl ?_
                    refine rl_y (y_pick_f rfl rfl rfl) rfl ?_
                    refine rl_y (y_assign rfl rfl) rfl ?_
                    refine rl_end (ρ' := [(2, _)]) ⟨rfl, trivial⟩ ?_
                    refine q_then ?_
                    refine wc_ret ?_
                    refine fin1 (.tmp rfl) ?_
                    refine bool_val ?_
                    first | refine (decide_eq_true ?_).symm | refine (decide_eq_false ?_).symm | refine decide_eq_decide.2 ?_
                    all_goals unfold WideP
                    all_goals simp only [decide_eq_true_eq, decide_eq_false_iff_not] at *
                    all_goals omega
              ·
                simp only [hg1_33]
                refine rl_off rfl rfl rfl rfl ?_
                refine rl_off rfl rfl rfl rfl ?_
                refine rl_on rfl rfl ?_
                refine rl_y (y_pick_f rfl rfl rfl) rfl ?_
                refine rl_y (y_pick_f rfl rfl rfl) rfl ?_
                refine rl_y (y_move rfl rfl) rfl ?_
                refine rl_on rfl rfl ?_
                refine rl_y (y_move rfl rfl) rfl ?_
                refine rl_on rfl rfl ?_
                refine rl_y (y_geq rfl rfl rfl) rfl ?_
                refine rl_on rfl rfl ?_
                refine rl_y (y_move rfl rfl) rfl ?_
                rcases Bool.eq_false_or_eq_true (decide (65281 ≤ c)) with hg1_41 | hg1_41
                ·
                  simp only [hg1_41]
                  refine rl_on rfl rfl ?_
                  refine rl_y (y_move rfl rfl) rfl ?_
                  refine rl_on rfl rfl ?_
                  refine rl_y (y_leq rfl rfl rfl) rfl ?_
                  refine rl_on rfl rfl ?_
                  refine rl_y (y_pick_t rfl rfl rfl) rfl ?_
                  refine rl_y (y_pick_f rfl rfl rfl) rfl ?_
                  refine rl_y (y_assign rfl rfl) rfl ?_
                  refine rl_end (ρ' := [(2, _)]) ⟨rfl, trivial⟩ ?_
                  refine q_then ?_
                  refine wc_ret ?_
                  refine fin1 (.tmp rfl) ?_
                  refine bool_val ?_
                  first | refine (decide_eq_true ?_).symm | refine (decide_eq_false ?_).symm | refine decide_eq_decide.2 ?_
                  all_goals unfold WideP
                  all_goals simp only [decide_eq_true_eq, decide_eq_false_iff_not] at *
                  all_goals omega
                ·
                  simp only [hg1_41]
                  refine rl_off rfl rfl rfl rfl ?_
                  refine rl_off rfl rfl rfl rfl ?_
                  refine rl_on rfl rfl ?_
                  refine rl_y (y_pick_f rfl rfl rfl) rfl ?_
                  refine rl_y (y_pick_f rfl rfl rfl) rfl ?_
                  refine rl_y (y_assign rfl rfl) rfl ?_
                  refine rl_end (ρ' := [(2, _)]) ⟨rfl, trivial⟩ ?_
                  refine q_then ?_
                  refine wc_ret ?_
                  refine fin1 (.tmp rfl) ?_
                  refine bool_val ?_
                  first | refine (decide_eq_true ?_).symm | refine (decide_eq_false ?_).symm | refine decide_eq_decide.2 ?_
                  all_goals unfold WideP
                  all_goals simp only [decide_eq_true_eq, decide_eq_false_iff_not] at *
                  all_goals omega
        ·
          simp only [hg1_17]
          refine rl_off rfl rfl rfl rfl ?_
          refine rl_off rfl rfl rfl rfl ?_
          refine rl_on rfl rfl ?_
          refine rl_y (y_pick_f rfl rfl rfl) rfl ?_
          refine rl_y (y_pick_f rfl rfl rfl) rfl ?_
          refine rl_y (y_move rfl rfl) rfl ?_
          refine rl_on rfl rfl ?_
          refine rl_y (y_move rfl rfl) rfl ?_
          refine rl_on rfl rfl ?_
          refine rl_y (y_geq rfl rfl rfl) rfl ?_
          refine rl_on rfl rfl ?_
          refine rl_y (y_move rfl rfl) rfl ?_
          rcases Bool.eq_false_or_eq_true (decide (63744 ≤ c)) with hg1_25 | hg1_25
          ·
            simp only [hg1_25]
            refine rl_on rfl rfl ?_
            refine rl_y (y_move rfl rfl) rfl ?_
            refine rl_on rfl rfl ?_
            refine rl_y (y_leq rfl rfl rfl) rfl ?_
            refine rl_on rfl rfl ?_
            refine rl_y (y_pick_t rfl rfl rfl) rfl ?_
            refine rl_y (y_pick_f rfl rfl rfl) rfl ?_
            refine rl_y (y_move rfl rfl) rfl ?_
            rcases Bool.eq_false_or_eq_true (decide (c ≤ 64255)) with hg1_30 | hg1_30
            ·
              simp only [hg1_30]
              refine rl_off rfl rfl rfl rfl ?_
              refine rl_off rfl rfl rfl rfl ?_
              refine rl_off rfl rfl rfl rfl ?_
              refine rl_off_u rfl rfl rfl ?_
              refine rl_off_u rfl rfl rfl ?_
              refine rl_off rfl rfl rfl rfl ?_
              refine rl_y (y_pick_t rfl rfl rfl) rfl ?_
              refine rl_y (y_move rfl rfl) rfl ?_
              refine rl_off rfl rfl rfl rfl ?_
              refine rl_off rfl rfl rfl rfl ?_
              refine rl_off rfl rfl rfl rfl ?_
              refine rl_off_u rfl rfl rfl ?_
              refine rl_off_u rfl rfl rfl ?_
              refine rl_off rfl rfl rfl rfl ?_
              refine rl_y (y_pick_t rfl rfl rfl) rfl ?_
              refine rl_y (y_assign rfl rfl) rfl ?_
              refine rl_end (ρ' := [(2, _)]) ⟨rfl, trivial⟩ ?_
              refine q_then ?_
              refine wc_ret ?_
              refine fin1 (.tmp rfl) ?_
              refine bool_val ?_
              first | refine (decide_eq_true ?_).symm | refine (decide_eq_false ?_).symm | refine decide_eq_decide.2 ?_
              all_goals unfold WideP
              all_goals simp only [decide_eq_true_eq, decide_eq_false_iff_not] at *
              all_goals omega
            ·
              simp only [hg1_30]
              refine rl_on rfl rfl ?_
              refine rl_y (y_move rfl rfl) rfl ?_
              refine rl_on rfl rfl ?_
              refine rl_y (y_geq rfl rfl rfl) rfl ?_
              refine rl_on rfl rfl ?_
              refine rl_y (y_move rfl rfl) rfl ?_
              rcases Bool.eq_false_or_eq_true (decide (65072 ≤ c)) with hg1_33 | hg1_33
              ·
                simp only [hg1_33]
                refine rl_on rfl rfl ?_
                refine rl_y (y_move rfl rfl) rfl ?_
                refine rl_on rfl rfl ?_
                refine rl_y (y_leq rfl rfl rfl) rfl ?_
                refine rl_on rfl rfl ?_
                refine rl_y (y_pick_t rfl rfl rfl) rfl ?_
                refine rl_y (y_pick_f rfl rfl rfl) rfl ?_
                refine rl_y (y_move rfl rfl) rfl ?_
                rcases Bool.eq_false_or_eq_true (decide (c ≤ 65103)) with hg1_38 | hg1_38
                ·
                  simp only [hg1_38]
                  refine rl_off rfl rfl rfl rfl ?_
                  refine rl_off rfl rfl rfl rfl ?_
                  refine rl_off rfl rfl rfl rfl ?_
                  refine rl_off_u rfl rfl rfl ?_
                  refine rl_off_u rfl rfl rfl ?_
                  refine rl_off rfl rfl rfl rfl ?_
                  refine rl_y (y_pick_t rfl rfl rfl) rfl ?_
                  refine rl_y (y_assign rfl rfl) rfl ?_
                  refine rl_end (ρ' := [(2, _)]) ⟨rfl, trivial⟩ ?_
                  refine q_then ?_
                  refine wc_ret ?_
                  refine fin1 (.tmp rfl) ?_
                  refine bool_val ?_
                  first | refine (decide_eq_true ?_).symm | refine (decide_eq_false ?_).symm | refine decide_eq_decide.2 ?_
                  all_goals unfold WideP
                  all_goals simp only [decide_eq_true_eq, decide_eq_false_iff_not] at *
                  all_goals omega
                ·
                  simp only [hg1_38]
                  refine rl_on rfl rfl ?_
                  refine rl_y (y_move rfl rfl) rfl ?_
                  refine rl_on rfl rfl ?_
                  refine rl_y (y_geq rfl rfl rfl) rfl ?_
                  refine rl_on rfl rfl ?_
                  refine rl_y (y_move rfl rfl) rfl ?_
                  rcases Bool.eq_false_or_eq_true (decide (65281 ≤ c)) with hg1_41 | hg1_41
                  ·
                    simp only [hg1_41]
                    refine rl_on rfl rfl ?_
                    refine rl_y (y_move rfl rfl) rfl ?_
                    refine rl_on rfl rfl ?_
                    refine rl_y (y_leq rfl rfl rfl) rfl ?_
                    refine rl_on rfl rfl ?_
                    refine rl_y (y_pick_t rfl rfl rfl) rfl ?_
                    refine rl_y (y_pick_f rfl rfl rfl) rfl ?_
                    refine rl_y (y_assign rfl rfl) rfl ?_
                    refine rl_end (ρ' := [(2, _)]) ⟨rfl, trivial⟩ ?_
                    refine q_then ?_
                    refine wc_ret ?_
                    refine fin1 (.tmp rfl) ?_
                    refine bool_val ?_
                    first | refine (decide_eq_true ?_).symm | refine (decide_eq_false ?_).symm | refine decide_eq_decide.2 ?_
                    all_goals unfold WideP
                    all_goals simp only [decide_eq_true_eq, decide_eq_false_iff_not] at *
                    all_goals omega
                  ·
                    simp only [hg1_41]
                    refine rl_off rfl rfl rfl rfl ?_
                    refine rl_off rfl rfl rfl rfl ?_
                    refine rl_on rfl rfl ?_
                    refine rl_y (y_pick_f rfl rfl rfl) rfl ?_
                    refine rl_y (y_pick_f rfl rfl rfl) rfl ?_
                    refine rl_y (y_assign rfl rfl) rfl ?_
                    refine rl_end (ρ' := [(2, _)]) ⟨rfl, trivial⟩ ?_
                    refine q_then ?_
                    refine wc_ret ?_
                    refine fin1 (.tmp rfl) ?_
                    refine bool_val ?_
                    first | refine (decide_eq_true ?_).symm | refine (decide_eq_false ?_).symm | refine decide_eq_decide.2 ?_
                    all_goals unfold WideP
                    all_goals simp only [decide_eq_true_eq, decide_eq_false_iff_not] at *
                    all_goals omega
              ·
                simp only [hg1_33]
                refine rl_off rfl rfl rfl rfl ?_
                refine rl_off rfl rfl rfl rfl ?_
                refine rl_on rfl rfl ?_
                refine rl_y (y_pick_f rfl rfl rfl) rfl ?_
                refine rl_y (y_pick_f rfl rfl rfl) rfl ?_
                refine rl_y (y_move rfl rfl) rfl ?_
                refine rl_on rfl rfl ?_
                refine rl_y (y_move rfl rfl) rfl ?_
                refine rl_on rfl rfl ?_
                refine rl_y (y_geq rfl rfl rfl) rfl ?_
                refine rl_on rfl rfl ?_
                refine rl_y (y_move rfl rfl) rfl ?_
                rcases Bool.eq_false_or_eq_true (decide (65281 ≤ c)) with hg1_41 | hg1_41
                ·
                  simp only [hg1_41]
                  refine rl_on rfl rfl ?_
                  refine rl_y (y_move rfl rfl) rfl ?_
                  refine rl_on rfl rfl ?_
                  refine rl_y (y_leq rfl rfl rfl) rfl ?_
                  refine rl_on rfl rfl ?_
                  refine rl_y (y_pick_t rfl rfl rfl) rfl ?_
                  refine rl_y (y_pick_f rfl rfl rfl) rfl ?_
                  refine rl_y (y_assign rfl rfl) rfl ?_
                  refine rl_end (ρ' := [(2, _)]) ⟨rfl, trivial⟩ ?_
                  refine q_then ?_
                  refine wc_ret ?_
                  refine fin1 (.tmp rfl) ?_
                  refine bool_val ?_
                  first | refine (decide_eq_true ?_).symm | refine (decide_eq_false ?_).symm | refine decide_eq_decide.2 ?_
                  all_goals unfold WideP
                  all_goals simp only [decide_eq_true_eq, decide_eq_false_iff_not] at *
                  all_goals omega
                ·
                  simp only [hg1_41]
                  refine rl_off rfl rfl rfl rfl ?_
                  refine rl_off rfl rfl rfl rfl ?_
                  refine rl_on rfl rfl ?_
                  refine rl_y (y_pick_f rfl rfl rfl) rfl ?_
                  refine rl_y (y_pick_f rfl rfl rfl) rfl ?_
                  refine rl_y (y_assign rfl rfl) rfl ?_
                  refine rl_end (ρ' := [(2, _)]) ⟨rfl, trivial⟩ ?_
                  refine q_then ?_
                  refine wc_ret ?_
                  refine fin1 (.tmp rfl) ?_
                  refine bool_val ?_
                  first | refine (decide_eq_true ?_).symm | refine (decide_eq_false ?_).symm | refine decide_eq_decide.2 ?_
                  all_goals unfold WideP
                  all_goals simp only [decide_eq_true_eq, decide_eq_false_iff_not] at *
                  all_goals omega
          ·
            simp only [hg1_25]
            refine rl_off rfl rfl rfl rfl ?_
            refine rl_off rfl rfl rfl rfl ?_
            refine rl_on rfl rfl ?_
            refine rl_y (y_pick_f rfl rfl rfl) rfl ?_
            refine rl_y (y_pick_f rfl rfl rfl) rfl ?_
            refine rl_y (y_move rfl rfl) rfl ?_
            refine rl_on rfl rfl ?_
            refine rl_y (y_move rfl rfl) rfl ?_
            refine rl_on rfl rfl ?_
            refine rl_y (y_geq rfl rfl rfl) rfl ?_
            refine rl_on rfl rfl ?_
            refine rl_y (y_move rfl rfl) rfl ?_
            rcases Bool.eq_false_or_eq_true (decide (65072 ≤ c)) with hg1_33 | hg1_33
            ·
              simp only [hg1_33]
              refine rl_on rfl rfl ?_
              refine rl_y (y_move rfl rfl) rfl ?_
              refine rl_on rfl rfl ?_
              refine rl_y (y_leq rfl rfl rfl) rfl ?_
              refine rl_on rfl rfl ?_
              refine rl_y (y_pick_t rfl rfl rfl) rfl ?_
              refine rl_y (y_pick_f rfl rfl rfl) rfl ?_
              refine rl_y (y_move rfl rfl) rfl ?_
              rcases Bool.eq_false_or_eq_true (decide (c ≤ 65103)) with hg1_38 | hg1_38
              ·
                simp only [hg1_38]
                refine rl_off rfl rfl rfl rfl ?_
                refine rl_off rfl rfl rfl rfl ?_
                refine rl_off rfl rfl rfl rfl ?_
                refine rl_off_u rfl rfl rfl ?_
                refine rl_off_u rfl rfl rfl ?_
                refine rl_off rfl rfl rfl rfl ?_
                refine rl_y (y_pick_t rfl rfl rfl) rfl ?_
                refine rl_y (y_assign rfl rfl) rfl ?_
                refine rl_end (ρ' := [(2, _)]) ⟨rfl, trivial⟩ ?_
                refine q_then ?_
                refine wc_ret ?_
                refine fin1 (.tmp rfl) ?_
                refine bool_val ?_
                first | refine (decide_eq_true ?_).symm | refine (decide_eq_false ?_).symm | refine decide_eq_decide.2 ?_
                all_goals unfold WideP
                all_goals simp only [decide_eq_true_eq, decide_eq_false_iff_not] at *
                all_goals omega
              ·
                simp only [hg1_38]
                refine rl_on rfl rfl ?_
                refine rl_y (y_move rfl rfl) rfl ?_
                refine rl_on rfl rfl ?_
                refine rl_y (y_geq rfl rfl rfl) rfl ?_
                refine rl_on rfl rfl ?_
                refine rl_y (y_move rfl rfl) rfl ?_
                rcases Bool.eq_false_or_eq_true (decide (65281 ≤ c)) with hg1_41 | hg1_41
                ·
                  simp only [hg1_41]
                  refine rl_on rfl rfl ?_
                  refine rl_y (y_move rfl rfl) rfl ?_
                  refine rl_on rfl rfl ?_
                  refine rl_y (y_leq rfl rfl rfl) rfl ?_
                  refine rl_on rfl rfl ?_
                  refine rl_y (y_pick_t rfl rfl rfl) rfl ?_
                  refine rl_y (y_pick_f rfl rfl rfl) rfl ?_
                  refine rl_y (y_assign rfl rfl) rfl ?_
                  refine rl_end (ρ' := [(2, _)]) ⟨rfl, trivial⟩ ?_
                  refine q_then ?_
                  refine wc_ret ?_
                  refine fin1 (.tmp rfl) ?_
                  refine bool_val ?_
                  first | refine (decide_eq_true ?_).symm | refine (decide_eq_false ?_).symm | refine decide_eq_decide.2 ?_
                  all_goals unfold WideP
                  all_goals simp only [decide_eq_true_eq, decide_eq_false_iff_not] at *
                  all_goals omega
                ·
                  simp only [hg1_41]
                  refine rl_off rfl rfl rfl rfl ?_
                  refine rl_off rfl rfl rfl rfl ?_
                  refine rl_on rfl rfl ?_
                  refine rl_y (y_pick_f rfl rfl rfl) rfl ?_
                  refine rl_y (y_pick_f rfl rfl rfl) rfl ?_
                  refine rl_y (y_assign rfl rfl) rfl ?_
                  refine rl_end (ρ' := [(2, _)]) ⟨rfl, trivial⟩ ?_
                  refine q_then ?_
                  refine wc_ret ?_
                  refine fin1 (.tmp rfl) ?_
                  refine bool_val ?_
                  first | refine (decide_eq_true ?_).symm | refine (decide_eq_false ?_).symm | refine decide_eq_decide.2 ?_
                  all_goals unfold WideP
                  all_goals simp only [decide_eq_true_eq, decide_eq_false_iff_not] at *
                  all_goals omega
            ·
              simp only [hg1_33]
              refine rl_off rfl rfl rfl rfl ?_
              refine rl_off rfl rfl rfl rfl ?_
              refine rl_on rfl rfl ?_
              refine rl_y (y_pick_f rfl rfl rfl) rfl ?_
              refine rl_y (y_pick_f rfl rfl rfl) rfl ?_
              refine rl_y (y_move rfl rfl) rfl ?_
              refine rl_on rfl rfl ?_
              refine rl_y (y_move rfl rfl) rfl ?_
              refine rl_on rfl rfl ?_
              refine rl_y (y_geq rfl rfl rfl) rfl ?_
              refine rl_on rfl rfl ?_
              refine rl_y (y_move rfl rfl) rfl ?_
              rcases Bool.eq_false_or_eq_true (decide (65281 ≤ c)) with hg1_41 | hg1_41
              ·
                simp only [hg1_41]
                refine rl_on rfl rfl ?_
                refine rl_y (y_move rfl rfl) rfl ?_
                refine rl_on rfl rfl ?_
                refine rl_y (y_leq rfl rfl rfl) rfl ?_
                refine rl_on rfl rfl ?_
                refine rl_y (y_pick_t rfl rfl rfl) rfl ?_
                refine rl_y (y_pick_f rfl rfl rfl) rfl ?_
                refine rl_y (y_assign rfl rfl) rfl ?_
                refine rl_end (ρ' := [(2, _)]) ⟨rfl, trivial⟩ ?_
                refine q_then ?_
                refine wc_ret ?_
                refine fin1 (.tmp rfl) ?_
                refine bool_val ?_
                first | refine (decide_eq_true ?_).symm | refine (decide_eq_false ?_).symm | refine decide_eq_decide.2 ?_
                all_goals unfold WideP
                all_goals simp only [decide_eq_true_eq, decide_eq_false_iff_not] at *
                all_goals omega
              ·
                simp only [hg1_41]
                refine rl_off rfl rfl rfl rfl ?_
                refine rl_off rfl rfl rfl rfl ?_
                refine rl_on rfl rfl ?_
                refine rl_y (y_pick_f rfl rfl rfl) rfl ?_
                refine rl_y (y_pick_f rfl rfl rfl) rfl ?_
                refine rl_y (y_assign rfl rfl) rfl ?_
                refine rl_end (ρ' := [(2, _)]) ⟨rfl, trivial⟩ ?_
                refine q_then ?_
                refine wc_ret ?_
                refine fin1 (.tmp rfl) ?_
                refine bool_val ?_
                first | refine (decide_eq_true ?_).symm | refine (decide_eq_false ?_).symm | refine decide_eq_decide.2 ?_
                all_goals unfold WideP
                all_goals simp only [decide_eq_true_eq, decide_eq_false_iff_not] at *
                all_goals omega
    ·
      simp only [hg1_9]
      refine rl_off rfl rfl rfl rfl ?_
      refine rl_off rfl rfl rfl rfl ?_
      refine rl_on rfl rfl ?_
      refine rl_y (y_pick_f rfl rfl rfl) rfl ?_
      refine rl_y (y_pick_f rfl rfl rfl) rfl ?_
      refine rl_y (y_move rfl rfl) rfl ?_
      refine rl_on rfl rfl ?_
      refine rl_y (y_move rfl rfl) rfl ?_
      refine rl_on rfl rfl ?_
      refine rl_y (y_geq rfl rfl rfl) rfl ?_
      refine rl_on rfl rfl ?_
      refine rl_y (y_move rfl rfl) rfl ?_
      rcases Bool.eq_false_or_eq_true (decide (44032 ≤ c)) with hg1_17 | hg1_17
      ·
        simp only [hg1_17]
        refine rl_on rfl rfl ?_
        refine rl_y (y_move rfl rfl) rfl ?_
        refine rl_on rfl rfl ?_
        refine rl_y (y_leq rfl rfl rfl) rfl ?_
        refine rl_on rfl rfl ?_
        refine rl_y (y_pick_t rfl rfl rfl) rfl ?_
        refine rl_y (y_pick_f rfl rfl rfl) rfl ?_
        refine rl_y (y_move rfl rfl) rfl ?_
        rcases Bool.eq_false_or_eq_true (decide (c ≤ 55203)) with hg1_22 | hg1_22
        ·
          simp only [hg1_22]
          refine rl_off rfl rfl rfl rfl ?_
          refine rl_off rfl rfl rfl rfl ?_
          refine rl_off rfl rfl rfl rfl ?_
          refine rl_off_u rfl rfl rfl ?_
          refine rl_off_u rfl rfl rfl ?_
          refine rl_off rfl rfl rfl rfl ?_
          refine rl_y (y_pick_t rfl rfl rfl) rfl ?_
          refine rl_y (y_move rfl rfl) rfl ?_
          refine rl_off rfl rfl rfl rfl ?_
          refine rl_off rfl rfl rfl rfl ?_
          refine rl_off rfl rfl rfl rfl ?_
          refine rl_off_u rfl rfl rfl ?_
          refine rl_off_u rfl rfl rfl ?_
          refine rl_off rfl rfl rfl rfl ?_
          refine rl_y (y_pick_t rfl rfl rfl) rfl ?_
          refine rl_y (y_move rfl rfl) rfl ?_
          refine rl_off rfl rfl rfl rfl ?_
          refine rl_off rfl rfl rfl rfl ?_
          refine rl_off rfl rfl rfl rfl ?_
          refine rl_off_u rfl rfl rfl ?_
          refine rl_off_u rfl rfl rfl ?_
          refine rl_off rfl rfl rfl rfl ?_
          refine rl_y (y_pick_t rfl rfl rfl) rfl ?_
          refine rl_y (y_assign rfl rfl) rfl ?_
          refine rl_end (ρ' := [(2, _)]) ⟨rfl, trivial⟩ ?_
          refine q_then ?_
          refine wc_ret ?_
          refine fin1 (.tmp rfl) ?_
          refine bool_val ?_
          first | refine (decide_eq_true ?_).symm | refine (decide_eq_false ?_).symm | refine decide_eq_decide.2 ?_
          all_goals unfold WideP
          all_goals simp only [decide_eq_true_eq, decide_eq_false_iff_not] at *
          all_goals omega
        ·
          simp only [hg1_22]
          refine rl_on rfl rfl ?_
          refine rl_y (y_move rfl rfl) rfl ?_
          refine rl_on rfl rfl ?_
          refine rl_y (y_geq rfl rfl rfl) rfl ?_
          refine rl_on rfl rfl ?_
          refine rl_y (y_move rfl rfl) rfl ?_
          rcases Bool.eq_false_or_eq_true (decide (63744 ≤ c)) with hg1_25 | hg1_25
          ·
            simp only [hg1_25]
            refine rl_on rfl rfl ?_
            refine rl_y (y_move rfl rfl) rfl ?_
            refine rl_on rfl rfl ?_
            refine rl_y (y_leq rfl rfl rfl) rfl ?_
            refine rl_on rfl rfl ?_
            refine rl_y (y_pick_t rfl rfl rfl) rfl ?_
            refine rl_y (y_pick_f rfl rfl rfl) rfl ?_
            refine rl_y (y_move rfl rfl) rfl ?_
            rcases Bool.eq_false_or_eq_true (decide (c ≤ 64255)) with hg1_30 | hg1_30
            ·
              simp only [hg1_30]
              refine rl_off rfl rfl rfl rfl ?_
              refine rl_off rfl rfl rfl rfl ?_
              refine rl_off rfl rfl rfl rfl ?_
              refine rl_off_u rfl rfl rfl ?_
              refine rl_off_u rfl rfl rfl ?_
              refine rl_off rfl rfl rfl rfl ?_
              refine rl_y (y_pick_t rfl rfl rfl) rfl ?_
              refine rl_y (y_move rfl rfl) rfl ?_
              refine rl_off rfl rfl rfl rfl ?_
              refine rl_off rfl rfl rfl rfl ?_
              refine rl_off rfl rfl rfl rfl ?_
              refine rl_off_u rfl rfl rfl ?_
              refine rl_off_u rfl rfl rfl ?_
              refine rl_off rfl rfl rfl rfl ?_
              refine rl_y (y_pick_t rfl rfl rfl) rfl ?_
              refine rl_y (y_assign rfl rfl) rfl ?_
              refine rl_end (ρ' := [(2, _)]) ⟨rfl, trivial⟩ ?_
              refine q_then ?_
              refine wc_ret ?_
              refine fin1 (.tmp rfl) ?_
              refine bool_val ?_
              first | refine (decide_eq_true ?_).symm | refine (decide_eq_false ?_).symm | refine decide_eq_decide.2 ?_
              all_goals unfold WideP
              all_goals simp only [decide_eq_true_eq, decide_eq_false_iff_not] at *
              all_goals omega
            ·
              simp only [hg1_30]
              refine rl_on rfl rfl ?_
              refine rl_y (y_move rfl rfl) rfl ?_
              refine rl_on rfl rfl ?_
              refine rl_y (y_geq rfl rfl rfl) rfl ?_
              refine rl_on rfl rfl ?_
              refine rl_y (y_move rfl rfl) rfl ?_
              rcases Bool.eq_false_or_eq_true (decide (65072 ≤ c)) with hg1_33 | hg1_33
              ·
                simp only [hg1_33]
                refine rl_on rfl rfl ?_
                refine rl_y (y_move rfl rfl) rfl ?_
                refine rl_on rfl rfl ?_
                refine rl_y (y_leq rfl rfl rfl) rfl ?_
                refine rl_on rfl rfl ?_
                refine rl_y (y_pick_t rfl rfl rfl) rfl ?_
                refine rl_y (y_pick_f rfl rfl rfl) rfl ?_
                refine rl_y (y_move rfl rfl) rfl ?_
                rcases Bool.eq_false_or_eq_true (decide (c ≤ 65103)) with hg1_38 | hg1_38
                ·
                  simp only [hg1_38]
                  refine rl_off rfl rfl rfl rfl ?_
                  refine rl_off rfl rfl rfl rfl ?_
                  refine rl_off rfl rfl rfl rfl ?_
                  refine rl_off_u rfl rfl rfl ?_
                  refine rl_off_u rfl rfl rfl ?_
                  refine rl_off rfl rfl rfl rfl ?_
                  refine rl_y (y_pick_t rfl rfl rfl) rfl ?_
                  refine rl_y (y_assign rfl rfl) rfl ?_
                  refine rl_end (ρ' := [(2, _)]) ⟨rfl, trivial⟩ ?_
                  refine q_then ?_
                  refine wc_ret ?_
                  refine fin1 (.tmp rfl) ?_
                  refine bool_val ?_
                  first | refine (decide_eq_true ?_).symm | refine (decide_eq_false ?_).symm | refine decide_eq_decide.2 ?_
                  all_goals unfold WideP
                  all_goals simp only [decide_eq_true_eq, decide_eq_false_iff_not] at *
                  all_goals omega
                ·
                  simp only [hg1_38]
                  refine rl_on rfl rfl ?_
                  refine rl_y (y_move rfl rfl) rfl ?_
                  refine rl_on rfl rfl ?_
                  refine rl_y (y_geq rfl rfl rfl) rfl ?_
                  refine rl_on rfl rfl ?_
                  refine rl_y (y_move rfl rfl) rfl ?_
                  rcases Bool.eq_false_or_eq_true (decide (65281 ≤ c)) with hg1_41 | hg1_41
                  ·
                    simp only [hg1_41]
                    refine rl_on rfl rfl ?_
                    refine rl_y (y_move rfl rfl) rfl ?_
                    refine rl_on rfl rfl ?_
                    refine rl_y (y_leq rfl rfl rfl) rfl ?_
                    refine rl_on rfl rfl ?_
                    refine rl_y (y_pick_t rfl rfl rfl) rfl ?_
                    refine rl_y (y_pick_f rfl rfl rfl) rfl ?_
                    refine rl_y (y_assign rfl rfl) rfl ?_
                    refine rl_end (ρ' := [(2, _)]) ⟨rfl, trivial⟩ ?_
                    refine q_then ?_
                    refine wc_ret ?_
                    refine fin1 (.tmp rfl) ?_
                    refine bool_val ?_
                    first | refine (decide_eq_true ?_).symm | refine (decide_eq_false ?_).symm | refine decide_eq_decide.2 ?_
                    all_goals unfold WideP
                    all_goals simp only [decide_eq_true_eq, decide_eq_false_iff_not] at *
                    all_goals omega
                  ·
                    simp only [hg1_41]
                    refine rl_off rfl rfl rfl rfl ?_
                    refine rl_off rfl rfl rfl rfl ?_
                    refine rl_on rfl rfl ?_
                    refine rl_y (y_pick_f rfl rfl rfl) rfl ?_
                    refine rl_y (y_pick_f rfl rfl rfl) rfl ?_
                    refine rl_y (y_assign rfl rfl) rfl ?_
                    refine rl_end (ρ' := [(2, _)]) ⟨rfl, trivial⟩ ?_
                    refine q_then ?_
                    refine wc_ret ?_
                    refine fin1 (.tmp rfl) ?_
                    refine bool_val ?_
                    first | refine (decide_eq_true ?_).symm | refine (decide_eq_false ?_).symm | refine decide_eq_decide.2 ?_
                    all_goals unfold WideP
                    all_goals simp only [decide_eq_true_eq, decide_eq_false_iff_not] at *
                    all_goals omega
              ·
                simp only [hg1_33]
                refine rl_off rfl rfl rfl rfl ?_
                refine rl_off rfl rfl rfl rfl ?_
                refine rl_on rfl rfl ?_
                refine rl_y (y_pick_f rfl rfl rfl) rfl ?_
                refine rl_y (y_pick_f rfl rfl rfl) rfl ?_
                refine rl_y (y_move rfl rfl) rfl ?_
                refine rl_on rfl rfl ?_
                refine rl_y (y_move rfl rfl) rfl ?_
                refine rl_on rfl rfl ?_
                refine rl_y (y_geq rfl rfl rfl) rfl ?_
                refine rl_on rfl rfl ?_
                refine rl_y (y_move rfl rfl) rfl ?_
                rcases Bool.eq_false_or_eq_true (decide (65281 ≤ c)) with hg1_41 | hg1_41
                ·
                  simp only [hg1_41]
                  refine rl_on rfl rfl ?_
                  refine rl_y (y_move rfl rfl) rfl ?_
                  refine rl_on rfl rfl ?_
                  refine rl_y (y_leq rfl rfl rfl) rfl ?_
                  refine rl_on rfl rfl ?_
                  refine rl_y (y_pick_t rfl rfl rfl) rfl ?_
                  refine rl_y (y_pick_f rfl rfl rfl) rfl ?_
                  refine rl_y (y_assign rfl rfl) rfl ?_
                  refine rl_end (ρ' := [(2, _)]) ⟨rfl, trivial⟩ ?_
                  refine q_then ?_
                  refine wc_ret ?_
                  refine fin1 (.tmp rfl) ?_
                  refine bool_val ?_
                  first | refine (decide_eq_true ?_).symm | refine (decide_eq_false ?_).symm | refine decide_eq_decide.2 ?_
                  all_goals unfold WideP
                  all_goals simp only [decide_eq_true_eq, decide_eq_false_iff_not] at *
                  all_goals omega
                ·
                  simp only [hg1_41]
                  refine rl_off rfl rfl rfl rfl ?_
                  refine rl_off rfl rfl rfl rfl ?_
                  refine rl_on rfl rfl ?_
                  refine rl_y (y_pick_f rfl rfl rfl) rfl ?_
                  refine rl_y (y_pick_f rfl rfl rfl) rfl ?_
                  refine rl_y (y_assign rfl rfl) rfl ?_
                  refine rl_end (ρ' := [(2, _)]) ⟨rfl, trivial⟩ ?_
                  refine q_then ?_
                  refine wc_ret ?_
                  refine fin1 (.tmp rfl) ?_
                  refine bool_val ?_
                  first | refine (decide_eq_true ?_).symm | refine (decide_eq_false ?_).symm | refine decide_eq_decide.2 ?_
                  all_goals unfold WideP
                  all_goals simp only [decide_eq_true_eq, decide_eq_false_iff_not] at *
                  all_goals omega
          ·
            simp only [hg1_25]
            refine rl_off rfl rfl rfl rfl ?_
            refine rl_off rfl rfl rfl rfl ?_
            refine rl_on rfl rfl ?_
            refine rl_y (y_pick_f rfl rfl rfl) rfl ?_
            refine rl_y (y_pick_f rfl rfl rfl) rfl ?_
            refine rl_y (y_move rfl rfl) rfl ?_
            refine rl_on rfl rfl ?_
            refine rl_y (y_move rfl rfl) rfl ?_
            refine rl_on rfl rfl ?_
            refine rl_y (y_geq rfl rfl rfl) rfl ?_
            refine rl_on rfl rfl ?_
            refine rl_y (y_move rfl rfl) rfl ?_
            rcases Bool.eq_false_or_eq_true (decide (65072 ≤ c)) with hg1_33 | hg1_33
            ·
              simp only [hg1_33]
              refine rl_on rfl rfl ?_
              refine rl_y (y_move rfl rfl) rfl ?_
              refine rl_on rfl rfl ?_
              refine rl_y (y_leq rfl rfl rfl) rfl ?_
              refine rl_on rfl rfl ?_
              refine rl_y (y_pick_t rfl rfl rfl) rfl ?_
              refine rl_y (y_pick_f rfl rfl rfl) rfl ?_
              refine rl_y (y_move rfl rfl) rfl ?_
              rcases Bool.eq_false_or_eq_true (decide (c ≤ 65103)) with hg1_38 | hg1_38
              ·
                simp only [hg1_38]
                refine rl_off rfl rfl rfl rfl ?_
                refine rl_off rfl rfl rfl rfl ?_
                refine rl_off rfl rfl rfl rfl ?_
                refine rl_off_u rfl rfl rfl ?_
                refine rl_off_u rfl rfl rfl ?_
                refine rl_off rfl rfl rfl rfl ?_
                refine rl_y (y_pick_t rfl rfl rfl) rfl ?_
                refine rl_y (y_assign rfl rfl) rfl ?_
                refine rl_end (ρ' := [(2, _)]) ⟨rfl, trivial⟩ ?_
                refine q_then ?_
                refine wc_ret ?_
                refine fin1 (.tmp rfl) ?_
                refine bool_val ?_
                first | refine (decide_eq_true ?_).symm | refine (decide_eq_false ?_).symm | refine decide_eq_decide.2 ?_
                all_goals unfold WideP
                all_goals simp only [decide_eq_true_eq, decide_eq_false_iff_not] at *
                all_goals omega
              ·
                simp only [hg1_38]
                refine rl_on rfl rfl ?_
                refine rl_y (y_move rfl rfl) rfl ?_
                refine rl_on rfl rfl ?_
                refine rl_y (y_geq rfl rfl rfl) rfl ?_
                refine rl_on rfl rfl ?_
                refine rl_y (y_move rfl rfl) rfl ?_
                rcases Bool.eq_false_or_eq_true (decide (65281 ≤ c)) with hg1_41 | hg1_41
                ·
                  simp only [hg1_41]
                  refine rl_on rfl rfl ?_
                  refine rl_y (y_move rfl rfl) rfl ?_
                  refine rl_on rfl rfl ?_
                  refine rl_y (y_leq rfl rfl rfl) rfl ?_
                  refine rl_on rfl rfl ?_
                  refine rl_y (y_pick_t rfl rfl rfl) rfl ?_
                  refine rl_y (y_pick_f rfl rfl rfl) rfl ?_
                  refine rl_y (y_assign rfl rfl) rfl ?_
                  refine rl_end (ρ' := [(2, _)]) ⟨rfl, trivial⟩ ?_
                  refine q_then ?_
                  refine wc_ret ?_
                  refine fin1 (.tmp rfl) ?_
                  refine bool_val ?_
                  first | refine (decide_eq_true ?_).symm | refine (decide_eq_false ?_).symm | refine decide_eq_decide.2 ?_
                  all_goals unfold WideP
                  all_goals simp only [decide_eq_true_eq, decide_eq_false_iff_not] at *
                  all_goals omega
                ·
                  simp only [hg1_41]
                  refine rl_off rfl rfl rfl rfl ?_
                  refine rl_off rfl rfl rfl rfl ?_
                  refine rl_on rfl rfl ?_
                  refine rl_y (y_pick_f rfl rfl rfl) rfl ?_
                  refine rl_y (y_pick_f rfl rfl rfl) rfl ?_
                  refine rl_y (y_assign rfl rfl) rfl ?_
                  refine rl_end (ρ' := [(2, _)]) ⟨rfl, trivial⟩ ?_
                  refine q_then ?_
                  refine wc_ret ?_
                  refine fin1 (.tmp rfl) ?_
                  refine bool_val ?_
                  first | refine (decide_eq_true ?_).symm | refine (decide_eq_false ?_).symm | refine decide_eq_decide.2 ?_
                  all_goals unfold WideP
                  all_goals simp only [decide_eq_true_eq, decide_eq_false_iff_not] at *
                  all_goals omega
            ·
              simp only [hg1_33]
              refine rl_off rfl rfl rfl rfl ?_
              refine rl_off rfl rfl rfl rfl ?_
              refine rl_on rfl rfl ?_
              refine rl_y (y_pick_f rfl rfl rfl) rfl ?_
              refine rl_y (y_pick_f rfl rfl rfl) rfl ?_
              refine rl_y (y_move rfl rfl) rfl ?_
              refine rl_on rfl rfl ?_
              refine rl_y (y_move rfl rfl) rfl ?_
              refine rl_on rfl rfl ?_
              refine rl_y (y_geq rfl rfl rfl) rfl ?_
              refine rl_on rfl rfl ?_
              refine rl_y (y_move rfl rfl) rfl ?_
              rcases Bool.eq_false_or_eq_true (decide (65281 ≤ c)) with hg1_41 | hg1_41
              ·
                simp only [hg1_41]
                refine rl_on rfl rfl ?_
                refine rl_y (y_move rfl rfl) rfl ?_
                refine rl_on rfl rfl ?_
                refine rl_y (y_leq rfl rfl rfl) rfl ?_
                refine rl_on rfl rfl ?_
                refine rl_y (y_pick_t rfl rfl rfl) rfl ?_
                refine rl_y (y_pick_f rfl rfl rfl) rfl ?_
                refine rl_y (y_assign rfl rfl) rfl ?_
                refine rl_end (ρ' := [(2, _)]) ⟨rfl, trivial⟩ ?_
                refine q_then ?_
                refine wc_ret ?_
                refine fin1 (.tmp rfl) ?_
                refine bool_val ?_
                first | refine (decide_eq_true ?_).symm | refine (decide_eq_false ?_).symm | refine decide_eq_decide.2 ?_
                all_goals unfold WideP
                all_goals simp only [decide_eq_true_eq, decide_eq_false_iff_not] at *
                all_goals omega
              ·
                simp only [hg1_41]
                refine rl_off rfl rfl rfl rfl ?_
                refine rl_off rfl rfl rfl rfl ?_
                refine rl_on rfl rfl ?_
                refine rl_y (y_pick_f rfl rfl rfl) rfl ?_
                refine rl_y (y_pick_f rfl rfl rfl) rfl ?_
                refine rl_y (y_assign rfl rfl) rfl ?_
                refine rl_end (ρ' := [(2, _)]) ⟨rfl, trivial⟩ ?_
                refine q_then ?_
                refine wc_ret ?_
                refine fin1 (.tmp rfl) ?_
                refine bool_val ?_
                first | refine (decide_eq_true ?_).symm | refine (decide_eq_false ?_).symm | refine decide_eq_decide.2 ?_
                all_goals unfold WideP
                all_goals simp only [decide_eq_true_eq, decide_eq_false_iff_not] at *
                all_goals omega
      ·
        simp only [hg1_17]
        refine rl_off rfl rfl rfl rfl ?_
        refine rl_off rfl rfl rfl rfl ?_
        refine rl_on rfl rfl ?_
        refine rl_y (y_pick_f rfl rfl rfl) rfl ?_
        refine rl_y (y_pick_f rfl rfl rfl) rfl ?_
        refine rl_y (y_move rfl rfl) rfl ?_
        refine rl_on rfl rfl ?_
        refine rl_y (y_move rfl rfl) rfl ?_
        refine rl_on rfl rfl ?_
        refine rl_y (y_geq rfl rfl rfl) rfl ?_
        refine rl_on rfl rfl ?_
        refine rl_y (y_move rfl rfl) rfl ?_
        rcases Bool.eq_false_or_eq_true (decide (63744 ≤ c)) with hg1_25 | hg1_25
        ·
          simp only [hg1_25]
          refine rl_on rfl rfl ?_
          refine rl_y (y_move rfl rfl) rfl ?_
          refine rl_on rfl rfl ?_
          refine rl_y (y_leq rfl rfl rfl) rfl ?_
          refine rl_on rfl rfl ?_
          refine rl_y (y_pick_t rfl rfl rfl) rfl ?_
          refine rl_y (y_pick_f rfl rfl rfl) rfl ?_
          refine rl_y (y_move rfl rfl) rfl ?_
          rcases Bool.eq_false_or_eq_true (decide (c ≤ 64255)) with hg1_30 | hg1_30
          ·
            simp only [hg1_30]
            refine rl_off rfl rfl rfl rfl ?_
            refine rl_off rfl rfl rfl rfl ?_
            refine rl_off rfl rfl rfl rfl ?_
            refine rl_off_u rfl rfl rfl ?_
            refine rl_off_u rfl rfl rfl ?_
            refine rl_off rfl rfl rfl rfl ?_
            refine rl_y (y_pick_t rfl rfl rfl) rfl ?_
            refine rl_y (y_move rfl rfl) rfl ?_
            refine rl_off rfl rfl rfl rfl ?_
            refine rl_off rfl rfl rfl rfl ?_
            refine rl_off rfl rfl rfl rfl ?_
            refine rl_off_u rfl rfl rfl ?_
            refine rl_off_u rfl rfl rfl ?_
            refine rl_off rfl rfl rfl rfl ?_
            refine rl_y (y_pick_t rfl rfl rfl) rfl ?_
            refine rl_y (y_assign rfl rfl) rfl ?_
            refine rl_end (ρ' := [(2, _)]) ⟨rfl, trivial⟩ ?_
            refine q_then ?_
            refine wc_ret ?_
            refine fin1 (.tmp rfl) ?_
            refine bool_val ?_
            first | refine (decide_eq_true ?_).symm | refine (decide_eq_false ?_).symm | refine decide_eq_decide.2 ?_
            all_goals unfold WideP
            all_goals simp only [decide_eq_true_eq, decide_eq_false_iff_not] at *
            all_goals omega
          ·
            simp only [hg1_30]
            refine rl_on rfl rfl ?_
            refine rl_y (y_move rfl rfl) rfl ?_
            refine rl_on rfl rfl ?_
            refine rl_y (y_geq rfl rfl rfl) rfl ?_
            refine rl_on rfl rfl ?_
            refine rl_y (y_move rfl rfl) rfl ?_
            rcases Bool.eq_false_or_eq_true (decide (65072 ≤ c)) with hg1_33 | hg1_33
            ·
              simp only [hg1_33]
              refine rl_on rfl rfl ?_
              refine rl_y (y_move rfl rfl) rfl ?_
              refine rl_on rfl rfl ?_
              refine rl_y (y_leq rfl rfl rfl) rfl ?_
              refine rl_on rfl rfl ?_
              refine rl_y (y_pick_t rfl rfl rfl) rfl ?_
              refine rl_y (y_pick_f rfl rfl rfl) rfl ?_
              refine rl_y (y_move rfl rfl) rfl ?_
              rcases Bool.eq_false_or_eq_true (decide (c ≤ 65103)) with hg1_38 | hg1_38
              ·
                simp only [hg1_38]
                refine rl_off rfl rfl rfl rfl ?_
                refine rl_off rfl rfl rfl rfl ?_
                refine rl_off rfl rfl rfl rfl ?_
                refine rl_off_u rfl rfl rfl ?_
                refine rl_off_u rfl rfl rfl ?_
                refine rl_off rfl rfl rfl rfl ?_
                refine rl_y (y_pick_t rfl rfl rfl) rfl ?_
                refine rl_y (y_assign rfl rfl) rfl ?_
                refine rl_end (ρ' := [(2, _)]) ⟨rfl, trivial⟩ ?_
                refine q_then ?_
                refine wc_ret ?_
                refine fin1 (.tmp rfl) ?_
                refine bool_val ?_
                first | refine (decide_eq_true ?_).symm | refine (decide_eq_false ?_).symm | refine decide_eq_decide.2 ?_
                all_goals unfold WideP
                all_goals simp only [decide_eq_true_eq, decide_eq_false_iff_not] at *
                all_goals omega
              ·
                simp only [hg1_38]
                refine rl_on rfl rfl ?_
                refine rl_y (y_move rfl rfl) rfl ?_
                refine rl_on rfl rfl ?_
                refine rl_y (y_geq rfl rfl rfl) rfl ?_
                refine rl_on rfl rfl ?_
                refine rl_y (y_move rfl rfl) rfl ?_
                rcases Bool.eq_false_or_eq_true (decide (65281 ≤ c)) with hg1_41 | hg1_41
                ·
                  simp only [hg1_41]
                  refine rl_on rfl rfl ?_
                  refine rl_y (y_move rfl rfl) rfl ?_
                  refine rl_on rfl rfl ?_
                  refine rl_y (y_leq rfl rfl rfl) rfl ?_
                  refine rl_on rfl rfl ?_
                  refine rl_y (y_pick_t rfl rfl rfl) rfl ?_
                  refine rl_y (y_pick_f rfl rfl rfl) rfl ?_
                  refine rl_y (y_assign rfl rfl) rfl ?_
                  refine rl_end (ρ' := [(2, _)]) ⟨rfl, trivial⟩ ?_
                  refine q_then ?_
                  refine wc_ret ?_
                  refine fin1 (.tmp rfl) ?_
                  refine bool_val ?_
                  first | refine (decide_eq_true ?_).symm | refine (decide_eq_false ?_).symm | refine decide_eq_decide.2 ?_
                  all_goals unfold WideP
                  all_goals simp only [decide_eq_true_eq, decide_eq_false_iff_not] at *
                  all_goals omega
                ·
                  simp only [hg1_41]
                  refine rl_off rfl rfl rfl rfl ?_
                  refine rl_off rfl rfl rfl rfl ?_
                  refine rl_on rfl rfl ?_
                  refine rl_y (y_pick_f rfl rfl rfl) rfl ?_
                  refine rl_y (y_pick_f rfl rfl rfl) rfl ?_
                  refine rl_y (y_assign rfl rfl) rfl ?_
                  refine rl_end (ρ' := [(2, _)]) ⟨rfl, trivial⟩ ?_
                  refine q_then ?_
                  refine wc_ret ?_
                  refine fin1 (.tmp rfl) ?_
                  refine bool_val ?_
                  first | refine (decide_eq_true ?_).symm | refine (decide_eq_false ?_).symm | refine decide_eq_decide.2 ?_
                  all_goals unfold WideP
                  all_goals simp only [decide_eq_true_eq, decide_eq_false_iff_not] at *
                  all_goals omega
            ·
              simp only [hg1_33]
              refine rl_off rfl rfl rfl rfl ?_
              refine rl_off rfl rfl rfl rfl ?_
              refine rl_on rfl rfl ?_
              refine rl_y (y_pick_f rfl rfl rfl) rfl ?_
              refine rl_y (y_pick_f rfl rfl rfl) rfl ?_
              refine rl_y (y_move rfl rfl) rfl ?_
              refine rl_on rfl rfl ?_
              refine rl_y (y_move rfl rfl) rfl ?_
              refine rl_on rfl rfl ?_
              refine rl_y (y_geq rfl rfl rfl) rfl ?_
              refine rl_on rfl rfl ?_
              refine rl_y (y_move rfl rfl) rfl ?_
              rcases Bool.eq_false_or_eq_true (decide (65281 ≤ c)) with hg1_41 | hg1_41
              ·
                simp only [hg1_41]
                refine rl_on rfl rfl ?_
                refine rl_y (y_move rfl rfl) rfl ?_
                refine rl_on rfl rfl ?_
                refine rl_y (y_leq rfl rfl rfl) rfl ?_
                refine rl_on rfl rfl ?_
                refine rl_y (y_pick_t rfl rfl rfl) rfl ?_
                refine rl_y (y_pick_f rfl rfl rfl) rfl ?_
                refine rl_y (y_assign rfl rfl) rfl ?_
                refine rl_end (ρ' := [(2, _)]) ⟨rfl, trivial⟩ ?_
                refine q_then ?_
                refine wc_ret ?_
                refine fin1 (.tmp rfl) ?_
                refine bool_val ?_
                first | refine (decide_eq_true ?_).symm | refine (decide_eq_false ?_).symm | refine decide_eq_decide.2 ?_
                all_goals unfold WideP
                all_goals simp only [decide_eq_true_eq, decide_eq_false_iff_not] at *
                all_goals omega
              ·
                simp only [hg1_41]
                refine rl_off rfl rfl rfl rfl ?_
                refine rl_off rfl rfl rfl rfl ?_
                refine rl_on rfl rfl ?_
                refine rl_y (y_pick_f rfl rfl rfl) rfl ?_
                refine rl_y (y_pick_f rfl rfl rfl) rfl ?_
                refine rl_y (y_assign rfl rfl) rfl ?_
                refine rl_end (ρ' := [(2, _)]) ⟨rfl, trivial⟩ ?_
                refine q_then ?_
                refine wc_ret ?_
                refine fin1 (.tmp rfl) ?_
                refine bool_val ?_
                first | refine (decide_eq_true ?_).symm | refine (decide_eq_false ?_).symm | refine decide_eq_decide.2 ?_
                all_goals unfold WideP
                all_goals simp only [decide_eq_true_eq, decide_eq_false_iff_not] at *
                all_goals omega
        ·
          simp only [hg1_25]
          refine rl_off rfl rfl rfl rfl ?_
          refine rl_off rfl rfl rfl rfl ?_
          refine rl_on rfl rfl ?_
          refine rl_y (y_pick_f rfl rfl rfl) rfl ?_
          refine rl_y (y_pick_f rfl rfl rfl) rfl ?_
          refine rl_y (y_move rfl rfl) rfl ?_
          refine rl_on rfl rfl ?_
          refine rl_y (y_move rfl rfl) rfl ?_
          refine rl_on rfl rfl ?_
          refine rl_y (y_geq rfl rfl rfl) rfl ?_
          refine rl_on rfl rfl ?_
          refine rl_y (y_move rfl rfl) rfl ?_
          rcases Bool.eq_false_or_eq_true (decide (65072 ≤ c)) with hg1_33 | hg1_33
          ·
            simp only [hg1_33]
            refine rl_on rfl rfl ?_
            refine rl_y (y_move rfl rfl) rfl ?_
            refine rl_on rfl rfl ?_
            refine rl_y (y_leq rfl rfl rfl) rfl ?_
            refine rl_on rfl rfl ?_
            refine rl_y (y_pick_t rfl rfl rfl) rfl ?_
            refine rl_y (y_pick_f rfl rfl rfl) rfl ?_
            refine rl_y (y_move rfl rfl) rfl ?_
            rcases Bool.eq_false_or_eq_true (decide (c ≤ 65103)) with hg1_38 | hg1_38
            ·
              simp only [hg1_38]
              refine rl_off rfl rfl rfl rfl ?_
              refine rl_off rfl rfl rfl rfl ?_
              refine rl_off rfl rfl rfl rfl ?_
              refine rl_off_u rfl rfl rfl ?_
              refine rl_off_u rfl rfl rfl ?_
              refine rl_off rfl rfl rfl rfl ?_
              refine rl_y (y_pick_t rfl rfl rfl) rfl ?_
              refine rl_y (y_assign rfl rfl) rfl ?_
              refine rl_end (ρ' := [(2, _)]) ⟨rfl, trivial⟩ ?_
              refine q_then ?_
              refine wc_ret ?_
              refine fin1 (.tmp rfl) ?_
              refine bool_val ?_
              first | refine (decide_eq_true ?_).symm | refine (decide_eq_false ?_).symm | refine decide_eq_decide.2 ?_
              all_goals unfold WideP
              all_goals simp only [decide_eq_true_eq, decide_eq_false_iff_not] at *
              all_goals omega
            ·
              simp only [hg1_38]
              refine rl_on rfl rfl ?_
              refine rl_y (y_move rfl rfl) rfl ?_
              refine rl_on rfl rfl ?_
              refine rl_y (y_geq rfl rfl rfl) rfl ?_
              refine rl_on rfl rfl ?_
              refine rl_y (y_move rfl rfl) rfl ?_
              rcases Bool.eq_false_or_eq_true (decide (65281 ≤ c)) with hg1_41 | hg1_41
              ·
                simp only [hg1_41]
                refine rl_on rfl rfl ?_
                refine rl_y (y_move rfl rfl) rfl ?_
                refine rl_on rfl rfl ?_
                refine rl_y (y_leq rfl rfl rfl) rfl ?_
                refine rl_on rfl rfl ?_
                refine rl_y (y_pick_t rfl rfl rfl) rfl ?_
                refine rl_y (y_pick_f rfl rfl rfl) rfl ?_
                refine rl_y (y_assign rfl rfl) rfl ?_
                refine rl_end (ρ' := [(2, _)]) ⟨rfl, trivial⟩ ?_
                refine q_then ?_
                refine wc_ret ?_
                refine fin1 (.tmp rfl) ?_
                refine bool_val ?_
                first | refine (decide_eq_true ?_).symm | refine (decide_eq_false ?_).symm | refine decide_eq_decide.2 ?_
                all_goals unfold WideP
                all_goals simp only [decide_eq_true_eq, decide_eq_false_iff_not] at *
                all_goals omega
              ·
                simp only [hg1_41]
                refine rl_off rfl rfl rfl rfl ?_
                refine rl_off rfl rfl rfl rfl ?_
                refine rl_on rfl rfl ?_
                refine rl_y (y_pick_f rfl rfl rfl) rfl ?_
                refine rl_y (y_pick_f rfl rfl rfl) rfl ?_
                refine rl_y (y_assign rfl rfl) rfl ?_
                refine rl_end (ρ' := [(2, _)]) ⟨rfl, trivial⟩ ?_
                refine q_then ?_
                refine wc_ret ?_
                refine fin1 (.tmp rfl) ?_
                refine bool_val ?_
                first | refine (decide_eq_true ?_).symm | refine (decide_eq_false ?_).symm | refine decide_eq_decide.2 ?_
                all_goals unfold WideP
                all_goals simp only [decide_eq_true_eq, decide_eq_false_iff_not] at *
                all_goals omega
          ·
            simp only [hg1_33]
            refine rl_off rfl rfl rfl rfl ?_
            refine rl_off rfl rfl rfl rfl ?_
            refine rl_on rfl rfl ?_
            refine rl_y (y_pick_f rfl rfl rfl) rfl ?_
            refine rl_y (y_pick_f rfl rfl rfl) rfl ?_
            refine rl_y (y_move rfl rfl) rfl ?_
            refine rl_on rfl rfl ?_
            refine rl_y (y_move rfl rfl) rfl ?_
            refine rl_on rfl rfl ?_
            refine rl_y (y_geq rfl rfl rfl) rfl ?_
            refine rl_on rfl rfl ?_
            refine rl_y (y_move rfl rfl) rfl ?_
            rcases Bool.eq_false_or_eq_true (decide (65281 ≤ c)) with hg1_41 | hg1_41
            ·
              simp only [hg1_41]
              refine rl_on rfl rfl ?_
              refine rl_y (y_move rfl rfl) rfl ?_
              refine rl_on rfl rfl ?_
              refine rl_y (y_leq rfl rfl rfl) rfl ?_
              refine rl_on rfl rfl ?_
              refine rl_y (y_pick_t rfl rfl rfl) rfl ?_
              refine rl_y (y_pick_f rfl rfl rfl) rfl ?_
              refine rl_y (y_assign rfl rfl) rfl ?_
              refine rl_end (ρ' := [(2, _)]) ⟨rfl, trivial⟩ ?_
              refine q_then ?_
              refine wc_ret ?_
              refine fin1 (.tmp rfl) ?_
              refine bool_val ?_
              first | refine (decide_eq_true ?_).symm | refine (decide_eq_false ?_).symm | refine decide_eq_decide.2 ?_
              all_goals unfold WideP
              all_goals simp only [decide_eq_true_eq, decide_eq_false_iff_not] at *
              all_goals omega
            ·
              simp only [hg1_41]
              refine rl_off rfl rfl rfl rfl ?_
              refine rl_off rfl rfl rfl rfl ?_
              refine rl_on rfl rfl ?_
              refine rl_y (y_pick_f rfl rfl rfl) rfl ?_
              refine rl_y (y_pick_f rfl rfl rfl) rfl ?_
              refine rl_y (y_assign rfl rfl) rfl ?_
              refine rl_end (ρ' := [(2, _)]) ⟨rfl, trivial⟩ ?_
              refine q_then ?_
              refine wc_ret ?_
              refine fin1 (.tmp rfl) ?_
              refine bool_val ?_
              first | refine (decide_eq_true ?_).symm | refine (decide_eq_false ?_).symm | refine decide_eq_decide.2 ?_
              all_goals unfold WideP
              all_goals simp only [decide_eq_true_eq, decide_eq_false_iff_not] at *
              all_goals omega
end Go.Proofs.Ytceodelgalfjfaa
