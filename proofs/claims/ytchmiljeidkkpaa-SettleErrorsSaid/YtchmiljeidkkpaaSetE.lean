/- Settle: the same at int (for the chapter's examples). -/
import Derived.Test.YtchmiljeidkkpaaSetD
namespace Go.Proofs.Ytchmiljeidkkpaa
open Go Go.Eng

def dbl (a : Int) : Int := if 1 ≤ a ∧ a < 8 then 2 * a else a
def itI (p : Int) : Nat → Int
  | 0 => p
  | n + 1 => dbl (itI p n)
theorem itI_bd (p : Int) (h : 0 ≤ p ∧ p ≤ 16) : ∀ n, 0 ≤ itI p n ∧ itI p n ≤ 16
  | 0 => h
  | n + 1 => by
    have := itI_bd p h n
    simp only [itI, dbl]
    split <;> omega

def setResI (p : Int) (k j : Nat) (e : Int) : Value :=
  .tuple #[.int .i64 (if e = 0 then itI p k else 0), .int .i64 k, .int .i64 (if e = 10 then (k : Int) - j else 0), .int .i64 e]

theorem sameI_idle (p : Addr) (w : World) :
    CallsD Try.prog 32 #[.pointer (some p)] .returning w fun e u' w' => e = .returned (.tuple #[]) ∧ u' = .returning ∧ w' = w := by
  refine callsD_of_wpS Try.func32 rfl fun c₀ cs hu => ?_
  apply wpS_seq
  apply wpS_region
  simp [wpOpsS, go_sem, recoverD, hu, Try.ntmps32, Exit.thenS]
  refine wpS_cond (t := false) (by simp [Act.eval, Array.replicate]) ?_
  simp only [Bool.false_eq_true, if_false]
  refine wpS_of_wp (wp_skip ?_)
  cases c₀
  simp_all [bodyPostS, results, Try.results32]

theorem sameI_fn (p q : Int) (u : View) : FnP Try.prog 30 [.int .i64 p, .int .i64 q] u fun v _ => v = .bool (decide (p = q)) := by
  refine FnP.intro_defer (c0 := .region 0 (List.toArray [_]) false) (c1 := .seq (.region 2 (List.toArray [_, _, _, _]) false) .ret) (zs := [.bool false]) Try.func30 rfl rfl rfl rfl Try.c32 sameI_idle
    (fun ρ σ _ => ρ = [(4, .p 4 0), (1, .v (.int .i64 q)), (0, .v (.int .i64 p))] ∧ σ = [(4, .box [.bool false])]) ?_ ?_
  · intro w0 _
    refine wc_region ?_
    refine rl_alloc Try.z4 rfl rfl rfl ?_
    exact rl_end (ρ' := [(4, .p 4 0), (1, .v (.int .i64 q)), (0, .v (.int .i64 p))]) ⟨rfl, rfl, rfl, trivial⟩ ⟨rfl, rfl, rfl, rfl, rfl, rfl⟩
  · rintro w0 b Tb d ρ σ u' ⟨rfl, rfl⟩ hun
    refine wc_seq ?_
    refine wc_region ?_
    refine rl_y (y_move rfl rfl) rfl ?_
    refine rl_y (y_move rfl rfl) rfl ?_
    refine rl_y (y_eql rfl rfl rfl) rfl ?_
    refine rl_store_m [] Try.k4 rfl rfl (List.mem_singleton.2 rfl) rfl rfl rfl (by decide) rfl (by simp) ?_
    refine rl_end (ρ' := [(4, _)]) ⟨rfl, trivial⟩ ?_
    refine q_then ?_
    refine wc_ret ?_
    exact ⟨.inr rfl, rfl, _, Tb, _, _, _, _, List.mem_singleton.2 rfl, Try.k4, rfl, rfl, rfl, rfl⟩

theorem stepI_fn (p : Int) (hp : 0 ≤ p ∧ p ≤ 16) (u : View) (b0 : Nat) (T0 : TypeId) (fr : Nat × Nat) (hu : u b0 = some (.cells #[.func (.func 20) #[] #[]] T0 fr)) :
    FnP Try.prog 29 [.int .i64 p, .pointer (some ⟨b0, 0, none⟩)] u fun v _ => v = .tuple #[.int .i64 (dbl p), .int .i64 0] := by
  refine FnP.intro [.tmp 3, .tmp 4] Try.func29 rfl rfl rfl ?_
  intro w0 hw0
  refine wc_seq ?_
  refine wc_region ?_
  refine rl_y (y_assign rfl rfl) rfl ?_
  refine rl_y (y_assign rfl rfl) rfl ?_
  refine rl_end (ρ' := [(0, _), (1, _)]) ⟨rfl, rfl, trivial⟩ ?_
  refine q_then ?_
  refine wc_seq ?_
  refine wc_region ?_
  refine rl_y (y_load_v rfl Try.k43 rfl hu rfl rfl rfl) rfl ?_
  refine rl_y (y_move rfl rfl) rfl ?_
  refine rl_call_f (caps := []) rfl rfl Try.c20 rfl (FnP.mono (doubled_fn p _ (by omega)) ?_)
  rintro v u1 hle1 rfl
  refine rl_y (y_assign rfl rfl) rfl ?_
  refine rl_y (y_assign rfl rfl) rfl ?_
  refine rl_end (ρ' := [(3, _), (4, _)]) ⟨rfl, rfl, trivial⟩ ?_
  refine q_then ?_
  refine wc_ret ?_
  refine fin2 (.tmp rfl) (.tmp rfl) ?_
  rfl

theorem settleI_fn (p : Int) (hp : 0 ≤ p ∧ p ≤ 16) (most : Nat) (hm : 1 ≤ most) (hm2 : most ≤ 64) (u : View) (b0 : Nat) (T0 : TypeId) (fr : Nat × Nat) (hu : u b0 = some (.cells #[.func (.func 20) #[] #[]] T0 fr)) :
    FnP Try.prog 28 [.int .i64 p, .func (.func 29) #[] #[.pointer (some ⟨b0, 0, none⟩)], .func (.func 30) #[] #[], .int .i64 most] u
      fun v _ => ∃ k j e, Ends (itI p) most k j e ∧ v = setResI p k j e := by
  have hbd := itI_bd p hp
  have hbl : ∀ n, ([Value.int .i64 (itI p n)]).length = 1 := fun _ => rfl
  have hrow : ∀ k i : Nat, i < k → cut (rowsN (fun n => [Value.int .i64 (itI p n)]) k) (i * 1) 1 = [.int .i64 (itI p i)] := by
    intro k i hi
    rw [cut_rowsN hbl hi]
  have hlen : ∀ k, (rowsN (fun n => [Value.int .i64 (itI p n)]) k).length = k * 1 := length_rowsN hbl
  refine FnP.intro [.tmp 8, .tmp 9, .tmp 10, .tmp 11] Try.func28 rfl rfl rfl ?_
  intro w0 hw0
  refine wc_seq ?_
  refine wc_region ?_
  refine rl_y (y_assign rfl rfl) rfl ?_
  refine rl_y (y_assign rfl rfl) rfl ?_
  refine rl_y (y_assign rfl rfl) rfl ?_
  refine rl_y (y_assign rfl rfl) rfl ?_
  refine rl_end (ρ' := [(0, _), (1, _), (2, _), (3, _)]) ⟨rfl, rfl, rfl, rfl, trivial⟩ ?_
  refine q_then ?_
  refine wc_seq ?_
  refine wc_region ?_
  refine rl_y (y_assign rfl rfl) rfl ?_
  refine rl_end (ρ' := [(0, _), (1, _), (2, _), (3, _), (12, _)]) ⟨rfl, rfl, rfl, rfl, rfl, trivial⟩ ?_
  refine q_then ?_
  refine wc_seq ?_
  refine wc_region ?_
  refine rl_y (y_move rfl rfl) rfl ?_
  refine rl_buildSlice Try.s47 Try.z3 (ps := [(_, _)]) rfl (xs := [_]) rfl rfl rfl rfl rfl rfl rfl ?_
  refine rl_y (y_assign rfl rfl) rfl ?_
  refine rl_ren 19 13 rfl rfl rfl ?_
  refine rl_end (ρ' := [(1, _), (2, _), (3, _), (12, _), (13, _)]) ⟨rfl, rfl, rfl, rfl, rfl, trivial⟩ ?_
  refine q_then ?_
  refine wc_seq ?_
  refine wc_region ?_
  refine rl_y (y_assign rfl rfl) rfl ?_
  refine rl_end (ρ' := [(1, _), (2, _), (3, _), (12, _), (13, _), (14, _)]) ⟨rfl, rfl, rfl, rfl, rfl, rfl, trivial⟩ ?_
  refine q_then ?_
  refine wc_block ?_
  refine wc_loop (fun m ρ σ u' μ => ∃ k : Nat, 1 ≤ k ∧ k + m = most ∧ (∀ a b, a < b → b < k → itI p a ≠ itI p b) ∧ u = u' ∧ μ = [] ∧
  ρ = [(1, .v (.func (.func 29) #[] #[.pointer (some ⟨b0, 0, none⟩)])), (2, .v (.func (.func 30) #[] #[])), (3, .v (.int .i64 most)), (12, .v (.int .i64 0)), (13, .s 13), (14, .v (.int .i64 k))] ∧
  σ = [(13, .row 3 1 k (rowsN (fun n => [Value.int .i64 (itI p n)]) k))]) (most - 1) ?_ ?_
  ·
    refine ⟨_, _, ?_, ?_, 1, by omega, by omega, fun a b h1 h2 => by omega, rfl, rfl, rfl, rfl⟩
    · exact ⟨rfl, rfl, rfl, rfl, rfl, rfl, trivial⟩
    · exact ⟨rfl, trivial⟩
  ·
    rintro m ρ σ u' μ ⟨k, hk1, hk2, hdist, rfl, rfl, rfl, rfl⟩
    refine wc_seq ?_
    refine wc_block ?_
    refine wc_seq ?_
    refine wc_region ?_
    refine rl_y (y_move rfl rfl) rfl ?_
    refine rl_y (y_move rfl rfl) rfl ?_
    refine rl_y (y_move rfl rfl) rfl ?_
    refine rl_y (y_sub rfl rfl rfl (wrap64_id (by omega))) rfl ?_
    refine rl_y (y_index_s rfl Try.s47 rfl rfl rfl (j := k - 1) (by omega) (by omega)) rfl ?_
    refine rl_y (y_load_s rfl Try.k3 rfl rfl rfl (hrow k (k - 1) (by omega)) rfl rfl (by rw [hlen]; omega)) rfl ?_
    refine rl_call_f (caps := [.pointer (some ⟨b0, 0, none⟩)]) rfl rfl Try.c29 rfl (FnP.mono (stepI_fn (itI p (k - 1)) (hbd _) _ b0 T0 fr hu) ?_)
    rintro v u1 hle1 rfl
    have hnext : dbl (itI p (k - 1)) = itI p k := by
      obtain ⟨k', rfl⟩ : ∃ k', k = k' + 1 := ⟨k - 1, by omega⟩
      rfl
    rw [hnext]
    refine rl_y (y_move rfl rfl) rfl ?_
    refine rl_y (y_extract rfl rfl rfl) rfl ?_
    refine rl_y (y_extract rfl rfl rfl) rfl ?_
    refine rl_y (y_assign rfl rfl) rfl ?_
    refine rl_y (y_assign rfl rfl) rfl ?_
    refine rl_end (ρ' := [(1, _), (2, _), (3, _), (12, _), (13, _), (14, _), (15, _), (16, _)]) ⟨rfl, rfl, rfl, rfl, rfl, rfl, rfl, rfl, trivial⟩ ?_
    refine q_then ?_
    refine wc_seq ?_
    refine wc_seq ?_
    refine wc_region ?_
    refine rl_y (y_move rfl rfl) rfl ?_
    refine rl_y (y_neq rfl rfl rfl) rfl ?_
    refine rl_end (ρ' := [(1, _), (2, _), (3, _), (12, _), (13, _), (14, _), (15, _), (16, _), (33, _)]) ⟨rfl, rfl, rfl, rfl, rfl, rfl, rfl, rfl, rfl, trivial⟩ ?_
    refine q_then ?_
    refine wc_cond_f rfl (rfl) ?_
    refine wc_skip ?_
    refine q_then ?_
    refine wc_seq ?_
    refine wc_seq ?_
    refine wc_region ?_
    refine rl_y (y_move rfl rfl) rfl ?_
    refine rl_y (y_move rfl rfl) rfl ?_
    refine rl_y (y_move rfl rfl) rfl ?_
    refine rl_y (y_move rfl rfl) rfl ?_
    refine rl_y (y_sub rfl rfl rfl (wrap64_id (by omega))) rfl ?_
    refine rl_y (y_index_s rfl Try.s47 rfl rfl rfl (j := k - 1) (by omega) (by omega)) rfl ?_
    refine rl_y (y_load_s rfl Try.k3 rfl rfl rfl (hrow k (k - 1) (by omega)) rfl rfl (by rw [hlen]; omega)) rfl ?_
    refine rl_call_f (caps := []) rfl rfl Try.c30 rfl (FnP.mono (sameI_fn (itI p k) (itI p (k - 1)) _) ?_)
    rintro v u1 hle1 rfl
    refine rl_end (ρ' := [(1, _), (2, _), (3, _), (12, _), (13, _), (14, _), (15, _), (44, _)]) ⟨rfl, rfl, rfl, rfl, rfl, rfl, rfl, rfl, trivial⟩ ?_
    refine q_then ?_
    refine wc_cond rfl (fun hb8 => ?_) (fun hb8 => ?_)
    ·
      have hq : itI p k = itI p (k - 1) := by simpa using hb8
      refine wc_seq ?_
      refine wc_region ?_
      refine rl_y (y_move rfl rfl) rfl ?_
      refine rl_y (y_move rfl rfl) rfl ?_
      refine rl_y (y_assign rfl rfl) rfl ?_
      refine rl_y (y_assign rfl rfl) rfl ?_
      refine rl_y (y_assign rfl rfl) rfl ?_
      refine rl_y (y_assign rfl rfl) rfl ?_
      refine rl_end (ρ' := [(8, _), (9, _), (10, _), (11, _)]) ⟨rfl, rfl, rfl, rfl, trivial⟩ ?_
      refine q_then ?_
      refine wc_ret ?_
      refine q_then_ret ?_
      refine q_block_ret ?_
      refine q_then_ret ?_
      refine q_then_ret ?_
      refine q_block_ret ?_
      refine fin4 (.tmp rfl) (.tmp rfl) (.tmp rfl) (.tmp rfl) ?_
      exact ⟨k, k - 1, 0, ⟨hk1, by omega, hdist, .inl ⟨rfl, by omega, hq⟩⟩, rfl⟩
    ·
      have hq : itI p k ≠ itI p (k - 1) := by simpa using hb8
      refine wc_skip ?_
      refine q_then ?_
      refine wc_seq ?_
      refine wc_seq ?_
      refine wc_region ?_
      refine rl_y (y_move rfl rfl) rfl ?_
      refine rl_y (y_sub rfl rfl rfl (wrap64_id (by omega))) rfl ?_
      refine rl_y (y_assign rfl rfl) rfl ?_
      refine rl_end (ρ' := [(1, _), (2, _), (3, _), (12, _), (13, _), (14, _), (15, _), (17, _)]) ⟨rfl, rfl, rfl, rfl, rfl, rfl, rfl, rfl, trivial⟩ ?_
      refine q_then ?_
      refine wc_block ?_
      refine wc_loop (fun m2 ρ σ u' μ => ∃ i : Int, i = (m2 : Int) - 1 ∧ m2 + 1 ≤ k ∧ (∀ j, m2 ≤ j → j < k → itI p j ≠ itI p k) ∧ u = u' ∧ μ = [] ∧
      ρ = [(1, .v (.func (.func 29) #[] #[.pointer (some ⟨b0, 0, none⟩)])), (2, .v (.func (.func 30) #[] #[])), (3, .v (.int .i64 most)), (12, .v (.int .i64 0)), (13, .s 13), (14, .v (.int .i64 k)), (15, .v (.int .i64 (itI p k))), (17, .v (.int .i64 i))] ∧
      σ = [(13, .row 3 1 k (rowsN (fun n => [Value.int .i64 (itI p n)]) k))]) (k - 1) ?_ ?_
      ·
        refine ⟨_, _, ?_, ?_, (k : Int) - 2, by omega, by omega, ?_, rfl, rfl, rfl, rfl⟩
        · exact ⟨rfl, rfl, rfl, rfl, rfl, rfl, rfl, rfl, trivial⟩
        · exact ⟨rfl, trivial⟩
        · intro j h1 h2
          obtain rfl : j = k - 1 := by omega
          exact Ne.symm hq
      ·
        rintro m2 ρ σ u' μ ⟨i, hi, hm2k, hno, rfl, rfl, rfl, rfl⟩
        refine wc_seq ?_
        refine wc_seq ?_
        refine wc_region ?_
        refine rl_y (y_move rfl rfl) rfl ?_
        refine rl_y (y_geq rfl rfl rfl) rfl ?_
        refine rl_end (ρ' := [(1, _), (2, _), (3, _), (12, _), (13, _), (14, _), (15, _), (17, _), (50, _)]) ⟨rfl, rfl, rfl, rfl, rfl, rfl, rfl, rfl, rfl, trivial⟩ ?_
        refine q_then ?_
        refine wc_cond rfl (fun hb11 => ?_) (fun hb11 => ?_)
        ·
          have hge : 1 ≤ m2 := by have := of_decide_eq_true hb11; omega
          refine wc_skip ?_
          refine q_then ?_
          refine wc_seq ?_
          refine wc_block ?_
          refine wc_seq ?_
          refine wc_region ?_
          refine rl_y (y_move rfl rfl) rfl ?_
          refine rl_y (y_move rfl rfl) rfl ?_
          refine rl_y (y_move rfl rfl) rfl ?_
          refine rl_y (y_move rfl rfl) rfl ?_
          refine rl_y (y_index_s rfl Try.s47 rfl rfl rfl (j := m2 - 1) (by omega) (by omega)) rfl ?_
          refine rl_y (y_load_s rfl Try.k3 rfl rfl rfl (hrow k (m2 - 1) (by omega)) rfl rfl (by rw [hlen]; omega)) rfl ?_
          refine rl_call_f (caps := []) rfl rfl Try.c30 rfl (FnP.mono (sameI_fn (itI p k) (itI p (m2 - 1)) _) ?_)
          rintro v u1 hle1 rfl
          refine rl_end (ρ' := [(1, _), (2, _), (3, _), (12, _), (13, _), (14, _), (15, _), (17, _), (59, _)]) ⟨rfl, rfl, rfl, rfl, rfl, rfl, rfl, rfl, rfl, trivial⟩ ?_
          refine q_then ?_
          refine wc_cond rfl (fun hb13 => ?_) (fun hb13 => ?_)
          ·
            have hq2 : itI p k = itI p (m2 - 1) := by simpa using hb13
            refine wc_seq ?_
            refine wc_region ?_
            refine rl_y (y_move rfl rfl) rfl ?_
            refine rl_y (y_move rfl rfl) rfl ?_
            refine rl_y (y_move rfl rfl) rfl ?_
            refine rl_y (y_move rfl rfl) rfl ?_
            refine rl_y (y_sub rfl rfl rfl (wrap64_id (by omega))) rfl ?_
            refine rl_y (y_assign rfl rfl) rfl ?_
            refine rl_y (y_assign rfl rfl) rfl ?_
            refine rl_y (y_assign rfl rfl) rfl ?_
            refine rl_y (y_assign rfl rfl) rfl ?_
            refine rl_end (ρ' := [(8, _), (9, _), (10, _), (11, _)]) ⟨rfl, rfl, rfl, rfl, trivial⟩ ?_
            refine q_then ?_
            refine wc_ret ?_
            refine q_block_ret ?_
            refine q_then_ret ?_
            refine q_then_ret ?_
            refine q_block_ret ?_
            refine q_then_ret ?_
            refine q_block_ret ?_
            refine q_then_ret ?_
            refine q_then_ret ?_
            refine q_block_ret ?_
            refine fin4 (.tmp rfl) (.tmp rfl) (.tmp rfl) (.tmp rfl) ?_
            refine ⟨k, m2 - 1, 10, ⟨hk1, by omega, hdist, .inr (.inl ⟨rfl, by omega, hq2⟩)⟩, ?_⟩
            rw [show i = ((m2 - 1 : Nat) : Int) by omega]
            rfl
          ·
            have hq2 : itI p k ≠ itI p (m2 - 1) := by simpa using hb13
            refine wc_skip ?_
            refine q_block ?_
            refine q_then ?_
            refine wc_region ?_
            refine rl_y (y_move rfl rfl) rfl ?_
            refine rl_y (y_sub rfl rfl rfl (wrap64_id (by omega))) rfl ?_
            refine rl_y (y_assign rfl rfl) rfl ?_
            refine rl_end (ρ' := [(1, _), (2, _), (3, _), (12, _), (13, _), (14, _), (15, _), (17, _)]) ⟨rfl, rfl, rfl, rfl, rfl, rfl, rfl, rfl, trivial⟩ ?_
            refine q_thenK ?_
            refine ⟨m2 - 1, _, _, by omega, ?_, ?_, i - 1, by omega, by omega, ?_, rfl, rfl, rfl, rfl⟩
            · exact ⟨rfl, rfl, rfl, rfl, rfl, rfl, rfl, rfl, trivial⟩
            · exact ⟨rfl, trivial⟩
            · intro j h1 h2
              by_cases e : j = m2 - 1
              · subst e; exact Ne.symm hq2
              · exact hno j (by omega) h2
        ·
          have hlt : m2 = 0 := by have := of_decide_eq_false hb11; omega
          refine wc_exit ?_
          refine q_then_exit ?_
          refine q_then_exit ?_
          refine q_block_hit ?_
          refine q_then ?_
          refine wc_seq ?_
          refine wc_seq ?_
          refine wc_region ?_
          refine rl_y (y_move rfl rfl) rfl ?_
          refine rl_y (y_move rfl rfl) rfl ?_
          refine rl_y (y_eql rfl rfl rfl) rfl ?_
          refine rl_end (ρ' := [(1, _), (2, _), (3, _), (12, _), (13, _), (14, _), (15, _), (67, _)]) ⟨rfl, rfl, rfl, rfl, rfl, rfl, rfl, rfl, trivial⟩ ?_
          refine q_then ?_
          refine wc_cond rfl (fun hb15 => ?_) (fun hb15 => ?_)
          ·
            have hkm : k = most := by have := of_decide_eq_true hb15; omega
            refine wc_seq ?_
            refine wc_region ?_
            refine rl_y (y_move rfl rfl) rfl ?_
            refine rl_y (y_move rfl rfl) rfl ?_
            refine rl_y (y_assign rfl rfl) rfl ?_
            refine rl_y (y_assign rfl rfl) rfl ?_
            refine rl_y (y_assign rfl rfl) rfl ?_
            refine rl_y (y_assign rfl rfl) rfl ?_
            refine rl_end (ρ' := [(8, _), (9, _), (10, _), (11, _)]) ⟨rfl, rfl, rfl, rfl, trivial⟩ ?_
            refine q_then ?_
            refine wc_ret ?_
            refine q_then_ret ?_
            refine q_block_ret ?_
            refine q_then_ret ?_
            refine q_then_ret ?_
            refine q_block_ret ?_
            refine fin4 (.tmp rfl) (.tmp rfl) (.tmp rfl) (.tmp rfl) ?_
            exact ⟨k, k, 18, ⟨hk1, by omega, hdist, .inr (.inr ⟨rfl, hkm, rfl, fun i hi => Ne.symm (hno i (by omega) hi)⟩)⟩, rfl⟩
          ·
            have hkm : k ≠ most := by have := of_decide_eq_false hb15; omega
            refine wc_skip ?_
            refine q_then ?_
            refine wc_region ?_
            refine rl_y (y_move rfl rfl) rfl ?_
            refine rl_y (y_move rfl rfl) rfl ?_
            refine rl_buildSlice Try.s47 Try.z3 (ps := [(_, _)]) rfl (xs := [_]) rfl rfl rfl rfl rfl rfl rfl ?_
            refine rl_append_s rfl Try.s47 Try.z3 rfl rfl rfl rfl rfl rfl (by first | rfl | simp [Value.oneCell', str]) (by omega) (by omega) (ρ' := [(1, _), (2, _), (3, _), (12, _), (14, _)]) ⟨rfl, rfl, rfl, rfl, rfl, trivial⟩ rfl rfl rfl ?_
            refine rl_y (y_assign rfl rfl) rfl ?_
            refine rl_ren 73 13 rfl rfl rfl ?_
            refine rl_end (ρ' := [(1, _), (2, _), (3, _), (12, _), (13, _), (14, _)]) ⟨rfl, rfl, rfl, rfl, rfl, rfl, trivial⟩ ?_
            refine q_block ?_
            refine q_then ?_
            refine wc_region ?_
            refine rl_y (y_move rfl rfl) rfl ?_
            refine rl_y (y_add rfl rfl rfl (wrap64_id (by omega))) rfl ?_
            refine rl_y (y_assign rfl rfl) rfl ?_
            refine rl_end (ρ' := [(1, _), (2, _), (3, _), (12, _), (13, _), (14, _)]) ⟨rfl, rfl, rfl, rfl, rfl, rfl, trivial⟩ ?_
            refine q_thenK ?_
            refine ⟨m - 1, _, _, by omega, ?_, ?_, k + 1, by omega, by omega, ?_, rfl, rfl, rfl, rfl⟩
            · exact ⟨rfl, rfl, rfl, rfl, rfl, rfl, trivial⟩
            · refine ⟨?_, trivial⟩
              rw [rowsN_succ]
              rfl
            · intro x y h1 h2
              by_cases e : y = k
              · subst e; exact hno x (by omega) (by omega)
              · exact hdist x y h1 (by omega)

theorem runI_fn (p : Int) (hp : 0 ≤ p ∧ p ≤ 16) (most : Int) (u : View) :
    FnP Try.prog 19 [.int .i64 p, .func (.func 20) #[] #[], .int .i64 most] u
      fun v _ => if 1 ≤ most ∧ most ≤ 64 then ∃ k j e, Ends (itI p) most.toNat k j e ∧ v = setResI p k j e else v = .tuple #[.int .i64 0, .int .i64 0, .int .i64 0, .int .i64 2] := by
  refine FnP.intro [.tmp 6, .tmp 7, .tmp 8, .tmp 9] Try.func19 rfl rfl rfl ?_
  intro w0 hw0
  refine wc_seq ?_
  refine wc_region ?_
  refine rl_box rfl (cs := [_]) rfl rfl rfl rfl ?_
  refine rl_y (y_assign rfl rfl) rfl ?_
  refine rl_y (y_assign rfl rfl) rfl ?_
  refine rl_y (y_assign rfl rfl) rfl ?_
  refine rl_y (y_assign rfl rfl) rfl ?_
  refine rl_end (ρ' := [(0, _), (2, _), (4, _), (6, _)]) ⟨rfl, rfl, rfl, rfl, trivial⟩ ?_
  refine q_then ?_
  refine wc_seq ?_
  refine wc_seq ?_
  refine wc_cutB 19 (decide (most < 1) || decide (64 < most)) (ρk := [(0, _), (2, _), (4, _), (6, _)]) ⟨rfl, rfl, rfl, rfl, trivial⟩ ?_ ?_
  ·
    refine wc_region ?_
    refine rl_y (y_load_p rfl Try.k43 rfl rfl rfl (vs := [_]) rfl rfl rfl) rfl ?_
    refine rl_y (y_run (z := .bool false) fun a h w => by have h10 := h (.tmp 10) _ rfl; simp only [execOp, h10]; rw [Sem.run_bind]; erw [func_nil (P := Try.prog) (t := 43) (ps := #[3]) (rs := #[3]) (v := false) (by kernel_rfl)]; rfl) rfl ?_
    refine rl_y (y_move rfl rfl) rfl ?_
    refine rl_on rfl rfl ?_
    refine rl_y (y_move rfl rfl) rfl ?_
    refine rl_on rfl rfl ?_
    refine rl_y (y_lss rfl rfl rfl) rfl ?_
    refine rl_y (y_pick_f rfl rfl rfl) rfl ?_
    refine rl_y (y_move rfl rfl) rfl ?_
    rcases Bool.eq_false_or_eq_true (decide (most < 1)) with hg1_6 | hg1_6
    ·
      simp only [hg1_6]
      refine rl_off rfl rfl rfl rfl ?_
      refine rl_off rfl rfl rfl rfl ?_
      refine rl_y (y_pick_t rfl rfl rfl) rfl ?_
      exact cutB_end rfl ⟨rfl, rfl, rfl, rfl, trivial⟩ (by simp)
    ·
      simp only [hg1_6]
      refine rl_on rfl rfl ?_
      refine rl_y (y_move rfl rfl) rfl ?_
      refine rl_on rfl rfl ?_
      refine rl_y (y_gtr rfl rfl rfl) rfl ?_
      refine rl_y (y_pick_f rfl rfl rfl) rfl ?_
      exact cutB_end rfl ⟨rfl, rfl, rfl, rfl, trivial⟩ (by simp)
  refine q_then ?_
  refine wc_cond rfl (fun hb1 => ?_) (fun hb1 => ?_)
  ·
    have hno : ¬ (1 ≤ most ∧ most ≤ 64) := by simp at hb1; omega
    refine wc_seq ?_
    refine wc_region ?_
    refine rl_y (y_move rfl rfl) rfl ?_
    refine rl_y (y_assign rfl rfl) rfl ?_
    refine rl_y (y_assign rfl rfl) rfl ?_
    refine rl_y (y_assign rfl rfl) rfl ?_
    refine rl_y (y_assign rfl rfl) rfl ?_
    refine rl_end (ρ' := [(6, _), (7, _), (8, _), (9, _)]) ⟨rfl, rfl, rfl, rfl, trivial⟩ ?_
    refine q_then ?_
    refine wc_ret ?_
    refine q_then_ret ?_
    refine fin4 (.tmp rfl) (.tmp rfl) (.tmp rfl) (.tmp rfl) ?_
    rw [if_neg hno]
  ·
    have hyes : 1 ≤ most ∧ most ≤ 64 := by simp at hb1; omega
    refine wc_skip ?_
    refine q_then ?_
    refine wc_seq ?_
    refine wc_region ?_
    refine rl_y (y_move rfl rfl) rfl ?_
    refine rl_reveal 4 rfl ?_
    intro b T u2 hle hub
    obtain ⟨m, rfl⟩ : ∃ m : Nat, most = m := ⟨most.toNat, by omega⟩
    refine rl_y (y_makeFunc rfl rfl rfl) rfl ?_
    refine rl_y (y_move rfl rfl) rfl ?_
    refine rl_call_f (caps := []) rfl rfl Try.c28 rfl (FnP.mono (settleI_fn p hp m (by omega) (by omega) _ b T _ hub) ?_)
    rintro v u1 hle1 ⟨k, j, e, hE, rfl⟩
    refine rl_y (y_extract rfl rfl rfl) rfl ?_
    refine rl_y (y_extract rfl rfl rfl) rfl ?_
    refine rl_y (y_extract rfl rfl rfl) rfl ?_
    refine rl_y (y_extract rfl rfl rfl) rfl ?_
    refine rl_y (y_assign rfl rfl) rfl ?_
    refine rl_y (y_assign rfl rfl) rfl ?_
    refine rl_y (y_assign rfl rfl) rfl ?_
    refine rl_y (y_assign rfl rfl) rfl ?_
    refine rl_end (ρ' := [(6, _), (7, _), (8, _), (9, _)]) ⟨rfl, rfl, rfl, rfl, trivial⟩ ?_
    refine q_then ?_
    refine wc_ret ?_
    refine fin4 (.tmp rfl) (.tmp rfl) (.tmp rfl) (.tmp rfl) ?_
    rw [if_pos hyes]
    exact ⟨k, j, e, hE, rfl⟩
end Go.Proofs.Ytchmiljeidkkpaa
