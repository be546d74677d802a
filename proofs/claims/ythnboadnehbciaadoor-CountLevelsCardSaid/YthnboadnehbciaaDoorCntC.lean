/- Small documents: how heavy a line is. -/
import Derived.Test.YthnboadnehbciaaDoorCntB
namespace Go.Proofs.Ythnboadnehbciaa
open Go Go.Eng
set_option linter.unusedSimpArgs false
set_option linter.unusedVariables false
set_option maxRecDepth 4000

def NodeSm (t d ti : Bs) (a : DAttr) (args : List Bs) (cites : List DCite) : Prop :=
  t.length + d.length + ti.length ≤ 300 ∧ a.classes.length ≤ 40 ∧ a.pairs.length ≤ 40 ∧ longN a ≤ 600 ∧ args.length ≤ 9 ∧ cites.length ≤ 9 ∧ (∀ s ∈ args, s.length ≤ 50000) ∧ ∀ c ∈ cites, c.key.length + c.pre.length + c.suf.length ≤ 50000
mutual
def smI1 : Inl → Prop
  | .mk _ t d ti a args cites kids => NodeSm t d ti a args cites ∧ smI kids
def smI : List Inl → Prop
  | [] => True
  | x :: xs => smI1 x ∧ smI xs
end
theorem smI_append : ∀ {xs ys : List Inl}, smI xs → smI ys → smI (xs ++ ys)
  | [], ys, _, k => k
  | x :: xs, ys, h, k => by
    unfold smI at h
    rw [List.cons_append]
    unfold smI
    exact ⟨h.1, smI_append h.2 k⟩
theorem szI_append : ∀ (xs ys : List Inl), szI (xs ++ ys) = szI xs + szI ys
  | [], ys => by simp [szI]
  | x :: xs, ys => by
    rw [List.cons_append]
    simp only [szI, szI_append xs ys, Nat.add_assoc]
theorem szI_take {xs : List Inl} {i : Nat} {x : Inl} (h : xs[i]? = some x) : szI (xs.take (i + 1)) = szI (xs.take i) + sz1 x := by
  obtain ⟨hlt, rfl⟩ := List.getElem?_eq_some_iff.1 h
  rw [List.take_succ_eq_append_getElem hlt, szI_append]
  simp [szI]
theorem smI_take {xs : List Inl} {i : Nat} {x : Inl} (h : xs[i]? = some x) (h1 : smI (xs.take i)) (h2 : smI1 x) : smI (xs.take (i + 1)) := by
  obtain ⟨hlt, rfl⟩ := List.getElem?_eq_some_iff.1 h
  rw [List.take_succ_eq_append_getElem hlt]
  exact smI_append h1 (by unfold smI; exact ⟨h2, by unfold smI; trivial⟩)
theorem mem_take_succ {α : Type} {xs : List α} {i : Nat} {x y : α} (h : xs[i]? = some x) (hy : y ∈ xs.take (i + 1)) : y ∈ xs.take i ∨ y = x := by
  obtain ⟨hlt, rfl⟩ := List.getElem?_eq_some_iff.1 h
  rw [List.take_succ_eq_append_getElem hlt] at hy
  rcases List.mem_append.1 hy with h | h
  · exact .inl h
  · exact .inr (List.mem_singleton.1 h)

theorem weight_fn (fuel : Nat) : fuel ≤ 21 → ∀ (dp : Int) (v : Value) (xs : List Inl) (u : View), dp = 21 - fuel → xs.length ≤ 140737488351232 → InlS u v xs →
    FnP Tryd.prog 43 [v, .int .i64 dp] u fun r _ => ∃ n : Int, r = .int .i64 n ∧ 0 ≤ n ∧ n ≤ 1000 + fuel * 200000000000000 ∧ (n < 1000 → szI xs ≤ n ∧ smI xs) := by
  induction fuel using Nat.strongRecOn with
  | _ fuel ih =>
  intro hf dp v xs u hdp hx ha
  obtain ⟨cs, ⟨ad, cap, rfl, h1⟩, hc1⟩ := ha
  refine FnP.intro [.tmp 4] Tryd.func43 rfl rfl rfl ?_
  intro w0 D hw0
  refine wc_seq ?_
  refine wc_region ?_
  refine rl_y (y_assign rfl rfl) rfl ?_
  refine rl_end (ρ' := [(0, _), (1, _)]) ⟨rfl, rfl, trivial⟩ ?_
  refine q_then ?_
  refine wc_seq ?_
  refine wc_region ?_
  refine rl_y (y_move rfl rfl) rfl ?_
  refine rl_y (y_len_v rfl rfl Tryd.s36 rfl) rfl ?_
  refine rl_y (y_assign rfl rfl) rfl ?_
  refine rl_end (ρ' := [(0, _), (1, _), (5, _)]) ⟨rfl, rfl, rfl, trivial⟩ ?_
  refine q_then ?_
  refine wc_seq ?_
  refine wc_seq ?_
  refine wc_cutB 18 (decide (20 < dp ∨ 200 < xs.length)) (ρk := [(0, _), (1, _), (5, _)]) ⟨rfl, rfl, rfl, trivial⟩ ?_ ?_
  ·
    refine wc_region ?_
    refine rl_y (y_move rfl rfl) rfl ?_
    refine rl_y (y_gtr rfl rfl rfl) rfl ?_
    refine rl_y (y_move rfl rfl) rfl ?_
    rcases Bool.eq_false_or_eq_true (decide ((20 : Int) < dp)) with hg2_2 | hg2_2
    ·
      simp only [hg2_2]
      refine rl_off rfl rfl rfl rfl ?_
      refine rl_off rfl rfl rfl rfl ?_
      refine rl_y (y_pick_t rfl rfl rfl) rfl ?_
      exact cutB_end rfl ⟨rfl, rfl, rfl, trivial⟩ (by (first | refine (decide_eq_true ?_).symm | refine (decide_eq_false ?_).symm | refine decide_eq_decide.2 ?_ | refine decide_eq_true ?_ | refine decide_eq_false ?_) <;> (try unfold longN) <;> (try simp only [decide_eq_true_eq, decide_eq_false_iff_not] at *) <;> omega)
    ·
      simp only [hg2_2]
      refine rl_on rfl rfl ?_
      refine rl_y (y_move rfl rfl) rfl ?_
      refine rl_on rfl rfl ?_
      refine rl_y (y_gtr rfl rfl rfl) rfl ?_
      refine rl_y (y_pick_f rfl rfl rfl) rfl ?_
      exact cutB_end rfl ⟨rfl, rfl, rfl, trivial⟩ (by (first | refine (decide_eq_true ?_).symm | refine (decide_eq_false ?_).symm | refine decide_eq_decide.2 ?_ | refine decide_eq_true ?_ | refine decide_eq_false ?_) <;> (try unfold longN) <;> (try simp only [decide_eq_true_eq, decide_eq_false_iff_not] at *) <;> omega)
  refine q_then ?_
  refine wc_cond rfl (fun hb2 => ?_) (fun hb2 => ?_)
  ·
    refine wc_seq ?_
    refine wc_region ?_
    refine rl_y (y_assign rfl rfl) rfl ?_
    refine rl_end (ρ' := [(4, _)]) ⟨rfl, trivial⟩ ?_
    refine q_then ?_
    refine wc_ret ?_
    refine q_then_ret ?_
    refine fin1 (.tmp rfl) ?_
    exact ⟨1000, rfl, by omega, by omega, fun h => absurd h (by omega)⟩
  ·
    refine wc_skip ?_
    refine q_then ?_
    refine wc_seq ?_
    refine wc_seq ?_
    refine wc_region ?_
    refine rl_y (y_assign rfl rfl) rfl ?_
    refine rl_end (ρ' := [(0, _), (1, _), (5, _), (6, _)]) ⟨rfl, rfl, rfl, rfl, trivial⟩ ?_
    refine q_then ?_
    refine wc_block ?_
    refine wc_loop (fun m ρ σ u' => ∃ i : Nat, i + m = xs.length ∧ VLe u u' ∧ ∃ (n : Int), σ = [] ∧ ρ = [(0, .v (.slice ad xs.length cap)), (1, .v (.int .i64 dp)), (5, .v (.int .i64 n)), (6, .v (.int .i64 i))] ∧ (u = u' ∧ 0 ≤ n ∧ n ≤ 1000 + fuel * 200000000000000 ∧ (n < 1000 → xs.length + szI (xs.take i) ≤ n + i ∧ smI (xs.take i)))) (xs.length) ?_ ?_
    ·
      refine ⟨[(0, _), (1, _), (5, _), (6, _)], [], ⟨rfl, rfl, rfl, rfl, trivial⟩, trivial, 0, by omega, VLe.refl _, _, (by first | rfl | simp), (by first | rfl | (simp only [List.cons.injEq, Prod.mk.injEq, SV.v.injEq, Value.int.injEq, true_and, and_true]; omega) | simp), ?_⟩
      have := of_decide_eq_false hb2; exact ⟨rfl, by omega, by omega, fun _ => ⟨by simp [szI], by simp [smI]⟩⟩
    ·
      rintro m ρ σ u' ⟨i, hi5, hle5, n, rfl, rfl, ⟨rfl, hn0, hnb, hinv⟩⟩
      refine wc_seq ?_
      refine wc_seq ?_
      refine wc_cutB 26 (decide (i < xs.length ∧ n < 1000)) (ρk := [(0, _), (1, _), (5, _), (6, _)]) ⟨rfl, rfl, rfl, rfl, trivial⟩ ?_ ?_
      ·
        refine wc_region ?_
        refine rl_y (y_move rfl rfl) rfl ?_
        refine rl_y (y_move rfl rfl) rfl ?_
        refine rl_y (y_len_v rfl rfl Tryd.s36 rfl) rfl ?_
        refine rl_y (y_lss rfl rfl rfl) rfl ?_
        refine rl_y (y_move rfl rfl) rfl ?_
        rcases Bool.eq_false_or_eq_true (decide ((i : Int) < xs.length)) with hg5_4 | hg5_4
        ·
          simp only [hg5_4]
          refine rl_on rfl rfl ?_
          refine rl_y (y_move rfl rfl) rfl ?_
          refine rl_on rfl rfl ?_
          refine rl_y (y_lss rfl rfl rfl) rfl ?_
          refine rl_y (y_pick_t rfl rfl rfl) rfl ?_
          exact cutB_end rfl ⟨rfl, rfl, rfl, rfl, trivial⟩ (by (first | refine (decide_eq_true ?_).symm | refine (decide_eq_false ?_).symm | refine decide_eq_decide.2 ?_ | refine decide_eq_true ?_ | refine decide_eq_false ?_) <;> (try unfold longN) <;> (try simp only [decide_eq_true_eq, decide_eq_false_iff_not] at *) <;> omega)
        ·
          simp only [hg5_4]
          refine rl_off rfl rfl rfl rfl ?_
          refine rl_off rfl rfl rfl rfl ?_
          refine rl_y (y_pick_f rfl rfl rfl) rfl ?_
          exact cutB_end rfl ⟨rfl, rfl, rfl, rfl, trivial⟩ (by (first | refine (decide_eq_true ?_).symm | refine (decide_eq_false ?_).symm | refine decide_eq_decide.2 ?_ | refine decide_eq_true ?_ | refine decide_eq_false ?_) <;> (try unfold longN) <;> (try simp only [decide_eq_true_eq, decide_eq_false_iff_not] at *) <;> omega)
      refine q_then ?_
      refine wc_cond rfl (fun hb5 => ?_) (fun hb5 => ?_)
      ·
        refine wc_skip ?_
        refine q_then ?_
        refine wc_seq ?_
        refine wc_block ?_
        refine wc_seq ?_
        have hb := of_decide_eq_true hb5
        have hb2 := of_decide_eq_false hb2
        have hlt : i < xs.length := hb.1
        obtain ⟨k, t, d, ti, a, args, cites, kids, vc, vp, va, vt, vk, hg, hcut1, s1, s2, s3, s4, s5, hok⟩ := hc1.at hlt
        have oneAll := (hc1.get i _ hg).one
        rw [hcut1] at oneAll
        obtain ⟨okk0, okt, okd, okti, oka, ⟨okargs, okargs2⟩, ⟨okcites, okcites2⟩, okk⟩ := hok
        obtain ⟨adt, capt, rfl, h4⟩ := s4
        obtain ⟨ada, capa, rfl, h3⟩ := s3
        obtain ⟨hinv1, hinv2⟩ := hinv hb.2
        have hsz := szI_take hg
        have hln := len_szI xs
        refine wc_region ?_
        refine rl_y (y_move rfl rfl) rfl ?_
        refine rl_y (y_move rfl rfl) rfl ?_
        refine rl_y (y_index_e rfl Tryd.s36 rfl rfl (by assumption) (by first | rfl | omega) (by omega)) rfl ?_
        refine rl_y (y_load_el rfl Tryd.k57 rfl (by assumption) (by omega) (by assumption) (vs := [_, _, _, _, _, _, _, _, _, _]) rfl rfl rfl rfl) rfl ?_
        refine rl_do rfl rfl ?_
        refine do_alloc trivial Tryd.z57 rfl rfl rfl ?_
        refine rl_do rfl rfl ?_
        refine do_store_p trivial rfl Tryd.k57 rfl rfl rfl (vs := [_, _, _, _, _, _, _, _, _, _]) rfl rfl (by first | rfl | exact oneAll | exact oneAll2 | simp [Value.oneCell', str]) (Nat.le_of_ble_eq_true rfl) rfl ?_
        refine rl_end (ρ' := [(0, _), (1, _), (5, _), (6, _), (7, _)]) ⟨rfl, rfl, rfl, rfl, rfl, trivial⟩ ?_
        refine q_then ?_
        refine wc_seq ?_
        refine wc_seq ?_
        refine wc_cutB 61 (decide (300 < t.length + d.length + ti.length ∨ (40 < a.classes.length ∨ 40 < a.pairs.length ∨ 600 < longN a) ∨ 9 < args.length ∨ 9 < cites.length)) (ρk := [(0, _), (1, _), (5, _), (6, _), (7, _)]) ⟨rfl, rfl, rfl, rfl, rfl, trivial⟩ ?_ ?_
        ·
          refine wc_region ?_
          refine rl_y (y_field_p rfl Tryd.f57' rfl (by decide) rfl) rfl ?_
          refine rl_y (y_load_p rfl Tryd.k9 rfl rfl rfl (vs := [_]) rfl rfl rfl) rfl ?_
          refine rl_y (y_len_str rfl rfl Tryd.str9 rfl) rfl ?_
          refine rl_y (y_field_p rfl Tryd.f57' rfl (by decide) rfl) rfl ?_
          refine rl_y (y_load_p rfl Tryd.k9 rfl rfl rfl (vs := [_]) rfl rfl rfl) rfl ?_
          refine rl_y (y_len_str rfl rfl Tryd.str9 rfl) rfl ?_
          refine rl_y (y_add rfl rfl rfl (wrap64_id (by omega))) rfl ?_
          refine rl_y (y_field_p rfl Tryd.f57' rfl (by decide) rfl) rfl ?_
          refine rl_y (y_load_p rfl Tryd.k9 rfl rfl rfl (vs := [_]) rfl rfl rfl) rfl ?_
          refine rl_y (y_len_str rfl rfl Tryd.str9 rfl) rfl ?_
          refine rl_y (y_add rfl rfl rfl (wrap64_id (by omega))) rfl ?_
          refine rl_y (y_gtr rfl rfl rfl) rfl ?_
          refine rl_y (y_move rfl rfl) rfl ?_
          rcases Bool.eq_false_or_eq_true (decide ((300 : Int) < (t.length : Int) + d.length + ti.length)) with hg8_12 | hg8_12
          ·
            simp only [hg8_12]
            refine rl_off rfl rfl rfl rfl ?_
            refine rl_off rfl rfl rfl rfl ?_
            refine rl_off rfl rfl rfl rfl ?_
            refine rl_y (y_pick_t rfl rfl rfl) rfl ?_
            refine rl_y (y_move rfl rfl) rfl ?_
            refine rl_off rfl rfl rfl rfl ?_
            refine rl_off rfl rfl rfl rfl ?_
            refine rl_off rfl rfl rfl rfl ?_
            refine rl_off rfl rfl rfl rfl ?_
            refine rl_y (y_pick_t rfl rfl rfl) rfl ?_
            refine rl_y (y_move rfl rfl) rfl ?_
            refine rl_off rfl rfl rfl rfl ?_
            refine rl_off rfl rfl rfl rfl ?_
            refine rl_off rfl rfl rfl rfl ?_
            refine rl_off rfl rfl rfl rfl ?_
            refine rl_y (y_pick_t rfl rfl rfl) rfl ?_
            exact cutB_end rfl ⟨rfl, rfl, rfl, rfl, rfl, trivial⟩ (by (first | refine (decide_eq_true ?_).symm | refine (decide_eq_false ?_).symm | refine decide_eq_decide.2 ?_ | refine decide_eq_true ?_ | refine decide_eq_false ?_) <;> (try unfold NodeSm) <;> (try simp only [decide_eq_true_eq, decide_eq_false_iff_not] at *) <;> omega)
          ·
            simp only [hg8_12]
            refine rl_on rfl rfl ?_
            refine rl_y (y_field_p rfl Tryd.f57' rfl (by decide) rfl) rfl ?_
            refine rl_on rfl rfl ?_
            refine rl_y (y_load_p rfl Tryd.k40 rfl rfl rfl (vs := [_, _, _]) rfl rfl rfl) rfl ?_
            refine rl_on rfl rfl ?_
            refine rl_do rfl rfl ?_
            refine do_call_f (caps := []) trivial rfl rfl Tryd.c42 rfl (FnP.mono (long_fn a _ _ u oka s1 s2) ?_)
            rintro v u1 hle1 rfl
            refine rl_y (y_pick_f rfl rfl rfl) rfl ?_
            refine rl_y (y_move rfl rfl) rfl ?_
            rcases Bool.eq_false_or_eq_true (decide (40 < a.classes.length ∨ 40 < a.pairs.length ∨ 600 < longN a)) with hg8_17 | hg8_17
            ·
              simp only [hg8_17]
              refine rl_off rfl rfl rfl rfl ?_
              refine rl_off rfl rfl rfl rfl ?_
              refine rl_off rfl rfl rfl rfl ?_
              refine rl_off rfl rfl rfl rfl ?_
              refine rl_y (y_pick_t rfl rfl rfl) rfl ?_
              refine rl_y (y_move rfl rfl) rfl ?_
              refine rl_off rfl rfl rfl rfl ?_
              refine rl_off rfl rfl rfl rfl ?_
              refine rl_off rfl rfl rfl rfl ?_
              refine rl_off rfl rfl rfl rfl ?_
              refine rl_y (y_pick_t rfl rfl rfl) rfl ?_
              exact cutB_end rfl ⟨rfl, rfl, rfl, rfl, rfl, trivial⟩ (by (first | refine (decide_eq_true ?_).symm | refine (decide_eq_false ?_).symm | refine decide_eq_decide.2 ?_ | refine decide_eq_true ?_ | refine decide_eq_false ?_) <;> (try unfold NodeSm) <;> (try simp only [decide_eq_true_eq, decide_eq_false_iff_not] at *) <;> omega)
            ·
              simp only [hg8_17]
              refine rl_on rfl rfl ?_
              refine rl_y (y_field_p rfl Tryd.f57' rfl (by decide) rfl) rfl ?_
              refine rl_on rfl rfl ?_
              refine rl_y (y_load_p rfl Tryd.k32 rfl rfl rfl (vs := [_]) rfl rfl rfl) rfl ?_
              refine rl_on rfl rfl ?_
              refine rl_y (y_len_v rfl rfl Tryd.s32 rfl) rfl ?_
              refine rl_on rfl rfl ?_
              refine rl_y (y_gtr rfl rfl rfl) rfl ?_
              refine rl_y (y_pick_f rfl rfl rfl) rfl ?_
              refine rl_y (y_move rfl rfl) rfl ?_
              rcases Bool.eq_false_or_eq_true (decide ((9 : Int) < args.length)) with hg8_23 | hg8_23
              ·
                simp only [hg8_23]
                refine rl_off rfl rfl rfl rfl ?_
                refine rl_off rfl rfl rfl rfl ?_
                refine rl_off rfl rfl rfl rfl ?_
                refine rl_off rfl rfl rfl rfl ?_
                refine rl_y (y_pick_t rfl rfl rfl) rfl ?_
                exact cutB_end rfl ⟨rfl, rfl, rfl, rfl, rfl, trivial⟩ (by (first | refine (decide_eq_true ?_).symm | refine (decide_eq_false ?_).symm | refine decide_eq_decide.2 ?_ | refine decide_eq_true ?_ | refine decide_eq_false ?_) <;> (try unfold NodeSm) <;> (try simp only [decide_eq_true_eq, decide_eq_false_iff_not] at *) <;> omega)
              ·
                simp only [hg8_23]
                refine rl_on rfl rfl ?_
                refine rl_y (y_field_p rfl Tryd.f57' rfl (by decide) rfl) rfl ?_
                refine rl_on rfl rfl ?_
                refine rl_y (y_load_p rfl Tryd.k55 rfl rfl rfl (vs := [_]) rfl rfl rfl) rfl ?_
                refine rl_on rfl rfl ?_
                refine rl_y (y_len_v rfl rfl Tryd.s55 rfl) rfl ?_
                refine rl_on rfl rfl ?_
                refine rl_y (y_gtr rfl rfl rfl) rfl ?_
                refine rl_y (y_pick_f rfl rfl rfl) rfl ?_
                exact cutB_end rfl ⟨rfl, rfl, rfl, rfl, rfl, trivial⟩ (by (first | refine (decide_eq_true ?_).symm | refine (decide_eq_false ?_).symm | refine decide_eq_decide.2 ?_ | refine decide_eq_true ?_ | refine decide_eq_false ?_) <;> (try unfold NodeSm) <;> (try simp only [decide_eq_true_eq, decide_eq_false_iff_not] at *) <;> omega)
        refine q_then ?_
        refine wc_cond rfl (fun hb8 => ?_) (fun hb8 => ?_)
        ·
          refine wc_seq ?_
          refine wc_region ?_
          refine rl_y (y_assign rfl rfl) rfl ?_
          refine rl_end (ρ' := [(4, _)]) ⟨rfl, trivial⟩ ?_
          refine q_then ?_
          refine wc_ret ?_
          refine q_then_ret ?_
          refine q_block_ret ?_
          refine q_then_ret ?_
          refine q_then_ret ?_
          refine q_block_ret ?_
          refine q_then_ret ?_
          refine fin1 (.tmp rfl) ?_
          exact ⟨1000, rfl, by omega, by omega, fun h => absurd h (by omega)⟩
        ·
          refine wc_skip ?_
          refine q_then ?_
          refine wc_seq ?_
          refine wc_seq ?_
          refine wc_region ?_
          refine rl_y (y_assign rfl rfl) rfl ?_
          refine rl_end (ρ' := [(0, _), (1, _), (5, _), (6, _), (7, _), (8, _)]) ⟨rfl, rfl, rfl, rfl, rfl, rfl, trivial⟩ ?_
          refine q_then ?_
          refine wc_block ?_
          refine wc_loop (fun m ρ σ u' => ∃ j : Nat, j + m = args.length ∧ VLe u u' ∧ ∃ (n2 : Int), σ = [(7, (none, .box (inlV k t d ti a.id vc vp (.slice ada args.length capa) (.slice adt cites.length capt) vk)))] ∧ ρ = [(0, .v (.slice ad xs.length cap)), (1, .v (.int .i64 dp)), (5, .v (.int .i64 n2)), (6, .v (.int .i64 i)), (7, .p 7 0), (8, .v (.int .i64 j))] ∧ (u = u' ∧ n ≤ n2 ∧ n2 ≤ n + j * 3518437208781 ∧ (n2 < 1000 → ∀ s ∈ args.take j, s.length ≤ 50000))) (args.length) ?_ ?_
          ·
            refine ⟨[(0, _), (1, _), (5, _), (6, _), (7, _), (8, _)], [(7, _)], ⟨rfl, rfl, rfl, rfl, rfl, rfl, trivial⟩, ⟨rfl, trivial⟩, 0, by omega, VLe.refl _, n, (by first | rfl | simp), (by first | rfl | (simp only [List.cons.injEq, Prod.mk.injEq, SV.v.injEq, Value.int.injEq, true_and, and_true]; omega) | simp), ?_⟩
            exact ⟨rfl, by omega, by omega, fun _ s hs => by simp at hs⟩
          ·
            rintro mj ρ σ u' ⟨j, hi11, hle11, n2, rfl, rfl, ⟨rfl, hn1, hn2, hq2⟩⟩
            refine wc_seq ?_
            refine wc_seq ?_
            refine wc_region ?_
            refine rl_y (y_move rfl rfl) rfl ?_
            refine rl_y (y_field_p rfl Tryd.f57' rfl (by decide) rfl) rfl ?_
            refine rl_y (y_load_p rfl Tryd.k32 rfl rfl rfl (vs := [_]) rfl rfl rfl) rfl ?_
            refine rl_y (y_len_v rfl rfl Tryd.s32 rfl) rfl ?_
            refine rl_y (y_lss rfl rfl rfl) rfl ?_
            refine rl_end (ρ' := [(0, _), (1, _), (5, _), (6, _), (7, _), (8, _), (66, _)]) ⟨rfl, rfl, rfl, rfl, rfl, rfl, rfl, trivial⟩ ?_
            refine q_then ?_
            refine wc_cond rfl (fun hb11 => ?_) (fun hb11 => ?_)
            ·
              refine wc_skip ?_
              refine q_then ?_
              refine wc_seq ?_
              refine wc_block ?_
              have hlt2 : j < args.length := by have := of_decide_eq_true hb11; omega
              have hga := List.getElem?_eq_getElem hlt2
              have hcc := cut_strsC hga
              have hsl := okargs2 _ (List.mem_of_getElem? hga)
              have h8 := of_decide_eq_false hb8
              refine wc_region ?_
              refine rl_y (y_move rfl rfl) rfl ?_
              refine rl_y (y_field_p rfl Tryd.f57' rfl (by decide) rfl) rfl ?_
              refine rl_y (y_load_p rfl Tryd.k32 rfl rfl rfl (vs := [_]) rfl rfl rfl) rfl ?_
              refine rl_y (y_move rfl rfl) rfl ?_
              refine rl_y (y_index_e rfl Tryd.s32 rfl rfl (by assumption) (by first | rfl | omega) (by omega)) rfl ?_
              refine rl_y (y_load_el rfl Tryd.k9 rfl (by assumption) (by omega) (by assumption) (vs := [_]) rfl rfl rfl rfl) rfl ?_
              refine rl_y (y_len_str rfl rfl Tryd.str9 rfl) rfl ?_
              refine rl_y (y_quoE rfl rfl rfl (by omega) (by omega) (by omega)) rfl ?_
              refine rl_y (y_add rfl rfl rfl (wrap64_id (by omega))) rfl ?_
              refine rl_y (y_assign rfl rfl) rfl ?_
              refine rl_end (ρ' := [(0, _), (1, _), (5, _), (6, _), (7, _), (8, _)]) ⟨rfl, rfl, rfl, rfl, rfl, rfl, trivial⟩ ?_
              refine q_block ?_
              refine q_then ?_
              refine wc_region ?_
              refine rl_y (y_move rfl rfl) rfl ?_
              refine rl_y (y_add rfl rfl rfl (wrap64_id (by omega))) rfl ?_
              refine rl_y (y_assign rfl rfl) rfl ?_
              refine rl_end (ρ' := [(0, _), (1, _), (5, _), (6, _), (7, _), (8, _)]) ⟨rfl, rfl, rfl, rfl, rfl, rfl, trivial⟩ ?_
              refine q_thenK ?_
              refine ⟨mj - 1, [(0, _), (1, _), (5, _), (6, _), (7, _), (8, _)], [(7, _)], by omega, ⟨rfl, rfl, rfl, rfl, rfl, rfl, trivial⟩, ⟨rfl, trivial⟩, j + 1, by omega, hle11, _, (by first | rfl | simp), (by first | rfl | (simp only [List.cons.injEq, Prod.mk.injEq, SV.v.injEq, Value.int.injEq, true_and, and_true]; omega) | simp), ?_⟩
              refine ⟨rfl, by omega, by omega, fun h s hs => ?_⟩; rcases mem_take_succ hga hs with hs | rfl; exact hq2 (by omega) s hs; omega
            ·
              refine wc_exit ?_
              refine q_then_exit ?_
              refine q_then_exit ?_
              refine q_block_hit ?_
              refine q_then ?_
              refine wc_seq ?_
              refine wc_seq ?_
              refine wc_region ?_
              refine rl_y (y_assign rfl rfl) rfl ?_
              refine rl_end (ρ' := [(0, _), (1, _), (5, _), (6, _), (7, _), (9, _)]) ⟨rfl, rfl, rfl, rfl, rfl, rfl, trivial⟩ ?_
              refine q_then ?_
              refine wc_block ?_
              refine wc_loop (fun m ρ σ u' => ∃ j : Nat, j + m = cites.length ∧ VLe u u' ∧ ∃ (n3 : Int), σ = [(7, (none, .box (inlV k t d ti a.id vc vp (.slice ada args.length capa) (.slice adt cites.length capt) vk)))] ∧ ρ = [(0, .v (.slice ad xs.length cap)), (1, .v (.int .i64 dp)), (5, .v (.int .i64 n3)), (6, .v (.int .i64 i)), (7, .p 7 0), (9, .v (.int .i64 j))] ∧ (u = u' ∧ n2 ≤ n3 ∧ n3 ≤ n2 + j * 10555311626345 ∧ (n3 < 1000 → ∀ c ∈ cites.take j, c.key.length + c.pre.length + c.suf.length ≤ 50000))) (cites.length) ?_ ?_
              ·
                refine ⟨[(0, _), (1, _), (5, _), (6, _), (7, _), (9, _)], [(7, _)], ⟨rfl, rfl, rfl, rfl, rfl, rfl, trivial⟩, ⟨rfl, trivial⟩, 0, by omega, VLe.refl _, n2, (by first | rfl | simp), (by first | rfl | (simp only [List.cons.injEq, Prod.mk.injEq, SV.v.injEq, Value.int.injEq, true_and, and_true]; omega) | simp), ?_⟩
                exact ⟨rfl, by omega, by omega, fun _ s hs => by simp at hs⟩
              ·
                rintro mj ρ σ u' ⟨j, hi15, hle15, n3, rfl, rfl, ⟨rfl, hn3, hn4, hq3⟩⟩
                refine wc_seq ?_
                refine wc_seq ?_
                refine wc_region ?_
                refine rl_y (y_move rfl rfl) rfl ?_
                refine rl_y (y_field_p rfl Tryd.f57' rfl (by decide) rfl) rfl ?_
                refine rl_y (y_load_p rfl Tryd.k55 rfl rfl rfl (vs := [_]) rfl rfl rfl) rfl ?_
                refine rl_y (y_len_v rfl rfl Tryd.s55 rfl) rfl ?_
                refine rl_y (y_lss rfl rfl rfl) rfl ?_
                refine rl_end (ρ' := [(0, _), (1, _), (5, _), (6, _), (7, _), (9, _), (82, _)]) ⟨rfl, rfl, rfl, rfl, rfl, rfl, rfl, trivial⟩ ?_
                refine q_then ?_
                refine wc_cond rfl (fun hb15 => ?_) (fun hb15 => ?_)
                ·
                  refine wc_skip ?_
                  refine q_then ?_
                  refine wc_seq ?_
                  refine wc_block ?_
                  refine wc_seq ?_
                  have hlt3 : j < cites.length := by have := of_decide_eq_true hb15; omega
                  have hgc := List.getElem?_eq_getElem hlt3
                  have hcc := cut_citesC hgc
                  have hsl := okcites2 _ (List.mem_of_getElem? hgc)
                  have h8 := of_decide_eq_false hb8
                  have h11 := of_decide_eq_false hb11
                  refine wc_region ?_
                  refine rl_y (y_field_p rfl Tryd.f57' rfl (by decide) rfl) rfl ?_
                  refine rl_y (y_load_p rfl Tryd.k55 rfl rfl rfl (vs := [_]) rfl rfl rfl) rfl ?_
                  refine rl_y (y_move rfl rfl) rfl ?_
                  refine rl_y (y_index_e rfl Tryd.s55 rfl rfl (by assumption) (by first | rfl | omega) (by omega)) rfl ?_
                  refine rl_y (y_load_el rfl Tryd.k84 rfl (by assumption) (by omega) (by assumption) (vs := [_, _, _, _]) rfl rfl rfl rfl) rfl ?_
                  refine rl_do rfl rfl ?_
                  refine do_alloc trivial Tryd.z84 rfl rfl rfl ?_
                  refine rl_do rfl rfl ?_
                  refine do_store_p trivial rfl Tryd.k84 rfl rfl rfl (vs := [_, _, _, _]) rfl rfl (by first | rfl | exact oneAll | exact oneAll2 | simp [Value.oneCell', str]) (Nat.le_of_ble_eq_true rfl) rfl ?_
                  refine rl_end (ρ' := [(0, _), (1, _), (5, _), (6, _), (7, _), (9, _), (10, _)]) ⟨rfl, rfl, rfl, rfl, rfl, rfl, rfl, trivial⟩ ?_
                  refine q_then ?_
                  refine wc_region ?_
                  refine rl_y (y_move rfl rfl) rfl ?_
                  refine rl_y (y_field_p rfl Tryd.f84' rfl (by decide) rfl) rfl ?_
                  refine rl_y (y_load_p rfl Tryd.k9 rfl rfl rfl (vs := [_]) rfl rfl rfl) rfl ?_
                  refine rl_y (y_len_str rfl rfl Tryd.str9 rfl) rfl ?_
                  refine rl_y (y_field_p rfl Tryd.f84' rfl (by decide) rfl) rfl ?_
                  refine rl_y (y_load_p rfl Tryd.k9 rfl rfl rfl (vs := [_]) rfl rfl rfl) rfl ?_
                  refine rl_y (y_len_str rfl rfl Tryd.str9 rfl) rfl ?_
                  refine rl_y (y_add rfl rfl rfl (wrap64_id (by omega))) rfl ?_
                  refine rl_y (y_field_p rfl Tryd.f84' rfl (by decide) rfl) rfl ?_
                  refine rl_y (y_load_p rfl Tryd.k9 rfl rfl rfl (vs := [_]) rfl rfl rfl) rfl ?_
                  refine rl_y (y_len_str rfl rfl Tryd.str9 rfl) rfl ?_
                  refine rl_y (y_add rfl rfl rfl (wrap64_id (by omega))) rfl ?_
                  refine rl_y (y_quoE rfl rfl rfl (by omega) (by omega) (by omega)) rfl ?_
                  refine rl_y (y_add rfl rfl rfl (wrap64_id (by omega))) rfl ?_
                  refine rl_y (y_assign rfl rfl) rfl ?_
                  refine rl_end (ρ' := [(0, _), (1, _), (5, _), (6, _), (7, _), (9, _)]) ⟨rfl, rfl, rfl, rfl, rfl, rfl, trivial⟩ ?_
                  refine q_block ?_
                  refine q_then ?_
                  refine wc_region ?_
                  refine rl_y (y_move rfl rfl) rfl ?_
                  refine rl_y (y_add rfl rfl rfl (wrap64_id (by omega))) rfl ?_
                  refine rl_y (y_assign rfl rfl) rfl ?_
                  refine rl_end (ρ' := [(0, _), (1, _), (5, _), (6, _), (7, _), (9, _)]) ⟨rfl, rfl, rfl, rfl, rfl, rfl, trivial⟩ ?_
                  refine q_thenK ?_
                  refine ⟨mj - 1, [(0, _), (1, _), (5, _), (6, _), (7, _), (9, _)], [(7, _)], by omega, ⟨rfl, rfl, rfl, rfl, rfl, rfl, trivial⟩, ⟨rfl, trivial⟩, j + 1, by omega, hle15, _, (by first | rfl | simp), (by first | rfl | (simp only [List.cons.injEq, Prod.mk.injEq, SV.v.injEq, Value.int.injEq, true_and, and_true]; omega) | simp), ?_⟩
                  refine ⟨rfl, by omega, by omega, fun h s hs => ?_⟩; rcases mem_take_succ hgc hs with hs | rfl; exact hq3 (by omega) s hs; omega
                ·
                  refine wc_exit ?_
                  refine q_then_exit ?_
                  refine q_then_exit ?_
                  refine q_block_hit ?_
                  refine q_then ?_
                  have h8 := of_decide_eq_false hb8
                  have h11 := of_decide_eq_false hb11
                  have h15 := of_decide_eq_false hb15
                  rw [List.take_of_length_le (by omega)] at hq2 hq3
                  refine wc_region ?_
                  refine rl_y (y_move rfl rfl) rfl ?_
                  refine rl_y (y_field_p rfl Tryd.f57' rfl (by decide) rfl) rfl ?_
                  refine rl_y (y_load_p rfl Tryd.k36 rfl rfl rfl (vs := [_]) rfl rfl rfl) rfl ?_
                  refine rl_y (y_move rfl rfl) rfl ?_
                  refine rl_y (y_add rfl rfl rfl (wrap64_id (by omega))) rfl ?_
                  refine rl_do rfl rfl ?_
                  refine do_call_f (caps := []) trivial rfl rfl Tryd.c43 rfl (FnP.mono (ih (fuel - 1) (by omega) (by omega) (dp + 1) vk kids u (by omega) okk s5) ?_)
                  rintro v u1 hle1 ⟨n4, rfl, hn40, hn4b, hn4q⟩
                  refine rl_y (y_add rfl rfl rfl (wrap64_id (by omega))) rfl ?_
                  refine rl_y (y_assign rfl rfl) rfl ?_
                  refine rl_end (ρ' := [(0, _), (1, _), (5, _), (6, _)]) ⟨rfl, rfl, rfl, rfl, trivial⟩ ?_
                  refine q_block ?_
                  refine q_then ?_
                  refine wc_region ?_
                  refine rl_y (y_move rfl rfl) rfl ?_
                  refine rl_y (y_add rfl rfl rfl (wrap64_id (by omega))) rfl ?_
                  refine rl_y (y_assign rfl rfl) rfl ?_
                  refine rl_end (ρ' := [(0, _), (1, _), (5, _), (6, _)]) ⟨rfl, rfl, rfl, rfl, trivial⟩ ?_
                  refine q_thenK ?_
                  refine ⟨m - 1, [(0, _), (1, _), (5, _), (6, _)], [], by omega, ⟨rfl, rfl, rfl, rfl, trivial⟩, trivial, i + 1, by omega, hle5, _, (by first | rfl | simp), (by first | rfl | (simp only [List.cons.injEq, Prod.mk.injEq, SV.v.injEq, Value.int.injEq, true_and, and_true]; omega) | simp), ?_⟩
                  refine ⟨rfl, by omega, by omega, fun h => ?_⟩
                  obtain ⟨q1, q2⟩ := hn4q (by omega)
                  refine ⟨by simp only [sz1] at hsz; omega, smI_take hg hinv2 ?_⟩
                  unfold smI1 NodeSm
                  exact ⟨⟨by omega, by omega, by omega, by omega, by omega, by omega, hq2 (by omega), hq3 (by omega)⟩, q2⟩
      ·
        refine wc_exit ?_
        refine q_then_exit ?_
        refine q_then_exit ?_
        refine q_block_hit ?_
        refine q_then ?_
        refine wc_seq ?_
        refine wc_region ?_
        refine rl_y (y_move rfl rfl) rfl ?_
        refine rl_y (y_assign rfl rfl) rfl ?_
        refine rl_end (ρ' := [(4, _)]) ⟨rfl, trivial⟩ ?_
        refine q_then ?_
        refine wc_ret ?_
        refine fin1 (.tmp rfl) ?_
        have hge := of_decide_eq_false hb5
        refine ⟨n, rfl, hn0, hnb, fun h => ?_⟩
        obtain ⟨q1, q2⟩ := hinv h
        rw [List.take_of_length_le (by omega)] at q1 q2
        exact ⟨by omega, q2⟩

mutual
def smB1 : Blk → Prop
  | .mk _ _ inf t d ti a line kids => inf.length + t.length + d.length + ti.length ≤ 300 ∧ a.classes.length ≤ 40 ∧ a.pairs.length ≤ 40 ∧ longN a ≤ 600 ∧ smI line ∧ smB kids
def smB : List Blk → Prop
  | [] => True
  | x :: xs => smB1 x ∧ smB xs
end
theorem smB_append : ∀ {xs ys : List Blk}, smB xs → smB ys → smB (xs ++ ys)
  | [], ys, _, k => k
  | x :: xs, ys, h, k => by
    unfold smB at h
    rw [List.cons_append]
    unfold smB
    exact ⟨h.1, smB_append h.2 k⟩
theorem szB_append : ∀ (xs ys : List Blk), szB (xs ++ ys) = szB xs + szB ys
  | [], ys => by simp [szB]
  | x :: xs, ys => by
    rw [List.cons_append]
    simp only [szB, szB_append xs ys, Nat.add_assoc]
theorem szB_take {xs : List Blk} {i : Nat} {x : Blk} (h : xs[i]? = some x) : szB (xs.take (i + 1)) = szB (xs.take i) + szb x := by
  obtain ⟨hlt, rfl⟩ := List.getElem?_eq_some_iff.1 h
  rw [List.take_succ_eq_append_getElem hlt, szB_append]
  simp [szB]
theorem smB_take {xs : List Blk} {i : Nat} {x : Blk} (h : xs[i]? = some x) (h1 : smB (xs.take i)) (h2 : smB1 x) : smB (xs.take (i + 1)) := by
  obtain ⟨hlt, rfl⟩ := List.getElem?_eq_some_iff.1 h
  rw [List.take_succ_eq_append_getElem hlt]
  exact smB_append h1 (by unfold smB; exact ⟨h2, by unfold smB; trivial⟩)

theorem heavy_fn (fuel : Nat) : fuel ≤ 21 → ∀ (dp : Int) (v : Value) (xs : List Blk) (u : View), dp = 21 - fuel → xs.length ≤ 140737488351232 → BlkS u v xs →
    FnP Tryd.prog 24 [v, .int .i64 dp] u fun r _ => ∃ n : Int, r = .int .i64 n ∧ 0 ≤ n ∧ n ≤ 1000 + fuel * 5000000000000000 ∧ (n < 1000 → szB xs ≤ n ∧ smB xs) := by
  induction fuel using Nat.strongRecOn with
  | _ fuel ih =>
  intro hf dp v xs u hdp hx ha
  obtain ⟨cs, ⟨ad, cap, rfl, h1⟩, hc1⟩ := ha
  refine FnP.intro [.tmp 4] Tryd.func24 rfl rfl rfl ?_
  intro w0 D hw0
  refine wc_seq ?_
  refine wc_region ?_
  refine rl_y (y_assign rfl rfl) rfl ?_
  refine rl_end (ρ' := [(0, _), (1, _)]) ⟨rfl, rfl, trivial⟩ ?_
  refine q_then ?_
  refine wc_seq ?_
  refine wc_region ?_
  refine rl_y (y_move rfl rfl) rfl ?_
  refine rl_y (y_len_v rfl rfl Tryd.s23 rfl) rfl ?_
  refine rl_y (y_assign rfl rfl) rfl ?_
  refine rl_end (ρ' := [(0, _), (1, _), (5, _)]) ⟨rfl, rfl, rfl, trivial⟩ ?_
  refine q_then ?_
  refine wc_seq ?_
  refine wc_seq ?_
  refine wc_cutB 15 (decide (20 < dp ∨ 200 < xs.length)) (ρk := [(0, _), (1, _), (5, _)]) ⟨rfl, rfl, rfl, trivial⟩ ?_ ?_
  ·
    refine wc_region ?_
    refine rl_y (y_move rfl rfl) rfl ?_
    refine rl_y (y_gtr rfl rfl rfl) rfl ?_
    refine rl_y (y_move rfl rfl) rfl ?_
    rcases Bool.eq_false_or_eq_true (decide ((20 : Int) < dp)) with hg2_2 | hg2_2
    ·
      simp only [hg2_2]
      refine rl_off rfl rfl rfl rfl ?_
      refine rl_off rfl rfl rfl rfl ?_
      refine rl_y (y_pick_t rfl rfl rfl) rfl ?_
      exact cutB_end rfl ⟨rfl, rfl, rfl, trivial⟩ (by (first | refine (decide_eq_true ?_).symm | refine (decide_eq_false ?_).symm | refine decide_eq_decide.2 ?_ | refine decide_eq_true ?_ | refine decide_eq_false ?_) <;> (try unfold longN) <;> (try simp only [decide_eq_true_eq, decide_eq_false_iff_not] at *) <;> omega)
    ·
      simp only [hg2_2]
      refine rl_on rfl rfl ?_
      refine rl_y (y_move rfl rfl) rfl ?_
      refine rl_on rfl rfl ?_
      refine rl_y (y_gtr rfl rfl rfl) rfl ?_
      refine rl_y (y_pick_f rfl rfl rfl) rfl ?_
      exact cutB_end rfl ⟨rfl, rfl, rfl, trivial⟩ (by (first | refine (decide_eq_true ?_).symm | refine (decide_eq_false ?_).symm | refine decide_eq_decide.2 ?_ | refine decide_eq_true ?_ | refine decide_eq_false ?_) <;> (try unfold longN) <;> (try simp only [decide_eq_true_eq, decide_eq_false_iff_not] at *) <;> omega)
  refine q_then ?_
  refine wc_cond rfl (fun hb2 => ?_) (fun hb2 => ?_)
  ·
    refine wc_seq ?_
    refine wc_region ?_
    refine rl_y (y_assign rfl rfl) rfl ?_
    refine rl_end (ρ' := [(4, _)]) ⟨rfl, trivial⟩ ?_
    refine q_then ?_
    refine wc_ret ?_
    refine q_then_ret ?_
    refine fin1 (.tmp rfl) ?_
    exact ⟨1000, rfl, by omega, by omega, fun h => absurd h (by omega)⟩
  ·
    refine wc_skip ?_
    refine q_then ?_
    refine wc_seq ?_
    refine wc_seq ?_
    refine wc_region ?_
    refine rl_y (y_assign rfl rfl) rfl ?_
    refine rl_end (ρ' := [(0, _), (1, _), (5, _), (6, _)]) ⟨rfl, rfl, rfl, rfl, trivial⟩ ?_
    refine q_then ?_
    refine wc_block ?_
    refine wc_loop (fun m ρ σ u' => ∃ i : Nat, i + m = xs.length ∧ VLe u u' ∧ ∃ (n : Int), σ = [] ∧ ρ = [(0, .v (.slice ad xs.length cap)), (1, .v (.int .i64 dp)), (5, .v (.int .i64 n)), (6, .v (.int .i64 i))] ∧ (u = u' ∧ 0 ≤ n ∧ n ≤ 1000 + fuel * 5000000000000000 ∧ (n < 1000 → xs.length + szB (xs.take i) ≤ n + i ∧ smB (xs.take i)))) (xs.length) ?_ ?_
    ·
      refine ⟨[(0, _), (1, _), (5, _), (6, _)], [], ⟨rfl, rfl, rfl, rfl, trivial⟩, trivial, 0, by omega, VLe.refl _, _, (by first | rfl | simp), (by first | rfl | (simp only [List.cons.injEq, Prod.mk.injEq, SV.v.injEq, Value.int.injEq, true_and, and_true]; omega) | simp), ?_⟩
      have := of_decide_eq_false hb2; exact ⟨rfl, by omega, by omega, fun _ => ⟨by simp [szB], by simp [smB]⟩⟩
    ·
      rintro m ρ σ u' ⟨i, hi5, hle5, n, rfl, rfl, ⟨rfl, hn0, hnb, hinv⟩⟩
      refine wc_seq ?_
      refine wc_seq ?_
      refine wc_cutB 23 (decide (i < xs.length ∧ n < 1000)) (ρk := [(0, _), (1, _), (5, _), (6, _)]) ⟨rfl, rfl, rfl, rfl, trivial⟩ ?_ ?_
      ·
        refine wc_region ?_
        refine rl_y (y_move rfl rfl) rfl ?_
        refine rl_y (y_move rfl rfl) rfl ?_
        refine rl_y (y_len_v rfl rfl Tryd.s23 rfl) rfl ?_
        refine rl_y (y_lss rfl rfl rfl) rfl ?_
        refine rl_y (y_move rfl rfl) rfl ?_
        rcases Bool.eq_false_or_eq_true (decide ((i : Int) < xs.length)) with hg5_4 | hg5_4
        ·
          simp only [hg5_4]
          refine rl_on rfl rfl ?_
          refine rl_y (y_move rfl rfl) rfl ?_
          refine rl_on rfl rfl ?_
          refine rl_y (y_lss rfl rfl rfl) rfl ?_
          refine rl_y (y_pick_t rfl rfl rfl) rfl ?_
          exact cutB_end rfl ⟨rfl, rfl, rfl, rfl, trivial⟩ (by (first | refine (decide_eq_true ?_).symm | refine (decide_eq_false ?_).symm | refine decide_eq_decide.2 ?_ | refine decide_eq_true ?_ | refine decide_eq_false ?_) <;> (try unfold longN) <;> (try simp only [decide_eq_true_eq, decide_eq_false_iff_not] at *) <;> omega)
        ·
          simp only [hg5_4]
          refine rl_off rfl rfl rfl rfl ?_
          refine rl_off rfl rfl rfl rfl ?_
          refine rl_y (y_pick_f rfl rfl rfl) rfl ?_
          exact cutB_end rfl ⟨rfl, rfl, rfl, rfl, trivial⟩ (by (first | refine (decide_eq_true ?_).symm | refine (decide_eq_false ?_).symm | refine decide_eq_decide.2 ?_ | refine decide_eq_true ?_ | refine decide_eq_false ?_) <;> (try unfold longN) <;> (try simp only [decide_eq_true_eq, decide_eq_false_iff_not] at *) <;> omega)
      refine q_then ?_
      refine wc_cond rfl (fun hb5 => ?_) (fun hb5 => ?_)
      ·
        refine wc_skip ?_
        refine q_then ?_
        refine wc_seq ?_
        refine wc_block ?_
        refine wc_seq ?_
        have hb := of_decide_eq_true hb5
        have hb2 := of_decide_eq_false hb2
        have hlt : i < xs.length := hb.1
        obtain ⟨k, lv, inf, t, d, ti, a, line, kids, vc, vp, vl, vk, hg, hcut1, s1, s2, s3, s4, hok⟩ := hc1.at hlt
        have oneAll := (hc1.get i _ hg).one
        rw [hcut1] at oneAll
        obtain ⟨okk0, oklv, oki, okt, okd, okti, oka, okl, okk⟩ := hok
        obtain ⟨hinv1, hinv2⟩ := hinv hb.2
        have hsz := szB_take hg
        have hln := len_szB xs
        refine wc_region ?_
        refine rl_y (y_move rfl rfl) rfl ?_
        refine rl_y (y_move rfl rfl) rfl ?_
        refine rl_y (y_index_e rfl Tryd.s23 rfl rfl (by assumption) (by first | rfl | omega) (by omega)) rfl ?_
        refine rl_y (y_load_el rfl Tryd.k42 rfl (by assumption) (by omega) (by assumption) (vs := [_, _, _, _, _, _, _, _, _, _, _]) rfl rfl rfl rfl) rfl ?_
        refine rl_do rfl rfl ?_
        refine do_alloc trivial Tryd.z42 rfl rfl rfl ?_
        refine rl_do rfl rfl ?_
        refine do_store_p trivial rfl Tryd.k42 rfl rfl rfl (vs := [_, _, _, _, _, _, _, _, _, _, _]) rfl rfl (by first | rfl | exact oneAll | exact oneAll2 | simp [Value.oneCell', str]) (Nat.le_of_ble_eq_true rfl) rfl ?_
        refine rl_end (ρ' := [(0, _), (1, _), (5, _), (6, _), (7, _)]) ⟨rfl, rfl, rfl, rfl, rfl, trivial⟩ ?_
        refine q_then ?_
        refine wc_seq ?_
        refine wc_seq ?_
        refine wc_cutB 50 (decide (300 < inf.length + t.length + d.length + ti.length ∨ 40 < a.classes.length ∨ 40 < a.pairs.length ∨ 600 < longN a)) (ρk := [(0, _), (1, _), (5, _), (6, _), (7, _)]) ⟨rfl, rfl, rfl, rfl, rfl, trivial⟩ ?_ ?_
        ·
          refine wc_region ?_
          refine rl_y (y_field_p rfl Tryd.f42' rfl (by decide) rfl) rfl ?_
          refine rl_y (y_load_p rfl Tryd.k9 rfl rfl rfl (vs := [_]) rfl rfl rfl) rfl ?_
          refine rl_y (y_len_str rfl rfl Tryd.str9 rfl) rfl ?_
          refine rl_y (y_field_p rfl Tryd.f42' rfl (by decide) rfl) rfl ?_
          refine rl_y (y_load_p rfl Tryd.k9 rfl rfl rfl (vs := [_]) rfl rfl rfl) rfl ?_
          refine rl_y (y_len_str rfl rfl Tryd.str9 rfl) rfl ?_
          refine rl_y (y_add rfl rfl rfl (wrap64_id (by omega))) rfl ?_
          refine rl_y (y_field_p rfl Tryd.f42' rfl (by decide) rfl) rfl ?_
          refine rl_y (y_load_p rfl Tryd.k9 rfl rfl rfl (vs := [_]) rfl rfl rfl) rfl ?_
          refine rl_y (y_len_str rfl rfl Tryd.str9 rfl) rfl ?_
          refine rl_y (y_add rfl rfl rfl (wrap64_id (by omega))) rfl ?_
          refine rl_y (y_field_p rfl Tryd.f42' rfl (by decide) rfl) rfl ?_
          refine rl_y (y_load_p rfl Tryd.k9 rfl rfl rfl (vs := [_]) rfl rfl rfl) rfl ?_
          refine rl_y (y_len_str rfl rfl Tryd.str9 rfl) rfl ?_
          refine rl_y (y_add rfl rfl rfl (wrap64_id (by omega))) rfl ?_
          refine rl_y (y_gtr rfl rfl rfl) rfl ?_
          refine rl_y (y_move rfl rfl) rfl ?_
          rcases Bool.eq_false_or_eq_true (decide ((300 : Int) < (t.length : Int) + inf.length + d.length + ti.length)) with hg8_16 | hg8_16
          ·
            simp only [hg8_16]
            refine rl_off rfl rfl rfl rfl ?_
            refine rl_off rfl rfl rfl rfl ?_
            refine rl_off rfl rfl rfl rfl ?_
            refine rl_y (y_pick_t rfl rfl rfl) rfl ?_
            exact cutB_end rfl ⟨rfl, rfl, rfl, rfl, rfl, trivial⟩ (by (first | refine (decide_eq_true ?_).symm | refine (decide_eq_false ?_).symm | refine decide_eq_decide.2 ?_ | refine decide_eq_true ?_ | refine decide_eq_false ?_) <;> (try unfold smB1) <;> (try simp only [decide_eq_true_eq, decide_eq_false_iff_not] at *) <;> omega)
          ·
            simp only [hg8_16]
            refine rl_on rfl rfl ?_
            refine rl_y (y_field_p rfl Tryd.f42' rfl (by decide) rfl) rfl ?_
            refine rl_on rfl rfl ?_
            refine rl_y (y_load_p rfl Tryd.k40 rfl rfl rfl (vs := [_, _, _]) rfl rfl rfl) rfl ?_
            refine rl_on rfl rfl ?_
            refine rl_do rfl rfl ?_
            refine do_call_f (caps := []) trivial rfl rfl Tryd.c42 rfl (FnP.mono (long_fn a _ _ u oka s1 s2) ?_)
            rintro v u1 hle1 rfl
            refine rl_y (y_pick_f rfl rfl rfl) rfl ?_
            exact cutB_end rfl ⟨rfl, rfl, rfl, rfl, rfl, trivial⟩ (by (first | refine (decide_eq_true ?_).symm | refine (decide_eq_false ?_).symm | refine decide_eq_decide.2 ?_ | refine decide_eq_true ?_ | refine decide_eq_false ?_) <;> (try unfold smB1) <;> (try simp only [decide_eq_true_eq, decide_eq_false_iff_not] at *) <;> omega)
        refine q_then ?_
        refine wc_cond rfl (fun hb8 => ?_) (fun hb8 => ?_)
        ·
          refine wc_seq ?_
          refine wc_region ?_
          refine rl_y (y_assign rfl rfl) rfl ?_
          refine rl_end (ρ' := [(4, _)]) ⟨rfl, trivial⟩ ?_
          refine q_then ?_
          refine wc_ret ?_
          refine q_then_ret ?_
          refine q_block_ret ?_
          refine q_then_ret ?_
          refine q_then_ret ?_
          refine q_block_ret ?_
          refine q_then_ret ?_
          refine fin1 (.tmp rfl) ?_
          exact ⟨1000, rfl, by omega, by omega, fun h => absurd h (by omega)⟩
        ·
          refine wc_skip ?_
          refine q_then ?_
          refine wc_draw Tryd.mixed rfl [(7, _)] ⟨rfl, trivial⟩ ?_
          refine ra_y (i := 0) rfl (by kernel_rfl) (by kernel_rfl) (by kernel_rfl) (np_block (np_then (np_then (np_block (np_then (np_fin)))))) (y_move rfl rfl) rfl ?_
          refine ra_y (i := 1) rfl (by kernel_rfl) (by kernel_rfl) (by kernel_rfl) (np_block (np_then (np_then (np_block (np_then (np_fin)))))) (y_field_p rfl Tryd.f42' rfl (by decide) rfl) rfl ?_
          refine ra_y (i := 2) rfl (by kernel_rfl) (by kernel_rfl) (by kernel_rfl) (np_block (np_then (np_then (np_block (np_then (np_fin)))))) (y_load_p rfl Tryd.k36 rfl rfl rfl (vs := [_]) rfl rfl rfl) rfl ?_
          refine ra_y (i := 4) rfl (by kernel_rfl) (by kernel_rfl) (by kernel_rfl) (np_block (np_then (np_then (np_block (np_then (np_fin)))))) (y_field_p rfl Tryd.f42' rfl (by decide) rfl) rfl ?_
          refine ra_y (i := 5) rfl (by kernel_rfl) (by kernel_rfl) (by kernel_rfl) (np_block (np_then (np_then (np_block (np_then (np_fin)))))) (y_load_p rfl Tryd.k23 rfl rfl rfl (vs := [_]) rfl rfl rfl) rfl ?_
          refine ra_y (i := 6) rfl (by kernel_rfl) (by kernel_rfl) (by kernel_rfl) (np_block (np_then (np_then (np_block (np_then (np_fin)))))) (y_move rfl rfl) rfl ?_
          refine ra_y (i := 7) rfl (by kernel_rfl) (by kernel_rfl) (by kernel_rfl) (np_block (np_then (np_then (np_block (np_then (np_fin)))))) (y_add rfl rfl rfl (wrap64_id (by omega))) rfl ?_
          refine ra_do (i := 3) rfl rfl (by kernel_rfl) ?_
          refine do_call_f (caps := []) ⟨rfl, trivial⟩ rfl rfl Tryd.c43 rfl (FnP.mono (weight_fn 21 (by omega) 0 vl line u (by omega) okl s3) ?_)
          rintro v u1 hle1 ⟨n4, rfl, hn40, hn4b, hn4q⟩
          refine ra_do (i := 8) rfl rfl (by kernel_rfl) ?_
          refine do_call_f (caps := []) ⟨rfl, trivial⟩ rfl rfl Tryd.c24 rfl (FnP.mono (ih (fuel - 1) (by omega) (by omega) (dp + 1) vk kids u (by omega) okk s4) ?_)
          rintro v u1 hle1 ⟨n5, rfl, hn50, hn5b, hn5q⟩
          refine ra_y (i := 9) rfl (by kernel_rfl) (by kernel_rfl) (by kernel_rfl) (np_block (np_then (np_then (np_block (np_then (np_fin)))))) (y_add rfl rfl rfl (wrap64_id (by omega))) rfl ?_
          refine ra_y (i := 10) rfl (by kernel_rfl) (by kernel_rfl) (by kernel_rfl) (np_block (np_then (np_then (np_block (np_then (np_fin)))))) (y_add rfl rfl rfl (wrap64_id (by omega))) rfl ?_
          refine ra_y (i := 11) rfl (by kernel_rfl) (by kernel_rfl) (by kernel_rfl) (np_block (np_then (np_then (np_block (np_then (np_fin)))))) (y_assign rfl rfl) rfl ?_
          refine ra_end (by kernel_rfl) (ρ' := [(0, _), (1, _), (5, _), (6, _)]) ⟨rfl, rfl, rfl, rfl, trivial⟩ ?_
          refine q_block ?_
          refine q_then ?_
          refine wc_region ?_
          refine rl_y (y_move rfl rfl) rfl ?_
          refine rl_y (y_add rfl rfl rfl (wrap64_id (by omega))) rfl ?_
          refine rl_y (y_assign rfl rfl) rfl ?_
          refine rl_end (ρ' := [(0, _), (1, _), (5, _), (6, _)]) ⟨rfl, rfl, rfl, rfl, trivial⟩ ?_
          refine q_thenK ?_
          refine ⟨m - 1, [(0, _), (1, _), (5, _), (6, _)], [], by omega, ⟨rfl, rfl, rfl, rfl, trivial⟩, trivial, i + 1, by omega, hle5, _, (by first | rfl | simp), (by first | rfl | (simp only [List.cons.injEq, Prod.mk.injEq, SV.v.injEq, Value.int.injEq, true_and, and_true]; omega) | simp), ?_⟩
          refine ⟨rfl, by omega, by omega, fun h => ?_⟩
          obtain ⟨q1, q2⟩ := hn4q (by omega)
          obtain ⟨q3, q4⟩ := hn5q (by omega)
          have h8 := of_decide_eq_false hb8
          refine ⟨by simp only [szb] at hsz; omega, smB_take hg hinv2 ?_⟩
          unfold smB1
          exact ⟨by omega, by omega, by omega, by omega, q2, q4⟩
      ·
        refine wc_exit ?_
        refine q_then_exit ?_
        refine q_then_exit ?_
        refine q_block_hit ?_
        refine q_then ?_
        refine wc_seq ?_
        refine wc_region ?_
        refine rl_y (y_move rfl rfl) rfl ?_
        refine rl_y (y_assign rfl rfl) rfl ?_
        refine rl_end (ρ' := [(4, _)]) ⟨rfl, trivial⟩ ?_
        refine q_then ?_
        refine wc_ret ?_
        refine fin1 (.tmp rfl) ?_
        have hge := of_decide_eq_false hb5
        refine ⟨n, rfl, hn0, hnb, fun h => ?_⟩
        obtain ⟨q1, q2⟩ := hinv h
        rw [List.take_of_length_le (by omega)] at q1 q2
        exact ⟨by omega, q2⟩

/-- a small document -/
def DSm (d : DDoc) : Prop := d.mts.length ≤ 70 ∧ (∀ p ∈ d.mts, p.1.length + p.2.length ≤ 300) ∧ szB d.blocks ≤ 120 ∧ smB d.blocks

theorem small_fn (d : DDoc) (vm vb : Value) (u : View) (hm : PrS u vm d.mts) (hbk : BlkS u vb d.blocks) (hok : DocOk d) :
    FnP Tryd.prog 9 [.agg #[vm, vb]] u fun r _ => ∃ b : Bool, r = .bool b ∧ (b = true → DSm d) := by
  obtain ⟨ad, cap, rfl, h1⟩ := hm
  obtain ⟨⟨okm, okm2⟩, okb⟩ := hok
  refine FnP.intro [.tmp 2] Tryd.func9 rfl rfl rfl ?_
  intro w0 D hw0
  refine wc_seq ?_
  refine wc_region ?_
  refine rl_do rfl rfl ?_
  refine do_box trivial rfl (cs := [_, _]) rfl rfl rfl rfl ?_
  refine rl_y (y_assign rfl rfl) rfl ?_
  refine rl_end (ρ' := [(1, _)]) ⟨rfl, trivial⟩ ?_
  refine q_then ?_
  refine wc_seq ?_
  refine wc_seq ?_
  refine wc_region ?_
  refine rl_y (y_field_p rfl Tryd.f25' rfl (by decide) rfl) rfl ?_
  refine rl_y (y_load_p rfl Tryd.k22 rfl rfl rfl (vs := [_]) rfl rfl rfl) rfl ?_
  refine rl_y (y_len_v rfl rfl Tryd.s22 rfl) rfl ?_
  refine rl_y (y_gtr rfl rfl rfl) rfl ?_
  refine rl_end (ρ' := [(1, _), (7, _)]) ⟨rfl, rfl, trivial⟩ ?_
  refine q_then ?_
  refine wc_cond rfl (fun hb1 => ?_) (fun hb1 => ?_)
  ·
    refine wc_seq ?_
    refine wc_region ?_
    refine rl_y (y_assign rfl rfl) rfl ?_
    refine rl_end (ρ' := [(2, _)]) ⟨rfl, trivial⟩ ?_
    refine q_then ?_
    refine wc_ret ?_
    refine q_then_ret ?_
    refine fin1 (.tmp rfl) ?_
    exact ⟨false, rfl, fun h => by cases h⟩
  ·
    refine wc_skip ?_
    refine q_then ?_
    refine wc_seq ?_
    refine wc_seq ?_
    refine wc_region ?_
    refine rl_y (y_assign rfl rfl) rfl ?_
    refine rl_end (ρ' := [(1, _), (3, _)]) ⟨rfl, rfl, trivial⟩ ?_
    refine q_then ?_
    refine wc_block ?_
    refine wc_loop (fun m ρ σ u' => ∃ i : Nat, i + m = d.mts.length ∧ VLe u u' ∧ σ = [(1, (none, .box [.slice ad d.mts.length cap, vb]))] ∧ ρ = [(1, .p 1 0), (3, .v (.int .i64 i))] ∧ (u = u' ∧ ∀ p ∈ d.mts.take i, p.1.length + p.2.length ≤ 300)) (d.mts.length) ?_ ?_
    ·
      refine ⟨[(1, _), (3, _)], [(1, _)], ⟨rfl, rfl, trivial⟩, ⟨rfl, trivial⟩, 0, by omega, VLe.refl _, (by first | rfl | simp), (by first | rfl | (simp only [List.cons.injEq, Prod.mk.injEq, SV.v.injEq, Value.int.injEq, true_and, and_true]; omega) | simp), ?_⟩
      exact ⟨rfl, fun p hp => by simp at hp⟩
    ·
      rintro m ρ σ u' ⟨i, hi4, hle4, rfl, rfl, ⟨rfl, hinv⟩⟩
      refine wc_seq ?_
      refine wc_seq ?_
      refine wc_region ?_
      refine rl_y (y_move rfl rfl) rfl ?_
      refine rl_y (y_field_p rfl Tryd.f25' rfl (by decide) rfl) rfl ?_
      refine rl_y (y_load_p rfl Tryd.k22 rfl rfl rfl (vs := [_]) rfl rfl rfl) rfl ?_
      refine rl_y (y_len_v rfl rfl Tryd.s22 rfl) rfl ?_
      refine rl_y (y_lss rfl rfl rfl) rfl ?_
      refine rl_end (ρ' := [(1, _), (3, _), (12, _)]) ⟨rfl, rfl, rfl, trivial⟩ ?_
      refine q_then ?_
      refine wc_cond rfl (fun hb4 => ?_) (fun hb4 => ?_)
      ·
        refine wc_skip ?_
        refine q_then ?_
        refine wc_seq ?_
        refine wc_block ?_
        refine wc_seq ?_
        have hlt : i < d.mts.length := by have := of_decide_eq_true hb4; omega
        have hg := List.getElem?_eq_getElem hlt
        have hcc := cut_pairsC hg
        have hsl := okm2 _ (List.mem_of_getElem? hg)
        refine wc_draw Tryd.mixed rfl [(1, _)] ⟨rfl, trivial⟩ ?_
        refine ra_y (i := 0) rfl (by kernel_rfl) (by kernel_rfl) (by kernel_rfl) (np_then (np_block (np_then (np_then (np_block (np_then (np_fin))))))) (y_field_p rfl Tryd.f25' rfl (by decide) rfl) rfl ?_
        refine ra_y (i := 1) rfl (by kernel_rfl) (by kernel_rfl) (by kernel_rfl) (np_then (np_block (np_then (np_then (np_block (np_then (np_fin))))))) (y_load_p rfl Tryd.k22 rfl rfl rfl (vs := [_]) rfl rfl rfl) rfl ?_
        refine ra_y (i := 2) rfl (by kernel_rfl) (by kernel_rfl) (by kernel_rfl) (np_then (np_block (np_then (np_then (np_block (np_then (np_fin))))))) (y_move rfl rfl) rfl ?_
        refine ra_y (i := 3) rfl (by kernel_rfl) (by kernel_rfl) (by kernel_rfl) (np_then (np_block (np_then (np_then (np_block (np_then (np_fin))))))) (y_index_e rfl Tryd.s22 rfl rfl (by assumption) (by first | rfl | omega) (by omega)) rfl ?_
        refine ra_y (i := 4) rfl (by kernel_rfl) (by kernel_rfl) (by kernel_rfl) (np_then (np_block (np_then (np_then (np_block (np_then (np_fin))))))) (y_field_e rfl Tryd.f53' rfl (by decide) rfl) rfl ?_
        refine ra_y (i := 5) rfl (by kernel_rfl) (by kernel_rfl) (by kernel_rfl) (np_then (np_block (np_then (np_then (np_block (np_then (np_fin))))))) (y_load_el rfl Tryd.k9 rfl (by assumption) (by omega) (by assumption) (vs := [_]) rfl rfl rfl rfl) rfl ?_
        refine ra_y (i := 6) rfl (by kernel_rfl) (by kernel_rfl) (by kernel_rfl) (np_then (np_block (np_then (np_then (np_block (np_then (np_fin))))))) (y_len_str rfl rfl Tryd.str9 rfl) rfl ?_
        refine ra_y (i := 7) rfl (by kernel_rfl) (by kernel_rfl) (by kernel_rfl) (np_then (np_block (np_then (np_then (np_block (np_then (np_fin))))))) (y_field_p rfl Tryd.f25' rfl (by decide) rfl) rfl ?_
        refine ra_y (i := 8) rfl (by kernel_rfl) (by kernel_rfl) (by kernel_rfl) (np_then (np_block (np_then (np_then (np_block (np_then (np_fin))))))) (y_load_p rfl Tryd.k22 rfl rfl rfl (vs := [_]) rfl rfl rfl) rfl ?_
        refine ra_y (i := 9) rfl (by kernel_rfl) (by kernel_rfl) (by kernel_rfl) (np_then (np_block (np_then (np_then (np_block (np_then (np_fin))))))) (y_move rfl rfl) rfl ?_
        refine ra_y (i := 10) rfl (by kernel_rfl) (by kernel_rfl) (by kernel_rfl) (np_then (np_block (np_then (np_then (np_block (np_then (np_fin))))))) (y_index_e rfl Tryd.s22 rfl rfl (by assumption) (by first | rfl | omega) (by omega)) rfl ?_
        refine ra_y (i := 11) rfl (by kernel_rfl) (by kernel_rfl) (by kernel_rfl) (np_then (np_block (np_then (np_then (np_block (np_then (np_fin))))))) (y_field_e rfl Tryd.f53' rfl (by decide) rfl) rfl ?_
        refine ra_y (i := 12) rfl (by kernel_rfl) (by kernel_rfl) (by kernel_rfl) (np_then (np_block (np_then (np_then (np_block (np_then (np_fin))))))) (y_load_el rfl Tryd.k9 rfl (by assumption) (by omega) (by assumption) (vs := [_]) rfl rfl rfl rfl) rfl ?_
        refine ra_y (i := 13) rfl (by kernel_rfl) (by kernel_rfl) (by kernel_rfl) (np_then (np_block (np_then (np_then (np_block (np_then (np_fin))))))) (y_len_str rfl rfl Tryd.str9 rfl) rfl ?_
        refine ra_y (i := 14) rfl (by kernel_rfl) (by kernel_rfl) (by kernel_rfl) (np_then (np_block (np_then (np_then (np_block (np_then (np_fin))))))) (y_add rfl rfl rfl (wrap64_id (by omega))) rfl ?_
        refine ra_y (i := 15) rfl (by kernel_rfl) (by kernel_rfl) (by kernel_rfl) (np_then (np_block (np_then (np_then (np_block (np_then (np_fin))))))) (y_gtr rfl rfl rfl) rfl ?_
        refine ra_end (by kernel_rfl) (ρ' := [(1, _), (3, _), (30, _)]) ⟨rfl, rfl, rfl, trivial⟩ ?_
        refine q_then ?_
        refine wc_cond rfl (fun hb6 => ?_) (fun hb6 => ?_)
        ·
          refine wc_seq ?_
          refine wc_region ?_
          refine rl_y (y_assign rfl rfl) rfl ?_
          refine rl_end (ρ' := [(2, _)]) ⟨rfl, trivial⟩ ?_
          refine q_then ?_
          refine wc_ret ?_
          refine q_block_ret ?_
          refine q_then_ret ?_
          refine q_then_ret ?_
          refine q_block_ret ?_
          refine q_then_ret ?_
          refine fin1 (.tmp rfl) ?_
          exact ⟨false, rfl, fun h => by cases h⟩
        ·
          refine wc_skip ?_
          refine q_block ?_
          refine q_then ?_
          refine wc_region ?_
          refine rl_y (y_move rfl rfl) rfl ?_
          refine rl_y (y_add rfl rfl rfl (wrap64_id (by omega))) rfl ?_
          refine rl_y (y_assign rfl rfl) rfl ?_
          refine rl_end (ρ' := [(1, _), (3, _)]) ⟨rfl, rfl, trivial⟩ ?_
          refine q_thenK ?_
          refine ⟨m - 1, [(1, _), (3, _)], [(1, _)], by omega, ⟨rfl, rfl, trivial⟩, ⟨rfl, trivial⟩, i + 1, by omega, hle4, (by first | rfl | simp), (by first | rfl | (simp only [List.cons.injEq, Prod.mk.injEq, SV.v.injEq, Value.int.injEq, true_and, and_true]; omega) | simp), ?_⟩
          have h6 := of_decide_eq_false hb6; refine ⟨rfl, fun p hp => ?_⟩; rcases mem_take_succ hg hp with hs | rfl; exact hinv p hs; omega
      ·
        refine wc_exit ?_
        refine q_then_exit ?_
        refine q_then_exit ?_
        refine q_block_hit ?_
        refine q_then ?_
        refine wc_seq ?_
        refine wc_region ?_
        refine rl_y (y_field_p rfl Tryd.f25' rfl (by decide) rfl) rfl ?_
        refine rl_y (y_load_p rfl Tryd.k23 rfl rfl rfl (vs := [_]) rfl rfl rfl) rfl ?_
        refine rl_do rfl rfl ?_
        refine do_call_f (caps := []) trivial rfl rfl Tryd.c24 rfl (FnP.mono (heavy_fn 21 (by omega) 0 vb d.blocks u (by omega) okb hbk) ?_)
        rintro v u1 hle1 ⟨n, rfl, hn0, hnb, hnq⟩
        refine rl_y (y_leq rfl rfl rfl) rfl ?_
        refine rl_y (y_assign rfl rfl) rfl ?_
        refine rl_end (ρ' := [(2, _)]) ⟨rfl, trivial⟩ ?_
        refine q_then ?_
        refine wc_ret ?_
        refine fin1 (.tmp rfl) ?_
        have h1 := of_decide_eq_false hb1
        have h4 := of_decide_eq_false hb4
        rw [List.take_of_length_le (by omega)] at hinv
        refine ⟨_, rfl, fun h => ?_⟩
        have h := of_decide_eq_true h
        obtain ⟨q1, q2⟩ := hnq (by omega)
        exact ⟨by omega, hinv, by omega, q2⟩
end Go.Proofs.Ythnboadnehbciaa
