/- Count: kinds, captions, Find. -/
import Derived.Test.YthnboadnehbciaaDoorCntK
namespace Go.Proofs.Ythnboadnehbciaa
open Go Go.Eng
set_option linter.unusedSimpArgs false
set_option linter.unusedVariables false
set_option maxRecDepth 4000

theorem firstPara_sm : ∀ (bs : List Blk), smB bs → smI (firstPara bs) ∧ szI (firstPara bs) ≤ szB bs
  | [], _ => ⟨by unfold firstPara smI; trivial, by unfold firstPara; simp [szI]⟩
  | .mk k lv inf t d ti a line kids :: bs, h => by
    unfold smB at h
    have h1 := h.1
    unfold smB1 at h1
    have ih := firstPara_sm bs h.2
    unfold firstPara
    split
    · exact ⟨h1.2.2.2.2.1, by simp only [szB, szb]; omega⟩
    · exact ⟨ih.1, by simp only [szB]; omega⟩
theorem countCaption_fn (v : Value) (bs : List Blk) (hbig : szB bs ≤ 100000) (hsm : smB bs) (u : View) (ha : BlkS u v bs) : FnP Tryd.prog 33 [v] u fun r u' => InlS u' r (capOf bs) := by
  have hlb := len_szB bs
  obtain ⟨cs, ⟨ad, cap, rfl, h1⟩, hc1⟩ := ha
  refine FnP.intro [.tmp 2] Tryd.func33 rfl rfl rfl ?_
  intro w0 D hw0
  refine wc_seq ?_
  refine wc_region ?_
  refine rl_y (y_assign rfl rfl) rfl ?_
  refine rl_end (ρ' := [(0, _)]) ⟨rfl, trivial⟩ ?_
  refine q_then ?_
  refine wc_seq ?_
  refine wc_seq ?_
  refine wc_region ?_
  refine rl_y (y_move rfl rfl) rfl ?_
  refine rl_y (y_len_v rfl rfl Tryd.s23 rfl) rfl ?_
  refine rl_y (y_move rfl rfl) rfl ?_
  refine rl_end (ρ' := [(5, _), (6, _), (7, _)]) ⟨rfl, rfl, rfl, trivial⟩ ?_
  refine q_then ?_
  refine wc_block ?_
  refine wc_loop (fun m ρ σ u' => ∃ i : Nat, i + m = bs.length ∧ VLe u u' ∧ σ = [] ∧ ρ = [(5, .v (.slice ad bs.length cap)), (6, .v (.int .i64 bs.length)), (7, .v (.int .i64 i))] ∧ (u = u' ∧ capOf bs = firstPara (bs.drop (if i = 0 then 1 else i)))) (bs.length) ?_ ?_
  ·
    refine ⟨[(5, _), (6, _), (7, _)], [], ⟨rfl, rfl, rfl, trivial⟩, trivial, 0, by omega, VLe.refl _, (by first | rfl | simp), (by first | rfl | (simp only [List.cons.injEq, Prod.mk.injEq, SV.v.injEq, Value.int.injEq, true_and, and_true]; omega) | simp), ?_⟩
    exact ⟨rfl, rfl⟩
  ·
    rintro m ρ σ u' ⟨i, hi2, hle2, rfl, rfl, ⟨rfl, hinv⟩⟩
    refine wc_seq ?_
    refine wc_region ?_
    refine rl_y (y_lss rfl rfl rfl) rfl ?_
    refine rl_end (ρ' := [(5, _), (6, _), (7, _), (8, _)]) ⟨rfl, rfl, rfl, rfl, trivial⟩ ?_
    refine q_then ?_
    refine wc_seq ?_
    refine wc_cond rfl (fun hb2 => ?_) (fun hb2 => ?_)
    ·
      refine wc_skip ?_
      refine q_then ?_
      refine wc_seq ?_
      refine wc_block ?_
      refine wc_seq ?_
      have hlt := of_decide_eq_true hb2
      obtain ⟨k, lv, inf, t, d, ti, a, line, kids, vc, vp, vl, vk, hg, hcut1, s1, s2, s3, s4, hok⟩ := hc1.at (i := i) (by omega)
      have oneAll := (hc1.get i _ hg).one
      rw [hcut1] at oneAll
      have hst := firstPara_drop hg
      have hsm1 := smB_get hsm hg
      have hsz1 := szB_kids hg
      unfold smB1 at hsm1
      refine wc_region ?_
      refine rl_y (y_move rfl rfl) rfl ?_
      refine rl_y (y_index_e rfl Tryd.s23 rfl rfl (by assumption) (by first | rfl | omega) (by omega)) rfl ?_
      refine rl_y (y_load_el rfl Tryd.k42 rfl (by assumption) (by omega) (by assumption) (vs := [_, _, _, _, _, _, _, _, _, _, _]) rfl rfl rfl rfl) rfl ?_
      refine rl_do rfl rfl ?_
      refine do_alloc trivial Tryd.z42 rfl rfl rfl ?_
      refine rl_y (y_assign rfl rfl) rfl ?_
      refine rl_do rfl rfl ?_
      refine do_store_p trivial rfl Tryd.k42 rfl rfl rfl (vs := [_, _, _, _, _, _, _, _, _, _, _]) rfl rfl (by first | rfl | exact oneAll | exact oneAll2 | simp [Value.oneCell', str]) (Nat.le_of_ble_eq_true rfl) rfl ?_
      refine rl_end (ρ' := [(3, _), (4, _), (5, _), (6, _), (7, _)]) ⟨rfl, rfl, rfl, rfl, rfl, trivial⟩ ?_
      refine q_then ?_
      refine wc_seq ?_
      refine wc_cutB 18 (decide (0 < i ∧ k = 1)) (ρk := [(4, _), (5, _), (6, _), (7, _)]) ⟨rfl, rfl, rfl, rfl, trivial⟩ ?_ ?_
      ·
        refine wc_region ?_
        refine rl_y (y_move rfl rfl) rfl ?_
        refine rl_y (y_gtr rfl rfl rfl) rfl ?_
        refine rl_y (y_move rfl rfl) rfl ?_
        rcases Bool.eq_false_or_eq_true (decide ((0 : Int) < i)) with hg4_2 | hg4_2
        ·
          simp only [hg4_2]
          refine rl_on rfl rfl ?_
          refine rl_y (y_field_p rfl Tryd.f42' rfl (by decide) rfl) rfl ?_
          refine rl_on rfl rfl ?_
          refine rl_y (y_load_p rfl Tryd.k3 rfl rfl rfl (vs := [_]) rfl rfl rfl) rfl ?_
          refine rl_on rfl rfl ?_
          refine rl_y (y_eql rfl rfl rfl) rfl ?_
          refine rl_y (y_pick_t rfl rfl rfl) rfl ?_
          exact cutB_end rfl ⟨rfl, rfl, rfl, rfl, trivial⟩ (by first | simp_all | (simp_all; omega))
        ·
          simp only [hg4_2]
          refine rl_off rfl rfl rfl rfl ?_
          refine rl_off rfl rfl rfl rfl ?_
          refine rl_off rfl rfl rfl rfl ?_
          refine rl_y (y_pick_f rfl rfl rfl) rfl ?_
          exact cutB_end rfl ⟨rfl, rfl, rfl, rfl, trivial⟩ (by first | simp_all | (simp_all; omega))
      refine q_then ?_
      refine wc_cond rfl (fun hb4 => ?_) (fun hb4 => ?_)
      ·
        refine wc_seq ?_
        refine wc_region ?_
        refine rl_y (y_field_p rfl Tryd.f42' rfl (by decide) rfl) rfl ?_
        refine rl_y (y_load_p rfl Tryd.k36 rfl rfl rfl (vs := [_]) rfl rfl rfl) rfl ?_
        refine rl_do rfl rfl ?_
        refine do_call (caps := []) trivial rfl rfl Tryd.c32 rfl (FnP.mono (copyLine_fn (szI line) vl line u (Nat.le_refl _) (by omega) hsm1.2.2.2.2.1 s3) ?_)
        rintro v u1 hle0 hcp hle1
        refine rl_y (y_assign rfl rfl) rfl ?_
        refine rl_end (ρ' := [(2, _)]) ⟨rfl, trivial⟩ ?_
        refine q_then ?_
        refine wc_ret ?_
        refine q_block_ret ?_
        refine q_then_ret ?_
        refine q_then_ret ?_
        refine q_block_ret ?_
        refine q_then_ret ?_
        refine fin1 (.tmp rfl) ?_
        have h4 := of_decide_eq_true hb4
        rw [if_neg (by omega), hst, if_pos h4.2] at hinv
        rw [hinv]
        exact hcp
      ·
        refine wc_skip ?_
        refine q_block ?_
        refine q_then ?_
        refine wc_region ?_
        refine rl_y (y_add rfl rfl rfl (wrap64_id (by omega))) rfl ?_
        refine rl_y (y_move rfl rfl) rfl ?_
        refine rl_end (ρ' := [(5, _), (6, _), (7, _)]) ⟨rfl, rfl, rfl, trivial⟩ ?_
        refine q_thenK ?_
        refine ⟨m - 1, [(5, _), (6, _), (7, _)], [], by omega, ⟨rfl, rfl, rfl, trivial⟩, trivial, i + 1, by omega, hle2, (by first | rfl | simp), (by first | rfl | (simp only [List.cons.injEq, Prod.mk.injEq, SV.v.injEq, Value.int.injEq, true_and, and_true]; omega) | simp), ?_⟩
        have h4 := of_decide_eq_false hb4
        refine ⟨rfl, ?_⟩
        rw [if_neg (Nat.succ_ne_zero i)]
        by_cases h0 : i = 0
        · subst h0; exact hinv
        · rw [hinv, if_neg h0, hst, if_neg (fun h => h4 ⟨by omega, h⟩)]
    ·
      refine wc_exit ?_
      refine q_then_exit ?_
      refine q_then_exit ?_
      refine q_block_hit ?_
      refine q_then ?_
      refine wc_seq ?_
      refine wc_region ?_
      refine rl_y (y_assign rfl rfl) rfl ?_
      refine rl_end (ρ' := [(2, _)]) ⟨rfl, trivial⟩ ?_
      refine q_then ?_
      refine wc_ret ?_
      refine fin1 (.tmp rfl) ?_
      have hge := of_decide_eq_false hb2
      rw [hinv, List.drop_eq_nil_of_le (by split <;> omega)]
      exact nilInl _

theorem countFind_fn (v : Value) (l : List DNum) (id : Bs) (hl : l.length ≤ 1000000) (hs : ∀ x ∈ l, szI x.line ≤ 100000 ∧ smI x.line) (u : View) (ha : NumS u v l) :
    FnP Tryd.prog 19 [v, str id] u fun r u' => ∃ cs, r = .tuple #[.agg cs.toArray, .bool (findN id l).isSome] ∧ NumC u' ((findN id l).getD num0) cs := by
  obtain ⟨cs, ⟨ad, cap, rfl, h1⟩, hc1⟩ := ha
  refine FnP.intro [.cell 4 38, .tmp 5] Tryd.func19 rfl rfl rfl ?_
  intro w0 D hw0
  refine wc_seq ?_
  refine wc_region ?_
  refine rl_do rfl rfl ?_
  refine do_alloc trivial Tryd.z38 rfl rfl rfl ?_
  refine rl_y (y_assign rfl rfl) rfl ?_
  refine rl_end (ρ' := [(0, _), (1, _), (4, _)]) ⟨rfl, rfl, rfl, trivial⟩ ?_
  refine q_then ?_
  refine wc_seq ?_
  refine wc_seq ?_
  refine wc_region ?_
  refine rl_y (y_move rfl rfl) rfl ?_
  refine rl_y (y_str_eql rfl rfl rfl) rfl ?_
  refine rl_end (ρ' := [(0, _), (1, _), (4, _), (9, _)]) ⟨rfl, rfl, rfl, rfl, trivial⟩ ?_
  refine q_then ?_
  refine wc_cond rfl (fun hb1 => ?_) (fun hb1 => ?_)
  ·
    refine wc_seq ?_
    refine wc_region ?_
    refine rl_y (y_build rfl Tryd.f38' Tryd.z38 (ps := []) rfl (vs := [_, _, _, _]) rfl) rfl ?_
    refine rl_do rfl rfl ?_
    refine do_store_p trivial rfl Tryd.k38 rfl rfl rfl (vs := [_, _, _, _]) rfl rfl (by first | rfl | exact oneAll | exact oneAll2 | simp [Value.oneCell', str]) (Nat.le_of_ble_eq_true rfl) rfl ?_
    refine rl_y (y_assign rfl rfl) rfl ?_
    refine rl_end (ρ' := [(4, _), (5, _)]) ⟨rfl, rfl, trivial⟩ ?_
    refine q_then ?_
    refine wc_ret ?_
    refine q_then_ret ?_
    refine fin2 (.cell rfl rfl Tryd.k38 (cs := _) (vs := [_, _, _, _]) rfl rfl rfl) (.tmp rfl) ?_
    have h1 := of_decide_eq_true hb1
    have : findN id l = none := by unfold findN; rw [List.find?_eq_none]; intro x _; simp [h1]
    rw [this]
    exact ⟨[str [], str [], str [], .slice none 0 0], rfl, num0_C _⟩
  ·
    refine wc_skip ?_
    refine q_then ?_
    refine wc_seq ?_
    refine wc_seq ?_
    have hne := of_decide_eq_false hb1
    refine wc_region ?_
    refine rl_y (y_move rfl rfl) rfl ?_
    refine rl_y (y_len_v rfl rfl Tryd.s29 rfl) rfl ?_
    refine rl_y (y_move rfl rfl) rfl ?_
    refine rl_end (ρ' := [(1, _), (4, _), (11, _), (12, _), (13, _)]) ⟨rfl, rfl, rfl, rfl, rfl, trivial⟩ ?_
    refine q_then ?_
    refine wc_block ?_
    refine wc_loop (fun m ρ σ u' => ∃ i : Nat, i + m = l.length ∧ VLe u u' ∧ σ = [(4, (none, .box [str [], str [], str [], .slice none 0 0]))] ∧ ρ = [(1, .v (str id)), (4, .p 4 0), (11, .v (.slice ad l.length cap)), (12, .v (.int .i64 l.length)), (13, .v (.int .i64 i))] ∧ (u = u' ∧ findN id l = findN id (l.drop i))) (l.length) ?_ ?_
    ·
      refine ⟨[(1, _), (4, _), (11, _), (12, _), (13, _)], [(4, _)], ⟨rfl, rfl, rfl, rfl, rfl, trivial⟩, ⟨rfl, trivial⟩, 0, by omega, VLe.refl _, (by first | rfl | simp), (by first | rfl | (simp only [List.cons.injEq, Prod.mk.injEq, SV.v.injEq, Value.int.injEq, true_and, and_true]; omega) | simp), ?_⟩
      exact ⟨rfl, rfl⟩
    ·
      rintro m ρ σ u' ⟨i, hi4, hle4, rfl, rfl, ⟨rfl, hinv⟩⟩
      refine wc_seq ?_
      refine wc_region ?_
      refine rl_y (y_lss rfl rfl rfl) rfl ?_
      refine rl_end (ρ' := [(1, _), (4, _), (11, _), (12, _), (13, _), (14, _)]) ⟨rfl, rfl, rfl, rfl, rfl, rfl, trivial⟩ ?_
      refine q_then ?_
      refine wc_seq ?_
      refine wc_cond rfl (fun hb4 => ?_) (fun hb4 => ?_)
      ·
        refine wc_skip ?_
        refine q_then ?_
        refine wc_seq ?_
        refine wc_block ?_
        refine wc_seq ?_
        have hlt := of_decide_eq_true hb4
        obtain ⟨x, vl, hg, hcut1, s1⟩ := hc1.at (i := i) (by omega)
        have oneAll := (hc1.get i _ hg).one
        rw [hcut1] at oneAll
        have hst := findN_drop (id := id) hg
        obtain ⟨hsz, hsm⟩ := hs x (List.mem_of_getElem? hg)
        refine wc_region ?_
        refine rl_y (y_index_e rfl Tryd.s29 rfl rfl (by assumption) (by first | rfl | omega) (by omega)) rfl ?_
        refine rl_y (y_load_el rfl Tryd.k38 rfl (by assumption) (by omega) (by assumption) (vs := [_, _, _, _]) rfl rfl rfl rfl) rfl ?_
        refine rl_do rfl rfl ?_
        refine do_alloc trivial Tryd.z38 rfl rfl rfl ?_
        refine rl_do rfl rfl ?_
        refine do_store_p trivial rfl Tryd.k38 rfl rfl rfl (vs := [_, _, _, _]) rfl rfl (by first | rfl | exact oneAll | exact oneAll2 | simp [Value.oneCell', str]) (Nat.le_of_ble_eq_true rfl) rfl ?_
        refine rl_end (ρ' := [(1, _), (4, _), (7, _), (11, _), (12, _), (13, _)]) ⟨rfl, rfl, rfl, rfl, rfl, rfl, trivial⟩ ?_
        refine q_then ?_
        refine wc_seq ?_
        refine wc_region ?_
        refine rl_y (y_field_p rfl Tryd.f38' rfl (by decide) rfl) rfl ?_
        refine rl_y (y_load_p rfl Tryd.k9 rfl rfl rfl (vs := [_]) rfl rfl rfl) rfl ?_
        refine rl_y (y_move rfl rfl) rfl ?_
        refine rl_y (y_str_eql rfl rfl rfl) rfl ?_
        refine rl_end (ρ' := [(1, _), (4, _), (7, _), (11, _), (12, _), (13, _), (20, _)]) ⟨rfl, rfl, rfl, rfl, rfl, rfl, rfl, trivial⟩ ?_
        refine q_then ?_
        refine wc_cond rfl (fun hb6 => ?_) (fun hb6 => ?_)
        ·
          refine wc_seq ?_
          refine wc_region ?_
          refine rl_y (y_field_p rfl Tryd.f38' rfl (by decide) rfl) rfl ?_
          refine rl_y (y_load_p rfl Tryd.k36 rfl rfl rfl (vs := [_]) rfl rfl rfl) rfl ?_
          refine rl_do rfl rfl ?_
          refine do_call (caps := []) trivial rfl rfl Tryd.c32 rfl (FnP.mono (copyLine_fn (szI x.line) vl x.line u (Nat.le_refl _) hsz hsm s1) ?_)
          rintro v u1 hle0 ⟨kcs, ⟨kad, kcap, rfl, hk1⟩, hk2⟩ hle1
          refine rl_y (y_field_p rfl Tryd.f38' rfl (by decide) rfl) rfl ?_
          refine rl_do rfl rfl ?_
          refine do_store_p trivial rfl Tryd.k36 rfl rfl rfl (vs := [_]) rfl rfl (by first | rfl | exact oneAll | exact oneAll2 | simp [Value.oneCell', str]) (Nat.le_of_ble_eq_true rfl) rfl ?_
          refine rl_end (ρ' := [(4, _), (7, _)]) ⟨rfl, rfl, trivial⟩ ?_
          refine q_then ?_
          refine wc_seq ?_
          refine wc_region ?_
          refine rl_y (y_load_p rfl Tryd.k38 rfl rfl rfl (vs := [_, _, _, _]) rfl rfl rfl) rfl ?_
          refine rl_do rfl rfl ?_
          refine do_store_p trivial rfl Tryd.k38 rfl rfl rfl (vs := [_, _, _, _]) rfl rfl (by first | rfl | exact oneAll | exact oneAll2 | simp [Value.oneCell', str]) (Nat.le_of_ble_eq_true rfl) rfl ?_
          refine rl_y (y_assign rfl rfl) rfl ?_
          refine rl_end (ρ' := [(4, _), (5, _)]) ⟨rfl, rfl, trivial⟩ ?_
          refine q_then ?_
          refine wc_ret ?_
          refine q_block_ret ?_
          refine q_then_ret ?_
          refine q_then_ret ?_
          refine q_block_ret ?_
          refine q_then_ret ?_
          refine fin2 (.cell rfl rfl Tryd.k38 (cs := _) (vs := [_, _, _, _]) rfl rfl rfl) (.tmp rfl) ?_
          have h6 := of_decide_eq_true hb6
          rw [if_pos ⟨h6, hne⟩] at hst
          rw [hinv, hst]
          exact ⟨_, rfl, ⟨_, rfl, inlS_of rfl hk1 hk2⟩⟩
        ·
          refine wc_skip ?_
          refine q_block ?_
          refine q_then ?_
          refine wc_region ?_
          refine rl_y (y_add rfl rfl rfl (wrap64_id (by omega))) rfl ?_
          refine rl_y (y_move rfl rfl) rfl ?_
          refine rl_end (ρ' := [(1, _), (4, _), (11, _), (12, _), (13, _)]) ⟨rfl, rfl, rfl, rfl, rfl, trivial⟩ ?_
          refine q_thenK ?_
          refine ⟨m - 1, [(1, _), (4, _), (11, _), (12, _), (13, _)], [(4, _)], by omega, ⟨rfl, rfl, rfl, rfl, rfl, trivial⟩, ⟨rfl, trivial⟩, i + 1, by omega, hle4, (by first | rfl | simp), (by first | rfl | (simp only [List.cons.injEq, Prod.mk.injEq, SV.v.injEq, Value.int.injEq, true_and, and_true]; omega) | simp), ?_⟩
          have h6 := of_decide_eq_false hb6
          rw [if_neg (fun h => h6 h.1)] at hst
          exact ⟨rfl, by rw [hinv, hst]⟩
      ·
        refine wc_exit ?_
        refine q_then_exit ?_
        refine q_then_exit ?_
        refine q_block_hit ?_
        refine q_then ?_
        refine wc_seq ?_
        refine wc_region ?_
        refine rl_y (y_build rfl Tryd.f38' Tryd.z38 (ps := []) rfl (vs := [_, _, _, _]) rfl) rfl ?_
        refine rl_do rfl rfl ?_
        refine do_store_p trivial rfl Tryd.k38 rfl rfl rfl (vs := [_, _, _, _]) rfl rfl (by first | rfl | exact oneAll | exact oneAll2 | simp [Value.oneCell', str]) (Nat.le_of_ble_eq_true rfl) rfl ?_
        refine rl_y (y_assign rfl rfl) rfl ?_
        refine rl_end (ρ' := [(4, _), (5, _)]) ⟨rfl, rfl, trivial⟩ ?_
        refine q_then ?_
        refine wc_ret ?_
        refine fin2 (.cell rfl rfl Tryd.k38 (cs := _) (vs := [_, _, _, _]) rfl rfl rfl) (.tmp rfl) ?_
        have hge := of_decide_eq_false hb4
        rw [hinv, List.drop_eq_nil_of_le (by omega)]
        exact ⟨[str [], str [], str [], .slice none 0 0], rfl, num0_C _⟩

/-- the text of a kind -/
def knS (n : Nat) : Bs := if n = 0 then [] else kindS n
def kindOfS (k : Int) (free : Bool) (inf id : Bs) : Bs := if k = 2 ∧ free = true then secS else knS (kindN k inf id)
theorem kindOf_fn (k lv : Int) (inf t d ti id : Bs) (vc vp vl vk : Value) (free : Bool) (u : View) : FnP Tryd.prog 30 [.agg (blkV k lv inf t d ti id vc vp vl vk).toArray, .bool free] u fun r _ => r = str (kindOfS k free inf id) := by
  refine FnP.intro [.tmp 4] Tryd.func30 rfl rfl rfl ?_
  intro w0 D hw0
  refine wc_seq ?_
  refine wc_region ?_
  refine rl_do rfl rfl ?_
  refine do_box trivial rfl (cs := [_, _, _, _, _, _, _, _, _, _, _]) rfl rfl rfl rfl ?_
  refine rl_y (y_assign rfl rfl) rfl ?_
  refine rl_end (ρ' := [(1, _), (2, _)]) ⟨rfl, rfl, trivial⟩ ?_
  refine q_then ?_
  refine wc_seq ?_
  refine wc_block ?_
  refine wc_seq ?_
  refine wc_cutB 5 (decide (k = 2 ∧ free = true)) (ρk := [(2, _)]) ⟨rfl, trivial⟩ ?_ ?_
  ·
    refine wc_region ?_
    refine rl_y (y_field_p rfl Tryd.f42' rfl (by decide) rfl) rfl ?_
    refine rl_y (y_load_p rfl Tryd.k3 rfl rfl rfl (vs := [_]) rfl rfl rfl) rfl ?_
    refine rl_y (y_eql rfl rfl rfl) rfl ?_
    refine rl_y (y_move rfl rfl) rfl ?_
    rcases Bool.eq_false_or_eq_true (decide (k = 2)) with hg1_3 | hg1_3
    ·
      simp only [hg1_3]
      refine rl_on rfl rfl ?_
      refine rl_y (y_move rfl rfl) rfl ?_
      refine rl_y (y_pick_t rfl rfl rfl) rfl ?_
      refine rl_y (y_assign rfl rfl) rfl ?_
      exact cutB_end rfl ⟨rfl, trivial⟩ (by simp_all)
    ·
      simp only [hg1_3]
      refine rl_off rfl rfl rfl rfl ?_
      refine rl_y (y_pick_f rfl rfl rfl) rfl ?_
      refine rl_y (y_assign rfl rfl) rfl ?_
      exact cutB_end rfl ⟨rfl, trivial⟩ (by simp_all)
  refine q_then ?_
  refine wc_cond rfl (fun hb1 => ?_) (fun hb1 => ?_)
  ·
    refine wc_seq ?_
    refine wc_region ?_
    refine rl_y (y_assign rfl rfl) rfl ?_
    refine rl_end (ρ' := [(4, _)]) ⟨rfl, trivial⟩ ?_
    refine q_then ?_
    refine wc_ret ?_
    refine q_block_ret ?_
    refine q_then_ret ?_
    refine fin1 (.tmp rfl) ?_
    rw [kindOfS, if_pos (of_decide_eq_true hb1)]; rfl
  ·
    refine wc_seq ?_
    refine wc_cutB 12 (decide (k = 13 ∧ (inf = figS ∨ inf = tabS))) (ρk := [(2, _)]) ⟨rfl, trivial⟩ ?_ ?_
    ·
      refine wc_region ?_
      refine rl_y (y_field_p rfl Tryd.f42' rfl (by decide) rfl) rfl ?_
      refine rl_y (y_load_p rfl Tryd.k3 rfl rfl rfl (vs := [_]) rfl rfl rfl) rfl ?_
      refine rl_y (y_eql rfl rfl rfl) rfl ?_
      refine rl_y (y_move rfl rfl) rfl ?_
      rcases Bool.eq_false_or_eq_true (decide (k = 13)) with hg3_3 | hg3_3
      ·
        simp only [hg3_3]
        refine rl_on rfl rfl ?_
        refine rl_y (y_field_p rfl Tryd.f42' rfl (by decide) rfl) rfl ?_
        refine rl_on rfl rfl ?_
        refine rl_y (y_load_p rfl Tryd.k9 rfl rfl rfl (vs := [_]) rfl rfl rfl) rfl ?_
        refine rl_on rfl rfl ?_
        refine rl_y (y_str_eql rfl rfl rfl) rfl ?_
        refine rl_on rfl rfl ?_
        refine rl_y (y_move rfl rfl) rfl ?_
        rcases Bool.eq_false_or_eq_true (decide (inf = figS)) with hg3_7 | hg3_7
        ·
          simp only [hg3_7]
          refine rl_off rfl rfl rfl rfl ?_
          refine rl_off rfl rfl rfl rfl ?_
          refine rl_off rfl rfl rfl rfl ?_
          refine rl_on rfl rfl ?_
          refine rl_y (y_pick_t rfl rfl rfl) rfl ?_
          refine rl_y (y_pick_t rfl rfl rfl) rfl ?_
          refine rl_y (y_assign rfl rfl) rfl ?_
          exact cutB_end rfl ⟨rfl, trivial⟩ (by simp_all)
        ·
          simp only [hg3_7]
          refine rl_on rfl rfl ?_
          refine rl_y (y_field_p rfl Tryd.f42' rfl (by decide) rfl) rfl ?_
          refine rl_on rfl rfl ?_
          refine rl_y (y_load_p rfl Tryd.k9 rfl rfl rfl (vs := [_]) rfl rfl rfl) rfl ?_
          refine rl_on rfl rfl ?_
          refine rl_y (y_str_eql rfl rfl rfl) rfl ?_
          refine rl_on rfl rfl ?_
          refine rl_y (y_pick_f rfl rfl rfl) rfl ?_
          refine rl_y (y_pick_t rfl rfl rfl) rfl ?_
          refine rl_y (y_assign rfl rfl) rfl ?_
          exact cutB_end rfl ⟨rfl, trivial⟩ (by simp_all)
      ·
        simp only [hg3_3]
        refine rl_off rfl rfl rfl rfl ?_
        refine rl_off rfl rfl rfl rfl ?_
        refine rl_off rfl rfl rfl rfl ?_
        refine rl_off rfl rfl rfl rfl ?_
        refine rl_off_u rfl rfl rfl ?_
        refine rl_off_u rfl rfl rfl ?_
        refine rl_off_u rfl rfl rfl ?_
        refine rl_off rfl rfl rfl rfl ?_
        refine rl_y (y_pick_f rfl rfl rfl) rfl ?_
        refine rl_y (y_assign rfl rfl) rfl ?_
        exact cutB_end rfl ⟨rfl, trivial⟩ (by simp_all)
    refine q_then ?_
    refine wc_cond rfl (fun hb3 => ?_) (fun hb3 => ?_)
    ·
      refine wc_seq ?_
      refine wc_region ?_
      refine rl_y (y_field_p rfl Tryd.f42' rfl (by decide) rfl) rfl ?_
      refine rl_y (y_load_p rfl Tryd.k9 rfl rfl rfl (vs := [_]) rfl rfl rfl) rfl ?_
      refine rl_y (y_assign rfl rfl) rfl ?_
      refine rl_end (ρ' := [(4, _)]) ⟨rfl, trivial⟩ ?_
      refine q_then ?_
      refine wc_ret ?_
      refine q_block_ret ?_
      refine q_then_ret ?_
      refine fin1 (.tmp rfl) ?_
      rw [kindOfS, if_neg (of_decide_eq_false hb1)]
      obtain ⟨hk, h | h⟩ := of_decide_eq_true hb3
      · rw [h, hk]; rfl
      · rw [h, hk]; rfl
    ·
      refine wc_seq ?_
      refine wc_cutB 28 (decide (k = 4 ∧ id ≠ [])) (ρk := []) trivial ?_ ?_
      ·
        refine wc_region ?_
        refine rl_y (y_field_p rfl Tryd.f42' rfl (by decide) rfl) rfl ?_
        refine rl_y (y_load_p rfl Tryd.k3 rfl rfl rfl (vs := [_]) rfl rfl rfl) rfl ?_
        refine rl_y (y_eql rfl rfl rfl) rfl ?_
        refine rl_y (y_move rfl rfl) rfl ?_
        rcases Bool.eq_false_or_eq_true (decide (k = 4)) with hg5_3 | hg5_3
        ·
          simp only [hg5_3]
          refine rl_on rfl rfl ?_
          refine rl_y (y_field_p rfl Tryd.f42' rfl (by decide) rfl) rfl ?_
          refine rl_on rfl rfl ?_
          refine rl_y (y_field_p rfl Tryd.f40' rfl (by decide) rfl) rfl ?_
          refine rl_on rfl rfl ?_
          refine rl_y (y_load_p rfl Tryd.k9 rfl rfl rfl (vs := [_]) rfl rfl rfl) rfl ?_
          refine rl_on rfl rfl ?_
          refine rl_y (y_str_neq rfl rfl rfl) rfl ?_
          refine rl_y (y_pick_t rfl rfl rfl) rfl ?_
          refine rl_y (y_assign rfl rfl) rfl ?_
          exact cutB_end rfl trivial (by simp_all)
        ·
          simp only [hg5_3]
          refine rl_off rfl rfl rfl rfl ?_
          refine rl_off rfl rfl rfl rfl ?_
          refine rl_off rfl rfl rfl rfl ?_
          refine rl_off rfl rfl rfl rfl ?_
          refine rl_y (y_pick_f rfl rfl rfl) rfl ?_
          refine rl_y (y_assign rfl rfl) rfl ?_
          exact cutB_end rfl trivial (by simp_all)
      refine q_then ?_
      refine wc_cond rfl (fun hb5 => ?_) (fun hb5 => ?_)
      ·
        refine wc_seq ?_
        refine wc_region ?_
        refine rl_y (y_assign rfl rfl) rfl ?_
        refine rl_end (ρ' := [(4, _)]) ⟨rfl, trivial⟩ ?_
        refine q_then ?_
        refine wc_ret ?_
        refine q_block_ret ?_
        refine q_then_ret ?_
        refine fin1 (.tmp rfl) ?_
        rw [kindOfS, if_neg (of_decide_eq_false hb1)]
        have h5 := of_decide_eq_true hb5
        rw [kindN, if_neg (by omega), if_neg (by omega), if_pos h5]; rfl
      ·
        refine wc_skip ?_
        refine q_block ?_
        refine q_then ?_
        refine wc_seq ?_
        refine wc_region ?_
        refine rl_y (y_assign rfl rfl) rfl ?_
        refine rl_end (ρ' := [(4, _)]) ⟨rfl, trivial⟩ ?_
        refine q_then ?_
        refine wc_ret ?_
        refine fin1 (.tmp rfl) ?_
        rw [kindOfS, if_neg (of_decide_eq_false hb1)]
        have h3 := of_decide_eq_false hb3
        rw [kindN, if_neg (fun h => h3 ⟨h.1, .inl h.2⟩), if_neg (fun h => h3 ⟨h.1, .inr h.2⟩), if_neg (of_decide_eq_false hb5)]; rfl
end Go.Proofs.Ythnboadnehbciaa
