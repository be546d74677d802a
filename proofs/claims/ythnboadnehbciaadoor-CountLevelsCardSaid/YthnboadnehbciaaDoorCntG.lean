/- Count: the reference's parts. -/
import Derived.Test.YthnboadnehbciaaDoorCntF
namespace Go.Proofs.Ythnboadnehbciaa
open Go Go.Eng
set_option linter.unusedSimpArgs false
set_option linter.unusedVariables false
set_option maxRecDepth 4000

abbrev figS : Bs := [102, 105, 103, 117, 114, 101]
abbrev tabS : Bs := [116, 97, 98, 108, 101]
abbrev equS : Bs := [101, 113, 117, 97, 116, 105, 111, 110]
abbrev secS : Bs := [115, 101, 99, 116, 105, 111, 110]
abbrev notS : Bs := [110, 111, 116, 101]

def kindN (k : Int) (inf id : Bs) : Nat := if k = 13 ∧ inf = figS then 1 else if k = 13 ∧ inf = tabS then 2 else if k = 4 ∧ id ≠ [] then 3 else 0
theorem kind_fn (k lv : Int) (inf t d ti id : Bs) (vc vp vl vk : Value) (u : View) : FnP Tryd.prog 50 [.agg (blkV k lv inf t d ti id vc vp vl vk).toArray] u fun r _ => r = .int .i64 (kindN k inf id : Nat) := by
  refine FnP.intro [.tmp 2] Tryd.func50 rfl rfl rfl ?_
  intro w0 D hw0
  refine wc_seq ?_
  refine wc_region ?_
  refine rl_do rfl rfl ?_
  refine do_box trivial rfl (cs := [_, _, _, _, _, _, _, _, _, _, _]) rfl rfl rfl rfl ?_
  refine rl_y (y_assign rfl rfl) rfl ?_
  refine rl_end (ρ' := [(1, _)]) ⟨rfl, trivial⟩ ?_
  refine q_then ?_
  refine wc_seq ?_
  refine wc_seq ?_
  refine wc_cutB 10 (decide (k = 13 ∧ inf = figS)) (ρk := [(1, _)]) ⟨rfl, trivial⟩ ?_ ?_
  ·
    refine wc_region ?_
    refine rl_y (y_field_p rfl Tryd.f42' rfl (by decide) rfl) rfl ?_
    refine rl_y (y_load_p rfl Tryd.k3 rfl rfl rfl (vs := [_]) rfl rfl rfl) rfl ?_
    refine rl_y (y_eql rfl rfl rfl) rfl ?_
    refine rl_y (y_move rfl rfl) rfl ?_
    rcases Bool.eq_false_or_eq_true (decide (k = 13)) with hg1_3 | hg1_3
    ·
      simp only [hg1_3]
      refine rl_on rfl rfl ?_
      refine rl_y (y_field_p rfl Tryd.f42' rfl (by decide) rfl) rfl ?_
      refine rl_on rfl rfl ?_
      refine rl_y (y_load_p rfl Tryd.k9 rfl rfl rfl (vs := [_]) rfl rfl rfl) rfl ?_
      refine rl_on rfl rfl ?_
      refine rl_y (y_str_eql rfl rfl rfl) rfl ?_
      refine rl_y (y_pick_t rfl rfl rfl) rfl ?_
      exact cutB_end rfl ⟨rfl, trivial⟩ (by simp_all)
    ·
      simp only [hg1_3]
      refine rl_off rfl rfl rfl rfl ?_
      refine rl_off rfl rfl rfl rfl ?_
      refine rl_off rfl rfl rfl rfl ?_
      refine rl_y (y_pick_f rfl rfl rfl) rfl ?_
      exact cutB_end rfl ⟨rfl, trivial⟩ (by simp_all)
  refine q_then ?_
  refine wc_cond rfl (fun hb1 => ?_) (fun hb1 => ?_)
  ·
    refine wc_seq ?_
    refine wc_region ?_
    refine rl_y (y_assign rfl rfl) rfl ?_
    refine rl_end (ρ' := [(2, _)]) ⟨rfl, trivial⟩ ?_
    refine q_then ?_
    refine wc_ret ?_
    refine q_then_ret ?_
    refine fin1 (.tmp rfl) ?_
    rw [kindN, if_pos (of_decide_eq_true hb1)]; rfl
  ·
    refine wc_skip ?_
    refine q_then ?_
    refine wc_seq ?_
    refine wc_seq ?_
    refine wc_cutB 18 (decide (k = 13 ∧ inf = tabS)) (ρk := [(1, _)]) ⟨rfl, trivial⟩ ?_ ?_
    ·
      refine wc_region ?_
      refine rl_y (y_field_p rfl Tryd.f42' rfl (by decide) rfl) rfl ?_
      refine rl_y (y_load_p rfl Tryd.k3 rfl rfl rfl (vs := [_]) rfl rfl rfl) rfl ?_
      refine rl_y (y_eql rfl rfl rfl) rfl ?_
      refine rl_y (y_move rfl rfl) rfl ?_
      rcases Bool.eq_false_or_eq_true (decide (k = 13)) with hg3_3 | hg3_3
      ·
        simp only [hg3_3]
        refine rl_on rfl rfl ?_
        refine rl_y (y_field_p rfl Tryd.f42' rfl (by decide) rfl) rfl ?_
        refine rl_on rfl rfl ?_
        refine rl_y (y_load_p rfl Tryd.k9 rfl rfl rfl (vs := [_]) rfl rfl rfl) rfl ?_
        refine rl_on rfl rfl ?_
        refine rl_y (y_str_eql rfl rfl rfl) rfl ?_
        refine rl_y (y_pick_t rfl rfl rfl) rfl ?_
        exact cutB_end rfl ⟨rfl, trivial⟩ (by simp_all)
      ·
        simp only [hg3_3]
        refine rl_off rfl rfl rfl rfl ?_
        refine rl_off rfl rfl rfl rfl ?_
        refine rl_off rfl rfl rfl rfl ?_
        refine rl_y (y_pick_f rfl rfl rfl) rfl ?_
        exact cutB_end rfl ⟨rfl, trivial⟩ (by simp_all)
    refine q_then ?_
    refine wc_cond rfl (fun hb3 => ?_) (fun hb3 => ?_)
    ·
      refine wc_seq ?_
      refine wc_region ?_
      refine rl_y (y_assign rfl rfl) rfl ?_
      refine rl_end (ρ' := [(2, _)]) ⟨rfl, trivial⟩ ?_
      refine q_then ?_
      refine wc_ret ?_
      refine q_then_ret ?_
      refine fin1 (.tmp rfl) ?_
      rw [kindN, if_neg (of_decide_eq_false hb1), if_pos (of_decide_eq_true hb3)]; rfl
    ·
      refine wc_skip ?_
      refine q_then ?_
      refine wc_seq ?_
      refine wc_seq ?_
      refine wc_cutB 27 (decide (k = 4 ∧ id ≠ [])) (ρk := []) trivial ?_ ?_
      ·
        refine wc_region ?_
        refine rl_y (y_field_p rfl Tryd.f42' rfl (by decide) rfl) rfl ?_
        refine rl_y (y_load_p rfl Tryd.k3 rfl rfl rfl (vs := [_]) rfl rfl rfl) rfl ?_
        refine rl_y (y_eql rfl rfl rfl) rfl ?_
        refine rl_y (y_move rfl rfl) rfl ?_
        rcases Bool.eq_false_or_eq_true (decide (k = 4)) with hg5_3 | hg5_3
        ·
          simp only [hg5_3]
          refine rl_on rfl rfl ?_
          refine rl_y (y_field_p rfl Tryd.f42' rfl (by decide) rfl) rfl ?_
          refine rl_on rfl rfl ?_
          refine rl_y (y_field_p rfl Tryd.f40' rfl (by decide) rfl) rfl ?_
          refine rl_on rfl rfl ?_
          refine rl_y (y_load_p rfl Tryd.k9 rfl rfl rfl (vs := [_]) rfl rfl rfl) rfl ?_
          refine rl_on rfl rfl ?_
          refine rl_y (y_str_neq rfl rfl rfl) rfl ?_
          refine rl_y (y_pick_t rfl rfl rfl) rfl ?_
          exact cutB_end rfl trivial (by simp_all)
        ·
          simp only [hg5_3]
          refine rl_off rfl rfl rfl rfl ?_
          refine rl_off rfl rfl rfl rfl ?_
          refine rl_off rfl rfl rfl rfl ?_
          refine rl_off rfl rfl rfl rfl ?_
          refine rl_y (y_pick_f rfl rfl rfl) rfl ?_
          exact cutB_end rfl trivial (by simp_all)
      refine q_then ?_
      refine wc_cond rfl (fun hb5 => ?_) (fun hb5 => ?_)
      ·
        refine wc_seq ?_
        refine wc_region ?_
        refine rl_y (y_assign rfl rfl) rfl ?_
        refine rl_end (ρ' := [(2, _)]) ⟨rfl, trivial⟩ ?_
        refine q_then ?_
        refine wc_ret ?_
        refine q_then_ret ?_
        refine fin1 (.tmp rfl) ?_
        rw [kindN, if_neg (of_decide_eq_false hb1), if_neg (of_decide_eq_false hb3), if_pos (of_decide_eq_true hb5)]; rfl
      ·
        refine wc_skip ?_
        refine q_then ?_
        refine wc_seq ?_
        refine wc_region ?_
        refine rl_y (y_assign rfl rfl) rfl ?_
        refine rl_end (ρ' := [(2, _)]) ⟨rfl, trivial⟩ ?_
        refine q_then ?_
        refine wc_ret ?_
        refine fin1 (.tmp rfl) ?_
        rw [kindN, if_neg (of_decide_eq_false hb1), if_neg (of_decide_eq_false hb3), if_neg (of_decide_eq_false hb5)]; rfl

/-- the line of the first paragraph -/
def firstPara : List Blk → List Inl
  | [] => []
  | .mk k _ _ _ _ _ _ line _ :: bs => if k = 1 then line else firstPara bs
/-- .. that is not the first element -/
def capOf (bs : List Blk) : List Inl := firstPara (bs.drop 1)
theorem firstPara_drop {bs : List Blk} {i : Nat} {k lv : Int} {inf t d ti : Bs} {a : DAttr} {line : List Inl} {kids : List Blk} (h : bs[i]? = some (.mk k lv inf t d ti a line kids)) : firstPara (bs.drop i) = if k = 1 then line else firstPara (bs.drop (i + 1)) := by
  obtain ⟨h1, h2⟩ := List.getElem?_eq_some_iff.1 h
  rw [List.drop_eq_getElem_cons h1, h2, firstPara]
theorem caption_fn (v : Value) (bs : List Blk) (hl : bs.length ≤ 1000000) (u : View) (ha : BlkS u v bs) : FnP Tryd.prog 65 [v] u fun r u' => InlS u' r (capOf bs) := by
  obtain ⟨cs, ⟨ad, cap, rfl, h1⟩, hc1⟩ := ha
  refine FnP.intro [.tmp 2] Tryd.func65 rfl rfl rfl ?_
  intro w0 D hw0
  refine wc_seq ?_
  refine wc_region ?_
  refine rl_y (y_assign rfl rfl) rfl ?_
  refine rl_end (ρ' := [(0, _)]) ⟨rfl, trivial⟩ ?_
  refine q_then ?_
  refine wc_seq ?_
  refine wc_seq ?_
  refine wc_region ?_
  refine rl_y (y_assign rfl rfl) rfl ?_
  refine rl_end (ρ' := [(0, _), (3, _)]) ⟨rfl, rfl, trivial⟩ ?_
  refine q_then ?_
  refine wc_block ?_
  refine wc_loop (fun m ρ σ u' => ∃ i : Nat, i + m = bs.length ∧ VLe u u' ∧ σ = [] ∧ ρ = [(0, .v (.slice ad bs.length cap)), (3, .v (.int .i64 (i + 1 : Nat)))] ∧ (u = u' ∧ capOf bs = firstPara (bs.drop (i + 1)))) (bs.length) ?_ ?_
  ·
    refine ⟨[(0, _), (3, _)], [], ⟨rfl, rfl, trivial⟩, trivial, 0, by omega, VLe.refl _, (by first | rfl | simp), (by first | rfl | (simp only [List.cons.injEq, Prod.mk.injEq, SV.v.injEq, Value.int.injEq, true_and, and_true]; omega) | simp), ?_⟩
    exact ⟨rfl, rfl⟩
  ·
    rintro m ρ σ u' ⟨i, hi2, hle2, rfl, rfl, ⟨rfl, hinv⟩⟩
    refine wc_seq ?_
    refine wc_seq ?_
    refine wc_region ?_
    refine rl_y (y_move rfl rfl) rfl ?_
    refine rl_y (y_move rfl rfl) rfl ?_
    refine rl_y (y_len_v rfl rfl Tryd.s23 rfl) rfl ?_
    refine rl_y (y_lss rfl rfl rfl) rfl ?_
    refine rl_end (ρ' := [(0, _), (3, _), (7, _)]) ⟨rfl, rfl, rfl, trivial⟩ ?_
    refine q_then ?_
    refine wc_cond rfl (fun hb2 => ?_) (fun hb2 => ?_)
    ·
      refine wc_skip ?_
      refine q_then ?_
      refine wc_seq ?_
      refine wc_block ?_
      refine wc_seq ?_
      have hlt := of_decide_eq_true hb2
      obtain ⟨k, lv, inf, t, d, ti, a, line, kids, vc, vp, vl, vk, hg, hcut1, s1, s2, s3, s4, hok⟩ := hc1.at (i := i + 1) (by omega)
      have hst := firstPara_drop hg
      refine wc_region ?_
      refine rl_y (y_move rfl rfl) rfl ?_
      refine rl_y (y_move rfl rfl) rfl ?_
      refine rl_y (y_index_e rfl Tryd.s23 rfl rfl (by assumption) (by first | rfl | omega) (by omega)) rfl ?_
      refine rl_y (y_field_e rfl Tryd.f42' rfl (by decide) rfl) rfl ?_
      refine rl_y (y_load_el rfl Tryd.k3 rfl (by assumption) (by omega) (by assumption) (vs := [_]) rfl rfl rfl rfl) rfl ?_
      refine rl_y (y_eql rfl rfl rfl) rfl ?_
      refine rl_end (ρ' := [(0, _), (3, _), (15, _)]) ⟨rfl, rfl, rfl, trivial⟩ ?_
      refine q_then ?_
      refine wc_cond rfl (fun hb4 => ?_) (fun hb4 => ?_)
      ·
        refine wc_seq ?_
        refine wc_region ?_
        refine rl_y (y_move rfl rfl) rfl ?_
        refine rl_y (y_move rfl rfl) rfl ?_
        refine rl_y (y_index_e rfl Tryd.s23 rfl rfl (by assumption) (by first | rfl | omega) (by omega)) rfl ?_
        refine rl_y (y_field_e rfl Tryd.f42' rfl (by decide) rfl) rfl ?_
        refine rl_y (y_load_el rfl Tryd.k36 rfl (by assumption) (by omega) (by assumption) (vs := [_]) rfl rfl rfl rfl) rfl ?_
        refine rl_y (y_assign rfl rfl) rfl ?_
        refine rl_end (ρ' := [(2, _)]) ⟨rfl, trivial⟩ ?_
        refine q_then ?_
        refine wc_ret ?_
        refine q_block_ret ?_
        refine q_then_ret ?_
        refine q_then_ret ?_
        refine q_block_ret ?_
        refine q_then_ret ?_
        refine fin1 (.tmp rfl) ?_
        rw [hinv, hst, if_pos (of_decide_eq_true hb4)]
        exact s3
      ·
        refine wc_skip ?_
        refine q_block ?_
        refine q_then ?_
        refine wc_region ?_
        refine rl_y (y_move rfl rfl) rfl ?_
        refine rl_y (y_add rfl rfl rfl (wrap64_id (by omega))) rfl ?_
        refine rl_y (y_assign rfl rfl) rfl ?_
        refine rl_end (ρ' := [(0, _), (3, _)]) ⟨rfl, rfl, trivial⟩ ?_
        refine q_thenK ?_
        refine ⟨m - 1, [(0, _), (3, _)], [], by omega, ⟨rfl, rfl, trivial⟩, trivial, i + 1, by omega, hle2, (by first | rfl | simp), (by first | rfl | (simp only [List.cons.injEq, Prod.mk.injEq, SV.v.injEq, Value.int.injEq, true_and, and_true]; omega) | simp), ?_⟩
        rw [if_neg (of_decide_eq_false hb4)] at hst
        exact ⟨rfl, by rw [hinv, hst]⟩
    ·
      refine wc_exit ?_
      refine q_then_exit ?_
      refine q_then_exit ?_
      refine q_block_hit ?_
      refine q_then ?_
      refine wc_seq ?_
      refine wc_region ?_
      refine rl_y (y_assign rfl rfl) rfl ?_
      refine rl_end (ρ' := [(2, _)]) ⟨rfl, trivial⟩ ?_
      refine q_then ?_
      refine wc_ret ?_
      refine fin1 (.tmp rfl) ?_
      have hge := of_decide_eq_false hb2
      rw [hinv, List.drop_eq_nil_of_le (by omega)]
      exact nilInl _

def capIf (k : Int) (kids : List Blk) : List Inl := if k = 13 then capOf kids else []
theorem one_fn (k lv : Int) (inf t d ti id : Bs) (vc vp vl vk : Value) (kids : List Blk) (kd : Bs) (n : Nat) (hn : n ≤ 1000000) (hk : kids.length ≤ 1000000) (u : View) (hs : BlkS u vk kids) :
    FnP Tryd.prog 51 [.agg (blkV k lv inf t d ti id vc vp vl vk).toArray, str kd, .int .i64 n] u fun r u' => ∃ vl', r = .agg #[str id, str kd, str (dec n), vl'] ∧ InlS u' vl' (capIf k kids) := by
  refine FnP.intro [.cell 6 38] Tryd.func51 rfl rfl rfl ?_
  intro w0 D hw0
  refine wc_seq ?_
  refine wc_region ?_
  refine rl_do rfl rfl ?_
  refine do_box trivial rfl (cs := [_, _, _, _, _, _, _, _, _, _, _]) rfl rfl rfl rfl ?_
  refine rl_do rfl rfl ?_
  refine do_alloc trivial Tryd.z38 rfl rfl rfl ?_
  refine rl_end (ρ' := [(1, _), (2, _), (3, _), (6, _)]) ⟨rfl, rfl, rfl, rfl, trivial⟩ ?_
  refine q_then ?_
  refine wc_seq ?_
  refine wc_draw Tryd.mixed rfl [(3, _)] ⟨rfl, trivial⟩ ?_
  refine ra_y (i := 0) rfl (by kernel_rfl) (by kernel_rfl) (by kernel_rfl) (np_then (np_fin)) (y_field_p rfl Tryd.f42' rfl (by decide) rfl) rfl ?_
  refine ra_y (i := 1) rfl (by kernel_rfl) (by kernel_rfl) (by kernel_rfl) (np_then (np_fin)) (y_field_p rfl Tryd.f40' rfl (by decide) rfl) rfl ?_
  refine ra_y (i := 2) rfl (by kernel_rfl) (by kernel_rfl) (by kernel_rfl) (np_then (np_fin)) (y_load_p rfl Tryd.k9 rfl rfl rfl (vs := [_]) rfl rfl rfl) rfl ?_
  refine ra_y (i := 3) rfl (by kernel_rfl) (by kernel_rfl) (by kernel_rfl) (np_then (np_fin)) (y_move rfl rfl) rfl ?_
  refine ra_y (i := 4) rfl (by kernel_rfl) (by kernel_rfl) (by kernel_rfl) (np_then (np_fin)) (y_move rfl rfl) rfl ?_
  refine ra_all (is := [5, 7]) (by kernel_rfl) rfl ?_
  refine raall_cons rfl rfl ?_ ?_
  ·
    refine do_call_f (caps := []) ⟨rfl, trivial⟩ rfl rfl Tryd.c35 rfl (FnP.mono (num_fn n (by omega) u) ?_)
    rintro v u1 hle1 rfl
    refine ra_y (i := 6) rfl (by kernel_rfl) (by kernel_rfl) (by kernel_rfl) (np_then (np_fin)) (y_build rfl Tryd.f38' Tryd.z38 (ps := [(_, _), (_, _), (_, _)]) rfl (vs := [_, _, _, _]) rfl) rfl ?_
    refine ra_do (i := 7) rfl rfl (by kernel_rfl) ?_
    refine do_alloc ⟨rfl, trivial⟩ Tryd.z38 rfl rfl rfl ?_
    refine ra_do (i := 8) rfl rfl (by kernel_rfl) ?_
    refine do_store_p ⟨rfl, trivial⟩ rfl Tryd.k38 rfl rfl rfl (vs := [_, _, _, _]) rfl rfl (by first | rfl | exact oneAll | exact oneAll2 | simp [Value.oneCell', str]) (Nat.le_of_ble_eq_true rfl) rfl ?_
    refine ra_end (by kernel_rfl) (ρ' := [(3, _), (6, _), (7, _)]) ⟨rfl, rfl, rfl, trivial⟩ ?_
    refine q_then ?_
    refine wc_seq ?_
    refine wc_seq ?_
    refine wc_region ?_
    refine rl_y (y_field_p rfl Tryd.f42' rfl (by decide) rfl) rfl ?_
    refine rl_y (y_load_p rfl Tryd.k3 rfl rfl rfl (vs := [_]) rfl rfl rfl) rfl ?_
    refine rl_y (y_eql rfl rfl rfl) rfl ?_
    refine rl_end (ρ' := [(3, _), (6, _), (7, _), (17, _)]) ⟨rfl, rfl, rfl, rfl, trivial⟩ ?_
    refine q_then ?_
    refine wc_cond rfl (fun hb2 => ?_) (fun hb2 => ?_)
    ·
      refine wc_region ?_
      refine rl_y (y_field_p rfl Tryd.f42' rfl (by decide) rfl) rfl ?_
      refine rl_y (y_load_p rfl Tryd.k23 rfl rfl rfl (vs := [_]) rfl rfl rfl) rfl ?_
      refine rl_do rfl rfl ?_
      refine do_call (caps := []) trivial rfl rfl Tryd.c65 rfl (FnP.mono (caption_fn vk kids hk u hs) ?_)
      rintro v u1 hle0 ⟨ccs, ⟨cad, ccap, rfl, hcs⟩, hcc⟩ hle1
      refine rl_y (y_field_p rfl Tryd.f38' rfl (by decide) rfl) rfl ?_
      refine rl_do rfl rfl ?_
      refine do_store_p trivial rfl Tryd.k36 rfl rfl rfl (vs := [_]) rfl rfl (by first | rfl | exact oneAll | exact oneAll2 | simp [Value.oneCell', str]) (Nat.le_of_ble_eq_true rfl) rfl ?_
      refine rl_end (ρ' := [(6, _), (7, _)]) ⟨rfl, rfl, trivial⟩ ?_
      refine q_then ?_
      refine wc_seq ?_
      refine wc_region ?_
      refine rl_y (y_load_p rfl Tryd.k38 rfl rfl rfl (vs := [_, _, _, _]) rfl rfl rfl) rfl ?_
      refine rl_do rfl rfl ?_
      refine do_store_p trivial rfl Tryd.k38 rfl rfl rfl (vs := [_, _, _, _]) rfl rfl (by first | rfl | exact oneAll | exact oneAll2 | simp [Value.oneCell', str]) (Nat.le_of_ble_eq_true rfl) rfl ?_
      refine rl_end (ρ' := [(6, _)]) ⟨rfl, trivial⟩ ?_
      refine q_then ?_
      refine wc_ret ?_
      refine fin1 (.cell rfl rfl Tryd.k38 (cs := _) (vs := [_, _, _, _]) rfl rfl rfl) ?_
      first | exact ⟨_, rfl, by rw [capIf, if_pos (of_decide_eq_true hb2)]; exact inlS_of rfl hcs hcc⟩ | exact ⟨_, rfl, by rw [capIf, if_neg (of_decide_eq_false hb2)]; exact nilInl _⟩
    ·
      refine wc_skip ?_
      refine q_then ?_
      refine wc_seq ?_
      refine wc_region ?_
      refine rl_y (y_load_p rfl Tryd.k38 rfl rfl rfl (vs := [_, _, _, _]) rfl rfl rfl) rfl ?_
      refine rl_do rfl rfl ?_
      refine do_store_p trivial rfl Tryd.k38 rfl rfl rfl (vs := [_, _, _, _]) rfl rfl (by first | rfl | exact oneAll | exact oneAll2 | simp [Value.oneCell', str]) (Nat.le_of_ble_eq_true rfl) rfl ?_
      refine rl_end (ρ' := [(6, _)]) ⟨rfl, trivial⟩ ?_
      refine q_then ?_
      refine wc_ret ?_
      refine fin1 (.cell rfl rfl Tryd.k38 (cs := _) (vs := [_, _, _, _]) rfl rfl rfl) ?_
      first | exact ⟨_, rfl, by rw [capIf, if_pos (of_decide_eq_true hb2)]; exact inlS_of rfl hcs hcc⟩ | exact ⟨_, rfl, by rw [capIf, if_neg (of_decide_eq_false hb2)]; exact nilInl _⟩
  refine raall_cons rfl rfl ?_ ?_
  ·
    refine do_alloc ⟨rfl, trivial⟩ Tryd.z38 rfl rfl rfl ?_
    refine ra_do (i := 5) rfl rfl (by kernel_rfl) ?_
    refine do_call_f (caps := []) ⟨rfl, trivial⟩ rfl rfl Tryd.c35 rfl (FnP.mono (num_fn n (by omega) u) ?_)
    rintro v u1 hle1 rfl
    refine ra_y (i := 6) rfl (by kernel_rfl) (by kernel_rfl) (by kernel_rfl) (np_then (np_fin)) (y_build rfl Tryd.f38' Tryd.z38 (ps := [(_, _), (_, _), (_, _)]) rfl (vs := [_, _, _, _]) rfl) rfl ?_
    refine ra_do (i := 8) rfl rfl (by kernel_rfl) ?_
    refine do_store_p ⟨rfl, trivial⟩ rfl Tryd.k38 rfl rfl rfl (vs := [_, _, _, _]) rfl rfl (by first | rfl | exact oneAll | exact oneAll2 | simp [Value.oneCell', str]) (Nat.le_of_ble_eq_true rfl) rfl ?_
    refine ra_end (by kernel_rfl) (ρ' := [(3, _), (6, _), (7, _)]) ⟨rfl, rfl, rfl, trivial⟩ ?_
    refine q_then ?_
    refine wc_seq ?_
    refine wc_seq ?_
    refine wc_region ?_
    refine rl_y (y_field_p rfl Tryd.f42' rfl (by decide) rfl) rfl ?_
    refine rl_y (y_load_p rfl Tryd.k3 rfl rfl rfl (vs := [_]) rfl rfl rfl) rfl ?_
    refine rl_y (y_eql rfl rfl rfl) rfl ?_
    refine rl_end (ρ' := [(3, _), (6, _), (7, _), (17, _)]) ⟨rfl, rfl, rfl, rfl, trivial⟩ ?_
    refine q_then ?_
    refine wc_cond rfl (fun hb2 => ?_) (fun hb2 => ?_)
    ·
      refine wc_region ?_
      refine rl_y (y_field_p rfl Tryd.f42' rfl (by decide) rfl) rfl ?_
      refine rl_y (y_load_p rfl Tryd.k23 rfl rfl rfl (vs := [_]) rfl rfl rfl) rfl ?_
      refine rl_do rfl rfl ?_
      refine do_call (caps := []) trivial rfl rfl Tryd.c65 rfl (FnP.mono (caption_fn vk kids hk u hs) ?_)
      rintro v u1 hle0 ⟨ccs, ⟨cad, ccap, rfl, hcs⟩, hcc⟩ hle1
      refine rl_y (y_field_p rfl Tryd.f38' rfl (by decide) rfl) rfl ?_
      refine rl_do rfl rfl ?_
      refine do_store_p trivial rfl Tryd.k36 rfl rfl rfl (vs := [_]) rfl rfl (by first | rfl | exact oneAll | exact oneAll2 | simp [Value.oneCell', str]) (Nat.le_of_ble_eq_true rfl) rfl ?_
      refine rl_end (ρ' := [(6, _), (7, _)]) ⟨rfl, rfl, trivial⟩ ?_
      refine q_then ?_
      refine wc_seq ?_
      refine wc_region ?_
      refine rl_y (y_load_p rfl Tryd.k38 rfl rfl rfl (vs := [_, _, _, _]) rfl rfl rfl) rfl ?_
      refine rl_do rfl rfl ?_
      refine do_store_p trivial rfl Tryd.k38 rfl rfl rfl (vs := [_, _, _, _]) rfl rfl (by first | rfl | exact oneAll | exact oneAll2 | simp [Value.oneCell', str]) (Nat.le_of_ble_eq_true rfl) rfl ?_
      refine rl_end (ρ' := [(6, _)]) ⟨rfl, trivial⟩ ?_
      refine q_then ?_
      refine wc_ret ?_
      refine fin1 (.cell rfl rfl Tryd.k38 (cs := _) (vs := [_, _, _, _]) rfl rfl rfl) ?_
      first | exact ⟨_, rfl, by rw [capIf, if_pos (of_decide_eq_true hb2)]; exact inlS_of rfl hcs hcc⟩ | exact ⟨_, rfl, by rw [capIf, if_neg (of_decide_eq_false hb2)]; exact nilInl _⟩
    ·
      refine wc_skip ?_
      refine q_then ?_
      refine wc_seq ?_
      refine wc_region ?_
      refine rl_y (y_load_p rfl Tryd.k38 rfl rfl rfl (vs := [_, _, _, _]) rfl rfl rfl) rfl ?_
      refine rl_do rfl rfl ?_
      refine do_store_p trivial rfl Tryd.k38 rfl rfl rfl (vs := [_, _, _, _]) rfl rfl (by first | rfl | exact oneAll | exact oneAll2 | simp [Value.oneCell', str]) (Nat.le_of_ble_eq_true rfl) rfl ?_
      refine rl_end (ρ' := [(6, _)]) ⟨rfl, trivial⟩ ?_
      refine q_then ?_
      refine wc_ret ?_
      refine fin1 (.cell rfl rfl Tryd.k38 (cs := _) (vs := [_, _, _, _]) rfl rfl rfl) ?_
      first | exact ⟨_, rfl, by rw [capIf, if_pos (of_decide_eq_true hb2)]; exact inlS_of rfl hcs hcc⟩ | exact ⟨_, rfl, by rw [capIf, if_neg (of_decide_eq_false hb2)]; exact nilInl _⟩
  exact raall_nil

/-! ### the first number with an identifier -/
def findN (id : Bs) (l : List DNum) : Option DNum := l.find? fun x => decide (x.id = id ∧ id ≠ [])
def num0 : DNum := ⟨[], [], [], []⟩
theorem findN_drop {id : Bs} {l : List DNum} {i : Nat} {x : DNum} (h : l[i]? = some x) : findN id (l.drop i) = if x.id = id ∧ id ≠ [] then some x else findN id (l.drop (i + 1)) := by
  obtain ⟨h1, rfl⟩ := List.getElem?_eq_some_iff.1 h
  rw [List.drop_eq_getElem_cons h1, findN, List.find?_cons]
  by_cases h : (l[i]).id = id ∧ id ≠ []
  · simp [h]
  · rw [if_neg h, decide_eq_false h]; rfl
theorem num0_C (u : View) : NumC u num0 [str [], str [], str [], .slice none 0 0] := ⟨_, rfl, nilInl u⟩
theorem refFind_fn (v : Value) (l : List DNum) (id : Bs) (hl : l.length ≤ 1000000) (u : View) (ha : NumS u v l) :
    FnP Tryd.prog 20 [v, str id] u fun r u' => ∃ cs, r = .tuple #[.agg cs.toArray, .bool (findN id l).isSome] ∧ NumC u' ((findN id l).getD num0) cs := by
  obtain ⟨cs, ⟨ad, cap, rfl, h1⟩, hc1⟩ := ha
  refine FnP.intro [.cell 4 38, .tmp 5] Tryd.func20 rfl rfl rfl ?_
  intro w0 D hw0
  refine wc_seq ?_
  refine wc_region ?_
  refine rl_do rfl rfl ?_
  refine do_alloc trivial Tryd.z38 rfl rfl rfl ?_
  refine rl_y (y_assign rfl rfl) rfl ?_
  refine rl_end (ρ' := [(0, _), (1, _), (4, _)]) ⟨rfl, rfl, rfl, trivial⟩ ?_
  refine q_then ?_
  refine wc_seq ?_
  refine wc_seq ?_
  refine wc_region ?_
  refine rl_y (y_assign rfl rfl) rfl ?_
  refine rl_end (ρ' := [(0, _), (1, _), (4, _), (6, _)]) ⟨rfl, rfl, rfl, rfl, trivial⟩ ?_
  refine q_then ?_
  refine wc_block ?_
  refine wc_loop (fun m ρ σ u' => ∃ i : Nat, i + m = l.length ∧ VLe u u' ∧ σ = [(4, (none, .box [str [], str [], str [], .slice none 0 0]))] ∧ ρ = [(0, .v (.slice ad l.length cap)), (1, .v (str id)), (4, .p 4 0), (6, .v (.int .i64 i))] ∧ (u = u' ∧ findN id l = findN id (l.drop i))) (l.length) ?_ ?_
  ·
    refine ⟨[(0, _), (1, _), (4, _), (6, _)], [(4, _)], ⟨rfl, rfl, rfl, rfl, trivial⟩, ⟨rfl, trivial⟩, 0, by omega, VLe.refl _, (by first | rfl | simp), (by first | rfl | (simp only [List.cons.injEq, Prod.mk.injEq, SV.v.injEq, Value.int.injEq, true_and, and_true]; omega) | simp), ?_⟩
    exact ⟨rfl, rfl⟩
  ·
    rintro m ρ σ u' ⟨i, hi2, hle2, rfl, rfl, ⟨rfl, hinv⟩⟩
    refine wc_seq ?_
    refine wc_seq ?_
    refine wc_region ?_
    refine rl_y (y_move rfl rfl) rfl ?_
    refine rl_y (y_move rfl rfl) rfl ?_
    refine rl_y (y_len_v rfl rfl Tryd.s29 rfl) rfl ?_
    refine rl_y (y_lss rfl rfl rfl) rfl ?_
    refine rl_end (ρ' := [(0, _), (1, _), (4, _), (6, _), (10, _)]) ⟨rfl, rfl, rfl, rfl, rfl, trivial⟩ ?_
    refine q_then ?_
    refine wc_cond rfl (fun hb2 => ?_) (fun hb2 => ?_)
    ·
      refine wc_skip ?_
      refine q_then ?_
      refine wc_seq ?_
      refine wc_block ?_
      refine wc_seq ?_
      have hlt := of_decide_eq_true hb2
      obtain ⟨x, vl, hg, hcut1, s1⟩ := hc1.at (i := i) (by omega)
      have oneAll := (hc1.get i _ hg).one
      rw [hcut1] at oneAll
      have hst := findN_drop (id := id) hg
      refine wc_cutB 23 (decide (x.id = id ∧ id ≠ [])) (ρk := [(0, _), (1, _), (4, _), (6, _)]) ⟨rfl, rfl, rfl, rfl, trivial⟩ ?_ ?_
      ·
        refine wc_region ?_
        refine rl_y (y_move rfl rfl) rfl ?_
        refine rl_y (y_move rfl rfl) rfl ?_
        refine rl_y (y_index_e rfl Tryd.s29 rfl rfl (by assumption) (by first | rfl | omega) (by omega)) rfl ?_
        refine rl_y (y_field_e rfl Tryd.f38' rfl (by decide) rfl) rfl ?_
        refine rl_y (y_load_el rfl Tryd.k9 rfl (by assumption) (by omega) (by assumption) (vs := [_]) rfl rfl rfl rfl) rfl ?_
        refine rl_y (y_move rfl rfl) rfl ?_
        refine rl_y (y_str_eql rfl rfl rfl) rfl ?_
        refine rl_y (y_move rfl rfl) rfl ?_
        rcases Bool.eq_false_or_eq_true (decide (x.id = id)) with hg4_7 | hg4_7
        ·
          simp only [hg4_7]
          refine rl_on rfl rfl ?_
          refine rl_y (y_move rfl rfl) rfl ?_
          refine rl_on rfl rfl ?_
          refine rl_y (y_str_neq rfl rfl rfl) rfl ?_
          refine rl_y (y_pick_t rfl rfl rfl) rfl ?_
          exact cutB_end rfl ⟨rfl, rfl, rfl, rfl, trivial⟩ (by simp_all)
        ·
          simp only [hg4_7]
          refine rl_off rfl rfl rfl rfl ?_
          refine rl_off rfl rfl rfl rfl ?_
          refine rl_y (y_pick_f rfl rfl rfl) rfl ?_
          exact cutB_end rfl ⟨rfl, rfl, rfl, rfl, trivial⟩ (by simp_all)
      refine q_then ?_
      refine wc_cond rfl (fun hb4 => ?_) (fun hb4 => ?_)
      ·
        refine wc_seq ?_
        refine wc_region ?_
        refine rl_y (y_move rfl rfl) rfl ?_
        refine rl_y (y_move rfl rfl) rfl ?_
        refine rl_y (y_index_e rfl Tryd.s29 rfl rfl (by assumption) (by first | rfl | omega) (by omega)) rfl ?_
        refine rl_y (y_load_el rfl Tryd.k38 rfl (by assumption) (by omega) (by assumption) (vs := [_, _, _, _]) rfl rfl rfl rfl) rfl ?_
        refine rl_do rfl rfl ?_
        refine do_store_p trivial rfl Tryd.k38 rfl rfl rfl (vs := [_, _, _, _]) rfl rfl (by first | rfl | exact oneAll | exact oneAll2 | simp [Value.oneCell', str]) (Nat.le_of_ble_eq_true rfl) rfl ?_
        refine rl_y (y_assign rfl rfl) rfl ?_
        refine rl_end (ρ' := [(4, _), (5, _)]) ⟨rfl, rfl, trivial⟩ ?_
        refine q_then ?_
        refine wc_ret ?_
        refine q_block_ret ?_
        refine q_then_ret ?_
        refine q_then_ret ?_
        refine q_block_ret ?_
        refine q_then_ret ?_
        refine fin2 (.cell rfl rfl Tryd.k38 (cs := _) (vs := [_, _, _, _]) rfl rfl rfl) (.tmp rfl) ?_
        rw [if_pos (of_decide_eq_true hb4)] at hst
        exact ⟨[str x.id, str x.kind, str x.value, vl], by rw [hinv, hst]; rfl, by rw [hinv, hst]; exact ⟨_, rfl, s1⟩⟩
      ·
        refine wc_skip ?_
        refine q_block ?_
        refine q_then ?_
        refine wc_region ?_
        refine rl_y (y_move rfl rfl) rfl ?_
        refine rl_y (y_add rfl rfl rfl (wrap64_id (by omega))) rfl ?_
        refine rl_y (y_assign rfl rfl) rfl ?_
        refine rl_end (ρ' := [(0, _), (1, _), (4, _), (6, _)]) ⟨rfl, rfl, rfl, rfl, trivial⟩ ?_
        refine q_thenK ?_
        refine ⟨m - 1, [(0, _), (1, _), (4, _), (6, _)], [(4, _)], by omega, ⟨rfl, rfl, rfl, rfl, trivial⟩, ⟨rfl, trivial⟩, i + 1, by omega, hle2, (by first | rfl | simp), (by first | rfl | (simp only [List.cons.injEq, Prod.mk.injEq, SV.v.injEq, Value.int.injEq, true_and, and_true]; omega) | simp), ?_⟩
        rw [if_neg (of_decide_eq_false hb4)] at hst
        exact ⟨rfl, by rw [hinv, hst]⟩
    ·
      refine wc_exit ?_
      refine q_then_exit ?_
      refine q_then_exit ?_
      refine q_block_hit ?_
      refine q_then ?_
      refine wc_seq ?_
      refine wc_region ?_
      refine rl_y (y_build rfl Tryd.f38' Tryd.z38 (ps := []) rfl (vs := [_, _, _, _]) rfl) rfl ?_
      refine rl_do rfl rfl ?_
      refine do_store_p trivial rfl Tryd.k38 rfl rfl rfl (vs := [_, _, _, _]) rfl rfl (by first | rfl | exact oneAll | exact oneAll2 | simp [Value.oneCell', str]) (Nat.le_of_ble_eq_true rfl) rfl ?_
      refine rl_y (y_assign rfl rfl) rfl ?_
      refine rl_end (ρ' := [(4, _), (5, _)]) ⟨rfl, rfl, trivial⟩ ?_
      refine q_then ?_
      refine wc_ret ?_
      refine fin2 (.cell rfl rfl Tryd.k38 (cs := _) (vs := [_, _, _, _]) rfl rfl rfl) (.tmp rfl) ?_
      have hge := of_decide_eq_false hb2
      rw [hinv, List.drop_eq_nil_of_le (by omega)]
      exact ⟨[str [], str [], str [], .slice none 0 0], rfl, num0_C _⟩

/-! ### counters -/
def arr (n : Nat) (f : Nat → Nat) : List Value := (List.range n).map fun j => .int .i64 (f j : Nat)
theorem arr_len (n : Nat) (f : Nat → Nat) : (arr n f).length = n := by simp [arr]
theorem arr_congr {n : Nat} {f g : Nat → Nat} (h : ∀ j, j < n → f j = g j) : arr n f = arr n g := List.map_congr_left fun j hj => by rw [h j (List.mem_range.1 hj)]
def setF (f : Nat → Nat) (i v : Nat) : Nat → Nat := fun j => if j = i then v else f j
theorem cut_arr {n i o : Nat} {f : Nat → Nat} (h : i < n) (ho : o = i) : cut (arr n f) o 1 = [.int .i64 (f i : Nat)] := by
  subst ho
  unfold cut arr
  rw [List.drop_eq_getElem_cons (by simpa using h)]
  simp
theorem cut_arr2 {a b i o : Nat} {f g : Nat → Nat} {r : List Value} (h : i < b) (ho : o = a + i) : cut (arr a f ++ (arr b g ++ r)) o 1 = [.int .i64 (g i : Nat)] := by
  subst ho
  unfold cut
  rw [List.drop_append, arr_len, List.drop_eq_nil_of_le (by simp [arr_len]), List.nil_append, Nat.add_sub_cancel_left, List.drop_append_of_le_length (by simp [arr_len]; omega)]
  have := cut_arr (n := b) (i := i) (f := g) h rfl
  unfold cut at this
  rw [List.take_append_of_le_length (by simp [arr_len]; omega), this]
theorem setAt_set : ∀ (cs : List Value) (i : Nat) (x : Value), setAt cs i [x] = cs.set i x
  | [], i, x => by cases i <;> rfl
  | c :: cs, 0, x => by cases cs <;> rfl
  | c :: cs, i + 1, x => by simp only [setAt, setAt_set cs i x, List.set_cons_succ]
theorem set_arr {n i o v : Nat} {f : Nat → Nat} (h : i < n) (ho : o = i) : setAt (arr n f) o [.int .i64 (v : Nat)] = arr n (setF f i v) := by
  subst ho
  rw [setAt_set]
  refine List.ext_getElem? fun j => ?_
  unfold arr
  simp only [List.getElem?_set, List.getElem?_map, List.length_map, List.length_range]
  by_cases hj : j < n
  · rw [List.getElem?_range hj]
    by_cases e : o = j
    · subst e; simp [setF, hj]
    · simp [setF, e, show ¬ j = o from fun h => e h.symm]
  · rw [List.getElem?_eq_none (by simpa using hj), if_neg (by omega)]; rfl
theorem set_arr2 {a b i o v : Nat} {f g : Nat → Nat} {r : List Value} (h : i < b) (ho : o = a + i) : setAt (arr a f ++ (arr b g ++ r)) o [.int .i64 (v : Nat)] = arr a f ++ (arr b (setF g i v) ++ r) := by
  subst ho
  rw [setAt_set, List.set_append_right _ _ (by simp [arr_len]), arr_len, Nat.add_sub_cancel_left, List.set_append_left _ _ (by simpa [arr_len] using h), ← setAt_set, set_arr h rfl]
end Go.Proofs.Ythnboadnehbciaa
