/- Count: the law of finding. -/
import Derived.Test.YthnboadnehbciaaDoorCntV
namespace Go.Proofs.Ythnboadnehbciaa
open Go Go.Eng
set_option linter.unusedSimpArgs false
set_option linter.unusedVariables false
set_option maxRecDepth 4000

def lineB (l : List Inl) : Blk := .mk 0 0 [] [] [] [] attr0 l []
theorem lineB_C {u : View} {l : List Inl} {vl : Value} (hl : l.length ≤ 140737488351232) (h : InlS u vl l) : BlkC u (lineB l) (blkV 0 0 [] [] [] [] [] nilV nilV vl nilV) :=
  BlkC.mk' (nilStr _) (nilPr _) h (nilBlk _) ⟨intOk_of (by decide), intOk_of (by decide), by decide, by decide, by decide, by decide, attrOk0, by omega, by decide⟩

theorem countFinds_fn (xs : List DNum) (v : Value) (id : Bs) (u : View) (hT : TabU u) (hok : ∀ x ∈ xs, x.line.length ≤ 140737488351232) (ha : NumS u v xs) :
    FnP Tryd.prog 5 [v, str id] u fun r _ => r = .bool true := by
  obtain ⟨cs, ⟨ad, cap, rfl, h1⟩, hc1⟩ := ha
  refine FnP.intro [.tmp 4] Tryd.func5 rfl rfl rfl ?_
  intro w0 D hw0
  refine wc_seq ?_
  refine wc_region ?_
  refine rl_y (y_assign rfl rfl) rfl ?_
  refine rl_end (ρ' := [(0, _), (1, _)]) ⟨rfl, rfl, trivial⟩ ?_
  refine q_then ?_
  refine wc_seq ?_
  refine wc_seq ?_
  refine wc_region ?_
  refine rl_y (y_move rfl rfl) rfl ?_
  refine rl_y (y_len_v rfl rfl Tryd.s29 rfl) rfl ?_
  refine rl_y (y_gtr rfl rfl rfl) rfl ?_
  refine rl_end (ρ' := [(0, _), (1, _), (12, _)]) ⟨rfl, rfl, rfl, trivial⟩ ?_
  refine q_then ?_
  refine wc_cond rfl (fun hb1 => ?_) (fun hb1 => ?_)
  ·
    refine wc_seq ?_
    refine wc_region ?_
    refine rl_do rfl rfl ?_
    refine do_call_f (caps := []) trivial rfl rfl Tryd.c10 rfl (FnP.mono (awake_fn u hT) ?_)
    rintro v u1 hle1 rfl
    refine rl_y (y_assign rfl rfl) rfl ?_
    refine rl_end (ρ' := [(4, _)]) ⟨rfl, trivial⟩ ?_
    refine q_then ?_
    refine wc_ret ?_
    refine q_then_ret ?_
    refine fin1 (.tmp rfl) ?_
    rfl
  ·
    refine wc_skip ?_
    refine q_then ?_
    refine wc_seq ?_
    refine wc_seq ?_
    have hlen := of_decide_eq_false hb1
    refine wc_region ?_
    refine rl_y (y_assign rfl rfl) rfl ?_
    refine rl_end (ρ' := [(0, _), (1, _), (5, _)]) ⟨rfl, rfl, rfl, trivial⟩ ?_
    refine q_then ?_
    refine wc_block ?_
    refine wc_loop (fun m ρ σ u' => ∃ i : Nat, i + m = xs.length ∧ VLe u u' ∧ σ = [] ∧ ρ = [(0, .v (.slice ad xs.length cap)), (1, .v (str id)), (5, .v (.int .i64 i))] ∧ (∀ x ∈ xs.take i, szI x.line ≤ 120 ∧ smI x.line)) (xs.length) ?_ ?_
    ·
      refine ⟨[(0, _), (1, _), (5, _)], [], ⟨rfl, rfl, rfl, trivial⟩, trivial, 0, by omega, VLe.refl _, (by first | rfl | simp), (by first | rfl | (simp only [List.cons.injEq, Prod.mk.injEq, SV.v.injEq, Value.int.injEq, true_and, and_true]; omega) | simp), ?_⟩
      simp
    ·
      rintro m ρ σ u' ⟨i, hi4, hle4, rfl, rfl, hinv⟩
      refine wc_seq ?_
      refine wc_seq ?_
      refine wc_region ?_
      refine rl_y (y_move rfl rfl) rfl ?_
      refine rl_y (y_move rfl rfl) rfl ?_
      refine rl_y (y_len_v rfl rfl Tryd.s29 rfl) rfl ?_
      refine rl_y (y_lss rfl rfl rfl) rfl ?_
      refine rl_end (ρ' := [(0, _), (1, _), (5, _), (17, _)]) ⟨rfl, rfl, rfl, rfl, trivial⟩ ?_
      refine q_then ?_
      refine wc_cond rfl (fun hb4 => ?_) (fun hb4 => ?_)
      ·
        refine wc_skip ?_
        refine q_then ?_
        refine wc_seq ?_
        refine wc_block ?_
        refine wc_seq ?_
        have hlt : i < xs.length := by have := of_decide_eq_true hb4; omega
        have h1 := h1.mono hle4
        have hT := hT.mono hle4
        obtain ⟨x, vl, hg, hcut1, s1⟩ := (hc1.mono hle4).at hlt
        have oneAll := ((hc1.mono hle4).get i _ hg).one
        rw [hcut1] at oneAll
        have hxl := hok x (List.mem_of_getElem? hg)
        have t1 := s1
        obtain ⟨ls, ⟨lad, lcap, rfl, hl1⟩, hl2⟩ := t1
        refine wc_region ?_
        refine rl_y (y_move rfl rfl) rfl ?_
        refine rl_y (y_move rfl rfl) rfl ?_
        refine rl_y (y_index_e rfl Tryd.s29 rfl rfl (by assumption) (by first | rfl | omega) (by omega)) rfl ?_
        refine rl_y (y_field_e rfl Tryd.f38' rfl (by decide) rfl) rfl ?_
        refine rl_y (y_load_el rfl Tryd.k36 rfl (by assumption) (by omega) (by assumption) (vs := [_]) rfl rfl rfl rfl) rfl ?_
        refine rl_y (y_build rfl Tryd.f42' Tryd.z42 (ps := [(_, _)]) rfl (vs := [_, _, _, _, _, _, _, _, _, _, _]) rfl) rfl ?_
        refine rl_do rfl rfl ?_
        refine do_buildSlice trivial Tryd.s23 Tryd.z42 (ps := [(_, _)]) rfl (xs := [_, _, _, _, _, _, _, _, _, _, _]) rfl rfl rfl rfl rfl rfl rfl ?_
        refine rl_freeze 26 rfl ?_
        intro ad26 cap26 u26 hle26z hsl26
        refine rl_y (y_build rfl Tryd.f25' Tryd.z25 (ps := [(_, _)]) rfl (vs := [_, _]) rfl) rfl ?_
        refine rl_do rfl rfl ?_
        refine do_call_f (caps := []) trivial rfl rfl Tryd.c9 rfl (FnP.mono (small_fn ⟨[], [lineB x.line]⟩ nilV (.slice ad26 1 cap26) u26 (nilPr _) ⟨_, ⟨_, _, rfl, hsl26⟩, BlksC.one (lineB_C hxl (s1.mono hle26z))⟩ ⟨⟨by simp, by simp⟩, by simp⟩) ?_)
        rintro v u1 hle1 ⟨b, rfl, hsm⟩
        refine rl_y (y_not rfl rfl) rfl ?_
        refine rl_y (y_move rfl rfl) rfl ?_
        rcases Bool.eq_false_or_eq_true ((!b)) with hg6_10 | hg6_10
        ·
          simp only [hg6_10]
          refine rl_off rfl rfl rfl rfl ?_
          refine rl_off rfl rfl rfl rfl ?_
          refine rl_off rfl rfl rfl rfl ?_
          refine rl_off rfl rfl rfl rfl ?_
          refine rl_off rfl rfl rfl rfl ?_
          refine rl_off rfl rfl rfl rfl ?_
          refine rl_off rfl rfl rfl rfl ?_
          refine rl_y (y_pick_t rfl rfl rfl) rfl ?_
          refine rl_end (ρ' := [(0, _), (1, _), (5, _), (38, _)]) ⟨rfl, rfl, rfl, rfl, trivial⟩ ?_
          refine q_then ?_
          refine wc_cond_t rfl (rfl) ?_
          refine wc_seq ?_
          refine wc_region ?_
          refine rl_do rfl rfl ?_
          refine do_call_f (caps := []) trivial rfl rfl Tryd.c10 rfl (FnP.mono (awake_fn u26 (hT.mono hle26z)) ?_)
          rintro v u1 hle1 rfl
          refine rl_y (y_assign rfl rfl) rfl ?_
          refine rl_end (ρ' := [(4, _)]) ⟨rfl, trivial⟩ ?_
          refine q_then ?_
          refine wc_ret ?_
          refine q_block_ret ?_
          refine q_then_ret ?_
          refine q_then_ret ?_
          refine q_block_ret ?_
          refine q_then_ret ?_
          refine fin1 (.tmp rfl) ?_
          rfl
        ·
          simp only [hg6_10]
          refine rl_on rfl rfl ?_
          refine rl_y (y_move rfl rfl) rfl ?_
          refine rl_on rfl rfl ?_
          refine rl_y (y_move rfl rfl) rfl ?_
          have h1 := h1.mono hle26z
          refine rl_on rfl rfl ?_
          refine rl_y (y_index_e rfl Tryd.s29 rfl rfl (by assumption) (by first | rfl | omega) (by omega)) rfl ?_
          refine rl_on rfl rfl ?_
          refine rl_y (y_field_e rfl Tryd.f38' rfl (by decide) rfl) rfl ?_
          refine rl_on rfl rfl ?_
          refine rl_y (y_load_el rfl Tryd.k9 rfl (by assumption) (by omega) (by assumption) (vs := [_]) rfl rfl rfl rfl) rfl ?_
          refine rl_on rfl rfl ?_
          refine rl_y (y_len_str rfl rfl Tryd.str9 rfl) rfl ?_
          refine rl_on rfl rfl ?_
          refine rl_y (y_gtr rfl rfl rfl) rfl ?_
          refine rl_y (y_pick_f rfl rfl rfl) rfl ?_
          refine rl_end (ρ' := [(0, _), (1, _), (5, _), (38, _)]) ⟨rfl, rfl, rfl, rfl, trivial⟩ ?_
          refine q_then ?_
          refine wc_cond rfl (fun hb7 => ?_) (fun hb7 => ?_)
          ·
            refine wc_seq ?_
            refine wc_region ?_
            refine rl_do rfl rfl ?_
            refine do_call_f (caps := []) trivial rfl rfl Tryd.c10 rfl (FnP.mono (awake_fn u26 (hT.mono hle26z)) ?_)
            rintro v u1 hle1 rfl
            refine rl_y (y_assign rfl rfl) rfl ?_
            refine rl_end (ρ' := [(4, _)]) ⟨rfl, trivial⟩ ?_
            refine q_then ?_
            refine wc_ret ?_
            refine q_block_ret ?_
            refine q_then_ret ?_
            refine q_then_ret ?_
            refine q_block_ret ?_
            refine q_then_ret ?_
            refine fin1 (.tmp rfl) ?_
            rfl
          ·
            refine wc_skip ?_
            refine q_block ?_
            refine q_then ?_
            refine wc_region ?_
            refine rl_y (y_move rfl rfl) rfl ?_
            refine rl_y (y_add rfl rfl rfl (wrap64_id (by omega))) rfl ?_
            refine rl_y (y_assign rfl rfl) rfl ?_
            refine rl_end (ρ' := [(0, _), (1, _), (5, _)]) ⟨rfl, rfl, rfl, trivial⟩ ?_
            refine q_thenK ?_
            refine ⟨m - 1, [(0, _), (1, _), (5, _)], [], by omega, ⟨rfl, rfl, rfl, trivial⟩, trivial, i + 1, by omega, (hle4.trans hle26z), (by first | rfl | simp), (by first | rfl | (simp only [List.cons.injEq, Prod.mk.injEq, SV.v.injEq, Value.int.injEq, true_and, and_true]; omega) | simp), ?_⟩
            intro y hy
            rcases mem_take_succ hg hy with hy | rfl
            · exact hinv y hy
            · have hbt : b = true := by cases b <;> simp_all
              obtain ⟨_, _, hz, hsb⟩ := hsm hbt
              simp only [lineB, szB, szb] at hz
              simp only [lineB, smB, smB1] at hsb
              exact ⟨by omega, hsb.1.2.2.2.2.1⟩
      ·
        refine wc_exit ?_
        refine q_then_exit ?_
        refine q_then_exit ?_
        refine q_block_hit ?_
        refine q_then ?_
        refine wc_seq ?_
        have hge := of_decide_eq_false hb4
        rw [List.take_of_length_le (by omega)] at hinv
        have hT := hT.mono hle4
        have hxs := NumS.mono (u := u) (v := .slice ad xs.length cap) (xs := xs) ⟨cs, ⟨ad, cap, rfl, h1⟩, hc1⟩ hle4
        have hy : ((findN id xs).getD num0).line.length ≤ 1000000 := by
          cases hf : findN id xs with
          | none => simp [num0]
          | some y =>
            have hm := List.mem_of_find?_eq_some hf
            have := (hinv y hm).1
            have := len_szI y.line
            show y.line.length ≤ 1000000
            omega
        refine wc_region ?_
        refine rl_y (y_move rfl rfl) rfl ?_
        refine rl_y (y_move rfl rfl) rfl ?_
        refine rl_do rfl rfl ?_
        refine do_call (caps := []) trivial rfl rfl Tryd.c19 rfl (FnP.mono (countFind_fn _ xs id (by omega) (fun x hx ↦ ⟨by have := (hinv x hx).1; omega, (hinv x hx).2⟩) u' hxs) ?_)
        rintro v uA hle0 ⟨c1, rfl, vl1, rfl, l1, ⟨a1, p1, rfl, hl1⟩, hl2⟩ hleA
        refine rl_y (y_move rfl rfl) rfl ?_
        refine rl_y (y_extract rfl rfl rfl) rfl ?_
        refine rl_y (y_extract rfl rfl rfl) rfl ?_
        refine rl_do rfl rfl ?_
        refine do_alloc trivial Tryd.z38 rfl rfl rfl ?_
        refine rl_do rfl rfl ?_
        refine do_store_p trivial rfl Tryd.k38 rfl rfl rfl (vs := [_, _, _, _]) rfl rfl (by first | rfl | exact oneAll | exact oneAll2 | simp [Value.oneCell', str]) (Nat.le_of_ble_eq_true rfl) rfl ?_
        refine rl_y (y_assign rfl rfl) rfl ?_
        refine rl_end (ρ' := [(0, _), (1, _), (6, _), (7, _)]) ⟨rfl, rfl, rfl, rfl, trivial⟩ ?_
        refine q_then ?_
        refine wc_seq ?_
        refine wc_region ?_
        refine rl_y (y_move rfl rfl) rfl ?_
        refine rl_y (y_move rfl rfl) rfl ?_
        refine rl_do rfl rfl ?_
        refine do_call (caps := []) trivial rfl rfl Tryd.c20 rfl (FnP.mono (refFind_fn _ xs id (by omega) uA (hxs.mono hleA)) ?_)
        rintro v uB hle0 ⟨c2, rfl, vl2, rfl, l2, ⟨a2, p2, rfl, hl3⟩, hl4⟩ hleB
        refine rl_y (y_move rfl rfl) rfl ?_
        refine rl_y (y_extract rfl rfl rfl) rfl ?_
        refine rl_y (y_extract rfl rfl rfl) rfl ?_
        refine rl_do rfl rfl ?_
        refine do_alloc trivial Tryd.z38 rfl rfl rfl ?_
        refine rl_do rfl rfl ?_
        refine do_store_p trivial rfl Tryd.k38 rfl rfl rfl (vs := [_, _, _, _]) rfl rfl (by first | rfl | exact oneAll | exact oneAll2 | simp [Value.oneCell', str]) (Nat.le_of_ble_eq_true rfl) rfl ?_
        refine rl_y (y_assign rfl rfl) rfl ?_
        refine rl_end (ρ' := [(6, _), (7, _), (8, _), (9, _)]) ⟨rfl, rfl, rfl, rfl, trivial⟩ ?_
        refine q_then ?_
        refine wc_seq ?_
        refine wc_region ?_
        refine rl_y (y_move rfl rfl) rfl ?_
        refine rl_y (y_move rfl rfl) rfl ?_
        refine rl_y (y_bool_eql rfl rfl rfl Tryd.b4) rfl ?_
        rw [beq_self_eq_true]
        refine rl_y (y_move rfl rfl) rfl ?_
        refine rl_on rfl rfl ?_
        refine rl_y (y_load_p rfl Tryd.k38 rfl rfl rfl (vs := [_, _, _, _]) rfl rfl rfl) rfl ?_
        refine rl_on rfl rfl ?_
        refine rl_do rfl rfl ?_
        refine do_buildSlice trivial Tryd.s29 Tryd.z38 (ps := [(_, _)]) rfl (xs := [_, _, _, _]) rfl rfl rfl rfl rfl rfl rfl ?_
        refine rl_freeze 57 rfl ?_
        intro ad57 cap57 u57 hle57z hsl57
        refine rl_on rfl rfl ?_
        refine rl_y (y_load_p rfl Tryd.k38 rfl rfl rfl (vs := [_, _, _, _]) rfl rfl rfl) rfl ?_
        refine rl_on rfl rfl ?_
        refine rl_do rfl rfl ?_
        refine do_buildSlice trivial Tryd.s29 Tryd.z38 (ps := [(_, _)]) rfl (xs := [_, _, _, _]) rfl rfl rfl rfl rfl rfl rfl ?_
        refine rl_freeze 59 rfl ?_
        intro ad59 cap59 u59 hle59z hsl59
        have hmA := (hleB.trans hle57z).trans hle59z
        have hle2 := hle57z.trans hle59z
        refine rl_on rfl rfl ?_
        refine rl_do rfl rfl ?_
        refine do_call_f (caps := []) trivial rfl rfl Tryd.c11 rfl (FnP.mono (same_same _ _ [(findN id xs).getD num0] (by simp) (by simpa using hy) u59 ⟨_, ⟨_, _, rfl, hsl57.mono hle59z⟩, NumsC.one ⟨_, rfl, ⟨l1, ⟨a1, p1, rfl, hl1.mono hmA⟩, hl2.mono hmA⟩⟩⟩ ⟨_, ⟨_, _, rfl, hsl59⟩, NumsC.one ⟨_, rfl, ⟨l2, ⟨a2, p2, rfl, hl3.mono hle2⟩, hl4.mono hle2⟩⟩⟩) ?_)
        rintro v u1 hle1 rfl
        refine rl_y (y_pick_t rfl rfl rfl) rfl ?_
        refine rl_y (y_move rfl rfl) rfl ?_
        refine rl_on rfl rfl ?_
        refine rl_do rfl rfl ?_
        refine do_call_f (caps := []) trivial rfl rfl Tryd.c10 rfl (FnP.mono (awake_fn u59 ((hT.mono hleA).mono hmA)) ?_)
        rintro v u1 hle1 rfl
        refine rl_y (y_pick_t rfl rfl rfl) rfl ?_
        refine rl_y (y_assign rfl rfl) rfl ?_
        refine rl_end (ρ' := [(4, _)]) ⟨rfl, trivial⟩ ?_
        refine q_then ?_
        refine wc_ret ?_
        refine fin1 (.tmp rfl) ?_
        rfl
end Go.Proofs.Ythnboadnehbciaa
