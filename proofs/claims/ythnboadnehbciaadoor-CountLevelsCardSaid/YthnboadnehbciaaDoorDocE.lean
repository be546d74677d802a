/- All blocks of a document, one behind the other, by an iterator (tree.Each). -/
import Derived.Test.YthnboadnehbciaaDoorCntN
import Derived.Test.YthnboadnehbciaaDoorEngIn
namespace Go.Proofs.Ythnboadnehbciaa
open Go Go.Eng
set_option linter.unusedSimpArgs false
set_option linter.unusedVariables false
set_option maxRecDepth 4000

abbrev FgP := List Blk → (Nat → Prop) → (World → Prop) → Prop
/-- what a round owes: handed a block, it goes on -/
def RoundsB (L : Nat) (u : View) (Y : FgP) : Prop :=
  ∀ pre H I, Y pre H I → ∀ u' x cs, VLe u u' → BlkC u' x cs → YldO Tryd.prog L [.agg cs.toArray] u' [(none, .fg H I)] fun r u'' l' => r = .bool true ∧ ∃ H' I', l' = [(none, .fg H' I')] ∧ Y (pre ++ [x]) H' I'
theorem RoundsB.mono {L : Nat} {u u' : View} {Y : FgP} (h : RoundsB L u Y) (hu : VLe u u') : RoundsB L u' Y := fun pre H I hY u2 x cs hv hc => h pre H I hY u2 x cs (hu.trans hv) hc
abbrev eachV (b2 b3 : Nat) : Value := .func (.func 53) #[] #[.pointer (some ⟨b2, 0, none⟩), .pointer (some ⟨b3, 0, none⟩)]
abbrev yldV (L : Nat) : Value := .func (.yield L) #[] #[]

set_option maxHeartbeats 4000000 in
theorem eachRec_fn (b2 b3 L : Nat) (Y : FgP) (n : Nat) : ∀ (v : Value) (bs : List Blk) (pre : List Blk) (H : Nat → Prop) (I : World → Prop) (u : View), szB bs ≤ n → szB bs ≤ 100000 → BlkS u v bs → RoundsB L u Y → Y pre H I →
    FnO Tryd.prog 53 [v, .pointer (some ⟨b2, 0, none⟩), .pointer (some ⟨b3, 0, none⟩)] u [(some b2, .box [yldV L]), (some b3, .box [eachV b2 b3]), (none, .fg H I)]
      fun r u' l' => r = .bool true ∧ ∃ H' I', l' = [(some b2, .box [yldV L]), (some b3, .box [eachV b2 b3]), (none, .fg H' I')] ∧ Y (pre ++ listB bs) H' I' := by
  induction n using Nat.strongRecOn with
  | _ n ih =>
  intro v bs pre H I u hsz hbig ha hR hY
  have hlx := len_szB bs
  obtain ⟨cs, ⟨ad, cap, rfl, h1⟩, hc1⟩ := ha
  refine FnO.intro [.tmp 4] Tryd.func53 rfl rfl rfl ?_
  intro w0 D hw0
  refine wc_pin 1 1000 _ 0 rfl rfl ?_
  refine wc_pin 2 1001 _ 0 rfl rfl ?_
  refine wc_seq ?_
  refine wc_region ?_
  refine rl_y (y_assign rfl rfl) rfl ?_
  refine rl_end (ρ' := [(0, _), (1, _), (2, _)]) ⟨rfl, rfl, rfl, trivial⟩ ?_
  refine q_then ?_
  refine wc_seq ?_
  refine wc_seq ?_
  refine wc_region ?_
  refine rl_y (y_move rfl rfl) rfl ?_
  refine rl_y (y_len_v rfl rfl Tryd.s23 rfl) rfl ?_
  refine rl_y (y_move rfl rfl) rfl ?_
  refine rl_end (ρ' := [(0, _), (1, _), (2, _), (7, _), (8, _)]) ⟨rfl, rfl, rfl, rfl, rfl, trivial⟩ ?_
  refine q_then ?_
  refine wc_block ?_
  refine wc_loop (fun m ρ σ u' => ∃ i : Nat, i + m = bs.length ∧ VLe u u' ∧ ∃ (Hi : Nat → Prop) (Ii : World → Prop), σ = [(1000, (some b2, .box [yldV L])), (1001, (some b3, .box [eachV b2 b3])), (1002, (none, .fg Hi Ii))] ∧ ρ = [(0, .v (.slice ad bs.length cap)), (1, .p 1000 0), (2, .p 1001 0), (7, .v (.int .i64 bs.length)), (8, .v (.int .i64 i))] ∧ (Y (pre ++ listB (bs.take i)) Hi Ii)) (bs.length) ?_ ?_
  ·
    refine ⟨[(0, _), (1, _), (2, _), (7, _), (8, _)], [(1000, _), (1001, _), (1002, _)], ⟨rfl, rfl, rfl, rfl, rfl, trivial⟩, ⟨rfl, rfl, rfl, trivial⟩, 0, by omega, VLe.refl _, H, I, rfl, rfl, ?_⟩
    simpa [listB] using hY
  ·
    rintro m ρ σ u' ⟨i, hi2, hle2, Hi, Ii, rfl, rfl, hYi⟩
    refine wc_seq ?_
    refine wc_region ?_
    refine rl_y (y_lss rfl rfl rfl) rfl ?_
    refine rl_end (ρ' := [(0, _), (1, _), (2, _), (7, _), (8, _), (9, _)]) ⟨rfl, rfl, rfl, rfl, rfl, rfl, trivial⟩ ?_
    refine q_then ?_
    refine wc_seq ?_
    refine wc_cond rfl (fun hb2 => ?_) (fun hb2 => ?_)
    ·
      refine wc_skip ?_
      refine q_then ?_
      refine wc_seq ?_
      refine wc_block ?_
      refine wc_seq ?_
      refine wc_region ?_
      refine rl_y (y_move rfl rfl) rfl ?_
      refine rl_y (y_assign rfl rfl) rfl ?_
      refine rl_end (ρ' := [(0, _), (1, _), (2, _), (5, _), (7, _), (8, _)]) ⟨rfl, rfl, rfl, rfl, rfl, rfl, trivial⟩ ?_
      refine q_then ?_
      refine wc_seq ?_
      have hlt : i < bs.length := by have := of_decide_eq_true hb2; omega
      have h1 := h1.mono hle2
      obtain ⟨k, lv, inf, t, d, ti, a, line, kids, vc, vp, vl, vk, hg, hcut1, s1, s2, s3, s4, hok⟩ := (hc1.mono hle2).at hlt
      have hbc := (hc1.mono hle2).get i _ hg
      rw [hcut1] at hbc
      have oneAll := hbc.one
      have hszk := szB_kids hg
      have hdt : pre ++ listB (bs.take (i + 1)) = (pre ++ listB (bs.take i) ++ [.mk k lv inf t d ti a line kids]) ++ listB kids := by rw [listB_take hg]; simp [listb]
      refine wc_drawI Tryd.mixed ?_
      refine ri_y (i := 1) rfl rfl (by kernel_rfl) (by kernel_rfl) (by kernel_rfl) (np_then (np_block (np_then (np_then (np_block (np_then (np_finO))))))) (fun _ _ => rfl) (y_move rfl rfl) rfl ?_
      refine ri_y (i := 2) rfl rfl (by kernel_rfl) (by kernel_rfl) (by kernel_rfl) (np_then (np_block (np_then (np_then (np_block (np_then (np_finO))))))) (fun _ _ => rfl) (y_move rfl rfl) rfl ?_
      refine ri_y (i := 3) rfl rfl (by kernel_rfl) (by kernel_rfl) (by kernel_rfl) (np_then (np_block (np_then (np_then (np_block (np_then (np_finO))))))) (fun _ _ => rfl) (y_index_eX rfl Tryd.s23 rfl rfl (by assumption) (by first | rfl | omega) (by omega)) rfl ?_
      refine ri_all (is := [0, 4]) (by kernel_rfl) rfl ?_
      refine riall_cons rfl rfl ?_ ?_
      ·
        refine Does.toI (by simp) ?_
        refine do_y (y_load_p rfl Tryd.k91 rfl rfl rfl (vs := [_]) rfl rfl rfl) rfl ?_
        refine ri_do (i := 4) rfl rfl (by kernel_rfl) ?_
        refine Does.toI (by simp) ?_
        refine do_y (y_load_el rfl Tryd.k42 rfl (by assumption) (by omega) (by assumption) (vs := [_, _, _, _, _, _, _, _, _, _, _]) rfl rfl rfl rfl) rfl ?_
        refine ri_do (i := 5) rfl rfl (by kernel_rfl) ?_
        refine do_yield (ρ' := [(0, _), (1, _), (2, _), (5, _), (7, _), (8, _)]) [1002] [] rfl rfl rfl rfl rfl ⟨rfl, rfl, rfl, rfl, rfl, rfl, trivial⟩ rfl rfl rfl (YldO.mono (hR.mono hle2 _ _ _ hYi u' _ _ (VLe.refl _) hbc) ?_)
        rintro v uY l1 hleY ⟨rfl, H2, I2, rfl, hY2⟩ -
        refine ⟨⟨fun _ h => h, trivial⟩, ?_⟩
        have h1 := h1.mono hleY
        refine ri_y (i := 6) rfl rfl (by kernel_rfl) (by kernel_rfl) (by kernel_rfl) (np_then (np_block (np_then (np_then (np_block (np_then (np_finO))))))) (fun _ _ => rfl) (y_not rfl rfl) rfl ?_
        refine ri_y (i := 7) rfl rfl (by kernel_rfl) (by kernel_rfl) (by kernel_rfl) (np_then (np_block (np_then (np_then (np_block (np_then (np_finO))))))) (fun _ _ => rfl) (y_move rfl rfl) rfl ?_
        refine ri_y_on (i := 9) rfl rfl rfl rfl (by kernel_rfl) (by kernel_rfl) (by kernel_rfl) (np_then (np_block (np_then (np_then (np_block (np_then (np_finO))))))) (fun _ _ => rfl) (y_move rfl rfl) rfl ?_
        refine ri_y_on (i := 10) rfl rfl rfl rfl (by kernel_rfl) (by kernel_rfl) (by kernel_rfl) (np_then (np_block (np_then (np_then (np_block (np_then (np_finO))))))) (fun _ _ => rfl) (y_move rfl rfl) rfl ?_
        refine ri_y_on (i := 11) rfl rfl rfl rfl (by kernel_rfl) (by kernel_rfl) (by kernel_rfl) (np_then (np_block (np_then (np_then (np_block (np_then (np_finO))))))) (fun _ _ => rfl) (y_index_eX rfl Tryd.s23 rfl rfl (by assumption) (by first | rfl | omega) (by omega)) rfl ?_
        refine ri_y_on (i := 12) rfl rfl rfl rfl (by kernel_rfl) (by kernel_rfl) (by kernel_rfl) (np_then (np_block (np_then (np_then (np_block (np_then (np_finO))))))) (fun _ _ => rfl) (y_field_e rfl Tryd.f42' rfl (by decide) rfl) rfl ?_
        refine ri_all (is := [8, 13]) (by kernel_rfl) rfl ?_
        refine riall_cons_on rfl rfl rfl (by simp) ?_ ?_
        ·
          refine Does.toI (by simp) ?_
          refine do_y (y_load_p rfl Tryd.k92 rfl rfl rfl (vs := [_]) rfl rfl rfl) rfl ?_
          refine ri_do_on (i := 13) rfl rfl rfl (by kernel_rfl) (by simp) ?_
          refine Does.toI (by simp) ?_
          refine do_y (y_load_el rfl Tryd.k23 rfl (by assumption) (by omega) (by assumption) (vs := [_]) rfl rfl rfl rfl) rfl ?_
          refine ri_do_on (i := 14) rfl rfl rfl (by kernel_rfl) (by simp) ?_
          refine Does.toI (by simp) ?_
          refine do_call_o (caps := [.pointer (some ⟨b2, 0, none⟩), .pointer (some ⟨b3, 0, none⟩)]) (ρ' := [(0, _), (1, _), (2, _), (7, _), (8, _), (18, _)]) [1000, 1001, 1002] [] trivial rfl rfl rfl Tryd.c53 rfl rfl ⟨rfl, rfl, rfl, rfl, rfl, rfl, trivial⟩ rfl rfl rfl (FnO.mono (ih (szB kids) (by omega) vk kids _ H2 I2 uY (Nat.le_refl _) (by omega) (s4.mono hleY) (hR.mono (hle2.trans hleY)) hY2) ?_)
          rintro v uK l1 hleK ⟨rfl, H3, I3, rfl, hY3⟩ -
          refine ⟨⟨fun _ h => h, fun _ h => h, fun _ h => h, trivial⟩, ?_⟩
          refine ri_y_on (i := 15) rfl rfl rfl rfl (by kernel_rfl) (by kernel_rfl) (by kernel_rfl) (np_then (np_block (np_then (np_then (np_block (np_then (np_finO))))))) (fun _ _ => rfl) (y_not rfl rfl) rfl ?_
          refine ri_y (i := 16) rfl rfl (by kernel_rfl) (by kernel_rfl) (by kernel_rfl) (np_then (np_block (np_then (np_then (np_block (np_then (np_finO))))))) (fun _ _ => rfl) (y_pick_f rfl rfl rfl) rfl ?_
          refine ri_end (by kernel_rfl) (ρ' := [(0, _), (1, _), (2, _), (7, _), (8, _), (27, _)]) ⟨rfl, rfl, rfl, rfl, rfl, rfl, trivial⟩ ?_
          refine q_then ?_
          refine wc_cond_f rfl (rfl) ?_
          refine wc_skip ?_
          refine q_block ?_
          refine q_then ?_
          refine wc_region ?_
          refine rl_y (y_add rfl rfl rfl (wrap64_id (by omega))) rfl ?_
          refine rl_y (y_move rfl rfl) rfl ?_
          refine rl_end (ρ' := [(0, _), (1, _), (2, _), (7, _), (8, _)]) ⟨rfl, rfl, rfl, rfl, rfl, trivial⟩ ?_
          refine q_thenK ?_
          refine ⟨m - 1, [(0, _), (1, _), (2, _), (7, _), (8, _)], [(1000, _), (1001, _), (1002, _)], by omega, ⟨rfl, rfl, rfl, rfl, rfl, trivial⟩, ⟨rfl, rfl, rfl, trivial⟩, i + 1, by omega, (hle2.trans (hleY.trans hleK)), H3, I3, rfl, (by first | rfl | simp), ?_⟩
          rw [hdt]; exact hY3
        refine riall_cons_on rfl rfl rfl (by simp) ?_ ?_
        ·
          refine Does.toI (by simp) ?_
          refine do_y (y_load_el rfl Tryd.k23 rfl (by assumption) (by omega) (by assumption) (vs := [_]) rfl rfl rfl rfl) rfl ?_
          refine ri_do_on (i := 8) rfl rfl rfl (by kernel_rfl) (by simp) ?_
          refine Does.toI (by simp) ?_
          refine do_y (y_load_p rfl Tryd.k92 rfl rfl rfl (vs := [_]) rfl rfl rfl) rfl ?_
          refine ri_do_on (i := 14) rfl rfl rfl (by kernel_rfl) (by simp) ?_
          refine Does.toI (by simp) ?_
          refine do_call_o (caps := [.pointer (some ⟨b2, 0, none⟩), .pointer (some ⟨b3, 0, none⟩)]) (ρ' := [(0, _), (1, _), (2, _), (7, _), (8, _), (18, _)]) [1000, 1001, 1002] [] trivial rfl rfl rfl Tryd.c53 rfl rfl ⟨rfl, rfl, rfl, rfl, rfl, rfl, trivial⟩ rfl rfl rfl (FnO.mono (ih (szB kids) (by omega) vk kids _ H2 I2 uY (Nat.le_refl _) (by omega) (s4.mono hleY) (hR.mono (hle2.trans hleY)) hY2) ?_)
          rintro v uK l1 hleK ⟨rfl, H3, I3, rfl, hY3⟩ -
          refine ⟨⟨fun _ h => h, fun _ h => h, fun _ h => h, trivial⟩, ?_⟩
          refine ri_y_on (i := 15) rfl rfl rfl rfl (by kernel_rfl) (by kernel_rfl) (by kernel_rfl) (np_then (np_block (np_then (np_then (np_block (np_then (np_finO))))))) (fun _ _ => rfl) (y_not rfl rfl) rfl ?_
          refine ri_y (i := 16) rfl rfl (by kernel_rfl) (by kernel_rfl) (by kernel_rfl) (np_then (np_block (np_then (np_then (np_block (np_then (np_finO))))))) (fun _ _ => rfl) (y_pick_f rfl rfl rfl) rfl ?_
          refine ri_end (by kernel_rfl) (ρ' := [(0, _), (1, _), (2, _), (7, _), (8, _), (27, _)]) ⟨rfl, rfl, rfl, rfl, rfl, rfl, trivial⟩ ?_
          refine q_then ?_
          refine wc_cond_f rfl (rfl) ?_
          refine wc_skip ?_
          refine q_block ?_
          refine q_then ?_
          refine wc_region ?_
          refine rl_y (y_add rfl rfl rfl (wrap64_id (by omega))) rfl ?_
          refine rl_y (y_move rfl rfl) rfl ?_
          refine rl_end (ρ' := [(0, _), (1, _), (2, _), (7, _), (8, _)]) ⟨rfl, rfl, rfl, rfl, rfl, trivial⟩ ?_
          refine q_thenK ?_
          refine ⟨m - 1, [(0, _), (1, _), (2, _), (7, _), (8, _)], [(1000, _), (1001, _), (1002, _)], by omega, ⟨rfl, rfl, rfl, rfl, rfl, trivial⟩, ⟨rfl, rfl, rfl, trivial⟩, i + 1, by omega, (hle2.trans (hleY.trans hleK)), H3, I3, rfl, (by first | rfl | simp), ?_⟩
          rw [hdt]; exact hY3
        exact riall_nil
      refine riall_cons rfl rfl ?_ ?_
      ·
        refine Does.toI (by simp) ?_
        refine do_y (y_load_el rfl Tryd.k42 rfl (by assumption) (by omega) (by assumption) (vs := [_, _, _, _, _, _, _, _, _, _, _]) rfl rfl rfl rfl) rfl ?_
        refine ri_do (i := 0) rfl rfl (by kernel_rfl) ?_
        refine Does.toI (by simp) ?_
        refine do_y (y_load_p rfl Tryd.k91 rfl rfl rfl (vs := [_]) rfl rfl rfl) rfl ?_
        refine ri_do (i := 5) rfl rfl (by kernel_rfl) ?_
        refine do_yield (ρ' := [(0, _), (1, _), (2, _), (5, _), (7, _), (8, _)]) [1002] [] rfl rfl rfl rfl rfl ⟨rfl, rfl, rfl, rfl, rfl, rfl, trivial⟩ rfl rfl rfl (YldO.mono (hR.mono hle2 _ _ _ hYi u' _ _ (VLe.refl _) hbc) ?_)
        rintro v uY l1 hleY ⟨rfl, H2, I2, rfl, hY2⟩ -
        refine ⟨⟨fun _ h => h, trivial⟩, ?_⟩
        have h1 := h1.mono hleY
        refine ri_y (i := 6) rfl rfl (by kernel_rfl) (by kernel_rfl) (by kernel_rfl) (np_then (np_block (np_then (np_then (np_block (np_then (np_finO))))))) (fun _ _ => rfl) (y_not rfl rfl) rfl ?_
        refine ri_y (i := 7) rfl rfl (by kernel_rfl) (by kernel_rfl) (by kernel_rfl) (np_then (np_block (np_then (np_then (np_block (np_then (np_finO))))))) (fun _ _ => rfl) (y_move rfl rfl) rfl ?_
        refine ri_y_on (i := 9) rfl rfl rfl rfl (by kernel_rfl) (by kernel_rfl) (by kernel_rfl) (np_then (np_block (np_then (np_then (np_block (np_then (np_finO))))))) (fun _ _ => rfl) (y_move rfl rfl) rfl ?_
        refine ri_y_on (i := 10) rfl rfl rfl rfl (by kernel_rfl) (by kernel_rfl) (by kernel_rfl) (np_then (np_block (np_then (np_then (np_block (np_then (np_finO))))))) (fun _ _ => rfl) (y_move rfl rfl) rfl ?_
        refine ri_y_on (i := 11) rfl rfl rfl rfl (by kernel_rfl) (by kernel_rfl) (by kernel_rfl) (np_then (np_block (np_then (np_then (np_block (np_then (np_finO))))))) (fun _ _ => rfl) (y_index_eX rfl Tryd.s23 rfl rfl (by assumption) (by first | rfl | omega) (by omega)) rfl ?_
        refine ri_y_on (i := 12) rfl rfl rfl rfl (by kernel_rfl) (by kernel_rfl) (by kernel_rfl) (np_then (np_block (np_then (np_then (np_block (np_then (np_finO))))))) (fun _ _ => rfl) (y_field_e rfl Tryd.f42' rfl (by decide) rfl) rfl ?_
        refine ri_all (is := [8, 13]) (by kernel_rfl) rfl ?_
        refine riall_cons_on rfl rfl rfl (by simp) ?_ ?_
        ·
          refine Does.toI (by simp) ?_
          refine do_y (y_load_p rfl Tryd.k92 rfl rfl rfl (vs := [_]) rfl rfl rfl) rfl ?_
          refine ri_do_on (i := 13) rfl rfl rfl (by kernel_rfl) (by simp) ?_
          refine Does.toI (by simp) ?_
          refine do_y (y_load_el rfl Tryd.k23 rfl (by assumption) (by omega) (by assumption) (vs := [_]) rfl rfl rfl rfl) rfl ?_
          refine ri_do_on (i := 14) rfl rfl rfl (by kernel_rfl) (by simp) ?_
          refine Does.toI (by simp) ?_
          refine do_call_o (caps := [.pointer (some ⟨b2, 0, none⟩), .pointer (some ⟨b3, 0, none⟩)]) (ρ' := [(0, _), (1, _), (2, _), (7, _), (8, _), (18, _)]) [1000, 1001, 1002] [] trivial rfl rfl rfl Tryd.c53 rfl rfl ⟨rfl, rfl, rfl, rfl, rfl, rfl, trivial⟩ rfl rfl rfl (FnO.mono (ih (szB kids) (by omega) vk kids _ H2 I2 uY (Nat.le_refl _) (by omega) (s4.mono hleY) (hR.mono (hle2.trans hleY)) hY2) ?_)
          rintro v uK l1 hleK ⟨rfl, H3, I3, rfl, hY3⟩ -
          refine ⟨⟨fun _ h => h, fun _ h => h, fun _ h => h, trivial⟩, ?_⟩
          refine ri_y_on (i := 15) rfl rfl rfl rfl (by kernel_rfl) (by kernel_rfl) (by kernel_rfl) (np_then (np_block (np_then (np_then (np_block (np_then (np_finO))))))) (fun _ _ => rfl) (y_not rfl rfl) rfl ?_
          refine ri_y (i := 16) rfl rfl (by kernel_rfl) (by kernel_rfl) (by kernel_rfl) (np_then (np_block (np_then (np_then (np_block (np_then (np_finO))))))) (fun _ _ => rfl) (y_pick_f rfl rfl rfl) rfl ?_
          refine ri_end (by kernel_rfl) (ρ' := [(0, _), (1, _), (2, _), (7, _), (8, _), (27, _)]) ⟨rfl, rfl, rfl, rfl, rfl, rfl, trivial⟩ ?_
          refine q_then ?_
          refine wc_cond_f rfl (rfl) ?_
          refine wc_skip ?_
          refine q_block ?_
          refine q_then ?_
          refine wc_region ?_
          refine rl_y (y_add rfl rfl rfl (wrap64_id (by omega))) rfl ?_
          refine rl_y (y_move rfl rfl) rfl ?_
          refine rl_end (ρ' := [(0, _), (1, _), (2, _), (7, _), (8, _)]) ⟨rfl, rfl, rfl, rfl, rfl, trivial⟩ ?_
          refine q_thenK ?_
          refine ⟨m - 1, [(0, _), (1, _), (2, _), (7, _), (8, _)], [(1000, _), (1001, _), (1002, _)], by omega, ⟨rfl, rfl, rfl, rfl, rfl, trivial⟩, ⟨rfl, rfl, rfl, trivial⟩, i + 1, by omega, (hle2.trans (hleY.trans hleK)), H3, I3, rfl, (by first | rfl | simp), ?_⟩
          rw [hdt]; exact hY3
        refine riall_cons_on rfl rfl rfl (by simp) ?_ ?_
        ·
          refine Does.toI (by simp) ?_
          refine do_y (y_load_el rfl Tryd.k23 rfl (by assumption) (by omega) (by assumption) (vs := [_]) rfl rfl rfl rfl) rfl ?_
          refine ri_do_on (i := 8) rfl rfl rfl (by kernel_rfl) (by simp) ?_
          refine Does.toI (by simp) ?_
          refine do_y (y_load_p rfl Tryd.k92 rfl rfl rfl (vs := [_]) rfl rfl rfl) rfl ?_
          refine ri_do_on (i := 14) rfl rfl rfl (by kernel_rfl) (by simp) ?_
          refine Does.toI (by simp) ?_
          refine do_call_o (caps := [.pointer (some ⟨b2, 0, none⟩), .pointer (some ⟨b3, 0, none⟩)]) (ρ' := [(0, _), (1, _), (2, _), (7, _), (8, _), (18, _)]) [1000, 1001, 1002] [] trivial rfl rfl rfl Tryd.c53 rfl rfl ⟨rfl, rfl, rfl, rfl, rfl, rfl, trivial⟩ rfl rfl rfl (FnO.mono (ih (szB kids) (by omega) vk kids _ H2 I2 uY (Nat.le_refl _) (by omega) (s4.mono hleY) (hR.mono (hle2.trans hleY)) hY2) ?_)
          rintro v uK l1 hleK ⟨rfl, H3, I3, rfl, hY3⟩ -
          refine ⟨⟨fun _ h => h, fun _ h => h, fun _ h => h, trivial⟩, ?_⟩
          refine ri_y_on (i := 15) rfl rfl rfl rfl (by kernel_rfl) (by kernel_rfl) (by kernel_rfl) (np_then (np_block (np_then (np_then (np_block (np_then (np_finO))))))) (fun _ _ => rfl) (y_not rfl rfl) rfl ?_
          refine ri_y (i := 16) rfl rfl (by kernel_rfl) (by kernel_rfl) (by kernel_rfl) (np_then (np_block (np_then (np_then (np_block (np_then (np_finO))))))) (fun _ _ => rfl) (y_pick_f rfl rfl rfl) rfl ?_
          refine ri_end (by kernel_rfl) (ρ' := [(0, _), (1, _), (2, _), (7, _), (8, _), (27, _)]) ⟨rfl, rfl, rfl, rfl, rfl, rfl, trivial⟩ ?_
          refine q_then ?_
          refine wc_cond_f rfl (rfl) ?_
          refine wc_skip ?_
          refine q_block ?_
          refine q_then ?_
          refine wc_region ?_
          refine rl_y (y_add rfl rfl rfl (wrap64_id (by omega))) rfl ?_
          refine rl_y (y_move rfl rfl) rfl ?_
          refine rl_end (ρ' := [(0, _), (1, _), (2, _), (7, _), (8, _)]) ⟨rfl, rfl, rfl, rfl, rfl, trivial⟩ ?_
          refine q_thenK ?_
          refine ⟨m - 1, [(0, _), (1, _), (2, _), (7, _), (8, _)], [(1000, _), (1001, _), (1002, _)], by omega, ⟨rfl, rfl, rfl, rfl, rfl, trivial⟩, ⟨rfl, rfl, rfl, trivial⟩, i + 1, by omega, (hle2.trans (hleY.trans hleK)), H3, I3, rfl, (by first | rfl | simp), ?_⟩
          rw [hdt]; exact hY3
        exact riall_nil
      exact riall_nil
    ·
      refine wc_exit ?_
      refine q_then_exit ?_
      refine q_then_exit ?_
      refine q_block_hit ?_
      refine q_then ?_
      refine wc_seq ?_
      refine wc_region ?_
      refine rl_y (y_assign rfl rfl) rfl ?_
      refine rl_end (ρ' := [(4, _)]) ⟨rfl, trivial⟩ ?_
      refine q_then ?_
      refine wc_ret ?_
      refine finO1 [1000, 1001, 1002] (.tmp rfl) rfl rfl ?_
      have hge := of_decide_eq_false hb2
      rw [List.take_of_length_le (by omega)] at hYi
      exact ⟨rfl, _, _, rfl, hYi⟩

/-- what an iterator over all blocks is -/
def EachIt (u : View) (r : Value) (bs : List Blk) : Prop := ∃ b v T fr, r = .func (.func 52) #[] #[.pointer (some ⟨b, 0, none⟩)] ∧ u b = some (.cells #[v] T fr) ∧ BlkS u v bs
theorem eachIt_fn (b1 L : Nat) (Y : FgP) (v : Value) (T : TypeId) (fr : Nat × Nat) (bs : List Blk) (H : Nat → Prop) (I : World → Prop) (u : View) (hbig : szB bs ≤ 100000) (hb1 : u b1 = some (.cells #[v] T fr)) (ha : BlkS u v bs) (hR : RoundsB L u Y) (hY : Y [] H I) :
    FnO Tryd.prog 52 [yldV L, .pointer (some ⟨b1, 0, none⟩)] u [(none, .fg H I)] fun r u' l' => ∃ H' I', l' = [(none, .fg H' I')] ∧ Y (listB bs) H' I' := by
  refine FnO.intro [] Tryd.func52 rfl rfl rfl ?_
  intro w0 D hw0
  refine wc_seq ?_
  refine wc_region ?_
  refine rl_do rfl rfl ?_
  refine do_box trivial rfl (cs := [_]) rfl rfl rfl rfl ?_
  refine rl_end (ρ' := [(1, _), (2, _)]) ⟨rfl, rfl, trivial⟩ ?_
  refine q_then ?_
  refine wc_seq ?_
  refine wc_region ?_
  refine rl_do rfl rfl ?_
  refine do_alloc trivial Tryd.z92 rfl rfl rfl ?_
  refine rl_end (ρ' := [(1, _), (2, _), (3, _)]) ⟨rfl, rfl, rfl, trivial⟩ ?_
  refine q_then ?_
  refine wc_seq ?_
  refine wc_region ?_
  refine rl_name 2 rfl ⟨2, _, .inl rfl⟩ ?_
  intro b2
  refine rl_name 3 rfl ⟨3, _, .inl rfl⟩ ?_
  intro b3
  refine rl_y (y_makeFunc rfl rfl rfl) rfl ?_
  refine rl_do rfl rfl ?_
  refine do_store_p trivial rfl Tryd.k92 rfl rfl rfl (vs := [_]) rfl rfl (by first | rfl | exact oneAll | exact oneAll2 | simp [Value.oneCell', str]) (Nat.le_of_ble_eq_true rfl) rfl ?_
  refine rl_end (ρ' := [(1, _), (3, _)]) ⟨rfl, rfl, trivial⟩ ?_
  refine q_then ?_
  refine wc_region ?_
  refine rl_y (y_load_p rfl Tryd.k92 rfl rfl rfl (vs := [_]) rfl rfl rfl) rfl ?_
  refine rl_y (y_load_v rfl Tryd.k23 rfl (by assumption) (vs := [_]) (by first | rfl | exact cut_at hP rfl (Nat.le_of_ble_eq_true rfl) rfl) rfl rfl) rfl ?_
  refine rl_do rfl rfl ?_
  refine do_call_o (caps := [.pointer (some ⟨b2, 0, none⟩), .pointer (some ⟨b3, 0, none⟩)]) (ρ' := []) [2, 3, 1000] [] trivial rfl rfl rfl Tryd.c53 rfl rfl trivial rfl rfl rfl (FnO.mono (eachRec_fn b2 b3 L Y (szB bs) v bs [] H I u (Nat.le_refl _) hbig ha hR hY) ?_)
  rintro v u1 l1 hle1 ⟨rfl, H3, I3, rfl, hY3⟩ -
  refine ⟨⟨fun _ h => h, fun _ h => h, fun _ h => h, trivial⟩, ?_⟩
  refine rl_end (ρ' := []) trivial ?_
  refine finO0n [1000]  rfl rfl ?_
  exact ⟨_, _, rfl, by simpa using hY3⟩
theorem each_fn (v : Value) (bs : List Blk) (u : View) (ha : BlkS u v bs) : FnP Tryd.prog 36 [v] u fun r u' => EachIt u' r bs := by
  have ha2 := ha
  obtain ⟨cs, ⟨ad, cap, rfl, h1⟩, hc1⟩ := ha2
  refine FnP.intro [.tmp 2] Tryd.func36 rfl rfl rfl ?_
  intro w0 D hw0
  refine wc_seq ?_
  refine wc_region ?_
  refine rl_do rfl rfl ?_
  refine do_box trivial rfl (cs := [_]) rfl rfl rfl rfl ?_
  refine rl_y (y_assign rfl rfl) rfl ?_
  refine rl_end (ρ' := [(1, _)]) ⟨rfl, trivial⟩ ?_
  refine q_then ?_
  refine wc_seq ?_
  refine wc_region ?_
  refine rl_name 1 rfl ⟨1, _, .inl rfl⟩ ?_
  intro b1
  refine rl_y (y_makeFunc rfl rfl rfl) rfl ?_
  refine rl_reveal 1 rfl ?_
  intro b T u1 hle1 hb1 hpin
  obtain rfl := hpin _ rfl
  refine rl_y (y_assign rfl rfl) rfl ?_
  refine rl_end (ρ' := [(2, _)]) ⟨rfl, trivial⟩ ?_
  refine q_then ?_
  refine wc_ret ?_
  refine fin1 (.tmp rfl) ?_
  exact ⟨_, _, T, (0, 0), rfl, hb1, ha.mono hle1⟩
end Go.Proofs.Ythnboadnehbciaa
