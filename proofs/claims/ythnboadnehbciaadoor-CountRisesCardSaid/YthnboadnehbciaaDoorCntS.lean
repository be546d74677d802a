/- Count: the numbers of a document. -/
import Derived.Test.YthnboadnehbciaaDoorCntR
import Derived.Test.YthnboadnehbciaaDoorCntQ
namespace Go.Proofs.Ythnboadnehbciaa
open Go Go.Eng
set_option linter.unusedSimpArgs false
set_option linter.unusedVariables false
set_option maxRecDepth 4000

theorem ctrM_nil : CtrM [] (cOf cs0.g 0) := by
  refine ⟨rfl, fun s => ?_⟩
  have : cOf cs0.g 0 s = 0 := by unfold cOf cs0; simp
  rw [this, mget_nil]; rfl

set_option maxHeartbeats 4000000 in
theorem numbers_fn (vm vb : Value) (bs : List Blk) (u : View) (hT : TabU u) (hbig : szB bs ≤ 9000) (hsm : smB bs) (ha : BlkS u vb bs) :
    FnP Tryd.prog 12 [.agg #[vm, vb]] u fun r u' => NumS u' r (numsOf bs) := by
  have hle := numbB_le (free := true) bs 0 cs0 cs0_le
  have hlo := hle.2.2
  have hnl := notesOf_len bs
  have ha2 := ha
  obtain ⟨cs, ⟨ad, cap, rfl, h1⟩, hc1⟩ := ha2
  refine FnP.intro [.tmp 2] Tryd.func12 rfl rfl rfl ?_
  intro w0 D hw0
  refine wc_seq ?_
  refine wc_region ?_
  refine rl_do rfl rfl ?_
  refine do_box trivial rfl (cs := [_, _]) rfl rfl rfl rfl ?_
  refine rl_y (y_assign rfl rfl) rfl ?_
  refine rl_end (ρ' := [(1, _)]) ⟨rfl, trivial⟩ ?_
  refine q_then ?_
  refine wc_seq ?_
  refine wc_region ?_
  refine rl_do rfl rfl ?_
  refine do_alloc trivial Tryd.z29 rfl rfl rfl ?_
  refine rl_end (ρ' := [(1, _), (3, _)]) ⟨rfl, rfl, trivial⟩ ?_
  refine q_then ?_
  refine wc_seq ?_
  refine wc_region ?_
  refine rl_do rfl rfl ?_
  refine do_alloc trivial Tryd.z61 rfl rfl rfl ?_
  refine rl_end (ρ' := [(1, _), (3, _), (4, _)]) ⟨rfl, rfl, rfl, trivial⟩ ?_
  refine q_then ?_
  refine wc_seq ?_
  refine wc_region ?_
  refine rl_do rfl rfl ?_
  refine do_makeMap trivial rfl rfl rfl ?_
  refine rl_do rfl rfl ?_
  refine do_alloc trivial Tryd.z62 rfl rfl rfl ?_
  refine rl_name 10 rfl ⟨10, 0, .inr rfl⟩ ?_
  intro b10
  refine rl_do rfl rfl ?_
  refine do_store_p trivial rfl Tryd.k62 rfl rfl rfl (vs := [_]) rfl rfl (by first | rfl | exact oneAll | exact oneAll2 | simp [Value.oneCell', str]) (Nat.le_of_ble_eq_true rfl) rfl ?_
  refine rl_end (ρ' := [(1, _), (3, _), (4, _), (5, _)]) ⟨rfl, rfl, rfl, rfl, trivial⟩ ?_
  refine q_then ?_
  refine wc_seq ?_
  refine wc_region ?_
  refine rl_name 5 rfl ⟨5, _, .inl rfl⟩ ?_
  intro b5
  refine rl_y (y_makeFunc rfl rfl rfl) rfl ?_
  refine rl_do rfl rfl ?_
  refine do_alloc trivial Tryd.z64 rfl rfl rfl ?_
  refine rl_do rfl rfl ?_
  refine do_store_p trivial rfl Tryd.k64 rfl rfl rfl (vs := [_]) rfl rfl (by first | rfl | exact oneAll | exact oneAll2 | simp [Value.oneCell', str]) (Nat.le_of_ble_eq_true rfl) rfl ?_
  refine rl_end (ρ' := [(1, _), (3, _), (4, _), (6, _)]) ⟨rfl, rfl, rfl, rfl, trivial⟩ ?_
  refine q_then ?_
  refine wc_seq ?_
  refine wc_region ?_
  refine rl_do rfl rfl ?_
  refine do_alloc trivial Tryd.z65 rfl rfl rfl ?_
  refine rl_end (ρ' := [(1, _), (3, _), (4, _), (6, _), (7, _)]) ⟨rfl, rfl, rfl, rfl, rfl, trivial⟩ ?_
  refine q_then ?_
  refine wc_seq ?_
  refine wc_region ?_
  refine rl_name 4 rfl ⟨4, _, .inl rfl⟩ ?_
  intro b4
  refine rl_name 6 rfl ⟨6, _, .inl rfl⟩ ?_
  intro b6
  refine rl_name 3 rfl ⟨3, _, .inl rfl⟩ ?_
  intro b3
  refine rl_name 7 rfl ⟨7, _, .inl rfl⟩ ?_
  intro b7
  refine rl_y (y_makeFunc rfl rfl rfl) rfl ?_
  refine rl_do rfl rfl ?_
  refine do_store_p trivial rfl Tryd.k65 rfl rfl rfl (vs := [_]) rfl rfl (by first | rfl | exact oneAll | exact oneAll2 | simp [Value.oneCell', str]) (Nat.le_of_ble_eq_true rfl) rfl ?_
  refine rl_end (ρ' := [(1, _), (3, _), (6, _), (7, _)]) ⟨rfl, rfl, rfl, rfl, trivial⟩ ?_
  refine q_then ?_
  refine wc_seq ?_
  refine wc_region ?_
  refine rl_y (y_load_p rfl Tryd.k65 rfl rfl rfl (vs := [_]) rfl rfl rfl) rfl ?_
  refine rl_y (y_field_p rfl Tryd.f25' rfl (by decide) rfl) rfl ?_
  refine rl_y (y_load_p rfl Tryd.k23 rfl rfl rfl (vs := [_]) rfl rfl rfl) rfl ?_
  refine rl_nilW 600 38 4 rfl rfl ?_
  refine rl_do rfl rfl ?_
  refine do_call_o (caps := [.pointer (some ⟨b4, 0, none⟩), .pointer (some ⟨b6, 0, none⟩), .pointer (some ⟨b3, 0, none⟩), .pointer (some ⟨b7, 0, none⟩)]) (ρ' := [(1, _), (3, _), (6, _)]) [3, 4, 5, 10, 6, 7, 600] [] trivial rfl rfl rfl Tryd.c29 rfl rfl ⟨rfl, rfl, rfl, trivial⟩ rfl rfl rfl (FnO.mono (visN_fn b3 b4 b5 b10 b6 b7 (szB bs) _ bs true cs0 none 0 [] [] 0 u hT (Nat.le_refl _) (by omega) cs0_le hsm ha rfl ctrM_nil) ?_)
  rintro v uV l1 hleV ⟨rfl, a1, c1, l1, k1, rfl, hn1, hM1⟩ -
  refine ⟨⟨fun _ h => h, fun _ h => h, fun _ h => h, fun _ h => h, fun _ h => h, fun _ h => h, fun _ h => h, trivial⟩, ?_⟩
  refine rl_end (ρ' := [(1, _), (3, _), (6, _)]) ⟨rfl, rfl, rfl, trivial⟩ ?_
  refine q_then ?_
  refine wc_seq ?_
  refine wc_seq ?_
  refine wc_region ?_
  refine rl_y (y_load_p rfl Tryd.k25 rfl rfl rfl (vs := [_, _]) rfl rfl rfl) rfl ?_
  refine rl_do rfl rfl ?_
  refine do_call (caps := []) trivial rfl rfl Tryd.c15 rfl (FnP.mono (notes_fn vm _ bs uV (by omega) hsm (ha.mono hleV)) ?_)
  rintro v uN hle0 ⟨nad, ncap, rfl, hns⟩ hleN
  have hTN := (hT.mono hleV).mono hleN
  refine rl_y (y_len_v rfl rfl Tryd.s32 rfl) rfl ?_
  refine rl_y (y_move rfl rfl) rfl ?_
  refine rl_end (ρ' := [(3, _), (6, _), (18, _), (19, _), (20, _)]) ⟨rfl, rfl, rfl, rfl, rfl, trivial⟩ ?_
  refine q_then ?_
  refine wc_block ?_
  refine wc_loop (fun m ρ σ u' => ∃ i : Nat, i + m = (notesOf bs).length ∧ VLe uN u' ∧ ∃ (ai : Option Addr) (ci : Nat) (li : List Value) (ki : List (Value × Value)), σ = [(3, (some b3, .box [.slice ai ((numbB true cs0 bs).out.length + i) ci])), (5, (some b5, .box [.map (some b10)])), (6, (some b6, .box [cntV b5])), (10, (some b10, .mp ki)), (600, (none, .rwv (.slice ai ((numbB true cs0 bs).out.length + i) ci) 38 4 ((numbB true cs0 bs).out.length + i) li))] ∧ ρ = [(3, .p 3 0), (6, .p 6 0), (18, .v (.slice nad (notesOf bs).length ncap)), (19, .v (.int .i64 (notesOf bs).length)), (20, .v (.int .i64 i))] ∧ (NumsC u' ((numbB true cs0 bs).out ++ noteNumsTo (notesOf bs) i) li ∧ CtrM ki (cOf (numbB true cs0 bs).g i))) ((notesOf bs).length) ?_ ?_
  ·
    refine ⟨[(3, _), (6, _), (18, _), (19, _), (20, _)], [(3, _), (5, _), (6, _), (10, _), (600, _)], ⟨rfl, rfl, rfl, rfl, rfl, trivial⟩, ⟨rfl, rfl, rfl, rfl, rfl, trivial⟩, 0, by omega, VLe.refl _, a1, c1, l1, k1, (by first | rfl | simp), (by first | rfl | (simp only [List.cons.injEq, Prod.mk.injEq, SV.v.injEq, Value.int.injEq, true_and, and_true]; omega) | simp), ?_⟩
    exact ⟨by simpa [noteNumsTo] using hn1.mono hleN, hM1⟩
  ·
    rintro m ρ σ u' ⟨i, hi9, hle9, ai, ci, li, ki, rfl, rfl, ⟨hli, hMi⟩⟩
    refine wc_seq ?_
    refine wc_region ?_
    refine rl_y (y_lss rfl rfl rfl) rfl ?_
    refine rl_end (ρ' := [(3, _), (6, _), (18, _), (19, _), (20, _), (21, _)]) ⟨rfl, rfl, rfl, rfl, rfl, rfl, trivial⟩ ?_
    refine q_then ?_
    refine wc_seq ?_
    refine wc_cond rfl (fun hb9 => ?_) (fun hb9 => ?_)
    ·
      refine wc_skip ?_
      refine q_then ?_
      refine wc_seq ?_
      refine wc_block ?_
      refine wc_seq ?_
      have hlt : i < (notesOf bs).length := by have := of_decide_eq_true hb9; omega
      have hns := hns.mono hle9
      have hTN := hTN.mono hle9
      have hg := List.getElem?_eq_getElem hlt
      have hcut := cut_strsC hg
      refine wc_region ?_
      refine rl_y (y_index_e rfl Tryd.s32 rfl rfl (by assumption) (by first | rfl | omega) (by omega)) rfl ?_
      refine rl_y (y_load_el rfl Tryd.k9 rfl (by assumption) (by omega) (by assumption) (vs := [_]) rfl rfl rfl rfl) rfl ?_
      refine rl_y (y_assign rfl rfl) rfl ?_
      refine rl_end (ρ' := [(3, _), (6, _), (9, _), (18, _), (19, _), (20, _)]) ⟨rfl, rfl, rfl, rfl, rfl, rfl, trivial⟩ ?_
      refine q_then ?_
      refine wc_draw Tryd.mixed rfl [(6, _)] ⟨rfl, trivial⟩ ?_
      refine ra_y (i := 1) rfl (by kernel_rfl) (by kernel_rfl) (by kernel_rfl) (np_block (np_then (np_then (np_block (np_then (np_fin)))))) (y_move rfl rfl) rfl ?_
      refine ra_y (i := 2) rfl (by kernel_rfl) (by kernel_rfl) (by kernel_rfl) (np_block (np_then (np_then (np_block (np_then (np_fin)))))) (y_load_p rfl Tryd.k64 rfl rfl rfl (vs := [_]) rfl rfl rfl) rfl ?_
      refine ra_all (is := [0, 3]) (by kernel_rfl) rfl ?_
      refine raall_cons rfl rfl ?_ ?_
      ·
        refine do_y (y_load_p rfl Tryd.k29 rfl rfl rfl (vs := [_]) rfl rfl rfl) rfl ?_
        refine ra_do (i := 3) rfl rfl (by kernel_rfl) ?_
        refine do_call_o (caps := [.pointer (some ⟨b5, 0, none⟩)]) (ρ' := [(3, _), (6, _), (18, _), (19, _), (20, _), (24, _), (25, _)]) [5, 10] [] ⟨rfl, trivial⟩ rfl rfl rfl Tryd.c27 rfl rfl ⟨rfl, rfl, rfl, rfl, rfl, rfl, rfl, trivial⟩ rfl rfl rfl (FnO.mono (count_fn b5 b10 ki (cOf (numbB true cs0 bs).g i) notS (by rw [cOf_note]; omega) u' hTN hMi) ?_)
        rintro v uC l1 hleC ⟨rfl, k2, rfl, hM2⟩ -
        refine ⟨⟨fun _ h => h, fun _ h => h, trivial⟩, ?_⟩
        refine ra_y (i := 4) rfl (by kernel_rfl) (by kernel_rfl) (by kernel_rfl) (np_block (np_then (np_then (np_block (np_then (np_fin)))))) (y_build rfl Tryd.f38' Tryd.z38 (ps := [(_, _), (_, _), (_, _)]) rfl (vs := [_, _, _, _]) rfl) rfl ?_
        refine ra_do (i := 5) rfl rfl (by kernel_rfl) ?_
        refine do_buildSlice ⟨rfl, trivial⟩ Tryd.s29 Tryd.z38 (ps := [(_, _)]) rfl (xs := [_, _, _, _]) rfl rfl rfl rfl rfl rfl rfl ?_
        refine ra_do (i := 6) rfl rfl (by kernel_rfl) ?_
        refine do_append_w_s 600 ⟨rfl, trivial⟩ rfl rfl Tryd.s29 Tryd.z38 rfl rfl rfl rfl rfl rfl (by simp [Value.oneCell', str]) (by omega) (by omega) rfl rfl ?_
        intro a2 c2
        refine ra_do (i := 7) rfl rfl (by kernel_rfl) ?_
        refine do_store_p ⟨rfl, trivial⟩ rfl Tryd.k29 rfl rfl rfl (vs := [_]) rfl rfl (by first | rfl | exact oneAll | exact oneAll2 | simp [Value.oneCell', str]) (Nat.le_of_ble_eq_true rfl) rfl ?_
        refine ra_end (by kernel_rfl) (ρ' := [(3, _), (6, _), (18, _), (19, _), (20, _)]) ⟨rfl, rfl, rfl, rfl, rfl, trivial⟩ ?_
        refine q_block ?_
        refine q_then ?_
        refine wc_region ?_
        refine rl_y (y_add rfl rfl rfl (wrap64_id (by omega))) rfl ?_
        refine rl_y (y_move rfl rfl) rfl ?_
        refine rl_end (ρ' := [(3, _), (6, _), (18, _), (19, _), (20, _)]) ⟨rfl, rfl, rfl, rfl, rfl, trivial⟩ ?_
        refine q_thenK ?_
        refine ⟨m - 1, [(3, _), (6, _), (18, _), (19, _), (20, _)], [(3, _), (5, _), (6, _), (10, _), (600, _)], by omega, ⟨rfl, rfl, rfl, rfl, rfl, trivial⟩, ⟨rfl, rfl, rfl, rfl, rfl, trivial⟩, i + 1, by omega, (hle9.trans hleC), a2, c2, li ++ [str (notesOf bs)[i], str notS, str (dec (i + 1)), .slice none 0 0], k2, (by first | rfl | simp), (by first | rfl | (simp only [List.cons.injEq, Prod.mk.injEq, SV.v.injEq, Value.int.injEq, true_and, and_true]; omega) | simp), ?_⟩
        refine ⟨?_, by rw [← cOf_upNote]; exact hM2⟩
        rw [noteNumsTo_succ, ← List.append_assoc]
        refine (hli.mono hleC).snoc ⟨_, ?_, nilInl _⟩
        simp [hlt]
      refine raall_cons rfl rfl ?_ ?_
      ·
        refine do_call_o (caps := [.pointer (some ⟨b5, 0, none⟩)]) (ρ' := [(3, _), (6, _), (18, _), (19, _), (20, _), (25, _)]) [5, 10] [] ⟨rfl, trivial⟩ rfl rfl rfl Tryd.c27 rfl rfl ⟨rfl, rfl, rfl, rfl, rfl, rfl, trivial⟩ rfl rfl rfl (FnO.mono (count_fn b5 b10 ki (cOf (numbB true cs0 bs).g i) notS (by rw [cOf_note]; omega) u' hTN hMi) ?_)
        rintro v uC l1 hleC ⟨rfl, k2, rfl, hM2⟩ -
        refine ⟨⟨fun _ h => h, fun _ h => h, trivial⟩, ?_⟩
        refine ra_y (i := 4) rfl (by kernel_rfl) (by kernel_rfl) (by kernel_rfl) (np_block (np_then (np_then (np_block (np_then (np_fin)))))) (y_build rfl Tryd.f38' Tryd.z38 (ps := [(_, _), (_, _), (_, _)]) rfl (vs := [_, _, _, _]) rfl) rfl ?_
        refine ra_all (is := [0, 5]) (by kernel_rfl) rfl ?_
        refine raall_cons rfl rfl ?_ ?_
        ·
          refine do_y (y_load_p rfl Tryd.k29 rfl rfl rfl (vs := [_]) rfl rfl rfl) rfl ?_
          refine ra_do (i := 5) rfl rfl (by kernel_rfl) ?_
          refine do_buildSlice ⟨rfl, trivial⟩ Tryd.s29 Tryd.z38 (ps := [(_, _)]) rfl (xs := [_, _, _, _]) rfl rfl rfl rfl rfl rfl rfl ?_
          refine ra_do (i := 6) rfl rfl (by kernel_rfl) ?_
          refine do_append_w_s 600 ⟨rfl, trivial⟩ rfl rfl Tryd.s29 Tryd.z38 rfl rfl rfl rfl rfl rfl (by simp [Value.oneCell', str]) (by omega) (by omega) rfl rfl ?_
          intro a2 c2
          refine ra_do (i := 7) rfl rfl (by kernel_rfl) ?_
          refine do_store_p ⟨rfl, trivial⟩ rfl Tryd.k29 rfl rfl rfl (vs := [_]) rfl rfl (by first | rfl | exact oneAll | exact oneAll2 | simp [Value.oneCell', str]) (Nat.le_of_ble_eq_true rfl) rfl ?_
          refine ra_end (by kernel_rfl) (ρ' := [(3, _), (6, _), (18, _), (19, _), (20, _)]) ⟨rfl, rfl, rfl, rfl, rfl, trivial⟩ ?_
          refine q_block ?_
          refine q_then ?_
          refine wc_region ?_
          refine rl_y (y_add rfl rfl rfl (wrap64_id (by omega))) rfl ?_
          refine rl_y (y_move rfl rfl) rfl ?_
          refine rl_end (ρ' := [(3, _), (6, _), (18, _), (19, _), (20, _)]) ⟨rfl, rfl, rfl, rfl, rfl, trivial⟩ ?_
          refine q_thenK ?_
          refine ⟨m - 1, [(3, _), (6, _), (18, _), (19, _), (20, _)], [(3, _), (5, _), (6, _), (10, _), (600, _)], by omega, ⟨rfl, rfl, rfl, rfl, rfl, trivial⟩, ⟨rfl, rfl, rfl, rfl, rfl, trivial⟩, i + 1, by omega, (hle9.trans hleC), a2, c2, li ++ [str (notesOf bs)[i], str notS, str (dec (i + 1)), .slice none 0 0], k2, (by first | rfl | simp), (by first | rfl | (simp only [List.cons.injEq, Prod.mk.injEq, SV.v.injEq, Value.int.injEq, true_and, and_true]; omega) | simp), ?_⟩
          refine ⟨?_, by rw [← cOf_upNote]; exact hM2⟩
          rw [noteNumsTo_succ, ← List.append_assoc]
          refine (hli.mono hleC).snoc ⟨_, ?_, nilInl _⟩
          simp [hlt]
        refine raall_cons rfl rfl ?_ ?_
        ·
          refine do_buildSlice ⟨rfl, trivial⟩ Tryd.s29 Tryd.z38 (ps := [(_, _)]) rfl (xs := [_, _, _, _]) rfl rfl rfl rfl rfl rfl rfl ?_
          refine ra_do (i := 0) rfl rfl (by kernel_rfl) ?_
          refine do_y (y_load_p rfl Tryd.k29 rfl rfl rfl (vs := [_]) rfl rfl rfl) rfl ?_
          refine ra_do (i := 6) rfl rfl (by kernel_rfl) ?_
          refine do_append_w_s 600 ⟨rfl, trivial⟩ rfl rfl Tryd.s29 Tryd.z38 rfl rfl rfl rfl rfl rfl (by simp [Value.oneCell', str]) (by omega) (by omega) rfl rfl ?_
          intro a2 c2
          refine ra_do (i := 7) rfl rfl (by kernel_rfl) ?_
          refine do_store_p ⟨rfl, trivial⟩ rfl Tryd.k29 rfl rfl rfl (vs := [_]) rfl rfl (by first | rfl | exact oneAll | exact oneAll2 | simp [Value.oneCell', str]) (Nat.le_of_ble_eq_true rfl) rfl ?_
          refine ra_end (by kernel_rfl) (ρ' := [(3, _), (6, _), (18, _), (19, _), (20, _)]) ⟨rfl, rfl, rfl, rfl, rfl, trivial⟩ ?_
          refine q_block ?_
          refine q_then ?_
          refine wc_region ?_
          refine rl_y (y_add rfl rfl rfl (wrap64_id (by omega))) rfl ?_
          refine rl_y (y_move rfl rfl) rfl ?_
          refine rl_end (ρ' := [(3, _), (6, _), (18, _), (19, _), (20, _)]) ⟨rfl, rfl, rfl, rfl, rfl, trivial⟩ ?_
          refine q_thenK ?_
          refine ⟨m - 1, [(3, _), (6, _), (18, _), (19, _), (20, _)], [(3, _), (5, _), (6, _), (10, _), (600, _)], by omega, ⟨rfl, rfl, rfl, rfl, rfl, trivial⟩, ⟨rfl, rfl, rfl, rfl, rfl, trivial⟩, i + 1, by omega, (hle9.trans hleC), a2, c2, li ++ [str (notesOf bs)[i], str notS, str (dec (i + 1)), .slice none 0 0], k2, (by first | rfl | simp), (by first | rfl | (simp only [List.cons.injEq, Prod.mk.injEq, SV.v.injEq, Value.int.injEq, true_and, and_true]; omega) | simp), ?_⟩
          refine ⟨?_, by rw [← cOf_upNote]; exact hM2⟩
          rw [noteNumsTo_succ, ← List.append_assoc]
          refine (hli.mono hleC).snoc ⟨_, ?_, nilInl _⟩
          simp [hlt]
        exact raall_nil
      exact raall_nil
    ·
      refine wc_exit ?_
      refine q_then_exit ?_
      refine q_then_exit ?_
      refine q_block_hit ?_
      refine q_then ?_
      refine wc_seq ?_
      refine wc_region ?_
      refine rl_y (y_load_p rfl Tryd.k29 rfl rfl rfl (vs := [_]) rfl rfl rfl) rfl ?_
      refine rl_freezeW 600 rfl ?_
      intro uF hleF hF
      refine rl_y (y_assign rfl rfl) rfl ?_
      refine rl_end (ρ' := [(2, _)]) ⟨rfl, trivial⟩ ?_
      refine q_then ?_
      refine wc_ret ?_
      refine fin1 (.tmp rfl) ?_
      have hge := of_decide_eq_false hb9
      have hin : i = (notesOf bs).length := by omega
      subst hin
      refine ⟨li, ?_, hli.mono hleF⟩
      rw [show (numsOf bs).length = (numbB true cs0 bs).out.length + (notesOf bs).length by simp [numsOf, noteNums]]
      exact hF
end Go.Proofs.Ythnboadnehbciaa
