/- Texts for a law, part 5: they walk the functions that the law reaches, and state what holds of them; without conditions beyond each theorem's own. -/
import Derived.Test.YtoajhdnfdfbmaaaDoorPartD
namespace Go.Proofs.Ytoajhdnfdfbmaaa
open Go Go.Eng
set_option linter.unusedSimpArgs false
set_option linter.unusedVariables false
set_option maxRecDepth 4000
def hdW (lv : Int) (s : Bs) : Blk := .mk 2 lv [] [] [] [] ⟨[], [], []⟩ [tI s] []
def lkW : Inl := .mk 9 [] [120] [] ⟨[], [], []⟩ [] [] []
def lkR : Inl := .mk 9 [] [120] [] ⟨[], [], []⟩ [] [] [tI [120]]
def paW (x : Inl) : Blk := .mk 1 0 [] [] [] [] ⟨[], [], []⟩ [x] []
def d3W : List Blk := [hdW 1 [65], hdW 3 [66], paW lkW]
def r3W : List Blk := [hdW 1 [65], hdW 2 [66], paW lkR]
def metaW : List (Bs × Bs) := [(langS, enS), (titS, [84])]
theorem F_d1 : faultsL metaW [hdW 2 [65]] = [(levS, [65])] := by rfl
theorem F_nil : faultsL [] [] = [(langS, langS), (titS, titS)] := by rfl
theorem R_d3 : repB d3W = r3W := by rfl
theorem M_d3 : repM [] d3W = [(langS, enS), (titS, [65])] := by rfl
theorem sm_hd (lv : Int) (s : Bs) (h : s.length ≤ 1000) : smB1 (hdW lv s) := by
 simp [hdW, tI, smB1, smI, smI1, NodeSm, longN, smB]
 omega
theorem sm_d3 : smB d3W ∧ szB d3W ≤ 1000 ∧ rdB d3W := by
 refine ⟨?_, by decide, ?_⟩
 ·
  simp [d3W, hdW, paW, lkW, tI, smB, smB1, smI, smI1, NodeSm, longN]
 ·
  have e1 : ownR 2 [tI [65]] = ([tI [65]], false) := by rfl
  have e2 : ownR 2 [tI [66]] = ([tI [66]], false) := by rfl
  have e3 : ownR 1 [lkW] = ([lkR], true) := by rfl
  simp only [d3W, hdW, paW, rdB, rdB1, e1, e2, e3]
  simp [tI, lkR, smI, smI1, NodeSm, longN, szI, sz1]
theorem sm_r3 : smB r3W ∧ szB r3W ≤ 1000 := by
 refine ⟨?_, by decide⟩
 simp [r3W, hdW, paW, lkR, tI, smB, smB1, smI, smI1, NodeSm, longN]
theorem attrOkZ : AttrOk ⟨[], [], []⟩ := ⟨by decide, ⟨by decide, by simp⟩, ⟨by decide, by simp⟩⟩
theorem blk_ok1 (k lv : Int) (line : List Inl) (hk : IntOk k) (hl : IntOk lv) (hn : line.length ≤ 1000) : BlkOk (.mk k lv [] [] [] [] ⟨[], [], []⟩ line []) :=
 ⟨hk, hl, by decide, by decide, by decide, by decide, attrOkZ, by omega, by decide⟩
theorem nilBl (u : View) : BlkS u (.slice none 0 0) [] := ⟨[], nilSl u 11, BlksC.nil⟩
theorem hd_C {u : View} {lv : Int} {s : Bs} {vl : Value} (hl : IntOk lv) (h : InlS u vl [tI s]) : BlkC u (hdW lv s) [.int .i64 2, .int .i64 lv, str [], str [], str [], str [], str [], .slice none 0 0, .slice none 0 0, vl, .slice none 0 0] :=
 BlkC.mk' (a := ⟨[], [], []⟩) (nilStr _) (nilPr _) h (nilBl _) (blk_ok1 2 lv _ ⟨by decide, by decide⟩ hl (by simp))
theorem lawmeta_fn (u : View) : FnP Tryd.prog 5 [] u fun r u' => PrS u' r metaW := by
 refine FnP.intro [.tmp 0] Tryd.func5 rfl rfl rfl ?_
 intro w0 D hw0
 refine wc_seq ?_
 refine wc_region ?_
 refine ya rfl rfl ?_
 refine rl_end (ρ' := []) trivial ?_
 refine q_then ?_
 refine wc_seq ?_
 refine wc_region ?_
 refine rl_y (y_build rfl Tryd.f46' Tryd.z46 (ps := [(_, _), (_, _)]) rfl (vs := [_, _]) rfl) rfl ?_
 refine rl_y (y_build rfl Tryd.f46' Tryd.z46 (ps := [(_, _), (_, _)]) rfl (vs := [_, _]) rfl) rfl ?_
 refine rl_do rfl rfl ?_
 refine do_buildSlice trivial Tryd.s24 Tryd.z46 (ps := [(_, _), (_, _)]) rfl (xs := [_, _, _, _]) rfl rfl rfl rfl rfl rfl rfl ?_
 refine rl_freeze 3 rfl ?_
 intro ad3 cap3 u3 hle3z hsl3
 refine ya rfl rfl ?_
 refine rl_end (ρ' := [(0, _)]) ⟨rfl, trivial⟩ ?_
 refine q_then ?_
 refine wc_ret ?_
 refine fin1 (.tmp rfl) ?_
 exact ⟨_, _, rfl, hsl3⟩
theorem lawhead_fn (lv : Int) (s : Bs) (hs : s.length ≤ 1000) (u : View) : FnP Tryd.prog 6 [.int .i64 lv, str s] u fun r u' => ∃ ad cap, r = .agg #[.int .i64 2, .int .i64 lv, str [], str [], str [], str [], str [], .slice none 0 0, .slice none 0 0, .slice ad 1 cap, .slice none 0 0] ∧ InlS u' (.slice ad 1 cap) [tI s] := by
 refine FnP.intro [.cell 4 34] Tryd.func6 rfl rfl rfl ?_
 intro w0 D hw0
 refine wc_seq ?_
 refine wc_region ?_
 refine rl_do rfl rfl ?_
 refine do_alloc trivial Tryd.z34 rfl rfl rfl ?_
 refine rl_end (ρ' := [(0, _), (1, _), (4, _)]) ⟨rfl, rfl, rfl, trivial⟩ ?_
 refine q_then ?_
 refine wc_seq ?_
 refine wc_region ?_
 refine ym rfl rfl ?_
 refine ym rfl rfl ?_
 refine rl_y (y_build rfl Tryd.f42' Tryd.z42 (ps := [(_, _), (_, _)]) rfl (vs := [_, _, _, _, _, _, _, _, _, _]) rfl) rfl ?_
 refine rl_do rfl rfl ?_
 refine do_buildSlice trivial Tryd.s32 Tryd.z42 (ps := [(_, _)]) rfl (xs := [_, _, _, _, _, _, _, _, _, _]) rfl rfl rfl rfl rfl rfl rfl ?_
 refine rl_freeze 8 rfl ?_
 intro ad8 cap8 u8 hle8z hsl8
 refine rl_y (y_build rfl Tryd.f34' Tryd.z34 (ps := [(_, _), (_, _), (_, _)]) rfl (vs := [_, _, _, _, _, _, _, _, _, _, _]) rfl) rfl ?_
 refine rl_do rfl rfl ?_
 refine do_store_p trivial rfl Tryd.k34 rfl rfl rfl (vs := [_, _, _, _, _, _, _, _, _, _, _]) rfl rfl (by first | rfl | assumption | simp [Value.oneCell', str]) (Nat.le_of_ble_eq_true rfl) rfl ?_
 refine rl_end (ρ' := [(4, _)]) ⟨rfl, trivial⟩ ?_
 refine q_then ?_
 refine wc_ret ?_
 refine fin1 (.cell rfl rfl Tryd.k34 (cs := _) (vs := [_, _, _, _, _, _, _, _, _, _, _]) rfl rfl rfl) ?_
 exact ⟨_, _, rfl, ⟨_, ⟨_, _, rfl, hsl8⟩, InlsC.one (tI_cells _ s (by omega))⟩⟩
set_option maxHeartbeats 4000000 in
theorem lawawake_fn (u : View) (hT : TabU u) : FnP Tryd.prog 4 [] u fun r _ => r = .bool true := by
 refine FnP.intro [.tmp 0] Tryd.func4 rfl rfl rfl ?_
 intro w0 D hw0
 refine wc_seq ?_
 refine wc_region ?_
 refine ya rfl rfl ?_
 refine rl_end (ρ' := []) trivial ?_
 refine q_then ?_
 refine wc_seq ?_
 refine wc_region ?_
 refine rl_do rfl rfl ?_
 refine do_call (caps := []) trivial rfl rfl Tryd.c5 rfl (FnP.mono (lawmeta_fn u) ?_)
 rintro v uA hle0 ⟨adm, capm, rfl, hm⟩ hleA
 refine rl_do rfl rfl ?_
 refine do_call (caps := []) trivial rfl rfl Tryd.c6 rfl (FnP.mono (lawhead_fn 2 [65] (by decide) uA) ?_)
 rintro v uB hle0 ⟨adh, caph, rfl, hh⟩ hleB
 refine rl_do rfl rfl ?_
 refine do_buildSlice trivial Tryd.s26 Tryd.z34 (ps := [(_, _)]) rfl (xs := [_, _, _, _, _, _, _, _, _, _, _]) rfl rfl rfl rfl rfl rfl rfl ?_
 refine rl_freeze 8 rfl ?_
 intro ad8 cap8 u8 hle8z hsl8
 have hB1 : BlkS u8 (.slice ad8 1 cap8) [hdW 2 [65]] := ⟨_, ⟨_, _, rfl, hsl8⟩, BlksC.one (hd_C ⟨by decide, by decide⟩ (hh.mono hle8z))⟩
 have hT1 := ((hT.mono hleA).mono hleB).mono hle8z
 refine rl_y (y_build rfl Tryd.f28' Tryd.z28 (ps := [(_, _), (_, _)]) rfl (vs := [_, _]) rfl) rfl ?_
 refine rl_do rfl rfl ?_
 refine do_call (caps := []) trivial rfl rfl Tryd.c8 rfl (FnP.mono (check_fn _ _ metaW [hdW 2 [65]] u8 hT1 (by decide) (by simp [smB, sm_hd]) (by decide) ⟨_, _, rfl, (hm.mono hleB).mono hle8z⟩ hB1) ?_)
 rintro v uC hle0 ⟨ad1, cap1, rfl, hf1⟩ hleC
 rw [F_d1] at hf1 ⊢
 have hc1 : cut (fltC [(levS, [65])]) (0 * 3) 3 = [str levS, str [], str [65]] := rfl
 have hT1 := hT1.mono hleC
 refine ya rfl rfl ?_
 refine rl_end (ρ' := [(1, _)]) ⟨rfl, trivial⟩ ?_
 refine q_then ?_
 refine wc_seq ?_
 refine wc_region ?_
 refine rl_y (y_build rfl Tryd.f28' Tryd.z28 (ps := []) rfl (vs := [_, _]) rfl) rfl ?_
 refine rl_do rfl rfl ?_
 refine do_call (caps := []) trivial rfl rfl Tryd.c8 rfl (FnP.mono (check_fn _ _ [] [] uC hT1 (by decide) (by simp [smB]) (by decide) (nilPr _) (nilBl _)) ?_)
 rintro v uD hle0 ⟨ad2, cap2, rfl, hf2⟩ hleD
 rw [F_nil] at hf2 ⊢
 have hc2 : cut (fltC [(langS, langS), (titS, titS)]) (0 * 3) 3 = [str langS, str [], str langS] := rfl
 have hc3 : cut (fltC [(langS, langS), (titS, titS)]) (1 * 3) 3 = [str titS, str [], str titS] := rfl
 have hf1 := hf1.mono hleD
 refine ya rfl rfl ?_
 refine rl_end (ρ' := [(1, _), (2, _)]) ⟨rfl, rfl, trivial⟩ ?_
 refine q_then ?_
 refine wc_seq ?_
 refine wc_region ?_
 refine rl_y (y_build rfl Tryd.f42' Tryd.z42 (ps := [(_, _), (_, _)]) rfl (vs := [_, _, _, _, _, _, _, _, _, _]) rfl) rfl ?_
 refine rl_do rfl rfl ?_
 refine do_buildSlice trivial Tryd.s32 Tryd.z42 (ps := [(_, _)]) rfl (xs := [_, _, _, _, _, _, _, _, _, _]) rfl rfl rfl rfl rfl rfl rfl ?_
 refine rl_freeze 14 rfl ?_
 intro ad14 cap14 u14 hle14z hsl14
 refine rl_y (y_build rfl Tryd.f34' Tryd.z34 (ps := [(_, _), (_, _)]) rfl (vs := [_, _, _, _, _, _, _, _, _, _, _]) rfl) rfl ?_
 refine rl_do rfl rfl ?_
 refine do_alloc trivial Tryd.z34 rfl rfl rfl ?_
 refine rl_do rfl rfl ?_
 refine do_store_p trivial rfl Tryd.k34 rfl rfl rfl (vs := [_, _, _, _, _, _, _, _, _, _, _]) rfl rfl (by first | rfl | assumption | simp [Value.oneCell', str]) (Nat.le_of_ble_eq_true rfl) rfl ?_
 refine rl_end (ρ' := [(1, _), (2, _), (3, _)]) ⟨rfl, rfl, rfl, trivial⟩ ?_
 refine q_then ?_
 refine wc_cut (fun ρ σ uc5 => ∃ (adm2 : Option Addr) (capm2 : Nat) (adb2 : Option Addr) (capb2 : Nat) (rcs : List Value), VLe uD uc5 ∧ σ = [(4, (none, .box [.slice adm2 2 capm2, .slice adb2 3 capb2]))] ∧ ρ = [(1, .v (.slice ad1 1 cap1)), (2, .v (.slice ad2 2 cap2)), (4, .p 4 0)] ∧ (SlC uc5 adm2 2 capm2 2 (pairsC [(langS, enS), (titS, [65])]) ∧ SlC uc5 adb2 3 capb2 11 rcs ∧ BlksC uc5 r3W rcs)) ?_ ?_
 ·
  refine wc_draw Tryd.mixed rfl [(3, _)] ⟨rfl, trivial⟩ ?_
  refine ra_y (i := 2) rfl (by kernel_rfl) (by kernel_rfl) (by kernel_rfl) (np_then (np_fin)) (y_load_p rfl Tryd.k34 rfl rfl rfl (vs := [_, _, _, _, _, _, _, _, _, _, _]) rfl rfl rfl) rfl ?_
  refine ra_all (is := [0, 6]) (by kernel_rfl) rfl ?_
  refine raall_cons rfl rfl ?_ ?_
  ·
   refine do_call (caps := []) ⟨rfl, trivial⟩ rfl rfl Tryd.c6 rfl (FnP.mono (lawhead_fn 1 [65] (by decide) _) ?_)
   rintro v uE hle0 ⟨ade, cape, rfl, he⟩ hleE
   refine ra_all (is := [1, 6]) (by kernel_rfl) rfl ?_
   refine raall_cons rfl rfl ?_ ?_
   ·
    refine do_call (caps := []) ⟨rfl, trivial⟩ rfl rfl Tryd.c6 rfl (FnP.mono (lawhead_fn 3 [66] (by decide) _) ?_)
    rintro v uF hle0 ⟨adf, capf, rfl, hf⟩ hleF
    refine ra_all (is := [3, 6]) (by kernel_rfl) rfl ?_
    refine raall_cons rfl rfl ?_ ?_
    ·
     refine do_buildSlice ⟨rfl, trivial⟩ Tryd.s26 Tryd.z34 (ps := [(_, _), (_, _), (_, _)]) rfl (xs := [_, _, _, _, _, _, _, _, _, _, _, _, _, _, _, _, _, _, _, _, _, _, _, _, _, _, _, _, _, _, _, _, _]) rfl rfl rfl rfl rfl rfl rfl ?_
     refine ra_freeze 19 rfl ?_
     intro ad19 cap19 u19 hle19z hsl19
     have hp : InlC u19 lkW [.int .i64 9, str [], str [120], str [], str [], .slice none 0 0, .slice none 0 0, .slice none 0 0, .slice none 0 0, .slice none 0 0] :=
      InlC.mk' (nilStr _) (nilPr _) (nilStr _) (nilCi _) (nilInl _) ⟨⟨by decide, by decide⟩, by decide, by decide, by decide, attrOkZ, ⟨by decide, by simp⟩, ⟨by decide, by simp⟩, by decide⟩
     have hpl : InlS u19 (.slice ad14 1 cap14) [lkW] := ⟨_, ⟨_, _, rfl, ((hsl14.mono hleE).mono hleF).mono hle19z⟩, InlsC.one hp⟩
     have hpb : BlkC u19 (paW lkW) [.int .i64 1, .int .i64 0, str [], str [], str [], str [], str [], .slice none 0 0, .slice none 0 0, .slice ad14 1 cap14, .slice none 0 0] :=
      BlkC.mk' (a := ⟨[], [], []⟩) (nilStr _) (nilPr _) hpl (nilBl _) (blk_ok1 1 0 _ ⟨by decide, by decide⟩ ⟨by decide, by decide⟩ (by simp))
     have hB3 : BlkS u19 (.slice ad19 3 cap19) d3W := ⟨_, ⟨_, _, rfl, hsl19⟩, ((BlksC.one (hd_C (lv := 1) (s := [65]) ⟨by decide, by decide⟩ ((he.mono hleF).mono hle19z))).append (BlksC.one (hd_C (lv := 3) (s := [66]) ⟨by decide, by decide⟩ (hf.mono hle19z)))).append (BlksC.one hpb)⟩
     refine ra_y (i := 4) rfl (by kernel_rfl) (by kernel_rfl) (by kernel_rfl) (np_then (np_fin)) (y_build rfl Tryd.f28' Tryd.z28 (ps := [(_, _)]) rfl (vs := [_, _]) rfl) rfl ?_
     refine ra_all (is := [5, 6]) (by kernel_rfl) rfl ?_
     refine raall_cons rfl rfl ?_ ?_
     ·
      refine do_call (caps := []) ⟨rfl, trivial⟩ rfl rfl Tryd.c7 rfl (FnP.mono (repair_fn _ _ [] d3W u19 (by decide) sm_d3.2.1 sm_d3.1 sm_d3.2.2 (by rw [R_d3]; exact sm_r3.2) (by rw [R_d3]; exact sm_r3.1) (nilPr _) hB3) ?_)
      rintro v uR hle0 ⟨_, _, rfl, ⟨adm2, capm2, rfl, hm2⟩, ⟨rcs, ⟨adb2, capb2, rfl, hb2⟩, hbc2⟩⟩ hleR
      rw [M_d3] at hm2 ⊢
      rw [R_d3] at hb2 hbc2 ⊢
      refine ra_do (i := 6) rfl rfl (by kernel_rfl) ?_
      refine do_alloc ⟨rfl, trivial⟩ Tryd.z28 rfl rfl rfl ?_
      refine ra_do (i := 7) rfl rfl (by kernel_rfl) ?_
      refine do_store_p ⟨rfl, trivial⟩ rfl Tryd.k28 rfl rfl rfl (vs := [_, _]) rfl rfl (by first | rfl | assumption | simp [Value.oneCell', str]) (Nat.le_of_ble_eq_true rfl) rfl ?_
      refine ra_end (by kernel_rfl) (ρ' := [(1, _), (2, _), (4, _)]) ⟨rfl, rfl, rfl, trivial⟩ ?_
      refine q_thenK ?_
      refine ⟨[(1, _), (2, _), (4, _)], [(4, _)], ⟨rfl, rfl, rfl, trivial⟩, ⟨rfl, trivial⟩, adm2, capm2, adb2, capb2, rcs, (hle14z.trans (hleE.trans (hleF.trans (hle19z.trans hleR)))), rfl, rfl, ?_⟩
      exact ⟨hm2, hb2, hbc2⟩
     refine raall_cons rfl rfl ?_ ?_
     ·
      refine do_alloc ⟨rfl, trivial⟩ Tryd.z28 rfl rfl rfl ?_
      refine ra_do (i := 5) rfl rfl (by kernel_rfl) ?_
      refine do_call (caps := []) ⟨rfl, trivial⟩ rfl rfl Tryd.c7 rfl (FnP.mono (repair_fn _ _ [] d3W u19 (by decide) sm_d3.2.1 sm_d3.1 sm_d3.2.2 (by rw [R_d3]; exact sm_r3.2) (by rw [R_d3]; exact sm_r3.1) (nilPr _) hB3) ?_)
      rintro v uR hle0 ⟨_, _, rfl, ⟨adm2, capm2, rfl, hm2⟩, ⟨rcs, ⟨adb2, capb2, rfl, hb2⟩, hbc2⟩⟩ hleR
      rw [M_d3] at hm2 ⊢
      rw [R_d3] at hb2 hbc2 ⊢
      refine ra_do (i := 7) rfl rfl (by kernel_rfl) ?_
      refine do_store_p ⟨rfl, trivial⟩ rfl Tryd.k28 rfl rfl rfl (vs := [_, _]) rfl rfl (by first | rfl | assumption | simp [Value.oneCell', str]) (Nat.le_of_ble_eq_true rfl) rfl ?_
      refine ra_end (by kernel_rfl) (ρ' := [(1, _), (2, _), (4, _)]) ⟨rfl, rfl, rfl, trivial⟩ ?_
      refine q_thenK ?_
      refine ⟨[(1, _), (2, _), (4, _)], [(4, _)], ⟨rfl, rfl, rfl, trivial⟩, ⟨rfl, trivial⟩, adm2, capm2, adb2, capb2, rcs, (hle14z.trans (hleE.trans (hleF.trans (hle19z.trans hleR)))), rfl, rfl, ?_⟩
      exact ⟨hm2, hb2, hbc2⟩
     exact raall_nil
    refine raall_cons rfl rfl ?_ ?_
    ·
     refine do_alloc ⟨rfl, trivial⟩ Tryd.z28 rfl rfl rfl ?_
     refine ra_do (i := 3) rfl rfl (by kernel_rfl) ?_
     refine do_buildSlice ⟨rfl, trivial⟩ Tryd.s26 Tryd.z34 (ps := [(_, _), (_, _), (_, _)]) rfl (xs := [_, _, _, _, _, _, _, _, _, _, _, _, _, _, _, _, _, _, _, _, _, _, _, _, _, _, _, _, _, _, _, _, _]) rfl rfl rfl rfl rfl rfl rfl ?_
     refine ra_freeze 19 rfl ?_
     intro ad19 cap19 u19 hle19z hsl19
     have hp : InlC u19 lkW [.int .i64 9, str [], str [120], str [], str [], .slice none 0 0, .slice none 0 0, .slice none 0 0, .slice none 0 0, .slice none 0 0] :=
      InlC.mk' (nilStr _) (nilPr _) (nilStr _) (nilCi _) (nilInl _) ⟨⟨by decide, by decide⟩, by decide, by decide, by decide, attrOkZ, ⟨by decide, by simp⟩, ⟨by decide, by simp⟩, by decide⟩
     have hpl : InlS u19 (.slice ad14 1 cap14) [lkW] := ⟨_, ⟨_, _, rfl, ((hsl14.mono hleE).mono hleF).mono hle19z⟩, InlsC.one hp⟩
     have hpb : BlkC u19 (paW lkW) [.int .i64 1, .int .i64 0, str [], str [], str [], str [], str [], .slice none 0 0, .slice none 0 0, .slice ad14 1 cap14, .slice none 0 0] :=
      BlkC.mk' (a := ⟨[], [], []⟩) (nilStr _) (nilPr _) hpl (nilBl _) (blk_ok1 1 0 _ ⟨by decide, by decide⟩ ⟨by decide, by decide⟩ (by simp))
     have hB3 : BlkS u19 (.slice ad19 3 cap19) d3W := ⟨_, ⟨_, _, rfl, hsl19⟩, ((BlksC.one (hd_C (lv := 1) (s := [65]) ⟨by decide, by decide⟩ ((he.mono hleF).mono hle19z))).append (BlksC.one (hd_C (lv := 3) (s := [66]) ⟨by decide, by decide⟩ (hf.mono hle19z)))).append (BlksC.one hpb)⟩
     refine ra_y (i := 4) rfl (by kernel_rfl) (by kernel_rfl) (by kernel_rfl) (np_then (np_fin)) (y_build rfl Tryd.f28' Tryd.z28 (ps := [(_, _)]) rfl (vs := [_, _]) rfl) rfl ?_
     refine ra_do (i := 5) rfl rfl (by kernel_rfl) ?_
     refine do_call (caps := []) ⟨rfl, trivial⟩ rfl rfl Tryd.c7 rfl (FnP.mono (repair_fn _ _ [] d3W u19 (by decide) sm_d3.2.1 sm_d3.1 sm_d3.2.2 (by rw [R_d3]; exact sm_r3.2) (by rw [R_d3]; exact sm_r3.1) (nilPr _) hB3) ?_)
     rintro v uR hle0 ⟨_, _, rfl, ⟨adm2, capm2, rfl, hm2⟩, ⟨rcs, ⟨adb2, capb2, rfl, hb2⟩, hbc2⟩⟩ hleR
     rw [M_d3] at hm2 ⊢
     rw [R_d3] at hb2 hbc2 ⊢
     refine ra_do (i := 7) rfl rfl (by kernel_rfl) ?_
     refine do_store_p ⟨rfl, trivial⟩ rfl Tryd.k28 rfl rfl rfl (vs := [_, _]) rfl rfl (by first | rfl | assumption | simp [Value.oneCell', str]) (Nat.le_of_ble_eq_true rfl) rfl ?_
     refine ra_end (by kernel_rfl) (ρ' := [(1, _), (2, _), (4, _)]) ⟨rfl, rfl, rfl, trivial⟩ ?_
     refine q_thenK ?_
     refine ⟨[(1, _), (2, _), (4, _)], [(4, _)], ⟨rfl, rfl, rfl, trivial⟩, ⟨rfl, trivial⟩, adm2, capm2, adb2, capb2, rcs, (hle14z.trans (hleE.trans (hleF.trans (hle19z.trans hleR)))), rfl, rfl, ?_⟩
     exact ⟨hm2, hb2, hbc2⟩
    exact raall_nil
   refine raall_cons rfl rfl ?_ ?_
   ·
    refine do_alloc ⟨rfl, trivial⟩ Tryd.z28 rfl rfl rfl ?_
    refine ra_do (i := 1) rfl rfl (by kernel_rfl) ?_
    refine do_call (caps := []) ⟨rfl, trivial⟩ rfl rfl Tryd.c6 rfl (FnP.mono (lawhead_fn 3 [66] (by decide) _) ?_)
    rintro v uF hle0 ⟨adf, capf, rfl, hf⟩ hleF
    refine ra_do (i := 3) rfl rfl (by kernel_rfl) ?_
    refine do_buildSlice ⟨rfl, trivial⟩ Tryd.s26 Tryd.z34 (ps := [(_, _), (_, _), (_, _)]) rfl (xs := [_, _, _, _, _, _, _, _, _, _, _, _, _, _, _, _, _, _, _, _, _, _, _, _, _, _, _, _, _, _, _, _, _]) rfl rfl rfl rfl rfl rfl rfl ?_
    refine ra_freeze 19 rfl ?_
    intro ad19 cap19 u19 hle19z hsl19
    have hp : InlC u19 lkW [.int .i64 9, str [], str [120], str [], str [], .slice none 0 0, .slice none 0 0, .slice none 0 0, .slice none 0 0, .slice none 0 0] :=
     InlC.mk' (nilStr _) (nilPr _) (nilStr _) (nilCi _) (nilInl _) ⟨⟨by decide, by decide⟩, by decide, by decide, by decide, attrOkZ, ⟨by decide, by simp⟩, ⟨by decide, by simp⟩, by decide⟩
    have hpl : InlS u19 (.slice ad14 1 cap14) [lkW] := ⟨_, ⟨_, _, rfl, ((hsl14.mono hleE).mono hleF).mono hle19z⟩, InlsC.one hp⟩
    have hpb : BlkC u19 (paW lkW) [.int .i64 1, .int .i64 0, str [], str [], str [], str [], str [], .slice none 0 0, .slice none 0 0, .slice ad14 1 cap14, .slice none 0 0] :=
     BlkC.mk' (a := ⟨[], [], []⟩) (nilStr _) (nilPr _) hpl (nilBl _) (blk_ok1 1 0 _ ⟨by decide, by decide⟩ ⟨by decide, by decide⟩ (by simp))
    have hB3 : BlkS u19 (.slice ad19 3 cap19) d3W := ⟨_, ⟨_, _, rfl, hsl19⟩, ((BlksC.one (hd_C (lv := 1) (s := [65]) ⟨by decide, by decide⟩ ((he.mono hleF).mono hle19z))).append (BlksC.one (hd_C (lv := 3) (s := [66]) ⟨by decide, by decide⟩ (hf.mono hle19z)))).append (BlksC.one hpb)⟩
    refine ra_y (i := 4) rfl (by kernel_rfl) (by kernel_rfl) (by kernel_rfl) (np_then (np_fin)) (y_build rfl Tryd.f28' Tryd.z28 (ps := [(_, _)]) rfl (vs := [_, _]) rfl) rfl ?_
    refine ra_do (i := 5) rfl rfl (by kernel_rfl) ?_
    refine do_call (caps := []) ⟨rfl, trivial⟩ rfl rfl Tryd.c7 rfl (FnP.mono (repair_fn _ _ [] d3W u19 (by decide) sm_d3.2.1 sm_d3.1 sm_d3.2.2 (by rw [R_d3]; exact sm_r3.2) (by rw [R_d3]; exact sm_r3.1) (nilPr _) hB3) ?_)
    rintro v uR hle0 ⟨_, _, rfl, ⟨adm2, capm2, rfl, hm2⟩, ⟨rcs, ⟨adb2, capb2, rfl, hb2⟩, hbc2⟩⟩ hleR
    rw [M_d3] at hm2 ⊢
    rw [R_d3] at hb2 hbc2 ⊢
    refine ra_do (i := 7) rfl rfl (by kernel_rfl) ?_
    refine do_store_p ⟨rfl, trivial⟩ rfl Tryd.k28 rfl rfl rfl (vs := [_, _]) rfl rfl (by first | rfl | assumption | simp [Value.oneCell', str]) (Nat.le_of_ble_eq_true rfl) rfl ?_
    refine ra_end (by kernel_rfl) (ρ' := [(1, _), (2, _), (4, _)]) ⟨rfl, rfl, rfl, trivial⟩ ?_
    refine q_thenK ?_
    refine ⟨[(1, _), (2, _), (4, _)], [(4, _)], ⟨rfl, rfl, rfl, trivial⟩, ⟨rfl, trivial⟩, adm2, capm2, adb2, capb2, rcs, (hle14z.trans (hleE.trans (hleF.trans (hle19z.trans hleR)))), rfl, rfl, ?_⟩
    exact ⟨hm2, hb2, hbc2⟩
   exact raall_nil
  refine raall_cons rfl rfl ?_ ?_
  ·
   refine do_alloc ⟨rfl, trivial⟩ Tryd.z28 rfl rfl rfl ?_
   refine ra_do (i := 0) rfl rfl (by kernel_rfl) ?_
   refine do_call (caps := []) ⟨rfl, trivial⟩ rfl rfl Tryd.c6 rfl (FnP.mono (lawhead_fn 1 [65] (by decide) _) ?_)
   rintro v uE hle0 ⟨ade, cape, rfl, he⟩ hleE
   refine ra_do (i := 1) rfl rfl (by kernel_rfl) ?_
   refine do_call (caps := []) ⟨rfl, trivial⟩ rfl rfl Tryd.c6 rfl (FnP.mono (lawhead_fn 3 [66] (by decide) _) ?_)
   rintro v uF hle0 ⟨adf, capf, rfl, hf⟩ hleF
   refine ra_do (i := 3) rfl rfl (by kernel_rfl) ?_
   refine do_buildSlice ⟨rfl, trivial⟩ Tryd.s26 Tryd.z34 (ps := [(_, _), (_, _), (_, _)]) rfl (xs := [_, _, _, _, _, _, _, _, _, _, _, _, _, _, _, _, _, _, _, _, _, _, _, _, _, _, _, _, _, _, _, _, _]) rfl rfl rfl rfl rfl rfl rfl ?_
   refine ra_freeze 19 rfl ?_
   intro ad19 cap19 u19 hle19z hsl19
   have hp : InlC u19 lkW [.int .i64 9, str [], str [120], str [], str [], .slice none 0 0, .slice none 0 0, .slice none 0 0, .slice none 0 0, .slice none 0 0] :=
    InlC.mk' (nilStr _) (nilPr _) (nilStr _) (nilCi _) (nilInl _) ⟨⟨by decide, by decide⟩, by decide, by decide, by decide, attrOkZ, ⟨by decide, by simp⟩, ⟨by decide, by simp⟩, by decide⟩
   have hpl : InlS u19 (.slice ad14 1 cap14) [lkW] := ⟨_, ⟨_, _, rfl, ((hsl14.mono hleE).mono hleF).mono hle19z⟩, InlsC.one hp⟩
   have hpb : BlkC u19 (paW lkW) [.int .i64 1, .int .i64 0, str [], str [], str [], str [], str [], .slice none 0 0, .slice none 0 0, .slice ad14 1 cap14, .slice none 0 0] :=
    BlkC.mk' (a := ⟨[], [], []⟩) (nilStr _) (nilPr _) hpl (nilBl _) (blk_ok1 1 0 _ ⟨by decide, by decide⟩ ⟨by decide, by decide⟩ (by simp))
   have hB3 : BlkS u19 (.slice ad19 3 cap19) d3W := ⟨_, ⟨_, _, rfl, hsl19⟩, ((BlksC.one (hd_C (lv := 1) (s := [65]) ⟨by decide, by decide⟩ ((he.mono hleF).mono hle19z))).append (BlksC.one (hd_C (lv := 3) (s := [66]) ⟨by decide, by decide⟩ (hf.mono hle19z)))).append (BlksC.one hpb)⟩
   refine ra_y (i := 4) rfl (by kernel_rfl) (by kernel_rfl) (by kernel_rfl) (np_then (np_fin)) (y_build rfl Tryd.f28' Tryd.z28 (ps := [(_, _)]) rfl (vs := [_, _]) rfl) rfl ?_
   refine ra_do (i := 5) rfl rfl (by kernel_rfl) ?_
   refine do_call (caps := []) ⟨rfl, trivial⟩ rfl rfl Tryd.c7 rfl (FnP.mono (repair_fn _ _ [] d3W u19 (by decide) sm_d3.2.1 sm_d3.1 sm_d3.2.2 (by rw [R_d3]; exact sm_r3.2) (by rw [R_d3]; exact sm_r3.1) (nilPr _) hB3) ?_)
   rintro v uR hle0 ⟨_, _, rfl, ⟨adm2, capm2, rfl, hm2⟩, ⟨rcs, ⟨adb2, capb2, rfl, hb2⟩, hbc2⟩⟩ hleR
   rw [M_d3] at hm2 ⊢
   rw [R_d3] at hb2 hbc2 ⊢
   refine ra_do (i := 7) rfl rfl (by kernel_rfl) ?_
   refine do_store_p ⟨rfl, trivial⟩ rfl Tryd.k28 rfl rfl rfl (vs := [_, _]) rfl rfl (by first | rfl | assumption | simp [Value.oneCell', str]) (Nat.le_of_ble_eq_true rfl) rfl ?_
   refine ra_end (by kernel_rfl) (ρ' := [(1, _), (2, _), (4, _)]) ⟨rfl, rfl, rfl, trivial⟩ ?_
   refine q_thenK ?_
   refine ⟨[(1, _), (2, _), (4, _)], [(4, _)], ⟨rfl, rfl, rfl, trivial⟩, ⟨rfl, trivial⟩, adm2, capm2, adb2, capb2, rcs, (hle14z.trans (hleE.trans (hleF.trans (hle19z.trans hleR)))), rfl, rfl, ?_⟩
   exact ⟨hm2, hb2, hbc2⟩
  exact raall_nil
 ·
  rintro ρ σ uc5 ⟨adm2, capm2, adb2, capb2, rcs, hlc5, rfl, rfl, ⟨hm2, hb2, hbc2⟩⟩
  refine wc_seq ?_
  refine wc_seq ?_
  have hf1 : SlC uc5 ad1 1 cap1 3 (fltC [(levS, [65])]) := hf1.mono hlc5
  have hf2 : SlC uc5 ad2 2 cap2 3 (fltC [(langS, langS), (titS, titS)]) := hf2.mono hlc5
  have hcm : cut (pairsC [(langS, enS), (titS, [65])]) (1 * 2) 2 = [str titS, str [65]] := rfl
  obtain ⟨k, lv, inf, t, d, ti, a, line, kids, vc, vp, vl, vk, hg, hcutB, _⟩ := hbc2.at (i := 1) (by decide)
  have hg' : some (hdW 2 [66]) = some (Blk.mk k lv inf t d ti a line kids) := hg
  cases hg'
  obtain ⟨k, lv, inf, t, d, ti, a, line, kids, vc3, vp3, vl3, vk3, hg3, hcutP, _, _, hsl, _⟩ := hbc2.at (i := 2) (by decide)
  have hg3' : some (paW lkR) = some (Blk.mk k lv inf t d ti a line kids) := hg3
  cases hg3'
  obtain ⟨lcs, ⟨lad, lcap, rfl, hl1⟩, hl2⟩ := hsl
  obtain ⟨k, t, d, ti, a, args, cites, kids, vc4, vp4, va4, vt4, vk4, hg4, hcutL, _, _, _, _, hkids, _⟩ := hl2.at (i := 0) (by decide)
  have hg4' : some lkR = some (Inl.mk k t d ti a args cites kids) := hg4
  cases hg4'
  obtain ⟨mcs, ⟨mad, mcap, rfl, hk1⟩, hk2⟩ := hkids
  obtain ⟨k, t, d, ti, a, args, cites, kids, vc5, vp5, va5, vt5, vk5, hg5, hcutK, _⟩ := hk2.at (i := 0) (by decide)
  have hl8 : [lkR].length = 1 := rfl
  have hl9 : [tI [120]].length = 1 := rfl
  have hg5' : some (tI [120]) = some (Inl.mk k t d ti a args cites kids) := hg5
  cases hg5'
  refine wc_region ?_
  refine ym rfl rfl ?_
  refine rl_y (y_len_v rfl rfl Tryd.s37 rfl) rfl ?_
  refine rl_y (y_neq rfl rfl rfl) rfl ?_
  refine ym rfl rfl ?_
  refine rl_on rfl rfl ?_
  refine ym rfl rfl ?_
  refine rl_on rfl rfl ?_
  refine rl_y (y_index_e rfl Tryd.s37 rfl rfl hf1 (j := 0) rfl (by decide)) rfl ?_
  refine rl_on rfl rfl ?_
  refine rl_y (y_field_e rfl Tryd.f44' rfl (by decide) rfl) rfl ?_
  refine rl_on rfl rfl ?_
  refine rl_y (y_load_el rfl Tryd.k9 rfl (by assumption) (by omega) (by assumption) (vs := [_]) rfl rfl rfl rfl) rfl ?_
  refine rl_on rfl rfl ?_
  refine rl_y (y_str_neq rfl rfl rfl) rfl ?_
  refine rl_y (y_pick_f rfl rfl rfl) rfl ?_
  refine ym rfl rfl ?_
  refine rl_on rfl rfl ?_
  refine ym rfl rfl ?_
  refine rl_on rfl rfl ?_
  refine rl_y (y_index_e rfl Tryd.s37 rfl rfl hf1 (j := 0) rfl (by decide)) rfl ?_
  refine rl_on rfl rfl ?_
  refine rl_y (y_field_e rfl Tryd.f44' rfl (by decide) rfl) rfl ?_
  refine rl_on rfl rfl ?_
  refine rl_y (y_load_el rfl Tryd.k9 rfl (by assumption) (by omega) (by assumption) (vs := [_]) rfl rfl rfl rfl) rfl ?_
  refine rl_on rfl rfl ?_
  refine rl_y (y_str_neq rfl rfl rfl) rfl ?_
  refine rl_y (y_pick_f rfl rfl rfl) rfl ?_
  refine ym rfl rfl ?_
  refine rl_on rfl rfl ?_
  refine ym rfl rfl ?_
  refine rl_on rfl rfl ?_
  refine rl_y (y_len_v rfl rfl Tryd.s37 rfl) rfl ?_
  refine rl_on rfl rfl ?_
  refine rl_y (y_neq rfl rfl rfl) rfl ?_
  refine rl_y (y_pick_f rfl rfl rfl) rfl ?_
  refine ym rfl rfl ?_
  refine rl_on rfl rfl ?_
  refine ym rfl rfl ?_
  refine rl_on rfl rfl ?_
  refine rl_y (y_index_e rfl Tryd.s37 rfl rfl hf2 (j := 0) rfl (by decide)) rfl ?_
  refine rl_on rfl rfl ?_
  refine rl_y (y_field_e rfl Tryd.f44' rfl (by decide) rfl) rfl ?_
  refine rl_on rfl rfl ?_
  refine rl_y (y_load_el rfl Tryd.k9 rfl (by assumption) (by omega) (by assumption) (vs := [_]) rfl rfl rfl rfl) rfl ?_
  refine rl_on rfl rfl ?_
  refine rl_y (y_str_neq rfl rfl rfl) rfl ?_
  refine rl_y (y_pick_f rfl rfl rfl) rfl ?_
  refine ym rfl rfl ?_
  refine rl_on rfl rfl ?_
  refine ym rfl rfl ?_
  refine rl_on rfl rfl ?_
  refine rl_y (y_index_e rfl Tryd.s37 rfl rfl hf2 (j := 1) rfl (by decide)) rfl ?_
  refine rl_on rfl rfl ?_
  refine rl_y (y_field_e rfl Tryd.f44' rfl (by decide) rfl) rfl ?_
  refine rl_on rfl rfl ?_
  refine rl_y (y_load_el rfl Tryd.k9 rfl (by assumption) (by omega) (by assumption) (vs := [_]) rfl rfl rfl rfl) rfl ?_
  refine rl_on rfl rfl ?_
  refine rl_y (y_str_neq rfl rfl rfl) rfl ?_
  refine rl_y (y_pick_f rfl rfl rfl) rfl ?_
  refine ym rfl rfl ?_
  refine rl_on rfl rfl ?_
  refine rl_y (y_field_p rfl Tryd.f28' rfl (by decide) rfl) rfl ?_
  refine rl_on rfl rfl ?_
  refine rl_y (y_load_p rfl Tryd.k26 rfl rfl rfl (vs := [_]) rfl rfl rfl) rfl ?_
  refine rl_on rfl rfl ?_
  refine rl_y (y_len_v rfl rfl Tryd.s26 rfl) rfl ?_
  refine rl_on rfl rfl ?_
  refine rl_y (y_neq rfl rfl rfl) rfl ?_
  refine rl_y (y_pick_f rfl rfl rfl) rfl ?_
  refine ym rfl rfl ?_
  refine rl_on rfl rfl ?_
  refine rl_y (y_field_p rfl Tryd.f28' rfl (by decide) rfl) rfl ?_
  refine rl_on rfl rfl ?_
  refine rl_y (y_load_p rfl Tryd.k26 rfl rfl rfl (vs := [_]) rfl rfl rfl) rfl ?_
  refine rl_on rfl rfl ?_
  refine rl_y (y_index_e rfl Tryd.s26 rfl rfl hb2 (j := 1) rfl (by decide)) rfl ?_
  refine rl_on rfl rfl ?_
  refine rl_y (y_field_e rfl Tryd.f34' rfl (by decide) rfl) rfl ?_
  refine rl_on rfl rfl ?_
  refine rl_y (y_load_el rfl Tryd.k3 rfl (by assumption) (by omega) (by assumption) (vs := [_]) rfl rfl rfl rfl) rfl ?_
  refine rl_on rfl rfl ?_
  refine rl_y (y_neq rfl rfl rfl) rfl ?_
  refine rl_y (y_pick_f rfl rfl rfl) rfl ?_
  refine ym rfl rfl ?_
  refine rl_on rfl rfl ?_
  refine rl_y (y_field_p rfl Tryd.f28' rfl (by decide) rfl) rfl ?_
  refine rl_on rfl rfl ?_
  refine rl_y (y_load_p rfl Tryd.k24 rfl rfl rfl (vs := [_]) rfl rfl rfl) rfl ?_
  refine rl_on rfl rfl ?_
  refine rl_y (y_len_v rfl rfl Tryd.s24 rfl) rfl ?_
  refine rl_on rfl rfl ?_
  refine rl_y (y_neq rfl rfl rfl) rfl ?_
  refine rl_y (y_pick_f rfl rfl rfl) rfl ?_
  refine ym rfl rfl ?_
  refine rl_on rfl rfl ?_
  refine rl_y (y_field_p rfl Tryd.f28' rfl (by decide) rfl) rfl ?_
  refine rl_on rfl rfl ?_
  refine rl_y (y_load_p rfl Tryd.k24 rfl rfl rfl (vs := [_]) rfl rfl rfl) rfl ?_
  refine rl_on rfl rfl ?_
  refine rl_y (y_index_e rfl Tryd.s24 rfl rfl hm2 (j := 1) rfl (by decide)) rfl ?_
  refine rl_on rfl rfl ?_
  refine rl_y (y_field_e rfl Tryd.f46' rfl (by decide) rfl) rfl ?_
  refine rl_on rfl rfl ?_
  refine rl_y (y_load_el rfl Tryd.k9 rfl (by assumption) (by omega) (by assumption) (vs := [_]) rfl rfl rfl rfl) rfl ?_
  refine rl_on rfl rfl ?_
  refine rl_y (y_str_neq rfl rfl rfl) rfl ?_
  refine rl_y (y_pick_f rfl rfl rfl) rfl ?_
  refine rl_end (ρ' := [(4, _), (85, _)]) ⟨rfl, rfl, trivial⟩ ?_
  refine q_then ?_
  refine wc_cond_f rfl (rfl) ?_
  refine wc_skip ?_
  refine q_then ?_
  refine wc_seq ?_
  refine wc_region ?_
  refine rl_y (y_field_p rfl Tryd.f28' rfl (by decide) rfl) rfl ?_
  refine rl_y (y_load_p rfl Tryd.k26 rfl rfl rfl (vs := [_]) rfl rfl rfl) rfl ?_
  refine rl_y (y_index_e rfl Tryd.s26 rfl rfl hb2 (j := 2) rfl (by decide)) rfl ?_
  refine rl_y (y_field_e rfl Tryd.f34' rfl (by decide) rfl) rfl ?_
  refine rl_y (y_load_el rfl Tryd.k32 rfl (by assumption) (by omega) (by assumption) (vs := [_]) rfl rfl rfl rfl) rfl ?_
  refine ya rfl rfl ?_
  refine rl_end (ρ' := [(5, _)]) ⟨rfl, trivial⟩ ?_
  refine q_then ?_
  refine wc_seq ?_
  refine wc_region ?_
  refine ym rfl rfl ?_
  refine rl_y (y_len_v rfl rfl Tryd.s32 rfl) rfl ?_
  refine rl_y (y_eql rfl rfl rfl) rfl ?_
  refine ym rfl rfl ?_
  refine rl_on rfl rfl ?_
  refine ym rfl rfl ?_
  refine rl_on rfl rfl ?_
  refine rl_y (y_index_e rfl Tryd.s32 rfl rfl hl1 (j := 0) rfl (by decide)) rfl ?_
  refine rl_on rfl rfl ?_
  refine rl_y (y_field_e rfl Tryd.f42' rfl (by decide) rfl) rfl ?_
  refine rl_on rfl rfl ?_
  refine rl_y (y_load_el rfl Tryd.k32 rfl (by assumption) (by omega) (by assumption) (vs := [_]) rfl rfl rfl rfl) rfl ?_
  refine rl_on rfl rfl ?_
  refine rl_y (y_len_v rfl rfl Tryd.s32 rfl) rfl ?_
  refine rl_on rfl rfl ?_
  refine rl_y (y_eql rfl rfl rfl) rfl ?_
  refine rl_y (y_pick_t rfl rfl rfl) rfl ?_
  refine ym rfl rfl ?_
  refine rl_on rfl rfl ?_
  refine ym rfl rfl ?_
  refine rl_on rfl rfl ?_
  refine rl_y (y_index_e rfl Tryd.s32 rfl rfl hl1 (j := 0) rfl (by decide)) rfl ?_
  refine rl_on rfl rfl ?_
  refine rl_y (y_field_e rfl Tryd.f42' rfl (by decide) rfl) rfl ?_
  refine rl_on rfl rfl ?_
  refine rl_y (y_load_el rfl Tryd.k32 rfl (by assumption) (by omega) (by assumption) (vs := [_]) rfl rfl rfl rfl) rfl ?_
  refine rl_on rfl rfl ?_
  refine rl_y (y_index_e rfl Tryd.s32 rfl rfl hk1 (j := 0) rfl (by decide)) rfl ?_
  refine rl_on rfl rfl ?_
  refine rl_y (y_field_e rfl Tryd.f42' rfl (by decide) rfl) rfl ?_
  refine rl_on rfl rfl ?_
  refine rl_y (y_load_el rfl Tryd.k9 rfl (by assumption) (by omega) (by assumption) (vs := [_]) rfl rfl rfl rfl) rfl ?_
  refine rl_on rfl rfl ?_
  refine rl_y (y_str_eql rfl rfl rfl) rfl ?_
  refine rl_y (y_pick_t rfl rfl rfl) rfl ?_
  refine ya rfl rfl ?_
  refine rl_end (ρ' := [(0, _)]) ⟨rfl, trivial⟩ ?_
  refine q_then ?_
  refine wc_ret ?_
  refine fin1 (.tmp rfl) ?_
  rfl
def nodeB (B L : Nat) (t d ti : Bs) (a : DAttr) (args : List Bs) (cites : List DCite) : Prop :=
 t.length + d.length + ti.length ≤ B ∧ a.classes.length ≤ 40 ∧ a.pairs.length ≤ 40 ∧ longN a ≤ L ∧ args.length ≤ 9 ∧ cites.length ≤ 9 ∧ (∀ s ∈ args, s.length ≤ 50000) ∧ ∀ c ∈ cites, c.key.length + c.pre.length + c.suf.length ≤ 50000
mutual
def smX1 (B L : Nat) : Inl → Prop
 | .mk _ t d ti a args cites kids => nodeB B L t d ti a args cites ∧ smX B L kids
def smX (B L : Nat) : List Inl → Prop
 | [] => True
 | x :: xs => smX1 B L x ∧ smX B L xs
end
theorem smX_append {B L : Nat} : ∀ {xs ys : List Inl}, smX B L xs → smX B L ys → smX B L (xs ++ ys)
 | [], ys, _, k => k
 | x :: xs, ys, h, k => by
  unfold smX at h
  rw [List.cons_append]
  unfold smX
  exact ⟨h.1, smX_append h.2 k⟩
theorem nodeB_mono {B L B' L' : Nat} (hB : B ≤ B') (hL : L ≤ L') {t d ti : Bs} {a : DAttr} {args : List Bs} {cites : List DCite} (h : nodeB B L t d ti a args cites) : nodeB B' L' t d ti a args cites := by
 unfold nodeB at h ⊢
 exact ⟨by omega, by omega, by omega, by omega, by omega, by omega, h.2.2.2.2.2.2.1, h.2.2.2.2.2.2.2⟩
mutual
theorem smX1_mono {B L B' L' : Nat} (hB : B ≤ B') (hL : L ≤ L') : ∀ x : Inl, smX1 B L x → smX1 B' L' x
 | .mk k t d ti a args cites kids, h => by
  unfold smX1 at h ⊢
  exact ⟨nodeB_mono hB hL h.1, smX_mono hB hL kids h.2⟩
theorem smX_mono {B L B' L' : Nat} (hB : B ≤ B') (hL : L ≤ L') : ∀ xs : List Inl, smX B L xs → smX B' L' xs
 | [], _ => by unfold smX; trivial
 | x :: xs, h => by
  unfold smX at h ⊢
  exact ⟨smX1_mono hB hL x h.1, smX_mono hB hL xs h.2⟩
end
mutual
theorem smI1_of : ∀ x : Inl, smX1 90000 9000 x → smI1 x
 | .mk k t d ti a args cites kids, h => by
  unfold smX1 nodeB at h
  unfold smI1 NodeSm
  exact ⟨h.1, smI_of kids h.2⟩
theorem smI_of : ∀ xs : List Inl, smX 90000 9000 xs → smI xs
 | [], _ => by unfold smI; trivial
 | x :: xs, h => by
  unfold smX at h
  unfold smI
  exact ⟨smI1_of x h.1, smI_of xs h.2⟩
end
mutual
def smY1 : Blk → Prop
 | .mk _ _ inf t d ti a line kids => inf.length + t.length + d.length + ti.length ≤ 300 ∧ a.classes.length ≤ 40 ∧ a.pairs.length ≤ 40 ∧ longN a ≤ 600 ∧ smX 300 600 line ∧ smY kids
def smY : List Blk → Prop
 | [] => True
 | x :: xs => smY1 x ∧ smY xs
end
mutual
theorem smB1_of : ∀ x : Blk, smY1 x → smB1 x
 | .mk k lv inf t d ti a line kids, h => by
  unfold smY1 at h
  unfold smB1
  exact ⟨by omega, by omega, by omega, by omega, smI_of line (smX_mono (by decide) (by decide) line h.2.2.2.2.1), smB_of kids h.2.2.2.2.2⟩
theorem smB_of : ∀ xs : List Blk, smY xs → smB xs
 | [], _ => by unfold smB; trivial
 | x :: xs, h => by
  unfold smY at h
  unfold smB
  exact ⟨smB1_of x h.1, smB_of xs h.2⟩
end
theorem sz_tI (d : Bs) : szI [tI d] = 1 := by simp [tI, szI, sz1]
set_option linter.unusedSimpArgs false
set_option linter.unusedVariables false
set_option maxRecDepth 4000
def pairsN (l : List (Bs × Bs)) : Nat := (l.map fun p => p.1.length + p.2.length).sum
theorem sum_setP (k v : Bs) : ∀ l : List (Bs × Bs), pairsN (setP k v l) ≤ pairsN l + v.length
 | [] => by simp [setP, pairsN]
 | p :: ps => by
  have := sum_setP k v ps
  unfold pairsN at this ⊢
  rw [setP]
  split
  ·
   simp only [List.map_cons, List.sum_cons]; omega
  ·
   simp only [List.map_cons, List.sum_cons]; omega
theorem deco_long (a : DAttr) : longN (decoA a).1 ≤ longN a + 14 := by
 have h := sum_setP roleS decoS a.pairs
 have h2 : decoS.length = 10 := rfl
 have h3 : roleS.length = 4 := rfl
 unfold pairsN at h
 unfold decoA
 split
 ·
  unfold longN; simp only; omega
 ·
  split
  ·
   unfold longN; simp only [List.map_append, List.sum_append, List.map_cons, List.map_nil, List.sum_cons, List.sum_nil]; omega
  ·
   show longN a ≤ _; omega
theorem tI_sm (d : Bs) (h : d.length ≤ 300) : smX1 300 700 (tI d) := by
 unfold tI smX1 nodeB smX
 simp [longN]
 omega
mutual
theorem fix_sm1 : ∀ x : Inl, smX1 300 600 x → smX1 300 700 (fixI1 x).1 ∧ sz1 (fixI1 x).1 ≤ 2 * sz1 x
 | .mk k t d ti a args cites kids, h => by
  unfold smX1 nodeB at h
  obtain ⟨⟨n1, n2, n3, n4, n5, n6, n7, n8⟩, hk⟩ := h
  obtain ⟨q1, q2⟩ := fix_sm kids hk
  rw [fixI1]
  have hkids : smX 300 700 (if (mute (Inl.mk k t d ti a args cites kids) && !blank d) = true then (fixI kids).1 ++ [tI d] else (fixI kids).1) ∧ szI (if (mute (Inl.mk k t d ti a args cites kids) && !blank d) = true then (fixI kids).1 ++ [tI d] else (fixI kids).1) ≤ 2 * szI kids + 1 := by
   split
   ·
    refine ⟨smX_append q1 ?_, ?_⟩
    ·
     unfold smX; exact ⟨tI_sm d (by omega), by unfold smX; trivial⟩
    ·
     rw [szI_append, sz_tI]; omega
   ·
    exact ⟨q1, by omega⟩
  have hda : (if silent (Inl.mk k t d ti a args cites kids) = true then decoA a else (a, false)).1.classes.length ≤ 40 ∧ (if silent (Inl.mk k t d ti a args cites kids) = true then decoA a else (a, false)).1.pairs.length ≤ 40 ∧ longN (if silent (Inl.mk k t d ti a args cites kids) = true then decoA a else (a, false)).1 ≤ 700 := by
   split
   ·
    obtain ⟨e1, e2, e3⟩ := decoA_id a
    have := deco_long a
    rw [e2]
    omega
   ·
    exact ⟨n2, n3, by show longN a ≤ _; omega⟩
  refine ⟨?_, by simp only [sz1]; omega⟩
  unfold smX1 nodeB
  exact ⟨⟨n1, hda.1, hda.2.1, hda.2.2, n5, n6, n7, n8⟩, hkids.1⟩
theorem fix_sm : ∀ xs : List Inl, smX 300 600 xs → smX 300 700 (fixI xs).1 ∧ szI (fixI xs).1 ≤ 2 * szI xs
 | [], _ => ⟨by rw [fixI]; unfold smX; trivial, by rw [fixI]; simp [szI]⟩
 | x :: xs, h => by
  unfold smX at h
  obtain ⟨q1, q2⟩ := fix_sm1 x h.1
  obtain ⟨q3, q4⟩ := fix_sm xs h.2
  rw [fixI]
  refine ⟨by unfold smX; exact ⟨q1, q3⟩, by simp only [szI]; omega⟩
end
theorem own_sm (k : Int) {line : List Inl} (h : smX 300 600 line) : smX 300 700 (ownR k line).1 ∧ szI (ownR k line).1 ≤ 2 * szI line + 1 := by
 obtain ⟨q1, q2⟩ := fix_sm line h
 unfold ownR
 split
 ·
  refine ⟨smX_append q1 ?_, ?_⟩
  ·
   unfold smX; exact ⟨tI_sm untS (by decide), by unfold smX; trivial⟩
  ·
   show szI ((fixI line).1 ++ [tI untS]) ≤ _
   rw [szI_append, sz_tI]; omega
 ·
  exact ⟨q1, by omega⟩
def PQ (c : Nat) (p : Option Inl) : Prop := ∀ k t d ti a args cites kids, p = some (.mk k t d ti a args cites kids) → t.length ≤ c ∧ nodeB 300 700 [] d ti a args cites ∧ smX 90000 700 kids
theorem PQ.none (c : Nat) : PQ c none := fun _ _ _ _ _ _ _ _ h => by cases h
theorem PQ.big {c : Nat} {k : Int} {t d ti : Bs} {a : DAttr} {args : List Bs} {cites : List DCite} {kids : List Inl} (h : PQ c (some (.mk k t d ti a args cites kids))) (hc : c + 300 ≤ 90000) : smX1 90000 700 (.mk k t d ti a args cites kids) := by
 obtain ⟨h1, h2, h3⟩ := h _ _ _ _ _ _ _ _ rfl
 unfold nodeB at h2
 simp only [List.length_nil] at h2
 unfold smX1 nodeB
 exact ⟨⟨by omega, h2.2⟩, h3⟩
theorem PQ.list {c : Nat} {p : Option Inl} (h : PQ c p) (hc : c + 300 ≤ 90000) : smX 90000 700 p.toList := by
 cases p with
 | none => simp only [Option.toList_none]; unfold smX; trivial
 | some q =>
  obtain ⟨k, t, d, ti, a, args, cites, kids⟩ := q
  simp only [Option.toList_some]
  unfold smX
  exact ⟨h.big hc, by unfold smX; trivial⟩
mutual
theorem mg1_sm : ∀ x : Inl, smX1 300 700 x → 300 * sz1 x + 300 ≤ 90000 → smX1 90000 700 (mg1 x) ∧ sz1 (mg1 x) ≤ sz1 x
 | .mk k t d ti a args cites kids, h, hM => by
  unfold smX1 at h
  simp only [sz1] at hM
  obtain ⟨q1, q2⟩ := mg_sm kids none 0 h.2 (PQ.none 0) (by omega)
  rw [mg1]
  refine ⟨?_, by simp only [sz1, Option.toList_none, szI] at q2 ⊢; omega⟩
  unfold smX1
  exact ⟨nodeB_mono (by decide) (by decide) h.1, q1⟩
theorem mg_sm : ∀ (xs : List Inl) (p : Option Inl) (c : Nat), smX 300 700 xs → PQ c p → c + 300 * szI xs + 300 ≤ 90000 → smX 90000 700 (mg p xs) ∧ szI (mg p xs) ≤ szI p.toList + szI xs
 | [], p, c, _, hp, hM => by
  rw [mg]
  exact ⟨hp.list (by omega), by omega⟩
 | x :: xs, p, c, h, hp, hM => by
  unfold smX at h
  have hs : 1 ≤ sz1 x := by cases x; simp [sz1]
  simp only [szI] at hM ⊢
  obtain ⟨q1, q2⟩ := mg1_sm x h.1 (by omega)
  rw [mg]
  split
  ·
   -- a text
   have hadd : PQ (c + 300) (addT p (mg1 x)) ∧ szI (addT p (mg1 x)).toList ≤ szI p.toList + sz1 x := by
    obtain ⟨k, t, d, ti, a, args, cites, kids⟩ := x
    have h1 := h.1
    unfold smX1 nodeB at h1
    have hk : smX 90000 700 (mg none kids) := by
     rw [mg1] at q1; unfold smX1 at q1; exact q1.2
    have hn : nodeB 300 700 [] d ti a args cites := by
     unfold nodeB
     exact ⟨by simp only [List.length_nil]; omega, h1.1.2⟩
    cases p with
    | none =>
     rw [mg1, addT]
     split
     ·
      exact ⟨PQ.none _, by simp [szI]⟩
     ·
      refine ⟨fun k' t' d' ti' a' args' cites' kids' he => ?_, ?_⟩
      ·
       cases he
       exact ⟨by omega, hn, hk⟩
      ·
       rw [mg1] at q2
       simp only [Option.toList_some, szI]; omega
    | some q =>
     obtain ⟨k2, t2, d2, ti2, a2, args2, cites2, kids2⟩ := q
     obtain ⟨w1, w2, w3⟩ := hp _ _ _ _ _ _ _ _ rfl
     refine ⟨fun k' t' d' ti' a' args' cites' kids' he => ?_, ?_⟩
     ·
      rw [mg1, addT] at he
      simp only [setT, txtI, Option.some.injEq] at he
      cases he
      exact ⟨by rw [List.length_append]; omega, w2, w3⟩
     ·
      rw [addT]
      simp only [setT, Option.toList_some, szI, sz1]; omega
   obtain ⟨q3, q4⟩ := mg_sm xs _ (c + 300) h.2 hadd.1 (by omega)
   exact ⟨q3, by omega⟩
  ·
   obtain ⟨q3, q4⟩ := mg_sm xs none 0 h.2 (PQ.none 0) (by omega)
   refine ⟨smX_append (hp.list (by omega)) (by unfold smX; exact ⟨q1, q3⟩), ?_⟩
   rw [szI_append]
   simp only [szI, Option.toList_none] at q4 ⊢
   omega
end
theorem lineR_sm (k : Int) {line : List Inl} (h : smX 300 600 line) (hs : szI line ≤ 120) : smI (lineR k line) ∧ szI (lineR k line) ≤ 2 * szI line + 1 := by
 obtain ⟨q1, q2⟩ := own_sm k h
 unfold lineR
 split
 ·
  obtain ⟨q3, q4⟩ := mg_sm (ownR k line).1 none 0 q1 (PQ.none 0) (by omega)
  simp only [Option.toList_none, szI] at q4
  exact ⟨smI_of _ (smX_mono (by decide) (by decide) _ q3), by omega⟩
 ·
  exact ⟨smI_of _ (smX_mono (by decide) (by decide) _ q1), q2⟩
theorem ownR_stay {k : Int} {line : List Inl} (h : doneI line = true) (hb : k = 2 → blank (plain line) = false) : (ownR k line).1 = line := by
 have h1 := done_fix line h
 have h2 := fix_same line h1
 unfold ownR
 rw [if_neg]
 ·
  exact h2
 ·
  rintro ⟨hk, hbl⟩
  rw [h2, hb hk] at hbl
  cases hbl
mutual
theorem fixb_sm : ∀ (x : Blk) (bf : Int), smY1 x → szb x ≤ 120 → smB1 (fixb bf x).1 ∧ rdB1 x ∧ rdB1 (fixb bf x).1 ∧ szb (fixb bf x).1 ≤ 2 * szb x
 | .mk k lv inf t d ti a line kids, bf, h, hs => by
  unfold smY1 at h
  obtain ⟨n1, n2, n3, n4, hl, hk⟩ := h
  simp only [szb] at hs
  obtain ⟨q1, q2, q3, q4⟩ := fixB_sm kids (befR k lv bf) hk (by omega)
  obtain ⟨w1, w2⟩ := lineR_sm k hl (by omega)
  obtain ⟨w3, w4⟩ := own_sm k hl
  have w5 : (ownR k (lineR k line)).1 = lineR k line := ownR_stay (lineR_done k line) fun hk => by rw [lineR_plain, ownR_blank hk]
  rw [fixb]
  refine ⟨?_, ?_, ?_, by simp only [szb]; omega⟩
  ·
   unfold smB1; exact ⟨by omega, by omega, by omega, by omega, w1, q1⟩
  ·
   unfold rdB1; exact ⟨⟨smI_of _ (smX_mono (by decide) (by decide) _ w3), by omega⟩, q2⟩
  ·
   unfold rdB1; rw [w5]; exact ⟨⟨w1, by omega⟩, q3⟩
theorem fixB_sm : ∀ (xs : List Blk) (bf : Int), smY xs → szB xs ≤ 120 → smB (fixB bf xs).1 ∧ rdB xs ∧ rdB (fixB bf xs).1 ∧ szB (fixB bf xs).1 ≤ 2 * szB xs
 | [], bf, _, _ => by
  rw [fixB]
  exact ⟨by unfold smB; trivial, by unfold rdB; trivial, by unfold rdB; trivial, by simp [szB]⟩
 | x :: xs, bf, h, hs => by
  unfold smY at h
  simp only [szB] at hs
  obtain ⟨q1, q2, q3, q4⟩ := fixb_sm x bf h.1 (by omega)
  obtain ⟨w1, w2, w3, w4⟩ := fixB_sm xs (fixb bf x).2 h.2 (by omega)
  rw [fixB]
  exact ⟨by unfold smB; exact ⟨q1, w1⟩, by unfold rdB; exact ⟨q2, w2⟩, by unfold rdB; exact ⟨q3, w3⟩, by simp only [szB]; omega⟩
end
theorem rep_sm {bs : List Blk} (h : smY bs) (hs : szB bs ≤ 120) : smB bs ∧ rdB bs ∧ smB (repB bs) ∧ rdB (repB bs) ∧ szB (repB bs) ≤ 240 := by
 obtain ⟨q1, q2, q3, q4⟩ := fixB_sm bs 0 h hs
 exact ⟨smB_of bs h, q2, q1, q3, by unfold repB; omega⟩
set_option linter.unusedSimpArgs false
set_option linter.unusedVariables false
set_option maxRecDepth 4000
def kL (n : Nat) : Int := 1 + (n : Int) % 6
def hdL (ks : List Int) : List Blk := ks.map fun k => hdW k [104]
def lastK : Int → List Int → Int
 | bf, [] => bf
 | _, k :: ks => lastK k ks
def skN : Int → List Int → Nat
 | _, [] => 0
 | bf, k :: ks => (if bf + 1 < k then 1 else 0) + skN k ks
def fixL : Int → List Int → List Int
 | _, [] => []
 | bf, k :: ks => min k (bf + 1) :: fixL (min k (bf + 1)) ks
theorem lastK_snoc : ∀ (ks : List Int) (bf k : Int), lastK bf (ks ++ [k]) = k
 | [], bf, k => rfl
 | x :: ks, bf, k => by rw [List.cons_append, lastK]; exact lastK_snoc ks x k
theorem skN_snoc : ∀ (ks : List Int) (bf k : Int), skN bf (ks ++ [k]) = skN bf ks + if lastK bf ks + 1 < k then 1 else 0
 | [], bf, k => by rw [List.nil_append, skN, skN, skN, lastK, Nat.add_zero, Nat.zero_add]
 | x :: ks, bf, k => by
  rw [List.cons_append, skN, skN_snoc ks x k, skN, lastK]; omega
theorem skN_le : ∀ (ks : List Int) (bf : Int), skN bf ks ≤ ks.length
 | [], _ => Nat.le_refl _
 | k :: ks, bf => by
  have := skN_le ks k
  rw [skN, List.length_cons]
  split <;> omega
theorem fixL_len : ∀ (ks : List Int) (bf : Int), (fixL bf ks).length = ks.length
 | [], _ => rfl
 | k :: ks, bf => by simp [fixL, fixL_len ks]
theorem fixL_get : ∀ {ks : List Int} {bf : Int} {i : Nat} {k : Int}, ks[i]? = some k → (fixL bf ks)[i]? = some (min k (lastK bf ((fixL bf ks).take i) + 1))
 | [], bf, i, k, h => by simp at h
 | x :: ks, bf, 0, k, h => by simp at h; subst h; simp [fixL, lastK]
 | x :: ks, bf, i + 1, k, h => by
  have ih := fixL_get (bf := min x (bf + 1)) (i := i) (k := k) (ks := ks) (by simpa using h)
  simp only [fixL, List.getElem?_cons_succ, List.take_succ_cons, lastK]
  exact ih
theorem skN_fix : ∀ (ks : List Int) (bf : Int), skN bf (fixL bf ks) = 0
 | [], _ => rfl
 | k :: ks, bf => by
  rw [fixL, skN, skN_fix ks, if_neg (by omega)]
theorem line_stay : lineR 2 [tI [104]] = [tI [104]] := by rfl
theorem fixB_hd : ∀ (ks : List Int) (bf : Int), (fixB bf (hdL ks)).1 = hdL (fixL bf ks)
 | [], bf => rfl
 | k :: ks, bf => by
  have ih := fixB_hd ks (min k (bf + 1))
  have e : fixb bf (hdW k [104]) = (hdW (min k (bf + 1)) [104], min k (bf + 1)) := by
   unfold hdW
   rw [fixb, line_stay]
   simp only [levR, befR, if_true, fixB]
  unfold hdL at ih ⊢
  rw [List.map_cons, fixB, e, fixL, List.map_cons, ih]
theorem rep_hd (ks : List Int) : repB (hdL ks) = hdL (fixL 0 ks) := fixB_hd ks 0
theorem listB_hd : ∀ ks : List Int, listB (hdL ks) = hdL ks
 | [] => rfl
 | k :: ks => by
  have ih := listB_hd ks
  unfold hdL at ih ⊢
  rw [List.map_cons, listB, ih]
  simp only [hdW, listb, listB, List.cons_append, List.nil_append]
theorem heads_hd (ks : List Int) : headsL (hdL ks) = hdL ks := by
 unfold headsL
 refine List.filter_eq_self.2 fun b hb => ?_
 obtain ⟨k, _, rfl⟩ := List.mem_map.1 hb
 simp [hdW, kindB]
theorem skips_hd : ∀ (ks : List Int) (bf : Int), (skipsL bf (hdL ks)).length = skN bf ks
 | [], _ => rfl
 | k :: ks, bf => by
  have ih := skips_hd ks k
  have e : levB (hdW k [104]) = k := rfl
  unfold hdL at ih ⊢
  rw [List.map_cons, skipsL, List.length_append, e, ih, skN]
  by_cases h : bf + 1 < k
  ·
   rw [if_pos h, if_pos (by omega)]; rfl
  ·
   rw [if_neg h, if_neg (by omega)]; rfl
theorem inls_hd (ks : List Int) : ∀ x ∈ inls (hdL ks), x = tI [104] := by
 intro x hx
 unfold inls at hx
 obtain ⟨b, hb, hx⟩ := List.mem_flatMap.1 hx
 obtain ⟨k, _, rfl⟩ := List.mem_map.1 hb
 simpa [hdW, lineOf, deep, deep1, tI] using hx
theorem found_nil {p : Inl → Bool} {g : Inl → Bs} {xs : List Inl} (h : ∀ x ∈ xs, p x = false) : foundL p g xs = [] := by
 unfold foundL
 rw [List.map_eq_nil_iff, List.filter_eq_nil_iff]
 intro x hx
 rw [h x hx]; simp
theorem faults_hd {ps : List (Bs × Bs)} (h5 : hasM langS ps = true) (h6 : hasM titS ps = true) (ks : List Int) : (faultsL ps (hdL ks)).length = skN 0 ks := by
 have hin := inls_hd ks
 have t0 : textF ps (hdL ks) 0 = [] := found_nil fun x hx => by rw [listB_hd] at hx; rw [hin x hx]; rfl
 have t1 : (textF ps (hdL ks) 1).length = skN 0 ks := by
  show (skipsL 0 (headsL (listB (hdL ks)))).length = _
  rw [listB_hd, heads_hd, skips_hd]
 have t2 : textF ps (hdL ks) 2 = [] := by
  show bareT (listB (hdL ks)) = []
  unfold bareT
  rw [listB_hd, List.map_eq_nil_iff, List.filter_eq_nil_iff]
  intro b hb
  obtain ⟨k, _, rfl⟩ := List.mem_map.1 hb
  simp [hdW, bareX]
 have t3 : textF ps (hdL ks) 3 = [] := found_nil fun x hx => by rw [listB_hd] at hx; rw [hin x hx]; rfl
 have t4 : textF ps (hdL ks) 4 = [] := by
  show emptyL (headsL (listB (hdL ks))) = []
  unfold emptyL
  rw [listB_hd, heads_hd, List.map_eq_nil_iff, List.filter_eq_nil_iff]
  intro b hb
  obtain ⟨k, _, rfl⟩ := List.mem_map.1 hb
  have e : trim (plain (lineOf (hdW k [104]))) = [104] := by rfl
  rw [e]; simp
 have t5 : textF ps (hdL ks) 5 = [] := if_pos h5
 have t6 : textF ps (hdL ks) 6 = [] := if_pos h6
 have t7 : textF ps (hdL ks) 7 = [] := found_nil fun x hx => by rw [listB_hd] at hx; rw [hin x hx]; rfl
 unfold faultsL
 simp only [faultsTo, t0, t2, t3, t4, t5, t6, t7, List.map_nil, List.append_nil, List.nil_append, List.length_map, t1]
theorem sz_hd (ks : List Int) : szB (hdL ks) = 2 * ks.length ∧ smY (hdL ks) := by
 induction ks with
 | nil => exact ⟨rfl, by unfold hdL; simp [smY]⟩
 | cons k ks ih =>
  unfold hdL at ih ⊢
  rw [List.map_cons]
  refine ⟨by simp only [szB, hdW, szb, tI, szI, sz1, List.length_cons] at ih ⊢; rw [ih.1]; omega, ?_⟩
  unfold smY
  refine ⟨?_, ih.2⟩
  simp [hdW, tI, smY1, smX, smX1, nodeB, longN, smY]
theorem repM_W (bs : List Blk) : repM metaW bs = metaW := by
 unfold repM metaR
 have e1 : fillM langS enS metaW = metaW := fill_stay (.inl (by rfl))
 rw [e1]
 exact fill_stay (.inl (by rfl))
def u8C (xs : List Nat) : List Value := xs.map fun n : Nat => Value.int .u8 n
theorem cut_u8C {xs : List Nat} {i : Nat} {x : Nat} (h : xs[i]? = some x) : cut (u8C xs) (i * 1) 1 = [.int .u8 x] := by
 obtain ⟨hlt, rfl⟩ := List.getElem?_eq_some_iff.1 h
 unfold cut u8C
 rw [Nat.mul_one, List.drop_eq_getElem_cons (by simpa using hlt)]
 simp
theorem kL_ok (n : Nat) : 1 ≤ kL n ∧ kL n ≤ 6 := by unfold kL; omega
theorem lastK_mem : ∀ (ks : List Int) (bf : Int), 0 ≤ bf ∧ bf ≤ 6 → (∀ k ∈ ks, 0 ≤ k ∧ k ≤ 6) → 0 ≤ lastK bf ks ∧ lastK bf ks ≤ 6
 | [], bf, h, _ => h
 | k :: ks, bf, h, hk => by
  rw [lastK]
  exact lastK_mem ks k (hk k (by simp)) fun x hx => hk x (List.mem_cons_of_mem _ hx)
theorem fixL_mem : ∀ (ks : List Int) (bf : Int), 0 ≤ bf ∧ bf ≤ 6 → (∀ k ∈ ks, 1 ≤ k ∧ k ≤ 6) → ∀ k ∈ fixL bf ks, 0 ≤ k ∧ k ≤ 6
 | [], bf, _, _, k, h => by simp [fixL] at h
 | x :: ks, bf, h, hk, k, hm => by
  have hx := hk x (by simp)
  rw [fixL] at hm
  rcases List.mem_cons.1 hm with rfl | hm
  ·
   omega
  ·
   exact fixL_mem ks _ (by omega) (fun y hy => hk y (List.mem_cons_of_mem _ hy)) k hm
set_option maxHeartbeats 4000000 in
theorem accLevels_fn (ls : List Nat) (v : Value) (u : View) (hT : TabU u) (hu8 : ∀ n ∈ ls, n < 256) (ha : IsSl u v ls.length 1 (u8C ls)) :
  FnP Tryd.prog 3 [v] u fun r _ => r = .bool true := by
 obtain ⟨ad, cap, rfl, h1⟩ := ha
 have hks : ∀ k ∈ ls.map kL, 1 ≤ k ∧ k ≤ 6 := by
  intro k hk
  obtain ⟨n, _, rfl⟩ := List.mem_map.1 hk
  exact kL_ok n
 refine FnP.intro [.tmp 2] Tryd.func3 rfl rfl rfl ?_
 intro w0 D hw0
 refine wc_seq ?_
 refine wc_region ?_
 refine ya rfl rfl ?_
 refine rl_end (ρ' := [(0, _)]) ⟨rfl, trivial⟩ ?_
 refine q_then ?_
 refine wc_seq ?_
 refine wc_seq ?_
 refine wc_region ?_
 refine ym rfl rfl ?_
 refine rl_y (y_len_v rfl rfl Tryd.s22 rfl) rfl ?_
 refine rl_y (y_gtr rfl rfl rfl) rfl ?_
 refine rl_end (ρ' := [(0, _), (13, _)]) ⟨rfl, rfl, trivial⟩ ?_
 refine q_then ?_
 refine wc_cond rfl (fun hb1 => ?_) (fun hb1 => ?_)
 ·
  refine wc_seq ?_
  refine wc_region ?_
  refine rl_do rfl rfl ?_
  refine do_call_f (caps := []) trivial rfl rfl Tryd.c4 rfl (FnP.mono (lawawake_fn u hT) ?_)
  rintro v u1 hle1 rfl
  refine ya rfl rfl ?_
  refine rl_end (ρ' := [(2, _)]) ⟨rfl, trivial⟩ ?_
  refine q_then ?_
  refine wc_ret ?_
  refine q_then_ret ?_
  refine fin1 (.tmp rfl) ?_
  rfl
 ·
  refine wc_skip ?_
  refine q_then ?_
  refine wc_seq ?_
  have hlen := of_decide_eq_false hb1
  refine wc_region ?_
  refine rl_do rfl rfl ?_
  refine do_call (caps := []) trivial rfl rfl Tryd.c5 rfl (FnP.mono (lawmeta_fn u) ?_)
  rintro v uM hle0 ⟨adm, capm, rfl, hm⟩ hleM
  refine rl_nilW 600 34 11 rfl rfl ?_
  refine rl_y (y_build rfl Tryd.f28' Tryd.z28 (ps := [(_, _)]) rfl (vs := [_, _]) rfl) rfl ?_
  refine rl_do rfl rfl ?_
  refine do_alloc trivial Tryd.z28 rfl rfl rfl ?_
  refine rl_do rfl rfl ?_
  refine do_store_p trivial rfl Tryd.k28 rfl rfl rfl (vs := [_, _]) rfl rfl (by first | rfl | assumption | simp [Value.oneCell', str]) (Nat.le_of_ble_eq_true rfl) rfl ?_
  refine rl_end (ρ' := [(0, _), (3, _)]) ⟨rfl, rfl, trivial⟩ ?_
  refine q_then ?_
  refine wc_seq ?_
  refine wc_region ?_
  refine ya rfl rfl ?_
  refine rl_end (ρ' := [(0, _), (3, _), (4, _)]) ⟨rfl, rfl, rfl, trivial⟩ ?_
  refine q_then ?_
  refine wc_seq ?_
  refine wc_region ?_
  refine ya rfl rfl ?_
  refine rl_end (ρ' := [(0, _), (3, _), (4, _), (5, _)]) ⟨rfl, rfl, rfl, rfl, trivial⟩ ?_
  refine q_then ?_
  refine wc_seq ?_
  refine wc_seq ?_
  refine wc_region ?_
  refine ya rfl rfl ?_
  refine rl_end (ρ' := [(0, _), (3, _), (4, _), (5, _), (6, _)]) ⟨rfl, rfl, rfl, rfl, rfl, trivial⟩ ?_
  refine q_then ?_
  refine wc_block ?_
  refine wc_loop (fun m ρ σ u' => ∃ i : Nat, i + m = ls.length ∧ VLe uM u' ∧ ∃ (ai : Option Addr) (ci : Nat) (li : List Value), σ = [(3, (none, .box [.slice adm 2 capm, .slice ai i ci])), (600, (none, .rwv (.slice ai i ci) 34 11 i li))] ∧ ρ = [(0, .v (.slice ad ls.length cap)), (3, .p 3 0), (4, .v (.int .i64 (lastK 0 ((ls.take i).map kL)))), (5, .v (.int .i64 (skN 0 ((ls.take i).map kL) : Nat))), (6, .v (.int .i64 i))] ∧ (BlksC u' (hdL ((ls.take i).map kL)) li)) (ls.length) ?_ ?_
  ·
   refine ⟨[(0, _), (3, _), (4, _), (5, _), (6, _)], [(3, _), (600, _)], ⟨rfl, rfl, rfl, rfl, rfl, trivial⟩, ⟨rfl, rfl, trivial⟩, 0, by omega, VLe.refl _, none, 0, [], rfl, rfl, ?_⟩
   exact BlksC.nil
  ·
   rintro m ρ σ u' ⟨i, hi7, hle7, ai, ci, li, rfl, rfl, hli⟩
   refine wc_seq ?_
   refine wc_seq ?_
   refine wc_region ?_
   refine ym rfl rfl ?_
   refine ym rfl rfl ?_
   refine rl_y (y_len_v rfl rfl Tryd.s22 rfl) rfl ?_
   refine rl_y (y_lss rfl rfl rfl) rfl ?_
   refine rl_end (ρ' := [(0, _), (3, _), (4, _), (5, _), (6, _), (20, _)]) ⟨rfl, rfl, rfl, rfl, rfl, rfl, trivial⟩ ?_
   refine q_then ?_
   refine wc_cond rfl (fun hb7 => ?_) (fun hb7 => ?_)
   ·
    have hlt : i < ls.length := by have := of_decide_eq_true hb7; omega
    have h1 := (h1.mono hleM).mono hle7
    have hg := List.getElem?_eq_getElem hlt
    have hcut := cut_u8C hg
    have h256 := hu8 _ (List.getElem_mem hlt)
    have htk : (ls.take (i + 1)).map kL = (ls.take i).map kL ++ [kL ls[i]] := by rw [List.take_succ_eq_append_getElem hlt, List.map_append]; rfl
    have hk6 := kL_ok ls[i]
    have hkI : IntOk (kL ls[i]) := ⟨by omega, by omega⟩
    have hlk := lastK_mem ((ls.take i).map kL) 0 (by omega) fun k hk => by
     obtain ⟨n, _, rfl⟩ := List.mem_map.1 hk
     have := kL_ok n; omega
    have hsn := skN_snoc ((ls.take i).map kL) 0 (kL ls[i])
    have hln := lastK_snoc ((ls.take i).map kL) 0 (kL ls[i])
    rw [← htk] at hsn hln
    have hdt : hdL ((ls.take (i + 1)).map kL) = hdL ((ls.take i).map kL) ++ [hdW (kL ls[i]) [104]] := by rw [htk]; unfold hdL; rw [List.map_append]; rfl
    have hskl := skN_le ((ls.take i).map kL) 0
    rw [List.length_map, List.length_take] at hskl
    refine wc_skip ?_
    refine q_then ?_
    refine wc_seq ?_
    refine wc_block ?_
    refine wc_seq ?_
    refine wc_region ?_
    refine ym rfl rfl ?_
    refine ym rfl rfl ?_
    refine rl_y (y_index_e rfl Tryd.s22 rfl rfl (by assumption) (by first | rfl | omega) (by omega)) rfl ?_
    refine rl_y (y_load_el rfl Tryd.k5 rfl (by assumption) (by omega) (by assumption) (vs := [_]) rfl rfl rfl rfl) rfl ?_
    refine rl_y (y_conv rfl Tryd.u5 Tryd.u3 rfl (wrap64_id (by omega))) rfl ?_
    refine rl_y (y_remE rfl rfl rfl (by omega) (by omega)) rfl ?_
    refine rl_y (y_add rfl rfl rfl (wrap64_id (by omega))) rfl ?_
    rw [show (1 : Int) + ((ls[i] : Nat) : Int) % 6 = kL ls[i] from rfl]
    refine ya rfl rfl ?_
    refine rl_end (ρ' := [(0, _), (3, _), (4, _), (5, _), (6, _), (7, _)]) ⟨rfl, rfl, rfl, rfl, rfl, rfl, trivial⟩ ?_
    refine q_then ?_
    refine wc_seq ?_
    refine wc_draw Tryd.mixed rfl [] trivial ?_
    refine ra_y (i := 0) rfl (by kernel_rfl) (by kernel_rfl) (by kernel_rfl) (np_then (np_block (np_then (np_then (np_block (np_then (np_fin))))))) (y_field_p rfl Tryd.f28' rfl (by decide) rfl) rfl ?_
    refine ra_y (i := 2) rfl (by kernel_rfl) (by kernel_rfl) (by kernel_rfl) (np_then (np_block (np_then (np_then (np_block (np_then (np_fin))))))) (y_move rfl rfl) rfl ?_
    refine ra_all (is := [1, 3]) (by kernel_rfl) rfl ?_
    refine raall_cons rfl rfl ?_ ?_
    ·
     refine do_y (y_load_p rfl Tryd.k26 rfl rfl rfl (vs := [_]) rfl rfl rfl) rfl ?_
     refine ra_do (i := 3) rfl rfl (by kernel_rfl) ?_
     refine do_call (caps := []) trivial rfl rfl Tryd.c6 rfl (FnP.mono (lawhead_fn (kL ls[i]) [104] (by decide) _) ?_)
     rintro v uH hle0 ⟨had, hcap, rfl, hH⟩ hleH
     refine ra_do (i := 4) rfl rfl (by kernel_rfl) ?_
     refine do_buildSlice trivial Tryd.s26 Tryd.z34 (ps := [(_, _)]) rfl (xs := [_, _, _, _, _, _, _, _, _, _, _]) rfl rfl rfl rfl rfl rfl rfl ?_
     refine ra_do (i := 5) rfl rfl (by kernel_rfl) ?_
     refine do_append_w_s 600 trivial rfl rfl Tryd.s26 Tryd.z34 rfl rfl rfl rfl rfl rfl (by simp [Value.oneCell', str]) (by omega) (by omega) rfl rfl ?_
     intro a2 c2
     refine ra_y (i := 6) rfl (by kernel_rfl) (by kernel_rfl) (by kernel_rfl) (np_then (np_block (np_then (np_then (np_block (np_then (np_fin))))))) (y_field_p rfl Tryd.f28' rfl (by decide) rfl) rfl ?_
     refine ra_do (i := 7) rfl rfl (by kernel_rfl) ?_
     refine do_store_p trivial rfl Tryd.k26 rfl rfl rfl (vs := [_]) rfl rfl (by first | rfl | assumption | simp [Value.oneCell', str]) (Nat.le_of_ble_eq_true rfl) rfl ?_
     refine ra_end (by kernel_rfl) (ρ' := [(0, _), (3, _), (4, _), (5, _), (6, _), (7, _)]) ⟨rfl, rfl, rfl, rfl, rfl, rfl, trivial⟩ ?_
     refine q_then ?_
     refine wc_seq ?_
     refine wc_seq ?_
     refine wc_region ?_
     refine ym rfl rfl ?_
     refine ym rfl rfl ?_
     refine rl_y (y_add rfl rfl rfl (wrap64_id (by omega))) rfl ?_
     refine rl_y (y_gtr rfl rfl rfl) rfl ?_
     refine rl_end (ρ' := [(0, _), (3, _), (5, _), (6, _), (7, _), (40, _)]) ⟨rfl, rfl, rfl, rfl, rfl, rfl, trivial⟩ ?_
     refine q_then ?_
     refine wc_cond rfl (fun hb11 => ?_) (fun hb11 => ?_)
     ·
      have h11 : lastK 0 ((ls.take i).map kL) + 1 < kL ls[i] := of_decide_eq_true hb11
      rw [if_pos h11] at hsn
      refine wc_region ?_
      refine ym rfl rfl ?_
      refine rl_y (y_add rfl rfl rfl (wrap64_id (by omega))) rfl ?_
      refine ya rfl rfl ?_
      refine rl_end (ρ' := [(0, _), (3, _), (5, _), (6, _), (7, _)]) ⟨rfl, rfl, rfl, rfl, rfl, trivial⟩ ?_
      refine q_then ?_
      refine wc_region ?_
      refine ym rfl rfl ?_
      refine ya rfl rfl ?_
      refine rl_end (ρ' := [(0, _), (3, _), (4, _), (5, _), (6, _)]) ⟨rfl, rfl, rfl, rfl, rfl, trivial⟩ ?_
      refine q_block ?_
      refine q_then ?_
      refine wc_region ?_
      refine ym rfl rfl ?_
      refine rl_y (y_add rfl rfl rfl (wrap64_id (by omega))) rfl ?_
      refine ya rfl rfl ?_
      refine rl_end (ρ' := [(0, _), (3, _), (4, _), (5, _), (6, _)]) ⟨rfl, rfl, rfl, rfl, rfl, trivial⟩ ?_
      refine q_thenK ?_
      refine ⟨m - 1, [(0, _), (3, _), (4, _), (5, _), (6, _)], [(3, _), (600, _)], by omega, ⟨rfl, rfl, rfl, rfl, rfl, trivial⟩, ⟨rfl, rfl, trivial⟩, i + 1, by omega, (hle7.trans hleH), a2, c2, _, rfl, (by rw [hsn, hln]; rfl), ?_⟩
      rw [hdt]
      exact (hli.mono hleH).append (BlksC.one (hd_C hkI hH))
     ·
      have h11 : ¬ lastK 0 ((ls.take i).map kL) + 1 < kL ls[i] := of_decide_eq_false hb11
      rw [if_neg h11, Nat.add_zero] at hsn
      refine wc_skip ?_
      refine q_then ?_
      refine wc_region ?_
      refine ym rfl rfl ?_
      refine ya rfl rfl ?_
      refine rl_end (ρ' := [(0, _), (3, _), (4, _), (5, _), (6, _)]) ⟨rfl, rfl, rfl, rfl, rfl, trivial⟩ ?_
      refine q_block ?_
      refine q_then ?_
      refine wc_region ?_
      refine ym rfl rfl ?_
      refine rl_y (y_add rfl rfl rfl (wrap64_id (by omega))) rfl ?_
      refine ya rfl rfl ?_
      refine rl_end (ρ' := [(0, _), (3, _), (4, _), (5, _), (6, _)]) ⟨rfl, rfl, rfl, rfl, rfl, trivial⟩ ?_
      refine q_thenK ?_
      refine ⟨m - 1, [(0, _), (3, _), (4, _), (5, _), (6, _)], [(3, _), (600, _)], by omega, ⟨rfl, rfl, rfl, rfl, rfl, trivial⟩, ⟨rfl, rfl, trivial⟩, i + 1, by omega, (hle7.trans hleH), a2, c2, _, rfl, (by rw [hsn, hln]; rfl), ?_⟩
      rw [hdt]
      exact (hli.mono hleH).append (BlksC.one (hd_C hkI hH))
    refine raall_cons rfl rfl ?_ ?_
    ·
     refine do_call (caps := []) trivial rfl rfl Tryd.c6 rfl (FnP.mono (lawhead_fn (kL ls[i]) [104] (by decide) _) ?_)
     rintro v uH hle0 ⟨had, hcap, rfl, hH⟩ hleH
     refine ra_all (is := [1, 4]) (by kernel_rfl) rfl ?_
     refine raall_cons rfl rfl ?_ ?_
     ·
      refine do_y (y_load_p rfl Tryd.k26 rfl rfl rfl (vs := [_]) rfl rfl rfl) rfl ?_
      refine ra_do (i := 4) rfl rfl (by kernel_rfl) ?_
      refine do_buildSlice trivial Tryd.s26 Tryd.z34 (ps := [(_, _)]) rfl (xs := [_, _, _, _, _, _, _, _, _, _, _]) rfl rfl rfl rfl rfl rfl rfl ?_
      refine ra_do (i := 5) rfl rfl (by kernel_rfl) ?_
      refine do_append_w_s 600 trivial rfl rfl Tryd.s26 Tryd.z34 rfl rfl rfl rfl rfl rfl (by simp [Value.oneCell', str]) (by omega) (by omega) rfl rfl ?_
      intro a2 c2
      refine ra_y (i := 6) rfl (by kernel_rfl) (by kernel_rfl) (by kernel_rfl) (np_then (np_block (np_then (np_then (np_block (np_then (np_fin))))))) (y_field_p rfl Tryd.f28' rfl (by decide) rfl) rfl ?_
      refine ra_do (i := 7) rfl rfl (by kernel_rfl) ?_
      refine do_store_p trivial rfl Tryd.k26 rfl rfl rfl (vs := [_]) rfl rfl (by first | rfl | assumption | simp [Value.oneCell', str]) (Nat.le_of_ble_eq_true rfl) rfl ?_
      refine ra_end (by kernel_rfl) (ρ' := [(0, _), (3, _), (4, _), (5, _), (6, _), (7, _)]) ⟨rfl, rfl, rfl, rfl, rfl, rfl, trivial⟩ ?_
      refine q_then ?_
      refine wc_seq ?_
      refine wc_seq ?_
      refine wc_region ?_
      refine ym rfl rfl ?_
      refine ym rfl rfl ?_
      refine rl_y (y_add rfl rfl rfl (wrap64_id (by omega))) rfl ?_
      refine rl_y (y_gtr rfl rfl rfl) rfl ?_
      refine rl_end (ρ' := [(0, _), (3, _), (5, _), (6, _), (7, _), (40, _)]) ⟨rfl, rfl, rfl, rfl, rfl, rfl, trivial⟩ ?_
      refine q_then ?_
      refine wc_cond rfl (fun hb11 => ?_) (fun hb11 => ?_)
      ·
       have h11 : lastK 0 ((ls.take i).map kL) + 1 < kL ls[i] := of_decide_eq_true hb11
       rw [if_pos h11] at hsn
       refine wc_region ?_
       refine ym rfl rfl ?_
       refine rl_y (y_add rfl rfl rfl (wrap64_id (by omega))) rfl ?_
       refine ya rfl rfl ?_
       refine rl_end (ρ' := [(0, _), (3, _), (5, _), (6, _), (7, _)]) ⟨rfl, rfl, rfl, rfl, rfl, trivial⟩ ?_
       refine q_then ?_
       refine wc_region ?_
       refine ym rfl rfl ?_
       refine ya rfl rfl ?_
       refine rl_end (ρ' := [(0, _), (3, _), (4, _), (5, _), (6, _)]) ⟨rfl, rfl, rfl, rfl, rfl, trivial⟩ ?_
       refine q_block ?_
       refine q_then ?_
       refine wc_region ?_
       refine ym rfl rfl ?_
       refine rl_y (y_add rfl rfl rfl (wrap64_id (by omega))) rfl ?_
       refine ya rfl rfl ?_
       refine rl_end (ρ' := [(0, _), (3, _), (4, _), (5, _), (6, _)]) ⟨rfl, rfl, rfl, rfl, rfl, trivial⟩ ?_
       refine q_thenK ?_
       refine ⟨m - 1, [(0, _), (3, _), (4, _), (5, _), (6, _)], [(3, _), (600, _)], by omega, ⟨rfl, rfl, rfl, rfl, rfl, trivial⟩, ⟨rfl, rfl, trivial⟩, i + 1, by omega, (hle7.trans hleH), a2, c2, _, rfl, (by rw [hsn, hln]; rfl), ?_⟩
       rw [hdt]
       exact (hli.mono hleH).append (BlksC.one (hd_C hkI hH))
      ·
       have h11 : ¬ lastK 0 ((ls.take i).map kL) + 1 < kL ls[i] := of_decide_eq_false hb11
       rw [if_neg h11, Nat.add_zero] at hsn
       refine wc_skip ?_
       refine q_then ?_
       refine wc_region ?_
       refine ym rfl rfl ?_
       refine ya rfl rfl ?_
       refine rl_end (ρ' := [(0, _), (3, _), (4, _), (5, _), (6, _)]) ⟨rfl, rfl, rfl, rfl, rfl, trivial⟩ ?_
       refine q_block ?_
       refine q_then ?_
       refine wc_region ?_
       refine ym rfl rfl ?_
       refine rl_y (y_add rfl rfl rfl (wrap64_id (by omega))) rfl ?_
       refine ya rfl rfl ?_
       refine rl_end (ρ' := [(0, _), (3, _), (4, _), (5, _), (6, _)]) ⟨rfl, rfl, rfl, rfl, rfl, trivial⟩ ?_
       refine q_thenK ?_
       refine ⟨m - 1, [(0, _), (3, _), (4, _), (5, _), (6, _)], [(3, _), (600, _)], by omega, ⟨rfl, rfl, rfl, rfl, rfl, trivial⟩, ⟨rfl, rfl, trivial⟩, i + 1, by omega, (hle7.trans hleH), a2, c2, _, rfl, (by rw [hsn, hln]; rfl), ?_⟩
       rw [hdt]
       exact (hli.mono hleH).append (BlksC.one (hd_C hkI hH))
     refine raall_cons rfl rfl ?_ ?_
     ·
      refine do_buildSlice trivial Tryd.s26 Tryd.z34 (ps := [(_, _)]) rfl (xs := [_, _, _, _, _, _, _, _, _, _, _]) rfl rfl rfl rfl rfl rfl rfl ?_
      refine ra_do (i := 1) rfl rfl (by kernel_rfl) ?_
      refine do_y (y_load_p rfl Tryd.k26 rfl rfl rfl (vs := [_]) rfl rfl rfl) rfl ?_
      refine ra_do (i := 5) rfl rfl (by kernel_rfl) ?_
      refine do_append_w_s 600 trivial rfl rfl Tryd.s26 Tryd.z34 rfl rfl rfl rfl rfl rfl (by simp [Value.oneCell', str]) (by omega) (by omega) rfl rfl ?_
      intro a2 c2
      refine ra_y (i := 6) rfl (by kernel_rfl) (by kernel_rfl) (by kernel_rfl) (np_then (np_block (np_then (np_then (np_block (np_then (np_fin))))))) (y_field_p rfl Tryd.f28' rfl (by decide) rfl) rfl ?_
      refine ra_do (i := 7) rfl rfl (by kernel_rfl) ?_
      refine do_store_p trivial rfl Tryd.k26 rfl rfl rfl (vs := [_]) rfl rfl (by first | rfl | assumption | simp [Value.oneCell', str]) (Nat.le_of_ble_eq_true rfl) rfl ?_
      refine ra_end (by kernel_rfl) (ρ' := [(0, _), (3, _), (4, _), (5, _), (6, _), (7, _)]) ⟨rfl, rfl, rfl, rfl, rfl, rfl, trivial⟩ ?_
      refine q_then ?_
      refine wc_seq ?_
      refine wc_seq ?_
      refine wc_region ?_
      refine ym rfl rfl ?_
      refine ym rfl rfl ?_
      refine rl_y (y_add rfl rfl rfl (wrap64_id (by omega))) rfl ?_
      refine rl_y (y_gtr rfl rfl rfl) rfl ?_
      refine rl_end (ρ' := [(0, _), (3, _), (5, _), (6, _), (7, _), (40, _)]) ⟨rfl, rfl, rfl, rfl, rfl, rfl, trivial⟩ ?_
      refine q_then ?_
      refine wc_cond rfl (fun hb11 => ?_) (fun hb11 => ?_)
      ·
       have h11 : lastK 0 ((ls.take i).map kL) + 1 < kL ls[i] := of_decide_eq_true hb11
       rw [if_pos h11] at hsn
       refine wc_region ?_
       refine ym rfl rfl ?_
       refine rl_y (y_add rfl rfl rfl (wrap64_id (by omega))) rfl ?_
       refine ya rfl rfl ?_
       refine rl_end (ρ' := [(0, _), (3, _), (5, _), (6, _), (7, _)]) ⟨rfl, rfl, rfl, rfl, rfl, trivial⟩ ?_
       refine q_then ?_
       refine wc_region ?_
       refine ym rfl rfl ?_
       refine ya rfl rfl ?_
       refine rl_end (ρ' := [(0, _), (3, _), (4, _), (5, _), (6, _)]) ⟨rfl, rfl, rfl, rfl, rfl, trivial⟩ ?_
       refine q_block ?_
       refine q_then ?_
       refine wc_region ?_
       refine ym rfl rfl ?_
       refine rl_y (y_add rfl rfl rfl (wrap64_id (by omega))) rfl ?_
       refine ya rfl rfl ?_
       refine rl_end (ρ' := [(0, _), (3, _), (4, _), (5, _), (6, _)]) ⟨rfl, rfl, rfl, rfl, rfl, trivial⟩ ?_
       refine q_thenK ?_
       refine ⟨m - 1, [(0, _), (3, _), (4, _), (5, _), (6, _)], [(3, _), (600, _)], by omega, ⟨rfl, rfl, rfl, rfl, rfl, trivial⟩, ⟨rfl, rfl, trivial⟩, i + 1, by omega, (hle7.trans hleH), a2, c2, _, rfl, (by rw [hsn, hln]; rfl), ?_⟩
       rw [hdt]
       exact (hli.mono hleH).append (BlksC.one (hd_C hkI hH))
      ·
       have h11 : ¬ lastK 0 ((ls.take i).map kL) + 1 < kL ls[i] := of_decide_eq_false hb11
       rw [if_neg h11, Nat.add_zero] at hsn
       refine wc_skip ?_
       refine q_then ?_
       refine wc_region ?_
       refine ym rfl rfl ?_
       refine ya rfl rfl ?_
       refine rl_end (ρ' := [(0, _), (3, _), (4, _), (5, _), (6, _)]) ⟨rfl, rfl, rfl, rfl, rfl, trivial⟩ ?_
       refine q_block ?_
       refine q_then ?_
       refine wc_region ?_
       refine ym rfl rfl ?_
       refine rl_y (y_add rfl rfl rfl (wrap64_id (by omega))) rfl ?_
       refine ya rfl rfl ?_
       refine rl_end (ρ' := [(0, _), (3, _), (4, _), (5, _), (6, _)]) ⟨rfl, rfl, rfl, rfl, rfl, trivial⟩ ?_
       refine q_thenK ?_
       refine ⟨m - 1, [(0, _), (3, _), (4, _), (5, _), (6, _)], [(3, _), (600, _)], by omega, ⟨rfl, rfl, rfl, rfl, rfl, trivial⟩, ⟨rfl, rfl, trivial⟩, i + 1, by omega, (hle7.trans hleH), a2, c2, _, rfl, (by rw [hsn, hln]; rfl), ?_⟩
       rw [hdt]
       exact (hli.mono hleH).append (BlksC.one (hd_C hkI hH))
     exact raall_nil
    exact raall_nil
   ·
    have hge := of_decide_eq_false hb7
    have hin : i = ls.length := by omega
    subst hin
    rw [List.take_of_length_le (Nat.le_refl _)] at *
    refine wc_exit ?_
    refine q_then_exit ?_
    refine q_then_exit ?_
    refine q_block_hit ?_
    refine q_then ?_
    refine wc_seq ?_
    refine wc_region ?_
    refine rl_freezeW 600 rfl ?_
    intro uF hleF hF
    have hB : BlkS uF (.slice ai ls.length ci) (hdL (ls.map kL)) := blkS_of' hF (hli.mono hleF)
    obtain ⟨hz1, hz2⟩ := sz_hd (ls.map kL)
    rw [List.length_map] at hz1
    obtain ⟨w1, w2, w3, w4, w5⟩ := rep_sm hz2 (by omega)
    have hskl := skN_le (ls.map kL) 0
    rw [List.length_map] at hskl
    have hFn : (hdL (fixL 0 (ls.map kL))).length = ls.length := by unfold hdL; rw [List.length_map, fixL_len, List.length_map]
    have hTF := ((hT.mono hleM).mono hle7).mono hleF
    obtain ⟨aF, cF, eF, hF1⟩ := hF
    cases eF
    refine rl_y (y_load_p rfl Tryd.k28 rfl rfl rfl (vs := [_, _]) rfl rfl rfl) rfl ?_
    refine rl_do rfl rfl ?_
    refine do_call (caps := []) trivial rfl rfl Tryd.c7 rfl (FnP.mono (repair_fn _ _ metaW (hdL (ls.map kL)) uF (by decide) (by omega) w1 w2 (by omega) w3 ⟨_, _, rfl, (hm.mono hle7).mono hleF⟩ hB) ?_)
    rintro v uR hle0 ⟨_, _, rfl, ⟨amX, cmX, rfl, hmX1⟩, ⟨xcs, ⟨abX, cbX, rfl, hbX1⟩, hbX2⟩⟩ hleR
    rw [repM_W] at hmX1 ⊢
    rw [rep_hd] at hbX1 hbX2 w3 w5 ⊢
    rw [hFn] at hbX1 ⊢
    have hF1 := hF1.mono hleR
    have hBc := (hli.mono hleF).mono hleR
    have hTR := hTF.mono hleR
    have hmR := ((hm.mono hle7).mono hleF).mono hleR
    refine rl_do rfl rfl ?_
    refine do_alloc trivial Tryd.z28 rfl rfl rfl ?_
    refine rl_do rfl rfl ?_
    refine do_store_p trivial rfl Tryd.k28 rfl rfl rfl (vs := [_, _]) rfl rfl (by first | rfl | assumption | simp [Value.oneCell', str]) (Nat.le_of_ble_eq_true rfl) rfl ?_
    refine rl_end (ρ' := [(0, _), (3, _), (5, _), (8, _)]) ⟨rfl, rfl, rfl, rfl, trivial⟩ ?_
    refine q_then ?_
    refine wc_seq ?_
    refine wc_region ?_
    refine ya rfl rfl ?_
    refine rl_end (ρ' := [(0, _), (3, _), (4, _), (5, _), (8, _)]) ⟨rfl, rfl, rfl, rfl, rfl, trivial⟩ ?_
    refine q_then ?_
    refine wc_seq ?_
    refine wc_seq ?_
    refine wc_region ?_
    refine ya rfl rfl ?_
    refine rl_end (ρ' := [(0, _), (3, _), (4, _), (5, _), (8, _), (9, _)]) ⟨rfl, rfl, rfl, rfl, rfl, rfl, trivial⟩ ?_
    refine q_then ?_
    refine wc_block ?_
    refine wc_loop (fun m ρ σ u' => ∃ j : Nat, j + m = ls.length ∧ VLe uR u' ∧ σ = [(3, (none, .box [.slice adm 2 capm, .slice ai ls.length ci])), (8, (none, .box [.slice amX 2 cmX, .slice abX ls.length cbX]))] ∧ ρ = [(0, .v (.slice ad ls.length cap)), (3, .p 3 0), (4, .v (.int .i64 (lastK 0 ((fixL 0 (ls.map kL)).take j)))), (5, .v (.int .i64 (skN 0 (ls.map kL) : Nat))), (8, .p 8 0), (9, .v (.int .i64 j))] ∧ (uR = u')) (ls.length) ?_ ?_
    ·
     refine ⟨[(0, _), (3, _), (4, _), (5, _), (8, _), (9, _)], [(3, _), (8, _)], ⟨rfl, rfl, rfl, rfl, rfl, rfl, trivial⟩, ⟨rfl, rfl, trivial⟩, 0, by omega, VLe.refl _, rfl, rfl, ?_⟩
     rfl
    ·
     rintro mj ρ σ u' ⟨j, hi17, hle17, rfl, rfl, rfl⟩
     refine wc_seq ?_
     refine wc_seq ?_
     refine wc_region ?_
     refine ym rfl rfl ?_
     refine rl_y (y_field_p rfl Tryd.f28' rfl (by decide) rfl) rfl ?_
     refine rl_y (y_load_p rfl Tryd.k26 rfl rfl rfl (vs := [_]) rfl rfl rfl) rfl ?_
     refine rl_y (y_len_v rfl rfl Tryd.s26 rfl) rfl ?_
     refine rl_y (y_lss rfl rfl rfl) rfl ?_
     refine rl_end (ρ' := [(0, _), (3, _), (4, _), (5, _), (8, _), (9, _), (50, _)]) ⟨rfl, rfl, rfl, rfl, rfl, rfl, rfl, trivial⟩ ?_
     refine q_then ?_
     refine wc_cond rfl (fun hb17 => ?_) (fun hb17 => ?_)
     ·
      have hlt2 : j < ls.length := by have := of_decide_eq_true hb17; omega
      have hgD : (ls.map kL)[j]? = some (kL ls[j]) := by rw [List.getElem?_map, List.getElem?_eq_getElem hlt2]; rfl
      have hgK := fixL_get (bf := 0) hgD
      have hBb := lastK_mem ((fixL 0 (ls.map kL)).take j) 0 (by omega) fun k hk => fixL_mem (ls.map kL) 0 (by omega) hks k (List.mem_of_mem_take hk)
      have hD6 := kL_ok ls[j]
      have hnx : lastK 0 ((fixL 0 (ls.map kL)).take (j + 1)) = min (kL ls[j]) (lastK 0 ((fixL 0 (ls.map kL)).take j) + 1) := by
       obtain ⟨hlf, hef⟩ := List.getElem?_eq_some_iff.1 hgK
       rw [List.take_succ_eq_append_getElem hlf, lastK_snoc, hef]
      obtain ⟨k, lv, inf, t, d, ti, a, line, kids, vc, vp, vl, vk, hg, hcutX, _⟩ := hbX2.at (i := j) (by omega)
      have hg' : some (hdW (min (kL ls[j]) (lastK 0 ((fixL 0 (ls.map kL)).take j) + 1)) [104]) = some (Blk.mk k lv inf t d ti a line kids) := by rw [← hg]; unfold hdL; rw [List.getElem?_map, hgK]; rfl
      cases hg'
      obtain ⟨k, lv, inf, t, d, ti, a, line, kids, vc2, vp2, vl2, vk2, hg2, hcutD, _⟩ := hBc.at (i := j) (by unfold hdL; rw [List.length_map, List.length_map]; exact hlt2)
      have hg2' : some (hdW (kL ls[j]) [104]) = some (Blk.mk k lv inf t d ti a line kids) := by rw [← hg2]; unfold hdL; rw [List.getElem?_map, hgD]; rfl
      cases hg2'
      generalize hBe : lastK 0 ((fixL 0 (ls.map kL)).take j) = B at *
      generalize hDe : kL ls[j] = Dv at *
      have hKe : min Dv (B + 1) ≤ B + 1 ∧ min Dv (B + 1) ≤ Dv ∧ (min Dv (B + 1) = Dv ∨ min Dv (B + 1) = B + 1) := by omega
      generalize hKv : min Dv (B + 1) = K at *
      refine wc_skip ?_
      refine q_then ?_
      refine wc_seq ?_
      refine wc_block ?_
      refine wc_seq ?_
      refine wc_region ?_
      refine rl_y (y_field_p rfl Tryd.f28' rfl (by decide) rfl) rfl ?_
      refine rl_y (y_load_p rfl Tryd.k26 rfl rfl rfl (vs := [_]) rfl rfl rfl) rfl ?_
      refine ym rfl rfl ?_
      refine rl_y (y_index_e rfl Tryd.s26 rfl rfl (by assumption) (by first | rfl | omega) (by omega)) rfl ?_
      refine rl_y (y_field_e rfl Tryd.f34' rfl (by decide) rfl) rfl ?_
      refine rl_y (y_load_el rfl Tryd.k3 rfl (by assumption) (by omega) (by assumption) (vs := [_]) rfl rfl rfl rfl) rfl ?_
      refine ya rfl rfl ?_
      refine rl_end (ρ' := [(0, _), (3, _), (4, _), (5, _), (8, _), (9, _), (10, _)]) ⟨rfl, rfl, rfl, rfl, rfl, rfl, rfl, trivial⟩ ?_
      refine q_then ?_
      refine wc_seq ?_
      refine wc_seq ?_
      refine wc_cutB 88 (false) (ρk := [(0, _), (3, _), (5, _), (8, _), (9, _), (10, _)]) ⟨rfl, rfl, rfl, rfl, rfl, rfl, trivial⟩ ?_ ?_
      ·
       refine wc_region ?_
       refine ym rfl rfl ?_
       refine ym rfl rfl ?_
       refine rl_y (y_add rfl rfl rfl (wrap64_id (by omega))) rfl ?_
       refine rl_y (y_gtr rfl rfl rfl) rfl ?_
       rw [show decide (B + 1 < K) = false from decide_eq_false (by omega)]
       refine ym rfl rfl ?_
       refine rl_on rfl rfl ?_
       refine ym rfl rfl ?_
       refine rl_on rfl rfl ?_
       refine rl_y (y_field_p rfl Tryd.f28' rfl (by decide) rfl) rfl ?_
       refine rl_on rfl rfl ?_
       refine rl_y (y_load_p rfl Tryd.k26 rfl rfl rfl (vs := [_]) rfl rfl rfl) rfl ?_
       refine rl_on rfl rfl ?_
       refine ym rfl rfl ?_
       refine rl_on rfl rfl ?_
       refine rl_y (y_index_e rfl Tryd.s26 rfl rfl (by assumption) (by first | rfl | omega) (by omega)) rfl ?_
       refine rl_on rfl rfl ?_
       refine rl_y (y_field_e rfl Tryd.f34' rfl (by decide) rfl) rfl ?_
       refine rl_on rfl rfl ?_
       refine rl_y (y_load_el rfl Tryd.k3 rfl (by assumption) (by omega) (by assumption) (vs := [_]) rfl rfl rfl rfl) rfl ?_
       refine rl_on rfl rfl ?_
       refine rl_y (y_gtr rfl rfl rfl) rfl ?_
       rw [show decide (Dv < K) = false from decide_eq_false (by omega)]
       refine rl_y (y_pick_f rfl rfl rfl) rfl ?_
       refine ym rfl rfl ?_
       refine rl_on rfl rfl ?_
       refine ym rfl rfl ?_
       refine rl_on rfl rfl ?_
       refine rl_y (y_field_p rfl Tryd.f28' rfl (by decide) rfl) rfl ?_
       refine rl_on rfl rfl ?_
       refine rl_y (y_load_p rfl Tryd.k26 rfl rfl rfl (vs := [_]) rfl rfl rfl) rfl ?_
       refine rl_on rfl rfl ?_
       refine ym rfl rfl ?_
       refine rl_on rfl rfl ?_
       refine rl_y (y_index_e rfl Tryd.s26 rfl rfl (by assumption) (by first | rfl | omega) (by omega)) rfl ?_
       refine rl_on rfl rfl ?_
       refine rl_y (y_field_e rfl Tryd.f34' rfl (by decide) rfl) rfl ?_
       refine rl_on rfl rfl ?_
       refine rl_y (y_load_el rfl Tryd.k3 rfl (by assumption) (by omega) (by assumption) (vs := [_]) rfl rfl rfl rfl) rfl ?_
       refine rl_on rfl rfl ?_
       refine rl_y (y_neq rfl rfl rfl) rfl ?_
       refine rl_on rfl rfl ?_
       refine ym rfl rfl ?_
       rcases Bool.eq_false_or_eq_true (decide (K ≠ Dv)) with hg20_23 | hg20_23
       ·
        simp only [hg20_23]
        refine rl_on rfl rfl ?_
        refine ym rfl rfl ?_
        refine rl_on rfl rfl ?_
        refine ym rfl rfl ?_
        refine rl_on rfl rfl ?_
        refine rl_y (y_add rfl rfl rfl (wrap64_id (by omega))) rfl ?_
        refine rl_on rfl rfl ?_
        refine rl_y (y_neq rfl rfl rfl) rfl ?_
        refine rl_on rfl rfl ?_
        refine rl_y (y_pick_t rfl rfl rfl) rfl ?_
        refine rl_y (y_pick_f rfl rfl rfl) rfl ?_
        exact cutB_end rfl ⟨rfl, rfl, rfl, rfl, rfl, rfl, trivial⟩ (by first | rfl | (have := of_decide_eq_true hg20_23; exact decide_eq_false (by omega)))
       ·
        simp only [hg20_23]
        refine rl_off rfl rfl rfl rfl ?_
        refine rl_off rfl rfl rfl rfl ?_
        refine rl_off rfl rfl rfl rfl ?_
        refine rl_off rfl rfl rfl rfl ?_
        refine rl_on rfl rfl ?_
        refine rl_y (y_pick_f rfl rfl rfl) rfl ?_
        refine rl_y (y_pick_f rfl rfl rfl) rfl ?_
        exact cutB_end rfl ⟨rfl, rfl, rfl, rfl, rfl, rfl, trivial⟩ (by first | rfl | (have := of_decide_eq_true hg20_23; exact decide_eq_false (by omega)))
      refine q_then ?_
      refine wc_cond_f rfl (rfl) ?_
      refine wc_skip ?_
      refine q_then ?_
      refine wc_region ?_
      refine ym rfl rfl ?_
      refine ya rfl rfl ?_
      refine rl_end (ρ' := [(0, _), (3, _), (4, _), (5, _), (8, _), (9, _)]) ⟨rfl, rfl, rfl, rfl, rfl, rfl, trivial⟩ ?_
      refine q_block ?_
      refine q_then ?_
      refine wc_region ?_
      refine ym rfl rfl ?_
      refine rl_y (y_add rfl rfl rfl (wrap64_id (by omega))) rfl ?_
      refine ya rfl rfl ?_
      refine rl_end (ρ' := [(0, _), (3, _), (4, _), (5, _), (8, _), (9, _)]) ⟨rfl, rfl, rfl, rfl, rfl, rfl, trivial⟩ ?_
      refine q_thenK ?_
      refine ⟨mj - 1, [(0, _), (3, _), (4, _), (5, _), (8, _), (9, _)], [(3, _), (8, _)], by omega, ⟨rfl, rfl, rfl, rfl, rfl, rfl, trivial⟩, ⟨rfl, rfl, trivial⟩, j + 1, by omega, hle17, rfl, (by rw [hnx]; first | rfl | simp), ?_⟩
      rfl
     ·
      have hge2 := of_decide_eq_false hb17
      refine wc_exit ?_
      refine q_then_exit ?_
      refine q_then_exit ?_
      refine q_block_hit ?_
      refine q_then ?_
      refine wc_seq ?_
      refine wc_region ?_
      refine rl_y (y_load_p rfl Tryd.k28 rfl rfl rfl (vs := [_, _]) rfl rfl rfl) rfl ?_
      refine rl_do rfl rfl ?_
      refine do_call (caps := []) trivial rfl rfl Tryd.c8 rfl (FnP.mono (check_fn _ _ metaW (hdL (ls.map kL)) uR hTR (by omega) w1 (by decide) ⟨_, _, rfl, hmR⟩ (hB.mono hleR)) ?_)
      rintro v uC hle0 ⟨adF, capF, rfl, hFc⟩ hleC
      rw [faults_hd (by rfl) (by rfl)]
      refine rl_y (y_len_v rfl rfl Tryd.s37 rfl) rfl ?_
      refine ym rfl rfl ?_
      refine rl_y (y_eql_refl rfl rfl rfl) rfl ?_
      refine ym rfl rfl ?_
      refine rl_on rfl rfl ?_
      refine rl_y (y_load_p rfl Tryd.k28 rfl rfl rfl (vs := [_, _]) rfl rfl rfl) rfl ?_
      refine rl_on rfl rfl ?_
      refine rl_do rfl rfl ?_
      refine do_call (caps := []) trivial rfl rfl Tryd.c8 rfl (FnP.mono (check_fn _ _ metaW (hdL (fixL 0 (ls.map kL))) uC (hTR.mono hleC) (by omega) w3 (by decide) ⟨_, _, rfl, hmX1.mono hleC⟩ ⟨xcs, ⟨_, _, by rw [hFn], by rw [hFn]; exact hbX1.mono hleC⟩, hbX2.mono hleC⟩) ?_)
      rintro v uD hle0 ⟨adG, capG, rfl, hGc⟩ hleD
      rw [faults_hd (by rfl) (by rfl), skN_fix]
      refine rl_on rfl rfl ?_
      refine rl_y (y_len_v rfl rfl Tryd.s37 rfl) rfl ?_
      refine rl_on rfl rfl ?_
      refine rl_y (y_eql rfl rfl rfl) rfl ?_
      refine rl_y (y_pick_t rfl rfl rfl) rfl ?_
      refine ym rfl rfl ?_
      refine rl_on rfl rfl ?_
      refine rl_y (y_field_p rfl Tryd.f28' rfl (by decide) rfl) rfl ?_
      refine rl_on rfl rfl ?_
      refine rl_y (y_load_p rfl Tryd.k26 rfl rfl rfl (vs := [_]) rfl rfl rfl) rfl ?_
      refine rl_on rfl rfl ?_
      refine rl_y (y_len_v rfl rfl Tryd.s26 rfl) rfl ?_
      refine rl_on rfl rfl ?_
      refine ym rfl rfl ?_
      refine rl_on rfl rfl ?_
      refine rl_y (y_len_v rfl rfl Tryd.s22 rfl) rfl ?_
      refine rl_on rfl rfl ?_
      refine rl_y (y_eql_refl rfl rfl rfl) rfl ?_
      refine rl_y (y_pick_t rfl rfl rfl) rfl ?_
      refine ym rfl rfl ?_
      refine rl_on rfl rfl ?_
      refine rl_do rfl rfl ?_
      refine do_call_f (caps := []) trivial rfl rfl Tryd.c4 rfl (FnP.mono (lawawake_fn uD ((hTR.mono hleC).mono hleD)) ?_)
      rintro v u1 hle1 rfl
      refine rl_y (y_pick_t rfl rfl rfl) rfl ?_
      refine ya rfl rfl ?_
      refine rl_end (ρ' := [(2, _)]) ⟨rfl, trivial⟩ ?_
      refine q_then ?_
      refine wc_ret ?_
      refine fin1 (.tmp rfl) ?_
      rfl
end Go.Proofs.Ytoajhdnfdfbmaaa
