/- Count: the page's examples. -/
import Derived.Test.YthnboadnehbciaaDoorCntS
namespace Go.Proofs.Ythnboadnehbciaa
open Go Go.Eng
set_option linter.unusedSimpArgs false
set_option linter.unusedVariables false
set_option maxRecDepth 4000

theorem lawtexts_same (va vb : Value) (xs : List Bs) (hx : xs.length ≤ 1000000) (u : View) (ha : StrS u va xs) (hb : StrS u vb xs) :
    FnP Tryd.prog 14 [va, vb] u fun v _ => v = .bool true := by
  obtain ⟨ad, cap, rfl, h1⟩ := ha
  obtain ⟨ad2, cap2, rfl, h2⟩ := hb
  refine FnP.intro [.tmp 4] Tryd.func14 rfl rfl rfl ?_
  intro w0 D hw0
  refine wc_seq ?_
  refine wc_region ?_
  refine rl_y (y_assign rfl rfl) rfl ?_
  refine rl_end (ρ' := [(0, _), (1, _)]) ⟨rfl, rfl, trivial⟩ ?_
  refine q_then ?_
  refine wc_seq ?_
  refine wc_seq ?_
  refine wc_region ?_
  refine rl_y (y_move rfl rfl) rfl ?_
  refine rl_y (y_len_v rfl rfl Tryd.s32 rfl) rfl ?_
  refine rl_y (y_move rfl rfl) rfl ?_
  refine rl_y (y_len_v rfl rfl Tryd.s32 rfl) rfl ?_
  refine rl_y (y_neq_refl rfl rfl rfl) rfl ?_
  refine rl_end (ρ' := [(0, _), (1, _), (10, _)]) ⟨rfl, rfl, rfl, trivial⟩ ?_
  refine q_then ?_
  refine wc_cond_f rfl (rfl) ?_
  refine wc_skip ?_
  refine q_then ?_
  refine wc_seq ?_
  refine wc_seq ?_
  refine wc_region ?_
  refine rl_y (y_assign rfl rfl) rfl ?_
  refine rl_end (ρ' := [(0, _), (1, _), (5, _)]) ⟨rfl, rfl, rfl, trivial⟩ ?_
  refine q_then ?_
  refine wc_block ?_
  refine wc_loop (fun m ρ σ u' => ∃ i : Nat, i + m = xs.length ∧ VLe u u' ∧ σ = [] ∧ ρ = [(0, .v (.slice ad xs.length cap)), (1, .v (.slice ad2 xs.length cap2)), (5, .v (.int .i64 i))] ∧ (u = u')) (xs.length) ?_ ?_
  ·
    refine ⟨[(0, _), (1, _), (5, _)], [], ⟨rfl, rfl, rfl, trivial⟩, trivial, 0, by omega, VLe.refl _, (by first | rfl | simp), (by first | rfl | (simp only [List.cons.injEq, Prod.mk.injEq, SV.v.injEq, Value.int.injEq, true_and, and_true]; omega) | simp), ?_⟩
    rfl
  ·
    rintro m ρ σ u' ⟨i, hi4, hle4, rfl, rfl, rfl⟩
    refine wc_seq ?_
    refine wc_seq ?_
    refine wc_cutB 20 (decide (i < xs.length)) (ρk := [(0, _), (1, _), (5, _)]) ⟨rfl, rfl, rfl, trivial⟩ ?_ ?_
    ·
      refine wc_region ?_
      refine rl_y (y_move rfl rfl) rfl ?_
      refine rl_y (y_move rfl rfl) rfl ?_
      refine rl_y (y_len_v rfl rfl Tryd.s32 rfl) rfl ?_
      refine rl_y (y_lss rfl rfl rfl) rfl ?_
      refine rl_y (y_move rfl rfl) rfl ?_
      rcases Bool.eq_false_or_eq_true (decide ((i : Int) < xs.length)) with hg4_4 | hg4_4
      ·
        simp only [hg4_4]
        refine rl_on rfl rfl ?_
        refine rl_y (y_move rfl rfl) rfl ?_
        refine rl_on rfl rfl ?_
        refine rl_y (y_move rfl rfl) rfl ?_
        refine rl_on rfl rfl ?_
        refine rl_y (y_len_v rfl rfl Tryd.s32 rfl) rfl ?_
        refine rl_on rfl rfl ?_
        refine rl_y (y_lss rfl rfl rfl) rfl ?_
        refine rl_y (y_pick_t rfl rfl rfl) rfl ?_
        exact cutB_end rfl ⟨rfl, rfl, rfl, trivial⟩ (by (first | refine (decide_eq_true ?_).symm | refine (decide_eq_false ?_).symm | refine decide_eq_decide.2 ?_ | refine decide_eq_true ?_ | refine decide_eq_false ?_) <;> (try unfold id) <;> (try simp only [decide_eq_true_eq, decide_eq_false_iff_not] at *) <;> omega)
      ·
        simp only [hg4_4]
        refine rl_off rfl rfl rfl rfl ?_
        refine rl_off rfl rfl rfl rfl ?_
        refine rl_off rfl rfl rfl rfl ?_
        refine rl_off rfl rfl rfl rfl ?_
        refine rl_y (y_pick_f rfl rfl rfl) rfl ?_
        exact cutB_end rfl ⟨rfl, rfl, rfl, trivial⟩ (by (first | refine (decide_eq_true ?_).symm | refine (decide_eq_false ?_).symm | refine decide_eq_decide.2 ?_ | refine decide_eq_true ?_ | refine decide_eq_false ?_) <;> (try unfold id) <;> (try simp only [decide_eq_true_eq, decide_eq_false_iff_not] at *) <;> omega)
    refine q_then ?_
    refine wc_cond rfl (fun hb4 => ?_) (fun hb4 => ?_)
    ·
      refine wc_skip ?_
      refine q_then ?_
      refine wc_seq ?_
      refine wc_block ?_
      refine wc_seq ?_
      have hlt : i < xs.length := by have := of_decide_eq_true hb4; omega
      have hc := cut_strsC (List.getElem?_eq_getElem hlt)
      refine wc_draw Tryd.mixed rfl [] trivial ?_
      refine ra_y (i := 0) rfl (by kernel_rfl) (by kernel_rfl) (by kernel_rfl) (np_then (np_block (np_then (np_then (np_block (np_then (np_fin))))))) (y_move rfl rfl) rfl ?_
      refine ra_y (i := 1) rfl (by kernel_rfl) (by kernel_rfl) (by kernel_rfl) (np_then (np_block (np_then (np_then (np_block (np_then (np_fin))))))) (y_move rfl rfl) rfl ?_
      refine ra_y (i := 2) rfl (by kernel_rfl) (by kernel_rfl) (by kernel_rfl) (np_then (np_block (np_then (np_then (np_block (np_then (np_fin))))))) (y_index_e rfl Tryd.s32 rfl rfl (by assumption) (by first | rfl | omega) (by omega)) rfl ?_
      refine ra_y (i := 3) rfl (by kernel_rfl) (by kernel_rfl) (by kernel_rfl) (np_then (np_block (np_then (np_then (np_block (np_then (np_fin))))))) (y_load_el rfl Tryd.k9 rfl (by assumption) (by omega) (by assumption) (vs := [_]) rfl rfl rfl rfl) rfl ?_
      refine ra_y (i := 4) rfl (by kernel_rfl) (by kernel_rfl) (by kernel_rfl) (np_then (np_block (np_then (np_then (np_block (np_then (np_fin))))))) (y_move rfl rfl) rfl ?_
      refine ra_y (i := 5) rfl (by kernel_rfl) (by kernel_rfl) (by kernel_rfl) (np_then (np_block (np_then (np_then (np_block (np_then (np_fin))))))) (y_move rfl rfl) rfl ?_
      refine ra_y (i := 6) rfl (by kernel_rfl) (by kernel_rfl) (by kernel_rfl) (np_then (np_block (np_then (np_then (np_block (np_then (np_fin))))))) (y_index_e rfl Tryd.s32 rfl rfl (by assumption) (by first | rfl | omega) (by omega)) rfl ?_
      refine ra_y (i := 7) rfl (by kernel_rfl) (by kernel_rfl) (by kernel_rfl) (np_then (np_block (np_then (np_then (np_block (np_then (np_fin))))))) (y_load_el rfl Tryd.k9 rfl (by assumption) (by omega) (by assumption) (vs := [_]) rfl rfl rfl rfl) rfl ?_
      refine ra_y (i := 8) rfl (by kernel_rfl) (by kernel_rfl) (by kernel_rfl) (np_then (np_block (np_then (np_then (np_block (np_then (np_fin))))))) (y_str_neq_refl rfl rfl rfl) rfl ?_
      refine ra_end (by kernel_rfl) (ρ' := [(0, _), (1, _), (5, _), (31, _)]) ⟨rfl, rfl, rfl, rfl, trivial⟩ ?_
      refine q_then ?_
      refine wc_cond_f rfl (rfl) ?_
      refine wc_skip ?_
      refine q_block ?_
      refine q_then ?_
      refine wc_region ?_
      refine rl_y (y_move rfl rfl) rfl ?_
      refine rl_y (y_add rfl rfl rfl (wrap64_id (by omega))) rfl ?_
      refine rl_y (y_assign rfl rfl) rfl ?_
      refine rl_end (ρ' := [(0, _), (1, _), (5, _)]) ⟨rfl, rfl, rfl, trivial⟩ ?_
      refine q_thenK ?_
      refine ⟨m - 1, [(0, _), (1, _), (5, _)], [], by omega, ⟨rfl, rfl, rfl, trivial⟩, trivial, i + 1, by omega, hle4, (by first | rfl | simp), (by first | rfl | (simp only [List.cons.injEq, Prod.mk.injEq, SV.v.injEq, Value.int.injEq, true_and, and_true]; omega) | simp), ?_⟩
      rfl
    ·
      refine wc_exit ?_
      refine q_then_exit ?_
      refine q_then_exit ?_
      refine q_block_hit ?_
      refine q_then ?_
      refine wc_seq ?_
      refine wc_region ?_
      refine rl_y (y_assign rfl rfl) rfl ?_
      refine rl_end (ρ' := [(4, _)]) ⟨rfl, trivial⟩ ?_
      refine q_then ?_
      refine wc_ret ?_
      refine fin1 (.tmp rfl) ?_
      rfl

abbrev nilV : Value := .slice none 0 0
theorem head2_fn (lv : Int) (hl : IntOk lv) (u : View) : FnP Tryd.prog 23 [.int .i64 lv] u fun r u' => ∃ ad cap, r = .agg (blkV 2 lv [] [] [] [] [] nilV nilV (.slice ad 1 cap) nilV).toArray ∧ BlkC u' (headB lv) (blkV 2 lv [] [] [] [] [] nilV nilV (.slice ad 1 cap) nilV) := by
  refine FnP.intro [.cell 2 42] Tryd.func23 rfl rfl rfl ?_
  intro w0 D hw0
  refine wc_seq ?_
  refine wc_region ?_
  refine rl_do rfl rfl ?_
  refine do_alloc trivial Tryd.z42 rfl rfl rfl ?_
  refine rl_end (ρ' := [(0, _), (2, _)]) ⟨rfl, rfl, trivial⟩ ?_
  refine q_then ?_
  refine wc_seq ?_
  refine wc_region ?_
  refine rl_y (y_move rfl rfl) rfl ?_
  refine rl_y (y_build rfl Tryd.f57' Tryd.z57 (ps := [(_, _), (_, _)]) rfl (vs := [_, _, _, _, _, _, _, _, _, _]) rfl) rfl ?_
  refine rl_do rfl rfl ?_
  refine do_buildSlice trivial Tryd.s36 Tryd.z57 (ps := [(_, _)]) rfl (xs := [_, _, _, _, _, _, _, _, _, _]) rfl rfl rfl rfl rfl rfl rfl ?_
  refine rl_freeze 5 rfl ?_
  intro ad5 cap5 u5 hle5z hsl5
  refine rl_y (y_build rfl Tryd.f42' Tryd.z42 (ps := [(_, _), (_, _), (_, _)]) rfl (vs := [_, _, _, _, _, _, _, _, _, _, _]) rfl) rfl ?_
  refine rl_do rfl rfl ?_
  refine do_store_p trivial rfl Tryd.k42 rfl rfl rfl (vs := [_, _, _, _, _, _, _, _, _, _, _]) rfl rfl (by first | rfl | exact oneAll | exact oneAll2 | simp [Value.oneCell', str]) (Nat.le_of_ble_eq_true rfl) rfl ?_
  refine rl_end (ρ' := [(2, _)]) ⟨rfl, trivial⟩ ?_
  refine q_then ?_
  refine wc_ret ?_
  refine fin1 (.cell rfl rfl Tryd.k42 (cs := _) (vs := [_, _, _, _, _, _, _, _, _, _, _]) rfl rfl rfl) ?_
  refine ⟨_, _, rfl, BlkC.mk' (nilStr _) (nilPr _) ⟨_, ⟨_, _, rfl, hsl5⟩, InlsC.one (textT_C _)⟩ (nilBlk _) ⟨intOk_of (by decide), hl, by decide, by decide, by decide, by decide, attrOk0, by decide, by decide⟩⟩
theorem refI_C (s : Bs) (hs : s.length ≤ 1000) (u : View) : InlC u (refI s) (inlV 12 s [] [] [] nilV nilV nilV nilV nilV) :=
  InlC.mk' (nilStr _) (nilPr _) (nilStr _) (nilCi _) (nilInl _) ⟨intOk_of (by decide), by omega, by decide, by decide, attrOk0, ⟨by decide, by simp⟩, ⟨by decide, by simp⟩, by decide⟩
theorem ref2_fn (s : Bs) (hs : s.length ≤ 1000) (u : View) : FnP Tryd.prog 25 [str s] u fun r _ => r = .agg (inlV 12 s [] [] [] nilV nilV nilV nilV nilV).toArray := by
  refine FnP.intro [.cell 2 57] Tryd.func25 rfl rfl rfl ?_
  intro w0 D hw0
  refine wc_seq ?_
  refine wc_region ?_
  refine rl_do rfl rfl ?_
  refine do_alloc trivial Tryd.z57 rfl rfl rfl ?_
  refine rl_end (ρ' := [(0, _), (2, _)]) ⟨rfl, rfl, trivial⟩ ?_
  refine q_then ?_
  refine wc_seq ?_
  refine wc_region ?_
  refine rl_y (y_move rfl rfl) rfl ?_
  refine rl_y (y_build rfl Tryd.f57' Tryd.z57 (ps := [(_, _), (_, _)]) rfl (vs := [_, _, _, _, _, _, _, _, _, _]) rfl) rfl ?_
  refine rl_do rfl rfl ?_
  refine do_store_p trivial rfl Tryd.k57 rfl rfl rfl (vs := [_, _, _, _, _, _, _, _, _, _]) rfl rfl (by first | rfl | exact oneAll | exact oneAll2 | simp [Value.oneCell', str]) (Nat.le_of_ble_eq_true rfl) rfl ?_
  refine rl_end (ρ' := [(2, _)]) ⟨rfl, trivial⟩ ?_
  refine q_then ?_
  refine wc_ret ?_
  refine fin1 (.cell rfl rfl Tryd.k57 (cs := _) (vs := [_, _, _, _, _, _, _, _, _, _]) rfl rfl rfl) ?_
  rfl

def docD : List Blk := [headB 1, headB 2, headB 2, headB 1, headB 3]
def paraB (l : List Inl) : Blk := .mk 1 0 [] [] [] [] attr0 l []
def noteB (s : Bs) : Blk := .mk 14 0 s [] [] [] attr0 [] []
def docN : List Blk := [paraB [refI [98], refI [97], refI [98]], noteB [97], noteB [98]]
def figB : Blk := .mk 13 0 figS [] [] [] ⟨[120], [], []⟩ [] []
def docF : List Blk := [figB, headB 3]
theorem dec_lit (n : Nat) (h : n < 10) : dec n = [UInt8.ofNat (48 + n)] := dec_small h
theorem D_vals : valuesOf secS (numsOf docD) = [[49], [49, 46, 49], [49, 46, 50], [50], [50, 46, 49, 46, 49]] := by
  simp [docD, numsOf, headB, numbB, numb1, headStep, kindStep, kindN, cs0, clampL, notesOf, noteNames, noteName, listB, listb, inls, deep, deep1, lineOf, notesIn, noteNums, valuesOf, valF, ctrF, List.range_succ, dots, Lib.join, dec_lit, List.intercalate, textT, noteStep]
theorem N_notes : notesOf docN = [[98], [97]] := by
  simp [docN, paraB, noteB, refI, notesOf, noteNames, noteName, listB, listb, inls, deep, deep1, lineOf, notesIn, noteStep]
theorem F_nums : numsOf docF = [⟨[120], figS, [49], []⟩, ⟨[], secS, [49, 46, 49, 46, 49], [textT]⟩] := by
  simp [docF, figB, numsOf, headB, numbB, numb1, headStep, kindStep, kindN, cs0, clampL, notesOf, noteNames, noteName, listB, listb, inls, deep, deep1, lineOf, notesIn, noteNums, valuesOf, valF, ctrF, List.range_succ, dots, Lib.join, dec_lit, List.intercalate, textT, noteStep, kindS, capIf, capOf, firstPara, setF, attr0]

theorem szB_docs : szB docD = 10 ∧ szB docN = 6 ∧ szB docF = 3 := by
  refine ⟨?_, ?_, ?_⟩ <;> simp [docD, docN, docF, headB, paraB, noteB, figB, refI, textT, szB, szb, szI, sz1]
theorem smB_docs : smB docD ∧ smB docN ∧ smB docF := by
  refine ⟨?_, ?_, ?_⟩ <;> simp [docD, docN, docF, headB, paraB, noteB, figB, refI, textT, smB, smB1, smI, smI1, NodeSm, longN, attr0]
theorem paraB_C {u : View} {l : List Inl} {vl : Value} (hl : l.length ≤ 1000) (h : InlS u vl l) : BlkC u (paraB l) (blkV 1 0 [] [] [] [] [] nilV nilV vl nilV) :=
  BlkC.mk' (nilStr _) (nilPr _) h (nilBlk _) ⟨intOk_of (by decide), intOk_of (by decide), by decide, by decide, by decide, by decide, attrOk0, by omega, by decide⟩
theorem noteB_C {u : View} {s : Bs} (hl : s.length ≤ 1000) : BlkC u (noteB s) (blkV 14 0 s [] [] [] [] nilV nilV nilV nilV) :=
  BlkC.mk' (nilStr _) (nilPr _) (nilInl _) (nilBlk _) ⟨intOk_of (by decide), intOk_of (by decide), by omega, by decide, by decide, by decide, attrOk0, by decide, by decide⟩
theorem figB_C {u : View} : BlkC u figB (blkV 13 0 figS [] [] [] [120] nilV nilV nilV nilV) :=
  BlkC.mk' (a := ⟨[120], [], []⟩) (nilStr _) (nilPr _) (nilInl _) (nilBlk _) ⟨intOk_of (by decide), intOk_of (by decide), by decide, by decide, by decide, by decide, ⟨by decide, ⟨by decide, by simp⟩, ⟨by decide, by simp⟩⟩, by decide, by decide⟩
theorem BlksC.cons' {u : View} {x : Blk} {xs : List Blk} {c r : List Value} (h : BlkC u x c) (k : BlksC u xs r) : BlksC u (x :: xs) (c ++ r) := by
  unfold BlksC; exact ⟨c, r, rfl, h, k⟩
theorem InlsC.cons' {u : View} {x : Inl} {xs : List Inl} {c r : List Value} (h : InlC u x c) (k : InlsC u xs r) : InlsC u (x :: xs) (c ++ r) := by
  unfold InlsC; exact ⟨c, r, rfl, h, k⟩

theorem numF_fn (v : Value) (u : View) (hT : TabU u) (h : BlkS u v docF) : FnP Tryd.prog 12 [.agg #[nilV, v]] u fun r u' => NumS u' r [⟨[120], figS, [49], []⟩, ⟨[], secS, [49, 46, 49, 46, 49], [textT]⟩] := by
  have := numbers_fn nilV v docF u hT (by rw [szB_docs.2.2]; decide) smB_docs.2.2 h
  rwa [F_nums] at this
theorem find0 : findN [] [⟨[120], figS, [49], []⟩, ⟨[], secS, [49, 46, 49, 46, 49], [textT]⟩] = none := by simp [findN]
theorem find1 : findN [120] [⟨[120], figS, [49], []⟩, ⟨[], secS, [49, 46, 49, 46, 49], [textT]⟩] = some ⟨[120], figS, [49], []⟩ := by simp [findN]
theorem numsF_sm : ∀ x ∈ ([⟨[120], figS, [49], []⟩, ⟨[], secS, [49, 46, 49, 46, 49], [textT]⟩] : List DNum), szI x.line ≤ 100000 ∧ smI x.line := by
  simp [szI, sz1, smI, smI1, textT, NodeSm, longN, attr0]
theorem findF0_fn (v : Value) (u : View) (h : NumS u v [⟨[120], figS, [49], []⟩, ⟨[], secS, [49, 46, 49, 46, 49], [textT]⟩]) : FnP Tryd.prog 19 [v, str []] u fun r _ => ∃ ad cap n, r = .tuple #[.agg #[str [], str [], str [], .slice ad n cap], .bool false] := by
  refine FnP.mono (countFind_fn v _ [] (by decide) numsF_sm u h) ?_
  rintro r u' hle ⟨cs, rfl, hc⟩
  rw [find0] at hc ⊢
  obtain ⟨vl, rfl, lcs, ⟨lad, lcap, rfl, _⟩, _⟩ := hc
  exact ⟨_, _, _, rfl⟩
theorem findF1_fn (v : Value) (u : View) (h : NumS u v [⟨[120], figS, [49], []⟩, ⟨[], secS, [49, 46, 49, 46, 49], [textT]⟩]) : FnP Tryd.prog 19 [v, str [120]] u fun r _ => ∃ ad cap n, r = .tuple #[.agg #[str [120], str figS, str [49], .slice ad n cap], .bool true] := by
  refine FnP.mono (countFind_fn v _ [120] (by decide) numsF_sm u h) ?_
  rintro r u' hle ⟨cs, rfl, hc⟩
  rw [find1] at hc ⊢
  obtain ⟨vl, rfl, lcs, ⟨lad, lcap, rfl, _⟩, _⟩ := hc
  exact ⟨_, _, _, rfl⟩
theorem secD_fn (v : Value) (u : View) (h : NumS u v (numsOf docD)) : FnP Tryd.prog 17 [v, str secS] u fun r u' => StrS u' r [[49], [49, 46, 49], [49, 46, 50], [50], [50, 46, 49, 46, 49]] := by
  have := values_fn v (numsOf docD) secS (by simp [docD, numsOf, headB, numbB, numb1, headStep, kindStep, kindN, cs0, notesOf, noteNames, noteName, listB, listb, inls, deep, deep1, lineOf, notesIn, noteNums, textT, noteStep]) u h
  rwa [D_vals] at this
theorem notesN_fn (v : Value) (u : View) (h : BlkS u v docN) : FnP Tryd.prog 15 [.agg #[nilV, v]] u fun r u' => StrS u' r [[98], [97]] := by
  have := notes_fn nilV v docN u (by rw [szB_docs.2.1]; decide) smB_docs.2.1 h
  rwa [N_notes] at this

set_option maxHeartbeats 4000000 in
theorem awake_fn (u : View) (hT : TabU u) : FnP Tryd.prog 10 [] u fun r _ => r = .bool true := by
  refine FnP.intro [.tmp 0] Tryd.func10 rfl rfl rfl ?_
  intro w0 D hw0
  refine wc_seq ?_
  refine wc_region ?_
  refine rl_y (y_assign rfl rfl) rfl ?_
  refine rl_end (ρ' := []) trivial ?_
  refine q_then ?_
  refine wc_seq ?_
  refine wc_region ?_
  refine rl_do rfl rfl ?_
  refine do_call (caps := []) trivial rfl rfl Tryd.c23 rfl (FnP.mono (head2_fn 1 (intOk_of (by decide)) u) ?_)
  rintro v uA hle0 ⟨adA, cpA, rfl, hA⟩ hleA
  refine rl_do rfl rfl ?_
  refine do_call (caps := []) trivial rfl rfl Tryd.c23 rfl (FnP.mono (head2_fn 2 (intOk_of (by decide)) uA) ?_)
  rintro v uB hle0 ⟨adB, cpB, rfl, hB⟩ hleB
  refine rl_do rfl rfl ?_
  refine do_call (caps := []) trivial rfl rfl Tryd.c23 rfl (FnP.mono (head2_fn 2 (intOk_of (by decide)) uB) ?_)
  rintro v uC hle0 ⟨adC, cpC, rfl, hC⟩ hleC
  refine rl_do rfl rfl ?_
  refine do_call (caps := []) trivial rfl rfl Tryd.c23 rfl (FnP.mono (head2_fn 1 (intOk_of (by decide)) uC) ?_)
  rintro v uD hle0 ⟨adD, cpD, rfl, hD⟩ hleD
  refine rl_do rfl rfl ?_
  refine do_call (caps := []) trivial rfl rfl Tryd.c23 rfl (FnP.mono (head2_fn 3 (intOk_of (by decide)) uD) ?_)
  rintro v uE hle0 ⟨adE, cpE, rfl, hE⟩ hleE
  refine rl_do rfl rfl ?_
  refine do_buildSlice trivial Tryd.s23 Tryd.z42 (ps := [(_, _), (_, _), (_, _), (_, _), (_, _)]) rfl (xs := [_, _, _, _, _, _, _, _, _, _, _, _, _, _, _, _, _, _, _, _, _, _, _, _, _, _, _, _, _, _, _, _, _, _, _, _, _, _, _, _, _, _, _, _, _, _, _, _, _, _, _, _, _, _, _]) rfl rfl rfl rfl rfl rfl rfl ?_
  refine rl_freeze 14 rfl ?_
  intro ad14 cap14 u14 hle14z hsl14
  have hDoc : BlkS u14 (.slice ad14 5 cap14) docD := by
    refine ⟨_, ⟨_, _, rfl, hsl14⟩, ?_⟩
    exact BlksC.cons' (((((hA.mono hleB).mono hleC).mono hleD).mono hleE).mono hle14z) (BlksC.cons' ((((hB.mono hleC).mono hleD).mono hleE).mono hle14z) (BlksC.cons' (((hC.mono hleD).mono hleE).mono hle14z) (BlksC.cons' ((hD.mono hleE).mono hle14z) (BlksC.cons' (hE.mono hle14z) BlksC.nil))))
  have hT := (((((hT.mono hleA).mono hleB).mono hleC).mono hleD).mono hleE).mono hle14z
  refine rl_y (y_build rfl Tryd.f25' Tryd.z25 (ps := [(_, _)]) rfl (vs := [_, _]) rfl) rfl ?_
  refine rl_do rfl rfl ?_
  refine do_alloc trivial Tryd.z25 rfl rfl rfl ?_
  refine rl_do rfl rfl ?_
  refine do_store_p trivial rfl Tryd.k25 rfl rfl rfl (vs := [_, _]) rfl rfl (by first | rfl | exact oneAll | exact oneAll2 | simp [Value.oneCell', str]) (Nat.le_of_ble_eq_true rfl) rfl ?_
  refine rl_end (ρ' := [(1, _)]) ⟨rfl, trivial⟩ ?_
  refine q_then ?_
  refine wc_seq ?_
  refine wc_region ?_
  refine rl_do rfl rfl ?_
  refine do_call_f (caps := []) trivial rfl rfl Tryd.c25 rfl (FnP.mono (ref2_fn [98] (by decide) _) ?_)
  rintro v u1 hle1 rfl
  refine rl_do rfl rfl ?_
  refine do_call_f (caps := []) trivial rfl rfl Tryd.c25 rfl (FnP.mono (ref2_fn [97] (by decide) _) ?_)
  rintro v u1 hle1 rfl
  refine rl_do rfl rfl ?_
  refine do_call_f (caps := []) trivial rfl rfl Tryd.c25 rfl (FnP.mono (ref2_fn [98] (by decide) _) ?_)
  rintro v u1 hle1 rfl
  refine rl_do rfl rfl ?_
  refine do_buildSlice trivial Tryd.s36 Tryd.z57 (ps := [(_, _), (_, _), (_, _)]) rfl (xs := [_, _, _, _, _, _, _, _, _, _, _, _, _, _, _, _, _, _, _, _, _, _, _, _, _, _, _, _, _, _]) rfl rfl rfl rfl rfl rfl rfl ?_
  refine rl_freeze 19 rfl ?_
  intro ad19 cap19 u19 hle19z hsl19
  have hRefs : InlS u19 (.slice ad19 3 cap19) [refI [98], refI [97], refI [98]] := by
    refine ⟨_, ⟨_, _, rfl, hsl19⟩, ?_⟩
    exact InlsC.cons' (refI_C _ (by decide) _) (InlsC.cons' (refI_C _ (by decide) _) (InlsC.cons' (refI_C _ (by decide) _) InlsC.nil))
  refine rl_y (y_build rfl Tryd.f42' Tryd.z42 (ps := [(_, _), (_, _)]) rfl (vs := [_, _, _, _, _, _, _, _, _, _, _]) rfl) rfl ?_
  refine rl_y (y_build rfl Tryd.f42' Tryd.z42 (ps := [(_, _), (_, _)]) rfl (vs := [_, _, _, _, _, _, _, _, _, _, _]) rfl) rfl ?_
  refine rl_y (y_build rfl Tryd.f42' Tryd.z42 (ps := [(_, _), (_, _)]) rfl (vs := [_, _, _, _, _, _, _, _, _, _, _]) rfl) rfl ?_
  refine rl_do rfl rfl ?_
  refine do_buildSlice trivial Tryd.s23 Tryd.z42 (ps := [(_, _), (_, _), (_, _)]) rfl (xs := [_, _, _, _, _, _, _, _, _, _, _, _, _, _, _, _, _, _, _, _, _, _, _, _, _, _, _, _, _, _, _, _, _]) rfl rfl rfl rfl rfl rfl rfl ?_
  refine rl_freeze 23 rfl ?_
  intro ad23 cap23 u23 hle23z hsl23
  have hDocN : BlkS u23 (.slice ad23 3 cap23) docN := by
    refine ⟨_, ⟨_, _, rfl, hsl23⟩, ?_⟩
    exact BlksC.cons' (paraB_C (by decide) (hRefs.mono hle23z)) (BlksC.cons' (noteB_C (by decide)) (BlksC.cons' (noteB_C (by decide)) BlksC.nil))
  have hDoc := (hDoc.mono hle19z).mono hle23z
  have hT := (hT.mono hle19z).mono hle23z
  refine rl_y (y_build rfl Tryd.f25' Tryd.z25 (ps := [(_, _)]) rfl (vs := [_, _]) rfl) rfl ?_
  refine rl_do rfl rfl ?_
  refine do_alloc trivial Tryd.z25 rfl rfl rfl ?_
  refine rl_do rfl rfl ?_
  refine do_store_p trivial rfl Tryd.k25 rfl rfl rfl (vs := [_, _]) rfl rfl (by first | rfl | exact oneAll | exact oneAll2 | simp [Value.oneCell', str]) (Nat.le_of_ble_eq_true rfl) rfl ?_
  refine rl_end (ρ' := [(1, _), (2, _)]) ⟨rfl, rfl, trivial⟩ ?_
  refine q_then ?_
  refine wc_seq ?_
  refine wc_region ?_
  refine rl_y (y_build rfl Tryd.f40' Tryd.z40 (ps := [(_, _)]) rfl (vs := [_, _, _]) rfl) rfl ?_
  refine rl_y (y_build rfl Tryd.f42' Tryd.z42 (ps := [(_, _), (_, _), (_, _)]) rfl (vs := [_, _, _, _, _, _, _, _, _, _, _]) rfl) rfl ?_
  refine rl_do rfl rfl ?_
  refine do_call (caps := []) trivial rfl rfl Tryd.c23 rfl (FnP.mono (head2_fn 3 (intOk_of (by decide)) u23) ?_)
  rintro v uG hle0 ⟨adG, cpG, rfl, hG⟩ hleG
  refine rl_do rfl rfl ?_
  refine do_buildSlice trivial Tryd.s23 Tryd.z42 (ps := [(_, _), (_, _)]) rfl (xs := [_, _, _, _, _, _, _, _, _, _, _, _, _, _, _, _, _, _, _, _, _, _]) rfl rfl rfl rfl rfl rfl rfl ?_
  refine rl_freeze 28 rfl ?_
  intro ad28 cap28 u28 hle28z hsl28
  have hDocF : BlkS u28 (.slice ad28 2 cap28) docF := by
    refine ⟨_, ⟨_, _, rfl, hsl28⟩, ?_⟩
    exact BlksC.cons' figB_C (BlksC.cons' (hG.mono hle28z) BlksC.nil)
  have hDoc := (hDoc.mono hleG).mono hle28z
  have hDocN := (hDocN.mono hleG).mono hle28z
  have hT := (hT.mono hleG).mono hle28z
  refine rl_y (y_build rfl Tryd.f25' Tryd.z25 (ps := [(_, _)]) rfl (vs := [_, _]) rfl) rfl ?_
  refine rl_do rfl rfl ?_
  refine do_alloc trivial Tryd.z25 rfl rfl rfl ?_
  refine rl_do rfl rfl ?_
  refine do_store_p trivial rfl Tryd.k25 rfl rfl rfl (vs := [_, _]) rfl rfl (by first | rfl | exact oneAll | exact oneAll2 | simp [Value.oneCell', str]) (Nat.le_of_ble_eq_true rfl) rfl ?_
  refine rl_end (ρ' := [(1, _), (2, _), (3, _)]) ⟨rfl, rfl, rfl, trivial⟩ ?_
  refine q_then ?_
  refine wc_seq ?_
  refine wc_region ?_
  refine rl_y (y_load_p rfl Tryd.k25 rfl rfl rfl (vs := [_, _]) rfl rfl rfl) rfl ?_
  refine rl_do rfl rfl ?_
  refine do_call (caps := []) trivial rfl rfl Tryd.c12 rfl (FnP.mono (numF_fn _ u28 hT hDocF) ?_)
  rintro v uH hle0 ⟨fcs, ⟨fad, fcap, rfl, hf1⟩, hf2⟩ hleH
  have hF : NumS uH (.slice fad 2 fcap) _ := ⟨fcs, ⟨fad, fcap, rfl, hf1⟩, hf2⟩
  have hDoc := hDoc.mono hleH
  have hDocN := hDocN.mono hleH
  have hT := hT.mono hleH
  refine rl_y (y_assign rfl rfl) rfl ?_
  refine rl_end (ρ' := [(1, _), (2, _), (4, _)]) ⟨rfl, rfl, rfl, trivial⟩ ?_
  refine q_then ?_
  refine wc_seq ?_
  refine wc_region ?_
  refine rl_y (y_move rfl rfl) rfl ?_
  refine rl_do rfl rfl ?_
  refine do_call_f (caps := []) trivial rfl rfl Tryd.c19 rfl (FnP.mono (findF0_fn _ uH hF) ?_)
  rintro v u1 hle1 ⟨ad5, cap5, n5, rfl⟩
  refine rl_y (y_move rfl rfl) rfl ?_
  refine rl_y (y_extract rfl rfl rfl) rfl ?_
  refine rl_y (y_extract rfl rfl rfl) rfl ?_
  refine rl_do rfl rfl ?_
  refine do_alloc trivial Tryd.z38 rfl rfl rfl ?_
  refine rl_do rfl rfl ?_
  refine do_store_p trivial rfl Tryd.k38 rfl rfl rfl (vs := [_, _, _, _]) rfl rfl (by first | rfl | exact oneAll | exact oneAll2 | simp [Value.oneCell', str]) (Nat.le_of_ble_eq_true rfl) rfl ?_
  refine rl_y (y_assign rfl rfl) rfl ?_
  refine rl_end (ρ' := [(1, _), (2, _), (4, _), (6, _)]) ⟨rfl, rfl, rfl, rfl, trivial⟩ ?_
  refine q_then ?_
  refine wc_seq ?_
  refine wc_region ?_
  refine rl_y (y_move rfl rfl) rfl ?_
  refine rl_do rfl rfl ?_
  refine do_call_f (caps := []) trivial rfl rfl Tryd.c19 rfl (FnP.mono (findF1_fn _ uH hF) ?_)
  rintro v u1 hle1 ⟨ad6, cap6, n6, rfl⟩
  refine rl_y (y_move rfl rfl) rfl ?_
  refine rl_y (y_extract rfl rfl rfl) rfl ?_
  refine rl_y (y_extract rfl rfl rfl) rfl ?_
  refine rl_do rfl rfl ?_
  refine do_alloc trivial Tryd.z38 rfl rfl rfl ?_
  refine rl_do rfl rfl ?_
  refine do_store_p trivial rfl Tryd.k38 rfl rfl rfl (vs := [_, _, _, _]) rfl rfl (by first | rfl | exact oneAll | exact oneAll2 | simp [Value.oneCell', str]) (Nat.le_of_ble_eq_true rfl) rfl ?_
  refine rl_y (y_assign rfl rfl) rfl ?_
  refine rl_end (ρ' := [(1, _), (2, _), (4, _), (6, _), (7, _), (8, _)]) ⟨rfl, rfl, rfl, rfl, rfl, rfl, trivial⟩ ?_
  refine q_then ?_
  refine wc_seq ?_
  refine wc_region ?_
  refine rl_y (y_load_p rfl Tryd.k25 rfl rfl rfl (vs := [_, _]) rfl rfl rfl) rfl ?_
  refine rl_do rfl rfl ?_
  refine do_call (caps := []) trivial rfl rfl Tryd.c12 rfl (FnP.mono (numbers_fn nilV _ docD uH hT (by rw [szB_docs.1]; decide) smB_docs.1 hDoc) ?_)
  rintro v uI hle0 hI hleI
  refine rl_do rfl rfl ?_
  refine do_call (caps := []) trivial rfl rfl Tryd.c17 rfl (FnP.mono (secD_fn _ uI hI) ?_)
  rintro v uJ hle0 hJ hleJ
  refine rl_do rfl rfl ?_
  refine do_buildSlice trivial Tryd.s32 Tryd.z9 (ps := [(_, _), (_, _), (_, _), (_, _), (_, _)]) rfl (xs := [_, _, _, _, _]) rfl rfl rfl rfl rfl rfl rfl ?_
  refine rl_freeze 45 rfl ?_
  intro ad45 cap45 u45 hle45z hsl45
  refine rl_do rfl rfl ?_
  refine do_call_f (caps := []) trivial rfl rfl Tryd.c14 rfl (FnP.mono (lawtexts_same _ _ _ (by decide) u45 (hJ.mono hle45z) ⟨_, _, rfl, hsl45⟩) ?_)
  rintro v u1 hle1 rfl
  refine rl_y (y_move rfl rfl) rfl ?_
  refine rl_on rfl rfl ?_
  refine rl_y (y_load_p rfl Tryd.k25 rfl rfl rfl (vs := [_, _]) rfl rfl rfl) rfl ?_
  refine rl_on rfl rfl ?_
  refine rl_do rfl rfl ?_
  refine do_call (caps := []) trivial rfl rfl Tryd.c15 rfl (FnP.mono (notesN_fn _ u45 (((hDocN.mono hleI).mono hleJ).mono hle45z)) ?_)
  rintro v uK hle0 hK hleK
  refine rl_on rfl rfl ?_
  refine rl_do rfl rfl ?_
  refine do_buildSlice trivial Tryd.s32 Tryd.z9 (ps := [(_, _), (_, _)]) rfl (xs := [_, _]) rfl rfl rfl rfl rfl rfl rfl ?_
  refine rl_freeze 50 rfl ?_
  intro ad50 cap50 u50 hle50z hsl50
  refine rl_on rfl rfl ?_
  refine rl_do rfl rfl ?_
  refine do_call_f (caps := []) trivial rfl rfl Tryd.c14 rfl (FnP.mono (lawtexts_same _ _ _ (by decide) u50 (hK.mono hle50z) ⟨_, _, rfl, hsl50⟩) ?_)
  rintro v u1 hle1 rfl
  refine rl_y (y_pick_t rfl rfl rfl) rfl ?_
  refine rl_y (y_move rfl rfl) rfl ?_
  refine rl_on rfl rfl ?_
  refine rl_y (y_move rfl rfl) rfl ?_
  refine rl_on rfl rfl ?_
  refine rl_y (y_len_v rfl rfl Tryd.s29 rfl) rfl ?_
  refine rl_on rfl rfl ?_
  refine rl_y (y_eql rfl rfl rfl) rfl ?_
  refine rl_y (y_pick_t rfl rfl rfl) rfl ?_
  refine rl_y (y_move rfl rfl) rfl ?_
  refine rl_on rfl rfl ?_
  refine rl_y (y_move rfl rfl) rfl ?_
  have hf1 := ((((hf1.mono hleI).mono hleJ).mono hle45z).mono hleK).mono hle50z
  obtain ⟨x1, vl1, hx1, hcut1, _⟩ := hf2.at (i := 1) (by decide)
  obtain rfl : _ = x1 := Option.some.inj hx1
  have hlen2 : ([⟨[120], figS, [49], []⟩, ⟨[], secS, [49, 46, 49, 46, 49], [textT]⟩] : List DNum).length = 2 := rfl
  refine rl_on rfl rfl ?_
  refine rl_y (y_index_e rfl Tryd.s29 rfl rfl hf1 (j := 1) rfl (by decide)) rfl ?_
  refine rl_on rfl rfl ?_
  refine rl_y (y_field_e rfl Tryd.f38' rfl (by decide) rfl) rfl ?_
  refine rl_on rfl rfl ?_
  refine rl_y (y_load_el rfl Tryd.k9 rfl (by assumption) (by omega) (by assumption) (vs := [_]) rfl rfl rfl rfl) rfl ?_
  refine rl_on rfl rfl ?_
  refine rl_y (y_str_eql rfl rfl rfl) rfl ?_
  refine rl_y (y_pick_t rfl rfl rfl) rfl ?_
  refine rl_y (y_move rfl rfl) rfl ?_
  refine rl_on rfl rfl ?_
  refine rl_y (y_move rfl rfl) rfl ?_
  refine rl_on rfl rfl ?_
  refine rl_y (y_not rfl rfl) rfl ?_
  refine rl_y (y_pick_t rfl rfl rfl) rfl ?_
  refine rl_y (y_move rfl rfl) rfl ?_
  refine rl_on rfl rfl ?_
  refine rl_y (y_move rfl rfl) rfl ?_
  refine rl_y (y_pick_t rfl rfl rfl) rfl ?_
  refine rl_y (y_move rfl rfl) rfl ?_
  refine rl_on rfl rfl ?_
  refine rl_y (y_field_p rfl Tryd.f38' rfl (by decide) rfl) rfl ?_
  refine rl_on rfl rfl ?_
  refine rl_y (y_load_p rfl Tryd.k9 rfl rfl rfl (vs := [_]) rfl rfl rfl) rfl ?_
  refine rl_on rfl rfl ?_
  refine rl_y (y_str_eql rfl rfl rfl) rfl ?_
  refine rl_y (y_pick_t rfl rfl rfl) rfl ?_
  refine rl_y (y_move rfl rfl) rfl ?_
  refine rl_on rfl rfl ?_
  refine rl_y (y_field_p rfl Tryd.f38' rfl (by decide) rfl) rfl ?_
  refine rl_on rfl rfl ?_
  refine rl_y (y_load_p rfl Tryd.k9 rfl rfl rfl (vs := [_]) rfl rfl rfl) rfl ?_
  refine rl_on rfl rfl ?_
  refine rl_y (y_str_eql rfl rfl rfl) rfl ?_
  refine rl_y (y_pick_t rfl rfl rfl) rfl ?_
  refine rl_y (y_assign rfl rfl) rfl ?_
  refine rl_end (ρ' := [(0, _)]) ⟨rfl, trivial⟩ ?_
  refine q_then ?_
  refine wc_ret ?_
  refine fin1 (.tmp rfl) ?_
  rfl
end Go.Proofs.Ythnboadnehbciaa
