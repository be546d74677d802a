/- Texts for a law, part 5: they walk the functions that the law reaches, and state what holds of them; without conditions beyond each theorem's own. -/
import Derived.Test.YtekkhlepbacapaaGreatDoorPartD
namespace Go.Proofs.Ytekkhlepbacapaa
open Go Go.Eng
set_option linter.unusedSimpArgs false
set_option linter.unusedVariables false
set_option maxRecDepth 4000
def xyL : List Bs := [[120], [121]]
def yzL : List Bs := [[121], [122]]
def abL : List Bs := [[97], [98]]
def baL : List Bs := [[98], [97]]
def parA (s : Bs) : Blk := .mk 1 0 [] [] [] [] attr0 [tI s] []
def stp1 : List Chg := [⟨2, 0, -1⟩, ⟨1, 1, 0⟩, ⟨3, -1, 1⟩]
def stp2 : List Chg := [⟨3, -1, 0⟩, ⟨1, 0, 1⟩, ⟨2, 1, -1⟩]
theorem T_xy : textSteps (sameS xyL yzL) 2 2 = stp1 := by
 simp [textSteps, mat, rows, pickY, firstY, best, lcs, sameS, xyL, yzL, stepsOf, goneL, newL, sameC, stp1]
theorem T_ab : textSteps (sameS abL baL) 2 2 = stp2 := by
 simp [textSteps, mat, rows, pickY, firstY, best, lcs, sameS, abL, baL, stepsOf, goneL, newL, sameC, stp2]
theorem par_ne : eB (parA [97]) ≠ eB (parA [98]) := fun h => by
 have := eB_inj h
 simp [parA, tI] at this
theorem T_par : blockSteps [parA [97]] [parA [98]] = [⟨4, 0, 0⟩] := by
 have h : sameS (keysL [parA [97]]) (keysL [parA [98]]) 0 0 = false := by
  unfold sameS keysL
  rw [decide_eq_false_iff_not]
  intro e
  exact par_ne (Option.some.inj e)
 have h1 : textSteps (sameS (keysL [parA [97]]) (keysL [parA [98]])) 1 1 = [⟨2, 0, -1⟩, ⟨3, -1, 0⟩] := by
  simp [textSteps, mat, rows, pickY, firstY, best, lcs, h, stepsOf, goneL, newL]
 unfold blockSteps
 rw [show ([parA [97]] : List Blk).length = 1 from rfl, show ([parA [98]] : List Blk).length = 1 from rfl, h1]
 simp [mrgL, mrg, kAt, kB, parA]
theorem W_ab : wordsL [tI [97, 32, 98]] = [[97], [32], [98]] := by
 simp [wordsL, wordI, tI, runs, lead, sp]
theorem P_xy : patchL xyL yzL stp1 = yzL := by
 simp [patchL, takeC, xyL, yzL, stp1]
theorem sm_par (s : Bs) (h : s.length ≤ 100) : smB1 (parA s) := by
 simp [parA, tI, attr0, smB1, smI, smI1, NodeSm, longN, smB]; omega
theorem parA_C {u : View} {s : Bs} {vl : Value} (h : InlS u vl [tI s]) : BlkC u (parA s) [.int .i64 1, .int .i64 0, str [], str [], str [], str [], str [], nilV, nilV, vl, nilV] :=
 BlkC.mk' (a := attr0) (nilStr _) (nilPr _) h (nilBlk _) ⟨intOk_of (by decide), intOk_of (by decide), by decide, by decide, by decide, by decide, attrOk0, by simp, by decide⟩
theorem para_fn (s : Bs) (hs : s.length ≤ 1000) (u : View) : FnP Tryz.prog 14 [str s] u fun r u' => ∃ ad cap, r = .agg #[nilV, .slice ad 1 cap] ∧ BlkS u' (.slice ad 1 cap) [parA s] := by
 refine FnP.intro [.cell 2 32] Tryz.func14 rfl rfl rfl ?_
 intro w0 D hw0
 refine Zd (Za (Zt rfl rfl ?_))
 refine Zaw trivial Tryz.z32 rfl rfl rfl ?_
 refine Zf (ρ' := [(0, _), (2, _)]) ⟨rfl, rfl, trivial⟩ ?_
 refine Zc (Zd (Za (ym rfl rfl (Zg (Zav rfl Tryz.f49' Tryz.z49 (ps := [(_, _), (_, _)]) rfl (vs := [_, _, _, _, _, _, _, _, _, _]) rfl) rfl ?_))))
 refine Zt rfl rfl ?_
 refine Zag trivial Tryz.s22 Tryz.z49 (ps := [(_, _)]) rfl (xs := [_, _, _, _, _, _, _, _, _, _]) rfl rfl rfl rfl rfl rfl rfl ?_
 refine Zba 5 rfl ?_
 intro ad5 cap5 u5 hle5z hsl5
 refine Zg (Zav rfl Tryz.f30' Tryz.z30 (ps := [(_, _), (_, _)]) rfl (vs := [_, _, _, _, _, _, _, _, _, _, _]) rfl) rfl ?_
 refine Zt rfl rfl ?_
 refine Zag trivial Tryz.s28 Tryz.z30 (ps := [(_, _)]) rfl (xs := [_, _, _, _, _, _, _, _, _, _, _]) rfl rfl rfl rfl rfl rfl rfl ?_
 refine Zba 7 rfl ?_
 intro ad7 cap7 u7 hle7z hsl7
 refine Zg (Zav rfl Tryz.f32' Tryz.z32 (ps := [(_, _)]) rfl (vs := [_, _]) rfl) rfl ?_
 refine Zt rfl rfl ?_
 refine Zai trivial rfl Tryz.k32 rfl rfl rfl (vs := [_, _]) rfl rfl (by first | rfl | assumption | simp [Value.oneCell', str]) (Nat.le_of_ble_eq_true rfl) rfl ?_
 refine Zf (ρ' := [(2, _)]) ⟨rfl, trivial⟩ ?_
 refine Zc (Zx ?_)
 refine Zau (.cell rfl rfl Tryz.k32 (cs := _) (vs := [_, _]) rfl rfl rfl) ?_
 refine ⟨_, _, rfl, _, ⟨_, _, rfl, hsl7⟩, BlksC.one (parA_C ⟨_, ⟨_, _, rfl, hsl5.mono hle7z⟩, InlsC.one ?_⟩)⟩
 exact tI_C s (by omega) _
theorem textsXY_fn (va vb : Value) (u : View) (ha : StrS u va xyL) (hb : StrS u vb yzL) : FnP Tryz.prog 12 [va, vb] u fun r u' => ∃ ad cap, r = .slice ad 3 cap ∧ SlC u' ad 3 cap 3 (chgsC stp1) := by
 refine FnP.mono (texts_fn xyL yzL 2 2 rfl rfl (by omega) (by omega) va vb u ha hb) ?_
 rintro r u' hle h
 rw [T_xy] at h
 exact h
theorem textsAB_fn (va vb : Value) (u : View) (ha : StrS u va abL) (hb : StrS u vb baL) : FnP Tryz.prog 12 [va, vb] u fun r u' => ∃ ad cap, r = .slice ad 3 cap ∧ SlC u' ad 3 cap 3 (chgsC stp2) := by
 refine FnP.mono (texts_fn abL baL 2 2 rfl rfl (by omega) (by omega) va vb u ha hb) ?_
 rintro r u' hle h
 rw [T_ab] at h
 exact h
theorem blocksP_fn (wa wb va vb : Value) (u : View) (hT : TabU u) (ha : BlkS u va [parA [97]]) (hb : BlkS u vb [parA [98]]) : FnP Tryz.prog 13 [.agg #[wa, va], .agg #[wb, vb]] u fun r u' => ∃ ad cap, r = .slice ad 1 cap ∧ SlC u' ad 1 cap 3 (chgsC [⟨4, 0, 0⟩]) := by
 have hlen : ∀ (s : Bs) (v : Value), s.length ≤ 100 → BlkS u v [parA s] → ∀ x ∈ ([parA s] : List Blk), (eB x).length ≤ 10000000000 := by
  rintro s v hs ⟨cs, -, hc⟩ x hx
  have h1 := eBs_le _ _ hc (by unfold smB; exact ⟨sm_par s hs, by unfold smB; trivial⟩)
  rw [List.mem_singleton] at hx
  subst hx
  have h2 : szB [parA s] = 2 := by simp [szB, szb, parA, szI, sz1, tI]
  rw [h2] at h1
  simp only [eBs, List.append_nil] at h1
  omega
 refine FnP.mono (blocks_fn [parA [97]] [parA [98]] 1 1 rfl rfl (by omega) (by omega) (hlen _ _ (by decide) ha) (hlen _ _ (by decide) hb) wa wb va vb u hT ha hb) ?_
 rintro r u' hle h
 rw [T_par] at h
 exact h
theorem wordsAB_fn (v : Value) (u : View) (hT : TabU u) (ha : InlS u v [tI [97, 32, 98]]) : FnP Tryz.prog 8 [v] u fun r u' => StrS u' r [[97], [32], [98]] := by
 have hsm : smI [tI [97, 32, 98]] := by simp [smI, smI1, tI, NodeSm, longN]
 have hx : ∀ x ∈ ([tI [97, 32, 98]] : List Inl), (eI x).length ≤ 10000000000 := by
  obtain ⟨cs, -, hc⟩ := ha
  have h1 := eIs_le _ _ hc hsm
  intro x hx
  rw [List.mem_singleton] at hx
  subst hx
  have h2 : szI [tI [97, 32, 98]] = 1 := by simp [szI, sz1, tI]
  rw [h2] at h1
  simp only [eIs, List.append_nil] at h1
  omega
 refine FnP.mono (words_fn [tI [97, 32, 98]] (by decide) hsm hx v u hT ha) ?_
 rintro r u' hle h
 rw [W_ab] at h
 exact h
theorem lawTexts_same (a : List Bs) (ha : a.length ≤ 1000) (va vb : Value) (u : View) (h1 : StrS u va a) (h2 : StrS u vb a) : FnP Tryz.prog 7 [va, vb] u fun r _ => r = .bool true := by
 refine FnP.mono (lawTexts_fn a a (by omega) (by omega) va vb u h1 h2) ?_
 rintro r u' hle rfl
 rw [decide_eq_true rfl]
theorem len4_fn (v : Value) (u : View) (h : ChS u v [⟨4, 0, 0⟩]) : FnP Tryz.prog 15 [v] u fun r _ => r = .int .i64 2 := by
 refine FnP.mono (length_fn [⟨4, 0, 0⟩] (by decide) v u h) ?_
 rintro r u' hle rfl
 rfl
theorem patchXY_fn (va vb v : Value) (u : View) (ha : StrS u va xyL) (hb : StrS u vb yzL) (hv : ChS u v stp1) : FnP Tryz.prog 16 [va, vb, v] u fun r u' => StrS u' r yzL := by
 refine FnP.mono (patch_fn xyL yzL stp1 (by decide) va vb v u ha hb hv) ?_
 rintro r u' hle h
 rw [P_xy] at h
 exact h
set_option maxHeartbeats 8000000 in
theorem awake_fn (u : View) (hT : TabU u) : FnP Tryz.prog 6 [] u fun r _ => r = .bool true := by
 refine FnP.intro [.tmp 0] Tryz.func6 rfl rfl rfl ?_
 intro w0 D hw0
 refine Zd (Za (ya rfl rfl (Zf (ρ' := []) trivial ?_)))
 refine Zc (Zd (Za (Zt rfl rfl ?_)))
 refine Zag trivial Tryz.s24 Tryz.z9 (ps := [(_, _), (_, _)]) rfl (xs := [_, _]) rfl rfl rfl rfl rfl rfl rfl ?_
 refine Zba 7 rfl ?_
 intro ad7 cap7 u7 hle7z hsl7
 refine Zt rfl rfl ?_
 refine Zag trivial Tryz.s24 Tryz.z9 (ps := [(_, _), (_, _)]) rfl (xs := [_, _]) rfl rfl rfl rfl rfl rfl rfl ?_
 refine Zba 8 rfl ?_
 intro ad8 cap8 u8 hle8z hsl8
 refine Zt rfl rfl ?_
 refine Zbl (caps := []) trivial rfl rfl Tryz.c12 rfl (FnP.mono (textsXY_fn _ _ u8 ⟨_, _, rfl, hsl7.mono hle8z⟩ ⟨_, _, rfl, hsl8⟩) ?_)
 rintro v uA hle0 ⟨aL, cL, rfl, hL⟩ hleA
 refine ya rfl rfl (Zf (ρ' := [(1, _)]) ⟨rfl, trivial⟩ ?_)
 refine Zc (Zd (Za (Zt rfl rfl ?_)))
 refine Zag trivial Tryz.s24 Tryz.z9 (ps := [(_, _), (_, _)]) rfl (xs := [_, _]) rfl rfl rfl rfl rfl rfl rfl ?_
 refine Zba 10 rfl ?_
 intro ad10 cap10 u10 hle10z hsl10
 refine Zt rfl rfl ?_
 refine Zag trivial Tryz.s24 Tryz.z9 (ps := [(_, _), (_, _)]) rfl (xs := [_, _]) rfl rfl rfl rfl rfl rfl rfl ?_
 refine Zba 11 rfl ?_
 intro ad11 cap11 u11 hle11z hsl11
 refine Zt rfl rfl ?_
 refine Zbl (caps := []) trivial rfl rfl Tryz.c12 rfl (FnP.mono (textsAB_fn _ _ u11 ⟨_, _, rfl, hsl10.mono hle11z⟩ ⟨_, _, rfl, hsl11⟩) ?_)
 rintro v uB hle0 ⟨aM, cM, rfl, hM⟩ hleB
 refine ya rfl rfl (Zf (ρ' := [(1, _), (2, _)]) ⟨rfl, rfl, trivial⟩ ?_)
 refine Zc (Zd (Za (Zt rfl rfl ?_)))
 refine Zbl (caps := []) trivial rfl rfl Tryz.c14 rfl (FnP.mono (para_fn [97] (by decide) uB) ?_)
 rintro v uC hle0 ⟨aP, cP, rfl, hP⟩ hleC
 refine Zt rfl rfl ?_
 refine Zbl (caps := []) trivial rfl rfl Tryz.c14 rfl (FnP.mono (para_fn [98] (by decide) uC) ?_)
 rintro v uD hle0 ⟨aQ, cQ, rfl, hQ⟩ hleD
 refine Zt rfl rfl ?_
 refine Zbl (caps := []) trivial rfl rfl Tryz.c13 rfl (FnP.mono (blocksP_fn _ _ _ _ uD (hT.mono (hle7z.trans (hle8z.trans (hleA.trans (hle10z.trans (hle11z.trans (hleB.trans (hleC.trans hleD)))))))) (hP.mono hleD) hQ) ?_)
 rintro v uE hle0 ⟨aB, cB, rfl, hB⟩ hleE
 refine ya rfl rfl (Zf (ρ' := [(1, _), (2, _), (3, _)]) ⟨rfl, rfl, rfl, trivial⟩ ?_)
 refine Zc (Zd (Za (Zg (Zav rfl Tryz.f49' Tryz.z49 (ps := [(_, _), (_, _)]) rfl (vs := [_, _, _, _, _, _, _, _, _, _]) rfl) rfl ?_)))
 refine Zt rfl rfl ?_
 refine Zag trivial Tryz.s22 Tryz.z49 (ps := [(_, _)]) rfl (xs := [_, _, _, _, _, _, _, _, _, _]) rfl rfl rfl rfl rfl rfl rfl ?_
 refine Zba 17 rfl ?_
 intro ad17 cap17 u17 hle17z hsl17
 refine Zt rfl rfl ?_
 refine Zbl (caps := []) trivial rfl rfl Tryz.c8 rfl (FnP.mono (wordsAB_fn _ u17 (hT.mono (hle7z.trans (hle8z.trans (hleA.trans (hle10z.trans (hle11z.trans (hleB.trans (hleC.trans (hleD.trans (hleE.trans hle17z)))))))))) ⟨_, ⟨_, _, rfl, hsl17⟩, InlsC.one (tI_C _ (by decide) _)⟩) ?_)
 rintro v uF hle0 ⟨aW, cW, rfl, hW⟩ hleF
 refine ya rfl rfl ?_
 have hL := hL.mono (hle10z.trans (hle11z.trans (hleB.trans (hleC.trans (hleD.trans (hleE.trans (hle17z.trans hleF)))))))
 have hM := hM.mono (hleC.trans (hleD.trans (hleE.trans (hle17z.trans hleF))))
 have hB := hB.mono (hle17z.trans hleF)
 refine Zf (ρ' := [(1, _), (2, _), (3, _), (4, _)]) ⟨rfl, rfl, rfl, rfl, trivial⟩ ?_
 refine Zc (Zd (Zd (Za (ym rfl rfl (Zg (Zah rfl rfl Tryz.s43 rfl) rfl (Zg (y_neq rfl rfl rfl) rfl (ym rfl rfl ?_)))))))
 refine Zj rfl rfl (ym rfl rfl (Zj rfl rfl (Zg (Zah rfl rfl Tryz.s43 rfl) rfl (Zj rfl rfl (Zg (y_neq rfl rfl rfl) rfl (Zg (Zo rfl rfl rfl) rfl (ym rfl rfl ?_)))))))
 refine Zj rfl rfl (ym rfl rfl (Zj rfl rfl (Zg (Zah rfl rfl Tryz.s43 rfl) rfl (Zj rfl rfl (Zg (y_neq rfl rfl rfl) rfl (Zg (Zo rfl rfl rfl) rfl (Zf (ρ' := [(1, _), (2, _), (3, _), (4, _), (31, _)]) ⟨rfl, rfl, rfl, rfl, rfl, trivial⟩ ?_)))))))
 refine Zc (Zbw rfl (rfl) (Zs (Zc (Zd (Za (ym rfl rfl (Zg (Zad rfl Tryz.s43 rfl rfl hL (j := 0) rfl (by decide)) rfl (Zg (Zac rfl Tryz.k51 rfl hL (by decide) (c := [.int .i64 2, .int .i64 0, .int .i64 (-1)]) rfl (vs := [_, _, _]) rfl rfl rfl rfl) rfl ?_))))))))
 refine Zg (Zav rfl Tryz.f51' Tryz.z51 (ps := [(_, _), (_, _), (_, _)]) rfl (vs := [_, _, _]) rfl) rfl ?_
 refine Zg (y_eql_flat Tryz.q51 rfl rfl rfl rfl rfl) rfl (ym rfl rfl (Zj rfl rfl (ym rfl rfl (Zj rfl rfl (Zg (Zad rfl Tryz.s43 rfl rfl hL (j := 1) rfl (by decide)) rfl (Zj rfl rfl (Zg (Zac rfl Tryz.k51 rfl hL (by decide) (c := [.int .i64 1, .int .i64 1, .int .i64 0]) rfl (vs := [_, _, _]) rfl rfl rfl rfl) rfl ?_)))))))
 refine Zj rfl rfl (Zg (Zav rfl Tryz.f51' Tryz.z51 (ps := [(_, _), (_, _), (_, _)]) rfl (vs := [_, _, _]) rfl) rfl ?_)
 refine Zj rfl rfl (Zg (y_eql_flat Tryz.q51 rfl rfl rfl rfl rfl) rfl (Zg (Zk rfl rfl rfl) rfl (ym rfl rfl (Zj rfl rfl (ym rfl rfl (Zj rfl rfl (Zg (Zad rfl Tryz.s43 rfl rfl hL (j := 2) rfl (by decide)) rfl ?_)))))))
 refine Zj rfl rfl (Zg (Zac rfl Tryz.k51 rfl hL (by decide) (c := [.int .i64 3, .int .i64 (-1), .int .i64 1]) rfl (vs := [_, _, _]) rfl rfl rfl rfl) rfl ?_)
 refine Zj rfl rfl (Zg (Zav rfl Tryz.f51' Tryz.z51 (ps := [(_, _), (_, _), (_, _)]) rfl (vs := [_, _, _]) rfl) rfl ?_)
 refine Zj rfl rfl (Zg (y_eql_flat Tryz.q51 rfl rfl rfl rfl rfl) rfl (Zg (Zk rfl rfl rfl) rfl (ya rfl rfl (Zf (ρ' := [(1, _), (2, _), (3, _), (4, _), (5, _)]) ⟨rfl, rfl, rfl, rfl, rfl, trivial⟩ ?_))))
 refine Zc (Zd (Za (ym rfl rfl (Zg (Zad rfl Tryz.s43 rfl rfl hM (j := 0) rfl (by decide)) rfl (Zg (Zac rfl Tryz.k51 rfl hM (by decide) (c := [.int .i64 3, .int .i64 (-1), .int .i64 0]) rfl (vs := [_, _, _]) rfl rfl rfl rfl) rfl ?_)))))
 refine Zg (Zav rfl Tryz.f51' Tryz.z51 (ps := [(_, _), (_, _), (_, _)]) rfl (vs := [_, _, _]) rfl) rfl ?_
 refine Zg (y_eql_flat Tryz.q51 rfl rfl rfl rfl rfl) rfl (ym rfl rfl (Zj rfl rfl (ym rfl rfl (Zj rfl rfl (Zg (Zad rfl Tryz.s43 rfl rfl hM (j := 1) rfl (by decide)) rfl (Zj rfl rfl (Zg (Zac rfl Tryz.k51 rfl hM (by decide) (c := [.int .i64 1, .int .i64 0, .int .i64 1]) rfl (vs := [_, _, _]) rfl rfl rfl rfl) rfl ?_)))))))
 refine Zj rfl rfl (Zg (Zav rfl Tryz.f51' Tryz.z51 (ps := [(_, _), (_, _), (_, _)]) rfl (vs := [_, _, _]) rfl) rfl ?_)
 refine Zj rfl rfl (Zg (y_eql_flat Tryz.q51 rfl rfl rfl rfl rfl) rfl (Zg (Zk rfl rfl rfl) rfl (ya rfl rfl (Zf (ρ' := [(1, _), (3, _), (4, _), (5, _), (6, _)]) ⟨rfl, rfl, rfl, rfl, rfl, trivial⟩ ?_))))
 refine Zc (Zd (Za (ym rfl rfl (ym rfl rfl (Zj rfl rfl (ym rfl rfl (Zg (Zk rfl rfl rfl) rfl ?_)))))))
 refine ym rfl rfl (Zj rfl rfl (ym rfl rfl (Zj rfl rfl (Zg (Zad rfl Tryz.s43 rfl rfl hB (j := 0) rfl (by decide)) rfl (Zj rfl rfl (Zg (Zac rfl Tryz.k51 rfl hB (by decide) (c := [.int .i64 4, .int .i64 0, .int .i64 0]) rfl (vs := [_, _, _]) rfl rfl rfl rfl) rfl (Zj rfl rfl (Zg (Zav rfl Tryz.f51' Tryz.z51 (ps := [(_, _), (_, _), (_, _)]) rfl (vs := [_, _, _]) rfl) rfl ?_))))))))
 refine Zj rfl rfl (Zg (y_eql_flat Tryz.q51 rfl rfl rfl rfl rfl) rfl (Zg (Zk rfl rfl rfl) rfl (ym rfl rfl (Zj rfl rfl (ym rfl rfl (Zj rfl rfl (Zt rfl rfl ?_)))))))
 refine Zag trivial Tryz.s24 Tryz.z9 (ps := [(_, _), (_, _), (_, _)]) rfl (xs := [_, _, _]) rfl rfl rfl rfl rfl rfl rfl ?_
 refine Zba 76 rfl ?_
 intro ad76 cap76 u76 hle76z hsl76
 refine Zj rfl rfl (Zt rfl rfl ?_)
 refine Zu (caps := []) trivial rfl rfl Tryz.c7 rfl (FnP.mono (lawTexts_same [[97], [32], [98]] (by decide) _ _ u76 ⟨_, _, rfl, hW.mono hle76z⟩ ⟨_, _, rfl, hsl76⟩) ?_)
 rintro v u1 hle1 rfl
 refine Zg (Zk rfl rfl rfl) rfl (ym rfl rfl (Zj rfl rfl (ym rfl rfl (Zj rfl rfl (Zt rfl rfl ?_)))))
 refine Zu (caps := []) trivial rfl rfl Tryz.c15 rfl (FnP.mono (len4_fn _ u76 ⟨_, _, rfl, hB.mono hle76z⟩) ?_)
 rintro v u1 hle1 rfl
 refine Zj rfl rfl (Zg (Zay rfl rfl rfl) rfl (Zg (Zk rfl rfl rfl) rfl (ym rfl rfl (Zj rfl rfl (Zt rfl rfl ?_)))))
 refine Zag trivial Tryz.s24 Tryz.z9 (ps := [(_, _), (_, _)]) rfl (xs := [_, _]) rfl rfl rfl rfl rfl rfl rfl ?_
 refine Zba 85 rfl ?_
 intro ad85 cap85 u85 hle85z hsl85
 refine Zj rfl rfl (Zt rfl rfl ?_)
 refine Zag trivial Tryz.s24 Tryz.z9 (ps := [(_, _), (_, _)]) rfl (xs := [_, _]) rfl rfl rfl rfl rfl rfl rfl ?_
 refine Zba 86 rfl ?_
 intro ad86 cap86 u86 hle86z hsl86
 refine Zj rfl rfl (ym rfl rfl (Zj rfl rfl (Zt rfl rfl ?_)))
 refine Zbl (caps := []) trivial rfl rfl Tryz.c16 rfl (FnP.mono (patchXY_fn _ _ _ u86 ⟨_, _, rfl, hsl85.mono hle86z⟩ ⟨_, _, rfl, hsl86⟩ ⟨_, _, rfl, hL.mono (hle76z.trans (hle85z.trans hle86z))⟩) ?_)
 rintro v uP hle0 hPa hleP
 refine Zj rfl rfl (Zt rfl rfl ?_)
 refine Zag trivial Tryz.s24 Tryz.z9 (ps := [(_, _), (_, _)]) rfl (xs := [_, _]) rfl rfl rfl rfl rfl rfl rfl ?_
 refine Zba 89 rfl ?_
 intro ad89 cap89 u89 hle89z hsl89
 refine Zj rfl rfl (Zt rfl rfl ?_)
 refine Zu (caps := []) trivial rfl rfl Tryz.c7 rfl (FnP.mono (lawTexts_same yzL (by decide) _ _ u89 (hPa.mono hle89z) ⟨_, _, rfl, hsl89⟩) ?_)
 rintro v u1 hle1 rfl
 refine Zg (Zk rfl rfl rfl) rfl (ya rfl rfl (Zf (ρ' := [(0, _)]) ⟨rfl, trivial⟩ ?_))
 refine Zc (Zx (Zau (.tmp rfl) ?_))
 rfl
def lineB (l : List Inl) : Blk := .mk 0 0 [] [] [] [] attr0 l []
theorem lineB_C {u : View} {l : List Inl} {vl : Value} (hl : l.length ≤ 140737488351232) (h : InlS u vl l) : BlkC u (lineB l) [.int .i64 0, .int .i64 0, str [], str [], str [], str [], str [], nilV, nilV, vl, nilV] :=
 BlkC.mk' (a := attr0) (nilStr _) (nilPr _) h (nilBlk _) ⟨intOk_of (by decide), intOk_of (by decide), by decide, by decide, by decide, by decide, attrOk0, hl, by decide⟩
theorem eI_bound {l : List Inl} {u : View} {v : Value} (hs : szI l ≤ 120) (hsm : smI l) (ha : InlS u v l) : ∀ x ∈ l, (eI x).length ≤ 10000000000 := by
 obtain ⟨cs, -, hc⟩ := ha
 intro x hx
 obtain ⟨i, hi⟩ := List.getElem?_of_mem hx
 have e1 := eI_le x _ (hc.get i x hi) (smI_get hsm hi)
 have e2 := szI_get hi
 have e3 : 1100000 * sz1 x ≤ 1100000 * 120 := Nat.mul_le_mul_left _ (by omega)
 omega
theorem byte_at {s : Bs} {i : Nat} (h : i < s.length) : ∃ c, s[i]? = some c ∧ c.toNat < 256 := ⟨s[i], List.getElem?_eq_getElem h, UInt8.toNat_lt _⟩
theorem kmore_fn (s : Bs) (i : Nat) (lo hi : Int) (hi0 : i ≤ 1099511627776) (hs : s.length ≤ 1099511627776) (u : View) : FnP Tryz.prog 99 [str s, .int .i64 i, .int .i64 lo, .int .i64 hi] u fun r _ => ∃ z : Int, r = .int .i64 z ∧ -128 ≤ z ∧ z ≤ 127 := by
 refine FnP.intro [.tmp 8] Tryz.func99 rfl rfl rfl ?_
 intro w0 D hw0
 refine Zd (Za (ya rfl rfl (Zf (ρ' := [(0, _), (1, _), (2, _), (3, _)]) ⟨rfl, rfl, rfl, rfl, trivial⟩ ?_)))
 refine Zc (Zd (Zd (Za (ym rfl rfl (ym rfl rfl (Zg (Zaq rfl rfl Tryz.str9 rfl) rfl (Zg (Zbs rfl rfl rfl) rfl ?_)))))))
 refine ym rfl rfl ?_
 refine Zab 13 rfl (fun hg1_4 => ?_) (fun hg1_4 => ?_)
 ·
  iterate 6 refine Zp rfl rfl rfl rfl ?_
  refine Zg (Zk rfl rfl rfl) rfl (ym rfl rfl ?_)
  iterate 6 refine Zp rfl rfl rfl rfl ?_
  refine Zg (Zk rfl rfl rfl) rfl (Zf (ρ' := [(0, _), (1, _), (28, _)]) ⟨rfl, rfl, rfl, trivial⟩ ?_)
  refine Zc (Zbc rfl (rfl) (Zd (Za (ya rfl rfl (Zf (ρ' := [(8, _)]) ⟨rfl, trivial⟩ ?_)))))
  refine Zc (Zx (Zh (Zau (.tmp rfl) ?_)))
  first | exact ⟨-1, rfl, by decide, by decide⟩ | exact ⟨_, rfl, by omega, by omega⟩
 ·
  refine Zj rfl rfl (ym rfl rfl ?_)
  have hlt : i < s.length := by have := of_decide_eq_false hg1_4; omega
  obtain ⟨c, hc, hc2⟩ := byte_at hlt
  refine Zj rfl rfl (ym rfl rfl (Zj rfl rfl (Zg (Zat rfl Tryz.str9 rfl rfl (by first | rfl | omega) (by assumption)) rfl (Zj rfl rfl (Zg (Zbv rfl Tryz.u5 Tryz.u3 rfl (Zn (by omega))) rfl ?_)))))
  refine Zj rfl rfl (ym rfl rfl (Zj rfl rfl (Zg (Zaz rfl rfl rfl) rfl (Zg (Zo rfl rfl rfl) rfl (ym rfl rfl ?_)))))
  refine Zab 21 rfl (fun hg1_12 => ?_) (fun hg1_12 => ?_)
  ·
   iterate 6 refine Zp rfl rfl rfl rfl ?_
   refine Zg (Zk rfl rfl rfl) rfl (Zf (ρ' := [(0, _), (1, _), (28, _)]) ⟨rfl, rfl, rfl, trivial⟩ ?_)
   refine Zc (Zbc rfl (rfl) (Zd (Za (ya rfl rfl (Zf (ρ' := [(8, _)]) ⟨rfl, trivial⟩ ?_)))))
   refine Zc (Zx (Zh (Zau (.tmp rfl) ?_)))
   first | exact ⟨-1, rfl, by decide, by decide⟩ | exact ⟨_, rfl, by omega, by omega⟩
  ·
   refine Zj rfl rfl (ym rfl rfl (Zj rfl rfl (ym rfl rfl (Zj rfl rfl (Zg (Zat rfl Tryz.str9 rfl rfl (by first | rfl | omega) (by assumption)) rfl (Zj rfl rfl (Zg (Zbv rfl Tryz.u5 Tryz.u3 rfl (Zn (by omega))) rfl ?_)))))))
   refine Zj rfl rfl (ym rfl rfl (Zj rfl rfl (Zg (y_gtr rfl rfl rfl) rfl (Zg (Zo rfl rfl rfl) rfl (Zf (ρ' := [(0, _), (1, _), (28, _)]) ⟨rfl, rfl, rfl, trivial⟩ ?_)))))
   refine Zc ?_
   refine Zr rfl (fun hb2 => ?_) (fun hb2 => ?_)
   ·
    refine Zd (Za (ya rfl rfl (Zf (ρ' := [(8, _)]) ⟨rfl, trivial⟩ ?_)))
    refine Zc (Zx (Zh (Zau (.tmp rfl) ?_)))
    first | exact ⟨-1, rfl, by decide, by decide⟩ | exact ⟨_, rfl, by omega, by omega⟩
   ·
    refine Zs (Zc (Zd (Za (ym rfl rfl (ym rfl rfl (Zg (Zat rfl Tryz.str9 rfl rfl (by first | rfl | omega) (by assumption)) rfl (Zg (Zbv rfl Tryz.u5 Tryz.u3 rfl (Zn (by omega))) rfl ?_)))))))
    refine Zg (y_sub rfl rfl rfl (Zn (by omega))) rfl ?_
    refine ya rfl rfl (Zf (ρ' := [(8, _)]) ⟨rfl, trivial⟩ ?_)
    refine Zc (Zx (Zau (.tmp rfl) ?_))
    first | exact ⟨-1, rfl, by decide, by decide⟩ | exact ⟨_, rfl, by omega, by omega⟩
def PtV (r : Value) (z : Nat) : Prop := ∃ C N : Int, r = .agg #[.int .i64 C, .int .i64 N] ∧ -1000000000 ≤ C ∧ C ≤ 1000000000 ∧ 1 ≤ N ∧ N ≤ 4
theorem kthree_fn (s : Bs) (i : Nat) (hlt : i < s.length) (hs : s.length ≤ 1000000000) (u : View) : FnP Tryz.prog 100 [str s, .int .i64 i] u fun r _ => PtV r 0 := by
 obtain ⟨c, hc, hc2⟩ := byte_at hlt
 refine FnP.intro [.cell 4 124] Tryz.func100 rfl rfl rfl ?_
 intro w0 D hw0
 refine Zd (Za (Zt rfl rfl ?_))
 refine Zaw trivial Tryz.z124 rfl rfl rfl ?_
 refine Zf (ρ' := [(0, _), (1, _), (4, _)]) ⟨rfl, rfl, rfl, trivial⟩ ?_
 refine Zc (Zd (Za (ym rfl rfl (ym rfl rfl (Zg (Zat rfl Tryz.str9 rfl rfl (by first | rfl | omega) (by assumption)) rfl (Zg (Zbv rfl Tryz.u5 Tryz.u3 rfl (Zn (by omega))) rfl ?_))))))
 refine ya rfl rfl (Zf (ρ' := [(0, _), (1, _), (4, _), (5, _)]) ⟨rfl, rfl, rfl, rfl, trivial⟩ ?_)
 refine Zc (Zd (Za (ya rfl rfl (Zf (ρ' := [(0, _), (1, _), (4, _), (5, _), (6, _)]) ⟨rfl, rfl, rfl, rfl, rfl, trivial⟩ ?_))))
 refine Zc (Zd (Za (ya rfl rfl (Zf (ρ' := [(0, _), (1, _), (4, _), (5, _), (6, _), (7, _)]) ⟨rfl, rfl, rfl, rfl, rfl, rfl, trivial⟩ ?_))))
 refine Zc ?_
 refine Zbr (fun ρ σ uc6 => ∃ (lo : Int), VLe u uc6 ∧ σ = [(4, (none, .box [.int .i64 0, .int .i64 0]))] ∧ ρ = [(0, .v (str s)), (1, .v (.int .i64 i)), (4, .p 4 0), (5, .v (.int .i64 c.toNat)), (6, .v (.int .i64 lo)), (7, .v (.int .i64 191))] ∧ (u = uc6)) ?_ ?_
 ·
  refine Zd (Za (ym rfl rfl (Zg (Zay rfl rfl rfl) rfl (Zf (ρ' := [(0, _), (1, _), (4, _), (5, _), (6, _), (7, _), (15, _)]) ⟨rfl, rfl, rfl, rfl, rfl, rfl, rfl, trivial⟩ ?_))))
  refine Zc ?_
  refine Zr rfl (fun hb4 => ?_) (fun hb4 => ?_)
  ·
   refine Za (ya rfl rfl (Zf (ρ' := [(0, _), (1, _), (4, _), (5, _), (6, _), (7, _)]) ⟨rfl, rfl, rfl, rfl, rfl, rfl, trivial⟩ ?_))
   refine Zae ?_
   first
    | (refine ⟨[(0, _), (1, _), (4, _), (5, _), (6, _), (7, _)], [(4, _)], ⟨rfl, rfl, rfl, rfl, rfl, rfl, trivial⟩, ⟨rfl, trivial⟩, 160, (VLe.refl _), rfl, rfl, ?_⟩
       rfl)
    | (refine ⟨[(0, _), (1, _), (4, _), (5, _), (6, _), (7, _)], [(4, _)], ⟨rfl, rfl, rfl, rfl, rfl, rfl, trivial⟩, ⟨rfl, trivial⟩, 128, (VLe.refl _), rfl, rfl, ?_⟩
       rfl)
  ·
   refine Zs (Zae ?_)
   first
    | (refine ⟨[(0, _), (1, _), (4, _), (5, _), (6, _), (7, _)], [(4, _)], ⟨rfl, rfl, rfl, rfl, rfl, rfl, trivial⟩, ⟨rfl, trivial⟩, 160, (VLe.refl _), rfl, rfl, ?_⟩
       rfl)
    | (refine ⟨[(0, _), (1, _), (4, _), (5, _), (6, _), (7, _)], [(4, _)], ⟨rfl, rfl, rfl, rfl, rfl, rfl, trivial⟩, ⟨rfl, trivial⟩, 128, (VLe.refl _), rfl, rfl, ?_⟩
       rfl)
 ·
  rintro ρ σ uc6 ⟨lo, hlc6, rfl, rfl, rfl⟩
  refine Zbr (fun ρ σ uc8 => ∃ (hi : Int), VLe u uc8 ∧ σ = [(4, (none, .box [.int .i64 0, .int .i64 0]))] ∧ ρ = [(0, .v (str s)), (1, .v (.int .i64 i)), (4, .p 4 0), (5, .v (.int .i64 c.toNat)), (6, .v (.int .i64 lo)), (7, .v (.int .i64 hi))] ∧ (u = uc8)) ?_ ?_
  ·
   refine Zd (Za (ym rfl rfl (Zg (Zay rfl rfl rfl) rfl (Zf (ρ' := [(0, _), (1, _), (4, _), (5, _), (6, _), (7, _), (17, _)]) ⟨rfl, rfl, rfl, rfl, rfl, rfl, rfl, trivial⟩ ?_))))
   refine Zc ?_
   refine Zr rfl (fun hb6 => ?_) (fun hb6 => ?_)
   ·
    refine Za (ya rfl rfl (Zf (ρ' := [(0, _), (1, _), (4, _), (5, _), (6, _), (7, _)]) ⟨rfl, rfl, rfl, rfl, rfl, rfl, trivial⟩ ?_))
    refine Zae ?_
    first
     | (refine ⟨[(0, _), (1, _), (4, _), (5, _), (6, _), (7, _)], [(4, _)], ⟨rfl, rfl, rfl, rfl, rfl, rfl, trivial⟩, ⟨rfl, trivial⟩, 159, (VLe.refl _), rfl, rfl, ?_⟩
        rfl)
     | (refine ⟨[(0, _), (1, _), (4, _), (5, _), (6, _), (7, _)], [(4, _)], ⟨rfl, rfl, rfl, rfl, rfl, rfl, trivial⟩, ⟨rfl, trivial⟩, 191, (VLe.refl _), rfl, rfl, ?_⟩
        rfl)
   ·
    refine Zs (Zae ?_)
    first
     | (refine ⟨[(0, _), (1, _), (4, _), (5, _), (6, _), (7, _)], [(4, _)], ⟨rfl, rfl, rfl, rfl, rfl, rfl, trivial⟩, ⟨rfl, trivial⟩, 159, (VLe.refl _), rfl, rfl, ?_⟩
        rfl)
     | (refine ⟨[(0, _), (1, _), (4, _), (5, _), (6, _), (7, _)], [(4, _)], ⟨rfl, rfl, rfl, rfl, rfl, rfl, trivial⟩, ⟨rfl, trivial⟩, 191, (VLe.refl _), rfl, rfl, ?_⟩
        rfl)
  ·
   rintro ρ σ uc8 ⟨hi, hlc8, rfl, rfl, rfl⟩
   refine Zd (Za (ym rfl rfl (ym rfl rfl (Zg (Zap rfl rfl rfl (Zn (by omega))) rfl ?_))))
   refine ym rfl rfl (ym rfl rfl (Zt rfl rfl ?_))
   refine Zu (caps := []) trivial rfl rfl Tryz.c99 rfl (FnP.mono (kmore_fn s (i + 1) lo hi (by omega) (by omega) u) ?_)
   rintro v u1 hle1 ⟨x, rfl, hx1, hx2⟩
   refine ya rfl rfl (Zf (ρ' := [(0, _), (1, _), (4, _), (5, _), (8, _)]) ⟨rfl, rfl, rfl, rfl, rfl, trivial⟩ ?_)
   refine Zc (Zd (Za (ym rfl rfl (ym rfl rfl (Zg (Zap rfl rfl rfl (Zn (by omega))) rfl ?_)))))
   refine Zt rfl rfl ?_
   refine Zu (caps := []) trivial rfl rfl Tryz.c99 rfl (FnP.mono (kmore_fn s (i + 2) 128 191 (by omega) (by omega) u) ?_)
   rintro v u1 hle1 ⟨y, rfl, hy1, hy2⟩
   refine ya rfl rfl (Zf (ρ' := [(4, _), (5, _), (8, _), (9, _)]) ⟨rfl, rfl, rfl, rfl, trivial⟩ ?_)
   refine Zc (Zd (Zd (Za (ym rfl rfl (Zg (Zaz rfl rfl rfl) rfl (ym rfl rfl ?_))))))
   refine Zab 30 rfl (fun hg10_2 => ?_) (fun hg10_2 => ?_)
   ·
    refine Zp rfl rfl rfl rfl (Zp rfl rfl rfl rfl (Zg (Zk rfl rfl rfl) rfl (Zf (ρ' := [(4, _), (5, _), (8, _), (9, _), (33, _)]) ⟨rfl, rfl, rfl, rfl, rfl, trivial⟩ ?_)))
    refine Zc (Zbc rfl (rfl) (Zd (Za (Zg (Zav rfl Tryz.f124' Tryz.z124 (ps := [(_, _), (_, _)]) rfl (vs := [_, _]) rfl) rfl ?_))))
    refine Zt rfl rfl ?_
    refine Zai trivial rfl Tryz.k124 rfl rfl rfl (vs := [_, _]) rfl rfl (by first | rfl | assumption | simp [Value.oneCell', str]) (Nat.le_of_ble_eq_true rfl) rfl ?_
    refine Zf (ρ' := [(4, _)]) ⟨rfl, trivial⟩ ?_
    refine Zc (Zx (Zh ?_))
    refine Zau (.cell rfl rfl Tryz.k124 (cs := _) (vs := [_, _]) rfl rfl rfl) ?_
    first | exact ⟨_, _, rfl, by decide, by decide, by decide, by decide⟩ | exact ⟨_, _, rfl, by omega, by omega, by decide, by decide⟩
   ·
    refine Zj rfl rfl (ym rfl rfl (Zj rfl rfl (Zg (Zaz rfl rfl rfl) rfl (Zg (Zo rfl rfl rfl) rfl (Zf (ρ' := [(4, _), (5, _), (8, _), (9, _), (33, _)]) ⟨rfl, rfl, rfl, rfl, rfl, trivial⟩ ?_)))))
    refine Zc ?_
    refine Zr rfl (fun hb11 => ?_) (fun hb11 => ?_)
    ·
     refine Zd (Za (Zg (Zav rfl Tryz.f124' Tryz.z124 (ps := [(_, _), (_, _)]) rfl (vs := [_, _]) rfl) rfl ?_))
     refine Zt rfl rfl ?_
     refine Zai trivial rfl Tryz.k124 rfl rfl rfl (vs := [_, _]) rfl rfl (by first | rfl | assumption | simp [Value.oneCell', str]) (Nat.le_of_ble_eq_true rfl) rfl ?_
     refine Zf (ρ' := [(4, _)]) ⟨rfl, trivial⟩ ?_
     refine Zc (Zx (Zh ?_))
     refine Zau (.cell rfl rfl Tryz.k124 (cs := _) (vs := [_, _]) rfl rfl rfl) ?_
     first | exact ⟨_, _, rfl, by decide, by decide, by decide, by decide⟩ | exact ⟨_, _, rfl, by omega, by omega, by decide, by decide⟩
    ·
     refine Zs (Zc (Zd (Za (ym rfl rfl (Zg (y_sub rfl rfl rfl (Zn (by omega))) rfl ?_)))))
     refine Zg (y_mul rfl rfl rfl (Zn (by omega))) rfl ?_
     refine ym rfl rfl (Zg (y_mul rfl rfl rfl (Zn (by omega))) rfl ?_)
     refine Zg (Zap rfl rfl rfl (Zn (by omega))) rfl ?_
     refine ym rfl rfl (Zg (Zap rfl rfl rfl (Zn (by omega))) rfl ?_)
     refine Zg (Zav rfl Tryz.f124' Tryz.z124 (ps := [(_, _), (_, _)]) rfl (vs := [_, _]) rfl) rfl ?_
     refine Zt rfl rfl ?_
     refine Zai trivial rfl Tryz.k124 rfl rfl rfl (vs := [_, _]) rfl rfl (by first | rfl | assumption | simp [Value.oneCell', str]) (Nat.le_of_ble_eq_true rfl) rfl ?_
     refine Zf (ρ' := [(4, _)]) ⟨rfl, trivial⟩ ?_
     refine Zc (Zx ?_)
     refine Zau (.cell rfl rfl Tryz.k124 (cs := _) (vs := [_, _]) rfl rfl rfl) ?_
     first | exact ⟨_, _, rfl, by decide, by decide, by decide, by decide⟩ | exact ⟨_, _, rfl, by omega, by omega, by decide, by decide⟩
theorem kfour_fn (s : Bs) (i : Nat) (hlt : i < s.length) (hs : s.length ≤ 1000000000) (u : View) : FnP Tryz.prog 101 [str s, .int .i64 i] u fun r _ => PtV r 0 := by
 obtain ⟨c, hc, hc2⟩ := byte_at hlt
 refine FnP.intro [.cell 4 124] Tryz.func101 rfl rfl rfl ?_
 intro w0 D hw0
 refine Zd (Za (Zt rfl rfl ?_))
 refine Zaw trivial Tryz.z124 rfl rfl rfl ?_
 refine Zf (ρ' := [(0, _), (1, _), (4, _)]) ⟨rfl, rfl, rfl, trivial⟩ ?_
 refine Zc (Zd (Za (ym rfl rfl (ym rfl rfl (Zg (Zat rfl Tryz.str9 rfl rfl (by first | rfl | omega) (by assumption)) rfl (Zg (Zbv rfl Tryz.u5 Tryz.u3 rfl (Zn (by omega))) rfl ?_))))))
 refine ya rfl rfl (Zf (ρ' := [(0, _), (1, _), (4, _), (5, _)]) ⟨rfl, rfl, rfl, rfl, trivial⟩ ?_)
 refine Zc (Zd (Za (ya rfl rfl (Zf (ρ' := [(0, _), (1, _), (4, _), (5, _), (6, _)]) ⟨rfl, rfl, rfl, rfl, rfl, trivial⟩ ?_))))
 refine Zc (Zd (Za (ya rfl rfl (Zf (ρ' := [(0, _), (1, _), (4, _), (5, _), (6, _), (7, _)]) ⟨rfl, rfl, rfl, rfl, rfl, rfl, trivial⟩ ?_))))
 refine Zc ?_
 refine Zbr (fun ρ σ uc6 => ∃ (lo : Int), VLe u uc6 ∧ σ = [(4, (none, .box [.int .i64 0, .int .i64 0]))] ∧ ρ = [(0, .v (str s)), (1, .v (.int .i64 i)), (4, .p 4 0), (5, .v (.int .i64 c.toNat)), (6, .v (.int .i64 lo)), (7, .v (.int .i64 191))] ∧ (u = uc6)) ?_ ?_
 ·
  refine Zd (Za (ym rfl rfl (Zg (Zay rfl rfl rfl) rfl (Zf (ρ' := [(0, _), (1, _), (4, _), (5, _), (6, _), (7, _), (16, _)]) ⟨rfl, rfl, rfl, rfl, rfl, rfl, rfl, trivial⟩ ?_))))
  refine Zc ?_
  refine Zr rfl (fun hb4 => ?_) (fun hb4 => ?_)
  ·
   refine Za (ya rfl rfl (Zf (ρ' := [(0, _), (1, _), (4, _), (5, _), (6, _), (7, _)]) ⟨rfl, rfl, rfl, rfl, rfl, rfl, trivial⟩ ?_))
   refine Zae ?_
   first
    | (refine ⟨[(0, _), (1, _), (4, _), (5, _), (6, _), (7, _)], [(4, _)], ⟨rfl, rfl, rfl, rfl, rfl, rfl, trivial⟩, ⟨rfl, trivial⟩, 144, (VLe.refl _), rfl, rfl, ?_⟩
       rfl)
    | (refine ⟨[(0, _), (1, _), (4, _), (5, _), (6, _), (7, _)], [(4, _)], ⟨rfl, rfl, rfl, rfl, rfl, rfl, trivial⟩, ⟨rfl, trivial⟩, 128, (VLe.refl _), rfl, rfl, ?_⟩
       rfl)
  ·
   refine Zs (Zae ?_)
   first
    | (refine ⟨[(0, _), (1, _), (4, _), (5, _), (6, _), (7, _)], [(4, _)], ⟨rfl, rfl, rfl, rfl, rfl, rfl, trivial⟩, ⟨rfl, trivial⟩, 144, (VLe.refl _), rfl, rfl, ?_⟩
       rfl)
    | (refine ⟨[(0, _), (1, _), (4, _), (5, _), (6, _), (7, _)], [(4, _)], ⟨rfl, rfl, rfl, rfl, rfl, rfl, trivial⟩, ⟨rfl, trivial⟩, 128, (VLe.refl _), rfl, rfl, ?_⟩
       rfl)
 ·
  rintro ρ σ uc6 ⟨lo, hlc6, rfl, rfl, rfl⟩
  refine Zbr (fun ρ σ uc8 => ∃ (hi : Int), VLe u uc8 ∧ σ = [(4, (none, .box [.int .i64 0, .int .i64 0]))] ∧ ρ = [(0, .v (str s)), (1, .v (.int .i64 i)), (4, .p 4 0), (5, .v (.int .i64 c.toNat)), (6, .v (.int .i64 lo)), (7, .v (.int .i64 hi))] ∧ (u = uc8)) ?_ ?_
  ·
   refine Zd (Za (ym rfl rfl (Zg (Zay rfl rfl rfl) rfl (Zf (ρ' := [(0, _), (1, _), (4, _), (5, _), (6, _), (7, _), (18, _)]) ⟨rfl, rfl, rfl, rfl, rfl, rfl, rfl, trivial⟩ ?_))))
   refine Zc ?_
   refine Zr rfl (fun hb6 => ?_) (fun hb6 => ?_)
   ·
    refine Za (ya rfl rfl (Zf (ρ' := [(0, _), (1, _), (4, _), (5, _), (6, _), (7, _)]) ⟨rfl, rfl, rfl, rfl, rfl, rfl, trivial⟩ ?_))
    refine Zae ?_
    first
     | (refine ⟨[(0, _), (1, _), (4, _), (5, _), (6, _), (7, _)], [(4, _)], ⟨rfl, rfl, rfl, rfl, rfl, rfl, trivial⟩, ⟨rfl, trivial⟩, 143, (VLe.refl _), rfl, rfl, ?_⟩
        rfl)
     | (refine ⟨[(0, _), (1, _), (4, _), (5, _), (6, _), (7, _)], [(4, _)], ⟨rfl, rfl, rfl, rfl, rfl, rfl, trivial⟩, ⟨rfl, trivial⟩, 191, (VLe.refl _), rfl, rfl, ?_⟩
        rfl)
   ·
    refine Zs (Zae ?_)
    first
     | (refine ⟨[(0, _), (1, _), (4, _), (5, _), (6, _), (7, _)], [(4, _)], ⟨rfl, rfl, rfl, rfl, rfl, rfl, trivial⟩, ⟨rfl, trivial⟩, 143, (VLe.refl _), rfl, rfl, ?_⟩
        rfl)
     | (refine ⟨[(0, _), (1, _), (4, _), (5, _), (6, _), (7, _)], [(4, _)], ⟨rfl, rfl, rfl, rfl, rfl, rfl, trivial⟩, ⟨rfl, trivial⟩, 191, (VLe.refl _), rfl, rfl, ?_⟩
        rfl)
  ·
   rintro ρ σ uc8 ⟨hi, hlc8, rfl, rfl, rfl⟩
   refine Zd (Za (ym rfl rfl (ym rfl rfl (Zg (Zap rfl rfl rfl (Zn (by omega))) rfl ?_))))
   refine ym rfl rfl (ym rfl rfl (Zt rfl rfl ?_))
   refine Zu (caps := []) trivial rfl rfl Tryz.c99 rfl (FnP.mono (kmore_fn s (i + 1) lo hi (by omega) (by omega) u) ?_)
   rintro v u1 hle1 ⟨x, rfl, hx1, hx2⟩
   refine ya rfl rfl (Zf (ρ' := [(0, _), (1, _), (4, _), (5, _), (8, _)]) ⟨rfl, rfl, rfl, rfl, rfl, trivial⟩ ?_)
   refine Zc (Zd (Za (ym rfl rfl (ym rfl rfl (Zg (Zap rfl rfl rfl (Zn (by omega))) rfl ?_)))))
   refine Zt rfl rfl ?_
   refine Zu (caps := []) trivial rfl rfl Tryz.c99 rfl (FnP.mono (kmore_fn s (i + 2) 128 191 (by omega) (by omega) u) ?_)
   rintro v u1 hle1 ⟨y, rfl, hy1, hy2⟩
   refine ya rfl rfl (Zf (ρ' := [(0, _), (1, _), (4, _), (5, _), (8, _), (9, _)]) ⟨rfl, rfl, rfl, rfl, rfl, rfl, trivial⟩ ?_)
   refine Zc (Zd (Za (ym rfl rfl (ym rfl rfl (Zg (Zap rfl rfl rfl (Zn (by omega))) rfl ?_)))))
   refine Zt rfl rfl ?_
   refine Zu (caps := []) trivial rfl rfl Tryz.c99 rfl (FnP.mono (kmore_fn s (i + 3) 128 191 (by omega) (by omega) u) ?_)
   rintro v u1 hle1 ⟨z, rfl, hz1, hz2⟩
   refine ya rfl rfl (Zf (ρ' := [(4, _), (5, _), (8, _), (9, _), (10, _)]) ⟨rfl, rfl, rfl, rfl, rfl, trivial⟩ ?_)
   refine Zc (Zd (Zd (Za (ym rfl rfl (Zg (Zaz rfl rfl rfl) rfl (ym rfl rfl ?_))))))
   refine Zab 35 rfl (fun hg11_2 => ?_) (fun hg11_2 => ?_)
   ·
    refine Zp rfl rfl rfl rfl (Zp rfl rfl rfl rfl (Zg (Zk rfl rfl rfl) rfl (ym rfl rfl (Zp rfl rfl rfl rfl (Zp rfl rfl rfl rfl (Zg (Zk rfl rfl rfl) rfl (Zf (ρ' := [(4, _), (5, _), (8, _), (9, _), (10, _), (42, _)]) ⟨rfl, rfl, rfl, rfl, rfl, rfl, trivial⟩ ?_)))))))
    refine Zc (Zbc rfl (rfl) (Zd (Za (Zg (Zav rfl Tryz.f124' Tryz.z124 (ps := [(_, _), (_, _)]) rfl (vs := [_, _]) rfl) rfl ?_))))
    refine Zt rfl rfl ?_
    refine Zai trivial rfl Tryz.k124 rfl rfl rfl (vs := [_, _]) rfl rfl (by first | rfl | assumption | simp [Value.oneCell', str]) (Nat.le_of_ble_eq_true rfl) rfl ?_
    refine Zf (ρ' := [(4, _)]) ⟨rfl, trivial⟩ ?_
    refine Zc (Zx (Zh ?_))
    refine Zau (.cell rfl rfl Tryz.k124 (cs := _) (vs := [_, _]) rfl rfl rfl) ?_
    first | exact ⟨_, _, rfl, by decide, by decide, by decide, by decide⟩ | exact ⟨_, _, rfl, by omega, by omega, by decide, by decide⟩
   ·
    refine Zj rfl rfl (ym rfl rfl (Zj rfl rfl (Zg (Zaz rfl rfl rfl) rfl (Zg (Zo rfl rfl rfl) rfl (ym rfl rfl ?_)))))
    refine Zab 39 rfl (fun hg11_6 => ?_) (fun hg11_6 => ?_)
    ·
     refine Zp rfl rfl rfl rfl (Zp rfl rfl rfl rfl (Zg (Zk rfl rfl rfl) rfl (Zf (ρ' := [(4, _), (5, _), (8, _), (9, _), (10, _), (42, _)]) ⟨rfl, rfl, rfl, rfl, rfl, rfl, trivial⟩ ?_)))
     refine Zc (Zbc rfl (rfl) (Zd (Za (Zg (Zav rfl Tryz.f124' Tryz.z124 (ps := [(_, _), (_, _)]) rfl (vs := [_, _]) rfl) rfl ?_))))
     refine Zt rfl rfl ?_
     refine Zai trivial rfl Tryz.k124 rfl rfl rfl (vs := [_, _]) rfl rfl (by first | rfl | assumption | simp [Value.oneCell', str]) (Nat.le_of_ble_eq_true rfl) rfl ?_
     refine Zf (ρ' := [(4, _)]) ⟨rfl, trivial⟩ ?_
     refine Zc (Zx (Zh ?_))
     refine Zau (.cell rfl rfl Tryz.k124 (cs := _) (vs := [_, _]) rfl rfl rfl) ?_
     first | exact ⟨_, _, rfl, by decide, by decide, by decide, by decide⟩ | exact ⟨_, _, rfl, by omega, by omega, by decide, by decide⟩
    ·
     refine Zj rfl rfl (ym rfl rfl (Zj rfl rfl (Zg (Zaz rfl rfl rfl) rfl (Zg (Zo rfl rfl rfl) rfl (Zf (ρ' := [(4, _), (5, _), (8, _), (9, _), (10, _), (42, _)]) ⟨rfl, rfl, rfl, rfl, rfl, rfl, trivial⟩ ?_)))))
     refine Zc ?_
     refine Zr rfl (fun hb12 => ?_) (fun hb12 => ?_)
     ·
      refine Zd (Za (Zg (Zav rfl Tryz.f124' Tryz.z124 (ps := [(_, _), (_, _)]) rfl (vs := [_, _]) rfl) rfl ?_))
      refine Zt rfl rfl ?_
      refine Zai trivial rfl Tryz.k124 rfl rfl rfl (vs := [_, _]) rfl rfl (by first | rfl | assumption | simp [Value.oneCell', str]) (Nat.le_of_ble_eq_true rfl) rfl ?_
      refine Zf (ρ' := [(4, _)]) ⟨rfl, trivial⟩ ?_
      refine Zc (Zx (Zh ?_))
      refine Zau (.cell rfl rfl Tryz.k124 (cs := _) (vs := [_, _]) rfl rfl rfl) ?_
      first | exact ⟨_, _, rfl, by decide, by decide, by decide, by decide⟩ | exact ⟨_, _, rfl, by omega, by omega, by decide, by decide⟩
     ·
      refine Zs (Zc (Zd (Za (ym rfl rfl (Zg (y_sub rfl rfl rfl (Zn (by omega))) rfl ?_)))))
      refine Zg (y_mul rfl rfl rfl (Zn (by omega))) rfl ?_
      refine ym rfl rfl (Zg (y_mul rfl rfl rfl (Zn (by omega))) rfl ?_)
      refine Zg (Zap rfl rfl rfl (Zn (by omega))) rfl ?_
      refine ym rfl rfl (Zg (y_mul rfl rfl rfl (Zn (by omega))) rfl ?_)
      refine Zg (Zap rfl rfl rfl (Zn (by omega))) rfl ?_
      refine ym rfl rfl (Zg (Zap rfl rfl rfl (Zn (by omega))) rfl ?_)
      refine Zg (Zav rfl Tryz.f124' Tryz.z124 (ps := [(_, _), (_, _)]) rfl (vs := [_, _]) rfl) rfl ?_
      refine Zt rfl rfl ?_
      refine Zai trivial rfl Tryz.k124 rfl rfl rfl (vs := [_, _]) rfl rfl (by first | rfl | assumption | simp [Value.oneCell', str]) (Nat.le_of_ble_eq_true rfl) rfl ?_
      refine Zf (ρ' := [(4, _)]) ⟨rfl, trivial⟩ ?_
      refine Zc (Zx ?_)
      refine Zau (.cell rfl rfl Tryz.k124 (cs := _) (vs := [_, _]) rfl rfl rfl) ?_
      first | exact ⟨_, _, rfl, by decide, by decide, by decide, by decide⟩ | exact ⟨_, _, rfl, by omega, by omega, by decide, by decide⟩
theorem kat_fn (s : Bs) (i : Nat) (hlt : i < s.length) (hs : s.length ≤ 1000000000) (u : View) : FnP Tryz.prog 90 [str s, .int .i64 i] u fun r _ => PtV r 0 := by
 obtain ⟨c, hc, hc2⟩ := byte_at hlt
 refine FnP.intro [.cell 4 124] Tryz.func90 rfl rfl rfl ?_
 intro w0 D hw0
 refine Zd (Za (Zt rfl rfl ?_))
 refine Zaw trivial Tryz.z124 rfl rfl rfl ?_
 refine Zf (ρ' := [(0, _), (1, _), (4, _)]) ⟨rfl, rfl, rfl, trivial⟩ ?_
 refine Zc (Zd (Za (ym rfl rfl (ym rfl rfl (Zg (Zat rfl Tryz.str9 rfl rfl (by first | rfl | omega) (by assumption)) rfl (Zg (Zbv rfl Tryz.u5 Tryz.u3 rfl (Zn (by omega))) rfl ?_))))))
 refine ya rfl rfl (Zf (ρ' := [(0, _), (1, _), (4, _), (5, _)]) ⟨rfl, rfl, rfl, rfl, trivial⟩ ?_)
 refine Zc (Zd (Zv (Zd (Za (ym rfl rfl (Zg (Zaz rfl rfl rfl) rfl (ya rfl rfl (Zf (ρ' := [(0, _), (1, _), (4, _), (5, _), (11, _)]) ⟨rfl, rfl, rfl, rfl, rfl, trivial⟩ ?_))))))))
 refine Zc ?_
 refine Zr rfl (fun hb2 => ?_) (fun hb2 => ?_)
 ·
  refine Zd (Za (ym rfl rfl (Zg (Zav rfl Tryz.f124' Tryz.z124 (ps := [(_, _), (_, _)]) rfl (vs := [_, _]) rfl) rfl ?_)))
  refine Zt rfl rfl ?_
  refine Zai trivial rfl Tryz.k124 rfl rfl rfl (vs := [_, _]) rfl rfl (by first | rfl | assumption | simp [Value.oneCell', str]) (Nat.le_of_ble_eq_true rfl) rfl ?_
  refine Zf (ρ' := [(4, _)]) ⟨rfl, trivial⟩ ?_
  refine Zc (Zx (Zq (Zh ?_)))
  refine Zau (.cell rfl rfl Tryz.k124 (cs := _) (vs := [_, _]) rfl rfl rfl) ?_
  first | exact ⟨_, _, rfl, by decide, by decide, by decide, by decide⟩ | exact ⟨_, _, rfl, by omega, by omega, by omega, by omega⟩
 ·
  refine Zd (Za ?_)
  refine Zbb 6 22 (fun _ => True) (ρk := [(0, _), (1, _), (4, _), (5, _)]) ⟨rfl, rfl, rfl, rfl, trivial⟩ ?_ fun mb4_5 hm4_5 => ?_
  ·
   refine ym rfl rfl (Zg (Zbs rfl rfl rfl) rfl (ym rfl rfl ?_))
   refine Zab 19 rfl (fun hg4_2 => ?_) (fun hg4_2 => ?_)
   ·
    refine Zj rfl rfl (ym rfl rfl (Zj rfl rfl (Zg (y_leq rfl rfl rfl) rfl (Zg (Zk rfl rfl rfl) rfl ?_))))
    exact Zaf rfl ⟨rfl, rfl, rfl, rfl, trivial⟩ (trivial)
   ·
    refine Zp rfl rfl rfl rfl (Zp rfl rfl rfl rfl (Zg (Zo rfl rfl rfl) rfl ?_))
    exact Zaf rfl ⟨rfl, rfl, rfl, rfl, trivial⟩ (trivial)
  refine ya rfl rfl (Zf (ρ' := [(0, _), (1, _), (4, _), (5, _), (16, _)]) ⟨rfl, rfl, rfl, rfl, rfl, trivial⟩ ?_)
  refine Zc ?_
  refine Zr rfl (fun hb4 => ?_) (fun hb4 => ?_)
  ·
   refine Zd (Za (ym rfl rfl (ym rfl rfl (Zg (Zap rfl rfl rfl (Zn (by omega))) rfl ?_))))
   refine Zt rfl rfl ?_
   refine Zu (caps := []) trivial rfl rfl Tryz.c99 rfl (FnP.mono (kmore_fn s (i + 1) 128 191 (by omega) (by omega) u) ?_)
   rintro v u1 hle1 ⟨x, rfl, hx1, hx2⟩
   refine ya rfl rfl (Zf (ρ' := [(4, _), (5, _), (6, _)]) ⟨rfl, rfl, rfl, trivial⟩ ?_)
   refine Zc (Zd (Za (ym rfl rfl (Zg (Zbs rfl rfl rfl) rfl (Zf (ρ' := [(4, _), (5, _), (6, _), (28, _)]) ⟨rfl, rfl, rfl, rfl, trivial⟩ ?_)))))
   refine Zc ?_
   refine Zr rfl (fun hb6 => ?_) (fun hb6 => ?_)
   ·
    refine Zd (Za (ym rfl rfl (Zg (y_sub rfl rfl rfl (Zn (by omega))) rfl ?_)))
    refine Zg (y_mul rfl rfl rfl (Zn (by omega))) rfl ?_
    refine ym rfl rfl (Zg (Zap rfl rfl rfl (Zn (by omega))) rfl ?_)
    refine Zg (Zav rfl Tryz.f124' Tryz.z124 (ps := [(_, _), (_, _)]) rfl (vs := [_, _]) rfl) rfl ?_
    refine Zt rfl rfl ?_
    refine Zai trivial rfl Tryz.k124 rfl rfl rfl (vs := [_, _]) rfl rfl (by first | rfl | assumption | simp [Value.oneCell', str]) (Nat.le_of_ble_eq_true rfl) rfl ?_
    refine Zf (ρ' := [(4, _)]) ⟨rfl, trivial⟩ ?_
    refine Zc (Zx (Zq (Zh ?_)))
    refine Zau (.cell rfl rfl Tryz.k124 (cs := _) (vs := [_, _]) rfl rfl rfl) ?_
    first | exact ⟨_, _, rfl, by decide, by decide, by decide, by decide⟩ | exact ⟨_, _, rfl, by omega, by omega, by omega, by omega⟩
   ·
    refine Zs (Zaj (Zc (Zd (Za (Zg (Zav rfl Tryz.f124' Tryz.z124 (ps := [(_, _), (_, _)]) rfl (vs := [_, _]) rfl) rfl ?_)))))
    refine Zt rfl rfl ?_
    refine Zai trivial rfl Tryz.k124 rfl rfl rfl (vs := [_, _]) rfl rfl (by first | rfl | assumption | simp [Value.oneCell', str]) (Nat.le_of_ble_eq_true rfl) rfl ?_
    refine Zf (ρ' := [(4, _)]) ⟨rfl, trivial⟩ ?_
    refine Zc (Zx ?_)
    refine Zau (.cell rfl rfl Tryz.k124 (cs := _) (vs := [_, _]) rfl rfl rfl) ?_
    first | exact ⟨_, _, rfl, by decide, by decide, by decide, by decide⟩ | exact ⟨_, _, rfl, by omega, by omega, by omega, by omega⟩
  ·
   refine Zd (Za ?_)
   refine Zbb 6 41 (fun _ => True) (ρk := [(0, _), (1, _), (4, _), (5, _)]) ⟨rfl, rfl, rfl, rfl, trivial⟩ ?_ fun mb8_5 hm8_5 => ?_
   ·
    refine ym rfl rfl (Zg (Zbs rfl rfl rfl) rfl (ym rfl rfl ?_))
    refine Zab 38 rfl (fun hg8_2 => ?_) (fun hg8_2 => ?_)
    ·
     refine Zj rfl rfl (ym rfl rfl (Zj rfl rfl (Zg (y_leq rfl rfl rfl) rfl (Zg (Zk rfl rfl rfl) rfl ?_))))
     exact Zaf rfl ⟨rfl, rfl, rfl, rfl, trivial⟩ (trivial)
    ·
     refine Zp rfl rfl rfl rfl (Zp rfl rfl rfl rfl (Zg (Zo rfl rfl rfl) rfl ?_))
     exact Zaf rfl ⟨rfl, rfl, rfl, rfl, trivial⟩ (trivial)
   refine ya rfl rfl (Zf (ρ' := [(0, _), (1, _), (4, _), (5, _), (35, _)]) ⟨rfl, rfl, rfl, rfl, rfl, trivial⟩ ?_)
   refine Zc ?_
   refine Zr rfl (fun hb8 => ?_) (fun hb8 => ?_)
   ·
    refine Zd (Za (ym rfl rfl (ym rfl rfl (Zt rfl rfl ?_))))
    refine Zu (caps := []) trivial rfl rfl Tryz.c100 rfl (FnP.mono (kthree_fn s i hlt hs u) ?_)
    rintro v u1 hle1 ⟨C, N, rfl, hC1, hC2, hN1, hN2⟩
    refine Zt rfl rfl ?_
    refine Zai trivial rfl Tryz.k124 rfl rfl rfl (vs := [_, _]) rfl rfl (by first | rfl | assumption | simp [Value.oneCell', str]) (Nat.le_of_ble_eq_true rfl) rfl ?_
    refine Zf (ρ' := [(4, _)]) ⟨rfl, trivial⟩ ?_
    refine Zc (Zx (Zq (Zh ?_)))
    refine Zau (.cell rfl rfl Tryz.k124 (cs := _) (vs := [_, _]) rfl rfl rfl) ?_
    first | exact ⟨_, _, rfl, by decide, by decide, by decide, by decide⟩ | exact ⟨_, _, rfl, by omega, by omega, by omega, by omega⟩
   ·
    refine Zd (Za ?_)
    refine Zbb 6 51 (fun _ => True) (ρk := [(0, _), (1, _), (4, _)]) ⟨rfl, rfl, rfl, trivial⟩ ?_ fun mb10_5 hm10_5 => ?_
    ·
     refine ym rfl rfl (Zg (Zbs rfl rfl rfl) rfl (ym rfl rfl ?_))
     refine Zab 48 rfl (fun hg10_2 => ?_) (fun hg10_2 => ?_)
     ·
      refine Zj rfl rfl (ym rfl rfl (Zj rfl rfl (Zg (y_leq rfl rfl rfl) rfl (Zg (Zk rfl rfl rfl) rfl ?_))))
      exact Zaf rfl ⟨rfl, rfl, rfl, trivial⟩ (trivial)
     ·
      refine Zp rfl rfl rfl rfl (Zp rfl rfl rfl rfl (Zg (Zo rfl rfl rfl) rfl ?_))
      exact Zaf rfl ⟨rfl, rfl, rfl, trivial⟩ (trivial)
    refine ya rfl rfl (Zf (ρ' := [(0, _), (1, _), (4, _), (45, _)]) ⟨rfl, rfl, rfl, rfl, trivial⟩ ?_)
    refine Zc ?_
    refine Zr rfl (fun hb10 => ?_) (fun hb10 => ?_)
    ·
     refine Zd (Za (ym rfl rfl (ym rfl rfl (Zt rfl rfl ?_))))
     refine Zu (caps := []) trivial rfl rfl Tryz.c101 rfl (FnP.mono (kfour_fn s i hlt hs u) ?_)
     rintro v u1 hle1 ⟨C, N, rfl, hC1, hC2, hN1, hN2⟩
     refine Zt rfl rfl ?_
     refine Zai trivial rfl Tryz.k124 rfl rfl rfl (vs := [_, _]) rfl rfl (by first | rfl | assumption | simp [Value.oneCell', str]) (Nat.le_of_ble_eq_true rfl) rfl ?_
     refine Zf (ρ' := [(4, _)]) ⟨rfl, trivial⟩ ?_
     refine Zc (Zx (Zq (Zh ?_)))
     refine Zau (.cell rfl rfl Tryz.k124 (cs := _) (vs := [_, _]) rfl rfl rfl) ?_
     first | exact ⟨_, _, rfl, by decide, by decide, by decide, by decide⟩ | exact ⟨_, _, rfl, by omega, by omega, by omega, by omega⟩
    ·
     refine Zs (Zaj (Zc (Zd (Za (Zg (Zav rfl Tryz.f124' Tryz.z124 (ps := [(_, _), (_, _)]) rfl (vs := [_, _]) rfl) rfl ?_)))))
     refine Zt rfl rfl ?_
     refine Zai trivial rfl Tryz.k124 rfl rfl rfl (vs := [_, _]) rfl rfl (by first | rfl | assumption | simp [Value.oneCell', str]) (Nat.le_of_ble_eq_true rfl) rfl ?_
     refine Zf (ρ' := [(4, _)]) ⟨rfl, trivial⟩ ?_
     refine Zc (Zx ?_)
     refine Zau (.cell rfl rfl Tryz.k124 (cs := _) (vs := [_, _]) rfl rfl rfl) ?_
     first | exact ⟨_, _, rfl, by decide, by decide, by decide, by decide⟩ | exact ⟨_, _, rfl, by omega, by omega, by omega, by omega⟩
theorem knext_fn (s : Bs) (i : Nat) (hlt : i < s.length) (hs : s.length ≤ 1000000000) (u : View) : FnP Tryz.prog 76 [str s, .int .i64 i] u fun r _ => ∃ C N : Int, r = .tuple #[.int .i64 C, .int .i64 N] ∧ -1000000000 ≤ C ∧ C ≤ 1000000000 ∧ 1 ≤ N ∧ N ≤ 4 := by
 refine FnP.intro [.tmp 4, .tmp 5] Tryz.func76 rfl rfl rfl ?_
 intro w0 D hw0
 refine Zd (Za (ya rfl rfl (ya rfl rfl (Zf (ρ' := [(0, _), (1, _)]) ⟨rfl, rfl, trivial⟩ ?_))))
 refine Zc (Zd (Zd (Za (ym rfl rfl (Zg (Zaz rfl rfl rfl) rfl (ym rfl rfl ?_))))))
 refine Zab 9 rfl (fun hg1_2 => ?_) (fun hg1_2 => ?_)
 ·
  iterate 4 refine Zp rfl rfl rfl rfl ?_
  refine Zg (Zk rfl rfl rfl) rfl (Zf (ρ' := [(0, _), (1, _), (14, _)]) ⟨rfl, rfl, rfl, trivial⟩ ?_)
  refine Zc (Zbc rfl (rfl) (Zd (Za (ya rfl rfl (ya rfl rfl (Zf (ρ' := [(4, _), (5, _)]) ⟨rfl, rfl, trivial⟩ ?_))))))
  refine Zc (Zx (Zh ?_))
  refine fin2 (.tmp rfl) (.tmp rfl) ?_
  first | exact ⟨_, _, rfl, hC1, hC2, hN1, hN2⟩ | (have h := of_decide_eq_true hg1_2; omega) | (have h := of_decide_eq_true hb2; omega)
 ·
  refine Zj rfl rfl (ym rfl rfl (Zj rfl rfl (ym rfl rfl (Zj rfl rfl (Zg (Zaq rfl rfl Tryz.str9 rfl) rfl (Zj rfl rfl (Zg (Zbs rfl rfl rfl) rfl ?_)))))))
  refine Zg (Zo rfl rfl rfl) rfl (Zf (ρ' := [(0, _), (1, _), (14, _)]) ⟨rfl, rfl, rfl, trivial⟩ ?_)
  refine Zc ?_
  refine Zr rfl (fun hb2 => ?_) (fun hb2 => ?_)
  ·
   refine Zd (Za (ya rfl rfl (ya rfl rfl (Zf (ρ' := [(4, _), (5, _)]) ⟨rfl, rfl, trivial⟩ ?_))))
   refine Zc (Zx (Zh ?_))
   refine fin2 (.tmp rfl) (.tmp rfl) ?_
   first | exact ⟨_, _, rfl, hC1, hC2, hN1, hN2⟩ | (have h := of_decide_eq_true hg1_2; omega) | (have h := of_decide_eq_true hb2; omega)
  ·
   refine Zs (Zc (Zd (Za (ym rfl rfl (ym rfl rfl (Zt rfl rfl ?_))))))
   refine Zu (caps := []) trivial rfl rfl Tryz.c90 rfl (FnP.mono (kat_fn s i hlt hs u) ?_)
   rintro v u1 hle1 ⟨C, N, rfl, hC1, hC2, hN1, hN2⟩
   refine Zt rfl rfl ?_
   refine Zaw trivial Tryz.z124 rfl rfl rfl ?_
   refine Zt rfl rfl ?_
   refine Zai trivial rfl Tryz.k124 rfl rfl rfl (vs := [_, _]) rfl rfl (by first | rfl | assumption | simp [Value.oneCell', str]) (Nat.le_of_ble_eq_true rfl) rfl ?_
   refine Zf (ρ' := [(6, _)]) ⟨rfl, trivial⟩ ?_
   refine Zc (Zd ?_)
   refine Zbf Tryz.mixed rfl [(6, _)] ⟨rfl, trivial⟩ ?_
   refine Zar 0 rfl (by kernel_rfl) (Zb (Zw)) (Zi rfl Tryz.f124' rfl (by decide) rfl) rfl ?_
   refine Zar 1 rfl (by kernel_rfl) (Zb (Zw)) (Zl rfl Tryz.k3 rfl rfl rfl (vs := [_]) rfl rfl rfl) rfl ?_
   refine Zar 2 rfl (by kernel_rfl) (Zb (Zw)) (Zi rfl Tryz.f124' rfl (by decide) rfl) rfl ?_
   refine Zar 3 rfl (by kernel_rfl) (Zb (Zw)) (Zl rfl Tryz.k3 rfl rfl rfl (vs := [_]) rfl rfl rfl) rfl ?_
   refine Zar 4 rfl (by kernel_rfl) (Zb (Zw)) (y_assign rfl rfl) rfl (Zar 5 rfl (by kernel_rfl) (Zb (Zw)) (y_assign rfl rfl) rfl ?_)
   refine Zbm (by kernel_rfl) (ρ' := [(4, _), (5, _)]) ⟨rfl, rfl, trivial⟩ ?_
   refine Zc (Zx ?_)
   refine fin2 (.tmp rfl) (.tmp rfl) ?_
   first | exact ⟨_, _, rfl, hC1, hC2, hN1, hN2⟩ | (have h := of_decide_eq_true hg1_2; omega) | (have h := of_decide_eq_true hb2; omega)
def ptsC (l : List (Int × Int)) : List Value := l.flatMap fun p => [.int .i64 p.1, .int .i64 p.2]
theorem cut_ptsC {xs : List (Int × Int)} {i : Nat} {x : Int × Int} (h : xs[i]? = some x) : cut (ptsC xs) (i * 2) 2 = [.int .i64 x.1, .int .i64 x.2] := cut_flat (f := fun x : Int × Int => [.int .i64 x.1, .int .i64 x.2]) (fun _ => rfl) h
def intsC (l : List Int) : List Value := l.map (Value.int .i64)
theorem cut_intsC {xs : List Int} {i : Nat} {x : Int} (h : xs[i]? = some x) : cut (intsC xs) (i * 1) 1 = [.int .i64 x] := by
 obtain ⟨hlt, rfl⟩ := List.getElem?_eq_some_iff.1 h
 unfold cut intsC
 rw [Nat.mul_one, List.drop_eq_getElem_cons (by simpa using hlt)]
 simp
def Big (c : Int) : Prop := -1000000000 ≤ c ∧ c ≤ 1000000000
theorem kpoints_fn (s : Bs) (hs : s.length ≤ 100000000) (u : View) : FnP Tryz.prog 73 [str s] u fun r u' => ∃ l : List (Int × Int), IsSl u' r l.length 2 (ptsC l) ∧ l.length ≤ s.length ∧ ∀ p ∈ l, Big p.1 := by
 refine FnP.intro [.tmp 2] Tryz.func73 rfl rfl rfl ?_
 intro w0 D hw0
 refine Zd (Za (ya rfl rfl (Zf (ρ' := [(0, _)]) ⟨rfl, trivial⟩ ?_)))
 refine Zc (Zd (Za (ya rfl rfl ?_)))
 refine rl_own_nil 3 503 124 2 rfl rfl rfl ?_
 refine Zf (ρ' := [(0, _), (3, _)]) ⟨rfl, rfl, trivial⟩ ?_
 refine Zc (Zd (Za (ya rfl rfl (Zf (ρ' := [(0, _), (3, _), (4, _)]) ⟨rfl, rfl, rfl, trivial⟩ ?_))))
 refine Zc (Zd (Zv ?_))
 refine Zas (fun m_0 ρ σ u' => ∃ i : Nat, i + m_0 = s.length + 4 ∧ VLe u u' ∧ ∃ (l : List (Int × Int)), σ = [(503, (none, .row 124 2 l.length (ptsC l)))] ∧ ρ = [(0, .v (str s)), (3, .s 503), (4, .v (.int .i64 i))] ∧ (l.length ≤ i ∧ (∀ p ∈ l, Big p.1) ∧ (l = [] ∨ l.length ≤ s.length))) (s.length + 4) ?_ ?_
 ·
  refine ⟨[(0, _), (3, _), (4, _)], [(503, _)], ⟨rfl, rfl, rfl, trivial⟩, ⟨rfl, trivial⟩, 0, by omega, VLe.refl _, [], rfl, rfl, ?_⟩
  exact ⟨Nat.le_refl _, (fun p hp => by cases hp), .inl rfl⟩
 ·
  rintro m ρ σ u' ⟨i, hi3, hle3, l, rfl, rfl, ⟨hll, hlb, hls⟩⟩
  refine Zd (Zd (Za (ym rfl rfl (ym rfl rfl (Zg (Zaq rfl rfl Tryz.str9 rfl) rfl (Zg (Zaz rfl rfl rfl) rfl (Zf (ρ' := [(0, _), (3, _), (4, _), (9, _)]) ⟨rfl, rfl, rfl, rfl, trivial⟩ ?_)))))))
  refine Zc ?_
  refine Zr rfl (fun hb3 => ?_) (fun hb3 => ?_)
  ·
   have hlt : i < s.length := (by have := of_decide_eq_true hb3; omega)
   refine Zs (Zc (Zv (Zd (Za (ym rfl rfl (ym rfl rfl (Zt rfl rfl ?_)))))))
   refine Zu (caps := []) trivial rfl rfl Tryz.c90 rfl (FnP.mono (kat_fn s i hlt (by omega) _) ?_)
   rintro v u1 hle1 ⟨C, N, rfl, hC1, hC2, hN1, hN2⟩
   refine Zt rfl rfl ?_
   refine Zaw trivial Tryz.z124 rfl rfl rfl ?_
   refine Zt rfl rfl ?_
   refine Zai trivial rfl Tryz.k124 rfl rfl rfl (vs := [_, _]) rfl rfl (by first | rfl | assumption | simp [Value.oneCell', str]) (Nat.le_of_ble_eq_true rfl) rfl ?_
   refine Zf (ρ' := [(0, _), (3, _), (4, _), (5, _)]) ⟨rfl, rfl, rfl, rfl, trivial⟩ ?_
   refine Zc (Zd (Za (ym rfl rfl (Zg (Zl rfl Tryz.k124 rfl rfl rfl (vs := [_, _]) rfl rfl rfl) rfl (Zt rfl rfl ?_)))))
   refine Zag trivial Tryz.s121 Tryz.z124 (ps := [(_, _)]) rfl (xs := [_, _]) rfl rfl rfl rfl rfl rfl rfl ?_
   refine Zt rfl rfl ?_
   refine Zbg trivial rfl rfl Tryz.s121 Tryz.z124 rfl rfl rfl rfl rfl rfl (by first | rfl | assumption | simp [Value.oneCell', str]) (by omega) (by omega) (ρ' := [(0, _), (4, _), (5, _)]) ⟨rfl, rfl, rfl, trivial⟩ rfl rfl rfl ?_
   refine ya rfl rfl ?_
   refine rl_ren 16 503 rfl rfl rfl ?_
   refine Zf (ρ' := [(0, _), (3, _), (4, _), (5, _)]) ⟨rfl, rfl, rfl, rfl, trivial⟩ ?_
   refine Zc (Za (ym rfl rfl (Zg (Zi rfl Tryz.f124' rfl (by decide) rfl) rfl (Zg (Zl rfl Tryz.k3 rfl rfl rfl (vs := [_]) rfl rfl rfl) rfl (Zg (Zap rfl rfl rfl (Zn (by omega))) rfl ?_)))))
   refine ya rfl rfl (Zf (ρ' := [(0, _), (3, _), (4, _)]) ⟨rfl, rfl, rfl, trivial⟩ ?_)
   refine Zaj (Zae ?_)
   refine ⟨s.length + 4 - (i + N.toNat), [(0, _), (3, _), (4, _)], [(503, _)], by omega, ⟨rfl, rfl, rfl, trivial⟩, ⟨rfl, trivial⟩, i + N.toNat, by omega, hle3, l ++ [(C, N)], (by rw [List.length_append]; simp [ptsC]), (by rw [show ((i + N.toNat : Nat) : Int) = i + N by omega]; rfl), ?_⟩
   refine ⟨by rw [List.length_append]; simp; omega, ?_, by right; rw [List.length_append]; simp; omega⟩
   intro p hp
   rcases List.mem_append.1 hp with h | h
   ·
    exact hlb p h
   ·
    rw [List.mem_singleton.1 h]; exact ⟨hC1, hC2⟩
  ·
   refine Zao ?_
   refine Zm (Zm ?_)
   refine Zaa ?_
   refine Zc (Zd (Za (ym rfl rfl ?_)))
   refine Zba 503 rfl ?_
   intro ad503 cap503 u503 hle503z hsl503
   refine ya rfl rfl (Zf (ρ' := [(2, _)]) ⟨rfl, trivial⟩ ?_)
   refine Zc (Zx (Zau (.tmp rfl) ?_))
   refine ⟨l, ⟨_, _, rfl, hsl503⟩, ?_, hlb⟩
   rcases hls with h | h
   ·
    rw [h]; exact Nat.zero_le _
   ·
    exact h
theorem kclean_fn (c : Int) (u : View) : FnP Tryz.prog 74 [.int .i64 c] u fun r _ => ∃ b, r = .bool b := by
 refine FnP.intro [.tmp 2] Tryz.func74 rfl rfl rfl ?_
 intro w0 D hw0
 refine Zd (Za (ya rfl rfl (Zf (ρ' := [(0, _)]) ⟨rfl, trivial⟩ ?_)))
 refine Zc (Zd (Za (ym rfl rfl (Zg (Zay rfl rfl rfl) rfl (ym rfl rfl ?_)))))
 refine Zab 5 rfl (fun hg1_2 => ?_) (fun hg1_2 => ?_)
 ·
  iterate 3 refine Zp rfl rfl rfl rfl ?_
  refine Zax rfl rfl rfl (Zax rfl rfl rfl (Zp rfl rfl rfl rfl (Zg (Zk rfl rfl rfl) rfl (ya rfl rfl (Zf (ρ' := [(2, _)]) ⟨rfl, trivial⟩ ?_)))))
  refine Zc (Zx (Zau (.tmp rfl) ?_))
  exact ⟨_, rfl⟩
 ·
  refine Zj rfl rfl (ym rfl rfl (Zj rfl rfl (Zg (Zbs rfl rfl rfl) rfl (Zj rfl rfl (ym rfl rfl ?_)))))
  refine Zab 8 rfl (fun hg1_5 => ?_) (fun hg1_5 => ?_)
  ·
   refine Zj rfl rfl (ym rfl rfl (Zj rfl rfl (Zg (y_neq rfl rfl rfl) rfl (Zj rfl rfl (Zg (Zk rfl rfl rfl) rfl (Zg (Zo rfl rfl rfl) rfl (ya rfl rfl (Zf (ρ' := [(2, _)]) ⟨rfl, trivial⟩ ?_))))))))
   refine Zc (Zx (Zau (.tmp rfl) ?_))
   exact ⟨_, rfl⟩
  ·
   refine Zp rfl rfl rfl rfl (Zp rfl rfl rfl rfl (Zj rfl rfl (Zg (Zo rfl rfl rfl) rfl (Zg (Zo rfl rfl rfl) rfl (ya rfl rfl (Zf (ρ' := [(2, _)]) ⟨rfl, trivial⟩ ?_))))))
   refine Zc (Zx (Zau (.tmp rfl) ?_))
   exact ⟨_, rfl⟩
theorem kvalid_fn (s : Bs) (hs : s.length ≤ 100000000) (u : View) : FnP Tryz.prog 57 [str s] u fun r _ => ∃ b, r = .bool b := by
 refine FnP.intro [.tmp 2] Tryz.func57 rfl rfl rfl ?_
 intro w0 D hw0
 refine Zd (Za (ya rfl rfl (Zf (ρ' := [(0, _)]) ⟨rfl, trivial⟩ ?_)))
 refine Zc (Zd (Zd (Za (ym rfl rfl (Zt rfl rfl ?_)))))
 refine Zbl (caps := []) trivial rfl rfl Tryz.c73 rfl (FnP.mono (kpoints_fn s hs u) ?_)
 rintro v uP hle0 ⟨l, ⟨ad, cap, rfl, h1⟩, hl, hlb⟩ hleP
 refine Zg (Zah rfl rfl Tryz.s121 rfl) rfl (ym rfl rfl (Zf (ρ' := [(6, _), (7, _), (8, _)]) ⟨rfl, rfl, rfl, trivial⟩ ?_))
 refine Zc (Zv ?_)
 refine Zas (fun m_0 ρ σ u' => ∃ i : Nat, i + m_0 = l.length ∧ VLe uP u' ∧ σ = [] ∧ ρ = [(6, .v (.slice ad l.length cap)), (7, .v (.int .i64 l.length)), (8, .v (.int .i64 i))] ∧ (uP = u')) (l.length) ?_ ?_
 ·
  refine ⟨[(6, _), (7, _), (8, _)], [], ⟨rfl, rfl, rfl, trivial⟩, trivial, 0, by omega, VLe.refl _, (by first | rfl | simp), (by first | rfl | (simp only [List.cons.injEq, Prod.mk.injEq, SV.v.injEq, Value.int.injEq, true_and, and_true]; omega) | simp), ?_⟩
  rfl
 ·
  rintro m ρ σ u' ⟨i, hi2, hle2, rfl, rfl, rfl⟩
  refine Zd (Za (Zg (Zaz rfl rfl rfl) rfl (Zf (ρ' := [(6, _), (7, _), (8, _), (9, _)]) ⟨rfl, rfl, rfl, rfl, trivial⟩ ?_)))
  refine Zc (Zd ?_)
  refine Zr rfl (fun hb2 => ?_) (fun hb2 => ?_)
  ·
   have hlt : i < l.length := by have := of_decide_eq_true hb2; omega
   have hcc := cut_ptsC (List.getElem?_eq_getElem hlt)
   refine Zs (Zc (Zd (Zv (Zd (Za (Zg (Zad rfl Tryz.s121 rfl rfl (by assumption) (by first | rfl | omega) (by omega)) rfl (Zg (Zac rfl Tryz.k124 rfl (by assumption) (by omega) (by assumption) (vs := [_, _]) rfl rfl rfl rfl) rfl (Zt rfl rfl ?_))))))))
   refine Zaw trivial Tryz.z124 rfl rfl rfl ?_
   refine Zt rfl rfl ?_
   refine Zai trivial rfl Tryz.k124 rfl rfl rfl (vs := [_, _]) rfl rfl (by first | rfl | assumption | simp [Value.oneCell', str]) (Nat.le_of_ble_eq_true rfl) rfl ?_
   refine Zf (ρ' := [(4, _), (6, _), (7, _), (8, _)]) ⟨rfl, rfl, rfl, rfl, trivial⟩ ?_
   refine Zc (Zd (Za (Zg (Zi rfl Tryz.f124' rfl (by decide) rfl) rfl (Zg (Zl rfl Tryz.k3 rfl rfl rfl (vs := [_]) rfl rfl rfl) rfl (Zt rfl rfl ?_)))))
   refine Zu (caps := []) trivial rfl rfl Tryz.c74 rfl (FnP.mono (kclean_fn _ _) ?_)
   rintro v u1 hle1 ⟨b, rfl⟩
   refine Zg (Zbu rfl rfl) rfl (ym rfl rfl ?_)
   refine Zab 16 rfl (fun hg4_4 => ?_) (fun hg4_4 => ?_)
   ·
    iterate 4 refine Zp rfl rfl rfl rfl ?_
    iterate 3 refine Zax rfl rfl rfl ?_
    refine Zp rfl rfl rfl rfl (Zg (Zk rfl rfl rfl) rfl (Zf (ρ' := [(6, _), (7, _), (8, _), (25, _)]) ⟨rfl, rfl, rfl, rfl, trivial⟩ ?_))
    refine Zc (Zbc rfl (rfl) (Zd (Za (ya rfl rfl (Zf (ρ' := [(2, _)]) ⟨rfl, trivial⟩ ?_)))))
    refine Zc (Zx (Zq (Zh (Zh (Zq (Zh (Zau (.tmp rfl) ?_)))))))
    exact ⟨_, rfl⟩
   ·
    refine Zj rfl rfl (Zg (Zi rfl Tryz.f124' rfl (by decide) rfl) rfl (Zj rfl rfl (Zg (Zl rfl Tryz.k3 rfl rfl rfl (vs := [_]) rfl rfl rfl) rfl (Zj rfl rfl (Zg (Zay rfl rfl rfl) rfl (Zj rfl rfl (ym rfl rfl ?_)))))))
    refine Zab 20 rfl (fun hg4_8 => ?_) (fun hg4_8 => ?_)
    ·
     refine Zj rfl rfl (Zg (Zi rfl Tryz.f124' rfl (by decide) rfl) rfl (Zj rfl rfl (Zg (Zl rfl Tryz.k3 rfl rfl rfl (vs := [_]) rfl rfl rfl) rfl (Zj rfl rfl (Zg (Zay rfl rfl rfl) rfl (Zj rfl rfl (Zg (Zk rfl rfl rfl) rfl ?_)))))))
     refine Zg (Zo rfl rfl rfl) rfl (Zf (ρ' := [(6, _), (7, _), (8, _), (25, _)]) ⟨rfl, rfl, rfl, rfl, trivial⟩ ?_)
     refine Zc ?_
     refine Zr rfl (fun hb5 => ?_) (fun hb5 => ?_)
     ·
      refine Zd (Za (ya rfl rfl (Zf (ρ' := [(2, _)]) ⟨rfl, trivial⟩ ?_)))
      refine Zc (Zx (Zq (Zh (Zh (Zq (Zh (Zau (.tmp rfl) ?_)))))))
      exact ⟨_, rfl⟩
     ·
      refine Zs (Zaj (Zc (Za (Zg (Zap rfl rfl rfl (Zn (by omega))) rfl ?_))))
      refine ym rfl rfl (Zf (ρ' := [(6, _), (7, _), (8, _)]) ⟨rfl, rfl, rfl, trivial⟩ ?_)
      refine Zae ?_
      refine ⟨m - 1, [(6, _), (7, _), (8, _)], [], by omega, ⟨rfl, rfl, rfl, trivial⟩, trivial, i + 1, by omega, hle2, (by first | rfl | simp), (by first | rfl | (simp only [List.cons.injEq, Prod.mk.injEq, SV.v.injEq, Value.int.injEq, true_and, and_true]; omega) | simp), ?_⟩
      rfl
    ·
     iterate 3 refine Zp rfl rfl rfl rfl ?_
     refine Zj rfl rfl (Zg (Zo rfl rfl rfl) rfl (Zg (Zo rfl rfl rfl) rfl (Zf (ρ' := [(6, _), (7, _), (8, _), (25, _)]) ⟨rfl, rfl, rfl, rfl, trivial⟩ ?_)))
     refine Zc (Zbw rfl (rfl) (Zs (Zaj (Zc (Za (Zg (Zap rfl rfl rfl (Zn (by omega))) rfl ?_))))))
     refine ym rfl rfl (Zf (ρ' := [(6, _), (7, _), (8, _)]) ⟨rfl, rfl, rfl, trivial⟩ ?_)
     refine Zae ?_
     refine ⟨m - 1, [(6, _), (7, _), (8, _)], [], by omega, ⟨rfl, rfl, rfl, trivial⟩, trivial, i + 1, by omega, hle2, (by first | rfl | simp), (by first | rfl | (simp only [List.cons.injEq, Prod.mk.injEq, SV.v.injEq, Value.int.injEq, true_and, and_true]; omega) | simp), ?_⟩
     rfl
  ·
   skip
   refine Zao ?_
   refine Zm (Zm ?_)
   refine Zaa ?_
   refine Zc (Zd (Za (ya rfl rfl (Zf (ρ' := [(2, _)]) ⟨rfl, trivial⟩ ?_))))
   refine Zc (Zx (Zau (.tmp rfl) ?_))
   exact ⟨_, rfl⟩
theorem inr_fn (c : Int) (v : Value) (l : List (Int × Int)) (hl : l.length ≤ 1000) (u : View) (h : IsSl u v l.length 2 (ptsC l)) : FnP Tryz.prog 94 [.int .i64 c, v] u fun r _ => ∃ b, r = .bool b := by
 obtain ⟨ad, cap, rfl, h1⟩ := h
 refine FnP.intro [.tmp 4] Tryz.func94 rfl rfl rfl ?_
 intro w0 D hw0
 refine Zd (Za (ya rfl rfl (Zf (ρ' := [(0, _), (1, _)]) ⟨rfl, rfl, trivial⟩ ?_)))
 refine Zc (Zd (Zd (Za (ym rfl rfl (Zg (Zah rfl rfl Tryz.s148 rfl) rfl (ym rfl rfl (Zf (ρ' := [(0, _), (7, _), (8, _), (9, _)]) ⟨rfl, rfl, rfl, rfl, trivial⟩ ?_)))))))
 refine Zc (Zv ?_)
 refine Zas (fun m_0 ρ σ u' => ∃ i : Nat, i + m_0 = l.length ∧ VLe u u' ∧ σ = [] ∧ ρ = [(0, .v (.int .i64 c)), (7, .v (.slice ad l.length cap)), (8, .v (.int .i64 l.length)), (9, .v (.int .i64 i))] ∧ (u = u')) (l.length) ?_ ?_
 ·
  refine ⟨[(0, _), (7, _), (8, _), (9, _)], [], ⟨rfl, rfl, rfl, rfl, trivial⟩, trivial, 0, by omega, VLe.refl _, (by first | rfl | simp), (by first | rfl | (simp only [List.cons.injEq, Prod.mk.injEq, SV.v.injEq, Value.int.injEq, true_and, and_true]; omega) | simp), ?_⟩
  rfl
 ·
  rintro m ρ σ u' ⟨i, hi2, hle2, rfl, rfl, rfl⟩
  refine Zd (Za (Zg (Zaz rfl rfl rfl) rfl (Zf (ρ' := [(0, _), (7, _), (8, _), (9, _), (10, _)]) ⟨rfl, rfl, rfl, rfl, rfl, trivial⟩ ?_)))
  refine Zc (Zd ?_)
  refine Zr rfl (fun hb2 => ?_) (fun hb2 => ?_)
  ·
   have hlt : i < l.length := by have := of_decide_eq_true hb2; omega
   have hcc := cut_ptsC (List.getElem?_eq_getElem hlt)
   refine Zs (Zc (Zd (Zv (Zd (Za (Zg (Zad rfl Tryz.s148 rfl rfl (by assumption) (by first | rfl | omega) (by omega)) rfl (Zg (Zac rfl Tryz.k147 rfl (by assumption) (by omega) (by assumption) (vs := [_, _]) rfl rfl rfl rfl) rfl (Zt rfl rfl ?_))))))))
   refine Zaw trivial Tryz.z147 rfl rfl rfl ?_
   refine Zt rfl rfl ?_
   refine Zai trivial rfl Tryz.k147 rfl rfl rfl (vs := [_, _]) rfl rfl (by first | rfl | assumption | simp [Value.oneCell', str]) (Nat.le_of_ble_eq_true rfl) rfl ?_
   refine Zf (ρ' := [(0, _), (6, _), (7, _), (8, _), (9, _)]) ⟨rfl, rfl, rfl, rfl, rfl, trivial⟩ ?_
   refine Zc (Zd (Za (ym rfl rfl (Zg (Zi rfl Tryz.f147' rfl (by decide) rfl) rfl (Zg (Zl rfl Tryz.k3 rfl rfl rfl (vs := [_]) rfl rfl rfl) rfl (Zg (Zbs rfl rfl rfl) rfl (ym rfl rfl ?_)))))))
   refine Zab 17 rfl (fun hg4_4 => ?_) (fun hg4_4 => ?_)
   ·
    refine Zj rfl rfl (ym rfl rfl (Zj rfl rfl (Zg (Zi rfl Tryz.f147' rfl (by decide) rfl) rfl (Zj rfl rfl (Zg (Zl rfl Tryz.k3 rfl rfl rfl (vs := [_]) rfl rfl rfl) rfl (Zj rfl rfl (Zg (y_leq rfl rfl rfl) rfl ?_)))))))
    refine Zg (Zk rfl rfl rfl) rfl (Zf (ρ' := [(0, _), (7, _), (8, _), (9, _), (22, _)]) ⟨rfl, rfl, rfl, rfl, rfl, trivial⟩ ?_)
    refine Zc ?_
    refine Zr rfl (fun hb4 => ?_) (fun hb4 => ?_)
    ·
     refine Zd (Za (ya rfl rfl (Zf (ρ' := [(4, _)]) ⟨rfl, trivial⟩ ?_)))
     refine Zc (Zx (Zq (Zh (Zh (Zq (Zh (Zau (.tmp rfl) ?_)))))))
     exact ⟨_, rfl⟩
    ·
     refine Zs (Zaj (Zc (Za (Zg (Zap rfl rfl rfl (Zn (by omega))) rfl ?_))))
     refine ym rfl rfl (Zf (ρ' := [(0, _), (7, _), (8, _), (9, _)]) ⟨rfl, rfl, rfl, rfl, trivial⟩ ?_)
     refine Zae ?_
     refine ⟨m - 1, [(0, _), (7, _), (8, _), (9, _)], [], by omega, ⟨rfl, rfl, rfl, rfl, trivial⟩, trivial, i + 1, by omega, hle2, (by first | rfl | simp), (by first | rfl | (simp only [List.cons.injEq, Prod.mk.injEq, SV.v.injEq, Value.int.injEq, true_and, and_true]; omega) | simp), ?_⟩
     rfl
   ·
    iterate 4 refine Zp rfl rfl rfl rfl ?_
    refine Zg (Zo rfl rfl rfl) rfl (Zf (ρ' := [(0, _), (7, _), (8, _), (9, _), (22, _)]) ⟨rfl, rfl, rfl, rfl, rfl, trivial⟩ ?_)
    refine Zc (Zbw rfl (rfl) (Zs (Zaj (Zc (Za (Zg (Zap rfl rfl rfl (Zn (by omega))) rfl ?_))))))
    refine ym rfl rfl (Zf (ρ' := [(0, _), (7, _), (8, _), (9, _)]) ⟨rfl, rfl, rfl, rfl, trivial⟩ ?_)
    refine Zae ?_
    refine ⟨m - 1, [(0, _), (7, _), (8, _), (9, _)], [], by omega, ⟨rfl, rfl, rfl, rfl, trivial⟩, trivial, i + 1, by omega, hle2, (by first | rfl | simp), (by first | rfl | (simp only [List.cons.injEq, Prod.mk.injEq, SV.v.injEq, Value.int.injEq, true_and, and_true]; omega) | simp), ?_⟩
    rfl
  ·
   skip
   refine Zao ?_
   refine Zm (Zm ?_)
   refine Zaa ?_
   refine Zc (Zd (Za (ya rfl rfl (Zf (ρ' := [(4, _)]) ⟨rfl, trivial⟩ ?_))))
   refine Zc (Zx (Zau (.tmp rfl) ?_))
   exact ⟨_, rfl⟩
theorem kletter_fn (c : Int) (u : View) : FnP Tryz.prog 77 [.int .i64 c] u fun r _ => ∃ b, r = .bool b := by
 refine FnP.intro [.tmp 2] Tryz.func77 rfl rfl rfl ?_
 intro w0 D hw0
 refine Zd (Za (ya rfl rfl (Zf (ρ' := [(0, _)]) ⟨rfl, trivial⟩ ?_)))
 refine Zc (Zd (Za (ym rfl rfl (Zg (Zav rfl Tryz.f147' Tryz.z147 (ps := [(_, _), (_, _)]) rfl (vs := [_, _]) rfl) rfl ?_))))
 refine Zg (Zav rfl Tryz.f147' Tryz.z147 (ps := [(_, _), (_, _)]) rfl (vs := [_, _]) rfl) rfl ?_
 refine Zg (Zav rfl Tryz.f147' Tryz.z147 (ps := [(_, _), (_, _)]) rfl (vs := [_, _]) rfl) rfl ?_
 refine Zg (Zav rfl Tryz.f147' Tryz.z147 (ps := [(_, _), (_, _)]) rfl (vs := [_, _]) rfl) rfl ?_
 refine Zg (Zav rfl Tryz.f147' Tryz.z147 (ps := [(_, _), (_, _)]) rfl (vs := [_, _]) rfl) rfl ?_
 refine Zg (Zav rfl Tryz.f147' Tryz.z147 (ps := [(_, _), (_, _)]) rfl (vs := [_, _]) rfl) rfl ?_
 refine Zg (Zav rfl Tryz.f147' Tryz.z147 (ps := [(_, _), (_, _)]) rfl (vs := [_, _]) rfl) rfl ?_
 refine Zg (Zav rfl Tryz.f147' Tryz.z147 (ps := [(_, _), (_, _)]) rfl (vs := [_, _]) rfl) rfl ?_
 refine Zg (Zav rfl Tryz.f147' Tryz.z147 (ps := [(_, _), (_, _)]) rfl (vs := [_, _]) rfl) rfl ?_
 refine Zg (Zav rfl Tryz.f147' Tryz.z147 (ps := [(_, _), (_, _)]) rfl (vs := [_, _]) rfl) rfl ?_
 refine Zg (Zav rfl Tryz.f147' Tryz.z147 (ps := [(_, _), (_, _)]) rfl (vs := [_, _]) rfl) rfl ?_
 refine Zg (Zav rfl Tryz.f147' Tryz.z147 (ps := [(_, _), (_, _)]) rfl (vs := [_, _]) rfl) rfl ?_
 refine Zg (Zav rfl Tryz.f147' Tryz.z147 (ps := [(_, _), (_, _)]) rfl (vs := [_, _]) rfl) rfl ?_
 refine Zg (Zav rfl Tryz.f147' Tryz.z147 (ps := [(_, _), (_, _)]) rfl (vs := [_, _]) rfl) rfl ?_
 refine Zt rfl rfl ?_
 refine Zag trivial Tryz.s148 Tryz.z147 (ps := [(_, _), (_, _), (_, _), (_, _), (_, _), (_, _), (_, _), (_, _), (_, _), (_, _), (_, _), (_, _), (_, _), (_, _)]) rfl (xs := [_, _, _, _, _, _, _, _, _, _, _, _, _, _, _, _, _, _, _, _, _, _, _, _, _, _, _, _]) rfl rfl rfl rfl rfl rfl rfl ?_
 refine Zba 18 rfl ?_
 intro ad18 cap18 u18 hle18z hsl18
 refine Zt rfl rfl ?_
 refine Zu (caps := []) trivial rfl rfl Tryz.c94 rfl (FnP.mono (inr_fn c _ [(65, 90), (97, 122), (170, 170), (181, 181), (186, 186), (192, 214), (216, 246), (248, 687), (880, 1327), (4256, 4351), (7680, 8191), (12353, 12538), (19968, 40959), (44032, 55203)] (by decide) u18 ⟨_, _, rfl, hsl18⟩) ?_)
 rintro v u1 hle1 ⟨b, rfl⟩
 refine ya rfl rfl (Zf (ρ' := [(2, _)]) ⟨rfl, trivial⟩ ?_)
 refine Zc (Zx (Zau (.tmp rfl) ?_))
 exact ⟨_, rfl⟩
theorem digit_fn (c : Int) (u : View) : FnP Tryz.prog 78 [.int .i64 c] u fun r _ => ∃ b, r = .bool b := by
 refine FnP.intro [.tmp 2] Tryz.func78 rfl rfl rfl ?_
 intro w0 D hw0
 refine Zd (Za (ya rfl rfl (Zf (ρ' := [(0, _)]) ⟨rfl, trivial⟩ ?_)))
 refine Zc (Zd (Za (ym rfl rfl (Zg (Zbs rfl rfl rfl) rfl (ym rfl rfl ?_)))))
 refine Zab 5 rfl (fun hg1_2 => ?_) (fun hg1_2 => ?_)
 ·
  refine Zj rfl rfl (ym rfl rfl (Zj rfl rfl (Zg (y_leq rfl rfl rfl) rfl (Zg (Zk rfl rfl rfl) rfl (ya rfl rfl (Zf (ρ' := [(2, _)]) ⟨rfl, trivial⟩ ?_))))))
  refine Zc (Zx (Zau (.tmp rfl) ?_))
  exact ⟨_, rfl⟩
 ·
  refine Zp rfl rfl rfl rfl (Zp rfl rfl rfl rfl (Zg (Zo rfl rfl rfl) rfl (ya rfl rfl (Zf (ρ' := [(2, _)]) ⟨rfl, trivial⟩ ?_))))
  refine Zc (Zx (Zau (.tmp rfl) ?_))
  exact ⟨_, rfl⟩
theorem space_fn (c : Int) (u : View) : FnP Tryz.prog 91 [.int .i64 c] u fun r _ => ∃ b, r = .bool b := by
 refine FnP.intro [.tmp 2] Tryz.func91 rfl rfl rfl ?_
 intro w0 D hw0
 refine Zd (Za (ya rfl rfl (Zf (ρ' := [(0, _)]) ⟨rfl, trivial⟩ ?_)))
 refine Zc (Zd (Za (ym rfl rfl (Zg (Zay rfl rfl rfl) rfl (ym rfl rfl ?_)))))
 refine Zab 5 rfl (fun hg1_2 => ?_) (fun hg1_2 => ?_)
 ·
  refine Zp rfl rfl rfl rfl (Zp rfl rfl rfl rfl (Zg (Zk rfl rfl rfl) rfl (ya rfl rfl (Zf (ρ' := [(2, _)]) ⟨rfl, trivial⟩ ?_))))
  refine Zc (Zx (Zau (.tmp rfl) ?_))
  exact ⟨_, rfl⟩
 ·
  refine Zj rfl rfl (ym rfl rfl (Zj rfl rfl (Zg (Zay rfl rfl rfl) rfl (Zg (Zo rfl rfl rfl) rfl (ya rfl rfl (Zf (ρ' := [(2, _)]) ⟨rfl, trivial⟩ ?_))))))
  refine Zc (Zx (Zau (.tmp rfl) ?_))
  exact ⟨_, rfl⟩
theorem lowerC_fn (c : Int) (hc : Big c) (u : View) : FnP Tryz.prog 92 [.int .i64 c] u fun r _ => ∃ z, r = .int .i64 z := by
 unfold Big at hc
 refine FnP.intro [.tmp 2] Tryz.func92 rfl rfl rfl ?_
 intro w0 D hw0
 refine Zd (Za (ya rfl rfl (Zf (ρ' := [(0, _)]) ⟨rfl, trivial⟩ ?_)))
 refine Zc (Zd (Zv ?_))
 refine Zbr (fun ρ σ uci5 => ∃ (bb : Bool), VLe u uci5 ∧ σ = [] ∧ ρ = [(0, .v (.int .i64 c)), (3, .v (.bool bb))] ∧ (u = uci5)) ?_ ?_
 ·
  refine Zd (Za ?_)
  refine Zbb 6 9 (fun _ => True) (ρk := [(0, _)]) ⟨rfl, trivial⟩ ?_ fun mb1_5 hm1_5 => ?_
  ·
   refine ym rfl rfl (Zg (Zbs rfl rfl rfl) rfl (ym rfl rfl ?_))
   refine Zab 6 rfl (fun hg1_2 => ?_) (fun hg1_2 => ?_)
   ·
    refine Zj rfl rfl (ym rfl rfl (Zj rfl rfl (Zg (y_leq rfl rfl rfl) rfl (Zg (Zk rfl rfl rfl) rfl ?_))))
    exact Zaf rfl ⟨rfl, trivial⟩ (trivial)
   ·
    refine Zp rfl rfl rfl rfl (Zp rfl rfl rfl rfl (Zg (Zo rfl rfl rfl) rfl ?_))
    exact Zaf rfl ⟨rfl, trivial⟩ (trivial)
  refine ya rfl rfl (Zf (ρ' := [(0, _), (3, _)]) ⟨rfl, rfl, trivial⟩ ?_)
  refine Zc ?_
  refine Zr rfl (fun hb1 => ?_) (fun hb1 => ?_)
  ·
   refine Zs (Zae ?_)
   refine ⟨[(0, _), (3, _)], [], ⟨rfl, rfl, trivial⟩, trivial, _, (VLe.refl _), rfl, rfl, ?_⟩
   rfl
  ·
   refine Zd (Za ?_)
   refine Zbb 10 19 (fun _ => True) (ρk := [(0, _)]) ⟨rfl, trivial⟩ ?_ fun mb2_9 hm2_9 => ?_
   ·
    refine ym rfl rfl (Zg (Zbs rfl rfl rfl) rfl (ym rfl rfl ?_))
    refine Zab 12 rfl (fun hg2_2 => ?_) (fun hg2_2 => ?_)
    ·
     refine Zj rfl rfl (ym rfl rfl (Zj rfl rfl (Zg (y_leq rfl rfl rfl) rfl (Zg (Zk rfl rfl rfl) rfl (ym rfl rfl ?_)))))
     refine Zab 16 rfl (fun hg2_6 => ?_) (fun hg2_6 => ?_)
     ·
      refine Zj rfl rfl (ym rfl rfl (Zj rfl rfl (Zg (y_neq rfl rfl rfl) rfl (Zg (Zk rfl rfl rfl) rfl ?_))))
      exact Zaf rfl ⟨rfl, trivial⟩ (trivial)
     ·
      refine Zp rfl rfl rfl rfl (Zp rfl rfl rfl rfl (Zg (Zo rfl rfl rfl) rfl ?_))
      exact Zaf rfl ⟨rfl, trivial⟩ (trivial)
    ·
     refine Zp rfl rfl rfl rfl (Zp rfl rfl rfl rfl (Zg (Zo rfl rfl rfl) rfl (ym rfl rfl (Zp rfl rfl rfl rfl (Zp rfl rfl rfl rfl (Zg (Zo rfl rfl rfl) rfl ?_))))))
     exact Zaf rfl ⟨rfl, trivial⟩ (trivial)
   refine ya rfl rfl (Zf (ρ' := [(0, _), (3, _)]) ⟨rfl, rfl, trivial⟩ ?_)
   refine Zc ?_
   refine Zr rfl (fun hb2 => ?_) (fun hb2 => ?_)
   ·
    refine Zs (Zae ?_)
    refine ⟨[(0, _), (3, _)], [], ⟨rfl, rfl, trivial⟩, trivial, _, (VLe.refl _), rfl, rfl, ?_⟩
    rfl
   ·
    refine Zd (Za ?_)
    refine Zbb 10 29 (fun _ => True) (ρk := [(0, _)]) ⟨rfl, trivial⟩ ?_ fun mb3_9 hm3_9 => ?_
    ·
     refine ym rfl rfl (Zg (Zbs rfl rfl rfl) rfl (ym rfl rfl ?_))
     refine Zab 22 rfl (fun hg3_2 => ?_) (fun hg3_2 => ?_)
     ·
      refine Zj rfl rfl (ym rfl rfl (Zj rfl rfl (Zg (y_leq rfl rfl rfl) rfl (Zg (Zk rfl rfl rfl) rfl (ym rfl rfl ?_)))))
      refine Zab 26 rfl (fun hg3_6 => ?_) (fun hg3_6 => ?_)
      ·
       refine Zj rfl rfl (ym rfl rfl (Zj rfl rfl (Zg (y_neq rfl rfl rfl) rfl (Zg (Zk rfl rfl rfl) rfl ?_))))
       exact Zaf rfl ⟨rfl, trivial⟩ (trivial)
      ·
       refine Zp rfl rfl rfl rfl (Zp rfl rfl rfl rfl (Zg (Zo rfl rfl rfl) rfl ?_))
       exact Zaf rfl ⟨rfl, trivial⟩ (trivial)
     ·
      refine Zp rfl rfl rfl rfl (Zp rfl rfl rfl rfl (Zg (Zo rfl rfl rfl) rfl (ym rfl rfl (Zp rfl rfl rfl rfl (Zp rfl rfl rfl rfl (Zg (Zo rfl rfl rfl) rfl ?_))))))
      exact Zaf rfl ⟨rfl, trivial⟩ (trivial)
    refine ya rfl rfl (Zf (ρ' := [(0, _), (3, _)]) ⟨rfl, rfl, trivial⟩ ?_)
    refine Zc ?_
    refine Zr rfl (fun hb3 => ?_) (fun hb3 => ?_)
    ·
     refine Zs (Zae ?_)
     refine ⟨[(0, _), (3, _)], [], ⟨rfl, rfl, trivial⟩, trivial, _, (VLe.refl _), rfl, rfl, ?_⟩
     rfl
    ·
     refine Za ?_
     refine Zbb 6 35 (fun _ => True) (ρk := [(0, _)]) ⟨rfl, trivial⟩ ?_ fun mb4_5 hm4_5 => ?_
     ·
      refine ym rfl rfl (Zg (Zbs rfl rfl rfl) rfl (ym rfl rfl ?_))
      refine Zab 32 rfl (fun hg4_2 => ?_) (fun hg4_2 => ?_)
      ·
       refine Zj rfl rfl (ym rfl rfl (Zj rfl rfl (Zg (y_leq rfl rfl rfl) rfl (Zg (Zk rfl rfl rfl) rfl ?_))))
       exact Zaf rfl ⟨rfl, trivial⟩ (trivial)
      ·
       refine Zp rfl rfl rfl rfl (Zp rfl rfl rfl rfl (Zg (Zo rfl rfl rfl) rfl ?_))
       exact Zaf rfl ⟨rfl, trivial⟩ (trivial)
     refine ya rfl rfl (Zf (ρ' := [(0, _), (3, _)]) ⟨rfl, rfl, trivial⟩ ?_)
     refine Zae ?_
     refine ⟨[(0, _), (3, _)], [], ⟨rfl, rfl, trivial⟩, trivial, _, (VLe.refl _), rfl, rfl, ?_⟩
     rfl
 ·
  rintro ρ σ uci5 ⟨bb, hlci5, rfl, rfl, rfl⟩
  refine Zr rfl (fun hb4 => ?_) (fun hb4 => ?_)
  ·
   refine Zd (Za (ym rfl rfl (Zg (Zap rfl rfl rfl (Zn (by omega))) rfl ?_)))
   refine ya rfl rfl (Zf (ρ' := [(2, _)]) ⟨rfl, trivial⟩ ?_)
   refine Zc (Zx (Zq (Zh (Zau (.tmp rfl) ?_))))
   exact ⟨_, rfl⟩
  ·
   refine Zd (Za ?_)
   refine Zbb 6 44 (fun _ => True) (ρk := [(0, _)]) ⟨rfl, trivial⟩ ?_ fun mb6_5 hm6_5 => ?_
   ·
    refine ym rfl rfl (Zg (Zbs rfl rfl rfl) rfl (ym rfl rfl ?_))
    refine Zab 41 rfl (fun hg6_2 => ?_) (fun hg6_2 => ?_)
    ·
     refine Zj rfl rfl (ym rfl rfl (Zj rfl rfl (Zg (y_leq rfl rfl rfl) rfl (Zg (Zk rfl rfl rfl) rfl ?_))))
     exact Zaf rfl ⟨rfl, trivial⟩ (trivial)
    ·
     refine Zp rfl rfl rfl rfl (Zp rfl rfl rfl rfl (Zg (Zo rfl rfl rfl) rfl ?_))
     exact Zaf rfl ⟨rfl, trivial⟩ (trivial)
   refine ya rfl rfl (Zf (ρ' := [(0, _), (38, _)]) ⟨rfl, rfl, trivial⟩ ?_)
   refine Zc ?_
   refine Zr rfl (fun hb6 => ?_) (fun hb6 => ?_)
   ·
    refine Zd (Za (ym rfl rfl (Zg (Zap rfl rfl rfl (Zn (by omega))) rfl ?_)))
    refine ya rfl rfl (Zf (ρ' := [(2, _)]) ⟨rfl, trivial⟩ ?_)
    refine Zc (Zx (Zq (Zh (Zau (.tmp rfl) ?_))))
    exact ⟨_, rfl⟩
   ·
    refine Zs (Zaj (Zc (Zd (Za (ym rfl rfl (ya rfl rfl (Zf (ρ' := [(2, _)]) ⟨rfl, trivial⟩ ?_)))))))
    refine Zc (Zx (Zau (.tmp rfl) ?_))
    exact ⟨_, rfl⟩
theorem u8c (e : Int) : ∃ c : UInt8, IntKind.u8.wrap e = (c.toNat : Int) := by
 have h : IntKind.u8.wrap e = e % 256 := by rw [IntKind.wrap_u8]
 refine ⟨UInt8.ofNat (e % 256).toNat, ?_⟩
 rw [h]
 have := Int.emod_nonneg e (show (256 : Int) ≠ 0 by decide)
 have := Int.emod_lt_of_pos e (show (0 : Int) < 256 by decide)
 rw [UInt8.toNat_ofNat']
 omega
def badC (c : Int) : Prop := c < 0 ∨ 1114111 < c ∨ 55296 ≤ c ∧ c ≤ 57343
instance (c : Int) : Decidable (badC c) := by unfold badC; exact inferInstance
def BytesR (r : Value) (u' : View) : Prop := ∃ l : Bs, l.length ≤ 4 ∧ IsSl u' r l.length 1 (bytesC l)
theorem bytes_step (c : Int) (u : View) (ih : badC c → FnP Tryz.prog 102 [.int .i64 65533] u BytesR) : FnP Tryz.prog 102 [.int .i64 c] u BytesR := by
 refine FnP.intro [.tmp 2] Tryz.func102 rfl rfl rfl ?_
 intro w0 D hw0
 refine Zd (Za (ya rfl rfl (Zf (ρ' := [(0, _)]) ⟨rfl, trivial⟩ ?_)))
 refine Zc (Zd (Zv (Zd ?_)))
 refine Zbo 3 (decide (badC c)) (ρk := [(0, _)]) ⟨rfl, trivial⟩ ?_ ?_
 ·
  refine Za (ym rfl rfl (Zg (Zaz rfl rfl rfl) rfl (ym rfl rfl ?_)))
  refine Zab 6 rfl (fun hg1_2 => ?_) (fun hg1_2 => ?_)
  ·
   refine Zp rfl rfl rfl rfl (Zp rfl rfl rfl rfl (Zg (Zk rfl rfl rfl) rfl (ym rfl rfl ?_)))
   iterate 3 refine Zp rfl rfl rfl rfl ?_
   refine Zax rfl rfl rfl (Zax rfl rfl rfl (Zp rfl rfl rfl rfl (Zg (Zk rfl rfl rfl) rfl (ya rfl rfl ?_))))
   exact Zal rfl ⟨rfl, trivial⟩ (by (first | refine (decide_eq_true ?_).symm | refine (decide_eq_false ?_).symm | refine decide_eq_decide.2 ?_ | refine decide_eq_true ?_ | refine decide_eq_false ?_) <;> (try unfold badC) <;> (try simp only [decide_eq_true_eq, decide_eq_false_iff_not] at *) <;> omega)
  ·
   refine Zj rfl rfl (ym rfl rfl (Zj rfl rfl (Zg (y_gtr rfl rfl rfl) rfl (Zg (Zo rfl rfl rfl) rfl (ym rfl rfl ?_)))))
   refine Zab 10 rfl (fun hg1_6 => ?_) (fun hg1_6 => ?_)
   ·
    iterate 3 refine Zp rfl rfl rfl rfl ?_
    refine Zax rfl rfl rfl (Zax rfl rfl rfl (Zp rfl rfl rfl rfl (Zg (Zk rfl rfl rfl) rfl (ya rfl rfl ?_))))
    exact Zal rfl ⟨rfl, trivial⟩ (by (first | refine (decide_eq_true ?_).symm | refine (decide_eq_false ?_).symm | refine decide_eq_decide.2 ?_ | refine decide_eq_true ?_ | refine decide_eq_false ?_) <;> (try unfold badC) <;> (try simp only [decide_eq_true_eq, decide_eq_false_iff_not] at *) <;> omega)
   ·
    refine Zj rfl rfl (ym rfl rfl (Zj rfl rfl (Zg (Zbs rfl rfl rfl) rfl (Zj rfl rfl (ym rfl rfl ?_)))))
    refine Zab 13 rfl (fun hg1_9 => ?_) (fun hg1_9 => ?_)
    ·
     refine Zj rfl rfl (ym rfl rfl (Zj rfl rfl (Zg (y_leq rfl rfl rfl) rfl (Zj rfl rfl (Zg (Zk rfl rfl rfl) rfl (Zg (Zo rfl rfl rfl) rfl (ya rfl rfl ?_)))))))
     exact Zal rfl ⟨rfl, trivial⟩ (by (first | refine (decide_eq_true ?_).symm | refine (decide_eq_false ?_).symm | refine decide_eq_decide.2 ?_ | refine decide_eq_true ?_ | refine decide_eq_false ?_) <;> (try unfold badC) <;> (try simp only [decide_eq_true_eq, decide_eq_false_iff_not] at *) <;> omega)
    ·
     refine Zp rfl rfl rfl rfl (Zp rfl rfl rfl rfl (Zj rfl rfl (Zg (Zo rfl rfl rfl) rfl (Zg (Zo rfl rfl rfl) rfl (ya rfl rfl ?_)))))
     exact Zal rfl ⟨rfl, trivial⟩ (by (first | refine (decide_eq_true ?_).symm | refine (decide_eq_false ?_).symm | refine decide_eq_decide.2 ?_ | refine decide_eq_true ?_ | refine decide_eq_false ?_) <;> (try unfold badC) <;> (try simp only [decide_eq_true_eq, decide_eq_false_iff_not] at *) <;> omega)
 refine Zc ?_
 refine Zr rfl (fun hb1 => ?_) (fun hb1 => ?_)
 ·
  have hbad := of_decide_eq_true hb1
  refine Zd (Za (Zt rfl rfl ?_))
  refine Zbl (caps := []) trivial rfl rfl Tryz.c102 rfl (FnP.mono (ih hbad) ?_)
  rintro v u1 hle0 hr hle1
  refine ya rfl rfl (Zf (ρ' := [(2, _)]) ⟨rfl, trivial⟩ ?_)
  refine Zc (Zx (Zq (Zh (Zau (.tmp rfl) ?_))))
  exact hr
 ·
  have hnb := of_decide_eq_false hb1; unfold badC at hnb
  refine Zd (Za (ym rfl rfl (Zg (Zaz rfl rfl rfl) rfl (ya rfl rfl (Zf (ρ' := [(0, _), (19, _)]) ⟨rfl, rfl, trivial⟩ ?_)))))
  refine Zc ?_
  refine Zr rfl (fun hb3 => ?_) (fun hb3 => ?_)
  ·
   refine Zd (Za (ym rfl rfl (Zg (Zbv rfl Tryz.u3 Tryz.u5 rfl rfl) rfl (Zt rfl rfl ?_))))
   refine Zag trivial Tryz.s71 Tryz.z5 (ps := [(_, _)]) rfl (xs := [_]) rfl rfl rfl rfl rfl rfl rfl ?_
   refine Zba 24 rfl ?_
   intro ad24 cap24 u24 hle24z hsl24
   refine ya rfl rfl (Zf (ρ' := [(2, _)]) ⟨rfl, trivial⟩ ?_)
   refine Zc (Zx (Zq (Zh (Zau (.tmp rfl) ?_))))
   obtain ⟨c1, h1⟩ := u8c c
   rw [h1] at hsl24
   exact ⟨[c1], by simp, ⟨_, _, rfl, hsl24⟩⟩
  ·
   refine Zd (Za (ym rfl rfl (Zg (Zaz rfl rfl rfl) rfl (ya rfl rfl (Zf (ρ' := [(0, _), (25, _)]) ⟨rfl, rfl, trivial⟩ ?_)))))
   refine Zc ?_
   refine Zr rfl (fun hb5 => ?_) (fun hb5 => ?_)
   ·
    refine Zd (Za (ym rfl rfl (Zg (y_quoE rfl rfl rfl (by omega) (by omega) (by omega)) rfl (Zg (Zap rfl rfl rfl (Zn (by omega))) rfl ?_))))
    refine Zg (Zbv rfl Tryz.u3 Tryz.u5 rfl rfl) rfl (ym rfl rfl (Zg (y_remE rfl rfl rfl (by omega) (by omega)) rfl (Zg (Zap rfl rfl rfl (Zn (by omega))) rfl ?_)))
    refine Zg (Zbv rfl Tryz.u3 Tryz.u5 rfl rfl) rfl (Zt rfl rfl ?_)
    refine Zag trivial Tryz.s71 Tryz.z5 (ps := [(_, _), (_, _)]) rfl (xs := [_, _]) rfl rfl rfl rfl rfl rfl rfl ?_
    refine Zba 36 rfl ?_
    intro ad36 cap36 u36 hle36z hsl36
    refine ya rfl rfl (Zf (ρ' := [(2, _)]) ⟨rfl, trivial⟩ ?_)
    refine Zc (Zx (Zq (Zh (Zau (.tmp rfl) ?_))))
    obtain ⟨c1, h1⟩ := u8c (192 + c / 64)
    obtain ⟨c2, h2⟩ := u8c (128 + c % 64)
    rw [h1, h2] at hsl36
    exact ⟨[c1, c2], by simp, ⟨_, _, rfl, hsl36⟩⟩
   ·
    refine Zd (Za (ym rfl rfl (Zg (Zaz rfl rfl rfl) rfl (ya rfl rfl (Zf (ρ' := [(0, _), (37, _)]) ⟨rfl, rfl, trivial⟩ ?_)))))
    refine Zc ?_
    refine Zr rfl (fun hb7 => ?_) (fun hb7 => ?_)
    ·
     refine Zd (Za (ym rfl rfl (Zg (y_quoE rfl rfl rfl (by omega) (by omega) (by omega)) rfl (Zg (Zap rfl rfl rfl (Zn (by omega))) rfl ?_))))
     refine Zg (Zbv rfl Tryz.u3 Tryz.u5 rfl rfl) rfl (ym rfl rfl (Zg (y_quoE rfl rfl rfl (by omega) (by omega) (by omega)) rfl (Zg (y_remE rfl rfl rfl (by omega) (by omega)) rfl (Zg (Zap rfl rfl rfl (Zn (by omega))) rfl ?_))))
     refine Zg (Zbv rfl Tryz.u3 Tryz.u5 rfl rfl) rfl (ym rfl rfl (Zg (y_remE rfl rfl rfl (by omega) (by omega)) rfl (Zg (Zap rfl rfl rfl (Zn (by omega))) rfl ?_)))
     refine Zg (Zbv rfl Tryz.u3 Tryz.u5 rfl rfl) rfl (Zt rfl rfl ?_)
     refine Zag trivial Tryz.s71 Tryz.z5 (ps := [(_, _), (_, _), (_, _)]) rfl (xs := [_, _, _]) rfl rfl rfl rfl rfl rfl rfl ?_
     refine Zba 53 rfl ?_
     intro ad53 cap53 u53 hle53z hsl53
     refine ya rfl rfl (Zf (ρ' := [(2, _)]) ⟨rfl, trivial⟩ ?_)
     refine Zc (Zx (Zq (Zh (Zau (.tmp rfl) ?_))))
     obtain ⟨c1, h1⟩ := u8c (224 + c / 4096)
     obtain ⟨c2, h2⟩ := u8c (128 + c / 64 % 64)
     obtain ⟨c3, h3⟩ := u8c (128 + c % 64)
     rw [h1, h2, h3] at hsl53
     exact ⟨[c1, c2, c3], by simp, ⟨_, _, rfl, hsl53⟩⟩
    ·
     refine Zs (Zaj (Zc (Zd (Za (ym rfl rfl (Zg (y_quoE rfl rfl rfl (by omega) (by omega) (by omega)) rfl (Zg (Zap rfl rfl rfl (Zn (by omega))) rfl ?_)))))))
     refine Zg (Zbv rfl Tryz.u3 Tryz.u5 rfl rfl) rfl (ym rfl rfl (Zg (y_quoE rfl rfl rfl (by omega) (by omega) (by omega)) rfl (Zg (y_remE rfl rfl rfl (by omega) (by omega)) rfl (Zg (Zap rfl rfl rfl (Zn (by omega))) rfl ?_))))
     refine Zg (Zbv rfl Tryz.u3 Tryz.u5 rfl rfl) rfl (ym rfl rfl (Zg (y_quoE rfl rfl rfl (by omega) (by omega) (by omega)) rfl (Zg (y_remE rfl rfl rfl (by omega) (by omega)) rfl (Zg (Zap rfl rfl rfl (Zn (by omega))) rfl ?_))))
     refine Zg (Zbv rfl Tryz.u3 Tryz.u5 rfl rfl) rfl (ym rfl rfl (Zg (y_remE rfl rfl rfl (by omega) (by omega)) rfl (Zg (Zap rfl rfl rfl (Zn (by omega))) rfl ?_)))
     refine Zg (Zbv rfl Tryz.u3 Tryz.u5 rfl rfl) rfl (Zt rfl rfl ?_)
     refine Zag trivial Tryz.s71 Tryz.z5 (ps := [(_, _), (_, _), (_, _), (_, _)]) rfl (xs := [_, _, _, _]) rfl rfl rfl rfl rfl rfl rfl ?_
     refine Zba 72 rfl ?_
     intro ad72 cap72 u72 hle72z hsl72
     refine ya rfl rfl (Zf (ρ' := [(2, _)]) ⟨rfl, trivial⟩ ?_)
     refine Zc (Zx (Zau (.tmp rfl) ?_))
     obtain ⟨c1, h1⟩ := u8c (240 + c / 262144)
     obtain ⟨c2, h2⟩ := u8c (128 + c / 4096 % 64)
     obtain ⟨c3, h3⟩ := u8c (128 + c / 64 % 64)
     obtain ⟨c4, h4⟩ := u8c (128 + c % 64)
     rw [h1, h2, h3, h4] at hsl72
     exact ⟨[c1, c2, c3, c4], by simp, ⟨_, _, rfl, hsl72⟩⟩
theorem bytes_fn (c : Int) (u : View) : FnP Tryz.prog 102 [.int .i64 c] u BytesR :=
 bytes_step c u fun _ => bytes_step 65533 u fun h => absurd h (by decide)
theorem ktext_fn (l : List Int) (hl : l.length ≤ 200000000) (v : Value) (u : View) (h : IsSl u v l.length 1 (intsC l)) : FnP Tryz.prog 93 [v] u fun r _ => ∃ s : Bs, r = str s := by
 obtain ⟨ad, cap, rfl, h1⟩ := h
 refine FnP.intro [.tmp 2] Tryz.func93 rfl rfl rfl ?_
 intro w0 D hw0
 refine Zd (Za (ya rfl rfl (Zf (ρ' := [(0, _)]) ⟨rfl, trivial⟩ ?_)))
 refine Zc (Zd (Za (ya rfl rfl ?_)))
 refine rl_own_nil 3 503 5 1 rfl rfl rfl ?_
 refine Zf (ρ' := [(0, _), (3, _)]) ⟨rfl, rfl, trivial⟩ ?_
 refine Zc (Zd (Zd (Za (ym rfl rfl (Zg (Zah rfl rfl Tryz.s64 rfl) rfl (ym rfl rfl (Zf (ρ' := [(3, _), (6, _), (7, _), (8, _)]) ⟨rfl, rfl, rfl, rfl, trivial⟩ ?_)))))))
 refine Zc (Zv ?_)
 refine Zas (fun m_0 ρ σ u' => ∃ i : Nat, i + m_0 = l.length ∧ VLe u u' ∧ ∃ (w : Bs), σ = [(503, (none, .row 5 1 w.length (bytesC w)))] ∧ ρ = [(3, .s 503), (6, .v (.slice ad l.length cap)), (7, .v (.int .i64 l.length)), (8, .v (.int .i64 i))] ∧ (w.length ≤ 4 * i)) (l.length) ?_ ?_
 ·
  refine ⟨[(3, _), (6, _), (7, _), (8, _)], [(503, _)], ⟨rfl, rfl, rfl, rfl, trivial⟩, ⟨rfl, trivial⟩, 0, by omega, VLe.refl _, [], rfl, rfl, ?_⟩
  exact Nat.le_refl _
 ·
  rintro m ρ σ u' ⟨i, hi3, hle3, w, rfl, rfl, hwl⟩
  refine Zd (Za (Zg (Zaz rfl rfl rfl) rfl (Zf (ρ' := [(3, _), (6, _), (7, _), (8, _), (9, _)]) ⟨rfl, rfl, rfl, rfl, rfl, trivial⟩ ?_)))
  refine Zc (Zd ?_)
  refine Zr rfl (fun hb3 => ?_) (fun hb3 => ?_)
  ·
   have hlt : i < l.length := by have := of_decide_eq_true hb3; omega
   have h1 := h1.mono hle3
   have hcc := cut_intsC (List.getElem?_eq_getElem hlt)
   refine Zs (Zc (Zd (Zv (Zd (Za (Zg (Zad rfl Tryz.s64 rfl rfl (by assumption) (by first | rfl | omega) (by omega)) rfl (Zg (Zac rfl Tryz.k3 rfl (by assumption) (by omega) (by assumption) (vs := [_]) rfl rfl rfl rfl) rfl ?_)))))))
   refine ya rfl rfl (Zf (ρ' := [(3, _), (5, _), (6, _), (7, _), (8, _)]) ⟨rfl, rfl, rfl, rfl, rfl, trivial⟩ ?_)
   refine Zc (Za (ym rfl rfl (ym rfl rfl (Zt rfl rfl ?_))))
   refine Zbl (caps := []) trivial rfl rfl Tryz.c102 rfl (FnP.mono (bytes_fn _ _) ?_)
   rintro v uB hle0 ⟨bl, hbl, ⟨bad', bcap, rfl, hb1'⟩⟩ hleB
   refine Zt rfl rfl ?_
   refine do_append_v trivial rfl rfl Tryz.s71 Tryz.z5 rfl rfl rfl rfl rfl (by assumption) (by simp [bytesC, Lib.byteCells, Value.oneCell']) (by omega) (by omega) (ρ' := [(6, _), (7, _), (8, _)]) ⟨rfl, rfl, rfl, trivial⟩ rfl rfl rfl ?_
   refine ya rfl rfl ?_
   refine rl_ren 15 503 rfl rfl rfl ?_
   refine Zf (ρ' := [(3, _), (6, _), (7, _), (8, _)]) ⟨rfl, rfl, rfl, rfl, trivial⟩ ?_
   refine Zaj (Zc (Za (Zg (Zap rfl rfl rfl (Zn (by omega))) rfl ?_)))
   refine ym rfl rfl (Zf (ρ' := [(3, _), (6, _), (7, _), (8, _)]) ⟨rfl, rfl, rfl, rfl, trivial⟩ ?_)
   refine Zae ?_
   refine ⟨m - 1, [(3, _), (6, _), (7, _), (8, _)], [(503, _)], by omega, ⟨rfl, rfl, rfl, rfl, trivial⟩, ⟨rfl, trivial⟩, i + 1, by omega, (hle3.trans hleB), w ++ bl, (by rw [List.length_append, bytesC_append]), rfl, ?_⟩
   rw [List.length_append]; omega
  ·
   skip
   refine Zao ?_
   refine Zm (Zm ?_)
   refine Zaa ?_
   refine Zc (Zd (Za (ym rfl rfl (Zg (y_convBS_s rfl Tryz.s71 Tryz.u5 Tryz.str9 rfl rfl rfl rfl) rfl (ya rfl rfl (Zf (ρ' := [(2, _)]) ⟨rfl, trivial⟩ ?_))))))
   refine Zc (Zx (Zau (.tmp rfl) ?_))
   exact ⟨_, rfl⟩
theorem intsC_append (a b : List Int) : intsC (a ++ b) = intsC a ++ intsC b := by simp [intsC]
theorem fold_fn (s : Bs) (hs : s.length ≤ 10000000) (u : View) : FnP Tryz.prog 75 [str s] u fun r _ => ∃ t : Bs, r = str t := by
 refine FnP.intro [.tmp 2] Tryz.func75 rfl rfl rfl ?_
 intro w0 D hw0
 refine Zd (Za (ya rfl rfl (Zf (ρ' := [(0, _)]) ⟨rfl, trivial⟩ ?_)))
 refine Zc (Zd (Za (ya rfl rfl ?_)))
 refine rl_own_nil 3 503 3 1 rfl rfl rfl ?_
 refine Zf (ρ' := [(0, _), (3, _)]) ⟨rfl, rfl, trivial⟩ ?_
 refine Zc (Zd (Za (ya rfl rfl (Zf (ρ' := [(0, _), (3, _), (4, _)]) ⟨rfl, rfl, rfl, trivial⟩ ?_))))
 refine Zc (Zd (Zd (Za (ym rfl rfl (Zt rfl rfl ?_)))))
 refine Zbl (caps := []) trivial rfl rfl Tryz.c73 rfl (FnP.mono (kpoints_fn s (by omega) u) ?_)
 rintro v uP hle0 ⟨l, ⟨ad, cap, rfl, h1⟩, hl, hlb⟩ hleP
 refine Zg (Zah rfl rfl Tryz.s121 rfl) rfl (ym rfl rfl (Zf (ρ' := [(3, _), (4, _), (8, _), (9, _), (10, _)]) ⟨rfl, rfl, rfl, rfl, rfl, trivial⟩ ?_))
 refine Zc (Zv ?_)
 refine Zas (fun m_0 ρ σ u' => ∃ i : Nat, i + m_0 = l.length ∧ VLe uP u' ∧ ∃ (gp : Bool) (w : List Int), σ = [(503, (none, .row 3 1 w.length (intsC w)))] ∧ ρ = [(3, .s 503), (4, .v (.bool gp)), (8, .v (.slice ad l.length cap)), (9, .v (.int .i64 l.length)), (10, .v (.int .i64 i))] ∧ (uP = u' ∧ w.length ≤ 2 * i)) (l.length) ?_ ?_
 ·
  refine ⟨[(3, _), (4, _), (8, _), (9, _), (10, _)], [(503, _)], ⟨rfl, rfl, rfl, rfl, rfl, trivial⟩, ⟨rfl, trivial⟩, 0, by omega, VLe.refl _, false, [], rfl, rfl, ?_⟩
  exact ⟨rfl, Nat.le_refl _⟩
 ·
  rintro m ρ σ u' ⟨i, hi4, hle4, gp, w, rfl, rfl, ⟨rfl, hwl⟩⟩
  refine Zd (Za (Zg (Zaz rfl rfl rfl) rfl (Zf (ρ' := [(3, _), (4, _), (8, _), (9, _), (10, _), (11, _)]) ⟨rfl, rfl, rfl, rfl, rfl, rfl, trivial⟩ ?_)))
  refine Zc (Zd ?_)
  refine Zr rfl (fun hb4 => ?_) (fun hb4 => ?_)
  ·
   have hlt : i < l.length := by have := of_decide_eq_true hb4; omega
   have hcc := cut_ptsC (List.getElem?_eq_getElem hlt)
   have hbig := hlb _ (List.getElem_mem hlt)
   refine Zs (Zc (Zd (Zv (Zd (Za (Zg (Zad rfl Tryz.s121 rfl rfl (by assumption) (by first | rfl | omega) (by omega)) rfl (Zg (Zac rfl Tryz.k124 rfl (by assumption) (by omega) (by assumption) (vs := [_, _]) rfl rfl rfl rfl) rfl (Zt rfl rfl ?_))))))))
   refine Zaw trivial Tryz.z124 rfl rfl rfl ?_
   refine Zt rfl rfl ?_
   refine Zai trivial rfl Tryz.k124 rfl rfl rfl (vs := [_, _]) rfl rfl (by first | rfl | assumption | simp [Value.oneCell', str]) (Nat.le_of_ble_eq_true rfl) rfl ?_
   refine Zf (ρ' := [(3, _), (4, _), (6, _), (8, _), (9, _), (10, _)]) ⟨rfl, rfl, rfl, rfl, rfl, rfl, trivial⟩ ?_
   refine Zc (Zd (Zd (Za (Zg (Zi rfl Tryz.f124' rfl (by decide) rfl) rfl (Zg (Zl rfl Tryz.k3 rfl rfl rfl (vs := [_]) rfl rfl rfl) rfl (Zt rfl rfl ?_))))))
   refine Zu (caps := []) trivial rfl rfl Tryz.c91 rfl (FnP.mono (space_fn _ _) ?_)
   rintro v u1 hle1 ⟨b, rfl⟩
   refine Zf (ρ' := [(3, _), (4, _), (6, _), (8, _), (9, _), (10, _), (16, _)]) ⟨rfl, rfl, rfl, rfl, rfl, rfl, rfl, trivial⟩ ?_
   refine Zc ?_
   refine Zr rfl (fun hb6 => ?_) (fun hb6 => ?_)
   ·
    refine Zd (Za (ya rfl rfl (Zf (ρ' := [(3, _), (4, _), (8, _), (9, _), (10, _)]) ⟨rfl, rfl, rfl, rfl, rfl, trivial⟩ ?_)))
    refine Zc ?_
    refine Zao ?_
    refine Zm ?_
    refine Zaa ?_
    refine Zc (Za (Zg (Zap rfl rfl rfl (Zn (by omega))) rfl ?_))
    refine ym rfl rfl (Zf (ρ' := [(3, _), (4, _), (8, _), (9, _), (10, _)]) ⟨rfl, rfl, rfl, rfl, rfl, trivial⟩ ?_)
    refine Zae ?_
    first
    | (refine ⟨m - 1, [(3, _), (4, _), (8, _), (9, _), (10, _)], [(503, _)], by omega, ⟨rfl, rfl, rfl, rfl, rfl, trivial⟩, ⟨rfl, trivial⟩, i + 1, by omega, hle4, false, w2 ++ [z], (by rw [List.length_append, intsC_append]; rfl), rfl, rfl, by rw [List.length_append]; simp; omega⟩)
    | (refine ⟨m - 1, [(3, _), (4, _), (8, _), (9, _), (10, _)], [(503, _)], by omega, ⟨rfl, rfl, rfl, rfl, rfl, trivial⟩, ⟨rfl, trivial⟩, i + 1, by omega, hle4, true, w, rfl, rfl, rfl, by omega⟩)
   ·
    refine Zs (Zc (Zd (Zd (Za (ym rfl rfl (ym rfl rfl ?_))))))
    refine Zab 18 rfl (fun hg8_1 => ?_) (fun hg8_1 => ?_)
    ·
     refine Zj rfl rfl (ym rfl rfl (Zj rfl rfl (Zg (y_len_s rfl rfl Tryz.s64 rfl rfl) rfl (Zj rfl rfl (Zg (y_gtr rfl rfl rfl) rfl (Zg (Zk rfl rfl rfl) rfl (Zf (ρ' := [(3, _), (6, _), (8, _), (9, _), (10, _), (22, _)]) ⟨rfl, rfl, rfl, rfl, rfl, rfl, trivial⟩ ?_)))))))
     refine Zc ?_
     refine Zr rfl (fun hb8 => ?_) (fun hb8 => ?_)
     ·
      refine Za (ym rfl rfl (Zt rfl rfl ?_))
      refine Zag trivial Tryz.s64 Tryz.z3 (ps := [(_, _)]) rfl (xs := [_]) rfl rfl rfl rfl rfl rfl rfl ?_
      refine Zt rfl rfl ?_
      refine Zbg trivial rfl rfl Tryz.s64 Tryz.z3 rfl rfl rfl rfl rfl rfl (by first | rfl | assumption | simp [Value.oneCell', str]) (by omega) (by omega) (ρ' := [(6, _), (8, _), (9, _), (10, _)]) ⟨rfl, rfl, rfl, rfl, trivial⟩ rfl rfl rfl ?_
      refine ya rfl rfl ?_
      refine rl_ren 25 503 rfl rfl rfl ?_
      refine Zf (ρ' := [(3, _), (6, _), (8, _), (9, _), (10, _)]) ⟨rfl, rfl, rfl, rfl, rfl, trivial⟩ ?_
      refine Zc ?_
      refine Zbr (fun ρ σ uc11 => ∃ (w2 : List Int), VLe uP uc11 ∧ σ = [(503, (none, .row 3 1 w2.length (intsC w2))), (6, (none, .box [.int .i64 (l[i]).1, .int .i64 (l[i]).2]))] ∧ ρ = [(3, .s 503), (6, .p 6 0), (8, .v (.slice ad l.length cap)), (9, .v (.int .i64 l.length)), (10, .v (.int .i64 i)), (4, .v (.bool false))] ∧ (uP = uc11 ∧ w2.length ≤ 2 * i + 1)) ?_ ?_
      ·
       refine Za (ya rfl rfl (Zf (ρ' := [(3, _), (4, _), (6, _), (8, _), (9, _), (10, _)]) ⟨rfl, rfl, rfl, rfl, rfl, rfl, trivial⟩ ?_))
       refine Zae ?_
       first
        | (refine ⟨[(3, _), (6, _), (8, _), (9, _), (10, _), (4, _)], [(503, _), (6, _)], ⟨rfl, rfl, rfl, rfl, rfl, rfl, trivial⟩, ⟨rfl, rfl, trivial⟩, w ++ [32], (VLe.refl _), (by first | rfl | (rw [List.length_append, intsC_append]; rfl)), rfl, ?_⟩
           exact ⟨rfl, by rw [List.length_append]; simp; omega⟩)
        | (refine ⟨[(3, _), (6, _), (8, _), (9, _), (10, _), (4, _)], [(503, _), (6, _)], ⟨rfl, rfl, rfl, rfl, rfl, rfl, trivial⟩, ⟨rfl, rfl, trivial⟩, w, (VLe.refl _), (by first | rfl | (rw [List.length_append, intsC_append]; rfl)), rfl, ?_⟩
           exact ⟨rfl, by omega⟩)
      ·
       rintro ρ σ uc11 ⟨w2, hlc11, rfl, rfl, ⟨rfl, hw2⟩⟩
       refine Za (ym rfl rfl (Zg (Zi rfl Tryz.f124' rfl (by decide) rfl) rfl (Zg (Zl rfl Tryz.k3 rfl rfl rfl (vs := [_]) rfl rfl rfl) rfl (Zt rfl rfl ?_))))
       refine Zu (caps := []) trivial rfl rfl Tryz.c92 rfl (FnP.mono (lowerC_fn _ hbig _) ?_)
       rintro v u1 hle1 ⟨z, rfl⟩
       refine Zt rfl rfl ?_
       refine Zag trivial Tryz.s64 Tryz.z3 (ps := [(_, _)]) rfl (xs := [_]) rfl rfl rfl rfl rfl rfl rfl ?_
       refine Zt rfl rfl ?_
       refine Zbg trivial rfl rfl Tryz.s64 Tryz.z3 rfl rfl rfl rfl rfl rfl (by first | rfl | assumption | simp [Value.oneCell', str]) (by omega) (by omega) (ρ' := [(4, _), (8, _), (9, _), (10, _)]) ⟨rfl, rfl, rfl, rfl, trivial⟩ rfl rfl rfl ?_
       refine ya rfl rfl ?_
       refine rl_ren 31 503 rfl rfl rfl ?_
       refine Zf (ρ' := [(3, _), (4, _), (8, _), (9, _), (10, _)]) ⟨rfl, rfl, rfl, rfl, rfl, trivial⟩ ?_
       refine Zaj (Zc (Za (Zg (Zap rfl rfl rfl (Zn (by omega))) rfl ?_)))
       refine ym rfl rfl (Zf (ρ' := [(3, _), (4, _), (8, _), (9, _), (10, _)]) ⟨rfl, rfl, rfl, rfl, rfl, trivial⟩ ?_)
       refine Zae ?_
       first
       | (refine ⟨m - 1, [(3, _), (4, _), (8, _), (9, _), (10, _)], [(503, _)], by omega, ⟨rfl, rfl, rfl, rfl, rfl, trivial⟩, ⟨rfl, trivial⟩, i + 1, by omega, hle4, false, w2 ++ [z], (by rw [List.length_append, intsC_append]; rfl), rfl, rfl, by rw [List.length_append]; simp; omega⟩)
       | (refine ⟨m - 1, [(3, _), (4, _), (8, _), (9, _), (10, _)], [(503, _)], by omega, ⟨rfl, rfl, rfl, rfl, rfl, trivial⟩, ⟨rfl, trivial⟩, i + 1, by omega, hle4, true, w, rfl, rfl, rfl, by omega⟩)
     ·
      refine Zs (Zc ?_)
      refine Zbr (fun ρ σ uc11 => ∃ (w2 : List Int), VLe uP uc11 ∧ σ = [(503, (none, .row 3 1 w2.length (intsC w2))), (6, (none, .box [.int .i64 (l[i]).1, .int .i64 (l[i]).2]))] ∧ ρ = [(3, .s 503), (6, .p 6 0), (8, .v (.slice ad l.length cap)), (9, .v (.int .i64 l.length)), (10, .v (.int .i64 i)), (4, .v (.bool false))] ∧ (uP = uc11 ∧ w2.length ≤ 2 * i + 1)) ?_ ?_
      ·
       refine Za (ya rfl rfl (Zf (ρ' := [(3, _), (4, _), (6, _), (8, _), (9, _), (10, _)]) ⟨rfl, rfl, rfl, rfl, rfl, rfl, trivial⟩ ?_))
       refine Zae ?_
       first
        | (refine ⟨[(3, _), (6, _), (8, _), (9, _), (10, _), (4, _)], [(503, _), (6, _)], ⟨rfl, rfl, rfl, rfl, rfl, rfl, trivial⟩, ⟨rfl, rfl, trivial⟩, w ++ [32], (VLe.refl _), (by first | rfl | (rw [List.length_append, intsC_append]; rfl)), rfl, ?_⟩
           exact ⟨rfl, by rw [List.length_append]; simp; omega⟩)
        | (refine ⟨[(3, _), (6, _), (8, _), (9, _), (10, _), (4, _)], [(503, _), (6, _)], ⟨rfl, rfl, rfl, rfl, rfl, rfl, trivial⟩, ⟨rfl, rfl, trivial⟩, w, (VLe.refl _), (by first | rfl | (rw [List.length_append, intsC_append]; rfl)), rfl, ?_⟩
           exact ⟨rfl, by omega⟩)
      ·
       rintro ρ σ uc11 ⟨w2, hlc11, rfl, rfl, ⟨rfl, hw2⟩⟩
       refine Za (ym rfl rfl (Zg (Zi rfl Tryz.f124' rfl (by decide) rfl) rfl (Zg (Zl rfl Tryz.k3 rfl rfl rfl (vs := [_]) rfl rfl rfl) rfl (Zt rfl rfl ?_))))
       refine Zu (caps := []) trivial rfl rfl Tryz.c92 rfl (FnP.mono (lowerC_fn _ hbig _) ?_)
       rintro v u1 hle1 ⟨z, rfl⟩
       refine Zt rfl rfl ?_
       refine Zag trivial Tryz.s64 Tryz.z3 (ps := [(_, _)]) rfl (xs := [_]) rfl rfl rfl rfl rfl rfl rfl ?_
       refine Zt rfl rfl ?_
       refine Zbg trivial rfl rfl Tryz.s64 Tryz.z3 rfl rfl rfl rfl rfl rfl (by first | rfl | assumption | simp [Value.oneCell', str]) (by omega) (by omega) (ρ' := [(4, _), (8, _), (9, _), (10, _)]) ⟨rfl, rfl, rfl, rfl, trivial⟩ rfl rfl rfl ?_
       refine ya rfl rfl ?_
       refine rl_ren 31 503 rfl rfl rfl ?_
       refine Zf (ρ' := [(3, _), (4, _), (8, _), (9, _), (10, _)]) ⟨rfl, rfl, rfl, rfl, rfl, trivial⟩ ?_
       refine Zaj (Zc (Za (Zg (Zap rfl rfl rfl (Zn (by omega))) rfl ?_)))
       refine ym rfl rfl (Zf (ρ' := [(3, _), (4, _), (8, _), (9, _), (10, _)]) ⟨rfl, rfl, rfl, rfl, rfl, trivial⟩ ?_)
       refine Zae ?_
       first
       | (refine ⟨m - 1, [(3, _), (4, _), (8, _), (9, _), (10, _)], [(503, _)], by omega, ⟨rfl, rfl, rfl, rfl, rfl, trivial⟩, ⟨rfl, trivial⟩, i + 1, by omega, hle4, false, w2 ++ [z], (by rw [List.length_append, intsC_append]; rfl), rfl, rfl, by rw [List.length_append]; simp; omega⟩)
       | (refine ⟨m - 1, [(3, _), (4, _), (8, _), (9, _), (10, _)], [(503, _)], by omega, ⟨rfl, rfl, rfl, rfl, rfl, trivial⟩, ⟨rfl, trivial⟩, i + 1, by omega, hle4, true, w, rfl, rfl, rfl, by omega⟩)
    ·
     iterate 3 refine Zp rfl rfl rfl rfl ?_
     refine Zg (Zo rfl rfl rfl) rfl (Zf (ρ' := [(3, _), (6, _), (8, _), (9, _), (10, _), (22, _)]) ⟨rfl, rfl, rfl, rfl, rfl, rfl, trivial⟩ ?_)
     refine Zc (Zbw rfl (rfl) (Zs (Zc ?_)))
     refine Zbr (fun ρ σ uc11 => ∃ (w2 : List Int), VLe uP uc11 ∧ σ = [(503, (none, .row 3 1 w2.length (intsC w2))), (6, (none, .box [.int .i64 (l[i]).1, .int .i64 (l[i]).2]))] ∧ ρ = [(3, .s 503), (6, .p 6 0), (8, .v (.slice ad l.length cap)), (9, .v (.int .i64 l.length)), (10, .v (.int .i64 i)), (4, .v (.bool false))] ∧ (uP = uc11 ∧ w2.length ≤ 2 * i + 1)) ?_ ?_
     ·
      refine Za (ya rfl rfl (Zf (ρ' := [(3, _), (4, _), (6, _), (8, _), (9, _), (10, _)]) ⟨rfl, rfl, rfl, rfl, rfl, rfl, trivial⟩ ?_))
      refine Zae ?_
      first
       | (refine ⟨[(3, _), (6, _), (8, _), (9, _), (10, _), (4, _)], [(503, _), (6, _)], ⟨rfl, rfl, rfl, rfl, rfl, rfl, trivial⟩, ⟨rfl, rfl, trivial⟩, w ++ [32], (VLe.refl _), (by first | rfl | (rw [List.length_append, intsC_append]; rfl)), rfl, ?_⟩
          exact ⟨rfl, by rw [List.length_append]; simp; omega⟩)
       | (refine ⟨[(3, _), (6, _), (8, _), (9, _), (10, _), (4, _)], [(503, _), (6, _)], ⟨rfl, rfl, rfl, rfl, rfl, rfl, trivial⟩, ⟨rfl, rfl, trivial⟩, w, (VLe.refl _), (by first | rfl | (rw [List.length_append, intsC_append]; rfl)), rfl, ?_⟩
          exact ⟨rfl, by omega⟩)
     ·
      rintro ρ σ uc11 ⟨w2, hlc11, rfl, rfl, ⟨rfl, hw2⟩⟩
      refine Za (ym rfl rfl (Zg (Zi rfl Tryz.f124' rfl (by decide) rfl) rfl (Zg (Zl rfl Tryz.k3 rfl rfl rfl (vs := [_]) rfl rfl rfl) rfl (Zt rfl rfl ?_))))
      refine Zu (caps := []) trivial rfl rfl Tryz.c92 rfl (FnP.mono (lowerC_fn _ hbig _) ?_)
      rintro v u1 hle1 ⟨z, rfl⟩
      refine Zt rfl rfl ?_
      refine Zag trivial Tryz.s64 Tryz.z3 (ps := [(_, _)]) rfl (xs := [_]) rfl rfl rfl rfl rfl rfl rfl ?_
      refine Zt rfl rfl ?_
      refine Zbg trivial rfl rfl Tryz.s64 Tryz.z3 rfl rfl rfl rfl rfl rfl (by first | rfl | assumption | simp [Value.oneCell', str]) (by omega) (by omega) (ρ' := [(4, _), (8, _), (9, _), (10, _)]) ⟨rfl, rfl, rfl, rfl, trivial⟩ rfl rfl rfl ?_
      refine ya rfl rfl ?_
      refine rl_ren 31 503 rfl rfl rfl ?_
      refine Zf (ρ' := [(3, _), (4, _), (8, _), (9, _), (10, _)]) ⟨rfl, rfl, rfl, rfl, rfl, trivial⟩ ?_
      refine Zaj (Zc (Za (Zg (Zap rfl rfl rfl (Zn (by omega))) rfl ?_)))
      refine ym rfl rfl (Zf (ρ' := [(3, _), (4, _), (8, _), (9, _), (10, _)]) ⟨rfl, rfl, rfl, rfl, rfl, trivial⟩ ?_)
      refine Zae ?_
      first
      | (refine ⟨m - 1, [(3, _), (4, _), (8, _), (9, _), (10, _)], [(503, _)], by omega, ⟨rfl, rfl, rfl, rfl, rfl, trivial⟩, ⟨rfl, trivial⟩, i + 1, by omega, hle4, false, w2 ++ [z], (by rw [List.length_append, intsC_append]; rfl), rfl, rfl, by rw [List.length_append]; simp; omega⟩)
      | (refine ⟨m - 1, [(3, _), (4, _), (8, _), (9, _), (10, _)], [(503, _)], by omega, ⟨rfl, rfl, rfl, rfl, rfl, trivial⟩, ⟨rfl, trivial⟩, i + 1, by omega, hle4, true, w, rfl, rfl, rfl, by omega⟩)
  ·
   skip
   refine Zao ?_
   refine Zm (Zm ?_)
   refine Zaa ?_
   refine Zc (Zd (Za (ym rfl rfl ?_)))
   refine Zba 503 rfl ?_
   intro ad503 cap503 u503 hle503z hsl503
   refine Zt rfl rfl ?_
   refine Zu (caps := []) trivial rfl rfl Tryz.c93 rfl (FnP.mono (ktext_fn w (by omega) _ u503 ⟨_, _, rfl, hsl503⟩) ?_)
   rintro v u1 hle1 ⟨t, rfl⟩
   refine ya rfl rfl (Zf (ρ' := [(2, _)]) ⟨rfl, trivial⟩ ?_)
   refine Zc (Zx (Zau (.tmp rfl) ?_))
   exact ⟨_, rfl⟩
end Go.Proofs.Ytekkhlepbacapaa
namespace Go.Eng
open Go Go.RowKit
section
variable {F : Fx} {ρ : Env} {σ : Own} {u : View} {Q : Post} {σS : Own} {uS : View} {o : Oper}
theorem y_slice_hiK {x hi : Operand} {t e : TypeId} {sz by' n cap i : Nat} {ad : Option Addr} {k : IntKind} {z : Int} (ho : o.op = .slice t x none (some hi) none) (hS : tyS F.P t = some (e, sz, by')) (hx : opv ρ x = some (.v (.slice ad n cap)))
  (hhi : opv ρ hi = some (.v (.int k z))) (hz : z = (i : Int)) (hi' : i ≤ cap) : Yld F σS uS ρ σ u o (.v (.slice (if cap = 0 then ad else ad.map (·.add (0 * sz))) i cap)) := by
 intro bk hd a w hR
 subst hz
 refine ⟨_, rfl, fun w' _ => ?_⟩
 obtain ⟨inf, hu, hinf, rfl, _⟩ := tyS_some hS
 have hb : (Instr.sliceBounds true n cap none (some (.int k (i : Int))) none).run F.P w' = .ok (0, i, cap) w' := by
  simp [Instr.sliceBounds, Instr.sliceBound, asIntOf, hi']
 simp [execOp, ho, hR.op hx, hR.op hhi, Instr.sliceAt, run_underlying hu, Instr.slice, hb, sizeOf, typeInfo, hinf]
end
theorem SlC.uptoK {u : View} {ad : Option Addr} {n cap sz i : Nat} {xs : List Value} (h : SlC u ad n cap sz xs) (hi : i ≤ n) : SlC u (if cap = 0 then ad else ad.map (·.add (0 * sz))) i cap sz (xs.take (i * sz)) := by
 obtain ⟨h1, h2, h3, h4⟩ := h
 have hm : i * sz ≤ n * sz := Nat.mul_le_mul_right _ hi
 refine ⟨by rw [List.length_take, h1]; omega, by omega, h3, fun hn => ?_⟩
 obtain ⟨b, off, c, T, fr, rfl, hu, hc⟩ := h4 (by omega)
 rw [if_neg (by omega)]
 refine ⟨b, off, c, T, fr, by simp [add_eq], hu, ?_⟩
 rw [← hc]
 unfold cut
 rw [List.take_take, Nat.min_eq_left hm]
end Go.Eng
namespace Go.Proofs.Ytekkhlepbacapaa
open Go Go.Eng
set_option linter.unusedSimpArgs false
set_option linter.unusedVariables false
set_option maxRecDepth 4000
theorem letter3_fn (c : UInt8) (u : View) : FnP Tryz.prog 80 [.int .u8 c.toNat] u fun r _ => ∃ b, r = .bool b := by
 refine FnP.intro [.tmp 2] Tryz.func80 rfl rfl rfl ?_
 intro w0 D hw0
 refine Zd (Za (ya rfl rfl (Zf (ρ' := [(0, _)]) ⟨rfl, trivial⟩ ?_)))
 refine Zc (Zd (Za (ym rfl rfl (Zg (Zbs rfl rfl rfl) rfl (ym rfl rfl ?_)))))
 refine Zab 5 rfl (fun hg1_2 => ?_) (fun hg1_2 => ?_)
 ·
  refine Zj rfl rfl (ym rfl rfl (Zj rfl rfl (Zg (y_leq rfl rfl rfl) rfl (Zg (Zk rfl rfl rfl) rfl (ym rfl rfl ?_)))))
  refine Zab 9 rfl (fun hg1_6 => ?_) (fun hg1_6 => ?_)
  ·
   iterate 3 refine Zp rfl rfl rfl rfl ?_
   refine Zax rfl rfl rfl (Zax rfl rfl rfl (Zp rfl rfl rfl rfl (Zg (Zk rfl rfl rfl) rfl (ya rfl rfl (Zf (ρ' := [(2, _)]) ⟨rfl, trivial⟩ ?_)))))
   refine Zc (Zx (Zau (.tmp rfl) ?_))
   exact ⟨_, rfl⟩
  ·
   refine Zj rfl rfl (ym rfl rfl (Zj rfl rfl (Zg (Zbs rfl rfl rfl) rfl (Zj rfl rfl (ym rfl rfl ?_)))))
   refine Zab 12 rfl (fun hg1_9 => ?_) (fun hg1_9 => ?_)
   ·
    refine Zj rfl rfl (ym rfl rfl (Zj rfl rfl (Zg (y_leq rfl rfl rfl) rfl (Zj rfl rfl (Zg (Zk rfl rfl rfl) rfl (Zg (Zo rfl rfl rfl) rfl (ya rfl rfl (Zf (ρ' := [(2, _)]) ⟨rfl, trivial⟩ ?_))))))))
    refine Zc (Zx (Zau (.tmp rfl) ?_))
    exact ⟨_, rfl⟩
   ·
    refine Zp rfl rfl rfl rfl (Zp rfl rfl rfl rfl (Zj rfl rfl (Zg (Zo rfl rfl rfl) rfl (Zg (Zo rfl rfl rfl) rfl (ya rfl rfl (Zf (ρ' := [(2, _)]) ⟨rfl, trivial⟩ ?_))))))
    refine Zc (Zx (Zau (.tmp rfl) ?_))
    exact ⟨_, rfl⟩
 ·
  refine Zp rfl rfl rfl rfl (Zp rfl rfl rfl rfl (Zg (Zo rfl rfl rfl) rfl (ym rfl rfl (Zj rfl rfl (ym rfl rfl (Zj rfl rfl (Zg (Zbs rfl rfl rfl) rfl ?_)))))))
  refine Zj rfl rfl (ym rfl rfl ?_)
  refine Zab 12 rfl (fun hg1_9 => ?_) (fun hg1_9 => ?_)
  ·
   refine Zj rfl rfl (ym rfl rfl (Zj rfl rfl (Zg (y_leq rfl rfl rfl) rfl (Zj rfl rfl (Zg (Zk rfl rfl rfl) rfl (Zg (Zo rfl rfl rfl) rfl (ya rfl rfl (Zf (ρ' := [(2, _)]) ⟨rfl, trivial⟩ ?_))))))))
   refine Zc (Zx (Zau (.tmp rfl) ?_))
   exact ⟨_, rfl⟩
  ·
   refine Zp rfl rfl rfl rfl (Zp rfl rfl rfl rfl (Zj rfl rfl (Zg (Zo rfl rfl rfl) rfl (Zg (Zo rfl rfl rfl) rfl (ya rfl rfl (Zf (ρ' := [(2, _)]) ⟨rfl, trivial⟩ ?_))))))
   refine Zc (Zx (Zau (.tmp rfl) ?_))
   exact ⟨_, rfl⟩
theorem part_fn (c : UInt8) (u : View) : FnP Tryz.prog 95 [.int .u8 c.toNat] u fun r _ => ∃ b, r = .bool b := by
 refine FnP.intro [.tmp 2] Tryz.func95 rfl rfl rfl ?_
 intro w0 D hw0
 refine Zd (Za (ya rfl rfl (Zf (ρ' := [(0, _)]) ⟨rfl, trivial⟩ ?_)))
 refine Zc (Zd (Za ?_))
 refine Zbb 26 28 (fun _ => True) (ρk := []) trivial ?_ fun mb1_25 hm1_25 => ?_
 ·
  refine ym rfl rfl (Zt rfl rfl ?_)
  refine Zu (caps := []) trivial rfl rfl Tryz.c80 rfl (FnP.mono (letter3_fn c u) ?_)
  rintro v u1 hle1 ⟨b, rfl⟩
  refine ym rfl rfl ?_
  refine Zab 5 rfl (fun hg1_2 => ?_) (fun hg1_2 => ?_)
  ·
   iterate 3 refine Zp rfl rfl rfl rfl ?_
   refine Zax rfl rfl rfl (Zax rfl rfl rfl (Zp rfl rfl rfl rfl (Zg (Zk rfl rfl rfl) rfl (ym rfl rfl (Zp rfl rfl rfl rfl (Zp rfl rfl rfl rfl (Zg (Zk rfl rfl rfl) rfl ?_)))))))
   refine ym rfl rfl (Zp rfl rfl rfl rfl (Zp rfl rfl rfl rfl (Zg (Zk rfl rfl rfl) rfl (ym rfl rfl (Zp rfl rfl rfl rfl (Zp rfl rfl rfl rfl (Zg (Zk rfl rfl rfl) rfl ?_)))))))
   refine ym rfl rfl (Zp rfl rfl rfl rfl (Zp rfl rfl rfl rfl (Zg (Zk rfl rfl rfl) rfl ?_)))
   exact Zaf rfl trivial (trivial)
  ·
   refine Zj rfl rfl (ym rfl rfl (Zj rfl rfl (Zg (Zbs rfl rfl rfl) rfl (Zj rfl rfl (ym rfl rfl ?_)))))
   refine Zab 8 rfl (fun hg1_5 => ?_) (fun hg1_5 => ?_)
   ·
    refine Zj rfl rfl (ym rfl rfl (Zj rfl rfl (Zg (y_leq rfl rfl rfl) rfl (Zj rfl rfl (Zg (Zk rfl rfl rfl) rfl (Zg (Zo rfl rfl rfl) rfl (ym rfl rfl ?_)))))))
    refine Zab 13 rfl (fun hg1_10 => ?_) (fun hg1_10 => ?_)
    ·
     refine Zp rfl rfl rfl rfl (Zp rfl rfl rfl rfl (Zg (Zk rfl rfl rfl) rfl (ym rfl rfl (Zp rfl rfl rfl rfl (Zp rfl rfl rfl rfl (Zg (Zk rfl rfl rfl) rfl (ym rfl rfl ?_)))))))
     refine Zp rfl rfl rfl rfl (Zp rfl rfl rfl rfl (Zg (Zk rfl rfl rfl) rfl (ym rfl rfl (Zp rfl rfl rfl rfl (Zp rfl rfl rfl rfl (Zg (Zk rfl rfl rfl) rfl ?_))))))
     exact Zaf rfl trivial (trivial)
    ·
     refine Zj rfl rfl (ym rfl rfl (Zj rfl rfl (Zg (Zay rfl rfl rfl) rfl (Zg (Zo rfl rfl rfl) rfl (ym rfl rfl ?_)))))
     refine Zab 17 rfl (fun hg1_14 => ?_) (fun hg1_14 => ?_)
     ·
      refine Zp rfl rfl rfl rfl (Zp rfl rfl rfl rfl (Zg (Zk rfl rfl rfl) rfl (ym rfl rfl (Zp rfl rfl rfl rfl (Zp rfl rfl rfl rfl (Zg (Zk rfl rfl rfl) rfl (ym rfl rfl ?_)))))))
      refine Zp rfl rfl rfl rfl (Zp rfl rfl rfl rfl (Zg (Zk rfl rfl rfl) rfl ?_))
      exact Zaf rfl trivial (trivial)
     ·
      refine Zj rfl rfl (ym rfl rfl (Zj rfl rfl (Zg (Zay rfl rfl rfl) rfl (Zg (Zo rfl rfl rfl) rfl (ym rfl rfl ?_)))))
      refine Zab 21 rfl (fun hg1_18 => ?_) (fun hg1_18 => ?_)
      ·
       refine Zp rfl rfl rfl rfl (Zp rfl rfl rfl rfl (Zg (Zk rfl rfl rfl) rfl (ym rfl rfl (Zp rfl rfl rfl rfl (Zp rfl rfl rfl rfl (Zg (Zk rfl rfl rfl) rfl ?_))))))
       exact Zaf rfl trivial (trivial)
      ·
       refine Zj rfl rfl (ym rfl rfl (Zj rfl rfl (Zg (Zay rfl rfl rfl) rfl (Zg (Zo rfl rfl rfl) rfl (ym rfl rfl ?_)))))
       refine Zab 25 rfl (fun hg1_22 => ?_) (fun hg1_22 => ?_)
       ·
        refine Zp rfl rfl rfl rfl (Zp rfl rfl rfl rfl (Zg (Zk rfl rfl rfl) rfl ?_))
        exact Zaf rfl trivial (trivial)
       ·
        refine Zj rfl rfl (ym rfl rfl (Zj rfl rfl (Zg (Zay rfl rfl rfl) rfl (Zg (Zo rfl rfl rfl) rfl ?_))))
        exact Zaf rfl trivial (trivial)
   ·
    refine Zp rfl rfl rfl rfl (Zp rfl rfl rfl rfl (Zj rfl rfl (Zg (Zo rfl rfl rfl) rfl (Zg (Zo rfl rfl rfl) rfl (ym rfl rfl (Zj rfl rfl (ym rfl rfl ?_)))))))
    refine Zj rfl rfl (Zg (Zay rfl rfl rfl) rfl (Zg (Zo rfl rfl rfl) rfl (ym rfl rfl ?_)))
    refine Zab 17 rfl (fun hg1_14 => ?_) (fun hg1_14 => ?_)
    ·
     refine Zp rfl rfl rfl rfl (Zp rfl rfl rfl rfl (Zg (Zk rfl rfl rfl) rfl (ym rfl rfl (Zp rfl rfl rfl rfl (Zp rfl rfl rfl rfl (Zg (Zk rfl rfl rfl) rfl (ym rfl rfl ?_)))))))
     refine Zp rfl rfl rfl rfl (Zp rfl rfl rfl rfl (Zg (Zk rfl rfl rfl) rfl ?_))
     exact Zaf rfl trivial (trivial)
    ·
     refine Zj rfl rfl (ym rfl rfl (Zj rfl rfl (Zg (Zay rfl rfl rfl) rfl (Zg (Zo rfl rfl rfl) rfl (ym rfl rfl ?_)))))
     refine Zab 21 rfl (fun hg1_18 => ?_) (fun hg1_18 => ?_)
     ·
      refine Zp rfl rfl rfl rfl (Zp rfl rfl rfl rfl (Zg (Zk rfl rfl rfl) rfl (ym rfl rfl (Zp rfl rfl rfl rfl (Zp rfl rfl rfl rfl (Zg (Zk rfl rfl rfl) rfl ?_))))))
      exact Zaf rfl trivial (trivial)
     ·
      refine Zj rfl rfl (ym rfl rfl (Zj rfl rfl (Zg (Zay rfl rfl rfl) rfl (Zg (Zo rfl rfl rfl) rfl (ym rfl rfl ?_)))))
      refine Zab 25 rfl (fun hg1_22 => ?_) (fun hg1_22 => ?_)
      ·
       refine Zp rfl rfl rfl rfl (Zp rfl rfl rfl rfl (Zg (Zk rfl rfl rfl) rfl ?_))
       exact Zaf rfl trivial (trivial)
      ·
       refine Zj rfl rfl (ym rfl rfl (Zj rfl rfl (Zg (Zay rfl rfl rfl) rfl (Zg (Zo rfl rfl rfl) rfl ?_))))
       exact Zaf rfl trivial (trivial)
 refine ya rfl rfl (Zf (ρ' := [(2, _)]) ⟨rfl, trivial⟩ ?_)
 refine Zc (Zx (Zau (.tmp rfl) ?_))
 exact ⟨_, rfl⟩
theorem kword_fn (s : Bs) (i : Nat) (hi : i ≤ s.length) (hs : s.length ≤ 1000000000) (u : View) : FnP Tryz.prog 81 [str s, .int .i64 i] u fun r _ => ∃ j : Nat, r = .int .i64 j ∧ i ≤ j ∧ j ≤ s.length := by
 refine FnP.intro [.tmp 4] Tryz.func81 rfl rfl rfl ?_
 intro w0 D hw0
 refine Zd (Za (ya rfl rfl (Zf (ρ' := [(0, _), (1, _)]) ⟨rfl, rfl, trivial⟩ ?_)))
 refine Zc (Zd (Zv ?_))
 refine Zas (fun m_0 ρ σ u' => ∃ j : Nat, j + m_0 = s.length - i ∧ VLe u u' ∧ σ = [] ∧ ρ = [(0, .v (str s)), (1, .v (.int .i64 ((i + j : Nat) : Int)))] ∧ (u = u')) (s.length - i) ?_ ?_
 ·
  refine ⟨[(0, _), (1, _)], [], ⟨rfl, rfl, trivial⟩, trivial, 0, by omega, VLe.refl _, (by first | rfl | simp), (by first | rfl | (simp only [List.cons.injEq, Prod.mk.injEq, SV.v.injEq, Value.int.injEq, true_and, and_true]; omega) | simp), ?_⟩
  rfl
 ·
  rintro mj ρ σ u' ⟨j, hi1, hle1, rfl, rfl, rfl⟩
  refine Zd (Zd (Za (ym rfl rfl (ym rfl rfl (Zg (Zaq rfl rfl Tryz.str9 rfl) rfl (Zg (Zaz rfl rfl rfl) rfl (ym rfl rfl ?_)))))))
  refine Zab 9 rfl (fun hg1_4 => ?_) (fun hg1_4 => ?_)
  ·
   refine Zj rfl rfl (ym rfl rfl ?_)
   have hlt : i + j < s.length := by have := of_decide_eq_true hg1_4; omega
   obtain ⟨c, hc, hc2⟩ := byte_at hlt
   refine Zj rfl rfl (ym rfl rfl (Zj rfl rfl (Zg (Zat rfl Tryz.str9 rfl rfl (j := i + j) rfl hc) rfl (Zj rfl rfl (Zt rfl rfl ?_)))))
   refine Zu (caps := []) trivial rfl rfl Tryz.c95 rfl (FnP.mono (part_fn c _) ?_)
   rintro v u1 hle1 ⟨b, rfl⟩
   refine Zg (Zk rfl rfl rfl) rfl (Zf (ρ' := [(0, _), (1, _), (14, _)]) ⟨rfl, rfl, rfl, trivial⟩ ?_)
   refine Zc ?_
   refine Zr rfl (fun hb1 => ?_) (fun hb1 => ?_)
   ·
    refine Zs (Zc (Zv (Za (ym rfl rfl (Zg (Zap rfl rfl rfl (Zn (by omega))) rfl ?_)))))
    refine ya rfl rfl (Zf (ρ' := [(0, _), (1, _)]) ⟨rfl, rfl, trivial⟩ ?_)
    refine Zaj (Zae ?_)
    refine ⟨mj - 1, [(0, _), (1, _)], [], by omega, ⟨rfl, rfl, trivial⟩, trivial, j + 1, by omega, (VLe.refl _), (by first | rfl | simp), (by first | rfl | (simp only [List.cons.injEq, Prod.mk.injEq, SV.v.injEq, Value.int.injEq, true_and, and_true]; omega) | simp), ?_⟩
    rfl
   ·
    refine Zao ?_
    refine Zm (Zm ?_)
    refine Zaa ?_
    refine Zc (Zd (Za (ym rfl rfl (ya rfl rfl (Zf (ρ' := [(4, _)]) ⟨rfl, trivial⟩ ?_)))))
    refine Zc (Zx (Zau (.tmp rfl) ?_))
    exact ⟨i + j, rfl, by omega, by omega⟩
  ·
   iterate 4 refine Zp rfl rfl rfl rfl ?_
   refine Zg (Zo rfl rfl rfl) rfl (Zf (ρ' := [(0, _), (1, _), (14, _)]) ⟨rfl, rfl, rfl, trivial⟩ ?_)
   refine Zc (Zbw rfl (rfl) ?_)
   refine Zao ?_
   refine Zm (Zm ?_)
   refine Zaa ?_
   refine Zc (Zd (Za (ym rfl rfl (ya rfl rfl (Zf (ρ' := [(4, _)]) ⟨rfl, trivial⟩ ?_)))))
   refine Zc (Zx (Zau (.tmp rfl) ?_))
   exact ⟨i + j, rfl, by omega, by omega⟩
theorem name_fn (s : Bs) (hs : s.length ≤ 1000000000) (u : View) : FnP Tryz.prog 60 [str s] u fun r _ => ∃ b, r = .bool b ∧ (b = true → s ≠ []) := by
 refine FnP.intro [.tmp 2] Tryz.func60 rfl rfl rfl ?_
 intro w0 D hw0
 refine Zd (Za (ya rfl rfl (Zf (ρ' := [(0, _)]) ⟨rfl, trivial⟩ ?_)))
 refine Zc (Zd (Za (ym rfl rfl (Zg (Zaq rfl rfl Tryz.str9 rfl) rfl (Zg (Zbs rfl rfl rfl) rfl (ym rfl rfl ?_))))))
 refine Zab 6 rfl (fun hg1_3 => ?_) (fun hg1_3 => ?_)
 ·
  refine Zj rfl rfl (ym rfl rfl (Zj rfl rfl (Zg (Zaq rfl rfl Tryz.str9 rfl) rfl (Zj rfl rfl (Zg (y_leq rfl rfl rfl) rfl (Zg (Zk rfl rfl rfl) rfl (ym rfl rfl ?_)))))))
  refine Zab 11 rfl (fun hg1_8 => ?_) (fun hg1_8 => ?_)
  ·
   refine Zj rfl rfl (ym rfl rfl ?_)
   have hne : s ≠ [] := by
    rintro rfl
    exact absurd (of_decide_eq_true hg1_3) (by decide)
   obtain ⟨c, hc, hc2⟩ := byte_at (s := s) (i := 0) (by cases s with
    | nil => exact absurd rfl hne
    | cons a b => simp)
   refine Zj rfl rfl (Zg (Zat rfl Tryz.str9 rfl rfl (by first | rfl | omega) (by assumption)) rfl (Zj rfl rfl (Zt rfl rfl ?_)))
   refine Zu (caps := []) trivial rfl rfl Tryz.c80 rfl (FnP.mono (letter3_fn c u) ?_)
   rintro v u1 hle1 ⟨b, rfl⟩
   refine Zg (Zk rfl rfl rfl) rfl (ym rfl rfl ?_)
   refine Zab 16 rfl (fun hg1_13 => ?_) (fun hg1_13 => ?_)
   ·
    refine Zj rfl rfl (ym rfl rfl (Zj rfl rfl (Zt rfl rfl ?_)))
    refine Zu (caps := []) trivial rfl rfl Tryz.c81 rfl (FnP.mono (kword_fn s 0 (Nat.zero_le _) (by omega) u) ?_)
    rintro v u1 hle1 ⟨j, rfl, hj1, hj2⟩
    refine Zj rfl rfl (ym rfl rfl (Zj rfl rfl (Zg (Zaq rfl rfl Tryz.str9 rfl) rfl (Zj rfl rfl (Zg (Zay rfl rfl rfl) rfl (Zg (Zk rfl rfl rfl) rfl (ya rfl rfl (Zf (ρ' := [(2, _)]) ⟨rfl, trivial⟩ ?_))))))))
    refine Zc (Zx (Zau (.tmp rfl) ?_))
    refine ⟨_, rfl, fun h => ?_⟩; first | exact hne | cases h | (rintro rfl; exact absurd h (by decide)) | (rintro rfl; exact absurd hg1_3 (by decide))
   ·
    iterate 5 refine Zp rfl rfl rfl rfl ?_
    refine Zg (Zo rfl rfl rfl) rfl (ya rfl rfl (Zf (ρ' := [(2, _)]) ⟨rfl, trivial⟩ ?_))
    refine Zc (Zx (Zau (.tmp rfl) ?_))
    refine ⟨_, rfl, fun h => ?_⟩; first | exact hne | cases h | (rintro rfl; exact absurd h (by decide)) | (rintro rfl; exact absurd hg1_3 (by decide))
  ·
   iterate 3 refine Zp rfl rfl rfl rfl ?_
   refine Zg (Zo rfl rfl rfl) rfl (ym rfl rfl ?_)
   iterate 5 refine Zp rfl rfl rfl rfl ?_
   refine Zg (Zo rfl rfl rfl) rfl (ya rfl rfl (Zf (ρ' := [(2, _)]) ⟨rfl, trivial⟩ ?_))
   refine Zc (Zx (Zau (.tmp rfl) ?_))
   refine ⟨_, rfl, fun h => ?_⟩; first | exact hne | cases h | (rintro rfl; exact absurd h (by decide)) | (rintro rfl; exact absurd hg1_3 (by decide))
 ·
  iterate 3 refine Zp rfl rfl rfl rfl ?_
  refine Zg (Zo rfl rfl rfl) rfl (ym rfl rfl ?_)
  iterate 3 refine Zp rfl rfl rfl rfl ?_
  refine Zg (Zo rfl rfl rfl) rfl (ym rfl rfl ?_)
  iterate 5 refine Zp rfl rfl rfl rfl ?_
  refine Zg (Zo rfl rfl rfl) rfl (ya rfl rfl (Zf (ρ' := [(2, _)]) ⟨rfl, trivial⟩ ?_))
  refine Zc (Zx (Zau (.tmp rfl) ?_))
  refine ⟨_, rfl, fun h => ?_⟩; first | exact hne | cases h | (rintro rfl; exact absurd h (by decide)) | (rintro rfl; exact absurd hg1_3 (by decide))
theorem mem_take_lt {s : Bs} {i : Nat} {c : UInt8} (hc : s[i]? = some c) (h10 : c ≠ 10) (h : (10 : UInt8) ∉ s.take i) : (10 : UInt8) ∉ s.take (i + 1) := by
 obtain ⟨hlt, rfl⟩ := List.getElem?_eq_some_iff.1 hc
 rw [List.take_succ_eq_append_getElem hlt]
 intro hm
 rcases List.mem_append.1 hm with hm | hm
 ·
  exact h hm
 ·
  exact h10 (List.mem_singleton.1 hm).symm
theorem line3_fn (s : Bs) (hs : s.length ≤ 10000000) (u : View) : FnP Tryz.prog 62 [str s] u fun r _ => ∃ b, r = .bool b := by
 refine FnP.intro [.tmp 2] Tryz.func62 rfl rfl rfl ?_
 intro w0 D hw0
 refine Zd (Za (ya rfl rfl (Zf (ρ' := [(0, _)]) ⟨rfl, trivial⟩ ?_)))
 refine Zc (Zd (Zd (Za (ym rfl rfl (Zt rfl rfl ?_)))))
 refine Zu (caps := []) trivial rfl rfl Tryz.c57 rfl (FnP.mono (kvalid_fn s (by omega) u) ?_)
 rintro v u1 hle1 ⟨b, rfl⟩
 refine Zg (Zbu rfl rfl) rfl (Zf (ρ' := [(0, _), (6, _)]) ⟨rfl, rfl, trivial⟩ ?_)
 refine Zc ?_
 refine Zr rfl (fun hb1 => ?_) (fun hb1 => ?_)
 ·
  refine Zd (Za (ya rfl rfl (Zf (ρ' := [(2, _)]) ⟨rfl, trivial⟩ ?_)))
  refine Zc (Zx (Zh (Zau (.tmp rfl) ?_)))
  exact ⟨_, rfl⟩
 ·
  refine Zs (Zc (Zd (Zd (Za (ya rfl rfl (Zf (ρ' := [(0, _), (3, _)]) ⟨rfl, rfl, trivial⟩ ?_))))))
  refine Zc (Zv ?_)
  refine Zas (fun m_0 ρ σ u' => ∃ i : Nat, i + m_0 = s.length ∧ VLe u u' ∧ σ = [] ∧ ρ = [(0, .v (str s)), (3, .v (.int .i64 i))] ∧ (u = u')) (s.length) ?_ ?_
  ·
   refine ⟨[(0, _), (3, _)], [], ⟨rfl, rfl, trivial⟩, trivial, 0, by omega, VLe.refl _, (by first | rfl | simp), (by first | rfl | (simp only [List.cons.injEq, Prod.mk.injEq, SV.v.injEq, Value.int.injEq, true_and, and_true]; omega) | simp), ?_⟩
   rfl
  ·
   rintro m ρ σ u' ⟨i, hi4, hle4, rfl, rfl, rfl⟩
   refine Zd (Zd (Za (ym rfl rfl (ym rfl rfl (Zg (Zaq rfl rfl Tryz.str9 rfl) rfl (Zg (Zaz rfl rfl rfl) rfl (Zf (ρ' := [(0, _), (3, _), (10, _)]) ⟨rfl, rfl, rfl, trivial⟩ ?_)))))))
   refine Zc ?_
   refine Zr rfl (fun hb4 => ?_) (fun hb4 => ?_)
   ·
    have hlt : i < s.length := by have := of_decide_eq_true hb4; omega
    obtain ⟨c, hc, hc2⟩ := byte_at hlt
    refine Zs (Zc (Zd (Zv (Zd (Za (ym rfl rfl (ym rfl rfl ?_)))))))
    refine Zg (Zat rfl Tryz.str9 rfl rfl (by first | rfl | omega) (by assumption)) rfl (Zg (Zay rfl rfl rfl) rfl (Zf (ρ' := [(0, _), (3, _), (16, _)]) ⟨rfl, rfl, rfl, trivial⟩ ?_))
    refine Zc ?_
    refine Zr rfl (fun hb6 => ?_) (fun hb6 => ?_)
    ·
     refine Zd (Za (ya rfl rfl (Zf (ρ' := [(2, _)]) ⟨rfl, trivial⟩ ?_)))
     refine Zc (Zx (Zq (Zh (Zh (Zq (Zh (Zau (.tmp rfl) ?_)))))))
     exact ⟨_, rfl⟩
    ·
     refine Zs (Zaj (Zc (Za (ym rfl rfl (Zg (Zap rfl rfl rfl (Zn (by omega))) rfl ?_)))))
     refine ya rfl rfl (Zf (ρ' := [(0, _), (3, _)]) ⟨rfl, rfl, trivial⟩ ?_)
     refine Zae ?_
     refine ⟨m - 1, [(0, _), (3, _)], [], by omega, ⟨rfl, rfl, trivial⟩, trivial, i + 1, by omega, hle4, (by first | rfl | simp), (by first | rfl | (simp only [List.cons.injEq, Prod.mk.injEq, SV.v.injEq, Value.int.injEq, true_and, and_true]; omega) | simp), ?_⟩
     rfl
   ·
    skip
    refine Zao ?_
    refine Zm (Zm ?_)
    refine Zaa ?_
    refine Zc (Zd (Za (ya rfl rfl (Zf (ρ' := [(2, _)]) ⟨rfl, trivial⟩ ?_))))
    refine Zc (Zx (Zau (.tmp rfl) ?_))
    exact ⟨_, rfl⟩
theorem line4_fn (s : Bs) (hs : s.length ≤ 10000000) (u : View) : FnP Tryz.prog 39 [str s] u fun r _ => ∃ b, r = .bool b ∧ (b = true → (10 : UInt8) ∉ s) := by
 refine FnP.intro [.tmp 2] Tryz.func39 rfl rfl rfl ?_
 intro w0 D hw0
 refine Zd (Za (ya rfl rfl (Zf (ρ' := [(0, _)]) ⟨rfl, trivial⟩ ?_)))
 refine Zc (Zd (Zd (Za (ym rfl rfl (Zt rfl rfl ?_)))))
 refine Zu (caps := []) trivial rfl rfl Tryz.c57 rfl (FnP.mono (kvalid_fn s (by omega) u) ?_)
 rintro v u1 hle1 ⟨b, rfl⟩
 refine Zg (Zbu rfl rfl) rfl (Zf (ρ' := [(0, _), (6, _)]) ⟨rfl, rfl, trivial⟩ ?_)
 refine Zc ?_
 refine Zr rfl (fun hb1 => ?_) (fun hb1 => ?_)
 ·
  refine Zd (Za (ya rfl rfl (Zf (ρ' := [(2, _)]) ⟨rfl, trivial⟩ ?_)))
  refine Zc (Zx (Zh (Zau (.tmp rfl) ?_)))
  refine ⟨_, rfl, fun h => ?_⟩; first | exact hinv | cases h
 ·
  refine Zs (Zc (Zd (Zd (Za (ya rfl rfl (Zf (ρ' := [(0, _), (3, _)]) ⟨rfl, rfl, trivial⟩ ?_))))))
  refine Zc (Zv ?_)
  refine Zas (fun m_0 ρ σ u' => ∃ i : Nat, i + m_0 = s.length ∧ VLe u u' ∧ σ = [] ∧ ρ = [(0, .v (str s)), (3, .v (.int .i64 i))] ∧ (u = u' ∧ (10 : UInt8) ∉ s.take i)) (s.length) ?_ ?_
  ·
   refine ⟨[(0, _), (3, _)], [], ⟨rfl, rfl, trivial⟩, trivial, 0, by omega, VLe.refl _, (by first | rfl | simp), (by first | rfl | (simp only [List.cons.injEq, Prod.mk.injEq, SV.v.injEq, Value.int.injEq, true_and, and_true]; omega) | simp), ?_⟩
   exact ⟨rfl, by simp⟩
  ·
   rintro m ρ σ u' ⟨i, hi4, hle4, rfl, rfl, ⟨rfl, hinv⟩⟩
   refine Zd (Zd (Za (ym rfl rfl (ym rfl rfl (Zg (Zaq rfl rfl Tryz.str9 rfl) rfl (Zg (Zaz rfl rfl rfl) rfl (Zf (ρ' := [(0, _), (3, _), (10, _)]) ⟨rfl, rfl, rfl, trivial⟩ ?_)))))))
   refine Zc ?_
   refine Zr rfl (fun hb4 => ?_) (fun hb4 => ?_)
   ·
    have hlt : i < s.length := by have := of_decide_eq_true hb4; omega
    obtain ⟨c, hc, hc2⟩ := byte_at hlt
    refine Zs (Zc (Zd (Zv (Zd (Za (ym rfl rfl (ym rfl rfl ?_)))))))
    refine Zg (Zat rfl Tryz.str9 rfl rfl (by first | rfl | omega) (by assumption)) rfl (Zg (Zay rfl rfl rfl) rfl (Zf (ρ' := [(0, _), (3, _), (16, _)]) ⟨rfl, rfl, rfl, trivial⟩ ?_))
    refine Zc ?_
    refine Zr rfl (fun hb6 => ?_) (fun hb6 => ?_)
    ·
     skip
     refine Zd (Za (ya rfl rfl (Zf (ρ' := [(2, _)]) ⟨rfl, trivial⟩ ?_)))
     refine Zc (Zx (Zq (Zh (Zh (Zq (Zh (Zau (.tmp rfl) ?_)))))))
     refine ⟨_, rfl, fun h => ?_⟩; first | exact hinv | cases h
    ·
     have h10 : c ≠ 10 := by
      rintro rfl
      exact absurd hb6 (by decide)
     refine Zs (Zaj (Zc (Za (ym rfl rfl (Zg (Zap rfl rfl rfl (Zn (by omega))) rfl ?_)))))
     refine ya rfl rfl (Zf (ρ' := [(0, _), (3, _)]) ⟨rfl, rfl, trivial⟩ ?_)
     refine Zae ?_
     refine ⟨m - 1, [(0, _), (3, _)], [], by omega, ⟨rfl, rfl, trivial⟩, trivial, i + 1, by omega, hle4, (by first | rfl | simp), (by first | rfl | (simp only [List.cons.injEq, Prod.mk.injEq, SV.v.injEq, Value.int.injEq, true_and, and_true]; omega) | simp), ?_⟩
     exact ⟨rfl, mem_take_lt hc h10 hinv⟩
   ·
    have hge := of_decide_eq_false hb4
    rw [List.take_of_length_le (by omega)] at hinv
    refine Zao ?_
    refine Zm (Zm ?_)
    refine Zaa ?_
    refine Zc (Zd (Za (ya rfl rfl (Zf (ρ' := [(2, _)]) ⟨rfl, trivial⟩ ?_))))
    refine Zc (Zx (Zau (.tmp rfl) ?_))
    refine ⟨_, rfl, fun h => ?_⟩; first | exact hinv | cases h
theorem hasText_fn (v : Value) (xs : List Bs) (s : Bs) (hl : xs.length ≤ 1000000) (u : View) (h : StrS u v xs) : FnP Tryz.prog 61 [v, str s] u fun r _ => ∃ b, r = .bool b := by
 obtain ⟨ad, cap, rfl, h1⟩ := h
 refine FnP.intro [.tmp 4] Tryz.func61 rfl rfl rfl ?_
 intro w0 D hw0
 refine Zd (Za (ya rfl rfl (Zf (ρ' := [(0, _), (1, _)]) ⟨rfl, rfl, trivial⟩ ?_)))
 refine Zc (Zd (Zd (Za (ya rfl rfl (Zf (ρ' := [(0, _), (1, _), (5, _)]) ⟨rfl, rfl, rfl, trivial⟩ ?_)))))
 refine Zc (Zv ?_)
 refine Zas (fun m_0 ρ σ u' => ∃ i : Nat, i + m_0 = xs.length ∧ VLe u u' ∧ σ = [] ∧ ρ = [(0, .v (.slice ad xs.length cap)), (1, .v (str s)), (5, .v (.int .i64 i))] ∧ (u = u')) (xs.length) ?_ ?_
 ·
  refine ⟨[(0, _), (1, _), (5, _)], [], ⟨rfl, rfl, rfl, trivial⟩, trivial, 0, by omega, VLe.refl _, (by first | rfl | simp), (by first | rfl | (simp only [List.cons.injEq, Prod.mk.injEq, SV.v.injEq, Value.int.injEq, true_and, and_true]; omega) | simp), ?_⟩
  rfl
 ·
  rintro m ρ σ u' ⟨i, hi2, hle2, rfl, rfl, rfl⟩
  refine Zd (Zd (Za (ym rfl rfl (ym rfl rfl (Zg (Zah rfl rfl Tryz.s24 rfl) rfl (Zg (Zaz rfl rfl rfl) rfl (Zf (ρ' := [(0, _), (1, _), (5, _), (9, _)]) ⟨rfl, rfl, rfl, rfl, trivial⟩ ?_)))))))
  refine Zc ?_
  refine Zr rfl (fun hb2 => ?_) (fun hb2 => ?_)
  ·
   have hlt : i < xs.length := by have := of_decide_eq_true hb2; omega
   have hcc := cut_strsC (List.getElem?_eq_getElem hlt)
   refine Zs (Zc (Zd (Zv (Zd (Za (ym rfl rfl (ym rfl rfl ?_)))))))
   refine Zg (Zad rfl Tryz.s24 rfl rfl (by assumption) (by first | rfl | omega) (by omega)) rfl (Zg (Zac rfl Tryz.k9 rfl (by assumption) (by omega) (by assumption) (vs := [_]) rfl rfl rfl rfl) rfl (ym rfl rfl (Zg (Zbn rfl rfl rfl) rfl (Zf (ρ' := [(0, _), (1, _), (5, _), (17, _)]) ⟨rfl, rfl, rfl, rfl, trivial⟩ ?_))))
   refine Zc ?_
   refine Zr rfl (fun hb4 => ?_) (fun hb4 => ?_)
   ·
    refine Zd (Za (ya rfl rfl (Zf (ρ' := [(4, _)]) ⟨rfl, trivial⟩ ?_)))
    refine Zc (Zx (Zq (Zh (Zh (Zq (Zh (Zau (.tmp rfl) ?_)))))))
    exact ⟨_, rfl⟩
   ·
    refine Zs (Zaj (Zc (Za (ym rfl rfl (Zg (Zap rfl rfl rfl (Zn (by omega))) rfl ?_)))))
    refine ya rfl rfl (Zf (ρ' := [(0, _), (1, _), (5, _)]) ⟨rfl, rfl, rfl, trivial⟩ ?_)
    refine Zae ?_
    refine ⟨m - 1, [(0, _), (1, _), (5, _)], [], by omega, ⟨rfl, rfl, rfl, trivial⟩, trivial, i + 1, by omega, hle2, (by first | rfl | simp), (by first | rfl | (simp only [List.cons.injEq, Prod.mk.injEq, SV.v.injEq, Value.int.injEq, true_and, and_true]; omega) | simp), ?_⟩
    rfl
  ·
   skip
   refine Zao ?_
   refine Zm (Zm ?_)
   refine Zaa ?_
   refine Zc (Zd (Za (ya rfl rfl (Zf (ρ' := [(4, _)]) ⟨rfl, trivial⟩ ?_))))
   refine Zc (Zx (Zau (.tmp rfl) ?_))
   exact ⟨_, rfl⟩
theorem hasKey_fn (v : Value) (xs : List (Bs × Bs)) (s : Bs) (hl : xs.length ≤ 1000000) (u : View) (h : PrS u v xs) : FnP Tryz.prog 63 [v, str s] u fun r _ => ∃ b, r = .bool b := by
 obtain ⟨ad, cap, rfl, h1⟩ := h
 refine FnP.intro [.tmp 4] Tryz.func63 rfl rfl rfl ?_
 intro w0 D hw0
 refine Zd (Za (ya rfl rfl (Zf (ρ' := [(0, _), (1, _)]) ⟨rfl, rfl, trivial⟩ ?_)))
 refine Zc (Zd (Zd (Za (ya rfl rfl (Zf (ρ' := [(0, _), (1, _), (5, _)]) ⟨rfl, rfl, rfl, trivial⟩ ?_)))))
 refine Zc (Zv ?_)
 refine Zas (fun m_0 ρ σ u' => ∃ i : Nat, i + m_0 = xs.length ∧ VLe u u' ∧ σ = [] ∧ ρ = [(0, .v (.slice ad xs.length cap)), (1, .v (str s)), (5, .v (.int .i64 i))] ∧ (u = u')) (xs.length) ?_ ?_
 ·
  refine ⟨[(0, _), (1, _), (5, _)], [], ⟨rfl, rfl, rfl, trivial⟩, trivial, 0, by omega, VLe.refl _, (by first | rfl | simp), (by first | rfl | (simp only [List.cons.injEq, Prod.mk.injEq, SV.v.injEq, Value.int.injEq, true_and, and_true]; omega) | simp), ?_⟩
  rfl
 ·
  rintro m ρ σ u' ⟨i, hi2, hle2, rfl, rfl, rfl⟩
  refine Zd (Zd (Za (ym rfl rfl (ym rfl rfl (Zg (Zah rfl rfl Tryz.s25 rfl) rfl (Zg (Zaz rfl rfl rfl) rfl (Zf (ρ' := [(0, _), (1, _), (5, _), (9, _)]) ⟨rfl, rfl, rfl, rfl, trivial⟩ ?_)))))))
  refine Zc ?_
  refine Zr rfl (fun hb2 => ?_) (fun hb2 => ?_)
  ·
   have hlt : i < xs.length := by have := of_decide_eq_true hb2; omega
   have hcc := cut_pairsC (List.getElem?_eq_getElem hlt)
   refine Zs (Zc (Zd (Zv (Zd (Za (ym rfl rfl (ym rfl rfl ?_)))))))
   refine Zg (Zad rfl Tryz.s25 rfl rfl (by assumption) (by first | rfl | omega) (by omega)) rfl (Zg (Zbe rfl Tryz.f40' rfl (by decide) rfl) rfl (Zg (Zac rfl Tryz.k9 rfl (by assumption) (by omega) (by assumption) (vs := [_]) rfl rfl rfl rfl) rfl (ym rfl rfl (Zg (Zbn rfl rfl rfl) rfl (Zf (ρ' := [(0, _), (1, _), (5, _), (18, _)]) ⟨rfl, rfl, rfl, rfl, trivial⟩ ?_)))))
   refine Zc ?_
   refine Zr rfl (fun hb4 => ?_) (fun hb4 => ?_)
   ·
    refine Zd (Za (ya rfl rfl (Zf (ρ' := [(4, _)]) ⟨rfl, trivial⟩ ?_)))
    refine Zc (Zx (Zq (Zh (Zh (Zq (Zh (Zau (.tmp rfl) ?_)))))))
    exact ⟨_, rfl⟩
   ·
    refine Zs (Zaj (Zc (Za (ym rfl rfl (Zg (Zap rfl rfl rfl (Zn (by omega))) rfl ?_)))))
    refine ya rfl rfl (Zf (ρ' := [(0, _), (1, _), (5, _)]) ⟨rfl, rfl, rfl, trivial⟩ ?_)
    refine Zae ?_
    refine ⟨m - 1, [(0, _), (1, _), (5, _)], [], by omega, ⟨rfl, rfl, rfl, trivial⟩, trivial, i + 1, by omega, hle2, (by first | rfl | simp), (by first | rfl | (simp only [List.cons.injEq, Prod.mk.injEq, SV.v.injEq, Value.int.injEq, true_and, and_true]; omega) | simp), ?_⟩
    rfl
  ·
   skip
   refine Zao ?_
   refine Zm (Zm ?_)
   refine Zaa ?_
   refine Zc (Zd (Za (ya rfl rfl (Zf (ρ' := [(4, _)]) ⟨rfl, trivial⟩ ?_))))
   refine Zc (Zx (Zau (.tmp rfl) ?_))
   exact ⟨_, rfl⟩
def AttrSm (a : DAttr) : Prop := longN a ≤ 9000 ∧ a.classes.length ≤ 40 ∧ a.pairs.length ≤ 40
theorem le_sumC : ∀ {l : List Nat} {x : Nat}, x ∈ l → x ≤ l.sum
 | [], x, h => by simp at h
 | y :: l, x, h => by
  rw [List.sum_cons]
  rcases List.mem_cons.1 h with rfl | h
  ·
   omega
  ·
   have := le_sumC h; omega
theorem AttrSm.id {a : DAttr} (h : AttrSm a) : a.id.length ≤ 9000 := by have := h.1; unfold longN at this; omega
theorem AttrSm.cls {a : DAttr} (h : AttrSm a) {c : Bs} (hc : c ∈ a.classes) : c.length ≤ 9000 := by
 have h1 := h.1
 unfold longN at h1
 have : c.length ≤ (a.classes.map List.length).sum := le_sumC (List.mem_map.2 ⟨c, hc, rfl⟩)
 omega
theorem AttrSm.prs {a : DAttr} (h : AttrSm a) {p : Bs × Bs} (hp : p ∈ a.pairs) : p.1.length + p.2.length ≤ 9000 := by
 have h1 := h.1
 unfold longN at h1
 have : p.1.length + p.2.length ≤ (a.pairs.map fun p => p.1.length + p.2.length).sum := le_sumC (List.mem_map.2 ⟨p, hp, rfl⟩)
 omega
theorem strS_take {u : View} {ad : Option Addr} {cap : Nat} {xs : List Bs} (h : SlC u ad xs.length cap 1 (strsC xs)) {i : Nat} (hi : i ≤ xs.length) : StrS u (.slice (if cap = 0 then ad else ad.map (·.add (0 * 1))) i cap) (xs.take i) := by
 have h2 := h.uptoK (i := i) hi
 refine ⟨_, _, by rw [List.length_take, Nat.min_eq_left hi], ?_⟩
 rw [List.length_take, Nat.min_eq_left hi]
 simpa [strsC, List.map_take] using h2
theorem pairsC_take : ∀ (ps : List (Bs × Bs)) (i : Nat), (pairsC ps).take (i * 2) = pairsC (ps.take i)
 | [], i => by simp [pairsC]
 | p :: ps, 0 => by simp [pairsC]
 | p :: ps, i + 1 => by
  have ih := pairsC_take ps i
  have e : pairsC (p :: ps) = str p.1 :: str p.2 :: pairsC ps := rfl
  rw [e, show (i + 1) * 2 = i * 2 + 1 + 1 by omega, List.take_succ_cons, List.take_succ_cons, ih, List.take_succ_cons]
  rfl
theorem prS_take {u : View} {ad : Option Addr} {cap : Nat} {xs : List (Bs × Bs)} (h : SlC u ad xs.length cap 2 (pairsC xs)) {i : Nat} (hi : i ≤ xs.length) : PrS u (.slice (if cap = 0 then ad else ad.map (·.add (0 * 2))) i cap) (xs.take i) := by
 have h2 := h.uptoK (i := i) hi
 refine ⟨_, _, by rw [List.length_take, Nat.min_eq_left hi], ?_⟩
 rw [List.length_take, Nat.min_eq_left hi]
 rw [pairsC_take] at h2
 exact h2
theorem attrCheck_fn (a : DAttr) (vc vp : Value) (ha : AttrSm a) (u : View) (h1 : StrS u vc a.classes) (h2 : PrS u vp a.pairs) : FnP Tryz.prog 42 [.agg #[str a.id, vc, vp]] u fun r _ => ∃ e, r = .int .i64 e := by
 obtain ⟨ad, cap, rfl, h1⟩ := h1
 obtain ⟨ad2, cap2, rfl, h2⟩ := h2
 have hid := ha.id
 have hcl := ha.2.1
 have hpl := ha.2.2
 have hcap := h1.2.1
 have hcap2 := h2.2.1
 refine FnP.intro [.tmp 2] Tryz.func42 rfl rfl rfl ?_
 intro w0 D hw0
 refine Zd (Za (Zt rfl rfl ?_))
 refine do_box trivial rfl (cs := [_, _, _]) rfl rfl rfl rfl ?_
 refine ya rfl rfl (Zf (ρ' := [(1, _)]) ⟨rfl, trivial⟩ ?_)
 refine Zc (Zd (Zd (Za ?_)))
 refine Zbb 9 13 (fun _ => True) (ρk := [(1, _)]) ⟨rfl, trivial⟩ ?_ fun mb1_8 hm1_8 => ?_
 ·
  refine Zg (Zi rfl Tryz.f27' rfl (by decide) rfl) rfl (Zg (Zl rfl Tryz.k9 rfl rfl rfl (vs := [_]) rfl rfl rfl) rfl (Zg (Zbj rfl rfl rfl) rfl (ym rfl rfl ?_)))
  refine Zab 8 rfl (fun hg1_3 => ?_) (fun hg1_3 => ?_)
  ·
   refine Zj rfl rfl (Zg (Zi rfl Tryz.f27' rfl (by decide) rfl) rfl (Zj rfl rfl (Zg (Zl rfl Tryz.k9 rfl rfl rfl (vs := [_]) rfl rfl rfl) rfl (Zj rfl rfl (Zt rfl rfl ?_)))))
   refine Zu (caps := []) trivial rfl rfl Tryz.c60 rfl (FnP.mono (name_fn a.id (by omega) u) ?_)
   rintro v u1 hle1 ⟨b, rfl, _⟩
   refine Zj rfl rfl (Zg (Zbu rfl rfl) rfl (Zg (Zk rfl rfl rfl) rfl ?_))
   exact Zaf rfl ⟨rfl, trivial⟩ (trivial)
  ·
   iterate 4 refine Zp rfl rfl rfl rfl ?_
   refine Zg (Zo rfl rfl rfl) rfl ?_
   exact Zaf rfl ⟨rfl, trivial⟩ (trivial)
 refine Zf (ρ' := [(1, _), (13, _)]) ⟨rfl, rfl, trivial⟩ ?_
 refine Zc ?_
 refine Zr rfl (fun hb1 => ?_) (fun hb1 => ?_)
 ·
  refine Zd (Za (ya rfl rfl (Zf (ρ' := [(2, _)]) ⟨rfl, trivial⟩ ?_)))
  refine Zc (Zx (Zh (Zau (.tmp rfl) ?_)))
  exact ⟨_, rfl⟩
 ·
  refine Zs (Zc (Zd (Zd (Za (ya rfl rfl (Zf (ρ' := [(1, _), (3, _)]) ⟨rfl, rfl, trivial⟩ ?_))))))
  refine Zc (Zv ?_)
  refine Zas (fun m_0 ρ σ u' => ∃ i : Nat, i + m_0 = a.classes.length ∧ VLe u u' ∧ σ = [(1, (none, .box [str a.id, .slice ad a.classes.length cap, .slice ad2 a.pairs.length cap2]))] ∧ ρ = [(1, .p 1 0), (3, .v (.int .i64 i))] ∧ (u = u')) (a.classes.length) ?_ ?_
  ·
   refine ⟨[(1, _), (3, _)], [(1, _)], ⟨rfl, rfl, trivial⟩, ⟨rfl, trivial⟩, 0, by omega, VLe.refl _, (by first | rfl | simp), (by first | rfl | (simp only [List.cons.injEq, Prod.mk.injEq, SV.v.injEq, Value.int.injEq, true_and, and_true]; omega) | simp), ?_⟩
   rfl
  ·
   rintro m ρ σ u' ⟨i, hi4, hle4, rfl, rfl, rfl⟩
   refine Zd (Zd (Za (ym rfl rfl (Zg (Zi rfl Tryz.f27' rfl (by decide) rfl) rfl (Zg (Zl rfl Tryz.k24 rfl rfl rfl (vs := [_]) rfl rfl rfl) rfl (Zg (Zah rfl rfl Tryz.s24 rfl) rfl (Zg (Zaz rfl rfl rfl) rfl (Zf (ρ' := [(1, _), (3, _), (18, _)]) ⟨rfl, rfl, rfl, trivial⟩ ?_))))))))
   refine Zc ?_
   refine Zr rfl (fun hb4 => ?_) (fun hb4 => ?_)
   ·
    have hlt : i < a.classes.length := by have := of_decide_eq_true hb4; omega
    have hcc := cut_strsC (List.getElem?_eq_getElem hlt)
    have hl := ha.cls (List.getElem_mem hlt)
    refine Zs (Zc (Zd (Zv (Zd (Zd (Za (Zg (Zi rfl Tryz.f27' rfl (by decide) rfl) rfl ?_)))))))
    refine Zg (Zl rfl Tryz.k24 rfl rfl rfl (vs := [_]) rfl rfl rfl) rfl (ym rfl rfl (Zg (Zad rfl Tryz.s24 rfl rfl (by assumption) (by first | rfl | omega) (by omega)) rfl (Zg (Zac rfl Tryz.k9 rfl (by assumption) (by omega) (by assumption) (vs := [_]) rfl rfl rfl rfl) rfl (Zt rfl rfl ?_))))
    refine Zu (caps := []) trivial rfl rfl Tryz.c60 rfl (FnP.mono (name_fn _ (by omega) u) ?_)
    rintro v u1 hle1 ⟨b, rfl, _⟩
    refine Zg (Zbu rfl rfl) rfl (Zf (ρ' := [(1, _), (3, _), (27, _)]) ⟨rfl, rfl, rfl, trivial⟩ ?_)
    refine Zc ?_
    refine Zr rfl (fun hb6 => ?_) (fun hb6 => ?_)
    ·
     refine Zd (Za (ya rfl rfl (Zf (ρ' := [(2, _)]) ⟨rfl, trivial⟩ ?_)))
     refine Zc (Zx (Zh (Zq (Zh (Zh (Zq (Zh ?_)))))))
     refine Zau (.tmp rfl) ?_
     exact ⟨_, rfl⟩
    ·
     refine Zs (Zc (Zd ?_))
     refine Zbf Tryz.mixed rfl [(1, _)] ⟨rfl, trivial⟩ ?_
     refine Zar 0 rfl (by kernel_rfl) (Zb (Ze (Zb (Zb (Ze (Zb (Zw))))))) (Zi rfl Tryz.f27' rfl (by decide) rfl) rfl ?_
     refine Zar 1 rfl (by kernel_rfl) (Zb (Ze (Zb (Zb (Ze (Zb (Zw))))))) (Zl rfl Tryz.k24 rfl rfl rfl (vs := [_]) rfl rfl rfl) rfl ?_
     refine Zar 2 rfl (by kernel_rfl) (Zb (Ze (Zb (Zb (Ze (Zb (Zw))))))) (Zan rfl rfl) rfl ?_
     refine Zar 3 rfl (by kernel_rfl) (Zb (Ze (Zb (Zb (Ze (Zb (Zw))))))) (y_slice_hiK rfl Tryz.s24 rfl rfl (i := i) rfl (by omega)) rfl ?_
     refine Zar 4 rfl (by kernel_rfl) (Zb (Ze (Zb (Zb (Ze (Zb (Zw))))))) (Zi rfl Tryz.f27' rfl (by decide) rfl) rfl ?_
     refine Zar 5 rfl (by kernel_rfl) (Zb (Ze (Zb (Zb (Ze (Zb (Zw))))))) (Zl rfl Tryz.k24 rfl rfl rfl (vs := [_]) rfl rfl rfl) rfl ?_
     refine Zar 6 rfl (by kernel_rfl) (Zb (Ze (Zb (Zb (Ze (Zb (Zw))))))) (Zan rfl rfl) rfl ?_
     refine Zar 7 rfl (by kernel_rfl) (Zb (Ze (Zb (Zb (Ze (Zb (Zw))))))) (Zad rfl Tryz.s24 rfl rfl (by assumption) (by first | rfl | omega) (by omega)) rfl ?_
     refine Zar 8 rfl (by kernel_rfl) (Zb (Ze (Zb (Zb (Ze (Zb (Zw))))))) (Zac rfl Tryz.k9 rfl (by assumption) (by omega) (by assumption) (vs := [_]) rfl rfl rfl rfl) rfl ?_
     refine Zbq (i := 9) rfl rfl (by kernel_rfl) ?_
     refine Zu (caps := []) ⟨rfl, trivial⟩ rfl rfl Tryz.c61 rfl (FnP.mono (hasText_fn _ (a.classes.take i) _ (by rw [List.length_take]; omega) u (strS_take h1 (by omega))) ?_)
     rintro v u1 hle1 ⟨b, rfl⟩
     refine Zbm (by kernel_rfl) (ρ' := [(1, _), (3, _), (37, _)]) ⟨rfl, rfl, rfl, trivial⟩ ?_
     refine Zc ?_
     refine Zr rfl (fun hb8 => ?_) (fun hb8 => ?_)
     ·
      refine Zd (Za (ya rfl rfl (Zf (ρ' := [(2, _)]) ⟨rfl, trivial⟩ ?_)))
      refine Zc (Zx (Zq (Zh (Zh (Zq (Zh (Zau (.tmp rfl) ?_)))))))
      exact ⟨_, rfl⟩
     ·
      refine Zs (Zaj (Zc (Za (ym rfl rfl (Zg (Zap rfl rfl rfl (Zn (by omega))) rfl ?_)))))
      refine ya rfl rfl (Zf (ρ' := [(1, _), (3, _)]) ⟨rfl, rfl, trivial⟩ ?_)
      refine Zae ?_
      refine ⟨m - 1, [(1, _), (3, _)], [(1, _)], by omega, ⟨rfl, rfl, trivial⟩, ⟨rfl, trivial⟩, i + 1, by omega, hle4, (by first | rfl | simp), (by first | rfl | (simp only [List.cons.injEq, Prod.mk.injEq, SV.v.injEq, Value.int.injEq, true_and, and_true]; omega) | simp), ?_⟩
      rfl
   ·
    skip
    refine Zao ?_
    refine Zm (Zm ?_)
    refine Zaa ?_
    refine Zc (Zd (Zd (Za (ya rfl rfl (Zf (ρ' := [(1, _), (4, _)]) ⟨rfl, rfl, trivial⟩ ?_)))))
    refine Zc (Zv ?_)
    refine Zas (fun m_0 ρ σ u' => ∃ j : Nat, j + m_0 = a.pairs.length ∧ VLe u u' ∧ σ = [(1, (none, .box [str a.id, .slice ad a.classes.length cap, .slice ad2 a.pairs.length cap2]))] ∧ ρ = [(1, .p 1 0), (4, .v (.int .i64 j))] ∧ (u = u')) (a.pairs.length) ?_ ?_
    ·
     refine ⟨[(1, _), (4, _)], [(1, _)], ⟨rfl, rfl, trivial⟩, ⟨rfl, trivial⟩, 0, by omega, VLe.refl _, (by first | rfl | simp), (by first | rfl | (simp only [List.cons.injEq, Prod.mk.injEq, SV.v.injEq, Value.int.injEq, true_and, and_true]; omega) | simp), ?_⟩
     rfl
    ·
     rintro mj ρ σ u' ⟨j, hi11, hle11, rfl, rfl, rfl⟩
     refine Zd (Zd (Za (ym rfl rfl (Zg (Zi rfl Tryz.f27' rfl (by decide) rfl) rfl (Zg (Zl rfl Tryz.k25 rfl rfl rfl (vs := [_]) rfl rfl rfl) rfl (Zg (Zah rfl rfl Tryz.s25 rfl) rfl (Zg (Zaz rfl rfl rfl) rfl (Zf (ρ' := [(1, _), (4, _), (42, _)]) ⟨rfl, rfl, rfl, trivial⟩ ?_))))))))
     refine Zc ?_
     refine Zr rfl (fun hb11 => ?_) (fun hb11 => ?_)
     ·
      have hlt2 : j < a.pairs.length := by have := of_decide_eq_true hb11; omega
      have hcc2 := cut_pairsC (List.getElem?_eq_getElem hlt2)
      have hl2 := ha.prs (List.getElem_mem hlt2)
      refine Zs (Zc (Zd (Zv (Zd (Zd (Za (Zg (Zi rfl Tryz.f27' rfl (by decide) rfl) rfl ?_)))))))
      refine Zg (Zl rfl Tryz.k25 rfl rfl rfl (vs := [_]) rfl rfl rfl) rfl (ym rfl rfl (Zg (Zad rfl Tryz.s25 rfl rfl (by assumption) (by first | rfl | omega) (by omega)) rfl (Zg (Zbe rfl Tryz.f40' rfl (by decide) rfl) rfl (Zg (Zac rfl Tryz.k9 rfl (by assumption) (by omega) (by assumption) (vs := [_]) rfl rfl rfl rfl) rfl (Zt rfl rfl ?_)))))
      refine Zu (caps := []) trivial rfl rfl Tryz.c60 rfl (FnP.mono (name_fn _ (by omega) u) ?_)
      rintro v u1 hle1 ⟨b, rfl, _⟩
      refine Zg (Zbu rfl rfl) rfl (Zf (ρ' := [(1, _), (4, _), (52, _)]) ⟨rfl, rfl, rfl, trivial⟩ ?_)
      refine Zc ?_
      refine Zr rfl (fun hb13 => ?_) (fun hb13 => ?_)
      ·
       refine Zd (Za (ya rfl rfl (Zf (ρ' := [(2, _)]) ⟨rfl, trivial⟩ ?_)))
       refine Zc (Zx (Zh (Zq (Zh (Zh (Zq (Zh ?_)))))))
       refine Zau (.tmp rfl) ?_
       exact ⟨_, rfl⟩
      ·
       refine Zs (Zc (Zd (Zd (Za (Zg (Zi rfl Tryz.f27' rfl (by decide) rfl) rfl (Zg (Zl rfl Tryz.k25 rfl rfl rfl (vs := [_]) rfl rfl rfl) rfl (ym rfl rfl ?_)))))))
       refine Zg (Zad rfl Tryz.s25 rfl rfl (by assumption) (by first | rfl | omega) (by omega)) rfl (Zg (Zbe rfl Tryz.f40' rfl (by decide) rfl) rfl (Zg (Zac rfl Tryz.k9 rfl (by assumption) (by omega) (by assumption) (vs := [_]) rfl rfl rfl rfl) rfl (Zt rfl rfl ?_)))
       refine Zu (caps := []) trivial rfl rfl Tryz.c62 rfl (FnP.mono (line3_fn _ (by omega) u) ?_)
       rintro v u1 hle1 ⟨b, rfl⟩
       refine Zg (Zbu rfl rfl) rfl (Zf (ρ' := [(1, _), (4, _), (60, _)]) ⟨rfl, rfl, rfl, trivial⟩ ?_)
       refine Zc ?_
       refine Zr rfl (fun hb15 => ?_) (fun hb15 => ?_)
       ·
        refine Zd (Za (ya rfl rfl (Zf (ρ' := [(2, _)]) ⟨rfl, trivial⟩ ?_)))
        refine Zc (Zx (Zh (Zq (Zh (Zh (Zq (Zh ?_)))))))
        refine Zau (.tmp rfl) ?_
        exact ⟨_, rfl⟩
       ·
        refine Zs (Zc (Zd ?_))
        refine Zbf Tryz.mixed rfl [(1, _)] ⟨rfl, trivial⟩ ?_
        refine Zar 0 rfl (by kernel_rfl) (Zb (Ze (Zb (Zb (Ze (Zb (Zw))))))) (Zi rfl Tryz.f27' rfl (by decide) rfl) rfl ?_
        refine Zar 1 rfl (by kernel_rfl) (Zb (Ze (Zb (Zb (Ze (Zb (Zw))))))) (Zl rfl Tryz.k25 rfl rfl rfl (vs := [_]) rfl rfl rfl) rfl ?_
        refine Zar 2 rfl (by kernel_rfl) (Zb (Ze (Zb (Zb (Ze (Zb (Zw))))))) (Zan rfl rfl) rfl ?_
        refine Zar 3 rfl (by kernel_rfl) (Zb (Ze (Zb (Zb (Ze (Zb (Zw))))))) (y_slice_hiK rfl Tryz.s25 rfl rfl (i := j) rfl (by omega)) rfl ?_
        refine Zar 4 rfl (by kernel_rfl) (Zb (Ze (Zb (Zb (Ze (Zb (Zw))))))) (Zi rfl Tryz.f27' rfl (by decide) rfl) rfl ?_
        refine Zar 5 rfl (by kernel_rfl) (Zb (Ze (Zb (Zb (Ze (Zb (Zw))))))) (Zl rfl Tryz.k25 rfl rfl rfl (vs := [_]) rfl rfl rfl) rfl ?_
        refine Zar 6 rfl (by kernel_rfl) (Zb (Ze (Zb (Zb (Ze (Zb (Zw))))))) (Zan rfl rfl) rfl ?_
        refine Zar 7 rfl (by kernel_rfl) (Zb (Ze (Zb (Zb (Ze (Zb (Zw))))))) (Zad rfl Tryz.s25 rfl rfl (by assumption) (by first | rfl | omega) (by omega)) rfl ?_
        refine Zar 8 rfl (by kernel_rfl) (Zb (Ze (Zb (Zb (Ze (Zb (Zw))))))) (Zbe rfl Tryz.f40' rfl (by decide) rfl) rfl ?_
        refine Zar 9 rfl (by kernel_rfl) (Zb (Ze (Zb (Zb (Ze (Zb (Zw))))))) (Zac rfl Tryz.k9 rfl (by assumption) (by omega) (by assumption) (vs := [_]) rfl rfl rfl rfl) rfl ?_
        refine Zbq (i := 10) rfl rfl (by kernel_rfl) ?_
        refine Zu (caps := []) ⟨rfl, trivial⟩ rfl rfl Tryz.c63 rfl (FnP.mono (hasKey_fn _ (a.pairs.take j) _ (by rw [List.length_take]; omega) u (prS_take h2 (by omega))) ?_)
        rintro v u1 hle1 ⟨b, rfl⟩
        refine Zbm (by kernel_rfl) (ρ' := [(1, _), (4, _), (71, _)]) ⟨rfl, rfl, rfl, trivial⟩ ?_
        refine Zc ?_
        refine Zr rfl (fun hb17 => ?_) (fun hb17 => ?_)
        ·
         refine Zd (Za (ya rfl rfl (Zf (ρ' := [(2, _)]) ⟨rfl, trivial⟩ ?_)))
         refine Zc (Zx (Zq (Zh (Zh (Zq (Zh (Zau (.tmp rfl) ?_)))))))
         exact ⟨_, rfl⟩
        ·
         refine Zs (Zaj (Zc (Za (ym rfl rfl (Zg (Zap rfl rfl rfl (Zn (by omega))) rfl ?_)))))
         refine ya rfl rfl (Zf (ρ' := [(1, _), (4, _)]) ⟨rfl, rfl, trivial⟩ ?_)
         refine Zae ?_
         refine ⟨mj - 1, [(1, _), (4, _)], [(1, _)], by omega, ⟨rfl, rfl, trivial⟩, ⟨rfl, trivial⟩, j + 1, by omega, hle11, (by first | rfl | simp), (by first | rfl | (simp only [List.cons.injEq, Prod.mk.injEq, SV.v.injEq, Value.int.injEq, true_and, and_true]; omega) | simp), ?_⟩
         rfl
     ·
      skip
      refine Zao ?_
      refine Zm (Zm ?_)
      refine Zaa ?_
      refine Zc (Zd (Zd (Za ?_)))
      refine Zbb 10 81 (fun _ => True) (ρk := []) trivial ?_ fun mb19_9 hm19_9 => ?_
      ·
       refine Zg (Zi rfl Tryz.f27' rfl (by decide) rfl) rfl (Zg (Zl rfl Tryz.k24 rfl rfl rfl (vs := [_]) rfl rfl rfl) rfl (Zg (Zah rfl rfl Tryz.s24 rfl) rfl (Zg (y_gtr rfl rfl rfl) rfl (ym rfl rfl ?_))))
       refine Zab 76 rfl (fun hg19_4 => ?_) (fun hg19_4 => ?_)
       ·
        iterate 4 refine Zp rfl rfl rfl rfl ?_
        refine Zg (Zk rfl rfl rfl) rfl ?_
        exact Zaf rfl trivial (trivial)
       ·
        refine Zj rfl rfl (Zg (Zi rfl Tryz.f27' rfl (by decide) rfl) rfl (Zj rfl rfl (Zg (Zl rfl Tryz.k25 rfl rfl rfl (vs := [_]) rfl rfl rfl) rfl (Zj rfl rfl (Zg (Zah rfl rfl Tryz.s25 rfl) rfl (Zj rfl rfl (Zg (y_gtr rfl rfl rfl) rfl ?_)))))))
        refine Zg (Zo rfl rfl rfl) rfl ?_
        exact Zaf rfl trivial (trivial)
      refine Zf (ρ' := [(81, _)]) ⟨rfl, trivial⟩ ?_
      refine Zc ?_
      refine Zr rfl (fun hb19 => ?_) (fun hb19 => ?_)
      ·
       refine Zd (Za (ya rfl rfl (Zf (ρ' := [(2, _)]) ⟨rfl, trivial⟩ ?_)))
       refine Zc (Zx (Zh (Zau (.tmp rfl) ?_)))
       exact ⟨_, rfl⟩
      ·
       refine Zs (Zc (Zd (Za (ya rfl rfl (Zf (ρ' := [(2, _)]) ⟨rfl, trivial⟩ ?_)))))
       refine Zc (Zx (Zau (.tmp rfl) ?_))
       exact ⟨_, rfl⟩
def inB (k : Int) (l : List Int) : Bool := decide (k ∈ l)
theorem in4_fn (k : Int) (v : Value) (l : List Int) (hl : l.length ≤ 1000) (u : View) (h : IsSl u v l.length 1 (intsC l)) : FnP Tryz.prog 56 [.int .i64 k, v] u fun r _ => r = .bool (inB k l) := by
 obtain ⟨ad, cap, rfl, h1⟩ := h
 refine FnP.intro [.tmp 4] Tryz.func56 rfl rfl rfl ?_
 intro w0 D hw0
 refine Zd (Za (ya rfl rfl (Zf (ρ' := [(0, _), (1, _)]) ⟨rfl, rfl, trivial⟩ ?_)))
 refine Zc (Zd (Zd (Za (ya rfl rfl (Zf (ρ' := [(0, _), (1, _), (5, _)]) ⟨rfl, rfl, rfl, trivial⟩ ?_)))))
 refine Zc (Zv ?_)
 refine Zas (fun m_0 ρ σ u' => ∃ i : Nat, i + m_0 = l.length ∧ VLe u u' ∧ σ = [] ∧ ρ = [(0, .v (.int .i64 k)), (1, .v (.slice ad l.length cap)), (5, .v (.int .i64 i))] ∧ (u = u' ∧ k ∉ l.take i)) (l.length) ?_ ?_
 ·
  refine ⟨[(0, _), (1, _), (5, _)], [], ⟨rfl, rfl, rfl, trivial⟩, trivial, 0, by omega, VLe.refl _, (by first | rfl | simp), (by first | rfl | (simp only [List.cons.injEq, Prod.mk.injEq, SV.v.injEq, Value.int.injEq, true_and, and_true]; omega) | simp), ?_⟩
  exact ⟨rfl, by simp⟩
 ·
  rintro m ρ σ u' ⟨i, hi2, hle2, rfl, rfl, ⟨rfl, hinv⟩⟩
  refine Zd (Zd (Za (ym rfl rfl (ym rfl rfl (Zg (Zah rfl rfl Tryz.s64 rfl) rfl (Zg (Zaz rfl rfl rfl) rfl (Zf (ρ' := [(0, _), (1, _), (5, _), (9, _)]) ⟨rfl, rfl, rfl, rfl, trivial⟩ ?_)))))))
  refine Zc ?_
  refine Zr rfl (fun hb2 => ?_) (fun hb2 => ?_)
  ·
   have hlt : i < l.length := by have := of_decide_eq_true hb2; omega
   have hcc := cut_intsC (List.getElem?_eq_getElem hlt)
   refine Zs (Zc (Zd (Zv (Zd (Za (ym rfl rfl (ym rfl rfl ?_)))))))
   refine Zg (Zad rfl Tryz.s64 rfl rfl (by assumption) (by first | rfl | omega) (by omega)) rfl (Zg (Zac rfl Tryz.k3 rfl (by assumption) (by omega) (by assumption) (vs := [_]) rfl rfl rfl rfl) rfl (ym rfl rfl (Zg (Zay rfl rfl rfl) rfl (Zf (ρ' := [(0, _), (1, _), (5, _), (17, _)]) ⟨rfl, rfl, rfl, rfl, trivial⟩ ?_))))
   refine Zc ?_
   refine Zr rfl (fun hb4 => ?_) (fun hb4 => ?_)
   ·
    refine Zd (Za (ya rfl rfl (Zf (ρ' := [(4, _)]) ⟨rfl, trivial⟩ ?_)))
    refine Zc (Zx (Zq (Zh (Zh (Zq (Zh (Zau (.tmp rfl) ?_)))))))
    have h4 := of_decide_eq_true hb4
    unfold inB
    rw [decide_eq_true]
    rw [← h4]; exact List.getElem_mem hlt
   ·
    refine Zs (Zaj (Zc (Za (ym rfl rfl (Zg (Zap rfl rfl rfl (Zn (by omega))) rfl ?_)))))
    refine ya rfl rfl (Zf (ρ' := [(0, _), (1, _), (5, _)]) ⟨rfl, rfl, rfl, trivial⟩ ?_)
    refine Zae ?_
    refine ⟨m - 1, [(0, _), (1, _), (5, _)], [], by omega, ⟨rfl, rfl, rfl, trivial⟩, trivial, i + 1, by omega, hle2, (by first | rfl | simp), (by first | rfl | (simp only [List.cons.injEq, Prod.mk.injEq, SV.v.injEq, Value.int.injEq, true_and, and_true]; omega) | simp), ?_⟩
    have h4 := of_decide_eq_false hb4
    refine ⟨rfl, fun hm => ?_⟩
    rw [List.take_succ_eq_append_getElem hlt] at hm
    rcases List.mem_append.1 hm with hm | hm
    ·
     exact hinv hm
    ·
     exact h4 (List.mem_singleton.1 hm).symm
  ·
   have hge := of_decide_eq_false hb2
   rw [List.take_of_length_le (by omega)] at hinv
   refine Zao ?_
   refine Zm (Zm ?_)
   refine Zaa ?_
   refine Zc (Zd (Za (ya rfl rfl (Zf (ρ' := [(4, _)]) ⟨rfl, trivial⟩ ?_))))
   refine Zc (Zx (Zau (.tmp rfl) ?_))
   unfold inB; rw [decide_eq_false hinv]
def noA (a : DAttr) : Bool := decide (a.id = []) && decide ((a.classes.length : Int) = 0) && decide ((a.pairs.length : Int) = 0)
theorem noAttr_fn (a : DAttr) (vc vp : Value) (u : View) (h1 : StrS u vc a.classes) (h2 : PrS u vp a.pairs) : FnP Tryz.prog 41 [.agg #[str a.id, vc, vp]] u fun r _ => r = .bool (noA a) := by
 obtain ⟨ad, cap, rfl, h1⟩ := h1
 obtain ⟨ad2, cap2, rfl, h2⟩ := h2
 refine FnP.intro [.tmp 2] Tryz.func41 rfl rfl rfl ?_
 intro w0 D hw0
 refine Zd (Za (Zt rfl rfl ?_))
 refine do_box trivial rfl (cs := [_, _, _]) rfl rfl rfl rfl ?_
 refine ya rfl rfl (Zf (ρ' := [(1, _)]) ⟨rfl, trivial⟩ ?_)
 refine Zc (Zd (Za (Zg (Zi rfl Tryz.f27' rfl (by decide) rfl) rfl (Zg (Zl rfl Tryz.k9 rfl rfl rfl (vs := [_]) rfl rfl rfl) rfl (Zg (Zbn rfl rfl rfl) rfl (ym rfl rfl ?_))))))
 refine Zab 6 rfl (fun hg1_3 => ?_) (fun hg1_3 => ?_)
 ·
  refine Zj rfl rfl (Zg (Zi rfl Tryz.f27' rfl (by decide) rfl) rfl (Zj rfl rfl (Zg (Zl rfl Tryz.k24 rfl rfl rfl (vs := [_]) rfl rfl rfl) rfl (Zj rfl rfl (Zg (Zah rfl rfl Tryz.s24 rfl) rfl (Zj rfl rfl (Zg (Zay rfl rfl rfl) rfl ?_)))))))
  refine Zg (Zk rfl rfl rfl) rfl (ym rfl rfl ?_)
  refine Zab 12 rfl (fun hg1_9 => ?_) (fun hg1_9 => ?_)
  ·
   refine Zj rfl rfl (Zg (Zi rfl Tryz.f27' rfl (by decide) rfl) rfl (Zj rfl rfl (Zg (Zl rfl Tryz.k25 rfl rfl rfl (vs := [_]) rfl rfl rfl) rfl (Zj rfl rfl (Zg (Zah rfl rfl Tryz.s25 rfl) rfl (Zj rfl rfl (Zg (Zay rfl rfl rfl) rfl ?_)))))))
   refine Zg (Zk rfl rfl rfl) rfl (ya rfl rfl (Zf (ρ' := [(2, _)]) ⟨rfl, trivial⟩ ?_))
   refine Zc (Zx (Zau (.tmp rfl) ?_))
   unfold noA; simp_all
  ·
   iterate 4 refine Zp rfl rfl rfl rfl ?_
   refine Zg (Zo rfl rfl rfl) rfl (ya rfl rfl (Zf (ρ' := [(2, _)]) ⟨rfl, trivial⟩ ?_))
   refine Zc (Zx (Zau (.tmp rfl) ?_))
   unfold noA; simp_all
 ·
  iterate 4 refine Zp rfl rfl rfl rfl ?_
  refine Zg (Zo rfl rfl rfl) rfl (ym rfl rfl ?_)
  iterate 4 refine Zp rfl rfl rfl rfl ?_
  refine Zg (Zo rfl rfl rfl) rfl (ya rfl rfl (Zf (ρ' := [(2, _)]) ⟨rfl, trivial⟩ ?_))
  refine Zc (Zx (Zau (.tmp rfl) ?_))
  unfold noA; simp_all
theorem reference_fn (k : Int) (u : View) : FnP Tryz.prog 79 [.int .i64 k] u fun r _ => ∃ b, r = .bool b := by
 refine FnP.intro [.tmp 2] Tryz.func79 rfl rfl rfl ?_
 intro w0 D hw0
 refine Zd (Za (ya rfl rfl (Zf (ρ' := [(0, _)]) ⟨rfl, trivial⟩ ?_)))
 refine Zc (Zd (Za (ym rfl rfl (Zt rfl rfl ?_))))
 refine Zag trivial Tryz.s64 Tryz.z3 (ps := [(_, _), (_, _), (_, _), (_, _), (_, _)]) rfl (xs := [_, _, _, _, _]) rfl rfl rfl rfl rfl rfl rfl ?_
 refine Zt rfl rfl ?_
 refine do_call_b (caps := []) 4 trivial rfl rfl Tryz.c56 rfl ?_
 intro adb capb ub hleb hslb
 refine ⟨_, rfl, FnP.mono (in4_fn k _ [9, 16, 12, 14, 13] (by decide) ub ⟨_, _, rfl, hslb⟩) ?_⟩
 rintro v u1 hle1 rfl
 refine ya rfl rfl (Zf (ρ' := [(2, _)]) ⟨rfl, trivial⟩ ?_)
 refine Zc (Zx (Zau (.tmp rfl) ?_))
 exact ⟨_, rfl⟩
theorem khas_fn (s b : Bs) (hs : s.length ≤ 10000000) (hb : b.length ≤ 100) (u : View) : FnP Tryz.prog 64 [str s, str b] u fun r _ => ∃ x, r = .bool x := by
 refine FnP.intro [.tmp 4] Tryz.func64 rfl rfl rfl ?_
 intro w0 D hw0
 refine Zd (Za (ya rfl rfl (Zf (ρ' := [(0, _), (1, _)]) ⟨rfl, rfl, trivial⟩ ?_)))
 refine Zc (Zd (Zd (Za (ya rfl rfl (Zf (ρ' := [(0, _), (1, _), (5, _)]) ⟨rfl, rfl, rfl, trivial⟩ ?_)))))
 refine Zc (Zv ?_)
 refine Zas (fun m_0 ρ σ u' => ∃ i : Nat, i + m_0 = s.length ∧ VLe u u' ∧ σ = [] ∧ ρ = [(0, .v (str s)), (1, .v (str b)), (5, .v (.int .i64 i))] ∧ (u = u')) (s.length) ?_ ?_
 ·
  refine ⟨[(0, _), (1, _), (5, _)], [], ⟨rfl, rfl, rfl, trivial⟩, trivial, 0, by omega, VLe.refl _, (by first | rfl | simp), (by first | rfl | (simp only [List.cons.injEq, Prod.mk.injEq, SV.v.injEq, Value.int.injEq, true_and, and_true]; omega) | simp), ?_⟩
  rfl
 ·
  rintro m ρ σ u' ⟨i, hi2, hle2, rfl, rfl, rfl⟩
  refine Zd (Zd (Za (ym rfl rfl (ym rfl rfl (Zg (Zaq rfl rfl Tryz.str9 rfl) rfl (Zg (Zaz rfl rfl rfl) rfl (Zf (ρ' := [(0, _), (1, _), (5, _), (10, _)]) ⟨rfl, rfl, rfl, rfl, trivial⟩ ?_)))))))
  refine Zc ?_
  refine Zr rfl (fun hb2 => ?_) (fun hb2 => ?_)
  ·
   have hlt : i < s.length := by have := of_decide_eq_true hb2; omega
   obtain ⟨c, hc, hc2⟩ := byte_at hlt
   refine Zs (Zc (Zd (Zv (Zd (Za (ya rfl rfl (Zf (ρ' := [(0, _), (1, _), (5, _), (6, _)]) ⟨rfl, rfl, rfl, rfl, trivial⟩ ?_)))))))
   refine Zc (Zv ?_)
   refine Zas (fun m_0 ρ σ u' => ∃ j : Nat, j + m_0 = b.length ∧ VLe u u' ∧ σ = [] ∧ ρ = [(0, .v (str s)), (1, .v (str b)), (5, .v (.int .i64 i)), (6, .v (.int .i64 j))] ∧ (u = u')) (b.length) ?_ ?_
   ·
    refine ⟨[(0, _), (1, _), (5, _), (6, _)], [], ⟨rfl, rfl, rfl, rfl, trivial⟩, trivial, 0, by omega, VLe.refl _, (by first | rfl | simp), (by first | rfl | (simp only [List.cons.injEq, Prod.mk.injEq, SV.v.injEq, Value.int.injEq, true_and, and_true]; omega) | simp), ?_⟩
    rfl
   ·
    rintro mj ρ σ u' ⟨j, hi5, hle5, rfl, rfl, rfl⟩
    refine Zd (Zd (Za (ym rfl rfl (ym rfl rfl (Zg (Zaq rfl rfl Tryz.str9 rfl) rfl (Zg (Zaz rfl rfl rfl) rfl (Zf (ρ' := [(0, _), (1, _), (5, _), (6, _), (16, _)]) ⟨rfl, rfl, rfl, rfl, rfl, trivial⟩ ?_)))))))
    refine Zc ?_
    refine Zr rfl (fun hb5 => ?_) (fun hb5 => ?_)
    ·
     have hlt2 : j < b.length := by have := of_decide_eq_true hb5; omega
     obtain ⟨c2, hc3, hc4⟩ := byte_at hlt2
     refine Zs (Zc (Zd (Zv (Zd ?_))))
     refine Zbf Tryz.mixed rfl [] trivial ?_
     refine Zar 0 rfl (by kernel_rfl) (Zb (Ze (Zb (Zb (Ze (Ze (Zb (Zb (Ze (Zb (Zw))))))))))) (Zan rfl rfl) rfl (Zar 1 rfl (by kernel_rfl) (Zb (Ze (Zb (Zb (Ze (Ze (Zb (Zb (Ze (Zb (Zw))))))))))) (Zan rfl rfl) rfl ?_)
     refine Zar 2 rfl (by kernel_rfl) (Zb (Ze (Zb (Zb (Ze (Ze (Zb (Zb (Ze (Zb (Zw))))))))))) (Zat rfl Tryz.str9 rfl rfl (j := i) rfl hc) rfl ?_
     refine Zar 3 rfl (by kernel_rfl) (Zb (Ze (Zb (Zb (Ze (Ze (Zb (Zb (Ze (Zb (Zw))))))))))) (Zan rfl rfl) rfl (Zar 4 rfl (by kernel_rfl) (Zb (Ze (Zb (Zb (Ze (Ze (Zb (Zb (Ze (Zb (Zw))))))))))) (Zan rfl rfl) rfl ?_)
     refine Zar 5 rfl (by kernel_rfl) (Zb (Ze (Zb (Zb (Ze (Ze (Zb (Zb (Ze (Zb (Zw))))))))))) (Zat rfl Tryz.str9 rfl rfl (j := j) rfl hc3) rfl ?_
     refine Zar 6 rfl (by kernel_rfl) (Zb (Ze (Zb (Zb (Ze (Ze (Zb (Zb (Ze (Zb (Zw))))))))))) (Zay rfl rfl rfl) rfl ?_
     refine Zbm (by kernel_rfl) (ρ' := [(0, _), (1, _), (5, _), (6, _), (25, _)]) ⟨rfl, rfl, rfl, rfl, rfl, trivial⟩ ?_
     refine Zc ?_
     refine Zr rfl (fun hb7 => ?_) (fun hb7 => ?_)
     ·
      refine Zd (Za (ya rfl rfl (Zf (ρ' := [(4, _)]) ⟨rfl, trivial⟩ ?_)))
      refine Zc (Zx (Zq (Zh (Zh (Zq (Zq (Zh ?_)))))))
      refine Zh (Zq (Zh (Zau (.tmp rfl) ?_)))
      exact ⟨_, rfl⟩
     ·
      refine Zs (Zaj (Zc (Za (ym rfl rfl (Zg (Zap rfl rfl rfl (Zn (by omega))) rfl ?_)))))
      refine ya rfl rfl (Zf (ρ' := [(0, _), (1, _), (5, _), (6, _)]) ⟨rfl, rfl, rfl, rfl, trivial⟩ ?_)
      refine Zae ?_
      refine ⟨mj - 1, [(0, _), (1, _), (5, _), (6, _)], [], by omega, ⟨rfl, rfl, rfl, rfl, trivial⟩, trivial, j + 1, by omega, hle5, (by first | rfl | simp), (by first | rfl | (simp only [List.cons.injEq, Prod.mk.injEq, SV.v.injEq, Value.int.injEq, true_and, and_true]; omega) | simp), ?_⟩
      rfl
    ·
     skip
     refine Zao ?_
     refine Zm (Zm ?_)
     refine Zaa ?_
     refine Zaj (Zc (Za (ym rfl rfl (Zg (Zap rfl rfl rfl (Zn (by omega))) rfl ?_))))
     refine ya rfl rfl (Zf (ρ' := [(0, _), (1, _), (5, _)]) ⟨rfl, rfl, rfl, trivial⟩ ?_)
     refine Zae ?_
     refine ⟨m - 1, [(0, _), (1, _), (5, _)], [], by omega, ⟨rfl, rfl, rfl, trivial⟩, trivial, i + 1, by omega, hle2, (by first | rfl | simp), (by first | rfl | (simp only [List.cons.injEq, Prod.mk.injEq, SV.v.injEq, Value.int.injEq, true_and, and_true]; omega) | simp), ?_⟩
     rfl
  ·
   skip
   refine Zao ?_
   refine Zm (Zm ?_)
   refine Zaa ?_
   refine Zc (Zd (Za (ya rfl rfl (Zf (ρ' := [(4, _)]) ⟨rfl, trivial⟩ ?_))))
   refine Zc (Zx (Zau (.tmp rfl) ?_))
   exact ⟨_, rfl⟩
theorem trimmed4_fn (s : Bs) (hs : s.length ≤ 10000000) (u : View) : FnP Tryz.prog 65 [str s] u fun r _ => ∃ x, r = .bool x := by
 refine FnP.intro [.tmp 2] Tryz.func65 rfl rfl rfl ?_
 intro w0 D hw0
 refine Zd (Za (ya rfl rfl (Zf (ρ' := [(0, _)]) ⟨rfl, trivial⟩ ?_)))
 refine Zc (Zd (Za (ym rfl rfl (Zg (Zbn rfl rfl rfl) rfl (ym rfl rfl ?_)))))
 refine Zab 5 rfl (fun hg1_2 => ?_) (fun hg1_2 => ?_)
 ·
  iterate 4 refine Zp rfl rfl rfl rfl ?_
  iterate 6 refine Zax rfl rfl rfl ?_
  refine Zp rfl rfl rfl rfl (Zg (Zk rfl rfl rfl) rfl (ya rfl rfl (Zf (ρ' := [(2, _)]) ⟨rfl, trivial⟩ ?_)))
  refine Zc (Zx (Zau (.tmp rfl) ?_))
  exact ⟨_, rfl⟩
 ·
  refine Zj rfl rfl (ym rfl rfl ?_)
  have hne : 0 < s.length := by
   rcases Nat.eq_zero_or_pos s.length with h | h
   ·
    exact absurd (List.eq_nil_of_length_eq_zero h) (of_decide_eq_false hg1_2)
   ·
    exact h
  obtain ⟨c, hc, hc2⟩ := byte_at (s := s) (i := s.length - 1) (by omega)
  obtain ⟨c0, hc0, hc02⟩ := byte_at (s := s) (i := 0) (by omega)
  refine Zj rfl rfl (Zg (Zat rfl Tryz.str9 rfl rfl (j := 0) rfl hc0) rfl (Zj rfl rfl (Zg (y_neq rfl rfl rfl) rfl (Zj rfl rfl (ym rfl rfl ?_)))))
  refine Zab 9 rfl (fun hg1_6 => ?_) (fun hg1_6 => ?_)
  ·
   refine Zj rfl rfl (ym rfl rfl (Zj rfl rfl (ym rfl rfl (Zj rfl rfl (Zg (Zaq rfl rfl Tryz.str9 rfl) rfl (Zj rfl rfl (Zg (y_sub rfl rfl rfl (Zn (by omega))) rfl ?_)))))))
   refine Zj rfl rfl (Zg (Zat rfl Tryz.str9 rfl rfl (j := s.length - 1) (by omega) hc) rfl (Zj rfl rfl (Zg (y_neq rfl rfl rfl) rfl (Zj rfl rfl (Zg (Zk rfl rfl rfl) rfl (Zg (Zo rfl rfl rfl) rfl (ya rfl rfl (Zf (ρ' := [(2, _)]) ⟨rfl, trivial⟩ ?_))))))))
   refine Zc (Zx (Zau (.tmp rfl) ?_))
   exact ⟨_, rfl⟩
  ·
   iterate 6 refine Zp rfl rfl rfl rfl ?_
   refine Zj rfl rfl (Zg (Zo rfl rfl rfl) rfl (Zg (Zo rfl rfl rfl) rfl (ya rfl rfl (Zf (ρ' := [(2, _)]) ⟨rfl, trivial⟩ ?_))))
   refine Zc (Zx (Zau (.tmp rfl) ?_))
   exact ⟨_, rfl⟩
theorem label_fn (s : Bs) (hs : s.length ≤ 10000000) (u : View) : FnP Tryz.prog 58 [str s] u fun r _ => ∃ x, r = .bool x := by
 refine FnP.intro [.tmp 2] Tryz.func58 rfl rfl rfl ?_
 intro w0 D hw0
 refine Zd (Za (ya rfl rfl (Zf (ρ' := [(0, _)]) ⟨rfl, trivial⟩ ?_)))
 refine Zc (Zd (Zd (Za ?_)))
 refine Zbb 14 19 (fun _ => True) (ρk := [(0, _)]) ⟨rfl, trivial⟩ ?_ fun mb1_13 hm1_13 => ?_
 ·
  refine ym rfl rfl (Zg (Zaq rfl rfl Tryz.str9 rfl) rfl (Zg (Zaz rfl rfl rfl) rfl (ym rfl rfl ?_)))
  refine Zab 9 rfl (fun hg1_3 => ?_) (fun hg1_3 => ?_)
  ·
   iterate 3 refine Zp rfl rfl rfl rfl ?_
   refine Zg (Zk rfl rfl rfl) rfl (ym rfl rfl ?_)
   iterate 4 refine Zp rfl rfl rfl rfl ?_
   refine Zg (Zk rfl rfl rfl) rfl ?_
   exact Zaf rfl ⟨rfl, trivial⟩ (trivial)
  ·
   refine Zj rfl rfl (ym rfl rfl (Zj rfl rfl (Zg (Zaq rfl rfl Tryz.str9 rfl) rfl (Zj rfl rfl (Zg (y_gtr rfl rfl rfl) rfl (Zg (Zo rfl rfl rfl) rfl (ym rfl rfl ?_)))))))
   refine Zab 14 rfl (fun hg1_8 => ?_) (fun hg1_8 => ?_)
   ·
    iterate 4 refine Zp rfl rfl rfl rfl ?_
    refine Zg (Zk rfl rfl rfl) rfl ?_
    exact Zaf rfl ⟨rfl, trivial⟩ (trivial)
   ·
    refine Zj rfl rfl (ym rfl rfl (Zj rfl rfl (Zt rfl rfl ?_)))
    refine Zu (caps := []) trivial rfl rfl Tryz.c75 rfl (FnP.mono (fold_fn s hs u) ?_)
    rintro v u1 hle1 ⟨t, rfl⟩
    refine Zj rfl rfl (ym rfl rfl (Zj rfl rfl (Zg (Zbj rfl rfl rfl) rfl (Zg (Zo rfl rfl rfl) rfl ?_))))
    exact Zaf rfl ⟨rfl, trivial⟩ (trivial)
 refine Zf (ρ' := [(0, _), (19, _)]) ⟨rfl, rfl, trivial⟩ ?_
 refine Zc ?_
 refine Zr rfl (fun hb1 => ?_) (fun hb1 => ?_)
 ·
  refine Zd (Za (ya rfl rfl (Zf (ρ' := [(2, _)]) ⟨rfl, trivial⟩ ?_)))
  refine Zc (Zx (Zh (Zau (.tmp rfl) ?_)))
  exact ⟨_, rfl⟩
 ·
  refine Zs (Zc (Zd (Za (ya rfl rfl (Zf (ρ' := [(0, _), (3, _)]) ⟨rfl, rfl, trivial⟩ ?_)))))
  refine Zc (Zd (Zv ?_))
  refine Zas (fun m_0 ρ σ u' => ∃ n : Nat, n + m_0 = s.length + 1 ∧ VLe u u' ∧ ∃ (p : Nat), σ = [] ∧ ρ = [(0, .v (str s)), (3, .v (.int .i64 (p : Nat)))] ∧ (u = u' ∧ n ≤ p ∧ p ≤ s.length + 4)) (s.length + 1) ?_ ?_
  ·
   refine ⟨[(0, _), (3, _)], [], ⟨rfl, rfl, trivial⟩, trivial, 0, by omega, VLe.refl _, 0, rfl, rfl, ?_⟩
   exact ⟨rfl, Nat.le_refl _, by omega⟩
  ·
   rintro mn ρ σ u' ⟨n, hi4, hle4, p, rfl, rfl, ⟨rfl, hnp, hps⟩⟩
   refine Zd (Zd (Za (ym rfl rfl (ym rfl rfl (Zg (Zaq rfl rfl Tryz.str9 rfl) rfl (Zg (Zaz rfl rfl rfl) rfl (Zf (ρ' := [(0, _), (3, _), (23, _)]) ⟨rfl, rfl, rfl, trivial⟩ ?_)))))))
   refine Zc ?_
   refine Zr rfl (fun hb4 => ?_) (fun hb4 => ?_)
   ·
    have hlt : p < s.length := by have := of_decide_eq_true hb4; omega
    refine Zs (Zc (Zv (Zd (Za (ym rfl rfl (ym rfl rfl (Zt rfl rfl ?_)))))))
    refine Zu (caps := []) trivial rfl rfl Tryz.c76 rfl (FnP.mono (knext_fn s p hlt (by omega) u) ?_)
    rintro v u1 hle1 ⟨C, N, rfl, hC1, hC2, hN1, hN2⟩
    refine ym rfl rfl (Zg (y_extract rfl rfl rfl) rfl (Zg (y_extract rfl rfl rfl) rfl (ya rfl rfl (ya rfl rfl (Zf (ρ' := [(0, _), (3, _), (4, _), (5, _)]) ⟨rfl, rfl, rfl, rfl, trivial⟩ ?_)))))
    refine Zc (Zd (Zd (Za ?_)))
    refine Zbb 21 50 (fun _ => True) (ρk := [(0, _), (3, _), (5, _)]) ⟨rfl, rfl, rfl, trivial⟩ ?_ fun mb6_20 hm6_20 => ?_
    ·
     refine ym rfl rfl (Zg (Zaz rfl rfl rfl) rfl (ym rfl rfl ?_))
     refine Zab 32 rfl (fun hg6_2 => ?_) (fun hg6_2 => ?_)
     ·
      iterate 4 refine Zp rfl rfl rfl rfl ?_
      iterate 3 refine Zax rfl rfl rfl ?_
      refine Zp rfl rfl rfl rfl (Zp rfl rfl rfl rfl ?_)
      iterate 7 refine Zax rfl rfl rfl ?_
      refine Zp rfl rfl rfl rfl (Zg (Zk rfl rfl rfl) rfl ?_)
      exact Zaf rfl ⟨rfl, rfl, rfl, trivial⟩ (trivial)
     ·
      refine Zj rfl rfl (ym rfl rfl (Zj rfl rfl (Zt rfl rfl ?_)))
      refine Zu (caps := []) trivial rfl rfl Tryz.c77 rfl (FnP.mono (kletter_fn C u) ?_)
      rintro v u1 hle1 ⟨b1, rfl⟩
      refine Zj rfl rfl (Zg (Zbu rfl rfl) rfl (Zj rfl rfl (ym rfl rfl ?_)))
      refine Zab 36 rfl (fun hg6_6 => ?_) (fun hg6_6 => ?_)
      ·
       refine Zj rfl rfl (ym rfl rfl (Zj rfl rfl (Zt rfl rfl ?_)))
       refine Zu (caps := []) trivial rfl rfl Tryz.c78 rfl (FnP.mono (digit_fn C u) ?_)
       rintro v u1 hle1 ⟨b2, rfl⟩
       refine Zj rfl rfl (Zg (Zbu rfl rfl) rfl (Zj rfl rfl (Zg (Zk rfl rfl rfl) rfl (Zj rfl rfl (ym rfl rfl ?_)))))
       refine Zab 41 rfl (fun hg6_11 => ?_) (fun hg6_11 => ?_)
       ·
        refine Zj rfl rfl (ym rfl rfl (Zj rfl rfl (ym rfl rfl (Zj rfl rfl (ym rfl rfl (Zj rfl rfl (Zg (Zap rfl rfl rfl (Zn (by omega))) rfl ?_)))))))
        refine Zj rfl rfl (Zg (y_slice_str rfl Tryz.str9 rfl (i := p) (j := p + 1) rfl rfl (by omega) (by omega)) rfl (Zj rfl rfl (Zt rfl rfl ?_)))
        refine Zu (caps := []) trivial rfl rfl Tryz.c64 rfl (FnP.mono (khas_fn _ _ (by simp; omega) (by decide) u) ?_)
        rintro v u1 hle1 ⟨b3, rfl⟩
        refine Zj rfl rfl (Zg (Zbu rfl rfl) rfl (Zj rfl rfl (Zg (Zk rfl rfl rfl) rfl (Zg (Zo rfl rfl rfl) rfl ?_))))
        exact Zaf rfl ⟨rfl, rfl, rfl, trivial⟩ (trivial)
       ·
        iterate 7 refine Zp rfl rfl rfl rfl ?_
        refine Zj rfl rfl (Zg (Zo rfl rfl rfl) rfl (Zg (Zo rfl rfl rfl) rfl ?_))
        exact Zaf rfl ⟨rfl, rfl, rfl, trivial⟩ (trivial)
      ·
       iterate 3 refine Zp rfl rfl rfl rfl ?_
       refine Zj rfl rfl (Zg (Zo rfl rfl rfl) rfl (Zj rfl rfl (ym rfl rfl ?_)))
       iterate 7 refine Zp rfl rfl rfl rfl ?_
       refine Zj rfl rfl (Zg (Zo rfl rfl rfl) rfl (Zg (Zo rfl rfl rfl) rfl ?_))
       exact Zaf rfl ⟨rfl, rfl, rfl, trivial⟩ (trivial)
    refine Zf (ρ' := [(0, _), (3, _), (5, _), (50, _)]) ⟨rfl, rfl, rfl, rfl, trivial⟩ ?_
    refine Zc ?_
    refine Zr rfl (fun hb6 => ?_) (fun hb6 => ?_)
    ·
     refine Zd (Za (ya rfl rfl (Zf (ρ' := [(2, _)]) ⟨rfl, trivial⟩ ?_)))
     refine Zc (Zx (Zh (Zq (Zh (Zq (Zh (Zau (.tmp rfl) ?_)))))))
     exact ⟨_, rfl⟩
    ·
     refine Zs (Zc (Za (ym rfl rfl (ym rfl rfl (Zg (Zap rfl rfl rfl (Zn (by omega))) rfl ?_)))))
     refine ya rfl rfl (Zf (ρ' := [(0, _), (3, _)]) ⟨rfl, rfl, trivial⟩ ?_)
     refine Zaj (Zae ?_)
     refine ⟨mn - 1, [(0, _), (3, _)], [], by omega, ⟨rfl, rfl, trivial⟩, trivial, n + 1, by omega, hle4, p + N.toNat, rfl, (by rw [show ((p + N.toNat : Nat) : Int) = (p : Int) + N by omega]), ?_⟩
     exact ⟨rfl, by omega, by omega⟩
   ·
    skip
    refine Zao ?_
    refine Zm (Zm ?_)
    refine Zaa ?_
    refine Zc (Zd (Za (ya rfl rfl (Zf (ρ' := [(2, _)]) ⟨rfl, trivial⟩ ?_))))
    refine Zc (Zx (Zau (.tmp rfl) ?_))
    exact ⟨_, rfl⟩
theorem anyOf_fn (n : Nat) : ∀ (v : Value) (xs : List Inl) (le : Bool) (u : View), szI xs ≤ n → szI xs ≤ 1000000 → InlS u v xs → FnP Tryz.prog 59 [v, .bool le] u fun r _ => ∃ x, r = .bool x := by
 induction n using Nat.strongRecOn with
 | _ n ih =>
 intro v xs le u hsz hbig ha
 have hlx := len_szI xs
 obtain ⟨cs, ⟨ad, cap, rfl, h1⟩, hc1⟩ := ha
 refine FnP.intro [.tmp 4] Tryz.func59 rfl rfl rfl ?_
 intro w0 D hw0
 refine Zd (Za (ya rfl rfl (Zf (ρ' := [(0, _), (1, _)]) ⟨rfl, rfl, trivial⟩ ?_)))
 refine Zc (Zd (Zd (Za (ya rfl rfl (Zf (ρ' := [(0, _), (1, _), (5, _)]) ⟨rfl, rfl, rfl, trivial⟩ ?_)))))
 refine Zc (Zv ?_)
 refine Zas (fun m_0 ρ σ u' => ∃ i : Nat, i + m_0 = xs.length ∧ VLe u u' ∧ σ = [] ∧ ρ = [(0, .v (.slice ad xs.length cap)), (1, .v (.bool le)), (5, .v (.int .i64 i))] ∧ (u = u')) (xs.length) ?_ ?_
 ·
  refine ⟨[(0, _), (1, _), (5, _)], [], ⟨rfl, rfl, rfl, trivial⟩, trivial, 0, by omega, VLe.refl _, (by first | rfl | simp), (by first | rfl | (simp only [List.cons.injEq, Prod.mk.injEq, SV.v.injEq, Value.int.injEq, true_and, and_true]; omega) | simp), ?_⟩
  rfl
 ·
  rintro m ρ σ u' ⟨i, hi2, hle2, rfl, rfl, rfl⟩
  refine Zd (Zd (Za (ym rfl rfl (ym rfl rfl (Zg (Zah rfl rfl Tryz.s22 rfl) rfl (Zg (Zaz rfl rfl rfl) rfl (Zf (ρ' := [(0, _), (1, _), (5, _), (10, _)]) ⟨rfl, rfl, rfl, rfl, trivial⟩ ?_)))))))
  refine Zc ?_
  refine Zr rfl (fun hb2 => ?_) (fun hb2 => ?_)
  ·
   have hlt : i < xs.length := by have := of_decide_eq_true hb2; omega
   obtain ⟨k, t, d, ti, a, args, cites, kids, vc, vp, va, vt, vk, hg, hcut1, s1, s2, s3, s4, s5, hok⟩ := hc1.at hlt
   have oneAll := (hc1.get i _ hg).one
   rw [hcut1] at oneAll
   have hszk := szI_kids hg
   refine Zs (Zc (Zd (Zv (Zd (Za (ym rfl rfl (ym rfl rfl ?_)))))))
   refine Zg (Zad rfl Tryz.s22 rfl rfl (by assumption) (by first | rfl | omega) (by omega)) rfl (Zg (Zbe rfl Tryz.f49' rfl (by decide) rfl) rfl (Zg (Zac rfl Tryz.k3 rfl (by assumption) (by omega) (by assumption) (vs := [_]) rfl rfl rfl rfl) rfl (ya rfl rfl (Zf (ρ' := [(0, _), (1, _), (5, _), (6, _)]) ⟨rfl, rfl, rfl, rfl, trivial⟩ ?_))))
   refine Zc (Zd (Za ?_))
   refine Zbb 26 43 (fun _ => True) (ρk := [(0, _), (1, _), (5, _)]) ⟨rfl, rfl, rfl, trivial⟩ ?_ fun mb5_25 hm5_25 => ?_
   ·
    refine ym rfl rfl (Zg (Zbu rfl rfl) rfl (ym rfl rfl ?_))
    refine Zab 20 rfl (fun hg5_2 => ?_) (fun hg5_2 => ?_)
    ·
     refine Zj rfl rfl (ym rfl rfl (Zj rfl rfl (Zt rfl rfl ?_)))
     refine Zu (caps := []) trivial rfl rfl Tryz.c79 rfl (FnP.mono (reference_fn k u) ?_)
     rintro v u1 hle1 ⟨b1, rfl⟩
     refine Zg (Zk rfl rfl rfl) rfl (ym rfl rfl ?_)
     refine Zab 24 rfl (fun hg5_6 => ?_) (fun hg5_6 => ?_)
     ·
      refine Zp rfl rfl rfl rfl (Zp rfl rfl rfl rfl ?_)
      iterate 6 refine Zax rfl rfl rfl ?_
      refine Zp rfl rfl rfl rfl (Zg (Zk rfl rfl rfl) rfl (ym rfl rfl ?_))
      iterate 7 refine Zp rfl rfl rfl rfl ?_
      refine Zg (Zk rfl rfl rfl) rfl ?_
      exact Zaf rfl ⟨rfl, rfl, rfl, trivial⟩ (trivial)
     ·
      refine Zj rfl rfl (ym rfl rfl (Zj rfl rfl (ym rfl rfl ?_)))
      refine Zab 26 rfl (fun hg5_8 => ?_) (fun hg5_8 => ?_)
      ·
       refine Zj rfl rfl (ym rfl rfl (Zj rfl rfl (Zg (Zay rfl rfl rfl) rfl (Zj rfl rfl (ym rfl rfl ?_)))))
       refine Zab 29 rfl (fun hg5_11 => ?_) (fun hg5_11 => ?_)
       ·
        refine Zp rfl rfl rfl rfl (Zp rfl rfl rfl rfl (Zj rfl rfl (Zg (Zk rfl rfl rfl) rfl (Zj rfl rfl (Zg (Zk rfl rfl rfl) rfl (Zg (Zo rfl rfl rfl) rfl (ym rfl rfl ?_)))))))
        iterate 7 refine Zp rfl rfl rfl rfl ?_
        refine Zg (Zk rfl rfl rfl) rfl ?_
        exact Zaf rfl ⟨rfl, rfl, rfl, trivial⟩ (trivial)
       ·
        refine Zj rfl rfl (ym rfl rfl (Zj rfl rfl (Zg (Zay rfl rfl rfl) rfl (Zj rfl rfl (Zg (Zo rfl rfl rfl) rfl (Zj rfl rfl (Zg (Zk rfl rfl rfl) rfl ?_)))))))
        refine Zg (Zo rfl rfl rfl) rfl (ym rfl rfl ?_)
        refine Zab 35 rfl (fun hg5_17 => ?_) (fun hg5_17 => ?_)
        ·
         iterate 7 refine Zp rfl rfl rfl rfl ?_
         refine Zg (Zk rfl rfl rfl) rfl ?_
         exact Zaf rfl ⟨rfl, rfl, rfl, trivial⟩ (trivial)
        ·
         refine Zj rfl rfl (ym rfl rfl (Zj rfl rfl (ym rfl rfl (Zj rfl rfl (Zg (Zad rfl Tryz.s22 rfl rfl (by assumption) (by first | rfl | omega) (by omega)) rfl (Zj rfl rfl (Zg (Zbe rfl Tryz.f49' rfl (by decide) rfl) rfl ?_)))))))
         refine Zj rfl rfl (Zg (Zac rfl Tryz.k22 rfl (by assumption) (by omega) (by assumption) (vs := [_]) rfl rfl rfl rfl) rfl (Zj rfl rfl (ym rfl rfl (Zj rfl rfl (Zt rfl rfl ?_)))))
         refine Zu (caps := []) trivial rfl rfl Tryz.c59 rfl (FnP.mono (ih (szI kids) (by omega) vk kids le u (Nat.le_refl _) (by omega) s5) ?_)
         rintro v u1 hle1 ⟨b2, rfl⟩
         refine Zg (Zo rfl rfl rfl) rfl ?_
         exact Zaf rfl ⟨rfl, rfl, rfl, trivial⟩ (trivial)
      ·
       iterate 3 refine Zp rfl rfl rfl rfl ?_
       refine Zax rfl rfl rfl (Zax rfl rfl rfl (Zp rfl rfl rfl rfl (Zj rfl rfl (Zg (Zo rfl rfl rfl) rfl (Zg (Zo rfl rfl rfl) rfl (ym rfl rfl (Zj rfl rfl ?_)))))))
       refine ym rfl rfl (Zj rfl rfl (ym rfl rfl (Zj rfl rfl (Zg (Zad rfl Tryz.s22 rfl rfl (by assumption) (by first | rfl | omega) (by omega)) rfl (Zj rfl rfl (Zg (Zbe rfl Tryz.f49' rfl (by decide) rfl) rfl (Zj rfl rfl ?_)))))))
       refine Zg (Zac rfl Tryz.k22 rfl (by assumption) (by omega) (by assumption) (vs := [_]) rfl rfl rfl rfl) rfl (Zj rfl rfl (ym rfl rfl (Zj rfl rfl (Zt rfl rfl ?_))))
       refine Zu (caps := []) trivial rfl rfl Tryz.c59 rfl (FnP.mono (ih (szI kids) (by omega) vk kids le u (Nat.le_refl _) (by omega) s5) ?_)
       rintro v u1 hle1 ⟨b2, rfl⟩
       refine Zg (Zo rfl rfl rfl) rfl ?_
       exact Zaf rfl ⟨rfl, rfl, rfl, trivial⟩ (trivial)
    ·
     refine Zp rfl rfl rfl rfl (Zp rfl rfl rfl rfl (Zg (Zo rfl rfl rfl) rfl (ym rfl rfl (Zj rfl rfl (ym rfl rfl (Zj rfl rfl (ym rfl rfl ?_)))))))
     refine Zab 26 rfl (fun hg5_8 => ?_) (fun hg5_8 => ?_)
     ·
      refine Zj rfl rfl (ym rfl rfl (Zj rfl rfl (Zg (Zay rfl rfl rfl) rfl (Zj rfl rfl (ym rfl rfl ?_)))))
      refine Zab 29 rfl (fun hg5_11 => ?_) (fun hg5_11 => ?_)
      ·
       refine Zp rfl rfl rfl rfl (Zp rfl rfl rfl rfl (Zj rfl rfl (Zg (Zk rfl rfl rfl) rfl (Zj rfl rfl (Zg (Zk rfl rfl rfl) rfl (Zg (Zo rfl rfl rfl) rfl (ym rfl rfl ?_)))))))
       iterate 7 refine Zp rfl rfl rfl rfl ?_
       refine Zg (Zk rfl rfl rfl) rfl ?_
       exact Zaf rfl ⟨rfl, rfl, rfl, trivial⟩ (trivial)
      ·
       refine Zj rfl rfl (ym rfl rfl (Zj rfl rfl (Zg (Zay rfl rfl rfl) rfl (Zj rfl rfl (Zg (Zo rfl rfl rfl) rfl (Zj rfl rfl (Zg (Zk rfl rfl rfl) rfl ?_)))))))
       refine Zg (Zo rfl rfl rfl) rfl (ym rfl rfl ?_)
       refine Zab 35 rfl (fun hg5_17 => ?_) (fun hg5_17 => ?_)
       ·
        iterate 7 refine Zp rfl rfl rfl rfl ?_
        refine Zg (Zk rfl rfl rfl) rfl ?_
        exact Zaf rfl ⟨rfl, rfl, rfl, trivial⟩ (trivial)
       ·
        refine Zj rfl rfl (ym rfl rfl (Zj rfl rfl (ym rfl rfl (Zj rfl rfl (Zg (Zad rfl Tryz.s22 rfl rfl (by assumption) (by first | rfl | omega) (by omega)) rfl (Zj rfl rfl (Zg (Zbe rfl Tryz.f49' rfl (by decide) rfl) rfl ?_)))))))
        refine Zj rfl rfl (Zg (Zac rfl Tryz.k22 rfl (by assumption) (by omega) (by assumption) (vs := [_]) rfl rfl rfl rfl) rfl (Zj rfl rfl (ym rfl rfl (Zj rfl rfl (Zt rfl rfl ?_)))))
        refine Zu (caps := []) trivial rfl rfl Tryz.c59 rfl (FnP.mono (ih (szI kids) (by omega) vk kids le u (Nat.le_refl _) (by omega) s5) ?_)
        rintro v u1 hle1 ⟨b2, rfl⟩
        refine Zg (Zo rfl rfl rfl) rfl ?_
        exact Zaf rfl ⟨rfl, rfl, rfl, trivial⟩ (trivial)
     ·
      iterate 3 refine Zp rfl rfl rfl rfl ?_
      refine Zax rfl rfl rfl (Zax rfl rfl rfl (Zp rfl rfl rfl rfl (Zj rfl rfl (Zg (Zo rfl rfl rfl) rfl (Zg (Zo rfl rfl rfl) rfl (ym rfl rfl (Zj rfl rfl ?_)))))))
      refine ym rfl rfl (Zj rfl rfl (ym rfl rfl (Zj rfl rfl (Zg (Zad rfl Tryz.s22 rfl rfl (by assumption) (by first | rfl | omega) (by omega)) rfl (Zj rfl rfl (Zg (Zbe rfl Tryz.f49' rfl (by decide) rfl) rfl (Zj rfl rfl ?_)))))))
      refine Zg (Zac rfl Tryz.k22 rfl (by assumption) (by omega) (by assumption) (vs := [_]) rfl rfl rfl rfl) rfl (Zj rfl rfl (ym rfl rfl (Zj rfl rfl (Zt rfl rfl ?_))))
      refine Zu (caps := []) trivial rfl rfl Tryz.c59 rfl (FnP.mono (ih (szI kids) (by omega) vk kids le u (Nat.le_refl _) (by omega) s5) ?_)
      rintro v u1 hle1 ⟨b2, rfl⟩
      refine Zg (Zo rfl rfl rfl) rfl ?_
      exact Zaf rfl ⟨rfl, rfl, rfl, trivial⟩ (trivial)
   refine Zf (ρ' := [(0, _), (1, _), (5, _), (43, _)]) ⟨rfl, rfl, rfl, rfl, trivial⟩ ?_
   refine Zc ?_
   refine Zr rfl (fun hb5 => ?_) (fun hb5 => ?_)
   ·
    refine Zd (Za (ya rfl rfl (Zf (ρ' := [(4, _)]) ⟨rfl, trivial⟩ ?_)))
    refine Zc (Zx (Zq (Zh (Zh (Zq (Zh (Zau (.tmp rfl) ?_)))))))
    exact ⟨_, rfl⟩
   ·
    refine Zs (Zaj (Zc (Za (ym rfl rfl (Zg (Zap rfl rfl rfl (Zn (by omega))) rfl ?_)))))
    refine ya rfl rfl (Zf (ρ' := [(0, _), (1, _), (5, _)]) ⟨rfl, rfl, rfl, trivial⟩ ?_)
    refine Zae ?_
    refine ⟨m - 1, [(0, _), (1, _), (5, _)], [], by omega, ⟨rfl, rfl, rfl, trivial⟩, trivial, i + 1, by omega, hle2, (by first | rfl | simp), (by first | rfl | (simp only [List.cons.injEq, Prod.mk.injEq, SV.v.injEq, Value.int.injEq, true_and, and_true]; omega) | simp), ?_⟩
    rfl
  ·
   skip
   refine Zao ?_
   refine Zm (Zm ?_)
   refine Zaa ?_
   refine Zc (Zd (Za (ya rfl rfl (Zf (ρ' := [(4, _)]) ⟨rfl, trivial⟩ ?_))))
   refine Zc (Zx (Zau (.tmp rfl) ?_))
   exact ⟨_, rfl⟩
theorem auto_fn (s : Bs) (hs : s.length ≤ 10000000) (u : View) : FnP Tryz.prog 45 [str s] u fun r _ => ∃ x, r = .bool x := by
 refine FnP.intro [.tmp 2] Tryz.func45 rfl rfl rfl ?_
 intro w0 D hw0
 refine Zd (Za (ya rfl rfl (Zf (ρ' := [(0, _)]) ⟨rfl, trivial⟩ ?_)))
 refine Zc (Zd (Za (ya rfl rfl (Zf (ρ' := [(0, _), (3, _)]) ⟨rfl, rfl, trivial⟩ ?_))))
 refine Zc (Zd (Zv ?_))
 refine Zas (fun m_0 ρ σ u' => ∃ i : Nat, i + m_0 = s.length + 1 ∧ VLe u u' ∧ σ = [] ∧ ρ = [(0, .v (str s)), (3, .v (.int .i64 i))] ∧ (u = u' ∧ i ≤ s.length)) (s.length + 1) ?_ ?_
 ·
  refine ⟨[(0, _), (3, _)], [], ⟨rfl, rfl, trivial⟩, trivial, 0, by omega, VLe.refl _, (by first | rfl | simp), (by first | rfl | (simp only [List.cons.injEq, Prod.mk.injEq, SV.v.injEq, Value.int.injEq, true_and, and_true]; omega) | simp), ?_⟩
  exact ⟨rfl, Nat.zero_le _⟩
 ·
  rintro m ρ σ u' ⟨i, hi2, hle2, rfl, rfl, ⟨rfl, hil⟩⟩
  refine Zd (Zd (Za ?_))
  refine Zbb 28 31 (fun b => b = true → i < s.length) (ρk := [(0, _), (3, _)]) ⟨rfl, rfl, trivial⟩ ?_ fun mb2_27 hm2_27 => ?_
  ·
   refine ym rfl rfl (ym rfl rfl (Zg (Zaq rfl rfl Tryz.str9 rfl) rfl (Zg (Zaz rfl rfl rfl) rfl (ym rfl rfl ?_))))
   refine Zab 8 rfl (fun hg2_4 => ?_) (fun hg2_4 => ?_)
   ·
    refine Zj rfl rfl (ym rfl rfl ?_)
    have hlt : i < s.length := by have := of_decide_eq_true hg2_4; omega
    obtain ⟨c, hc, _⟩ := byte_at hlt
    refine Zj rfl rfl (ym rfl rfl (Zj rfl rfl (Zg (Zat rfl Tryz.str9 rfl rfl (j := i) rfl hc) rfl (Zj rfl rfl (Zg (Zbs rfl rfl rfl) rfl (Zj rfl rfl (ym rfl rfl ?_)))))))
    refine Zab 13 rfl (fun hg2_9 => ?_) (fun hg2_9 => ?_)
    ·
     refine Zj rfl rfl (ym rfl rfl (Zj rfl rfl (ym rfl rfl (Zj rfl rfl (Zg (Zat rfl Tryz.str9 rfl rfl (j := i) rfl hc) rfl (Zj rfl rfl (Zg (y_leq rfl rfl rfl) rfl ?_)))))))
     refine Zj rfl rfl (Zg (Zk rfl rfl rfl) rfl (Zj rfl rfl (ym rfl rfl ?_)))
     refine Zab 19 rfl (fun hg2_15 => ?_) (fun hg2_15 => ?_)
     ·
      iterate 5 refine Zp rfl rfl rfl rfl ?_
      iterate 4 refine Zax rfl rfl rfl ?_
      refine Zp rfl rfl rfl rfl (Zj rfl rfl (Zg (Zk rfl rfl rfl) rfl (Zg (Zk rfl rfl rfl) rfl ?_)))
      exact Zaf rfl ⟨rfl, rfl, trivial⟩ (by (first | exact fun _ => hlt | exact fun h => absurd h (by decide)))
     ·
      refine Zj rfl rfl (ym rfl rfl (Zj rfl rfl (ym rfl rfl (Zj rfl rfl (Zg (Zat rfl Tryz.str9 rfl rfl (j := i) rfl hc) rfl (Zj rfl rfl (Zg (Zbs rfl rfl rfl) rfl ?_)))))))
      refine Zj rfl rfl (ym rfl rfl ?_)
      refine Zab 24 rfl (fun hg2_20 => ?_) (fun hg2_20 => ?_)
      ·
       refine Zj rfl rfl (ym rfl rfl (Zj rfl rfl (ym rfl rfl (Zj rfl rfl (Zg (Zat rfl Tryz.str9 rfl rfl (j := i) rfl hc) rfl (Zj rfl rfl (Zg (y_leq rfl rfl rfl) rfl ?_)))))))
       refine Zj rfl rfl (Zg (Zk rfl rfl rfl) rfl (Zj rfl rfl (Zg (Zo rfl rfl rfl) rfl (Zg (Zk rfl rfl rfl) rfl ?_))))
       exact Zaf rfl ⟨rfl, rfl, trivial⟩ (by (first | exact fun _ => hlt | exact fun h => absurd h (by decide)))
      ·
       iterate 4 refine Zp rfl rfl rfl rfl ?_
       refine Zj rfl rfl (Zg (Zo rfl rfl rfl) rfl (Zj rfl rfl (Zg (Zo rfl rfl rfl) rfl (Zg (Zk rfl rfl rfl) rfl ?_))))
       exact Zaf rfl ⟨rfl, rfl, trivial⟩ (by (first | exact fun _ => hlt | exact fun h => absurd h (by decide)))
    ·
     iterate 4 refine Zp rfl rfl rfl rfl ?_
     refine Zj rfl rfl (Zg (Zo rfl rfl rfl) rfl (Zj rfl rfl (ym rfl rfl (Zj rfl rfl (ym rfl rfl (Zj rfl rfl (ym rfl rfl ?_)))))))
     refine Zj rfl rfl (Zg (Zat rfl Tryz.str9 rfl rfl (j := i) rfl hc) rfl (Zj rfl rfl (Zg (Zbs rfl rfl rfl) rfl (Zj rfl rfl (ym rfl rfl ?_)))))
     refine Zab 24 rfl (fun hg2_20 => ?_) (fun hg2_20 => ?_)
     ·
      refine Zj rfl rfl (ym rfl rfl (Zj rfl rfl (ym rfl rfl (Zj rfl rfl (Zg (Zat rfl Tryz.str9 rfl rfl (j := i) rfl hc) rfl (Zj rfl rfl (Zg (y_leq rfl rfl rfl) rfl ?_)))))))
      refine Zj rfl rfl (Zg (Zk rfl rfl rfl) rfl (Zj rfl rfl (Zg (Zo rfl rfl rfl) rfl (Zg (Zk rfl rfl rfl) rfl ?_))))
      exact Zaf rfl ⟨rfl, rfl, trivial⟩ (by (first | exact fun _ => hlt | exact fun h => absurd h (by decide)))
     ·
      iterate 4 refine Zp rfl rfl rfl rfl ?_
      refine Zj rfl rfl (Zg (Zo rfl rfl rfl) rfl (Zj rfl rfl (Zg (Zo rfl rfl rfl) rfl (Zg (Zk rfl rfl rfl) rfl ?_))))
      exact Zaf rfl ⟨rfl, rfl, trivial⟩ (by (first | exact fun _ => hlt | exact fun h => absurd h (by decide)))
   ·
    iterate 5 refine Zp rfl rfl rfl rfl ?_
    iterate 4 refine Zax rfl rfl rfl ?_
    refine Zp rfl rfl rfl rfl (Zp rfl rfl rfl rfl ?_)
    iterate 10 refine Zax rfl rfl rfl ?_
    refine Zp rfl rfl rfl rfl (Zg (Zo rfl rfl rfl) rfl ?_)
    exact Zaf rfl ⟨rfl, rfl, trivial⟩ (by (first | exact fun _ => hlt | exact fun h => absurd h (by decide)))
  refine Zf (ρ' := [(0, _), (3, _), (31, _)]) ⟨rfl, rfl, rfl, trivial⟩ ?_
  refine Zc ?_
  refine Zr rfl (fun hb2 => ?_) (fun hb2 => ?_)
  ·
   have hlt := hm2_27 hb2
   refine Zs (Zc (Zv (Za (ym rfl rfl (Zg (Zap rfl rfl rfl (Zn (by omega))) rfl ?_)))))
   refine ya rfl rfl (Zf (ρ' := [(0, _), (3, _)]) ⟨rfl, rfl, trivial⟩ ?_)
   refine Zaj (Zae ?_)
   refine ⟨m - 1, [(0, _), (3, _)], [], by omega, ⟨rfl, rfl, trivial⟩, trivial, i + 1, by omega, hle2, (by first | rfl | simp), (by first | rfl | (simp only [List.cons.injEq, Prod.mk.injEq, SV.v.injEq, Value.int.injEq, true_and, and_true]; omega) | simp), ?_⟩
   exact ⟨rfl, hlt⟩
  ·
   skip
   refine Zao ?_
   refine Zm (Zm ?_)
   refine Zaa ?_
   refine Zc (Zd (Za ?_))
   refine Zbb 27 60 (fun _ => True) (ρk := []) trivial ?_ fun mb4_26 hm4_26 => ?_
   ·
    refine ym rfl rfl (Zg (Zbs rfl rfl rfl) rfl (ym rfl rfl ?_))
    refine Zab 36 rfl (fun hg4_2 => ?_) (fun hg4_2 => ?_)
    ·
     refine Zj rfl rfl (ym rfl rfl (Zj rfl rfl (Zg (y_leq rfl rfl rfl) rfl (Zg (Zk rfl rfl rfl) rfl (ym rfl rfl ?_)))))
     refine Zab 40 rfl (fun hg4_6 => ?_) (fun hg4_6 => ?_)
     ·
      refine Zj rfl rfl (ym rfl rfl (Zj rfl rfl (ym rfl rfl (Zj rfl rfl (Zg (Zaq rfl rfl Tryz.str9 rfl) rfl (Zj rfl rfl (Zg (Zaz rfl rfl rfl) rfl ?_)))))))
      refine Zg (Zk rfl rfl rfl) rfl (ym rfl rfl ?_)
      refine Zab 46 rfl (fun hg4_12 => ?_) (fun hg4_12 => ?_)
      ·
       refine Zj rfl rfl (ym rfl rfl ?_)
       have hlt4 : i < s.length := by have := of_decide_eq_true hg4_12; omega
       obtain ⟨c4, hc4, _⟩ := byte_at hlt4
       refine Zj rfl rfl (ym rfl rfl (Zj rfl rfl (Zg (Zat rfl Tryz.str9 rfl rfl (j := i) rfl hc4) rfl (Zj rfl rfl (Zg (Zay rfl rfl rfl) rfl (Zg (Zk rfl rfl rfl) rfl (ym rfl rfl ?_)))))))
       refine Zab 52 rfl (fun hg4_18 => ?_) (fun hg4_18 => ?_)
       ·
        refine Zj rfl rfl (ym rfl rfl (Zj rfl rfl (Zt rfl rfl ?_)))
        refine Zu (caps := []) trivial rfl rfl Tryz.c39 rfl (FnP.mono (line4_fn s hs u) ?_)
        rintro v u1 hle1 ⟨b1, rfl, _⟩
        refine Zg (Zk rfl rfl rfl) rfl (ym rfl rfl ?_)
        refine Zab 56 rfl (fun hg4_22 => ?_) (fun hg4_22 => ?_)
        ·
         refine Zj rfl rfl (ym rfl rfl (Zj rfl rfl (Zt rfl rfl ?_)))
         refine Zu (caps := []) trivial rfl rfl Tryz.c64 rfl (FnP.mono (khas_fn s _ hs (by decide) u) ?_)
         rintro v u1 hle1 ⟨b2, rfl⟩
         refine Zj rfl rfl (Zg (Zbu rfl rfl) rfl (Zg (Zk rfl rfl rfl) rfl ?_))
         exact Zaf rfl trivial (trivial)
        ·
         iterate 3 refine Zp rfl rfl rfl rfl ?_
         refine Zg (Zo rfl rfl rfl) rfl ?_
         exact Zaf rfl trivial (trivial)
       ·
        refine Zp rfl rfl rfl rfl (Zp rfl rfl rfl rfl (Zg (Zo rfl rfl rfl) rfl (ym rfl rfl ?_)))
        iterate 3 refine Zp rfl rfl rfl rfl ?_
        refine Zg (Zo rfl rfl rfl) rfl ?_
        exact Zaf rfl trivial (trivial)
      ·
       iterate 4 refine Zp rfl rfl rfl rfl ?_
       refine Zg (Zo rfl rfl rfl) rfl (ym rfl rfl (Zp rfl rfl rfl rfl (Zp rfl rfl rfl rfl (Zg (Zo rfl rfl rfl) rfl (ym rfl rfl ?_)))))
       iterate 3 refine Zp rfl rfl rfl rfl ?_
       refine Zg (Zo rfl rfl rfl) rfl ?_
       exact Zaf rfl trivial (trivial)
     ·
      iterate 4 refine Zp rfl rfl rfl rfl ?_
      refine Zg (Zo rfl rfl rfl) rfl (ym rfl rfl ?_)
      iterate 4 refine Zp rfl rfl rfl rfl ?_
      refine Zg (Zo rfl rfl rfl) rfl (ym rfl rfl (Zp rfl rfl rfl rfl (Zp rfl rfl rfl rfl (Zg (Zo rfl rfl rfl) rfl (ym rfl rfl ?_)))))
      iterate 3 refine Zp rfl rfl rfl rfl ?_
      refine Zg (Zo rfl rfl rfl) rfl ?_
      exact Zaf rfl trivial (trivial)
    ·
     refine Zp rfl rfl rfl rfl (Zp rfl rfl rfl rfl (Zg (Zo rfl rfl rfl) rfl (ym rfl rfl ?_)))
     iterate 4 refine Zp rfl rfl rfl rfl ?_
     refine Zg (Zo rfl rfl rfl) rfl (ym rfl rfl ?_)
     iterate 4 refine Zp rfl rfl rfl rfl ?_
     refine Zg (Zo rfl rfl rfl) rfl (ym rfl rfl (Zp rfl rfl rfl rfl (Zp rfl rfl rfl rfl (Zg (Zo rfl rfl rfl) rfl (ym rfl rfl ?_)))))
     iterate 3 refine Zp rfl rfl rfl rfl ?_
     refine Zg (Zo rfl rfl rfl) rfl ?_
     exact Zaf rfl trivial (trivial)
   refine ya rfl rfl (Zf (ρ' := [(2, _)]) ⟨rfl, trivial⟩ ?_)
   refine Zc (Zx (Zau (.tmp rfl) ?_))
   exact ⟨_, rfl⟩
theorem cites_fn (v : Value) (l : List DCite) (hl : l.length ≤ 9) (hb : ∀ c ∈ l, c.key.length + c.pre.length + c.suf.length ≤ 50000) (u : View) (h : CiS u v l) : FnP Tryz.prog 44 [v] u fun r _ => ∃ e : Int, r = .int .i64 e := by
 obtain ⟨ad, cap, rfl, h1⟩ := h
 refine FnP.intro [.tmp 2] Tryz.func44 rfl rfl rfl ?_
 intro w0 D hw0
 refine Zd (Za (ya rfl rfl (Zf (ρ' := [(0, _)]) ⟨rfl, trivial⟩ ?_)))
 refine Zc (Zd (Zd (Za (ym rfl rfl (Zg (Zah rfl rfl Tryz.s47 rfl) rfl (Zg (Zay rfl rfl rfl) rfl (Zf (ρ' := [(0, _), (7, _)]) ⟨rfl, rfl, trivial⟩ ?_)))))))
 refine Zc ?_
 refine Zr rfl (fun hb1 => ?_) (fun hb1 => ?_)
 ·
  refine Zd (Za (ya rfl rfl (Zf (ρ' := [(2, _)]) ⟨rfl, trivial⟩ ?_)))
  refine Zc (Zx (Zh (Zau (.tmp rfl) ?_)))
  exact ⟨_, rfl⟩
 ·
  refine Zs (Zc (Zd (Zd (Za (ya rfl rfl (Zf (ρ' := [(0, _), (3, _)]) ⟨rfl, rfl, trivial⟩ ?_))))))
  refine Zc (Zv ?_)
  refine Zas (fun m_0 ρ σ u' => ∃ i : Nat, i + m_0 = l.length ∧ VLe u u' ∧ σ = [] ∧ ρ = [(0, .v (.slice ad l.length cap)), (3, .v (.int .i64 i))] ∧ (u = u')) (l.length) ?_ ?_
  ·
   refine ⟨[(0, _), (3, _)], [], ⟨rfl, rfl, trivial⟩, trivial, 0, by omega, VLe.refl _, (by first | rfl | simp), (by first | rfl | (simp only [List.cons.injEq, Prod.mk.injEq, SV.v.injEq, Value.int.injEq, true_and, and_true]; omega) | simp), ?_⟩
   rfl
  ·
   rintro m ρ σ u' ⟨i, hi4, hle4, rfl, rfl, rfl⟩
   refine Zd (Zd (Za (ym rfl rfl (ym rfl rfl (Zg (Zah rfl rfl Tryz.s47 rfl) rfl (Zg (Zaz rfl rfl rfl) rfl (Zf (ρ' := [(0, _), (3, _), (11, _)]) ⟨rfl, rfl, rfl, trivial⟩ ?_)))))))
   refine Zc ?_
   refine Zr rfl (fun hb4 => ?_) (fun hb4 => ?_)
   ·
    have hlt : i < l.length := by have := of_decide_eq_true hb4; omega
    have hg := List.getElem?_eq_getElem hlt
    have hcc := cut_citesC hg
    have hsl := hb _ (List.mem_of_getElem? hg)
    refine Zs (Zc (Zd (Zv (Zd (Za (ym rfl rfl (ym rfl rfl ?_)))))))
    refine Zg (Zad rfl Tryz.s47 rfl rfl (by assumption) (by first | rfl | omega) (by omega)) rfl (Zg (Zac rfl Tryz.k59 rfl (by assumption) (by omega) (by assumption) (vs := [_, _, _, _]) rfl rfl rfl rfl) rfl (Zt rfl rfl ?_))
    refine Zaw trivial Tryz.z59 rfl rfl rfl ?_
    refine Zt rfl rfl ?_
    refine Zai trivial rfl Tryz.k59 rfl rfl rfl (vs := [_, _, _, _]) rfl rfl (by first | rfl | assumption | simp [Value.oneCell', str]) (Nat.le_of_ble_eq_true rfl) rfl ?_
    refine Zf (ρ' := [(0, _), (3, _), (4, _)]) ⟨rfl, rfl, rfl, trivial⟩ ?_
    refine Zc (Zd (Zd (Za (Zg (Zi rfl Tryz.f59' rfl (by decide) rfl) rfl (Zg (Zl rfl Tryz.k9 rfl rfl rfl (vs := [_]) rfl rfl rfl) rfl (Zt rfl rfl ?_))))))
    refine Zu (caps := []) trivial rfl rfl Tryz.c60 rfl (FnP.mono (name_fn _ (by omega) u) ?_)
    rintro v u1 hle1 ⟨b1, rfl, _⟩
    refine Zg (Zbu rfl rfl) rfl (Zf (ρ' := [(0, _), (3, _), (4, _), (21, _)]) ⟨rfl, rfl, rfl, rfl, trivial⟩ ?_)
    refine Zc ?_
    refine Zr rfl (fun hb7 => ?_) (fun hb7 => ?_)
    ·
     refine Zd (Za (ya rfl rfl (Zf (ρ' := [(2, _)]) ⟨rfl, trivial⟩ ?_)))
     refine Zc (Zx (Zh (Zq (Zh (Zh (Zq (Zh ?_)))))))
     refine Zau (.tmp rfl) ?_
     exact ⟨_, rfl⟩
    ·
     refine Zs (Zc (Zd (Za ?_)))
     refine Zbb 32 53 (fun _ => True) (ρk := [(0, _), (3, _)]) ⟨rfl, rfl, trivial⟩ ?_ fun mb9_31 hm9_31 => ?_
     ·
      refine Zg (Zi rfl Tryz.f59' rfl (by decide) rfl) rfl (Zg (Zl rfl Tryz.k9 rfl rfl rfl (vs := [_]) rfl rfl rfl) rfl (Zt rfl rfl ?_))
      refine Zu (caps := []) trivial rfl rfl Tryz.c39 rfl (FnP.mono (line4_fn _ (by omega) u) ?_)
      rintro v u1 hle1 ⟨b2, rfl, _⟩
      refine Zg (Zbu rfl rfl) rfl (ym rfl rfl ?_)
      refine Zab 26 rfl (fun hg9_4 => ?_) (fun hg9_4 => ?_)
      ·
       iterate 4 refine Zp rfl rfl rfl rfl ?_
       refine Zg (Zk rfl rfl rfl) rfl (ym rfl rfl ?_)
       iterate 3 refine Zp rfl rfl rfl rfl ?_
       refine Zg (Zk rfl rfl rfl) rfl (ym rfl rfl ?_)
       iterate 4 refine Zp rfl rfl rfl rfl ?_
       refine Zg (Zk rfl rfl rfl) rfl (ym rfl rfl ?_)
       iterate 4 refine Zp rfl rfl rfl rfl ?_
       refine Zg (Zk rfl rfl rfl) rfl (ym rfl rfl ?_)
       iterate 3 refine Zp rfl rfl rfl rfl ?_
       refine Zg (Zk rfl rfl rfl) rfl ?_
       exact Zaf rfl ⟨rfl, rfl, trivial⟩ (trivial)
      ·
       refine Zj rfl rfl (Zg (Zi rfl Tryz.f59' rfl (by decide) rfl) rfl (Zj rfl rfl (Zg (Zl rfl Tryz.k9 rfl rfl rfl (vs := [_]) rfl rfl rfl) rfl (Zj rfl rfl (Zt rfl rfl ?_)))))
       refine Zu (caps := []) trivial rfl rfl Tryz.c65 rfl (FnP.mono (trimmed4_fn _ (by omega) u) ?_)
       rintro v u1 hle1 ⟨b3, rfl⟩
       refine Zj rfl rfl (Zg (Zbu rfl rfl) rfl (Zg (Zo rfl rfl rfl) rfl (ym rfl rfl ?_)))
       refine Zab 32 rfl (fun hg9_10 => ?_) (fun hg9_10 => ?_)
       ·
        iterate 3 refine Zp rfl rfl rfl rfl ?_
        refine Zg (Zk rfl rfl rfl) rfl (ym rfl rfl ?_)
        iterate 4 refine Zp rfl rfl rfl rfl ?_
        refine Zg (Zk rfl rfl rfl) rfl (ym rfl rfl ?_)
        iterate 4 refine Zp rfl rfl rfl rfl ?_
        refine Zg (Zk rfl rfl rfl) rfl (ym rfl rfl ?_)
        iterate 3 refine Zp rfl rfl rfl rfl ?_
        refine Zg (Zk rfl rfl rfl) rfl ?_
        exact Zaf rfl ⟨rfl, rfl, trivial⟩ (trivial)
       ·
        refine Zj rfl rfl (Zg (Zi rfl Tryz.f59' rfl (by decide) rfl) rfl (Zj rfl rfl (Zg (Zl rfl Tryz.k9 rfl rfl rfl (vs := [_]) rfl rfl rfl) rfl (Zj rfl rfl (Zt rfl rfl ?_)))))
        refine Zu (caps := []) trivial rfl rfl Tryz.c64 rfl (FnP.mono (khas_fn _ _ (by omega) (by decide) u) ?_)
        rintro v u1 hle1 ⟨b4, rfl⟩
        refine Zg (Zo rfl rfl rfl) rfl (ym rfl rfl ?_)
        refine Zab 37 rfl (fun hg9_15 => ?_) (fun hg9_15 => ?_)
        ·
         iterate 4 refine Zp rfl rfl rfl rfl ?_
         refine Zg (Zk rfl rfl rfl) rfl (ym rfl rfl ?_)
         iterate 4 refine Zp rfl rfl rfl rfl ?_
         refine Zg (Zk rfl rfl rfl) rfl (ym rfl rfl ?_)
         iterate 3 refine Zp rfl rfl rfl rfl ?_
         refine Zg (Zk rfl rfl rfl) rfl ?_
         exact Zaf rfl ⟨rfl, rfl, trivial⟩ (trivial)
        ·
         refine Zj rfl rfl (Zg (Zi rfl Tryz.f59' rfl (by decide) rfl) rfl (Zj rfl rfl (Zg (Zl rfl Tryz.k9 rfl rfl rfl (vs := [_]) rfl rfl rfl) rfl (Zj rfl rfl (Zt rfl rfl ?_)))))
         refine Zu (caps := []) trivial rfl rfl Tryz.c39 rfl (FnP.mono (line4_fn _ (by omega) u) ?_)
         rintro v u1 hle1 ⟨b5, rfl, _⟩
         refine Zj rfl rfl (Zg (Zbu rfl rfl) rfl (Zg (Zo rfl rfl rfl) rfl (ym rfl rfl ?_)))
         refine Zab 43 rfl (fun hg9_21 => ?_) (fun hg9_21 => ?_)
         ·
          iterate 4 refine Zp rfl rfl rfl rfl ?_
          refine Zg (Zk rfl rfl rfl) rfl (ym rfl rfl ?_)
          iterate 3 refine Zp rfl rfl rfl rfl ?_
          refine Zg (Zk rfl rfl rfl) rfl ?_
          exact Zaf rfl ⟨rfl, rfl, trivial⟩ (trivial)
         ·
          refine Zj rfl rfl (Zg (Zi rfl Tryz.f59' rfl (by decide) rfl) rfl (Zj rfl rfl (Zg (Zl rfl Tryz.k9 rfl rfl rfl (vs := [_]) rfl rfl rfl) rfl (Zj rfl rfl (Zt rfl rfl ?_)))))
          refine Zu (caps := []) trivial rfl rfl Tryz.c65 rfl (FnP.mono (trimmed4_fn _ (by omega) u) ?_)
          rintro v u1 hle1 ⟨b6, rfl⟩
          refine Zj rfl rfl (Zg (Zbu rfl rfl) rfl (Zg (Zo rfl rfl rfl) rfl (ym rfl rfl ?_)))
          refine Zab 49 rfl (fun hg9_27 => ?_) (fun hg9_27 => ?_)
          ·
           iterate 3 refine Zp rfl rfl rfl rfl ?_
           refine Zg (Zk rfl rfl rfl) rfl ?_
           exact Zaf rfl ⟨rfl, rfl, trivial⟩ (trivial)
          ·
           refine Zj rfl rfl (Zg (Zi rfl Tryz.f59' rfl (by decide) rfl) rfl (Zj rfl rfl (Zg (Zl rfl Tryz.k9 rfl rfl rfl (vs := [_]) rfl rfl rfl) rfl (Zj rfl rfl (Zt rfl rfl ?_)))))
           refine Zu (caps := []) trivial rfl rfl Tryz.c64 rfl (FnP.mono (khas_fn _ _ (by omega) (by decide) u) ?_)
           rintro v u1 hle1 ⟨b7, rfl⟩
           refine Zg (Zo rfl rfl rfl) rfl ?_
           exact Zaf rfl ⟨rfl, rfl, trivial⟩ (trivial)
     refine Zf (ρ' := [(0, _), (3, _), (53, _)]) ⟨rfl, rfl, rfl, trivial⟩ ?_
     refine Zc ?_
     refine Zr rfl (fun hb9 => ?_) (fun hb9 => ?_)
     ·
      refine Zd (Za (ya rfl rfl (Zf (ρ' := [(2, _)]) ⟨rfl, trivial⟩ ?_)))
      refine Zc (Zx (Zq (Zh (Zh (Zq (Zh (Zau (.tmp rfl) ?_)))))))
      exact ⟨_, rfl⟩
     ·
      refine Zs (Zaj (Zc (Za (ym rfl rfl (Zg (Zap rfl rfl rfl (Zn (by omega))) rfl ?_)))))
      refine ya rfl rfl (Zf (ρ' := [(0, _), (3, _)]) ⟨rfl, rfl, trivial⟩ ?_)
      refine Zae ?_
      refine ⟨m - 1, [(0, _), (3, _)], [], by omega, ⟨rfl, rfl, trivial⟩, trivial, i + 1, by omega, hle4, (by first | rfl | simp), (by first | rfl | (simp only [List.cons.injEq, Prod.mk.injEq, SV.v.injEq, Value.int.injEq, true_and, and_true]; omega) | simp), ?_⟩
      rfl
   ·
    skip
    refine Zao ?_
    refine Zm (Zm ?_)
    refine Zaa ?_
    refine Zc (Zd (Za (ya rfl rfl (Zf (ρ' := [(2, _)]) ⟨rfl, trivial⟩ ?_))))
    refine Zc (Zx (Zau (.tmp rfl) ?_))
    exact ⟨_, rfl⟩
structure InlK (u : View) (a : DAttr) (args : List Bs) (cites : List DCite) (kids : List Inl) (vc vp va vt vk : Value) (t d ti : Bs) : Prop where
 s1 : StrS u vc a.classes
 s2 : PrS u vp a.pairs
 s3 : StrS u va args
 s4 : CiS u vt cites
 s5 : InlS u vk kids
 sm : NodeSm t d ti a args cites
 sz : szI kids ≤ 100000
theorem ktarget_fn (k : Int) (t d ti : Bs) (a : DAttr) (args : List Bs) (cites : List DCite) (kids : List Inl) (vc vp va vt vk : Value) (u : View) (h : InlK u a args cites kids vc vp va vt vk t d ti) :
  FnP Tryz.prog 40 [.agg (inlV k t d ti a.id vc vp va vt vk).toArray] u fun r _ => ∃ e : Int, r = .int .i64 e := by
 obtain ⟨s1, s2, s3, s4, s5, ⟨q1, q2, q3, q4, q5, q6, q7, q8⟩, hsz⟩ := h
 refine FnP.intro [.tmp 2] Tryz.func40 rfl rfl rfl ?_
 intro w0 D hw0
 refine Zd (Za (Zt rfl rfl ?_))
 refine do_box trivial rfl (cs := [_, _, _, _, _, _, _, _, _, _]) rfl rfl rfl rfl ?_
 refine ya rfl rfl (Zf (ρ' := [(1, _)]) ⟨rfl, trivial⟩ ?_)
 refine Zc (Zd (Zd (Za ?_)))
 refine Zbb 13 15 (fun _ => True) (ρk := [(1, _)]) ⟨rfl, trivial⟩ ?_ fun mb1_12 hm1_12 => ?_
 ·
  refine Zg (Zi rfl Tryz.f49' rfl (by decide) rfl) rfl (Zg (Zl rfl Tryz.k9 rfl rfl rfl (vs := [_]) rfl rfl rfl) rfl (Zg (Zbj rfl rfl rfl) rfl (ym rfl rfl ?_)))
  refine Zab 6 rfl (fun hg1_3 => ?_) (fun hg1_3 => ?_)
  ·
   refine Zj rfl rfl (Zg (Zi rfl Tryz.f49' rfl (by decide) rfl) rfl (Zj rfl rfl (Zg (Zl rfl Tryz.k9 rfl rfl rfl (vs := [_]) rfl rfl rfl) rfl (Zj rfl rfl (Zg (Zbj rfl rfl rfl) rfl (Zj rfl rfl (ym rfl rfl ?_)))))))
   refine Zab 10 rfl (fun hg1_7 => ?_) (fun hg1_7 => ?_)
   ·
    iterate 3 refine Zp rfl rfl rfl rfl ?_
    refine Zj rfl rfl (Zg (Zk rfl rfl rfl) rfl (Zg (Zk rfl rfl rfl) rfl ?_))
    exact Zaf rfl ⟨rfl, trivial⟩ (trivial)
   ·
    refine Zj rfl rfl (Zg (Zi rfl Tryz.f49' rfl (by decide) rfl) rfl (Zj rfl rfl (Zg (Zl rfl Tryz.k9 rfl rfl rfl (vs := [_]) rfl rfl rfl) rfl (Zj rfl rfl (Zg (Zbj rfl rfl rfl) rfl (Zj rfl rfl (Zg (Zo rfl rfl rfl) rfl ?_)))))))
    refine Zg (Zk rfl rfl rfl) rfl ?_
    exact Zaf rfl ⟨rfl, trivial⟩ (trivial)
  ·
   iterate 4 refine Zp rfl rfl rfl rfl ?_
   iterate 3 refine Zax rfl rfl rfl ?_
   refine Zp rfl rfl rfl rfl (Zg (Zo rfl rfl rfl) rfl ?_)
   exact Zaf rfl ⟨rfl, trivial⟩ (trivial)
 refine Zf (ρ' := [(1, _), (15, _)]) ⟨rfl, rfl, trivial⟩ ?_
 refine Zc ?_
 refine Zr rfl (fun hb1 => ?_) (fun hb1 => ?_)
 ·
  refine Zd (Za (ya rfl rfl (Zf (ρ' := [(2, _)]) ⟨rfl, trivial⟩ ?_)))
  refine Zc (Zx (Zh (Zau (.tmp rfl) ?_)))
  exact ⟨_, rfl⟩
 ·
  refine Zs (Zc (Zd (Zd (Za ?_))))
  refine Zbb 9 24 (fun _ => True) (ρk := [(1, _)]) ⟨rfl, trivial⟩ ?_ fun mb3_8 hm3_8 => ?_
  ·
   refine Zg (Zi rfl Tryz.f49' rfl (by decide) rfl) rfl (Zg (Zl rfl Tryz.k9 rfl rfl rfl (vs := [_]) rfl rfl rfl) rfl (Zg (Zbj rfl rfl rfl) rfl (ym rfl rfl ?_)))
   refine Zab 19 rfl (fun hg3_3 => ?_) (fun hg3_3 => ?_)
   ·
    refine Zj rfl rfl (Zg (Zi rfl Tryz.f49' rfl (by decide) rfl) rfl (Zj rfl rfl (Zg (Zl rfl Tryz.k9 rfl rfl rfl (vs := [_]) rfl rfl rfl) rfl (Zj rfl rfl (Zt rfl rfl ?_)))))
    refine Zu (caps := []) trivial rfl rfl Tryz.c58 rfl (FnP.mono (label_fn t (by omega) u) ?_)
    rintro v u1 hle1 ⟨b1, rfl⟩
    refine Zj rfl rfl (Zg (Zbu rfl rfl) rfl (Zg (Zk rfl rfl rfl) rfl ?_))
    exact Zaf rfl ⟨rfl, trivial⟩ (trivial)
   ·
    iterate 4 refine Zp rfl rfl rfl rfl ?_
    refine Zg (Zo rfl rfl rfl) rfl ?_
    exact Zaf rfl ⟨rfl, trivial⟩ (trivial)
  refine Zf (ρ' := [(1, _), (24, _)]) ⟨rfl, rfl, trivial⟩ ?_
  refine Zc ?_
  refine Zr rfl (fun hb3 => ?_) (fun hb3 => ?_)
  ·
   refine Zd (Za (ya rfl rfl (Zf (ρ' := [(2, _)]) ⟨rfl, trivial⟩ ?_)))
   refine Zc (Zx (Zh (Zau (.tmp rfl) ?_)))
   exact ⟨_, rfl⟩
  ·
   refine Zs (Zc (Zd (Zd (Za ?_))))
   refine Zbb 10 34 (fun _ => True) (ρk := [(1, _)]) ⟨rfl, trivial⟩ ?_ fun mb5_9 hm5_9 => ?_
   ·
    refine Zg (Zi rfl Tryz.f49' rfl (by decide) rfl) rfl (Zg (Zl rfl Tryz.k9 rfl rfl rfl (vs := [_]) rfl rfl rfl) rfl (Zt rfl rfl ?_))
    refine Zu (caps := []) trivial rfl rfl Tryz.c39 rfl (FnP.mono (line4_fn d (by omega) u) ?_)
    rintro v u1 hle1 ⟨b2, rfl, _⟩
    refine Zg (Zbu rfl rfl) rfl (ym rfl rfl ?_)
    refine Zab 29 rfl (fun hg5_4 => ?_) (fun hg5_4 => ?_)
    ·
     iterate 4 refine Zp rfl rfl rfl rfl ?_
     refine Zg (Zk rfl rfl rfl) rfl ?_
     exact Zaf rfl ⟨rfl, trivial⟩ (trivial)
    ·
     refine Zj rfl rfl (Zg (Zi rfl Tryz.f49' rfl (by decide) rfl) rfl (Zj rfl rfl (Zg (Zl rfl Tryz.k9 rfl rfl rfl (vs := [_]) rfl rfl rfl) rfl (Zj rfl rfl (Zt rfl rfl ?_)))))
     refine Zu (caps := []) trivial rfl rfl Tryz.c39 rfl (FnP.mono (line4_fn ti (by omega) u) ?_)
     rintro v u1 hle1 ⟨b3, rfl, _⟩
     refine Zj rfl rfl (Zg (Zbu rfl rfl) rfl (Zg (Zo rfl rfl rfl) rfl ?_))
     exact Zaf rfl ⟨rfl, trivial⟩ (trivial)
   refine Zf (ρ' := [(1, _), (34, _)]) ⟨rfl, rfl, trivial⟩ ?_
   refine Zc ?_
   refine Zr rfl (fun hb5 => ?_) (fun hb5 => ?_)
   ·
    refine Zd (Za (ya rfl rfl (Zf (ρ' := [(2, _)]) ⟨rfl, trivial⟩ ?_)))
    refine Zc (Zx (Zh (Zau (.tmp rfl) ?_)))
    exact ⟨_, rfl⟩
   ·
    refine Zs (Zc (Zd (Zd (Za ?_))))
    refine Zbb 8 42 (fun _ => True) (ρk := [(1, _)]) ⟨rfl, trivial⟩ ?_ fun mb7_7 hm7_7 => ?_
    ·
     refine Zg (Zi rfl Tryz.f49' rfl (by decide) rfl) rfl (Zg (Zl rfl Tryz.k3 rfl rfl rfl (vs := [_]) rfl rfl rfl) rfl (Zg (Zay rfl rfl rfl) rfl (ym rfl rfl ?_)))
     refine Zab 38 rfl (fun hg7_3 => ?_) (fun hg7_3 => ?_)
     ·
      refine Zj rfl rfl (Zg (Zi rfl Tryz.f49' rfl (by decide) rfl) rfl (Zj rfl rfl (Zg (Zl rfl Tryz.k22 rfl rfl rfl (vs := [_]) rfl rfl rfl) rfl (Zj rfl rfl (Zt rfl rfl ?_)))))
      refine Zu (caps := []) trivial rfl rfl Tryz.c59 rfl (FnP.mono (anyOf_fn (szI kids) vk kids false u (Nat.le_refl _) (by omega) s5) ?_)
      rintro v u1 hle1 ⟨b4, rfl⟩
      refine Zg (Zk rfl rfl rfl) rfl ?_
      exact Zaf rfl ⟨rfl, trivial⟩ (trivial)
     ·
      iterate 3 refine Zp rfl rfl rfl rfl ?_
      refine Zg (Zo rfl rfl rfl) rfl ?_
      exact Zaf rfl ⟨rfl, trivial⟩ (trivial)
    refine Zf (ρ' := [(1, _), (42, _)]) ⟨rfl, rfl, trivial⟩ ?_
    refine Zc ?_
    refine Zr rfl (fun hb7 => ?_) (fun hb7 => ?_)
    ·
     refine Zd (Za (ya rfl rfl (Zf (ρ' := [(2, _)]) ⟨rfl, trivial⟩ ?_)))
     refine Zc (Zx (Zh (Zau (.tmp rfl) ?_)))
     exact ⟨_, rfl⟩
    ·
     refine Zs (Zc (Zd (Zd (Za (Zg (Zi rfl Tryz.f49' rfl (by decide) rfl) rfl (Zg (Zl rfl Tryz.k3 rfl rfl rfl (vs := [_]) rfl rfl rfl) rfl (Zg (Zay rfl rfl rfl) rfl (Zf (ρ' := [(1, _), (45, _)]) ⟨rfl, rfl, trivial⟩ ?_))))))))
     refine Zc ?_
     refine Zr rfl (fun hb9 => ?_) (fun hb9 => ?_)
     ·
      refine Zd (Za (Zg (Zi rfl Tryz.f49' rfl (by decide) rfl) rfl (Zg (Zl rfl Tryz.k27 rfl rfl rfl (vs := [_, _, _]) rfl rfl rfl) rfl (Zt rfl rfl ?_))))
      refine Zu (caps := []) trivial rfl rfl Tryz.c42 rfl (FnP.mono (attrCheck_fn a vc vp ⟨by omega, q2, q3⟩ u s1 s2) ?_)
      rintro v u1 hle1 ⟨e, rfl⟩
      refine ya rfl rfl (Zf (ρ' := [(2, _)]) ⟨rfl, trivial⟩ ?_)
      refine Zc (Zx (Zh (Zau (.tmp rfl) ?_)))
      exact ⟨_, rfl⟩
     ·
      refine Zs (Zc (Zd (Za (ya rfl rfl (Zf (ρ' := [(2, _)]) ⟨rfl, trivial⟩ ?_)))))
      refine Zc (Zx (Zau (.tmp rfl) ?_))
      exact ⟨_, rfl⟩
theorem named_fn (k : Int) (t d ti : Bs) (a : DAttr) (args : List Bs) (cites : List DCite) (kids : List Inl) (vc vp va vt vk : Value) (u : View) (h : InlK u a args cites kids vc vp va vt vk t d ti) :
  FnP Tryz.prog 43 [.agg (inlV k t d ti a.id vc vp va vt vk).toArray] u fun r _ => ∃ e : Int, r = .int .i64 e := by
 obtain ⟨s1, s2, s3, s4, s5, ⟨q1, q2, q3, q4, q5, q6, q7, q8⟩, hsz⟩ := h
 obtain ⟨ad, cap, rfl, h3⟩ := s3
 refine FnP.intro [.tmp 2] Tryz.func43 rfl rfl rfl ?_
 intro w0 D hw0
 refine Zd (Za (Zt rfl rfl ?_))
 refine do_box trivial rfl (cs := [_, _, _, _, _, _, _, _, _, _]) rfl rfl rfl rfl ?_
 refine ya rfl rfl (Zf (ρ' := [(1, _)]) ⟨rfl, trivial⟩ ?_)
 refine Zc (Zd (Zd (Za (Zg (Zi rfl Tryz.f49' rfl (by decide) rfl) rfl (Zg (Zl rfl Tryz.k9 rfl rfl rfl (vs := [_]) rfl rfl rfl) rfl (Zt rfl rfl ?_))))))
 refine Zu (caps := []) trivial rfl rfl Tryz.c60 rfl (FnP.mono (name_fn t (by omega) u) ?_)
 rintro v u1 hle1 ⟨b1, rfl, _⟩
 refine Zg (Zbu rfl rfl) rfl (Zf (ρ' := [(1, _), (7, _)]) ⟨rfl, rfl, trivial⟩ ?_)
 refine Zc ?_
 refine Zr rfl (fun hb1 => ?_) (fun hb1 => ?_)
 ·
  refine Zd (Za (ya rfl rfl (Zf (ρ' := [(2, _)]) ⟨rfl, trivial⟩ ?_)))
  refine Zc (Zx (Zh (Zau (.tmp rfl) ?_)))
  exact ⟨_, rfl⟩
 ·
  refine Zs (Zc (Zd (Zd (Za ?_))))
  refine Zbb 13 20 (fun _ => True) (ρk := [(1, _)]) ⟨rfl, trivial⟩ ?_ fun mb3_12 hm3_12 => ?_
  ·
   refine Zg (Zi rfl Tryz.f49' rfl (by decide) rfl) rfl (Zg (Zl rfl Tryz.k3 rfl rfl rfl (vs := [_]) rfl rfl rfl) rfl (Zg (Zay rfl rfl rfl) rfl (ym rfl rfl ?_)))
   refine Zab 11 rfl (fun hg3_3 => ?_) (fun hg3_3 => ?_)
   ·
    refine Zj rfl rfl (Zg (Zi rfl Tryz.f49' rfl (by decide) rfl) rfl (Zj rfl rfl (Zg (Zl rfl Tryz.k9 rfl rfl rfl (vs := [_]) rfl rfl rfl) rfl (Zj rfl rfl (Zg (Zbj rfl rfl rfl) rfl (Zg (Zk rfl rfl rfl) rfl (ym rfl rfl ?_)))))))
    refine Zab 16 rfl (fun hg3_8 => ?_) (fun hg3_8 => ?_)
    ·
     refine Zj rfl rfl (Zg (Zi rfl Tryz.f49' rfl (by decide) rfl) rfl (Zj rfl rfl (Zg (Zl rfl Tryz.k9 rfl rfl rfl (vs := [_]) rfl rfl rfl) rfl (Zj rfl rfl (Zg (Zbj rfl rfl rfl) rfl (Zg (Zk rfl rfl rfl) rfl ?_))))))
     exact Zaf rfl ⟨rfl, trivial⟩ (trivial)
    ·
     iterate 3 refine Zp rfl rfl rfl rfl ?_
     refine Zg (Zo rfl rfl rfl) rfl ?_
     exact Zaf rfl ⟨rfl, trivial⟩ (trivial)
   ·
    iterate 3 refine Zp rfl rfl rfl rfl ?_
    refine Zg (Zo rfl rfl rfl) rfl (ym rfl rfl ?_)
    iterate 3 refine Zp rfl rfl rfl rfl ?_
    refine Zg (Zo rfl rfl rfl) rfl ?_
    exact Zaf rfl ⟨rfl, trivial⟩ (trivial)
  refine Zf (ρ' := [(1, _), (20, _)]) ⟨rfl, rfl, trivial⟩ ?_
  refine Zc ?_
  refine Zr rfl (fun hb3 => ?_) (fun hb3 => ?_)
  ·
   refine Zd (Za (ya rfl rfl (Zf (ρ' := [(2, _)]) ⟨rfl, trivial⟩ ?_)))
   refine Zc (Zx (Zh (Zau (.tmp rfl) ?_)))
   exact ⟨_, rfl⟩
  ·
   refine Zs (Zc (Zd (Zd (Za (Zg (Zi rfl Tryz.f49' rfl (by decide) rfl) rfl (Zg (Zl rfl Tryz.k24 rfl rfl rfl (vs := [_]) rfl rfl rfl) rfl (Zg (Zah rfl rfl Tryz.s24 rfl) rfl ?_)))))))
   refine Zg (y_gtr rfl rfl rfl) rfl (Zf (ρ' := [(1, _), (24, _)]) ⟨rfl, rfl, trivial⟩ ?_)
   refine Zc ?_
   refine Zr rfl (fun hb5 => ?_) (fun hb5 => ?_)
   ·
    refine Zd (Za (ya rfl rfl (Zf (ρ' := [(2, _)]) ⟨rfl, trivial⟩ ?_)))
    refine Zc (Zx (Zh (Zau (.tmp rfl) ?_)))
    exact ⟨_, rfl⟩
   ·
    refine Zs (Zc (Zd (Zd (Za (ya rfl rfl (Zf (ρ' := [(1, _), (3, _)]) ⟨rfl, rfl, trivial⟩ ?_))))))
    refine Zc (Zv ?_)
    refine Zas (fun m_0 ρ σ u' => ∃ i : Nat, i + m_0 = args.length ∧ VLe u u' ∧ σ = [(1, (none, .box (inlV k t d ti a.id vc vp (.slice ad args.length cap) vt vk)))] ∧ ρ = [(1, .p 1 0), (3, .v (.int .i64 i))] ∧ (u = u')) (args.length) ?_ ?_
    ·
     refine ⟨[(1, _), (3, _)], [(1, _)], ⟨rfl, rfl, trivial⟩, ⟨rfl, trivial⟩, 0, by omega, VLe.refl _, (by first | rfl | simp), (by first | rfl | (simp only [List.cons.injEq, Prod.mk.injEq, SV.v.injEq, Value.int.injEq, true_and, and_true]; omega) | simp), ?_⟩
     rfl
    ·
     rintro m ρ σ u' ⟨i, hi8, hle8, rfl, rfl, rfl⟩
     refine Zd (Zd (Za (ym rfl rfl (Zg (Zi rfl Tryz.f49' rfl (by decide) rfl) rfl (Zg (Zl rfl Tryz.k24 rfl rfl rfl (vs := [_]) rfl rfl rfl) rfl (Zg (Zah rfl rfl Tryz.s24 rfl) rfl (Zg (Zaz rfl rfl rfl) rfl (Zf (ρ' := [(1, _), (3, _), (29, _)]) ⟨rfl, rfl, rfl, trivial⟩ ?_))))))))
     refine Zc ?_
     refine Zr rfl (fun hb8 => ?_) (fun hb8 => ?_)
     ·
      have hlt : i < args.length := by have := of_decide_eq_true hb8; omega
      have hg := List.getElem?_eq_getElem hlt
      have hcc := cut_strsC hg
      have hsl := q7 _ (List.mem_of_getElem? hg)
      refine Zs (Zc (Zd (Zv (Zd (Za ?_)))))
      refine Zbb 15 46 (fun _ => True) (ρk := [(1, _), (3, _)]) ⟨rfl, rfl, trivial⟩ ?_ fun mb10_14 hm10_14 => ?_
      ·
       refine Zg (Zi rfl Tryz.f49' rfl (by decide) rfl) rfl (Zg (Zl rfl Tryz.k24 rfl rfl rfl (vs := [_]) rfl rfl rfl) rfl (ym rfl rfl (Zg (Zad rfl Tryz.s24 rfl rfl (by assumption) (by first | rfl | omega) (by omega)) rfl (Zg (Zac rfl Tryz.k9 rfl (by assumption) (by omega) (by assumption) (vs := [_]) rfl rfl rfl rfl) rfl (Zt rfl rfl ?_)))))
       refine Zu (caps := []) trivial rfl rfl Tryz.c39 rfl (FnP.mono (line4_fn _ (by omega) u) ?_)
       rintro v u1 hle1 ⟨b2, rfl, _⟩
       refine Zg (Zbu rfl rfl) rfl (ym rfl rfl ?_)
       refine Zab 39 rfl (fun hg10_7 => ?_) (fun hg10_7 => ?_)
       ·
        iterate 6 refine Zp rfl rfl rfl rfl ?_
        refine Zg (Zk rfl rfl rfl) rfl ?_
        exact Zaf rfl ⟨rfl, rfl, trivial⟩ (trivial)
       ·
        refine Zj rfl rfl (Zg (Zi rfl Tryz.f49' rfl (by decide) rfl) rfl (Zj rfl rfl (Zg (Zl rfl Tryz.k24 rfl rfl rfl (vs := [_]) rfl rfl rfl) rfl (Zj rfl rfl (ym rfl rfl (Zj rfl rfl (Zg (Zad rfl Tryz.s24 rfl rfl (by assumption) (by first | rfl | omega) (by omega)) rfl ?_)))))))
        refine Zj rfl rfl (Zg (Zac rfl Tryz.k9 rfl (by assumption) (by omega) (by assumption) (vs := [_]) rfl rfl rfl rfl) rfl (Zj rfl rfl (Zt rfl rfl ?_)))
        refine Zu (caps := []) trivial rfl rfl Tryz.c64 rfl (FnP.mono (khas_fn _ _ (by omega) (by decide) u) ?_)
        rintro v u1 hle1 ⟨b3, rfl⟩
        refine Zg (Zo rfl rfl rfl) rfl ?_
        exact Zaf rfl ⟨rfl, rfl, trivial⟩ (trivial)
      refine Zf (ρ' := [(1, _), (3, _), (46, _)]) ⟨rfl, rfl, rfl, trivial⟩ ?_
      refine Zc ?_
      refine Zr rfl (fun hb10 => ?_) (fun hb10 => ?_)
      ·
       refine Zd (Za (ya rfl rfl (Zf (ρ' := [(2, _)]) ⟨rfl, trivial⟩ ?_)))
       refine Zc (Zx (Zq (Zh (Zh (Zq (Zh (Zau (.tmp rfl) ?_)))))))
       exact ⟨_, rfl⟩
      ·
       refine Zs (Zaj (Zc (Za (ym rfl rfl (Zg (Zap rfl rfl rfl (Zn (by omega))) rfl ?_)))))
       refine ya rfl rfl (Zf (ρ' := [(1, _), (3, _)]) ⟨rfl, rfl, trivial⟩ ?_)
       refine Zae ?_
       refine ⟨m - 1, [(1, _), (3, _)], [(1, _)], by omega, ⟨rfl, rfl, trivial⟩, ⟨rfl, trivial⟩, i + 1, by omega, hle8, (by first | rfl | simp), (by first | rfl | (simp only [List.cons.injEq, Prod.mk.injEq, SV.v.injEq, Value.int.injEq, true_and, and_true]; omega) | simp), ?_⟩
       rfl
     ·
      skip
      refine Zao ?_
      refine Zm (Zm ?_)
      refine Zaa ?_
      refine Zc (Zd (Za (ya rfl rfl (Zf (ρ' := [(2, _)]) ⟨rfl, trivial⟩ ?_))))
      refine Zc (Zx (Zau (.tmp rfl) ?_))
      exact ⟨_, rfl⟩
def fF1 (k : Int) : Bool := decide (1 ≤ k) && decide (k ≤ 16)
def fF2 (k : Int) (t : Bs) : Bool := fF1 k && (inB k [1, 4, 5, 9, 10, 12, 14, 15] || decide (t = []))
def fF3 (k : Int) (t d : Bs) : Bool := fF2 k t && (inB k [9, 10, 16] || decide (d = []))
def fF4 (k : Int) (t d ti : Bs) : Bool := fF3 k t d && (inB k [9, 10, 14] || decide (ti = []))
def fF5 (k : Int) (t d ti : Bs) (a : DAttr) : Bool := fF4 k t d ti && (inB k [10, 11] || noA a)
def fF6 (k : Int) (t d ti : Bs) (a : DAttr) (n : Nat) : Bool := fF5 k t d ti a && (inB k [6, 7, 8, 9, 10, 11] || decide ((n : Int) = 0))
def fF7 (k : Int) (t d ti : Bs) (a : DAttr) (n m : Nat) : Bool := fF6 k t d ti a n && (decide (k = 15) || decide ((m : Int) = 0))
def fF8 (k : Int) (t d ti : Bs) (a : DAttr) (n m q : Nat) : Bool := fF7 k t d ti a n m && (decide (k = 13) || decide ((q : Int) = 0))
theorem inlineFields_fn (k : Int) (t d ti : Bs) (a : DAttr) (args : List Bs) (cites : List DCite) (kids : List Inl) (vc vp va vt vk : Value) (u : View) (h : InlK u a args cites kids vc vp va vt vk t d ti) :
  FnP Tryz.prog 38 [.agg (inlV k t d ti a.id vc vp va vt vk).toArray] u fun r _ => r = .bool (fF8 k t d ti a kids.length args.length cites.length) := by
 obtain ⟨s1, s2, s3, s4, s5, -, hsz⟩ := h
 have o1 := s1.one
 have o2 := s2.one
 obtain ⟨ad3, cap3, rfl, -⟩ := s3
 obtain ⟨ad4, cap4, rfl, -⟩ := s4
 obtain ⟨cs5, ⟨ad5, cap5, rfl, -⟩, -⟩ := s5
 refine FnP.intro [.tmp 2] Tryz.func38 rfl rfl rfl ?_
 intro w0 D hw0
 refine Zd (Za (Zt rfl rfl ?_))
 refine do_box trivial rfl (cs := [_, _, _, _, _, _, _, _, _, _]) rfl rfl rfl rfl ?_
 refine ya rfl rfl (Zf (ρ' := [(1, _)]) ⟨rfl, trivial⟩ ?_)
 refine Zc (Zd (Za (Zg (Zi rfl Tryz.f49' rfl (by decide) rfl) rfl (Zg (Zl rfl Tryz.k3 rfl rfl rfl (vs := [_]) rfl rfl rfl) rfl (Zt rfl rfl ?_)))))
 refine Zag trivial Tryz.s64 Tryz.z3 (ps := [(_, _), (_, _), (_, _), (_, _), (_, _), (_, _), (_, _), (_, _)]) rfl (xs := [_, _, _, _, _, _, _, _]) rfl rfl rfl rfl rfl rfl rfl ?_
 refine Zt rfl rfl ?_
 refine do_call_b (caps := []) 10 trivial rfl rfl Tryz.c56 rfl ?_
 intro adb capb ub hleb hslb
 refine ⟨_, rfl, FnP.mono (in4_fn k _ [1, 4, 5, 9, 10, 12, 14, 15] (by decide) ub ⟨_, _, rfl, hslb⟩) ?_⟩
 rintro v u1 hle1 rfl
 refine ya rfl rfl (Zf (ρ' := [(1, _), (3, _)]) ⟨rfl, rfl, trivial⟩ ?_)
 refine Zc (Zd (Za (Zg (Zi rfl Tryz.f49' rfl (by decide) rfl) rfl (Zg (Zl rfl Tryz.k3 rfl rfl rfl (vs := [_]) rfl rfl rfl) rfl (Zt rfl rfl ?_)))))
 refine Zag trivial Tryz.s64 Tryz.z3 (ps := [(_, _), (_, _), (_, _)]) rfl (xs := [_, _, _]) rfl rfl rfl rfl rfl rfl rfl ?_
 refine Zt rfl rfl ?_
 refine do_call_b (caps := []) 14 trivial rfl rfl Tryz.c56 rfl ?_
 intro adb capb ub hleb hslb
 refine ⟨_, rfl, FnP.mono (in4_fn k _ [9, 10, 16] (by decide) ub ⟨_, _, rfl, hslb⟩) ?_⟩
 rintro v u1 hle1 rfl
 refine ya rfl rfl (Zf (ρ' := [(1, _), (3, _), (4, _)]) ⟨rfl, rfl, rfl, trivial⟩ ?_)
 refine Zc (Zd (Za (Zg (Zi rfl Tryz.f49' rfl (by decide) rfl) rfl (Zg (Zl rfl Tryz.k3 rfl rfl rfl (vs := [_]) rfl rfl rfl) rfl (Zt rfl rfl ?_)))))
 refine Zag trivial Tryz.s64 Tryz.z3 (ps := [(_, _), (_, _), (_, _)]) rfl (xs := [_, _, _]) rfl rfl rfl rfl rfl rfl rfl ?_
 refine Zt rfl rfl ?_
 refine do_call_b (caps := []) 18 trivial rfl rfl Tryz.c56 rfl ?_
 intro adb capb ub hleb hslb
 refine ⟨_, rfl, FnP.mono (in4_fn k _ [9, 10, 14] (by decide) ub ⟨_, _, rfl, hslb⟩) ?_⟩
 rintro v u1 hle1 rfl
 refine ya rfl rfl (Zf (ρ' := [(1, _), (3, _), (4, _), (5, _)]) ⟨rfl, rfl, rfl, rfl, trivial⟩ ?_)
 refine Zc (Zd (Za (Zg (Zi rfl Tryz.f49' rfl (by decide) rfl) rfl (Zg (Zl rfl Tryz.k3 rfl rfl rfl (vs := [_]) rfl rfl rfl) rfl (Zt rfl rfl ?_)))))
 refine Zag trivial Tryz.s64 Tryz.z3 (ps := [(_, _), (_, _)]) rfl (xs := [_, _]) rfl rfl rfl rfl rfl rfl rfl ?_
 refine Zt rfl rfl ?_
 refine do_call_b (caps := []) 22 trivial rfl rfl Tryz.c56 rfl ?_
 intro adb capb ub hleb hslb
 refine ⟨_, rfl, FnP.mono (in4_fn k _ [10, 11] (by decide) ub ⟨_, _, rfl, hslb⟩) ?_⟩
 rintro v u1 hle1 rfl
 refine ya rfl rfl (Zf (ρ' := [(1, _), (3, _), (4, _), (5, _), (6, _)]) ⟨rfl, rfl, rfl, rfl, rfl, trivial⟩ ?_)
 refine Zc (Zd (Za (Zg (Zi rfl Tryz.f49' rfl (by decide) rfl) rfl (Zg (Zl rfl Tryz.k3 rfl rfl rfl (vs := [_]) rfl rfl rfl) rfl (Zt rfl rfl ?_)))))
 refine Zag trivial Tryz.s64 Tryz.z3 (ps := [(_, _), (_, _), (_, _), (_, _), (_, _), (_, _)]) rfl (xs := [_, _, _, _, _, _]) rfl rfl rfl rfl rfl rfl rfl ?_
 refine Zt rfl rfl ?_
 refine do_call_b (caps := []) 26 trivial rfl rfl Tryz.c56 rfl ?_
 intro adb capb ub hleb hslb
 refine ⟨_, rfl, FnP.mono (in4_fn k _ [6, 7, 8, 9, 10, 11] (by decide) ub ⟨_, _, rfl, hslb⟩) ?_⟩
 rintro v u1 hle1 rfl
 refine ya rfl rfl (Zf (ρ' := [(1, _), (3, _), (4, _), (5, _), (6, _), (7, _)]) ⟨rfl, rfl, rfl, rfl, rfl, rfl, trivial⟩ ?_)
 refine Zc (Zd (Za ?_))
 refine rl_part 9 36 (fF1 k) (ρk := [(1, _), (3, _), (4, _), (5, _), (6, _), (7, _)]) ⟨rfl, rfl, rfl, rfl, rfl, rfl, trivial⟩ ?_ ?_
 ·
  refine Zg (Zi rfl Tryz.f49' rfl (by decide) rfl) rfl (Zg (Zl rfl Tryz.k3 rfl rfl rfl (vs := [_]) rfl rfl rfl) rfl (Zg (Zbs rfl rfl rfl) rfl (ym rfl rfl ?_)))
  refine Zab 31 rfl (fun hg6_3 => ?_) (fun hg6_3 => ?_)
  ·
   refine Zj rfl rfl (Zg (Zi rfl Tryz.f49' rfl (by decide) rfl) rfl (Zj rfl rfl (Zg (Zl rfl Tryz.k3 rfl rfl rfl (vs := [_]) rfl rfl rfl) rfl (Zj rfl rfl (Zg (y_leq rfl rfl rfl) rfl (Zg (Zk rfl rfl rfl) rfl (ym rfl rfl ?_)))))))
   exact Zal rfl ⟨rfl, rfl, rfl, rfl, rfl, rfl, trivial⟩ (by (unfold fF1; first | (rw [hg6_3]; rfl) | (rw [hg6_3]; simp)))
  ·
   iterate 3 refine Zp rfl rfl rfl rfl ?_
   refine Zg (Zo rfl rfl rfl) rfl (ym rfl rfl ?_)
   exact Zal rfl ⟨rfl, rfl, rfl, rfl, rfl, rfl, trivial⟩ (by (unfold fF1; first | (rw [hg6_3]; rfl) | (rw [hg6_3]; simp)))
 refine rl_part 8 44 (fF2 k t) (ρk := [(1, _), (4, _), (5, _), (6, _), (7, _)]) ⟨rfl, rfl, rfl, rfl, rfl, trivial⟩ ?_ ?_
 ·
  refine Zab 36 rfl (fun hg6_8 => ?_) (fun hg6_8 => ?_)
  ·
   refine Zj rfl rfl (ym rfl rfl (Zj rfl rfl (ym rfl rfl ?_)))
   refine Zab 38 rfl (fun hg6_10 => ?_) (fun hg6_10 => ?_)
   ·
    iterate 3 refine Zp rfl rfl rfl rfl ?_
    refine Zj rfl rfl (Zg (Zk rfl rfl rfl) rfl (Zg (Zk rfl rfl rfl) rfl (ym rfl rfl ?_)))
    exact Zal rfl ⟨rfl, rfl, rfl, rfl, rfl, trivial⟩ (by (unfold fF2; first | (rw [hg6_8]; rfl) | (rw [hg6_8, hg6_10]; simp)))
   ·
    refine Zj rfl rfl (Zg (Zi rfl Tryz.f49' rfl (by decide) rfl) rfl (Zj rfl rfl (Zg (Zl rfl Tryz.k9 rfl rfl rfl (vs := [_]) rfl rfl rfl) rfl (Zj rfl rfl (Zg (Zbn rfl rfl rfl) rfl (Zj rfl rfl (Zg (Zo rfl rfl rfl) rfl ?_)))))))
    refine Zg (Zk rfl rfl rfl) rfl (ym rfl rfl ?_)
    exact Zal rfl ⟨rfl, rfl, rfl, rfl, rfl, trivial⟩ (by (unfold fF2; first | (rw [hg6_8]; rfl) | (rw [hg6_8, hg6_10]; simp)))
  ·
   refine Zp rfl rfl rfl rfl (Zp rfl rfl rfl rfl ?_)
   iterate 3 refine Zax rfl rfl rfl ?_
   refine Zp rfl rfl rfl rfl (Zg (Zo rfl rfl rfl) rfl (ym rfl rfl ?_))
   exact Zal rfl ⟨rfl, rfl, rfl, rfl, rfl, trivial⟩ (by (unfold fF2; first | (rw [hg6_8]; rfl) | (rw [hg6_8, hg6_10]; simp)))
 refine rl_part 8 52 (fF3 k t d) (ρk := [(1, _), (5, _), (6, _), (7, _)]) ⟨rfl, rfl, rfl, rfl, trivial⟩ ?_ ?_
 ·
  refine Zab 44 rfl (fun hg6_16 => ?_) (fun hg6_16 => ?_)
  ·
   refine Zj rfl rfl (ym rfl rfl (Zj rfl rfl (ym rfl rfl ?_)))
   refine Zab 46 rfl (fun hg6_18 => ?_) (fun hg6_18 => ?_)
   ·
    iterate 3 refine Zp rfl rfl rfl rfl ?_
    refine Zj rfl rfl (Zg (Zk rfl rfl rfl) rfl (Zg (Zk rfl rfl rfl) rfl (ym rfl rfl ?_)))
    exact Zal rfl ⟨rfl, rfl, rfl, rfl, trivial⟩ (by (unfold fF3; first | (rw [hg6_16]; rfl) | (rw [hg6_16, hg6_18]; simp)))
   ·
    refine Zj rfl rfl (Zg (Zi rfl Tryz.f49' rfl (by decide) rfl) rfl (Zj rfl rfl (Zg (Zl rfl Tryz.k9 rfl rfl rfl (vs := [_]) rfl rfl rfl) rfl (Zj rfl rfl (Zg (Zbn rfl rfl rfl) rfl (Zj rfl rfl (Zg (Zo rfl rfl rfl) rfl ?_)))))))
    refine Zg (Zk rfl rfl rfl) rfl (ym rfl rfl ?_)
    exact Zal rfl ⟨rfl, rfl, rfl, rfl, trivial⟩ (by (unfold fF3; first | (rw [hg6_16]; rfl) | (rw [hg6_16, hg6_18]; simp)))
  ·
   refine Zp rfl rfl rfl rfl (Zp rfl rfl rfl rfl ?_)
   iterate 3 refine Zax rfl rfl rfl ?_
   refine Zp rfl rfl rfl rfl (Zg (Zo rfl rfl rfl) rfl (ym rfl rfl ?_))
   exact Zal rfl ⟨rfl, rfl, rfl, rfl, trivial⟩ (by (unfold fF3; first | (rw [hg6_16]; rfl) | (rw [hg6_16, hg6_18]; simp)))
 refine rl_part 8 60 (fF4 k t d ti) (ρk := [(1, _), (6, _), (7, _)]) ⟨rfl, rfl, rfl, trivial⟩ ?_ ?_
 ·
  refine Zab 52 rfl (fun hg6_24 => ?_) (fun hg6_24 => ?_)
  ·
   refine Zj rfl rfl (ym rfl rfl (Zj rfl rfl (ym rfl rfl ?_)))
   refine Zab 54 rfl (fun hg6_26 => ?_) (fun hg6_26 => ?_)
   ·
    iterate 3 refine Zp rfl rfl rfl rfl ?_
    refine Zj rfl rfl (Zg (Zk rfl rfl rfl) rfl (Zg (Zk rfl rfl rfl) rfl (ym rfl rfl ?_)))
    exact Zal rfl ⟨rfl, rfl, rfl, trivial⟩ (by (unfold fF4; first | (rw [hg6_24]; rfl) | (rw [hg6_24, hg6_26]; simp)))
   ·
    refine Zj rfl rfl (Zg (Zi rfl Tryz.f49' rfl (by decide) rfl) rfl (Zj rfl rfl (Zg (Zl rfl Tryz.k9 rfl rfl rfl (vs := [_]) rfl rfl rfl) rfl (Zj rfl rfl (Zg (Zbn rfl rfl rfl) rfl (Zj rfl rfl (Zg (Zo rfl rfl rfl) rfl ?_)))))))
    refine Zg (Zk rfl rfl rfl) rfl (ym rfl rfl ?_)
    exact Zal rfl ⟨rfl, rfl, rfl, trivial⟩ (by (unfold fF4; first | (rw [hg6_24]; rfl) | (rw [hg6_24, hg6_26]; simp)))
  ·
   refine Zp rfl rfl rfl rfl (Zp rfl rfl rfl rfl ?_)
   iterate 3 refine Zax rfl rfl rfl ?_
   refine Zp rfl rfl rfl rfl (Zg (Zo rfl rfl rfl) rfl (ym rfl rfl ?_))
   exact Zal rfl ⟨rfl, rfl, rfl, trivial⟩ (by (unfold fF4; first | (rw [hg6_24]; rfl) | (rw [hg6_24, hg6_26]; simp)))
 refine rl_part 8 68 (fF5 k t d ti a) (ρk := [(1, _), (7, _)]) ⟨rfl, rfl, trivial⟩ ?_ ?_
 ·
  refine Zab 60 rfl (fun hg6_32 => ?_) (fun hg6_32 => ?_)
  ·
   refine Zj rfl rfl (ym rfl rfl (Zj rfl rfl (ym rfl rfl ?_)))
   refine Zab 62 rfl (fun hg6_34 => ?_) (fun hg6_34 => ?_)
   ·
    iterate 3 refine Zp rfl rfl rfl rfl ?_
    refine Zj rfl rfl (Zg (Zk rfl rfl rfl) rfl (Zg (Zk rfl rfl rfl) rfl (ym rfl rfl ?_)))
    exact Zal rfl ⟨rfl, rfl, trivial⟩ (by (unfold fF5; first | (rw [hg6_32]; rfl) | (rw [hg6_32, hg6_34]; simp)))
   ·
    refine Zj rfl rfl (Zg (Zi rfl Tryz.f49' rfl (by decide) rfl) rfl (Zj rfl rfl (Zg (Zl rfl Tryz.k27 rfl rfl rfl (vs := [_, _, _]) rfl rfl rfl) rfl (Zj rfl rfl (Zt rfl rfl ?_)))))
    refine Zu (caps := []) trivial rfl rfl Tryz.c41 rfl (FnP.mono (noAttr_fn a vc vp u s1 s2) ?_)
    rintro v u1 hle1 rfl
    refine Zj rfl rfl (Zg (Zo rfl rfl rfl) rfl (Zg (Zk rfl rfl rfl) rfl (ym rfl rfl ?_)))
    exact Zal rfl ⟨rfl, rfl, trivial⟩ (by (unfold fF5; first | (rw [hg6_32]; rfl) | (rw [hg6_32, hg6_34]; simp)))
  ·
   refine Zp rfl rfl rfl rfl (Zp rfl rfl rfl rfl ?_)
   iterate 3 refine Zax rfl rfl rfl ?_
   refine Zp rfl rfl rfl rfl (Zg (Zo rfl rfl rfl) rfl (ym rfl rfl ?_))
   exact Zal rfl ⟨rfl, rfl, trivial⟩ (by (unfold fF5; first | (rw [hg6_32]; rfl) | (rw [hg6_32, hg6_34]; simp)))
 refine rl_part 9 77 (fF6 k t d ti a kids.length) (ρk := [(1, _)]) ⟨rfl, trivial⟩ ?_ ?_
 ·
  refine Zab 68 rfl (fun hg6_40 => ?_) (fun hg6_40 => ?_)
  ·
   refine Zj rfl rfl (ym rfl rfl (Zj rfl rfl (ym rfl rfl ?_)))
   refine Zab 70 rfl (fun hg6_42 => ?_) (fun hg6_42 => ?_)
   ·
    iterate 4 refine Zp rfl rfl rfl rfl ?_
    refine Zj rfl rfl (Zg (Zk rfl rfl rfl) rfl (Zg (Zk rfl rfl rfl) rfl (ym rfl rfl ?_)))
    exact Zal rfl ⟨rfl, trivial⟩ (by (unfold fF6; first | (rw [hg6_40]; rfl) | (rw [hg6_40, hg6_42]; simp)))
   ·
    refine Zj rfl rfl (Zg (Zi rfl Tryz.f49' rfl (by decide) rfl) rfl (Zj rfl rfl (Zg (Zl rfl Tryz.k22 rfl rfl rfl (vs := [_]) rfl rfl rfl) rfl (Zj rfl rfl (Zg (Zah rfl rfl Tryz.s22 rfl) rfl (Zj rfl rfl (Zg (Zay rfl rfl rfl) rfl ?_)))))))
    refine Zj rfl rfl (Zg (Zo rfl rfl rfl) rfl (Zg (Zk rfl rfl rfl) rfl (ym rfl rfl ?_)))
    exact Zal rfl ⟨rfl, trivial⟩ (by (unfold fF6; first | (rw [hg6_40]; rfl) | (rw [hg6_40, hg6_42]; simp)))
  ·
   refine Zp rfl rfl rfl rfl (Zp rfl rfl rfl rfl ?_)
   iterate 4 refine Zax rfl rfl rfl ?_
   refine Zp rfl rfl rfl rfl (Zg (Zo rfl rfl rfl) rfl (ym rfl rfl ?_))
   exact Zal rfl ⟨rfl, trivial⟩ (by (unfold fF6; first | (rw [hg6_40]; rfl) | (rw [hg6_40, hg6_42]; simp)))
 refine rl_part 11 88 (fF7 k t d ti a kids.length args.length) (ρk := [(1, _)]) ⟨rfl, trivial⟩ ?_ ?_
 ·
  refine Zab 77 rfl (fun hg6_49 => ?_) (fun hg6_49 => ?_)
  ·
   refine Zj rfl rfl (Zg (Zi rfl Tryz.f49' rfl (by decide) rfl) rfl (Zj rfl rfl (Zg (Zl rfl Tryz.k3 rfl rfl rfl (vs := [_]) rfl rfl rfl) rfl (Zj rfl rfl (Zg (Zay rfl rfl rfl) rfl (Zj rfl rfl (ym rfl rfl ?_)))))))
   refine Zab 81 rfl (fun hg6_53 => ?_) (fun hg6_53 => ?_)
   ·
    iterate 4 refine Zp rfl rfl rfl rfl ?_
    refine Zj rfl rfl (Zg (Zk rfl rfl rfl) rfl (Zg (Zk rfl rfl rfl) rfl (ym rfl rfl ?_)))
    exact Zal rfl ⟨rfl, trivial⟩ (by (unfold fF7; first | (rw [hg6_49]; rfl) | (rw [hg6_49, hg6_53]; simp)))
   ·
    refine Zj rfl rfl (Zg (Zi rfl Tryz.f49' rfl (by decide) rfl) rfl (Zj rfl rfl (Zg (Zl rfl Tryz.k24 rfl rfl rfl (vs := [_]) rfl rfl rfl) rfl (Zj rfl rfl (Zg (Zah rfl rfl Tryz.s24 rfl) rfl (Zj rfl rfl (Zg (Zay rfl rfl rfl) rfl ?_)))))))
    refine Zj rfl rfl (Zg (Zo rfl rfl rfl) rfl (Zg (Zk rfl rfl rfl) rfl (ym rfl rfl ?_)))
    exact Zal rfl ⟨rfl, trivial⟩ (by (unfold fF7; first | (rw [hg6_49]; rfl) | (rw [hg6_49, hg6_53]; simp)))
  ·
   iterate 4 refine Zp rfl rfl rfl rfl ?_
   iterate 4 refine Zax rfl rfl rfl ?_
   refine Zp rfl rfl rfl rfl (Zg (Zo rfl rfl rfl) rfl (ym rfl rfl ?_))
   exact Zal rfl ⟨rfl, trivial⟩ (by (unfold fF7; first | (rw [hg6_49]; rfl) | (rw [hg6_49, hg6_53]; simp)))
 refine rl_part 10 98 (fF8 k t d ti a kids.length args.length cites.length) (ρk := []) trivial ?_ ?_
 ·
  refine Zab 88 rfl (fun hg6_60 => ?_) (fun hg6_60 => ?_)
  ·
   refine Zj rfl rfl (Zg (Zi rfl Tryz.f49' rfl (by decide) rfl) rfl (Zj rfl rfl (Zg (Zl rfl Tryz.k3 rfl rfl rfl (vs := [_]) rfl rfl rfl) rfl (Zj rfl rfl (Zg (Zay rfl rfl rfl) rfl (Zj rfl rfl (ym rfl rfl ?_)))))))
   refine Zab 92 rfl (fun hg6_64 => ?_) (fun hg6_64 => ?_)
   ·
    iterate 4 refine Zp rfl rfl rfl rfl ?_
    refine Zj rfl rfl (Zg (Zk rfl rfl rfl) rfl (Zg (Zk rfl rfl rfl) rfl ?_))
    exact Zal rfl trivial (by (unfold fF8; first | (rw [hg6_60]; rfl) | (rw [hg6_60, hg6_64]; simp)))
   ·
    refine Zj rfl rfl (Zg (Zi rfl Tryz.f49' rfl (by decide) rfl) rfl (Zj rfl rfl (Zg (Zl rfl Tryz.k47 rfl rfl rfl (vs := [_]) rfl rfl rfl) rfl (Zj rfl rfl (Zg (Zah rfl rfl Tryz.s47 rfl) rfl (Zj rfl rfl (Zg (Zay rfl rfl rfl) rfl ?_)))))))
    refine Zj rfl rfl (Zg (Zo rfl rfl rfl) rfl (Zg (Zk rfl rfl rfl) rfl ?_))
    exact Zal rfl trivial (by (unfold fF8; first | (rw [hg6_60]; rfl) | (rw [hg6_60, hg6_64]; simp)))
  ·
   iterate 4 refine Zp rfl rfl rfl rfl ?_
   iterate 4 refine Zax rfl rfl rfl ?_
   refine Zp rfl rfl rfl rfl (Zg (Zo rfl rfl rfl) rfl ?_)
   exact Zal rfl trivial (by (unfold fF8; first | (rw [hg6_60]; rfl) | (rw [hg6_60, hg6_64]; simp)))
 refine ya rfl rfl (Zf (ρ' := [(2, _)]) ⟨rfl, trivial⟩ ?_)
 refine Zc (Zx (Zau (.tmp rfl) ?_))
 rfl
end Go.Proofs.Ytekkhlepbacapaa
