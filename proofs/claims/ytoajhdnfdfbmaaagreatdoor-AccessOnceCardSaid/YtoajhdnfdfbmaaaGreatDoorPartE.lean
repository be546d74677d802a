/- Texts for a law, part 5: they walk the functions that the law reaches, and state what holds of them; without conditions beyond each theorem's own. -/
import Derived.Test.YtoajhdnfdfbmaaaGreatDoorPartD
namespace Go.Proofs.Ytoajhdnfdfbmaaa
open Go Go.Eng
set_option linter.unusedSimpArgs false
set_option linter.unusedVariables false
set_option maxRecDepth 4000
set_option maxHeartbeats 4000000 in
theorem line_fn (n : Nat) : ∀ (v : Value) (xs : List Inl) (u : View), szI xs ≤ n → szI xs ≤ 1000 → smI xs → InlS u v xs →
  FnO Tryz.prog 37 [v] u [] fun r u' l' => ∃ ad cap c1, r = .tuple #[.slice ad (fixI xs).1.length cap, .bool (fixI xs).2] ∧ l' = [(none, .rwv (.slice ad (fixI xs).1.length cap) 45 10 (fixI xs).1.length c1)] ∧ InlsC u' (fixI xs).1 c1 := by
 induction n using Nat.strongRecOn with
 | _ n ih =>
 intro v xs u hsz hbig hsm ha
 have hlx := len_szI xs
 obtain ⟨cs, ⟨ad, cap, rfl, h1⟩, hc1⟩ := ha
 have hcl := hc1.len
 refine FnO.intro [.tmp 2, .tmp 3] Tryz.func37 rfl rfl rfl ?_
 intro w0 D hw0
 refine wc_seq ?_
 refine wc_region ?_
 refine ya rfl rfl ?_
 refine ya rfl rfl ?_
 refine rl_end (ρ' := [(0, _)]) ⟨rfl, trivial⟩ ?_
 refine q_then ?_
 refine wc_seq ?_
 refine wc_region ?_
 refine ym rfl rfl ?_
 refine rl_do rfl rfl ?_
 refine do_call_o (caps := []) (ρ' := [(0, _)]) [] [612] trivial rfl rfl rfl Tryz.c70 rfl rfl ⟨rfl, trivial⟩ rfl rfl rfl (FnO.mono (cloneInlW_fn _ xs.length cs (by omega) hc1.ones u ⟨_, _, rfl, h1⟩) ?_)
 rintro v uO l1 hleO ⟨ado, capo, rfl, rfl⟩ -
 refine ⟨trivial, ?_⟩
 refine ya rfl rfl ?_
 refine rl_end (ρ' := [(0, _), (4, _)]) ⟨rfl, rfl, trivial⟩ ?_
 refine q_then ?_
 refine wc_seq ?_
 refine wc_region ?_
 refine ya rfl rfl ?_
 refine rl_end (ρ' := [(0, _), (4, _), (5, _)]) ⟨rfl, rfl, rfl, trivial⟩ ?_
 refine q_then ?_
 refine wc_seq ?_
 refine wc_seq ?_
 refine wc_region ?_
 refine ym rfl rfl ?_
 refine rl_y (y_len_v rfl rfl Tryz.s37 rfl) rfl ?_
 refine ym rfl rfl ?_
 refine rl_end (ρ' := [(0, _), (4, _), (5, _), (13, _), (14, _), (15, _)]) ⟨rfl, rfl, rfl, rfl, rfl, rfl, trivial⟩ ?_
 refine q_then ?_
 refine wc_block ?_
 refine wc_loop (fun m ρ σ u' => ∃ i : Nat, i + m = xs.length ∧ VLe uO u' ∧ ∃ (acc : List Value), σ = [(612, (none, .rwv (.slice ado xs.length capo) 45 10 xs.length (acc ++ cs.drop (i * 10))))] ∧ ρ = [(0, .v (.slice ad xs.length cap)), (4, .v (.slice ado xs.length capo)), (5, .v (.bool (fixI (xs.take i)).2)), (13, .v (.slice ad xs.length cap)), (14, .v (.int .i64 xs.length)), (15, .v (.int .i64 i))] ∧ (InlsC u' (fixI (xs.take i)).1 acc)) (xs.length) ?_ ?_
 ·
  refine ⟨[(0, _), (4, _), (5, _), (13, _), (14, _), (15, _)], [(612, _)], ⟨rfl, rfl, rfl, rfl, rfl, rfl, trivial⟩, ⟨rfl, trivial⟩, 0, by omega, VLe.refl _, [], (by simp), rfl, ?_⟩
  exact InlsC.nil
 ·
  rintro m ρ σ u' ⟨i, hi4, hle4, acc, rfl, rfl, hacc⟩
  refine wc_seq ?_
  refine wc_region ?_
  refine rl_y (y_lss rfl rfl rfl) rfl ?_
  refine rl_end (ρ' := [(0, _), (4, _), (5, _), (13, _), (14, _), (15, _), (16, _)]) ⟨rfl, rfl, rfl, rfl, rfl, rfl, rfl, trivial⟩ ?_
  refine q_then ?_
  refine wc_seq ?_
  refine wc_cond rfl (fun hb4 => ?_) (fun hb4 => ?_)
  ·
   have hlt : i < xs.length := (by have := of_decide_eq_true hb4; omega)
   refine wc_skip ?_
   refine q_then ?_
   refine wc_seq ?_
   refine wc_block ?_
   refine wc_seq ?_
   have hle5 : VLe u u' := hleO.trans hle4
   have h1 := h1.mono hle5
   have hc1 := hc1.mono hle5
   obtain ⟨k, t, d, ti, a, args, cites, kids, vc, vp, va, vt, vk, hg, hcut1, s1, s2, s3, s4, s5, hok⟩ := hc1.at hlt
   have hx := hc1.get i _ hg
   rw [hcut1] at hx
   have oneAll := hx.one
   have hsm1 := smI_get hsm hg
   have hsm2 := hsm1
   unfold smI1 NodeSm at hsm2
   obtain ⟨⟨n1, n2, n3, n4, n5, n6, n7, n8⟩, hsmk⟩ := hsm2
   have hszk := szI_kids hg
   have hsz1 : sz1 (.mk k t d ti a args cites kids) ≤ szI xs := by simp only [sz1]; omega
   have hlk := len_szI kids
   obtain ⟨hft1, hft2⟩ := fixI_take hg
   rw [fixI1_eq] at hft1 hft2
   have hacl := hacc.len
   rw [fixI_len, List.length_take, Nat.min_eq_left (by omega)] at hacl
   obtain ⟨da1, da2, da3⟩ := daI_id (.mk k t d ti a args cites kids) a
   have hoka := daI_ok (.mk k t d ti a args cites kids) (show AttrOk a from by unfold InlOk at hok; exact hok.2.2.2.2.1)
   have hfk := fixI_len kids
   generalize hxx : Inl.mk k t d ti a args cites kids = x at *
   refine wc_region ?_
   refine ym rfl rfl ?_
   refine rl_y (y_index_e rfl Tryz.s37 rfl rfl (by assumption) (by first | rfl | omega) (by omega)) rfl ?_
   refine rl_y (y_load_el rfl Tryz.k45 rfl (by assumption) (by omega) (by assumption) (vs := [_, _, _, _, _, _, _, _, _, _]) rfl rfl rfl rfl) rfl ?_
   refine rl_do rfl rfl ?_
   refine do_alloc trivial Tryz.z45 rfl rfl rfl ?_
   refine ya rfl rfl ?_
   refine rl_do rfl rfl ?_
   refine do_store_p trivial rfl Tryz.k45 rfl rfl rfl (vs := [_, _, _, _, _, _, _, _, _, _]) rfl rfl (by first | rfl | assumption | simp [Value.oneCell', str]) (Nat.le_of_ble_eq_true rfl) rfl ?_
   refine rl_end (ρ' := [(0, _), (4, _), (5, _), (6, _), (7, _), (13, _), (14, _), (15, _)]) ⟨rfl, rfl, rfl, rfl, rfl, rfl, rfl, rfl, trivial⟩ ?_
   refine q_then ?_
   refine wc_seq ?_
   refine wc_region ?_
   refine rl_y (y_field_p rfl Tryz.f45' rfl (by decide) rfl) rfl ?_
   refine rl_y (y_field_p rfl Tryz.f36' rfl (by decide) rfl) rfl ?_
   refine rl_y (y_load_p rfl Tryz.k34 rfl rfl rfl (vs := [_]) rfl rfl rfl) rfl ?_
   refine rl_do rfl rfl ?_
   refine do_call (caps := []) trivial rfl rfl Tryz.c36 rfl (FnP.mono (cloneStr_fn vc a.classes (by omega) u' s1) ?_)
   rintro v uA hle0 ⟨ad1, cap1, rfl, w1⟩ hleA
   refine rl_y (y_field_p rfl Tryz.f45' rfl (by decide) rfl) rfl ?_
   refine rl_y (y_field_p rfl Tryz.f36' rfl (by decide) rfl) rfl ?_
   refine rl_do rfl rfl ?_
   refine do_store_p trivial rfl Tryz.k34 rfl rfl rfl (vs := [_]) rfl rfl (by first | rfl | assumption | simp [Value.oneCell', str]) (Nat.le_of_ble_eq_true rfl) rfl ?_
   refine rl_end (ρ' := [(0, _), (4, _), (5, _), (6, _), (7, _), (13, _), (14, _), (15, _)]) ⟨rfl, rfl, rfl, rfl, rfl, rfl, rfl, rfl, trivial⟩ ?_
   refine q_then ?_
   refine wc_seq ?_
   refine wc_region ?_
   refine rl_y (y_field_p rfl Tryz.f45' rfl (by decide) rfl) rfl ?_
   refine rl_y (y_field_p rfl Tryz.f36' rfl (by decide) rfl) rfl ?_
   refine rl_y (y_load_p rfl Tryz.k22 rfl rfl rfl (vs := [_]) rfl rfl rfl) rfl ?_
   refine rl_do rfl rfl ?_
   refine do_call_o (caps := []) (ρ' := [(0, _), (4, _), (5, _), (6, _), (7, _), (13, _), (14, _), (15, _)]) [] [629] trivial rfl rfl rfl Tryz.c17 rfl rfl ⟨rfl, rfl, rfl, rfl, rfl, rfl, rfl, rfl, trivial⟩ rfl rfl rfl (FnO.mono (clonePrW_fn vp a.pairs.length (pairsC a.pairs) (by omega) (oneCell_pairs _) uA (s2.mono hleA)) ?_)
   rintro v uB l1 hleB ⟨ad2, cap2, rfl, rfl⟩ -
   refine ⟨trivial, ?_⟩
   refine rl_y (y_field_p rfl Tryz.f45' rfl (by decide) rfl) rfl ?_
   refine rl_y (y_field_p rfl Tryz.f36' rfl (by decide) rfl) rfl ?_
   refine rl_do rfl rfl ?_
   refine do_store_p trivial rfl Tryz.k22 rfl rfl rfl (vs := [_]) rfl rfl (by first | rfl | assumption | simp [Value.oneCell', str]) (Nat.le_of_ble_eq_true rfl) rfl ?_
   refine rl_end (ρ' := [(0, _), (4, _), (5, _), (6, _), (7, _), (13, _), (14, _), (15, _)]) ⟨rfl, rfl, rfl, rfl, rfl, rfl, rfl, rfl, trivial⟩ ?_
   refine q_then ?_
   refine wc_seq ?_
   refine wc_region ?_
   refine rl_y (y_field_p rfl Tryz.f45' rfl (by decide) rfl) rfl ?_
   refine rl_y (y_load_p rfl Tryz.k34 rfl rfl rfl (vs := [_]) rfl rfl rfl) rfl ?_
   refine rl_do rfl rfl ?_
   refine do_call (caps := []) trivial rfl rfl Tryz.c36 rfl (FnP.mono (cloneStr_fn va args (by omega) uB ((s3.mono hleA).mono hleB)) ?_)
   rintro v uC hle0 ⟨ad3, cap3, rfl, w3⟩ hleC
   refine rl_y (y_field_p rfl Tryz.f45' rfl (by decide) rfl) rfl ?_
   refine rl_do rfl rfl ?_
   refine do_store_p trivial rfl Tryz.k34 rfl rfl rfl (vs := [_]) rfl rfl (by first | rfl | assumption | simp [Value.oneCell', str]) (Nat.le_of_ble_eq_true rfl) rfl ?_
   refine rl_end (ρ' := [(0, _), (4, _), (5, _), (6, _), (7, _), (13, _), (14, _), (15, _)]) ⟨rfl, rfl, rfl, rfl, rfl, rfl, rfl, rfl, trivial⟩ ?_
   refine q_then ?_
   refine wc_seq ?_
   refine wc_region ?_
   refine rl_y (y_field_p rfl Tryz.f45' rfl (by decide) rfl) rfl ?_
   refine rl_y (y_load_p rfl Tryz.k43 rfl rfl rfl (vs := [_]) rfl rfl rfl) rfl ?_
   refine rl_do rfl rfl ?_
   refine do_call (caps := []) trivial rfl rfl Tryz.c71 rfl (FnP.mono (cloneCi_fn vt cites (by omega) uC (((s4.mono hleA).mono hleB).mono hleC)) ?_)
   rintro v uD hle0 ⟨ad4, cap4, rfl, w4⟩ hleD
   refine rl_y (y_field_p rfl Tryz.f45' rfl (by decide) rfl) rfl ?_
   refine rl_do rfl rfl ?_
   refine do_store_p trivial rfl Tryz.k43 rfl rfl rfl (vs := [_]) rfl rfl (by first | rfl | assumption | simp [Value.oneCell', str]) (Nat.le_of_ble_eq_true rfl) rfl ?_
   refine rl_end (ρ' := [(0, _), (4, _), (5, _), (6, _), (7, _), (13, _), (14, _), (15, _)]) ⟨rfl, rfl, rfl, rfl, rfl, rfl, rfl, rfl, trivial⟩ ?_
   refine q_then ?_
   refine wc_seq ?_
   refine wc_region ?_
   refine rl_y (y_field_p rfl Tryz.f45' rfl (by decide) rfl) rfl ?_
   refine rl_y (y_load_p rfl Tryz.k37 rfl rfl rfl (vs := [_]) rfl rfl rfl) rfl ?_
   refine rl_do rfl rfl ?_
   refine do_call_o (caps := []) (ρ' := [(0, _), (4, _), (5, _), (6, _), (7, _), (13, _), (14, _), (15, _)]) [] [643] trivial rfl rfl rfl Tryz.c37 rfl rfl ⟨rfl, rfl, rfl, rfl, rfl, rfl, rfl, rfl, trivial⟩ rfl rfl rfl (FnO.mono (ih (szI kids) (by omega) vk kids uD (Nat.le_refl _) (by omega) hsmk ((((s5.mono hleA).mono hleB).mono hleC).mono hleD)) ?_)
   rintro v uE l1 hleE ⟨ad5, cap5, c5, rfl, rfl, w5⟩ -
   refine ⟨trivial, ?_⟩
   have hleL : VLe u' uE := hleA.trans (hleB.trans (hleC.trans (hleD.trans hleE)))
   have hxL := hx.mono hleL
   have h1L := h1.mono hleL
   refine ym rfl rfl ?_
   refine rl_y (y_extract rfl rfl rfl) rfl ?_
   refine rl_y (y_extract rfl rfl rfl) rfl ?_
   refine ya rfl rfl ?_
   refine ya rfl rfl ?_
   refine rl_end (ρ' := [(0, _), (4, _), (5, _), (6, _), (7, _), (8, _), (9, _), (13, _), (14, _), (15, _)]) ⟨rfl, rfl, rfl, rfl, rfl, rfl, rfl, rfl, rfl, rfl, trivial⟩ ?_
   refine q_then ?_
   refine wc_seq ?_
   refine wc_cutB 5 ((fixI (xs.take i)).2 || (fixI kids).2) (ρk := [(0, _), (4, _), (6, _), (7, _), (8, _), (13, _), (14, _), (15, _)]) ⟨rfl, rfl, rfl, rfl, rfl, rfl, rfl, rfl, trivial⟩ ?_ ?_
   ·
    refine wc_region ?_
    refine ym rfl rfl ?_
    refine ym rfl rfl ?_
    rcases Bool.eq_false_or_eq_true ((fixI (xs.take i)).2) with hg11_1 | hg11_1
    ·
     simp only [hg11_1]
     refine rl_off rfl rfl rfl rfl ?_
     refine rl_y (y_pick_t rfl rfl rfl) rfl ?_
     refine ya rfl rfl ?_
     exact cutB_end rfl ⟨rfl, rfl, rfl, rfl, rfl, rfl, rfl, rfl, trivial⟩ (by first | (rw [hg11_1]; rfl) | (simp only [hg11_1]; rfl) | simp)
    ·
     simp only [hg11_1]
     refine rl_on rfl rfl ?_
     refine ym rfl rfl ?_
     refine rl_y (y_pick_f rfl rfl rfl) rfl ?_
     refine ya rfl rfl ?_
     exact cutB_end rfl ⟨rfl, rfl, rfl, rfl, rfl, rfl, rfl, rfl, trivial⟩ (by first | (rw [hg11_1]; rfl) | (simp only [hg11_1]; rfl) | simp)
   refine q_then ?_
   refine wc_cut (fun ρ σ uc16 => ∃ (vp3 : Value), VLe uE uc16 ∧ σ = [(612, (none, .rwv (.slice ado xs.length capo) 45 10 xs.length (acc ++ cs.drop (i * 10)))), (7, (none, .box [.int .i64 k, str t, str d, str ti, str a.id, .slice ad1 a.classes.length cap1, vp3, .slice ad3 args.length cap3, .slice ad4 cites.length cap4, vk])), (629, (none, .rwv vp3 49 2 (daI x a).1.pairs.length (pairsC (daI x a).1.pairs))), (643, (none, .rwv (.slice ad5 (fixI kids).1.length cap5) 45 10 (fixI kids).1.length c5))] ∧ ρ = [(0, .v (.slice ad xs.length cap)), (4, .v (.slice ado xs.length capo)), (5, .v (.bool (((fixI (xs.take i)).2 || (fixI kids).2) || (daI x a).2))), (6, .v (.int .i64 i)), (7, .p 7 0), (8, .v (.slice ad5 (fixI kids).1.length cap5)), (13, .v (.slice ad xs.length cap)), (14, .v (.int .i64 xs.length)), (15, .v (.int .i64 i))] ∧ (Value.oneCell' vp3 = true)) ?_ ?_
   ·
    refine wc_seq ?_
    refine wc_region ?_
    refine ym rfl rfl ?_
    refine ym rfl rfl ?_
    refine rl_y (y_index_e rfl Tryz.s37 rfl rfl h1L (j := i) rfl hlt) rfl ?_
    refine rl_y (y_load_el rfl Tryz.k45 rfl (by assumption) (by omega) (by assumption) (vs := [_, _, _, _, _, _, _, _, _, _]) rfl rfl rfl rfl) rfl ?_
    refine rl_do rfl rfl ?_
    refine do_call_f (caps := []) trivial rfl rfl Tryz.c48 rfl (FnP.mono (silentCb.2 uE x _ hsm1 (by omega) hxL) ?_)
    rintro v u1 hle1 rfl
    refine rl_end (ρ' := [(0, _), (4, _), (5, _), (6, _), (7, _), (8, _), (13, _), (14, _), (15, _), (54, _)]) ⟨rfl, rfl, rfl, rfl, rfl, rfl, rfl, rfl, rfl, rfl, trivial⟩ ?_
    refine q_then ?_
    refine wc_cond rfl (fun hb12 => ?_) (fun hb12 => ?_)
    ·
     have hs12 : silent x = true := hb12
     have hda : daI x a = decoA a := if_pos hs12
     refine wc_seq ?_
     refine wc_region ?_
     refine ya rfl rfl ?_
     refine rl_end (ρ' := [(0, _), (4, _), (5, _), (6, _), (7, _), (8, _), (13, _), (14, _), (15, _)]) ⟨rfl, rfl, rfl, rfl, rfl, rfl, rfl, rfl, rfl, trivial⟩ ?_
     refine q_then ?_
     refine wc_seq ?_
     refine wc_region ?_
     refine rl_y (y_field_p rfl Tryz.f45' rfl (by decide) rfl) rfl ?_
     refine rl_y (y_load_p rfl Tryz.k36 rfl rfl rfl (vs := [_, _, _]) rfl rfl rfl) rfl ?_
     refine rl_do rfl rfl ?_
     refine do_call_o (caps := []) (ρ' := [(0, _), (4, _), (5, _), (6, _), (7, _), (8, _), (13, _), (14, _), (15, _)]) [629] [] trivial rfl rfl rfl Tryz.c72 rfl rfl ⟨rfl, rfl, rfl, rfl, rfl, rfl, rfl, rfl, rfl, trivial⟩ rfl rfl rfl (FnO.mono (deco_fn a _ _ (by omega) rfl rfl uE) ?_)
     rintro v uF l1 hleF ⟨vp6, rfl, o6, hcl6, rfl⟩ -
     refine ⟨⟨fun _ h => h, trivial⟩, ?_⟩
     refine ym rfl rfl ?_
     refine rl_y (y_extract rfl rfl rfl) rfl ?_
     refine rl_y (y_extract rfl rfl rfl) rfl ?_
     refine rl_y (y_field_p rfl Tryz.f45' rfl (by decide) rfl) rfl ?_
     refine rl_do rfl rfl ?_
     refine do_store_p trivial rfl Tryz.k36 rfl rfl rfl (vs := [_, _, _]) rfl rfl (by simp only [List.all_cons, List.all_nil, o6]; rfl) (Nat.le_of_ble_eq_true rfl) rfl ?_
     refine ya rfl rfl ?_
     refine rl_end (ρ' := [(0, _), (4, _), (5, _), (6, _), (7, _), (8, _), (10, _), (13, _), (14, _), (15, _)]) ⟨rfl, rfl, rfl, rfl, rfl, rfl, rfl, rfl, rfl, rfl, trivial⟩ ?_
     refine q_then ?_
     refine wc_cutB 5 (((fixI (xs.take i)).2 || (fixI kids).2) || (daI x a).2) (ρk := [(0, _), (4, _), (6, _), (7, _), (8, _), (13, _), (14, _), (15, _)]) ⟨rfl, rfl, rfl, rfl, rfl, rfl, rfl, rfl, trivial⟩ ?_ ?_
     ·
      refine wc_region ?_
      refine ym rfl rfl ?_
      refine ym rfl rfl ?_
      rcases Bool.eq_false_or_eq_true ((fixI (xs.take i)).2 || (fixI kids).2) with hg15_1 | hg15_1
      ·
       simp only [hg15_1]
       refine rl_off rfl rfl rfl rfl ?_
       refine rl_y (y_pick_t rfl rfl rfl) rfl ?_
       refine ya rfl rfl ?_
       exact cutB_end rfl ⟨rfl, rfl, rfl, rfl, rfl, rfl, rfl, rfl, trivial⟩ (by rw [hda]; first | (rw [hg15_1]; rfl) | (simp only [hg15_1]; rfl) | simp)
      ·
       simp only [hg15_1]
       refine rl_on rfl rfl ?_
       refine ym rfl rfl ?_
       refine rl_y (y_pick_f rfl rfl rfl) rfl ?_
       refine ya rfl rfl ?_
       exact cutB_end rfl ⟨rfl, rfl, rfl, rfl, rfl, rfl, rfl, rfl, trivial⟩ (by rw [hda]; first | (rw [hg15_1]; rfl) | (simp only [hg15_1]; rfl) | simp)
     refine q_thenK ?_
     first
      | (refine ⟨[(0, _), (4, _), (5, _), (6, _), (7, _), (8, _), (13, _), (14, _), (15, _)], [(612, _), (7, _), (629, _), (643, _)], ⟨rfl, rfl, rfl, rfl, rfl, rfl, rfl, rfl, rfl, trivial⟩, ⟨rfl, rfl, rfl, rfl, trivial⟩, vp6, hleF, (by first | (rw [hda, (decoA_id a).1]; rfl) | (rw [hda]; rfl)), (by first | rfl | (rw [hda, Bool.or_false]; rfl) | (rw [hda]; simp; done)), ?_⟩
         (exact o6))
      | (refine ⟨[(0, _), (4, _), (5, _), (6, _), (7, _), (8, _), (13, _), (14, _), (15, _)], [(612, _), (7, _), (629, _), (643, _)], ⟨rfl, rfl, rfl, rfl, rfl, rfl, rfl, rfl, rfl, trivial⟩, ⟨rfl, rfl, rfl, rfl, trivial⟩, .slice ad2 a.pairs.length cap2, (VLe.refl _), (by first | (rw [hda, (decoA_id a).1]; rfl) | (rw [hda]; rfl)), (by first | rfl | (rw [hda, Bool.or_false]; rfl) | (rw [hda]; simp; done)), ?_⟩
         (exact rfl))
    ·
     have hs12 : ¬ silent x = true := by rw [hb12]; simp
     have hda : daI x a = (a, false) := if_neg hs12
     refine wc_skip ?_
     refine q_thenK ?_
     first
      | (refine ⟨[(0, _), (4, _), (5, _), (6, _), (7, _), (8, _), (13, _), (14, _), (15, _)], [(612, _), (7, _), (629, _), (643, _)], ⟨rfl, rfl, rfl, rfl, rfl, rfl, rfl, rfl, rfl, trivial⟩, ⟨rfl, rfl, rfl, rfl, trivial⟩, vp6, hleF, (by first | (rw [hda, (decoA_id a).1]; rfl) | (rw [hda]; rfl)), (by first | rfl | (rw [hda, Bool.or_false]; rfl) | (rw [hda]; simp; done)), ?_⟩
         (exact o6))
      | (refine ⟨[(0, _), (4, _), (5, _), (6, _), (7, _), (8, _), (13, _), (14, _), (15, _)], [(612, _), (7, _), (629, _), (643, _)], ⟨rfl, rfl, rfl, rfl, rfl, rfl, rfl, rfl, rfl, trivial⟩, ⟨rfl, rfl, rfl, rfl, trivial⟩, .slice ad2 a.pairs.length cap2, (VLe.refl _), (by first | (rw [hda, (decoA_id a).1]; rfl) | (rw [hda]; rfl)), (by first | rfl | (rw [hda, Bool.or_false]; rfl) | (rw [hda]; simp; done)), ?_⟩
         (exact rfl))
   ·
    rintro ρ σ uc16 ⟨vp3, hlc16, rfl, rfl, o3⟩
    refine wc_cut (fun ρ σ uc19 => ∃ (kad2 : Option Addr) (kcap2 : Nat) (ck : List Value), VLe uc16 uc19 ∧ σ = [(612, (none, .rwv (.slice ado xs.length capo) 45 10 xs.length (acc ++ cs.drop (i * 10)))), (7, (none, .box [.int .i64 k, str t, str d, str ti, str a.id, .slice ad1 a.classes.length cap1, vp3, .slice ad3 args.length cap3, .slice ad4 cites.length cap4, vk])), (629, (none, .rwv vp3 49 2 (daI x a).1.pairs.length (pairsC (daI x a).1.pairs))), (643, (none, .rwv (.slice kad2 (kidsR x d kids).length kcap2) 45 10 (kidsR x d kids).length ck))] ∧ ρ = [(0, .v (.slice ad xs.length cap)), (4, .v (.slice ado xs.length capo)), (5, .v (.bool ((((fixI (xs.take i)).2 || (fixI kids).2) || (daI x a).2) || addI x d))), (6, .v (.int .i64 i)), (7, .p 7 0), (8, .v (.slice kad2 (kidsR x d kids).length kcap2)), (13, .v (.slice ad xs.length cap)), (14, .v (.int .i64 xs.length)), (15, .v (.int .i64 i))] ∧ (InlsC uc19 (kidsR x d kids) ck ∧ (kidsR x d kids).length ≤ kids.length + 1)) ?_ ?_
    ·
     refine wc_seq ?_
     refine wc_cutB 76 (addI x d) (ρk := [(0, _), (4, _), (5, _), (6, _), (7, _), (8, _), (13, _), (14, _), (15, _)]) ⟨rfl, rfl, rfl, rfl, rfl, rfl, rfl, rfl, rfl, trivial⟩ ?_ ?_
     ·
      refine wc_region ?_
      refine ym rfl rfl ?_
      refine ym rfl rfl ?_
      refine rl_y (y_index_e rfl Tryz.s37 rfl rfl (h1L.mono hlc16) (j := i) rfl hlt) rfl ?_
      refine rl_y (y_load_el rfl Tryz.k45 rfl (h1L.mono hlc16) hlt hcut1 (vs := [_, _, _, _, _, _, _, _, _, _]) rfl rfl rfl rfl) rfl ?_
      refine rl_do rfl rfl ?_
      refine do_call_f (caps := []) trivial rfl rfl Tryz.c54 rfl (FnP.mono (muteCb.2 uc16 x _ hsm1 (by omega) (hxL.mono hlc16)) ?_)
      rintro v u1 hle1 rfl
      refine ym rfl rfl ?_
      rcases Bool.eq_false_or_eq_true (mute x) with hg16_5 | hg16_5
      ·
       simp only [hg16_5]
       refine rl_on rfl rfl ?_
       refine rl_y (y_field_p rfl Tryz.f45' rfl (by decide) rfl) rfl ?_
       refine rl_on rfl rfl ?_
       refine rl_y (y_load_p rfl Tryz.k9 rfl rfl rfl (vs := [_]) rfl rfl rfl) rfl ?_
       refine rl_on rfl rfl ?_
       refine rl_do rfl rfl ?_
       refine do_call_f (caps := []) trivial rfl rfl Tryz.c40 rfl (FnP.mono (trim_fn d (by omega) uc16) ?_)
       rintro v u1 hle1 rfl
       refine rl_on rfl rfl ?_
       refine rl_y (y_str_neq rfl rfl rfl) rfl ?_
       refine rl_y (y_pick_t rfl rfl rfl) rfl ?_
       exact cutB_end rfl ⟨rfl, rfl, rfl, rfl, rfl, rfl, rfl, rfl, rfl, trivial⟩ (by
       unfold addI
       have hb := trim_nil d
       first
        | (rw [hg16_5]; cases hbd : blank d with
          | true => simp [hb.2 hbd]
          | false => simp [show ¬ trim d = [] from fun e => by rw [hb.1 e] at hbd; cases hbd])
        | (rw [hg16_5]; rfl))
      ·
       simp only [hg16_5]
       refine rl_off rfl rfl rfl rfl ?_
       refine rl_off rfl rfl rfl rfl ?_
       refine rl_off rfl rfl rfl rfl ?_
       refine rl_off rfl rfl rfl rfl ?_
       refine rl_y (y_pick_f rfl rfl rfl) rfl ?_
       exact cutB_end rfl ⟨rfl, rfl, rfl, rfl, rfl, rfl, rfl, rfl, rfl, trivial⟩ (by
       unfold addI
       have hb := trim_nil d
       first
        | (rw [hg16_5]; cases hbd : blank d with
          | true => simp [hb.2 hbd]
          | false => simp [show ¬ trim d = [] from fun e => by rw [hb.1 e] at hbd; cases hbd])
        | (rw [hg16_5]; rfl))
     refine q_then ?_
     refine wc_cond rfl (fun hb16 => ?_) (fun hb16 => ?_)
     ·
      have h16 : addI x d = true := hb16
      have hka : kidsR x d kids = (fixI kids).1 ++ [tI d] := if_pos h16
      have hkn : (kidsR x d kids).length = (fixI kids).1.length + 1 := by rw [hka]; simp
      refine wc_seq ?_
      refine wc_region ?_
      refine ym rfl rfl ?_
      refine rl_y (y_field_p rfl Tryz.f45' rfl (by decide) rfl) rfl ?_
      refine rl_y (y_load_p rfl Tryz.k9 rfl rfl rfl (vs := [_]) rfl rfl rfl) rfl ?_
      refine rl_y (y_build rfl Tryz.f45' Tryz.z45 (ps := [(_, _), (_, _)]) rfl (vs := [_, _, _, _, _, _, _, _, _, _]) rfl) rfl ?_
      refine rl_do rfl rfl ?_
      refine do_buildSlice trivial Tryz.s37 Tryz.z45 (ps := [(_, _)]) rfl (xs := [_, _, _, _, _, _, _, _, _, _]) rfl rfl rfl rfl rfl rfl rfl ?_
      refine rl_do rfl rfl ?_
      refine do_append_w_s 643 trivial rfl rfl Tryz.s37 Tryz.z45 rfl rfl rfl rfl rfl rfl (by simp [Value.oneCell', str]) (by omega) (by omega) rfl rfl ?_
      intro ad17 cap17
      refine ya rfl rfl ?_
      refine rl_end (ρ' := [(0, _), (4, _), (6, _), (7, _), (8, _), (13, _), (14, _), (15, _)]) ⟨rfl, rfl, rfl, rfl, rfl, rfl, rfl, rfl, trivial⟩ ?_
      refine q_then ?_
      refine wc_region ?_
      refine ya rfl rfl ?_
      refine rl_end (ρ' := [(0, _), (4, _), (5, _), (6, _), (7, _), (8, _), (13, _), (14, _), (15, _)]) ⟨rfl, rfl, rfl, rfl, rfl, rfl, rfl, rfl, rfl, trivial⟩ ?_
      refine q_thenK ?_
      first
       | (refine ⟨[(0, _), (4, _), (5, _), (6, _), (7, _), (8, _), (13, _), (14, _), (15, _)], [(612, _), (7, _), (629, _), (643, _)], ⟨rfl, rfl, rfl, rfl, rfl, rfl, rfl, rfl, rfl, trivial⟩, ⟨rfl, rfl, rfl, rfl, trivial⟩, ad17, cap17, _, (VLe.refl _), (by rw [hkn]; first | rfl | done), (by rw [hkn, h16]; first | rfl | (simp; done)), ?_⟩
          (refine ⟨?_, by omega⟩; rw [hka]; exact inlsC_snoc (w5.mono hlc16) (tI_cells _ d (by omega))))
       | (refine ⟨[(0, _), (4, _), (5, _), (6, _), (7, _), (8, _), (13, _), (14, _), (15, _)], [(612, _), (7, _), (629, _), (643, _)], ⟨rfl, rfl, rfl, rfl, rfl, rfl, rfl, rfl, rfl, trivial⟩, ⟨rfl, rfl, rfl, rfl, trivial⟩, ad5, cap5, c5, (VLe.refl _), (by rw [hkn]; first | rfl | done), (by rw [hkn, h16]; first | rfl | (simp; done)), ?_⟩
          (refine ⟨?_, by omega⟩; rw [hka]; exact w5.mono hlc16))
     ·
      have h16 : addI x d = false := by simpa using hb16
      have hka : kidsR x d kids = (fixI kids).1 := if_neg (by rw [h16]; simp)
      have hkn : (kidsR x d kids).length = (fixI kids).1.length := by rw [hka]
      refine wc_skip ?_
      refine q_thenK ?_
      first
       | (refine ⟨[(0, _), (4, _), (5, _), (6, _), (7, _), (8, _), (13, _), (14, _), (15, _)], [(612, _), (7, _), (629, _), (643, _)], ⟨rfl, rfl, rfl, rfl, rfl, rfl, rfl, rfl, rfl, trivial⟩, ⟨rfl, rfl, rfl, rfl, trivial⟩, ad17, cap17, _, (VLe.refl _), (by rw [hkn]; first | rfl | done), (by rw [hkn, h16]; first | rfl | (simp; done)), ?_⟩
          (refine ⟨?_, by omega⟩; rw [hka]; exact inlsC_snoc (w5.mono hlc16) (tI_cells _ d (by omega))))
       | (refine ⟨[(0, _), (4, _), (5, _), (6, _), (7, _), (8, _), (13, _), (14, _), (15, _)], [(612, _), (7, _), (629, _), (643, _)], ⟨rfl, rfl, rfl, rfl, rfl, rfl, rfl, rfl, rfl, trivial⟩, ⟨rfl, rfl, rfl, rfl, trivial⟩, ad5, cap5, c5, (VLe.refl _), (by rw [hkn]; first | rfl | done), (by rw [hkn, h16]; first | rfl | (simp; done)), ?_⟩
          (refine ⟨?_, by omega⟩; rw [hka]; exact w5.mono hlc16))
    ·
     rintro ρ σ uc19 ⟨kad2, kcap2, ck, hlc19, rfl, rfl, ⟨wk, wkl⟩⟩
     refine wc_seq ?_
     refine wc_region ?_
     refine rl_freezeW 643 rfl ?_
     intro uk hlek hslk
     refine rl_freezeW 629 rfl ?_
     intro up hlep hslp
     obtain ⟨ad8, cap8, e8, w8⟩ := hslk
     cases e8
     obtain ⟨ad9, cap9, rfl, w9⟩ := hslp
     refine ym rfl rfl ?_
     refine rl_y (y_field_p rfl Tryz.f45' rfl (by decide) rfl) rfl ?_
     refine rl_do rfl rfl ?_
     refine do_store_p trivial rfl Tryz.k37 rfl rfl rfl (vs := [_]) rfl rfl (by first | rfl | assumption | simp [Value.oneCell', str]) (Nat.le_of_ble_eq_true rfl) rfl ?_
     refine rl_end (ρ' := [(0, _), (4, _), (5, _), (6, _), (7, _), (13, _), (14, _), (15, _)]) ⟨rfl, rfl, rfl, rfl, rfl, rfl, rfl, rfl, trivial⟩ ?_
     refine q_then ?_
     refine wc_region ?_
     refine ym rfl rfl ?_
     refine ym rfl rfl ?_
     refine rl_y (y_load_p rfl Tryz.k45 rfl rfl rfl (vs := [_, _, _, _, _, _, _, _, _, _]) rfl rfl rfl) rfl ?_
     refine rl_y (y_index_w 612 rfl Tryz.s37 rfl rfl rfl (j := i) rfl hlt) rfl ?_
     refine rl_do rfl rfl ?_
     refine do_store_w trivial rfl Tryz.k45 rfl rfl rfl (vs := [_, _, _, _, _, _, _, _, _, _]) rfl rfl rfl (by rw [List.length_append, List.length_drop, hacl, hcl]; omega) (row_step hacl rfl hcl hlt) ?_
     refine rl_end (ρ' := [(0, _), (4, _), (5, _), (13, _), (14, _), (15, _)]) ⟨rfl, rfl, rfl, rfl, rfl, rfl, trivial⟩ ?_
     refine q_block ?_
     refine q_then ?_
     refine wc_region ?_
     refine rl_y (y_add rfl rfl rfl (wrap64_id (by omega))) rfl ?_
     refine ym rfl rfl ?_
     refine rl_end (ρ' := [(0, _), (4, _), (5, _), (13, _), (14, _), (15, _)]) ⟨rfl, rfl, rfl, rfl, rfl, rfl, trivial⟩ ?_
     refine q_thenK ?_
     refine ⟨m - 1, [(0, _), (4, _), (5, _), (13, _), (14, _), (15, _)], [(612, _)], by omega, ⟨rfl, rfl, rfl, rfl, rfl, rfl, trivial⟩, ⟨rfl, trivial⟩, i + 1, by omega, (hle4.trans (hleL.trans (hlc16.trans (hlc19.trans (hlek.trans hlep))))), _, rfl, (by rw [hft2]; first | rfl | (simp only [Bool.or_assoc]; rfl)), ?_⟩
     rw [hft1]
     have hlN := hlc16.trans (hlc19.trans (hlek.trans hlep))
     refine inlsC_snoc (hacc.mono (hleL.trans hlN)) ?_
     have hfin := InlC.mk' (u := up) (k := k) (t := t) (d := d) (ti := ti) (a := (daI x a).1) (args := args) (cites := cites) (kids := kidsR x d kids) (vc := .slice ad1 a.classes.length cap1)
      (by rw [da2]; exact ⟨_, _, rfl, w1.mono ((hleB.trans (hleC.trans (hleD.trans hleE))).trans hlN)⟩) ⟨_, _, rfl, w9⟩ ⟨_, _, rfl, w3.mono ((hleD.trans hleE).trans hlN)⟩ ⟨_, _, rfl, w4.mono (hleE.trans hlN)⟩
      (inlS_of rfl (w8.mono hlep) (wk.mono (hlek.trans hlep)))
      (by
       rw [← hxx] at hok
       unfold InlOk at hok ⊢
       exact ⟨hok.1, hok.2.1, hok.2.2.1, hok.2.2.2.1, hoka, hok.2.2.2.2.2.1, hok.2.2.2.2.2.2.1, by omega⟩)
     rw [da1] at hfin
     exact hfin
  ·
   have hge := of_decide_eq_false hb4
   refine wc_exit ?_
   refine q_then_exit ?_
   refine q_then_exit ?_
   refine q_block_hit ?_
   refine q_then ?_
   refine wc_seq ?_
   refine wc_region ?_
   refine ym rfl rfl ?_
   refine ym rfl rfl ?_
   refine ya rfl rfl ?_
   refine ya rfl rfl ?_
   refine rl_end (ρ' := [(2, _), (3, _)]) ⟨rfl, rfl, trivial⟩ ?_
   refine q_then ?_
   refine wc_ret ?_
   refine finO2 [612] (.tmp rfl) (.tmp rfl) rfl rfl ?_
   have hd : cs.drop (i * 10) = [] := List.drop_eq_nil_of_le (by omega)
   rw [List.take_of_length_le (by omega)] at hacc ⊢
   rw [hd, List.append_nil, fixI_len]
   exact ⟨ado, capo, acc, rfl, rfl, hacc⟩
theorem fixB_append : ∀ (xs ys : List Blk) (bf : Int), fixB bf (xs ++ ys) = ((fixB bf xs).1 ++ (fixB (fixB bf xs).2 ys).1, (fixB (fixB bf xs).2 ys).2)
 | [], ys, bf => by simp [fixB]
 | x :: xs, ys, bf => by
  rw [List.cons_append]
  simp only [fixB, fixB_append xs ys, List.cons_append]
theorem fixB_take {xs : List Blk} {i : Nat} {x : Blk} (h : xs[i]? = some x) (bf : Int) : (fixB bf (xs.take (i + 1))).1 = (fixB bf (xs.take i)).1 ++ [(fixb (fixB bf (xs.take i)).2 x).1] ∧ (fixB bf (xs.take (i + 1))).2 = (fixb (fixB bf (xs.take i)).2 x).2 := by
 obtain ⟨hlt, rfl⟩ := List.getElem?_eq_some_iff.1 h
 rw [List.take_succ_eq_append_getElem hlt, fixB_append]
 simp [fixB]
theorem fixB_len : ∀ (xs : List Blk) (bf : Int), (fixB bf xs).1.length = xs.length
 | [], bf => rfl
 | x :: xs, bf => by simp [fixB, fixB_len xs]
/- each line that is repaired is small -/
mutual
def rdB1 : Blk → Prop
 | .mk k _ _ _ _ _ _ line kids => (smI (ownR k line).1 ∧ szI (ownR k line).1 ≤ 1000) ∧ rdB kids
def rdB : List Blk → Prop
 | [] => True
 | x :: xs => rdB1 x ∧ rdB xs
end
theorem rdB_get : ∀ {xs : List Blk} {i : Nat} {x : Blk}, rdB xs → xs[i]? = some x → rdB1 x
 | [], i, x, _, h => by simp at h
 | y :: ys, 0, x, h, hi => by
  simp at hi; subst hi
  unfold rdB at h; exact h.1
 | y :: ys, i + 1, x, h, hi => by
  unfold rdB at h
  exact rdB_get h.2 (by simpa using hi)
theorem smI_left : ∀ {xs ys : List Inl}, smI (xs ++ ys) → smI xs
 | [], ys, _ => by unfold smI; trivial
 | x :: xs, ys, h => by
  rw [List.cons_append] at h
  unfold smI at h ⊢
  exact ⟨h.1, smI_left h.2⟩
theorem own_fix {k : Int} {line : List Inl} (h : smI (ownR k line).1 ∧ szI (ownR k line).1 ≤ 1000) : smI (fixI line).1 ∧ szI (fixI line).1 ≤ 1000 := by
 unfold ownR at h
 split at h
 ·
  have h2 : szI ((fixI line).1 ++ [tI untS]) = szI (fixI line).1 + szI [tI untS] := szI_append _ _
  exact ⟨smI_left h.1, by have := h.2; simp only at this; omega⟩
 ·
  exact h
theorem inlS_of' {u : View} {v : Value} {n : Nat} {xs : List Inl} {cs : List Value} (h : IsSl u v n 10 cs) (hc : InlsC u xs cs) : InlS u v xs := by
 obtain ⟨ad, cap, rfl, h⟩ := h
 have h1 := h.1
 have h2 := hc.len
 have e : n = xs.length := by omega
 exact inlS_of e h hc
theorem blkS_of' {u : View} {v : Value} {n : Nat} {xs : List Blk} {cs : List Value} (h : IsSl u v n 11 cs) (hc : BlksC u xs cs) : BlkS u v xs := by
 obtain ⟨ad, cap, rfl, h⟩ := h
 have h1 := h.1
 have h2 := hc.len
 have e : n = xs.length := by omega
 exact blkS_of e h hc
theorem fill_up (k v : Bs) (l : List (Bs × Bs)) : (fillM k v l).length ≤ l.length + 1 := by
 unfold fillM
 repeat' split
 ·
  omega
 ·
  rw [setP_len]; omega
 ·
  simp
 ·
  omega
set_option linter.unusedSimpArgs false
set_option linter.unusedVariables false
set_option maxRecDepth 4000
abbrev badA (a : DAttr) : Prop := 40 < a.classes.length ∨ 40 < a.pairs.length ∨ 600 < longN a
def argsW (l : List Bs) : Nat := (l.map fun s => s.length / 40).sum
def citesW (l : List DCite) : Nat := (l.map fun c => (c.key.length + c.pre.length + c.suf.length) / 40).sum
def wLoop (rec : List Inl → Int) (n : Int) : List Inl → Int
 | [] => n
 | .mk _ t d ti a args cites kids :: xs => if n < 1000 then (if 300 < t.length + d.length + ti.length ∨ badA a ∨ 9 < args.length ∨ 9 < cites.length then 1000 else wLoop rec (n + argsW args + citesW cites + rec kids) xs) else n
def wgt : Nat → List Inl → Int
 | 0, _ => 1000
 | f + 1, xs => if 200 < xs.length then 1000 else wLoop (wgt f) xs.length xs
theorem wgt_big {f : Nat} {xs : List Inl} (h : f = 0 ∨ 200 < xs.length) : wgt f xs = 1000 := by
 cases f with
 | zero => rfl
 | succ f => rw [wgt, if_pos (by omega)]
theorem wgt_go {f : Nat} {xs : List Inl} (h : 0 < f) (h2 : xs.length ≤ 200) : wgt f xs = wLoop (wgt (f - 1)) xs.length (xs.drop 0) := by
 cases f with
 | zero => omega
 | succ f => rw [wgt, if_neg (by omega)]; rfl
theorem wLoop_at {rec : List Inl → Int} {n : Int} {xs : List Inl} {i : Nat} {k : Int} {t d ti : Bs} {a : DAttr} {args : List Bs} {cites : List DCite} {kids : List Inl} (h : xs[i]? = some (.mk k t d ti a args cites kids)) (hn : n < 1000) :
  wLoop rec n (xs.drop i) = if 300 < t.length + d.length + ti.length ∨ badA a ∨ 9 < args.length ∨ 9 < cites.length then 1000 else wLoop rec (n + argsW args + citesW cites + rec kids) (xs.drop (i + 1)) := by
 obtain ⟨hlt, he⟩ := List.getElem?_eq_some_iff.1 h
 rw [List.drop_eq_getElem_cons hlt, he, wLoop, if_pos hn]
theorem wLoop_end {rec : List Inl → Int} {n : Int} {xs : List Inl} {i : Nat} (h : xs.length ≤ i ∨ ¬ n < 1000) : wLoop rec n (xs.drop i) = n := by
 rcases h with h | h
 ·
  rw [List.drop_eq_nil_of_le h, wLoop]
 ·
  cases hd : xs.drop i with
  | nil => rw [wLoop]
  | cons x r => cases x; rw [wLoop, if_neg h]
def hLoop (rec : List Blk → Int) (n : Int) : List Blk → Int
 | [] => n
 | .mk _ _ inf t d ti a line kids :: xs => if n < 1000 then (if 300 < inf.length + t.length + d.length + ti.length ∨ badA a then 1000 else hLoop rec (n + wgt 21 line + rec kids) xs) else n
def hvy : Nat → List Blk → Int
 | 0, _ => 1000
 | f + 1, xs => if 200 < xs.length then 1000 else hLoop (hvy f) xs.length xs
theorem hvy_big {f : Nat} {xs : List Blk} (h : f = 0 ∨ 200 < xs.length) : hvy f xs = 1000 := by
 cases f with
 | zero => rfl
 | succ f => rw [hvy, if_pos (by omega)]
theorem hvy_go {f : Nat} {xs : List Blk} (h : 0 < f) (h2 : xs.length ≤ 200) : hvy f xs = hLoop (hvy (f - 1)) xs.length (xs.drop 0) := by
 cases f with
 | zero => omega
 | succ f => rw [hvy, if_neg (by omega)]; rfl
theorem hLoop_at {rec : List Blk → Int} {n : Int} {xs : List Blk} {i : Nat} {k lv : Int} {inf t d ti : Bs} {a : DAttr} {line : List Inl} {kids : List Blk} (h : xs[i]? = some (.mk k lv inf t d ti a line kids)) (hn : n < 1000) :
  hLoop rec n (xs.drop i) = if 300 < inf.length + t.length + d.length + ti.length ∨ badA a then 1000 else hLoop rec (n + wgt 21 line + rec kids) (xs.drop (i + 1)) := by
 obtain ⟨hlt, he⟩ := List.getElem?_eq_some_iff.1 h
 rw [List.drop_eq_getElem_cons hlt, he, hLoop, if_pos hn]
theorem hLoop_end {rec : List Blk → Int} {n : Int} {xs : List Blk} {i : Nat} (h : xs.length ≤ i ∨ ¬ n < 1000) : hLoop rec n (xs.drop i) = n := by
 rcases h with h | h
 ·
  rw [List.drop_eq_nil_of_le h, hLoop]
 ·
  cases hd : xs.drop i with
  | nil => rw [hLoop]
  | cons x r => cases x; rw [hLoop, if_neg h]
def smallB (d : DDoc) : Bool := decide (d.mts.length ≤ 70 ∧ (∀ p ∈ d.mts, p.1.length + p.2.length ≤ 300) ∧ hvy 21 d.blocks ≤ 120)
theorem weightX_fn (fuel : Nat) : fuel ≤ 21 → ∀ (dp : Int) (v : Value) (xs : List Inl) (u : View), dp = 21 - fuel → xs.length ≤ 140737488351232 → InlS u v xs →
  FnP Tryz.prog 34 [v, .int .i64 dp] u fun r _ => ∃ n : Int, r = .int .i64 n ∧ n = wgt fuel xs ∧ 0 ≤ n ∧ n ≤ 1000 + fuel * 200000000000000 := by
 induction fuel using Nat.strongRecOn with
 | _ fuel ih =>
 intro hf dp v xs u hdp hx ha
 obtain ⟨cs, ⟨ad, cap, rfl, h1⟩, hc1⟩ := ha
 refine FnP.intro [.tmp 4] Tryz.func34 rfl rfl rfl ?_
 intro w0 D hw0
 refine wc_seq ?_
 refine wc_region ?_
 refine ya rfl rfl ?_
 refine rl_end (ρ' := [(0, _), (1, _)]) ⟨rfl, rfl, trivial⟩ ?_
 refine q_then ?_
 refine wc_seq ?_
 refine wc_region ?_
 refine ym rfl rfl ?_
 refine rl_y (y_len_v rfl rfl Tryz.s37 rfl) rfl ?_
 refine ya rfl rfl ?_
 refine rl_end (ρ' := [(0, _), (1, _), (5, _)]) ⟨rfl, rfl, rfl, trivial⟩ ?_
 refine q_then ?_
 refine wc_seq ?_
 refine wc_seq ?_
 refine wc_cutB 18 (decide (20 < dp ∨ 200 < xs.length)) (ρk := [(0, _), (1, _), (5, _)]) ⟨rfl, rfl, rfl, trivial⟩ ?_ ?_
 ·
  refine wc_region ?_
  refine ym rfl rfl ?_
  refine rl_y (y_gtr rfl rfl rfl) rfl ?_
  refine ym rfl rfl ?_
  rcases Bool.eq_false_or_eq_true (decide ((20 : Int) < dp)) with hg2_2 | hg2_2
  ·
   simp only [hg2_2]
   refine rl_off rfl rfl rfl rfl ?_
   refine rl_off rfl rfl rfl rfl ?_
   refine rl_y (y_pick_t rfl rfl rfl) rfl ?_
   exact cutB_end rfl ⟨rfl, rfl, rfl, trivial⟩ (by (first | refine (decide_eq_true ?_).symm | refine (decide_eq_false ?_).symm | refine decide_eq_decide.2 ?_ | refine decide_eq_true ?_ | refine decide_eq_false ?_) <;> (try unfold longN) <;> (try simp only [decide_eq_true_eq, decide_eq_false_iff_not] at *) <;> omega)
  ·
   simp only [hg2_2]
   refine rl_on rfl rfl ?_
   refine ym rfl rfl ?_
   refine rl_on rfl rfl ?_
   refine rl_y (y_gtr rfl rfl rfl) rfl ?_
   refine rl_y (y_pick_f rfl rfl rfl) rfl ?_
   exact cutB_end rfl ⟨rfl, rfl, rfl, trivial⟩ (by (first | refine (decide_eq_true ?_).symm | refine (decide_eq_false ?_).symm | refine decide_eq_decide.2 ?_ | refine decide_eq_true ?_ | refine decide_eq_false ?_) <;> (try unfold longN) <;> (try simp only [decide_eq_true_eq, decide_eq_false_iff_not] at *) <;> omega)
 refine q_then ?_
 refine wc_cond rfl (fun hb2 => ?_) (fun hb2 => ?_)
 ·
  refine wc_seq ?_
  refine wc_region ?_
  refine ya rfl rfl ?_
  refine rl_end (ρ' := [(4, _)]) ⟨rfl, trivial⟩ ?_
  refine q_then ?_
  refine wc_ret ?_
  refine q_then_ret ?_
  refine fin1 (.tmp rfl) ?_
  exact ⟨1000, rfl, (wgt_big (by have := of_decide_eq_true hb2; omega)).symm, by omega, by omega⟩
 ·
  refine wc_skip ?_
  refine q_then ?_
  refine wc_seq ?_
  refine wc_seq ?_
  refine wc_region ?_
  refine ya rfl rfl ?_
  refine rl_end (ρ' := [(0, _), (1, _), (5, _), (6, _)]) ⟨rfl, rfl, rfl, rfl, trivial⟩ ?_
  refine q_then ?_
  refine wc_block ?_
  refine wc_loop (fun m ρ σ u' => ∃ i : Nat, i + m = xs.length ∧ VLe u u' ∧ ∃ (n : Int), σ = [] ∧ ρ = [(0, .v (.slice ad xs.length cap)), (1, .v (.int .i64 dp)), (5, .v (.int .i64 n)), (6, .v (.int .i64 i))] ∧ (u = u' ∧ 0 ≤ n ∧ n ≤ 1000 + fuel * 200000000000000 ∧ wgt fuel xs = wLoop (wgt (fuel - 1)) n (xs.drop i))) (xs.length) ?_ ?_
  ·
   refine ⟨[(0, _), (1, _), (5, _), (6, _)], [], ⟨rfl, rfl, rfl, rfl, trivial⟩, trivial, 0, by omega, VLe.refl _, _, (by first | rfl | simp), (by first | rfl | (simp only [List.cons.injEq, Prod.mk.injEq, SV.v.injEq, Value.int.injEq, true_and, and_true]; omega) | simp), ?_⟩
   have := of_decide_eq_false hb2; exact ⟨rfl, by omega, by omega, wgt_go (by omega) (by omega)⟩
  ·
   rintro m ρ σ u' ⟨i, hi5, hle5, n, rfl, rfl, ⟨rfl, hn0, hnb, hinv⟩⟩
   refine wc_seq ?_
   refine wc_seq ?_
   refine wc_cutB 26 (decide (i < xs.length ∧ n < 1000)) (ρk := [(0, _), (1, _), (5, _), (6, _)]) ⟨rfl, rfl, rfl, rfl, trivial⟩ ?_ ?_
   ·
    refine wc_region ?_
    refine ym rfl rfl ?_
    refine ym rfl rfl ?_
    refine rl_y (y_len_v rfl rfl Tryz.s37 rfl) rfl ?_
    refine rl_y (y_lss rfl rfl rfl) rfl ?_
    refine ym rfl rfl ?_
    rcases Bool.eq_false_or_eq_true (decide ((i : Int) < xs.length)) with hg5_4 | hg5_4
    ·
     simp only [hg5_4]
     refine rl_on rfl rfl ?_
     refine ym rfl rfl ?_
     refine rl_on rfl rfl ?_
     refine rl_y (y_lss rfl rfl rfl) rfl ?_
     refine rl_y (y_pick_t rfl rfl rfl) rfl ?_
     exact cutB_end rfl ⟨rfl, rfl, rfl, rfl, trivial⟩ (by (first | refine (decide_eq_true ?_).symm | refine (decide_eq_false ?_).symm | refine decide_eq_decide.2 ?_ | refine decide_eq_true ?_ | refine decide_eq_false ?_) <;> (try unfold longN) <;> (try simp only [decide_eq_true_eq, decide_eq_false_iff_not] at *) <;> omega)
    ·
     simp only [hg5_4]
     refine rl_off rfl rfl rfl rfl ?_
     refine rl_off rfl rfl rfl rfl ?_
     refine rl_y (y_pick_f rfl rfl rfl) rfl ?_
     exact cutB_end rfl ⟨rfl, rfl, rfl, rfl, trivial⟩ (by (first | refine (decide_eq_true ?_).symm | refine (decide_eq_false ?_).symm | refine decide_eq_decide.2 ?_ | refine decide_eq_true ?_ | refine decide_eq_false ?_) <;> (try unfold longN) <;> (try simp only [decide_eq_true_eq, decide_eq_false_iff_not] at *) <;> omega)
   refine q_then ?_
   refine wc_cond rfl (fun hb5 => ?_) (fun hb5 => ?_)
   ·
    refine wc_skip ?_
    refine q_then ?_
    refine wc_seq ?_
    refine wc_block ?_
    refine wc_seq ?_
    have hb := of_decide_eq_true hb5
    have hb2 := of_decide_eq_false hb2
    have hlt : i < xs.length := hb.1
    obtain ⟨k, t, d, ti, a, args, cites, kids, vc, vp, va, vt, vk, hg, hcut1, s1, s2, s3, s4, s5, hok⟩ := hc1.at hlt
    have oneAll := (hc1.get i _ hg).one
    rw [hcut1] at oneAll
    obtain ⟨okk0, okt, okd, okti, oka, ⟨okargs, okargs2⟩, ⟨okcites, okcites2⟩, okk⟩ := hok
    obtain ⟨adt, capt, rfl, h4⟩ := s4
    obtain ⟨ada, capa, rfl, h3⟩ := s3
    have hln : xs.length ≤ 200 := by omega
    have hW := wLoop_at (rec := wgt (fuel - 1)) hg hb.2
    rw [← hinv] at hW
    refine wc_region ?_
    refine ym rfl rfl ?_
    refine ym rfl rfl ?_
    refine rl_y (y_index_e rfl Tryz.s37 rfl rfl (by assumption) (by first | rfl | omega) (by omega)) rfl ?_
    refine rl_y (y_load_el rfl Tryz.k45 rfl (by assumption) (by omega) (by assumption) (vs := [_, _, _, _, _, _, _, _, _, _]) rfl rfl rfl rfl) rfl ?_
    refine rl_do rfl rfl ?_
    refine do_alloc trivial Tryz.z45 rfl rfl rfl ?_
    refine rl_do rfl rfl ?_
    refine do_store_p trivial rfl Tryz.k45 rfl rfl rfl (vs := [_, _, _, _, _, _, _, _, _, _]) rfl rfl (by first | rfl | assumption | simp [Value.oneCell', str]) (Nat.le_of_ble_eq_true rfl) rfl ?_
    refine rl_end (ρ' := [(0, _), (1, _), (5, _), (6, _), (7, _)]) ⟨rfl, rfl, rfl, rfl, rfl, trivial⟩ ?_
    refine q_then ?_
    refine wc_seq ?_
    refine wc_seq ?_
    refine wc_cutB 61 (decide (300 < t.length + d.length + ti.length ∨ (40 < a.classes.length ∨ 40 < a.pairs.length ∨ 600 < longN a) ∨ 9 < args.length ∨ 9 < cites.length)) (ρk := [(0, _), (1, _), (5, _), (6, _), (7, _)]) ⟨rfl, rfl, rfl, rfl, rfl, trivial⟩ ?_ ?_
    ·
     refine wc_region ?_
     refine rl_y (y_field_p rfl Tryz.f45' rfl (by decide) rfl) rfl ?_
     refine rl_y (y_load_p rfl Tryz.k9 rfl rfl rfl (vs := [_]) rfl rfl rfl) rfl ?_
     refine rl_y (y_len_str rfl rfl Tryz.str9 rfl) rfl ?_
     refine rl_y (y_field_p rfl Tryz.f45' rfl (by decide) rfl) rfl ?_
     refine rl_y (y_load_p rfl Tryz.k9 rfl rfl rfl (vs := [_]) rfl rfl rfl) rfl ?_
     refine rl_y (y_len_str rfl rfl Tryz.str9 rfl) rfl ?_
     refine rl_y (y_add rfl rfl rfl (wrap64_id (by omega))) rfl ?_
     refine rl_y (y_field_p rfl Tryz.f45' rfl (by decide) rfl) rfl ?_
     refine rl_y (y_load_p rfl Tryz.k9 rfl rfl rfl (vs := [_]) rfl rfl rfl) rfl ?_
     refine rl_y (y_len_str rfl rfl Tryz.str9 rfl) rfl ?_
     refine rl_y (y_add rfl rfl rfl (wrap64_id (by omega))) rfl ?_
     refine rl_y (y_gtr rfl rfl rfl) rfl ?_
     refine ym rfl rfl ?_
     rcases Bool.eq_false_or_eq_true (decide ((300 : Int) < (t.length : Int) + d.length + ti.length)) with hg8_12 | hg8_12
     ·
      simp only [hg8_12]
      refine rl_off rfl rfl rfl rfl ?_
      refine rl_off rfl rfl rfl rfl ?_
      refine rl_off rfl rfl rfl rfl ?_
      refine rl_y (y_pick_t rfl rfl rfl) rfl ?_
      refine ym rfl rfl ?_
      refine rl_off rfl rfl rfl rfl ?_
      refine rl_off rfl rfl rfl rfl ?_
      refine rl_off rfl rfl rfl rfl ?_
      refine rl_off rfl rfl rfl rfl ?_
      refine rl_y (y_pick_t rfl rfl rfl) rfl ?_
      refine ym rfl rfl ?_
      refine rl_off rfl rfl rfl rfl ?_
      refine rl_off rfl rfl rfl rfl ?_
      refine rl_off rfl rfl rfl rfl ?_
      refine rl_off rfl rfl rfl rfl ?_
      refine rl_y (y_pick_t rfl rfl rfl) rfl ?_
      exact cutB_end rfl ⟨rfl, rfl, rfl, rfl, rfl, trivial⟩ (by (first | refine (decide_eq_true ?_).symm | refine (decide_eq_false ?_).symm | refine decide_eq_decide.2 ?_ | refine decide_eq_true ?_ | refine decide_eq_false ?_) <;> (try unfold NodeSm) <;> (try simp only [decide_eq_true_eq, decide_eq_false_iff_not] at *) <;> omega)
     ·
      simp only [hg8_12]
      refine rl_on rfl rfl ?_
      refine rl_y (y_field_p rfl Tryz.f45' rfl (by decide) rfl) rfl ?_
      refine rl_on rfl rfl ?_
      refine rl_y (y_load_p rfl Tryz.k36 rfl rfl rfl (vs := [_, _, _]) rfl rfl rfl) rfl ?_
      refine rl_on rfl rfl ?_
      refine rl_do rfl rfl ?_
      refine do_call_f (caps := []) trivial rfl rfl Tryz.c33 rfl (FnP.mono (long_fn a _ _ u oka s1 s2) ?_)
      rintro v u1 hle1 rfl
      refine rl_y (y_pick_f rfl rfl rfl) rfl ?_
      refine ym rfl rfl ?_
      rcases Bool.eq_false_or_eq_true (decide (40 < a.classes.length ∨ 40 < a.pairs.length ∨ 600 < longN a)) with hg8_17 | hg8_17
      ·
       simp only [hg8_17]
       refine rl_off rfl rfl rfl rfl ?_
       refine rl_off rfl rfl rfl rfl ?_
       refine rl_off rfl rfl rfl rfl ?_
       refine rl_off rfl rfl rfl rfl ?_
       refine rl_y (y_pick_t rfl rfl rfl) rfl ?_
       refine ym rfl rfl ?_
       refine rl_off rfl rfl rfl rfl ?_
       refine rl_off rfl rfl rfl rfl ?_
       refine rl_off rfl rfl rfl rfl ?_
       refine rl_off rfl rfl rfl rfl ?_
       refine rl_y (y_pick_t rfl rfl rfl) rfl ?_
       exact cutB_end rfl ⟨rfl, rfl, rfl, rfl, rfl, trivial⟩ (by (first | refine (decide_eq_true ?_).symm | refine (decide_eq_false ?_).symm | refine decide_eq_decide.2 ?_ | refine decide_eq_true ?_ | refine decide_eq_false ?_) <;> (try unfold NodeSm) <;> (try simp only [decide_eq_true_eq, decide_eq_false_iff_not] at *) <;> omega)
      ·
       simp only [hg8_17]
       refine rl_on rfl rfl ?_
       refine rl_y (y_field_p rfl Tryz.f45' rfl (by decide) rfl) rfl ?_
       refine rl_on rfl rfl ?_
       refine rl_y (y_load_p rfl Tryz.k34 rfl rfl rfl (vs := [_]) rfl rfl rfl) rfl ?_
       refine rl_on rfl rfl ?_
       refine rl_y (y_len_v rfl rfl Tryz.s34 rfl) rfl ?_
       refine rl_on rfl rfl ?_
       refine rl_y (y_gtr rfl rfl rfl) rfl ?_
       refine rl_y (y_pick_f rfl rfl rfl) rfl ?_
       refine ym rfl rfl ?_
       rcases Bool.eq_false_or_eq_true (decide ((9 : Int) < args.length)) with hg8_23 | hg8_23
       ·
        simp only [hg8_23]
        refine rl_off rfl rfl rfl rfl ?_
        refine rl_off rfl rfl rfl rfl ?_
        refine rl_off rfl rfl rfl rfl ?_
        refine rl_off rfl rfl rfl rfl ?_
        refine rl_y (y_pick_t rfl rfl rfl) rfl ?_
        exact cutB_end rfl ⟨rfl, rfl, rfl, rfl, rfl, trivial⟩ (by (first | refine (decide_eq_true ?_).symm | refine (decide_eq_false ?_).symm | refine decide_eq_decide.2 ?_ | refine decide_eq_true ?_ | refine decide_eq_false ?_) <;> (try unfold NodeSm) <;> (try simp only [decide_eq_true_eq, decide_eq_false_iff_not] at *) <;> omega)
       ·
        simp only [hg8_23]
        refine rl_on rfl rfl ?_
        refine rl_y (y_field_p rfl Tryz.f45' rfl (by decide) rfl) rfl ?_
        refine rl_on rfl rfl ?_
        refine rl_y (y_load_p rfl Tryz.k43 rfl rfl rfl (vs := [_]) rfl rfl rfl) rfl ?_
        refine rl_on rfl rfl ?_
        refine rl_y (y_len_v rfl rfl Tryz.s43 rfl) rfl ?_
        refine rl_on rfl rfl ?_
        refine rl_y (y_gtr rfl rfl rfl) rfl ?_
        refine rl_y (y_pick_f rfl rfl rfl) rfl ?_
        exact cutB_end rfl ⟨rfl, rfl, rfl, rfl, rfl, trivial⟩ (by (first | refine (decide_eq_true ?_).symm | refine (decide_eq_false ?_).symm | refine decide_eq_decide.2 ?_ | refine decide_eq_true ?_ | refine decide_eq_false ?_) <;> (try unfold NodeSm) <;> (try simp only [decide_eq_true_eq, decide_eq_false_iff_not] at *) <;> omega)
    refine q_then ?_
    refine wc_cond rfl (fun hb8 => ?_) (fun hb8 => ?_)
    ·
     refine wc_seq ?_
     refine wc_region ?_
     refine ya rfl rfl ?_
     refine rl_end (ρ' := [(4, _)]) ⟨rfl, trivial⟩ ?_
     refine q_then ?_
     refine wc_ret ?_
     refine q_then_ret ?_
     refine q_block_ret ?_
     refine q_then_ret ?_
     refine q_then_ret ?_
     refine q_block_ret ?_
     refine q_then_ret ?_
     refine fin1 (.tmp rfl) ?_
     exact ⟨1000, rfl, by rw [hW, if_pos (of_decide_eq_true hb8)], by omega, by omega⟩
    ·
     refine wc_skip ?_
     refine q_then ?_
     refine wc_seq ?_
     refine wc_seq ?_
     refine wc_region ?_
     refine ya rfl rfl ?_
     refine rl_end (ρ' := [(0, _), (1, _), (5, _), (6, _), (7, _), (8, _)]) ⟨rfl, rfl, rfl, rfl, rfl, rfl, trivial⟩ ?_
     refine q_then ?_
     refine wc_block ?_
     refine wc_loop (fun m ρ σ u' => ∃ j : Nat, j + m = args.length ∧ VLe u u' ∧ ∃ (n2 : Int), σ = [(7, (none, .box (inlV k t d ti a.id vc vp (.slice ada args.length capa) (.slice adt cites.length capt) vk)))] ∧ ρ = [(0, .v (.slice ad xs.length cap)), (1, .v (.int .i64 dp)), (5, .v (.int .i64 n2)), (6, .v (.int .i64 i)), (7, .p 7 0), (8, .v (.int .i64 j))] ∧ (u = u' ∧ n ≤ n2 ∧ n2 ≤ n + j * 3518437208781 ∧ n2 = n + (argsW (args.take j) : Nat))) (args.length) ?_ ?_
     ·
      refine ⟨[(0, _), (1, _), (5, _), (6, _), (7, _), (8, _)], [(7, _)], ⟨rfl, rfl, rfl, rfl, rfl, rfl, trivial⟩, ⟨rfl, trivial⟩, 0, by omega, VLe.refl _, n, (by first | rfl | simp), (by first | rfl | (simp only [List.cons.injEq, Prod.mk.injEq, SV.v.injEq, Value.int.injEq, true_and, and_true]; omega) | simp), ?_⟩
      exact ⟨rfl, by omega, by omega, by simp [argsW]⟩
     ·
      rintro mj ρ σ u' ⟨j, hi11, hle11, n2, rfl, rfl, ⟨rfl, hn1, hn2, hq2⟩⟩
      refine wc_seq ?_
      refine wc_seq ?_
      refine wc_region ?_
      refine ym rfl rfl ?_
      refine rl_y (y_field_p rfl Tryz.f45' rfl (by decide) rfl) rfl ?_
      refine rl_y (y_load_p rfl Tryz.k34 rfl rfl rfl (vs := [_]) rfl rfl rfl) rfl ?_
      refine rl_y (y_len_v rfl rfl Tryz.s34 rfl) rfl ?_
      refine rl_y (y_lss rfl rfl rfl) rfl ?_
      refine rl_end (ρ' := [(0, _), (1, _), (5, _), (6, _), (7, _), (8, _), (66, _)]) ⟨rfl, rfl, rfl, rfl, rfl, rfl, rfl, trivial⟩ ?_
      refine q_then ?_
      refine wc_cond rfl (fun hb11 => ?_) (fun hb11 => ?_)
      ·
       refine wc_skip ?_
       refine q_then ?_
       refine wc_seq ?_
       refine wc_block ?_
       have hlt2 : j < args.length := by have := of_decide_eq_true hb11; omega
       have hga := List.getElem?_eq_getElem hlt2
       have hcc := cut_strsC hga
       have hsl := okargs2 _ (List.mem_of_getElem? hga)
       have hat : argsW (args.take (j + 1)) = argsW (args.take j) + (args[j]).length / 40 := sum_take _ hga
       have h8 := of_decide_eq_false hb8
       refine wc_region ?_
       refine ym rfl rfl ?_
       refine rl_y (y_field_p rfl Tryz.f45' rfl (by decide) rfl) rfl ?_
       refine rl_y (y_load_p rfl Tryz.k34 rfl rfl rfl (vs := [_]) rfl rfl rfl) rfl ?_
       refine ym rfl rfl ?_
       refine rl_y (y_index_e rfl Tryz.s34 rfl rfl (by assumption) (by first | rfl | omega) (by omega)) rfl ?_
       refine rl_y (y_load_el rfl Tryz.k9 rfl (by assumption) (by omega) (by assumption) (vs := [_]) rfl rfl rfl rfl) rfl ?_
       refine rl_y (y_len_str rfl rfl Tryz.str9 rfl) rfl ?_
       refine rl_y (y_quoE rfl rfl rfl (by omega) (by omega) (by omega)) rfl ?_
       refine rl_y (y_add rfl rfl rfl (wrap64_id (by omega))) rfl ?_
       refine ya rfl rfl ?_
       refine rl_end (ρ' := [(0, _), (1, _), (5, _), (6, _), (7, _), (8, _)]) ⟨rfl, rfl, rfl, rfl, rfl, rfl, trivial⟩ ?_
       refine q_block ?_
       refine q_then ?_
       refine wc_region ?_
       refine ym rfl rfl ?_
       refine rl_y (y_add rfl rfl rfl (wrap64_id (by omega))) rfl ?_
       refine ya rfl rfl ?_
       refine rl_end (ρ' := [(0, _), (1, _), (5, _), (6, _), (7, _), (8, _)]) ⟨rfl, rfl, rfl, rfl, rfl, rfl, trivial⟩ ?_
       refine q_thenK ?_
       refine ⟨mj - 1, [(0, _), (1, _), (5, _), (6, _), (7, _), (8, _)], [(7, _)], by omega, ⟨rfl, rfl, rfl, rfl, rfl, rfl, trivial⟩, ⟨rfl, trivial⟩, j + 1, by omega, hle11, _, (by first | rfl | simp), (by first | rfl | (simp only [List.cons.injEq, Prod.mk.injEq, SV.v.injEq, Value.int.injEq, true_and, and_true]; omega) | simp), ?_⟩
       exact ⟨rfl, by omega, by omega, by rw [hat]; omega⟩
      ·
       refine wc_exit ?_
       refine q_then_exit ?_
       refine q_then_exit ?_
       refine q_block_hit ?_
       refine q_then ?_
       refine wc_seq ?_
       refine wc_seq ?_
       refine wc_region ?_
       refine ya rfl rfl ?_
       refine rl_end (ρ' := [(0, _), (1, _), (5, _), (6, _), (7, _), (9, _)]) ⟨rfl, rfl, rfl, rfl, rfl, rfl, trivial⟩ ?_
       refine q_then ?_
       refine wc_block ?_
       refine wc_loop (fun m ρ σ u' => ∃ j : Nat, j + m = cites.length ∧ VLe u u' ∧ ∃ (n3 : Int), σ = [(7, (none, .box (inlV k t d ti a.id vc vp (.slice ada args.length capa) (.slice adt cites.length capt) vk)))] ∧ ρ = [(0, .v (.slice ad xs.length cap)), (1, .v (.int .i64 dp)), (5, .v (.int .i64 n3)), (6, .v (.int .i64 i)), (7, .p 7 0), (9, .v (.int .i64 j))] ∧ (u = u' ∧ n2 ≤ n3 ∧ n3 ≤ n2 + j * 10555311626345 ∧ n3 = n2 + (citesW (cites.take j) : Nat))) (cites.length) ?_ ?_
       ·
        refine ⟨[(0, _), (1, _), (5, _), (6, _), (7, _), (9, _)], [(7, _)], ⟨rfl, rfl, rfl, rfl, rfl, rfl, trivial⟩, ⟨rfl, trivial⟩, 0, by omega, VLe.refl _, n2, (by first | rfl | simp), (by first | rfl | (simp only [List.cons.injEq, Prod.mk.injEq, SV.v.injEq, Value.int.injEq, true_and, and_true]; omega) | simp), ?_⟩
        exact ⟨rfl, by omega, by omega, by simp [citesW]⟩
       ·
        rintro mj ρ σ u' ⟨j, hi15, hle15, n3, rfl, rfl, ⟨rfl, hn3, hn4, hq3⟩⟩
        refine wc_seq ?_
        refine wc_seq ?_
        refine wc_region ?_
        refine ym rfl rfl ?_
        refine rl_y (y_field_p rfl Tryz.f45' rfl (by decide) rfl) rfl ?_
        refine rl_y (y_load_p rfl Tryz.k43 rfl rfl rfl (vs := [_]) rfl rfl rfl) rfl ?_
        refine rl_y (y_len_v rfl rfl Tryz.s43 rfl) rfl ?_
        refine rl_y (y_lss rfl rfl rfl) rfl ?_
        refine rl_end (ρ' := [(0, _), (1, _), (5, _), (6, _), (7, _), (9, _), (82, _)]) ⟨rfl, rfl, rfl, rfl, rfl, rfl, rfl, trivial⟩ ?_
        refine q_then ?_
        refine wc_cond rfl (fun hb15 => ?_) (fun hb15 => ?_)
        ·
         refine wc_skip ?_
         refine q_then ?_
         refine wc_seq ?_
         refine wc_block ?_
         refine wc_seq ?_
         have hlt3 : j < cites.length := by have := of_decide_eq_true hb15; omega
         have hgc := List.getElem?_eq_getElem hlt3
         have hcc := cut_citesC hgc
         have hsl := okcites2 _ (List.mem_of_getElem? hgc)
         have hct : citesW (cites.take (j + 1)) = citesW (cites.take j) + ((cites[j]).key.length + (cites[j]).pre.length + (cites[j]).suf.length) / 40 := sum_take _ hgc
         have h8 := of_decide_eq_false hb8
         have h11 := of_decide_eq_false hb11
         refine wc_region ?_
         refine rl_y (y_field_p rfl Tryz.f45' rfl (by decide) rfl) rfl ?_
         refine rl_y (y_load_p rfl Tryz.k43 rfl rfl rfl (vs := [_]) rfl rfl rfl) rfl ?_
         refine ym rfl rfl ?_
         refine rl_y (y_index_e rfl Tryz.s43 rfl rfl (by assumption) (by first | rfl | omega) (by omega)) rfl ?_
         refine rl_y (y_load_el rfl Tryz.k105 rfl (by assumption) (by omega) (by assumption) (vs := [_, _, _, _]) rfl rfl rfl rfl) rfl ?_
         refine rl_do rfl rfl ?_
         refine do_alloc trivial Tryz.z105 rfl rfl rfl ?_
         refine rl_do rfl rfl ?_
         refine do_store_p trivial rfl Tryz.k105 rfl rfl rfl (vs := [_, _, _, _]) rfl rfl (by first | rfl | assumption | simp [Value.oneCell', str]) (Nat.le_of_ble_eq_true rfl) rfl ?_
         refine rl_end (ρ' := [(0, _), (1, _), (5, _), (6, _), (7, _), (9, _), (10, _)]) ⟨rfl, rfl, rfl, rfl, rfl, rfl, rfl, trivial⟩ ?_
         refine q_then ?_
         refine wc_region ?_
         refine ym rfl rfl ?_
         refine rl_y (y_field_p rfl Tryz.f105' rfl (by decide) rfl) rfl ?_
         refine rl_y (y_load_p rfl Tryz.k9 rfl rfl rfl (vs := [_]) rfl rfl rfl) rfl ?_
         refine rl_y (y_len_str rfl rfl Tryz.str9 rfl) rfl ?_
         refine rl_y (y_field_p rfl Tryz.f105' rfl (by decide) rfl) rfl ?_
         refine rl_y (y_load_p rfl Tryz.k9 rfl rfl rfl (vs := [_]) rfl rfl rfl) rfl ?_
         refine rl_y (y_len_str rfl rfl Tryz.str9 rfl) rfl ?_
         refine rl_y (y_add rfl rfl rfl (wrap64_id (by omega))) rfl ?_
         refine rl_y (y_field_p rfl Tryz.f105' rfl (by decide) rfl) rfl ?_
         refine rl_y (y_load_p rfl Tryz.k9 rfl rfl rfl (vs := [_]) rfl rfl rfl) rfl ?_
         refine rl_y (y_len_str rfl rfl Tryz.str9 rfl) rfl ?_
         refine rl_y (y_add rfl rfl rfl (wrap64_id (by omega))) rfl ?_
         refine rl_y (y_quoE rfl rfl rfl (by omega) (by omega) (by omega)) rfl ?_
         refine rl_y (y_add rfl rfl rfl (wrap64_id (by omega))) rfl ?_
         refine ya rfl rfl ?_
         refine rl_end (ρ' := [(0, _), (1, _), (5, _), (6, _), (7, _), (9, _)]) ⟨rfl, rfl, rfl, rfl, rfl, rfl, trivial⟩ ?_
         refine q_block ?_
         refine q_then ?_
         refine wc_region ?_
         refine ym rfl rfl ?_
         refine rl_y (y_add rfl rfl rfl (wrap64_id (by omega))) rfl ?_
         refine ya rfl rfl ?_
         refine rl_end (ρ' := [(0, _), (1, _), (5, _), (6, _), (7, _), (9, _)]) ⟨rfl, rfl, rfl, rfl, rfl, rfl, trivial⟩ ?_
         refine q_thenK ?_
         refine ⟨mj - 1, [(0, _), (1, _), (5, _), (6, _), (7, _), (9, _)], [(7, _)], by omega, ⟨rfl, rfl, rfl, rfl, rfl, rfl, trivial⟩, ⟨rfl, trivial⟩, j + 1, by omega, hle15, _, (by first | rfl | simp), (by first | rfl | (simp only [List.cons.injEq, Prod.mk.injEq, SV.v.injEq, Value.int.injEq, true_and, and_true]; omega) | simp), ?_⟩
         exact ⟨rfl, by omega, by omega, by rw [hct]; omega⟩
        ·
         refine wc_exit ?_
         refine q_then_exit ?_
         refine q_then_exit ?_
         refine q_block_hit ?_
         refine q_then ?_
         have h8 := of_decide_eq_false hb8
         have h11 := of_decide_eq_false hb11
         have h15 := of_decide_eq_false hb15
         rw [List.take_of_length_le (by omega)] at hq2 hq3
         refine wc_region ?_
         refine ym rfl rfl ?_
         refine rl_y (y_field_p rfl Tryz.f45' rfl (by decide) rfl) rfl ?_
         refine rl_y (y_load_p rfl Tryz.k37 rfl rfl rfl (vs := [_]) rfl rfl rfl) rfl ?_
         refine ym rfl rfl ?_
         refine rl_y (y_add rfl rfl rfl (wrap64_id (by omega))) rfl ?_
         refine rl_do rfl rfl ?_
         refine do_call_f (caps := []) trivial rfl rfl Tryz.c34 rfl (FnP.mono (ih (fuel - 1) (by omega) (by omega) (dp + 1) vk kids u (by omega) okk s5) ?_)
         rintro v u1 hle1 ⟨n4, rfl, hn4e, hn40, hn4b⟩
         refine rl_y (y_add rfl rfl rfl (wrap64_id (by omega))) rfl ?_
         refine ya rfl rfl ?_
         refine rl_end (ρ' := [(0, _), (1, _), (5, _), (6, _)]) ⟨rfl, rfl, rfl, rfl, trivial⟩ ?_
         refine q_block ?_
         refine q_then ?_
         refine wc_region ?_
         refine ym rfl rfl ?_
         refine rl_y (y_add rfl rfl rfl (wrap64_id (by omega))) rfl ?_
         refine ya rfl rfl ?_
         refine rl_end (ρ' := [(0, _), (1, _), (5, _), (6, _)]) ⟨rfl, rfl, rfl, rfl, trivial⟩ ?_
         refine q_thenK ?_
         refine ⟨m - 1, [(0, _), (1, _), (5, _), (6, _)], [], by omega, ⟨rfl, rfl, rfl, rfl, trivial⟩, trivial, i + 1, by omega, hle5, _, (by first | rfl | simp), (by first | rfl | (simp only [List.cons.injEq, Prod.mk.injEq, SV.v.injEq, Value.int.injEq, true_and, and_true]; omega) | simp), ?_⟩
         rw [if_neg (of_decide_eq_false hb8)] at hW
         refine ⟨rfl, by omega, by omega, ?_⟩
         rw [hW]
         congr 1
         rw [hn4e] at *
         omega
   ·
    refine wc_exit ?_
    refine q_then_exit ?_
    refine q_then_exit ?_
    refine q_block_hit ?_
    refine q_then ?_
    refine wc_seq ?_
    refine wc_region ?_
    refine ym rfl rfl ?_
    refine ya rfl rfl ?_
    refine rl_end (ρ' := [(4, _)]) ⟨rfl, trivial⟩ ?_
    refine q_then ?_
    refine wc_ret ?_
    refine fin1 (.tmp rfl) ?_
    have hge := of_decide_eq_false hb5
    refine ⟨n, rfl, ?_, hn0, hnb⟩
    rw [hinv]
    exact (wLoop_end (by omega)).symm
theorem heavyX_fn (fuel : Nat) : fuel ≤ 21 → ∀ (dp : Int) (v : Value) (xs : List Blk) (u : View), dp = 21 - fuel → xs.length ≤ 140737488351232 → BlkS u v xs →
  FnP Tryz.prog 14 [v, .int .i64 dp] u fun r _ => ∃ n : Int, r = .int .i64 n ∧ n = hvy fuel xs ∧ 0 ≤ n ∧ n ≤ 1000 + fuel * 5000000000000000 := by
 induction fuel using Nat.strongRecOn with
 | _ fuel ih =>
 intro hf dp v xs u hdp hx ha
 obtain ⟨cs, ⟨ad, cap, rfl, h1⟩, hc1⟩ := ha
 refine FnP.intro [.tmp 4] Tryz.func14 rfl rfl rfl ?_
 intro w0 D hw0
 refine wc_seq ?_
 refine wc_region ?_
 refine ya rfl rfl ?_
 refine rl_end (ρ' := [(0, _), (1, _)]) ⟨rfl, rfl, trivial⟩ ?_
 refine q_then ?_
 refine wc_seq ?_
 refine wc_region ?_
 refine ym rfl rfl ?_
 refine rl_y (y_len_v rfl rfl Tryz.s23 rfl) rfl ?_
 refine ya rfl rfl ?_
 refine rl_end (ρ' := [(0, _), (1, _), (5, _)]) ⟨rfl, rfl, rfl, trivial⟩ ?_
 refine q_then ?_
 refine wc_seq ?_
 refine wc_seq ?_
 refine wc_cutB 15 (decide (20 < dp ∨ 200 < xs.length)) (ρk := [(0, _), (1, _), (5, _)]) ⟨rfl, rfl, rfl, trivial⟩ ?_ ?_
 ·
  refine wc_region ?_
  refine ym rfl rfl ?_
  refine rl_y (y_gtr rfl rfl rfl) rfl ?_
  refine ym rfl rfl ?_
  rcases Bool.eq_false_or_eq_true (decide ((20 : Int) < dp)) with hg2_2 | hg2_2
  ·
   simp only [hg2_2]
   refine rl_off rfl rfl rfl rfl ?_
   refine rl_off rfl rfl rfl rfl ?_
   refine rl_y (y_pick_t rfl rfl rfl) rfl ?_
   exact cutB_end rfl ⟨rfl, rfl, rfl, trivial⟩ (by (first | refine (decide_eq_true ?_).symm | refine (decide_eq_false ?_).symm | refine decide_eq_decide.2 ?_ | refine decide_eq_true ?_ | refine decide_eq_false ?_) <;> (try unfold longN) <;> (try simp only [decide_eq_true_eq, decide_eq_false_iff_not] at *) <;> omega)
  ·
   simp only [hg2_2]
   refine rl_on rfl rfl ?_
   refine ym rfl rfl ?_
   refine rl_on rfl rfl ?_
   refine rl_y (y_gtr rfl rfl rfl) rfl ?_
   refine rl_y (y_pick_f rfl rfl rfl) rfl ?_
   exact cutB_end rfl ⟨rfl, rfl, rfl, trivial⟩ (by (first | refine (decide_eq_true ?_).symm | refine (decide_eq_false ?_).symm | refine decide_eq_decide.2 ?_ | refine decide_eq_true ?_ | refine decide_eq_false ?_) <;> (try unfold longN) <;> (try simp only [decide_eq_true_eq, decide_eq_false_iff_not] at *) <;> omega)
 refine q_then ?_
 refine wc_cond rfl (fun hb2 => ?_) (fun hb2 => ?_)
 ·
  refine wc_seq ?_
  refine wc_region ?_
  refine ya rfl rfl ?_
  refine rl_end (ρ' := [(4, _)]) ⟨rfl, trivial⟩ ?_
  refine q_then ?_
  refine wc_ret ?_
  refine q_then_ret ?_
  refine fin1 (.tmp rfl) ?_
  exact ⟨1000, rfl, (hvy_big (by have := of_decide_eq_true hb2; omega)).symm, by omega, by omega⟩
 ·
  refine wc_skip ?_
  refine q_then ?_
  refine wc_seq ?_
  refine wc_seq ?_
  refine wc_region ?_
  refine ya rfl rfl ?_
  refine rl_end (ρ' := [(0, _), (1, _), (5, _), (6, _)]) ⟨rfl, rfl, rfl, rfl, trivial⟩ ?_
  refine q_then ?_
  refine wc_block ?_
  refine wc_loop (fun m ρ σ u' => ∃ i : Nat, i + m = xs.length ∧ VLe u u' ∧ ∃ (n : Int), σ = [] ∧ ρ = [(0, .v (.slice ad xs.length cap)), (1, .v (.int .i64 dp)), (5, .v (.int .i64 n)), (6, .v (.int .i64 i))] ∧ (u = u' ∧ 0 ≤ n ∧ n ≤ 1000 + fuel * 5000000000000000 ∧ hvy fuel xs = hLoop (hvy (fuel - 1)) n (xs.drop i))) (xs.length) ?_ ?_
  ·
   refine ⟨[(0, _), (1, _), (5, _), (6, _)], [], ⟨rfl, rfl, rfl, rfl, trivial⟩, trivial, 0, by omega, VLe.refl _, _, (by first | rfl | simp), (by first | rfl | (simp only [List.cons.injEq, Prod.mk.injEq, SV.v.injEq, Value.int.injEq, true_and, and_true]; omega) | simp), ?_⟩
   have := of_decide_eq_false hb2; exact ⟨rfl, by omega, by omega, hvy_go (by omega) (by omega)⟩
  ·
   rintro m ρ σ u' ⟨i, hi5, hle5, n, rfl, rfl, ⟨rfl, hn0, hnb, hinv⟩⟩
   refine wc_seq ?_
   refine wc_seq ?_
   refine wc_cutB 23 (decide (i < xs.length ∧ n < 1000)) (ρk := [(0, _), (1, _), (5, _), (6, _)]) ⟨rfl, rfl, rfl, rfl, trivial⟩ ?_ ?_
   ·
    refine wc_region ?_
    refine ym rfl rfl ?_
    refine ym rfl rfl ?_
    refine rl_y (y_len_v rfl rfl Tryz.s23 rfl) rfl ?_
    refine rl_y (y_lss rfl rfl rfl) rfl ?_
    refine ym rfl rfl ?_
    rcases Bool.eq_false_or_eq_true (decide ((i : Int) < xs.length)) with hg5_4 | hg5_4
    ·
     simp only [hg5_4]
     refine rl_on rfl rfl ?_
     refine ym rfl rfl ?_
     refine rl_on rfl rfl ?_
     refine rl_y (y_lss rfl rfl rfl) rfl ?_
     refine rl_y (y_pick_t rfl rfl rfl) rfl ?_
     exact cutB_end rfl ⟨rfl, rfl, rfl, rfl, trivial⟩ (by (first | refine (decide_eq_true ?_).symm | refine (decide_eq_false ?_).symm | refine decide_eq_decide.2 ?_ | refine decide_eq_true ?_ | refine decide_eq_false ?_) <;> (try unfold longN) <;> (try simp only [decide_eq_true_eq, decide_eq_false_iff_not] at *) <;> omega)
    ·
     simp only [hg5_4]
     refine rl_off rfl rfl rfl rfl ?_
     refine rl_off rfl rfl rfl rfl ?_
     refine rl_y (y_pick_f rfl rfl rfl) rfl ?_
     exact cutB_end rfl ⟨rfl, rfl, rfl, rfl, trivial⟩ (by (first | refine (decide_eq_true ?_).symm | refine (decide_eq_false ?_).symm | refine decide_eq_decide.2 ?_ | refine decide_eq_true ?_ | refine decide_eq_false ?_) <;> (try unfold longN) <;> (try simp only [decide_eq_true_eq, decide_eq_false_iff_not] at *) <;> omega)
   refine q_then ?_
   refine wc_cond rfl (fun hb5 => ?_) (fun hb5 => ?_)
   ·
    refine wc_skip ?_
    refine q_then ?_
    refine wc_seq ?_
    refine wc_block ?_
    refine wc_seq ?_
    have hb := of_decide_eq_true hb5
    have hb2 := of_decide_eq_false hb2
    have hlt : i < xs.length := hb.1
    obtain ⟨k, lv, inf, t, d, ti, a, line, kids, vc, vp, vl, vk, hg, hcut1, s1, s2, s3, s4, hok⟩ := hc1.at hlt
    have oneAll := (hc1.get i _ hg).one
    rw [hcut1] at oneAll
    obtain ⟨okk0, oklv, oki, okt, okd, okti, oka, okl, okk⟩ := hok
    have hln : xs.length ≤ 200 := by omega
    have hW := hLoop_at (rec := hvy (fuel - 1)) hg hb.2
    rw [← hinv] at hW
    refine wc_region ?_
    refine ym rfl rfl ?_
    refine ym rfl rfl ?_
    refine rl_y (y_index_e rfl Tryz.s23 rfl rfl (by assumption) (by first | rfl | omega) (by omega)) rfl ?_
    refine rl_y (y_load_el rfl Tryz.k39 rfl (by assumption) (by omega) (by assumption) (vs := [_, _, _, _, _, _, _, _, _, _, _]) rfl rfl rfl rfl) rfl ?_
    refine rl_do rfl rfl ?_
    refine do_alloc trivial Tryz.z39 rfl rfl rfl ?_
    refine rl_do rfl rfl ?_
    refine do_store_p trivial rfl Tryz.k39 rfl rfl rfl (vs := [_, _, _, _, _, _, _, _, _, _, _]) rfl rfl (by first | rfl | assumption | simp [Value.oneCell', str]) (Nat.le_of_ble_eq_true rfl) rfl ?_
    refine rl_end (ρ' := [(0, _), (1, _), (5, _), (6, _), (7, _)]) ⟨rfl, rfl, rfl, rfl, rfl, trivial⟩ ?_
    refine q_then ?_
    refine wc_seq ?_
    refine wc_seq ?_
    refine wc_cutB 50 (decide (300 < inf.length + t.length + d.length + ti.length ∨ 40 < a.classes.length ∨ 40 < a.pairs.length ∨ 600 < longN a)) (ρk := [(0, _), (1, _), (5, _), (6, _), (7, _)]) ⟨rfl, rfl, rfl, rfl, rfl, trivial⟩ ?_ ?_
    ·
     refine wc_region ?_
     refine rl_y (y_field_p rfl Tryz.f39' rfl (by decide) rfl) rfl ?_
     refine rl_y (y_load_p rfl Tryz.k9 rfl rfl rfl (vs := [_]) rfl rfl rfl) rfl ?_
     refine rl_y (y_len_str rfl rfl Tryz.str9 rfl) rfl ?_
     refine rl_y (y_field_p rfl Tryz.f39' rfl (by decide) rfl) rfl ?_
     refine rl_y (y_load_p rfl Tryz.k9 rfl rfl rfl (vs := [_]) rfl rfl rfl) rfl ?_
     refine rl_y (y_len_str rfl rfl Tryz.str9 rfl) rfl ?_
     refine rl_y (y_add rfl rfl rfl (wrap64_id (by omega))) rfl ?_
     refine rl_y (y_field_p rfl Tryz.f39' rfl (by decide) rfl) rfl ?_
     refine rl_y (y_load_p rfl Tryz.k9 rfl rfl rfl (vs := [_]) rfl rfl rfl) rfl ?_
     refine rl_y (y_len_str rfl rfl Tryz.str9 rfl) rfl ?_
     refine rl_y (y_add rfl rfl rfl (wrap64_id (by omega))) rfl ?_
     refine rl_y (y_field_p rfl Tryz.f39' rfl (by decide) rfl) rfl ?_
     refine rl_y (y_load_p rfl Tryz.k9 rfl rfl rfl (vs := [_]) rfl rfl rfl) rfl ?_
     refine rl_y (y_len_str rfl rfl Tryz.str9 rfl) rfl ?_
     refine rl_y (y_add rfl rfl rfl (wrap64_id (by omega))) rfl ?_
     refine rl_y (y_gtr rfl rfl rfl) rfl ?_
     refine ym rfl rfl ?_
     rcases Bool.eq_false_or_eq_true (decide ((300 : Int) < (t.length : Int) + inf.length + d.length + ti.length)) with hg8_16 | hg8_16
     ·
      simp only [hg8_16]
      refine rl_off rfl rfl rfl rfl ?_
      refine rl_off rfl rfl rfl rfl ?_
      refine rl_off rfl rfl rfl rfl ?_
      refine rl_y (y_pick_t rfl rfl rfl) rfl ?_
      exact cutB_end rfl ⟨rfl, rfl, rfl, rfl, rfl, trivial⟩ (by (first | refine (decide_eq_true ?_).symm | refine (decide_eq_false ?_).symm | refine decide_eq_decide.2 ?_ | refine decide_eq_true ?_ | refine decide_eq_false ?_) <;> (try unfold smB1) <;> (try simp only [decide_eq_true_eq, decide_eq_false_iff_not] at *) <;> omega)
     ·
      simp only [hg8_16]
      refine rl_on rfl rfl ?_
      refine rl_y (y_field_p rfl Tryz.f39' rfl (by decide) rfl) rfl ?_
      refine rl_on rfl rfl ?_
      refine rl_y (y_load_p rfl Tryz.k36 rfl rfl rfl (vs := [_, _, _]) rfl rfl rfl) rfl ?_
      refine rl_on rfl rfl ?_
      refine rl_do rfl rfl ?_
      refine do_call_f (caps := []) trivial rfl rfl Tryz.c33 rfl (FnP.mono (long_fn a _ _ u oka s1 s2) ?_)
      rintro v u1 hle1 rfl
      refine rl_y (y_pick_f rfl rfl rfl) rfl ?_
      exact cutB_end rfl ⟨rfl, rfl, rfl, rfl, rfl, trivial⟩ (by (first | refine (decide_eq_true ?_).symm | refine (decide_eq_false ?_).symm | refine decide_eq_decide.2 ?_ | refine decide_eq_true ?_ | refine decide_eq_false ?_) <;> (try unfold smB1) <;> (try simp only [decide_eq_true_eq, decide_eq_false_iff_not] at *) <;> omega)
    refine q_then ?_
    refine wc_cond rfl (fun hb8 => ?_) (fun hb8 => ?_)
    ·
     refine wc_seq ?_
     refine wc_region ?_
     refine ya rfl rfl ?_
     refine rl_end (ρ' := [(4, _)]) ⟨rfl, trivial⟩ ?_
     refine q_then ?_
     refine wc_ret ?_
     refine q_then_ret ?_
     refine q_block_ret ?_
     refine q_then_ret ?_
     refine q_then_ret ?_
     refine q_block_ret ?_
     refine q_then_ret ?_
     refine fin1 (.tmp rfl) ?_
     exact ⟨1000, rfl, by rw [hW, if_pos (of_decide_eq_true hb8)], by omega, by omega⟩
    ·
     refine wc_skip ?_
     refine q_then ?_
     refine wc_draw Tryz.mixed rfl [(7, _)] ⟨rfl, trivial⟩ ?_
     refine ra_y (i := 0) rfl (by kernel_rfl) (by kernel_rfl) (by kernel_rfl) (np_block (np_then (np_then (np_block (np_then (np_fin)))))) (y_move rfl rfl) rfl ?_
     refine ra_y (i := 1) rfl (by kernel_rfl) (by kernel_rfl) (by kernel_rfl) (np_block (np_then (np_then (np_block (np_then (np_fin)))))) (y_field_p rfl Tryz.f39' rfl (by decide) rfl) rfl ?_
     refine ra_y (i := 2) rfl (by kernel_rfl) (by kernel_rfl) (by kernel_rfl) (np_block (np_then (np_then (np_block (np_then (np_fin)))))) (y_load_p rfl Tryz.k37 rfl rfl rfl (vs := [_]) rfl rfl rfl) rfl ?_
     refine ra_y (i := 4) rfl (by kernel_rfl) (by kernel_rfl) (by kernel_rfl) (np_block (np_then (np_then (np_block (np_then (np_fin)))))) (y_field_p rfl Tryz.f39' rfl (by decide) rfl) rfl ?_
     refine ra_y (i := 5) rfl (by kernel_rfl) (by kernel_rfl) (by kernel_rfl) (np_block (np_then (np_then (np_block (np_then (np_fin)))))) (y_load_p rfl Tryz.k23 rfl rfl rfl (vs := [_]) rfl rfl rfl) rfl ?_
     refine ra_y (i := 6) rfl (by kernel_rfl) (by kernel_rfl) (by kernel_rfl) (np_block (np_then (np_then (np_block (np_then (np_fin)))))) (y_move rfl rfl) rfl ?_
     refine ra_y (i := 7) rfl (by kernel_rfl) (by kernel_rfl) (by kernel_rfl) (np_block (np_then (np_then (np_block (np_then (np_fin)))))) (y_add rfl rfl rfl (wrap64_id (by omega))) rfl ?_
     refine ra_do (i := 3) rfl rfl (by kernel_rfl) ?_
     refine do_call_f (caps := []) ⟨rfl, trivial⟩ rfl rfl Tryz.c34 rfl (FnP.mono (weightX_fn 21 (by omega) 0 vl line u (by omega) okl s3) ?_)
     rintro v u1 hle1 ⟨n4, rfl, hn4e, hn40, hn4b⟩
     refine ra_do (i := 8) rfl rfl (by kernel_rfl) ?_
     refine do_call_f (caps := []) ⟨rfl, trivial⟩ rfl rfl Tryz.c14 rfl (FnP.mono (ih (fuel - 1) (by omega) (by omega) (dp + 1) vk kids u (by omega) okk s4) ?_)
     rintro v u1 hle1 ⟨n5, rfl, hn5e, hn50, hn5b⟩
     refine ra_y (i := 9) rfl (by kernel_rfl) (by kernel_rfl) (by kernel_rfl) (np_block (np_then (np_then (np_block (np_then (np_fin)))))) (y_add rfl rfl rfl (wrap64_id (by omega))) rfl ?_
     refine ra_y (i := 10) rfl (by kernel_rfl) (by kernel_rfl) (by kernel_rfl) (np_block (np_then (np_then (np_block (np_then (np_fin)))))) (y_add rfl rfl rfl (wrap64_id (by omega))) rfl ?_
     refine ra_y (i := 11) rfl (by kernel_rfl) (by kernel_rfl) (by kernel_rfl) (np_block (np_then (np_then (np_block (np_then (np_fin)))))) (y_assign rfl rfl) rfl ?_
     refine ra_end (by kernel_rfl) (ρ' := [(0, _), (1, _), (5, _), (6, _)]) ⟨rfl, rfl, rfl, rfl, trivial⟩ ?_
     refine q_block ?_
     refine q_then ?_
     refine wc_region ?_
     refine ym rfl rfl ?_
     refine rl_y (y_add rfl rfl rfl (wrap64_id (by omega))) rfl ?_
     refine ya rfl rfl ?_
     refine rl_end (ρ' := [(0, _), (1, _), (5, _), (6, _)]) ⟨rfl, rfl, rfl, rfl, trivial⟩ ?_
     refine q_thenK ?_
     refine ⟨m - 1, [(0, _), (1, _), (5, _), (6, _)], [], by omega, ⟨rfl, rfl, rfl, rfl, trivial⟩, trivial, i + 1, by omega, hle5, _, (by first | rfl | simp), (by first | rfl | (simp only [List.cons.injEq, Prod.mk.injEq, SV.v.injEq, Value.int.injEq, true_and, and_true]; omega) | simp), ?_⟩
     rw [if_neg (of_decide_eq_false hb8)] at hW
     refine ⟨rfl, by omega, by omega, ?_⟩
     rw [hW]
     congr 1
     rw [hn4e, hn5e] at *
     omega
   ·
    refine wc_exit ?_
    refine q_then_exit ?_
    refine q_then_exit ?_
    refine q_block_hit ?_
    refine q_then ?_
    refine wc_seq ?_
    refine wc_region ?_
    refine ym rfl rfl ?_
    refine ya rfl rfl ?_
    refine rl_end (ρ' := [(4, _)]) ⟨rfl, trivial⟩ ?_
    refine q_then ?_
    refine wc_ret ?_
    refine fin1 (.tmp rfl) ?_
    have hge := of_decide_eq_false hb5
    refine ⟨n, rfl, ?_, hn0, hnb⟩
    rw [hinv]
    exact (hLoop_end (by omega)).symm
theorem smallX_fn (d : DDoc) (vm vb : Value) (u : View) (hm : PrS u vm d.mts) (hbk : BlkS u vb d.blocks) (hok : DocOk d) :
  FnP Tryz.prog 5 [.agg #[vm, vb]] u fun r _ => r = .bool (smallB d) := by
 obtain ⟨ad, cap, rfl, h1⟩ := hm
 obtain ⟨⟨okm, okm2⟩, okb⟩ := hok
 refine FnP.intro [.tmp 2] Tryz.func5 rfl rfl rfl ?_
 intro w0 D hw0
 refine wc_seq ?_
 refine wc_region ?_
 refine rl_do rfl rfl ?_
 refine do_box trivial rfl (cs := [_, _]) rfl rfl rfl rfl ?_
 refine ya rfl rfl ?_
 refine rl_end (ρ' := [(1, _)]) ⟨rfl, trivial⟩ ?_
 refine q_then ?_
 refine wc_seq ?_
 refine wc_seq ?_
 refine wc_region ?_
 refine rl_y (y_field_p rfl Tryz.f25' rfl (by decide) rfl) rfl ?_
 refine rl_y (y_load_p rfl Tryz.k22 rfl rfl rfl (vs := [_]) rfl rfl rfl) rfl ?_
 refine rl_y (y_len_v rfl rfl Tryz.s22 rfl) rfl ?_
 refine rl_y (y_gtr rfl rfl rfl) rfl ?_
 refine rl_end (ρ' := [(1, _), (7, _)]) ⟨rfl, rfl, trivial⟩ ?_
 refine q_then ?_
 refine wc_cond rfl (fun hb1 => ?_) (fun hb1 => ?_)
 ·
  refine wc_seq ?_
  refine wc_region ?_
  refine ya rfl rfl ?_
  refine rl_end (ρ' := [(2, _)]) ⟨rfl, trivial⟩ ?_
  refine q_then ?_
  refine wc_ret ?_
  refine q_then_ret ?_
  refine fin1 (.tmp rfl) ?_
  unfold smallB; rw [decide_eq_false]; intro h; exact absurd (of_decide_eq_true hb1) (by omega)
 ·
  refine wc_skip ?_
  refine q_then ?_
  refine wc_seq ?_
  refine wc_seq ?_
  refine wc_region ?_
  refine ya rfl rfl ?_
  refine rl_end (ρ' := [(1, _), (3, _)]) ⟨rfl, rfl, trivial⟩ ?_
  refine q_then ?_
  refine wc_block ?_
  refine wc_loop (fun m ρ σ u' => ∃ i : Nat, i + m = d.mts.length ∧ VLe u u' ∧ σ = [(1, (none, .box [.slice ad d.mts.length cap, vb]))] ∧ ρ = [(1, .p 1 0), (3, .v (.int .i64 i))] ∧ (u = u' ∧ ∀ p ∈ d.mts.take i, p.1.length + p.2.length ≤ 300)) (d.mts.length) ?_ ?_
  ·
   refine ⟨[(1, _), (3, _)], [(1, _)], ⟨rfl, rfl, trivial⟩, ⟨rfl, trivial⟩, 0, by omega, VLe.refl _, (by first | rfl | simp), (by first | rfl | (simp only [List.cons.injEq, Prod.mk.injEq, SV.v.injEq, Value.int.injEq, true_and, and_true]; omega) | simp), ?_⟩
   exact ⟨rfl, fun p hp => by simp at hp⟩
  ·
   rintro m ρ σ u' ⟨i, hi4, hle4, rfl, rfl, ⟨rfl, hinv⟩⟩
   refine wc_seq ?_
   refine wc_seq ?_
   refine wc_region ?_
   refine ym rfl rfl ?_
   refine rl_y (y_field_p rfl Tryz.f25' rfl (by decide) rfl) rfl ?_
   refine rl_y (y_load_p rfl Tryz.k22 rfl rfl rfl (vs := [_]) rfl rfl rfl) rfl ?_
   refine rl_y (y_len_v rfl rfl Tryz.s22 rfl) rfl ?_
   refine rl_y (y_lss rfl rfl rfl) rfl ?_
   refine rl_end (ρ' := [(1, _), (3, _), (12, _)]) ⟨rfl, rfl, rfl, trivial⟩ ?_
   refine q_then ?_
   refine wc_cond rfl (fun hb4 => ?_) (fun hb4 => ?_)
   ·
    refine wc_skip ?_
    refine q_then ?_
    refine wc_seq ?_
    refine wc_block ?_
    refine wc_seq ?_
    have hlt : i < d.mts.length := by have := of_decide_eq_true hb4; omega
    have hg := List.getElem?_eq_getElem hlt
    have hcc := cut_pairsC hg
    have hsl := okm2 _ (List.mem_of_getElem? hg)
    refine wc_draw Tryz.mixed rfl [(1, _)] ⟨rfl, trivial⟩ ?_
    refine ra_y (i := 0) rfl (by kernel_rfl) (by kernel_rfl) (by kernel_rfl) (np_then (np_block (np_then (np_then (np_block (np_then (np_fin))))))) (y_field_p rfl Tryz.f25' rfl (by decide) rfl) rfl ?_
    refine ra_y (i := 1) rfl (by kernel_rfl) (by kernel_rfl) (by kernel_rfl) (np_then (np_block (np_then (np_then (np_block (np_then (np_fin))))))) (y_load_p rfl Tryz.k22 rfl rfl rfl (vs := [_]) rfl rfl rfl) rfl ?_
    refine ra_y (i := 2) rfl (by kernel_rfl) (by kernel_rfl) (by kernel_rfl) (np_then (np_block (np_then (np_then (np_block (np_then (np_fin))))))) (y_move rfl rfl) rfl ?_
    refine ra_y (i := 3) rfl (by kernel_rfl) (by kernel_rfl) (by kernel_rfl) (np_then (np_block (np_then (np_then (np_block (np_then (np_fin))))))) (y_index_e rfl Tryz.s22 rfl rfl (by assumption) (by first | rfl | omega) (by omega)) rfl ?_
    refine ra_y (i := 4) rfl (by kernel_rfl) (by kernel_rfl) (by kernel_rfl) (np_then (np_block (np_then (np_then (np_block (np_then (np_fin))))))) (y_field_e rfl Tryz.f49' rfl (by decide) rfl) rfl ?_
    refine ra_y (i := 5) rfl (by kernel_rfl) (by kernel_rfl) (by kernel_rfl) (np_then (np_block (np_then (np_then (np_block (np_then (np_fin))))))) (y_load_el rfl Tryz.k9 rfl (by assumption) (by omega) (by assumption) (vs := [_]) rfl rfl rfl rfl) rfl ?_
    refine ra_y (i := 6) rfl (by kernel_rfl) (by kernel_rfl) (by kernel_rfl) (np_then (np_block (np_then (np_then (np_block (np_then (np_fin))))))) (y_len_str rfl rfl Tryz.str9 rfl) rfl ?_
    refine ra_y (i := 7) rfl (by kernel_rfl) (by kernel_rfl) (by kernel_rfl) (np_then (np_block (np_then (np_then (np_block (np_then (np_fin))))))) (y_field_p rfl Tryz.f25' rfl (by decide) rfl) rfl ?_
    refine ra_y (i := 8) rfl (by kernel_rfl) (by kernel_rfl) (by kernel_rfl) (np_then (np_block (np_then (np_then (np_block (np_then (np_fin))))))) (y_load_p rfl Tryz.k22 rfl rfl rfl (vs := [_]) rfl rfl rfl) rfl ?_
    refine ra_y (i := 9) rfl (by kernel_rfl) (by kernel_rfl) (by kernel_rfl) (np_then (np_block (np_then (np_then (np_block (np_then (np_fin))))))) (y_move rfl rfl) rfl ?_
    refine ra_y (i := 10) rfl (by kernel_rfl) (by kernel_rfl) (by kernel_rfl) (np_then (np_block (np_then (np_then (np_block (np_then (np_fin))))))) (y_index_e rfl Tryz.s22 rfl rfl (by assumption) (by first | rfl | omega) (by omega)) rfl ?_
    refine ra_y (i := 11) rfl (by kernel_rfl) (by kernel_rfl) (by kernel_rfl) (np_then (np_block (np_then (np_then (np_block (np_then (np_fin))))))) (y_field_e rfl Tryz.f49' rfl (by decide) rfl) rfl ?_
    refine ra_y (i := 12) rfl (by kernel_rfl) (by kernel_rfl) (by kernel_rfl) (np_then (np_block (np_then (np_then (np_block (np_then (np_fin))))))) (y_load_el rfl Tryz.k9 rfl (by assumption) (by omega) (by assumption) (vs := [_]) rfl rfl rfl rfl) rfl ?_
    refine ra_y (i := 13) rfl (by kernel_rfl) (by kernel_rfl) (by kernel_rfl) (np_then (np_block (np_then (np_then (np_block (np_then (np_fin))))))) (y_len_str rfl rfl Tryz.str9 rfl) rfl ?_
    refine ra_y (i := 14) rfl (by kernel_rfl) (by kernel_rfl) (by kernel_rfl) (np_then (np_block (np_then (np_then (np_block (np_then (np_fin))))))) (y_add rfl rfl rfl (wrap64_id (by omega))) rfl ?_
    refine ra_y (i := 15) rfl (by kernel_rfl) (by kernel_rfl) (by kernel_rfl) (np_then (np_block (np_then (np_then (np_block (np_then (np_fin))))))) (y_gtr rfl rfl rfl) rfl ?_
    refine ra_end (by kernel_rfl) (ρ' := [(1, _), (3, _), (30, _)]) ⟨rfl, rfl, rfl, trivial⟩ ?_
    refine q_then ?_
    refine wc_cond rfl (fun hb6 => ?_) (fun hb6 => ?_)
    ·
     refine wc_seq ?_
     refine wc_region ?_
     refine ya rfl rfl ?_
     refine rl_end (ρ' := [(2, _)]) ⟨rfl, trivial⟩ ?_
     refine q_then ?_
     refine wc_ret ?_
     refine q_block_ret ?_
     refine q_then_ret ?_
     refine q_then_ret ?_
     refine q_block_ret ?_
     refine q_then_ret ?_
     refine fin1 (.tmp rfl) ?_
     unfold smallB; rw [decide_eq_false]; intro h; have h1 := h.2.1 _ (List.mem_of_getElem? hg); have h6 := of_decide_eq_true hb6; omega
    ·
     refine wc_skip ?_
     refine q_block ?_
     refine q_then ?_
     refine wc_region ?_
     refine ym rfl rfl ?_
     refine rl_y (y_add rfl rfl rfl (wrap64_id (by omega))) rfl ?_
     refine ya rfl rfl ?_
     refine rl_end (ρ' := [(1, _), (3, _)]) ⟨rfl, rfl, trivial⟩ ?_
     refine q_thenK ?_
     refine ⟨m - 1, [(1, _), (3, _)], [(1, _)], by omega, ⟨rfl, rfl, trivial⟩, ⟨rfl, trivial⟩, i + 1, by omega, hle4, (by first | rfl | simp), (by first | rfl | (simp only [List.cons.injEq, Prod.mk.injEq, SV.v.injEq, Value.int.injEq, true_and, and_true]; omega) | simp), ?_⟩
     have h6 := of_decide_eq_false hb6; refine ⟨rfl, fun p hp => ?_⟩; rcases mem_take_succ hg hp with hs | rfl; exact hinv p hs; omega
   ·
    refine wc_exit ?_
    refine q_then_exit ?_
    refine q_then_exit ?_
    refine q_block_hit ?_
    refine q_then ?_
    refine wc_seq ?_
    refine wc_region ?_
    refine rl_y (y_field_p rfl Tryz.f25' rfl (by decide) rfl) rfl ?_
    refine rl_y (y_load_p rfl Tryz.k23 rfl rfl rfl (vs := [_]) rfl rfl rfl) rfl ?_
    refine rl_do rfl rfl ?_
    refine do_call_f (caps := []) trivial rfl rfl Tryz.c14 rfl (FnP.mono (heavyX_fn 21 (by omega) 0 vb d.blocks u (by omega) okb hbk) ?_)
    rintro v u1 hle1 ⟨n, rfl, hne, hn0, hnb⟩
    refine rl_y (y_leq rfl rfl rfl) rfl ?_
    refine ya rfl rfl ?_
    refine rl_end (ρ' := [(2, _)]) ⟨rfl, trivial⟩ ?_
    refine q_then ?_
    refine wc_ret ?_
    refine fin1 (.tmp rfl) ?_
    have h1 := of_decide_eq_false hb1
    have h4 := of_decide_eq_false hb4
    rw [List.take_of_length_le (by omega)] at hinv
    unfold smallB
    congr 1
    refine decide_eq_decide.2 ⟨fun h => ⟨by omega, hinv, by rw [← hne]; exact h⟩, fun h => by rw [hne]; exact h.2.2⟩
def nodeB (B L : Nat) (t d ti : Bs) (a : DAttr) (args : List Bs) (cites : List DCite) : Prop :=
 t.length + d.length + ti.length ≤ B ∧ a.classes.length ≤ 40 ∧ a.pairs.length ≤ 40 ∧ longN a ≤ L ∧ args.length ≤ 9 ∧ cites.length ≤ 9 ∧ (∀ s ∈ args, s.length ≤ 50000) ∧ ∀ c ∈ cites, c.key.length + c.pre.length + c.suf.length ≤ 50000
mutual
def smX1 (B L : Nat) : Inl → Prop
 | .mk _ t d ti a args cites kids => nodeB B L t d ti a args cites ∧ smX B L kids
def smX (B L : Nat) : List Inl → Prop
 | [] => True
 | x :: xs => smX1 B L x ∧ smX B L xs
end
theorem smX_append {B L : Nat} : ∀ {xs ys : List Inl}, smX B L xs → smX B L ys → smX B L (xs ++ ys)
 | [], ys, _, k => k
 | x :: xs, ys, h, k => by
  unfold smX at h
  rw [List.cons_append]
  unfold smX
  exact ⟨h.1, smX_append h.2 k⟩
theorem nodeB_mono {B L B' L' : Nat} (hB : B ≤ B') (hL : L ≤ L') {t d ti : Bs} {a : DAttr} {args : List Bs} {cites : List DCite} (h : nodeB B L t d ti a args cites) : nodeB B' L' t d ti a args cites := by
 unfold nodeB at h ⊢
 exact ⟨by omega, by omega, by omega, by omega, by omega, by omega, h.2.2.2.2.2.2.1, h.2.2.2.2.2.2.2⟩
mutual
theorem smX1_mono {B L B' L' : Nat} (hB : B ≤ B') (hL : L ≤ L') : ∀ x : Inl, smX1 B L x → smX1 B' L' x
 | .mk k t d ti a args cites kids, h => by
  unfold smX1 at h ⊢
  exact ⟨nodeB_mono hB hL h.1, smX_mono hB hL kids h.2⟩
theorem smX_mono {B L B' L' : Nat} (hB : B ≤ B') (hL : L ≤ L') : ∀ xs : List Inl, smX B L xs → smX B' L' xs
 | [], _ => by unfold smX; trivial
 | x :: xs, h => by
  unfold smX at h ⊢
  exact ⟨smX1_mono hB hL x h.1, smX_mono hB hL xs h.2⟩
end
mutual
theorem smI1_of : ∀ x : Inl, smX1 90000 9000 x → smI1 x
 | .mk k t d ti a args cites kids, h => by
  unfold smX1 nodeB at h
  unfold smI1 NodeSm
  exact ⟨h.1, smI_of kids h.2⟩
theorem smI_of : ∀ xs : List Inl, smX 90000 9000 xs → smI xs
 | [], _ => by unfold smI; trivial
 | x :: xs, h => by
  unfold smX at h
  unfold smI
  exact ⟨smI1_of x h.1, smI_of xs h.2⟩
end
theorem le_sumL : ∀ {l : List Nat} {x : Nat}, x ∈ l → x ≤ l.sum
 | [], x, h => by simp at h
 | y :: l, x, h => by
  rw [List.sum_cons]
  rcases List.mem_cons.1 h with rfl | h
  ·
   omega
  ·
   have := le_sumL h; omega
theorem argsW_le {l : List Bs} {n : Nat} (h : argsW l ≤ n) : ∀ s ∈ l, s.length / 40 ≤ n := by
 intro s hs
 have : s.length / 40 ≤ argsW l := le_sumL (List.mem_map.2 ⟨s, hs, rfl⟩)
 omega
theorem citesW_le {l : List DCite} {n : Nat} (h : citesW l ≤ n) : ∀ c ∈ l, (c.key.length + c.pre.length + c.suf.length) / 40 ≤ n := by
 intro s hs
 have : (s.key.length + s.pre.length + s.suf.length) / 40 ≤ citesW l := le_sumL (List.mem_map.2 ⟨s, hs, rfl⟩)
 omega
def RecI (rec : List Inl → Int) : Prop := ∀ kids, 0 ≤ rec kids ∧ (rec kids < 1000 → (szI kids : Int) ≤ rec kids ∧ smX 300 600 kids)
theorem wLoop_small {rec : List Inl → Int} (hr : RecI rec) : ∀ (xs : List Inl) (n : Int), 0 ≤ n → n ≤ wLoop rec n xs ∨ 1000 ≤ wLoop rec n xs
 | [], n, _ => by left; rw [wLoop]; exact Int.le_refl _
 | .mk k t d ti a args cites kids :: xs, n, hn => by
  rw [wLoop]
  split
  ·
   split
   ·
    right; exact Int.le_refl _
   ·
    have h1 := (hr kids).1
    rcases wLoop_small hr xs (n + argsW args + citesW cites + rec kids) (by omega) with h | h
    ·
     left; omega
    ·
     right; exact h
  ·
   left; exact Int.le_refl _
theorem wLoop_st {rec : List Inl → Int} (hr : RecI rec) : ∀ (xs : List Inl) (n : Int), 0 ≤ n → wLoop rec n xs < 1000 → n ≤ wLoop rec n xs ∧ smX 300 600 xs ∧ (szI xs : Int) ≤ xs.length + (wLoop rec n xs - n)
 | [], n, _, h => by
  rw [wLoop] at h ⊢
  exact ⟨Int.le_refl _, by unfold smX; trivial, by simp [szI]⟩
 | .mk k t d ti a args cites kids :: xs, n, hn, h => by
  rw [wLoop] at h ⊢
  by_cases h1 : n < 1000
  ·
   rw [if_pos h1] at h ⊢
   by_cases h2 : 300 < t.length + d.length + ti.length ∨ badA a ∨ 9 < args.length ∨ 9 < cites.length
   ·
    rw [if_pos h2] at h; exact absurd h (by decide)
   ·
    rw [if_neg h2] at h ⊢
    have hk := (hr kids).1
    obtain ⟨q1, q2, q3⟩ := wLoop_st hr xs _ (by omega) h
    obtain ⟨q4, q5⟩ := (hr kids).2 (by omega)
    have ha := argsW_le (l := args) (n := 1000) (by omega)
    have hc := citesW_le (l := cites) (n := 1000) (by omega)
    unfold badA at h2
    refine ⟨by omega, ?_, by simp only [szI, sz1, List.length_cons]; omega⟩
    unfold smX smX1 nodeB
    exact ⟨⟨⟨by omega, by omega, by omega, by omega, by omega, by omega, fun s hs => by have := ha s hs; omega, fun c hcc => by have := hc c hcc; omega⟩, q5⟩, q2⟩
  ·
   rw [if_neg h1] at h; exact absurd h h1
theorem wgt_nn : ∀ (f : Nat), RecI (wgt f)
 | 0 => fun kids => ⟨by rw [wgt]; decide, fun h => by rw [wgt] at h; exact absurd h (by decide)⟩
 | f + 1 => by
  have ih := wgt_nn f
  intro kids
  rw [wgt]
  by_cases h : 200 < kids.length
  ·
   rw [if_pos h]; exact ⟨by decide, fun h => absurd h (by decide)⟩
  ·
   rw [if_neg h]
   refine ⟨?_, fun h2 => ?_⟩
   ·
    rcases wLoop_small ih kids kids.length (by omega) with h | h <;> omega
   ·
    obtain ⟨q1, q2, q3⟩ := wLoop_st ih kids _ (by omega) h2
    exact ⟨by omega, q2⟩
mutual
def smY1 : Blk → Prop
 | .mk _ _ inf t d ti a line kids => inf.length + t.length + d.length + ti.length ≤ 300 ∧ a.classes.length ≤ 40 ∧ a.pairs.length ≤ 40 ∧ longN a ≤ 600 ∧ smX 300 600 line ∧ smY kids
def smY : List Blk → Prop
 | [] => True
 | x :: xs => smY1 x ∧ smY xs
end
def RecB (rec : List Blk → Int) : Prop := ∀ kids, 0 ≤ rec kids ∧ (rec kids < 1000 → (szB kids : Int) ≤ rec kids ∧ smY kids)
theorem hLoop_small {rec : List Blk → Int} (hr : RecB rec) : ∀ (xs : List Blk) (n : Int), 0 ≤ n → n ≤ hLoop rec n xs ∨ 1000 ≤ hLoop rec n xs
 | [], n, _ => by left; rw [hLoop]; exact Int.le_refl _
 | .mk k lv inf t d ti a line kids :: xs, n, hn => by
  rw [hLoop]
  split
  ·
   split
   ·
    right; exact Int.le_refl _
   ·
    have h1 := (hr kids).1
    have h2 := (wgt_nn 21 line).1
    rcases hLoop_small hr xs (n + wgt 21 line + rec kids) (by omega) with h | h
    ·
     left; omega
    ·
     right; exact h
  ·
   left; exact Int.le_refl _
theorem hLoop_st {rec : List Blk → Int} (hr : RecB rec) : ∀ (xs : List Blk) (n : Int), 0 ≤ n → hLoop rec n xs < 1000 → n ≤ hLoop rec n xs ∧ smY xs ∧ (szB xs : Int) ≤ xs.length + (hLoop rec n xs - n)
 | [], n, _, h => by
  rw [hLoop] at h ⊢
  exact ⟨Int.le_refl _, by unfold smY; trivial, by simp [szB]⟩
 | .mk k lv inf t d ti a line kids :: xs, n, hn, h => by
  rw [hLoop] at h ⊢
  by_cases h1 : n < 1000
  ·
   rw [if_pos h1] at h ⊢
   by_cases h2 : 300 < inf.length + t.length + d.length + ti.length ∨ badA a
   ·
    rw [if_pos h2] at h; exact absurd h (by decide)
   ·
    rw [if_neg h2] at h ⊢
    have hk := (hr kids).1
    have hl := (wgt_nn 21 line).1
    obtain ⟨q1, q2, q3⟩ := hLoop_st hr xs _ (by omega) h
    obtain ⟨q4, q5⟩ := (hr kids).2 (by omega)
    obtain ⟨q6, q7⟩ := (wgt_nn 21 line).2 (by omega)
    unfold badA at h2
    refine ⟨by omega, ?_, by simp only [szB, szb, List.length_cons]; omega⟩
    unfold smY smY1
    exact ⟨⟨by omega, by omega, by omega, by omega, q7, q5⟩, q2⟩
  ·
   rw [if_neg h1] at h; exact absurd h h1
theorem hvy_nn : ∀ (f : Nat), RecB (hvy f)
 | 0 => fun kids => ⟨by rw [hvy]; decide, fun h => by rw [hvy] at h; exact absurd h (by decide)⟩
 | f + 1 => by
  have ih := hvy_nn f
  intro kids
  rw [hvy]
  by_cases h : 200 < kids.length
  ·
   rw [if_pos h]; exact ⟨by decide, fun h => absurd h (by decide)⟩
  ·
   rw [if_neg h]
   refine ⟨?_, fun h2 => ?_⟩
   ·
    rcases hLoop_small ih kids kids.length (by omega) with h | h <;> omega
   ·
    obtain ⟨q1, q2, q3⟩ := hLoop_st ih kids _ (by omega) h2
    exact ⟨by omega, q2⟩
theorem small_st {d : DDoc} (h : smallB d = true) : d.mts.length ≤ 70 ∧ szB d.blocks ≤ 120 ∧ smY d.blocks := by
 unfold smallB at h
 obtain ⟨h1, h2, h3⟩ := of_decide_eq_true h
 obtain ⟨q1, q2⟩ := (hvy_nn 21 d.blocks).2 (by omega)
 exact ⟨h1, by omega, q2⟩
mutual
theorem smB1_of : ∀ x : Blk, smY1 x → smB1 x
 | .mk k lv inf t d ti a line kids, h => by
  unfold smY1 at h
  unfold smB1
  exact ⟨by omega, by omega, by omega, by omega, smI_of line (smX_mono (by decide) (by decide) line h.2.2.2.2.1), smB_of kids h.2.2.2.2.2⟩
theorem smB_of : ∀ xs : List Blk, smY xs → smB xs
 | [], _ => by unfold smB; trivial
 | x :: xs, h => by
  unfold smY at h
  unfold smB
  exact ⟨smB1_of x h.1, smB_of xs h.2⟩
end
theorem sz_tI (d : Bs) : szI [tI d] = 1 := by simp [tI, szI, sz1]
set_option linter.unusedSimpArgs false
set_option linter.unusedVariables false
set_option maxRecDepth 4000
def pairsN (l : List (Bs × Bs)) : Nat := (l.map fun p => p.1.length + p.2.length).sum
theorem sum_setP (k v : Bs) : ∀ l : List (Bs × Bs), pairsN (setP k v l) ≤ pairsN l + v.length
 | [] => by simp [setP, pairsN]
 | p :: ps => by
  have := sum_setP k v ps
  unfold pairsN at this ⊢
  rw [setP]
  split
  ·
   simp only [List.map_cons, List.sum_cons]; omega
  ·
   simp only [List.map_cons, List.sum_cons]; omega
theorem deco_long (a : DAttr) : longN (decoA a).1 ≤ longN a + 14 := by
 have h := sum_setP roleS decoS a.pairs
 have h2 : decoS.length = 10 := rfl
 have h3 : roleS.length = 4 := rfl
 unfold pairsN at h
 unfold decoA
 split
 ·
  unfold longN; simp only; omega
 ·
  split
  ·
   unfold longN; simp only [List.map_append, List.sum_append, List.map_cons, List.map_nil, List.sum_cons, List.sum_nil]; omega
  ·
   show longN a ≤ _; omega
theorem tI_sm (d : Bs) (h : d.length ≤ 300) : smX1 300 700 (tI d) := by
 unfold tI smX1 nodeB smX
 simp [longN]
 omega
mutual
theorem fix_sm1 : ∀ x : Inl, smX1 300 600 x → smX1 300 700 (fixI1 x).1 ∧ sz1 (fixI1 x).1 ≤ 2 * sz1 x
 | .mk k t d ti a args cites kids, h => by
  unfold smX1 nodeB at h
  obtain ⟨⟨n1, n2, n3, n4, n5, n6, n7, n8⟩, hk⟩ := h
  obtain ⟨q1, q2⟩ := fix_sm kids hk
  rw [fixI1]
  have hkids : smX 300 700 (if (mute (Inl.mk k t d ti a args cites kids) && !blank d) = true then (fixI kids).1 ++ [tI d] else (fixI kids).1) ∧ szI (if (mute (Inl.mk k t d ti a args cites kids) && !blank d) = true then (fixI kids).1 ++ [tI d] else (fixI kids).1) ≤ 2 * szI kids + 1 := by
   split
   ·
    refine ⟨smX_append q1 ?_, ?_⟩
    ·
     unfold smX; exact ⟨tI_sm d (by omega), by unfold smX; trivial⟩
    ·
     rw [szI_append, sz_tI]; omega
   ·
    exact ⟨q1, by omega⟩
  have hda : (if silent (Inl.mk k t d ti a args cites kids) = true then decoA a else (a, false)).1.classes.length ≤ 40 ∧ (if silent (Inl.mk k t d ti a args cites kids) = true then decoA a else (a, false)).1.pairs.length ≤ 40 ∧ longN (if silent (Inl.mk k t d ti a args cites kids) = true then decoA a else (a, false)).1 ≤ 700 := by
   split
   ·
    obtain ⟨e1, e2, e3⟩ := decoA_id a
    have := deco_long a
    rw [e2]
    omega
   ·
    exact ⟨n2, n3, by show longN a ≤ _; omega⟩
  refine ⟨?_, by simp only [sz1]; omega⟩
  unfold smX1 nodeB
  exact ⟨⟨n1, hda.1, hda.2.1, hda.2.2, n5, n6, n7, n8⟩, hkids.1⟩
theorem fix_sm : ∀ xs : List Inl, smX 300 600 xs → smX 300 700 (fixI xs).1 ∧ szI (fixI xs).1 ≤ 2 * szI xs
 | [], _ => ⟨by rw [fixI]; unfold smX; trivial, by rw [fixI]; simp [szI]⟩
 | x :: xs, h => by
  unfold smX at h
  obtain ⟨q1, q2⟩ := fix_sm1 x h.1
  obtain ⟨q3, q4⟩ := fix_sm xs h.2
  rw [fixI]
  refine ⟨by unfold smX; exact ⟨q1, q3⟩, by simp only [szI]; omega⟩
end
theorem own_sm (k : Int) {line : List Inl} (h : smX 300 600 line) : smX 300 700 (ownR k line).1 ∧ szI (ownR k line).1 ≤ 2 * szI line + 1 := by
 obtain ⟨q1, q2⟩ := fix_sm line h
 unfold ownR
 split
 ·
  refine ⟨smX_append q1 ?_, ?_⟩
  ·
   unfold smX; exact ⟨tI_sm untS (by decide), by unfold smX; trivial⟩
  ·
   show szI ((fixI line).1 ++ [tI untS]) ≤ _
   rw [szI_append, sz_tI]; omega
 ·
  exact ⟨q1, by omega⟩
def PQ (c : Nat) (p : Option Inl) : Prop := ∀ k t d ti a args cites kids, p = some (.mk k t d ti a args cites kids) → t.length ≤ c ∧ nodeB 300 700 [] d ti a args cites ∧ smX 90000 700 kids
theorem PQ.none (c : Nat) : PQ c none := fun _ _ _ _ _ _ _ _ h => by cases h
theorem PQ.big {c : Nat} {k : Int} {t d ti : Bs} {a : DAttr} {args : List Bs} {cites : List DCite} {kids : List Inl} (h : PQ c (some (.mk k t d ti a args cites kids))) (hc : c + 300 ≤ 90000) : smX1 90000 700 (.mk k t d ti a args cites kids) := by
 obtain ⟨h1, h2, h3⟩ := h _ _ _ _ _ _ _ _ rfl
 unfold nodeB at h2
 simp only [List.length_nil] at h2
 unfold smX1 nodeB
 exact ⟨⟨by omega, h2.2⟩, h3⟩
theorem PQ.list {c : Nat} {p : Option Inl} (h : PQ c p) (hc : c + 300 ≤ 90000) : smX 90000 700 p.toList := by
 cases p with
 | none => simp only [Option.toList_none]; unfold smX; trivial
 | some q =>
  obtain ⟨k, t, d, ti, a, args, cites, kids⟩ := q
  simp only [Option.toList_some]
  unfold smX
  exact ⟨h.big hc, by unfold smX; trivial⟩
mutual
theorem mg1_sm : ∀ x : Inl, smX1 300 700 x → 300 * sz1 x + 300 ≤ 90000 → smX1 90000 700 (mg1 x) ∧ sz1 (mg1 x) ≤ sz1 x
 | .mk k t d ti a args cites kids, h, hM => by
  unfold smX1 at h
  simp only [sz1] at hM
  obtain ⟨q1, q2⟩ := mg_sm kids none 0 h.2 (PQ.none 0) (by omega)
  rw [mg1]
  refine ⟨?_, by simp only [sz1, Option.toList_none, szI] at q2 ⊢; omega⟩
  unfold smX1
  exact ⟨nodeB_mono (by decide) (by decide) h.1, q1⟩
theorem mg_sm : ∀ (xs : List Inl) (p : Option Inl) (c : Nat), smX 300 700 xs → PQ c p → c + 300 * szI xs + 300 ≤ 90000 → smX 90000 700 (mg p xs) ∧ szI (mg p xs) ≤ szI p.toList + szI xs
 | [], p, c, _, hp, hM => by
  rw [mg]
  exact ⟨hp.list (by omega), by omega⟩
 | x :: xs, p, c, h, hp, hM => by
  unfold smX at h
  have hs : 1 ≤ sz1 x := by cases x; simp [sz1]
  simp only [szI] at hM ⊢
  obtain ⟨q1, q2⟩ := mg1_sm x h.1 (by omega)
  rw [mg]
  split
  ·
   -- a text
   have hadd : PQ (c + 300) (addT p (mg1 x)) ∧ szI (addT p (mg1 x)).toList ≤ szI p.toList + sz1 x := by
    obtain ⟨k, t, d, ti, a, args, cites, kids⟩ := x
    have h1 := h.1
    unfold smX1 nodeB at h1
    have hk : smX 90000 700 (mg none kids) := by
     rw [mg1] at q1; unfold smX1 at q1; exact q1.2
    have hn : nodeB 300 700 [] d ti a args cites := by
     unfold nodeB
     exact ⟨by simp only [List.length_nil]; omega, h1.1.2⟩
    cases p with
    | none =>
     rw [mg1, addT]
     split
     ·
      exact ⟨PQ.none _, by simp [szI]⟩
     ·
      refine ⟨fun k' t' d' ti' a' args' cites' kids' he => ?_, ?_⟩
      ·
       cases he
       exact ⟨by omega, hn, hk⟩
      ·
       rw [mg1] at q2
       simp only [Option.toList_some, szI]; omega
    | some q =>
     obtain ⟨k2, t2, d2, ti2, a2, args2, cites2, kids2⟩ := q
     obtain ⟨w1, w2, w3⟩ := hp _ _ _ _ _ _ _ _ rfl
     refine ⟨fun k' t' d' ti' a' args' cites' kids' he => ?_, ?_⟩
     ·
      rw [mg1, addT] at he
      simp only [setT, txtI, Option.some.injEq] at he
      cases he
      exact ⟨by rw [List.length_append]; omega, w2, w3⟩
     ·
      rw [addT]
      simp only [setT, Option.toList_some, szI, sz1]; omega
   obtain ⟨q3, q4⟩ := mg_sm xs _ (c + 300) h.2 hadd.1 (by omega)
   exact ⟨q3, by omega⟩
  ·
   obtain ⟨q3, q4⟩ := mg_sm xs none 0 h.2 (PQ.none 0) (by omega)
   refine ⟨smX_append (hp.list (by omega)) (by unfold smX; exact ⟨q1, q3⟩), ?_⟩
   rw [szI_append]
   simp only [szI, Option.toList_none] at q4 ⊢
   omega
end
theorem lineR_sm (k : Int) {line : List Inl} (h : smX 300 600 line) (hs : szI line ≤ 120) : smI (lineR k line) ∧ szI (lineR k line) ≤ 2 * szI line + 1 := by
 obtain ⟨q1, q2⟩ := own_sm k h
 unfold lineR
 split
 ·
  obtain ⟨q3, q4⟩ := mg_sm (ownR k line).1 none 0 q1 (PQ.none 0) (by omega)
  simp only [Option.toList_none, szI] at q4
  exact ⟨smI_of _ (smX_mono (by decide) (by decide) _ q3), by omega⟩
 ·
  exact ⟨smI_of _ (smX_mono (by decide) (by decide) _ q1), q2⟩
theorem ownR_stay {k : Int} {line : List Inl} (h : doneI line = true) (hb : k = 2 → blank (plain line) = false) : (ownR k line).1 = line := by
 have h1 := done_fix line h
 have h2 := fix_same line h1
 unfold ownR
 rw [if_neg]
 ·
  exact h2
 ·
  rintro ⟨hk, hbl⟩
  rw [h2, hb hk] at hbl
  cases hbl
mutual
theorem fixb_sm : ∀ (x : Blk) (bf : Int), smY1 x → szb x ≤ 120 → smB1 (fixb bf x).1 ∧ rdB1 x ∧ rdB1 (fixb bf x).1 ∧ szb (fixb bf x).1 ≤ 2 * szb x
 | .mk k lv inf t d ti a line kids, bf, h, hs => by
  unfold smY1 at h
  obtain ⟨n1, n2, n3, n4, hl, hk⟩ := h
  simp only [szb] at hs
  obtain ⟨q1, q2, q3, q4⟩ := fixB_sm kids (befR k lv bf) hk (by omega)
  obtain ⟨w1, w2⟩ := lineR_sm k hl (by omega)
  obtain ⟨w3, w4⟩ := own_sm k hl
  have w5 : (ownR k (lineR k line)).1 = lineR k line := ownR_stay (lineR_done k line) fun hk => by rw [lineR_plain, ownR_blank hk]
  rw [fixb]
  refine ⟨?_, ?_, ?_, by simp only [szb]; omega⟩
  ·
   unfold smB1; exact ⟨by omega, by omega, by omega, by omega, w1, q1⟩
  ·
   unfold rdB1; exact ⟨⟨smI_of _ (smX_mono (by decide) (by decide) _ w3), by omega⟩, q2⟩
  ·
   unfold rdB1; rw [w5]; exact ⟨⟨w1, by omega⟩, q3⟩
theorem fixB_sm : ∀ (xs : List Blk) (bf : Int), smY xs → szB xs ≤ 120 → smB (fixB bf xs).1 ∧ rdB xs ∧ rdB (fixB bf xs).1 ∧ szB (fixB bf xs).1 ≤ 2 * szB xs
 | [], bf, _, _ => by
  rw [fixB]
  exact ⟨by unfold smB; trivial, by unfold rdB; trivial, by unfold rdB; trivial, by simp [szB]⟩
 | x :: xs, bf, h, hs => by
  unfold smY at h
  simp only [szB] at hs
  obtain ⟨q1, q2, q3, q4⟩ := fixb_sm x bf h.1 (by omega)
  obtain ⟨w1, w2, w3, w4⟩ := fixB_sm xs (fixb bf x).2 h.2 (by omega)
  rw [fixB]
  exact ⟨by unfold smB; exact ⟨q1, w1⟩, by unfold rdB; exact ⟨q2, w2⟩, by unfold rdB; exact ⟨q3, w3⟩, by simp only [szB]; omega⟩
end
theorem rep_sm {bs : List Blk} (h : smY bs) (hs : szB bs ≤ 120) : smB bs ∧ rdB bs ∧ smB (repB bs) ∧ rdB (repB bs) ∧ szB (repB bs) ≤ 240 := by
 obtain ⟨q1, q2, q3, q4⟩ := fixB_sm bs 0 h hs
 exact ⟨smB_of bs h, q2, q1, q3, by unfold repB; omega⟩
theorem repM_len (ps : List (Bs × Bs)) (bs : List Blk) : (repM ps bs).length ≤ ps.length + 2 := by
 unfold repM metaR
 have h1 := fill_up titS (titleR (repB bs)) (fillM langS enS ps)
 have h2 := fill_up langS enS ps
 omega
set_option linter.unusedSimpArgs false
set_option linter.unusedVariables false
set_option maxRecDepth 4000
set_option maxHeartbeats 4000000 in
theorem blocks_fn (n : Nat) : ∀ (v : Value) (xs : List Blk) (b : Nat) (bf : Int) (u : View), szB xs ≤ n → szB xs ≤ 1000 → smB xs → rdB xs → IntOk bf → bf + szB xs ≤ 100000 → BlkS u v xs →
  FnO Tryz.prog 18 [v, .pointer (some ⟨b, 0, none⟩)] u [(some b, .box [.int .i64 bf])] fun r u' l' => l' = [(some b, .box [.int .i64 (fixB bf xs).2])] ∧ BlkS u' r (fixB bf xs).1 ∧ IntOk (fixB bf xs).2 ∧ (fixB bf xs).2 ≤ bf + szB xs := by
 induction n using Nat.strongRecOn with
 | _ n ih =>
 intro v xs b bf u hsz hbig hsm hrd hbi hbB ha
 have hlx := len_szB xs
 obtain ⟨cs, ⟨ad, cap, rfl, h1⟩, hc1⟩ := ha
 have hcl := hc1.len
 refine FnO.intro [.tmp 4] Tryz.func18 rfl rfl rfl ?_
 intro w0 D hw0
 refine wc_pin 1 1000 _ 0 rfl rfl ?_
 refine wc_seq ?_
 refine wc_region ?_
 refine ya rfl rfl ?_
 refine rl_end (ρ' := [(0, _), (1, _)]) ⟨rfl, rfl, trivial⟩ ?_
 refine q_then ?_
 refine wc_seq ?_
 refine wc_region ?_
 refine ym rfl rfl ?_
 refine rl_do rfl rfl ?_
 refine do_call_o (caps := []) (ρ' := [(0, _), (1, _)]) [] [611] trivial rfl rfl rfl Tryz.c35 rfl rfl ⟨rfl, rfl, trivial⟩ rfl rfl rfl (FnO.mono (cloneBlkW_fn _ xs.length cs (by omega) hc1.ones u ⟨_, _, rfl, h1⟩) ?_)
 rintro v uO l1 hleO ⟨ado, capo, rfl, rfl⟩ -
 refine ⟨trivial, ?_⟩
 refine ya rfl rfl ?_
 refine rl_end (ρ' := [(0, _), (1, _), (5, _)]) ⟨rfl, rfl, rfl, trivial⟩ ?_
 refine q_then ?_
 refine wc_seq ?_
 refine wc_seq ?_
 refine wc_region ?_
 refine ym rfl rfl ?_
 refine rl_y (y_len_v rfl rfl Tryz.s23 rfl) rfl ?_
 refine ym rfl rfl ?_
 refine rl_end (ρ' := [(1, _), (5, _), (12, _), (13, _), (14, _)]) ⟨rfl, rfl, rfl, rfl, rfl, trivial⟩ ?_
 refine q_then ?_
 refine wc_block ?_
 refine wc_loop (fun m ρ σ u' => ∃ i : Nat, i + m = xs.length ∧ VLe uO u' ∧ ∃ (acc : List Value), σ = [(611, (none, .rwv (.slice ado xs.length capo) 39 11 xs.length (acc ++ cs.drop (i * 11)))), (1000, (some b, .box [.int .i64 (fixB bf (xs.take i)).2]))] ∧ ρ = [(1, .p 1000 0), (5, .v (.slice ado xs.length capo)), (12, .v (.slice ad xs.length cap)), (13, .v (.int .i64 xs.length)), (14, .v (.int .i64 i))] ∧ (BlksC u' (fixB bf (xs.take i)).1 acc ∧ IntOk (fixB bf (xs.take i)).2 ∧ (fixB bf (xs.take i)).2 ≤ bf + szB (xs.take i))) (xs.length) ?_ ?_
 ·
  refine ⟨[(1, _), (5, _), (12, _), (13, _), (14, _)], [(611, _), (1000, _)], ⟨rfl, rfl, rfl, rfl, rfl, trivial⟩, ⟨rfl, rfl, trivial⟩, 0, by omega, VLe.refl _, [], (by simp [fixB]), rfl, ?_⟩
  exact ⟨BlksC.nil, hbi, by simp [fixB, szB]⟩
 ·
  rintro m ρ σ u' ⟨i, hi3, hle3, acc, rfl, rfl, ⟨hacc, hXi, hXb⟩⟩
  refine wc_seq ?_
  refine wc_region ?_
  refine rl_y (y_lss rfl rfl rfl) rfl ?_
  refine rl_end (ρ' := [(1, _), (5, _), (12, _), (13, _), (14, _), (15, _)]) ⟨rfl, rfl, rfl, rfl, rfl, rfl, trivial⟩ ?_
  refine q_then ?_
  refine wc_seq ?_
  refine wc_cond rfl (fun hb3 => ?_) (fun hb3 => ?_)
  ·
   have hlt : i < xs.length := (by have := of_decide_eq_true hb3; omega)
   refine wc_skip ?_
   refine q_then ?_
   refine wc_seq ?_
   refine wc_block ?_
   refine wc_seq ?_
   have hle5 : VLe u u' := hleO.trans hle3
   have h1 := h1.mono hle5
   have hc1 := hc1.mono hle5
   obtain ⟨k, lv, inf, t, d, ti, a, line, kids, vc, vp, vl, vk, hg, hcut1, s1, s2, s3, s4, hok⟩ := hc1.at hlt
   have hx := hc1.get i _ hg
   rw [hcut1] at hx
   have oneAll := hx.one
   have hsm1 := smB_get hsm hg
   have hsm2 := hsm1
   unfold smB1 at hsm2
   obtain ⟨n1, n2, n3, n4, hsml, hsmk⟩ := hsm2
   have hrd1 := rdB_get hrd hg
   unfold rdB1 at hrd1
   obtain ⟨hown, hrdk⟩ := hrd1
   obtain ⟨hf1, hf2⟩ := own_fix hown
   have hszk := szB_kids hg
   have hstk := szB_take_get hg
   have hst := szB_take hg
   simp only [szb] at hstk hst
   obtain ⟨hft1, hft2⟩ := fixB_take hg bf
   have hacl := hacc.len
   rw [fixB_len, List.length_take, Nat.min_eq_left (by omega)] at hacl
   have hlv : IntOk lv := by unfold BlkOk at hok; exact hok.2.1
   have hfl := fixI_len line
   have hll := len_szI line
   have hlkk := len_szB kids
   have hXi0 := hXi
   have hbd : (fixB bf (xs.take i)).2 ≤ 100000 := by omega
   generalize hX : (fixB bf (xs.take i)).2 = X at *
   have hfb : fixb X (.mk k lv inf t d ti a line kids) = (.mk k (levR k lv X) inf t d ti a (lineR k line) (fixB (befR k lv X) kids).1, (fixB (befR k lv X) kids).2) := by rw [fixb]
   rw [hfb] at hft1 hft2
   simp only at hft1 hft2
   unfold IntOk at hXi hlv
   have hbfi : IntOk (befR k lv X) := by unfold befR IntOk; split <;> omega
   have hbfb : befR k lv X ≤ X + 1 := by unfold befR; split <;> omega
   have hlvi : IntOk (levR k lv X) := by unfold levR IntOk; split <;> omega
   have hlRl : (lineR k line).length ≤ 1000 := by
    have h1 := len_szI (ownR k line).1
    have h2 := mg_len (ownR k line).1 none
    simp only [Option.toList_none, List.length_nil] at h2
    unfold lineR
    split <;> omega
   refine wc_region ?_
   refine ym rfl rfl ?_
   refine rl_y (y_index_e rfl Tryz.s23 rfl rfl (by assumption) (by first | rfl | omega) (by omega)) rfl ?_
   refine rl_y (y_load_el rfl Tryz.k39 rfl (by assumption) (by omega) (by assumption) (vs := [_, _, _, _, _, _, _, _, _, _, _]) rfl rfl rfl rfl) rfl ?_
   refine rl_do rfl rfl ?_
   refine do_alloc trivial Tryz.z39 rfl rfl rfl ?_
   refine ya rfl rfl ?_
   refine rl_do rfl rfl ?_
   refine do_store_p trivial rfl Tryz.k39 rfl rfl rfl (vs := [_, _, _, _, _, _, _, _, _, _, _]) rfl rfl (by first | rfl | assumption | simp [Value.oneCell', str]) (Nat.le_of_ble_eq_true rfl) rfl ?_
   refine rl_end (ρ' := [(1, _), (5, _), (6, _), (7, _), (12, _), (13, _), (14, _)]) ⟨rfl, rfl, rfl, rfl, rfl, rfl, rfl, trivial⟩ ?_
   refine q_then ?_
   refine wc_seq ?_
   refine wc_region ?_
   refine rl_y (y_field_p rfl Tryz.f39' rfl (by decide) rfl) rfl ?_
   refine rl_y (y_field_p rfl Tryz.f36' rfl (by decide) rfl) rfl ?_
   refine rl_y (y_load_p rfl Tryz.k34 rfl rfl rfl (vs := [_]) rfl rfl rfl) rfl ?_
   refine rl_do rfl rfl ?_
   refine do_call (caps := []) trivial rfl rfl Tryz.c36 rfl (FnP.mono (cloneStr_fn vc a.classes (by omega) u' s1) ?_)
   rintro v uA hle0 ⟨ad1, cap1, rfl, w1⟩ hleA
   refine rl_y (y_field_p rfl Tryz.f39' rfl (by decide) rfl) rfl ?_
   refine rl_y (y_field_p rfl Tryz.f36' rfl (by decide) rfl) rfl ?_
   refine rl_do rfl rfl ?_
   refine do_store_p trivial rfl Tryz.k34 rfl rfl rfl (vs := [_]) rfl rfl (by first | rfl | assumption | simp [Value.oneCell', str]) (Nat.le_of_ble_eq_true rfl) rfl ?_
   refine rl_end (ρ' := [(1, _), (5, _), (6, _), (7, _), (12, _), (13, _), (14, _)]) ⟨rfl, rfl, rfl, rfl, rfl, rfl, rfl, trivial⟩ ?_
   refine q_then ?_
   refine wc_seq ?_
   refine wc_region ?_
   refine rl_y (y_field_p rfl Tryz.f39' rfl (by decide) rfl) rfl ?_
   refine rl_y (y_field_p rfl Tryz.f36' rfl (by decide) rfl) rfl ?_
   refine rl_y (y_load_p rfl Tryz.k22 rfl rfl rfl (vs := [_]) rfl rfl rfl) rfl ?_
   refine rl_do rfl rfl ?_
   refine do_call (caps := []) trivial rfl rfl Tryz.c17 rfl (FnP.mono (clonePr_fn vp a.pairs (by omega) uA (s2.mono hleA)) ?_)
   rintro v uB hle0 ⟨ad2, cap2, rfl, w2⟩ hleB
   refine rl_y (y_field_p rfl Tryz.f39' rfl (by decide) rfl) rfl ?_
   refine rl_y (y_field_p rfl Tryz.f36' rfl (by decide) rfl) rfl ?_
   refine rl_do rfl rfl ?_
   refine do_store_p trivial rfl Tryz.k22 rfl rfl rfl (vs := [_]) rfl rfl (by first | rfl | assumption | simp [Value.oneCell', str]) (Nat.le_of_ble_eq_true rfl) rfl ?_
   refine rl_end (ρ' := [(1, _), (5, _), (6, _), (7, _), (12, _), (13, _), (14, _)]) ⟨rfl, rfl, rfl, rfl, rfl, rfl, rfl, trivial⟩ ?_
   refine q_then ?_
   refine wc_seq ?_
   refine wc_region ?_
   refine rl_y (y_field_p rfl Tryz.f39' rfl (by decide) rfl) rfl ?_
   refine rl_y (y_load_p rfl Tryz.k37 rfl rfl rfl (vs := [_]) rfl rfl rfl) rfl ?_
   refine rl_do rfl rfl ?_
   refine do_call_o (caps := []) (ρ' := [(1, _), (5, _), (6, _), (7, _), (12, _), (13, _), (14, _)]) [] [634] trivial rfl rfl rfl Tryz.c37 rfl rfl ⟨rfl, rfl, rfl, rfl, rfl, rfl, rfl, trivial⟩ rfl rfl rfl (FnO.mono (line_fn (szI line) vl line uB (Nat.le_refl _) (by omega) hsml ((s3.mono hleA).mono hleB)) ?_)
   rintro v uC l1 hleC ⟨ad5, cap5, c5, rfl, rfl, w5⟩ -
   refine ⟨trivial, ?_⟩
   refine ym rfl rfl ?_
   refine rl_y (y_extract rfl rfl rfl) rfl ?_
   refine rl_y (y_extract rfl rfl rfl) rfl ?_
   refine ya rfl rfl ?_
   refine ya rfl rfl ?_
   refine rl_end (ρ' := [(1, _), (5, _), (6, _), (7, _), (8, _), (9, _), (12, _), (13, _), (14, _)]) ⟨rfl, rfl, rfl, rfl, rfl, rfl, rfl, rfl, rfl, trivial⟩ ?_
   refine q_then ?_
   refine wc_cut (fun ρ σ uc14 => ∃ (ad6 : Option Addr) (cap6 : Nat) (c6 : List Value), VLe uC uc14 ∧ σ = [(611, (none, .rwv (.slice ado xs.length capo) 39 11 xs.length (acc ++ cs.drop (i * 11)))), (1000, (some b, .box [.int .i64 (befR k lv X)])), (7, (none, .box [.int .i64 k, .int .i64 (levR k lv X), str inf, str t, str d, str ti, str a.id, .slice ad1 a.classes.length cap1, .slice ad2 a.pairs.length cap2, vl, vk])), (634, (none, .rwv (.slice ad6 (ownR k line).1.length cap6) 45 10 (ownR k line).1.length c6))] ∧ ρ = [(1, .p 1000 0), (5, .v (.slice ado xs.length capo)), (6, .v (.int .i64 i)), (7, .p 7 0), (8, .v (.slice ad6 (ownR k line).1.length cap6)), (9, .v (.bool (ownR k line).2)), (12, .v (.slice ad xs.length cap)), (13, .v (.int .i64 xs.length)), (14, .v (.int .i64 i))] ∧ (InlsC uc14 (ownR k line).1 c6)) ?_ ?_
   ·
    refine wc_seq ?_
    refine wc_region ?_
    refine rl_y (y_field_p rfl Tryz.f39' rfl (by decide) rfl) rfl ?_
    refine rl_y (y_load_p rfl Tryz.k3 rfl rfl rfl (vs := [_]) rfl rfl rfl) rfl ?_
    refine rl_y (y_eql rfl rfl rfl) rfl ?_
    refine rl_end (ρ' := [(1, _), (5, _), (6, _), (7, _), (8, _), (9, _), (12, _), (13, _), (14, _), (39, _)]) ⟨rfl, rfl, rfl, rfl, rfl, rfl, rfl, rfl, rfl, rfl, trivial⟩ ?_
    refine q_then ?_
    refine wc_cond rfl (fun hb8 => ?_) (fun hb8 => ?_)
    ·
     have h8 : k = 2 := of_decide_eq_true hb8
     have hbe : befR k lv X = min lv (X + 1) := if_pos h8
     have hlr : levR k lv X = min lv (X + 1) := if_pos h8
     refine wc_seq ?_
     refine wc_seq ?_
     refine wc_region ?_
     refine ym rfl rfl ?_
     refine rl_do rfl rfl ?_
     refine do_call_bw (caps := []) 634 trivial rfl rfl Tryz.c20 rfl rfl ?_
     intro ub hleb hslb
     refine FnP.mono (trimmed_fn _ (fixI line).1 hf2 (aI_tx _ hf1) ub (inlS_of' hslb (w5.mono hleb))) ?_
     rintro v u1 hle1 rfl
     refine rl_y (y_str_eql rfl rfl rfl) rfl ?_
     refine rl_end (ρ' := [(1, _), (5, _), (6, _), (7, _), (8, _), (9, _), (12, _), (13, _), (14, _), (42, _)]) ⟨rfl, rfl, rfl, rfl, rfl, rfl, rfl, rfl, rfl, rfl, trivial⟩ ?_
     refine q_then ?_
     refine wc_cond rfl (fun hb9 => ?_) (fun hb9 => ?_)
     ·
      have h9 : blank (plain (fixI line).1) = true := (trim_nil _).1 (of_decide_eq_true hb9)
      have hO : ownR k line = ((fixI line).1 ++ [tI untS], true) := if_pos ⟨h8, h9⟩
      have hOn : (ownR k line).1.length = (fixI line).1.length + 1 := by rw [hO]; simp
      have hO2 : (ownR k line).2 = true := by rw [hO]
      refine wc_seq ?_
      refine wc_region ?_
      refine ym rfl rfl ?_
      refine rl_y (y_build rfl Tryz.f45' Tryz.z45 (ps := [(_, _), (_, _)]) rfl (vs := [_, _, _, _, _, _, _, _, _, _]) rfl) rfl ?_
      refine rl_do rfl rfl ?_
      refine do_buildSlice trivial Tryz.s37 Tryz.z45 (ps := [(_, _)]) rfl (xs := [_, _, _, _, _, _, _, _, _, _]) rfl rfl rfl rfl rfl rfl rfl ?_
      refine rl_do rfl rfl ?_
      refine do_append_w_s 634 trivial rfl rfl Tryz.s37 Tryz.z45 rfl rfl rfl rfl rfl rfl (by simp [Value.oneCell', str]) (by omega) (by omega) rfl rfl ?_
      intro ad10 cap10
      refine ya rfl rfl ?_
      refine rl_end (ρ' := [(1, _), (5, _), (6, _), (7, _), (8, _), (12, _), (13, _), (14, _)]) ⟨rfl, rfl, rfl, rfl, rfl, rfl, rfl, rfl, trivial⟩ ?_
      refine q_then ?_
      refine wc_region ?_
      refine ya rfl rfl ?_
      refine rl_end (ρ' := [(1, _), (5, _), (6, _), (7, _), (8, _), (9, _), (12, _), (13, _), (14, _)]) ⟨rfl, rfl, rfl, rfl, rfl, rfl, rfl, rfl, rfl, trivial⟩ ?_
      refine q_then ?_
      refine wc_seq ?_
      refine wc_draw Tryz.mixed rfl [(1000, _)] ⟨rfl, trivial⟩ ?_
      refine ra_y (i := 0) rfl (by kernel_rfl) (by kernel_rfl) (by kernel_rfl) (np_then (np_then (np_block (np_then (np_then (np_block (np_then (np_finO)))))))) (y_field_p rfl Tryz.f39' rfl (by decide) rfl) rfl ?_
      refine ra_y (i := 2) rfl (by kernel_rfl) (by kernel_rfl) (by kernel_rfl) (np_then (np_then (np_block (np_then (np_then (np_block (np_then (np_finO)))))))) (y_move rfl rfl) rfl ?_
      refine ra_y (i := 3) rfl (by kernel_rfl) (by kernel_rfl) (by kernel_rfl) (np_then (np_then (np_block (np_then (np_then (np_block (np_then (np_finO)))))))) (y_nilCheck_p rfl rfl) rfl ?_
      refine ra_y (i := 4) rfl (by kernel_rfl) (by kernel_rfl) (by kernel_rfl) (np_then (np_then (np_block (np_then (np_then (np_block (np_then (np_finO)))))))) (y_load_p rfl Tryz.k3 rfl rfl rfl (vs := [_]) rfl rfl rfl) rfl ?_
      refine ra_y (i := 5) rfl (by kernel_rfl) (by kernel_rfl) (by kernel_rfl) (np_then (np_then (np_block (np_then (np_then (np_block (np_then (np_finO)))))))) (y_add rfl rfl rfl (wrap64_id (by omega))) rfl ?_
      refine ra_do (i := 1) rfl rfl (by kernel_rfl) ?_
      refine do_y (y_load_p rfl Tryz.k3 rfl rfl rfl (vs := [_]) rfl rfl rfl) rfl ?_
      refine ra_y (i := 6) rfl (by kernel_rfl) (by kernel_rfl) (by kernel_rfl) (np_then (np_then (np_block (np_then (np_then (np_block (np_then (np_finO)))))))) (y_min (r := min lv (X + 1)) rfl rfl rfl (by split <;> omega)) rfl ?_
      refine ra_y (i := 7) rfl (by kernel_rfl) (by kernel_rfl) (by kernel_rfl) (np_then (np_then (np_block (np_then (np_then (np_block (np_then (np_finO)))))))) (y_field_p rfl Tryz.f39' rfl (by decide) rfl) rfl ?_
      refine ra_do (i := 8) rfl rfl (by kernel_rfl) ?_
      refine do_store_p ⟨rfl, trivial⟩ rfl Tryz.k3 rfl rfl rfl (vs := [_]) rfl rfl (by first | rfl | assumption | simp [Value.oneCell', str]) (Nat.le_of_ble_eq_true rfl) rfl ?_
      refine ra_end (by kernel_rfl) (ρ' := [(1, _), (5, _), (6, _), (7, _), (8, _), (9, _), (12, _), (13, _), (14, _)]) ⟨rfl, rfl, rfl, rfl, rfl, rfl, rfl, rfl, rfl, trivial⟩ ?_
      refine q_then ?_
      refine wc_region ?_
      refine ym rfl rfl ?_
      refine rl_y (y_field_p rfl Tryz.f39' rfl (by decide) rfl) rfl ?_
      refine rl_y (y_load_p rfl Tryz.k3 rfl rfl rfl (vs := [_]) rfl rfl rfl) rfl ?_
      refine rl_y (y_nilCheck_p rfl rfl) rfl ?_
      refine rl_do rfl rfl ?_
      refine do_store_p trivial rfl Tryz.k3 rfl rfl rfl (vs := [_]) rfl rfl (by first | rfl | assumption | simp [Value.oneCell', str]) (Nat.le_of_ble_eq_true rfl) rfl ?_
      refine rl_end (ρ' := [(1, _), (5, _), (6, _), (7, _), (8, _), (9, _), (12, _), (13, _), (14, _)]) ⟨rfl, rfl, rfl, rfl, rfl, rfl, rfl, rfl, rfl, trivial⟩ ?_
      refine q_thenK ?_
      first
       | (refine ⟨[(1, _), (5, _), (6, _), (7, _), (8, _), (9, _), (12, _), (13, _), (14, _)], [(611, _), (1000, _), (7, _), (634, _)], ⟨rfl, rfl, rfl, rfl, rfl, rfl, rfl, rfl, rfl, trivial⟩, ⟨rfl, rfl, rfl, rfl, trivial⟩, ad10, cap10, c5 ++ [.int .i64 1, str untS, str [], str [], str [], .slice none 0 0, .slice none 0 0, .slice none 0 0, .slice none 0 0, .slice none 0 0], (VLe.refl _), (by rw [hbe, hlr, hOn]; first | done | rfl), (by rw [hOn, hO2]; first | done | rfl), ?_⟩
          (rw [hO]; exact inlsC_snoc w5 (tI_cells _ untS (by decide))))
       | (refine ⟨[(1, _), (5, _), (6, _), (7, _), (8, _), (9, _), (12, _), (13, _), (14, _)], [(611, _), (1000, _), (7, _), (634, _)], ⟨rfl, rfl, rfl, rfl, rfl, rfl, rfl, rfl, rfl, trivial⟩, ⟨rfl, rfl, rfl, rfl, trivial⟩, ad5, cap5, c5, (VLe.refl _), (by rw [hbe, hlr, hOn]; first | done | rfl), (by rw [hOn, hO2]; first | done | rfl), ?_⟩
          (rw [hO]; exact w5))
     ·
      have h9 : ¬ blank (plain (fixI line).1) = true := fun h => absurd ((trim_nil _).2 h) (of_decide_eq_false hb9)
      have hO : ownR k line = fixI line := if_neg fun h => h9 h.2
      have hOn : (ownR k line).1.length = (fixI line).1.length := by rw [hO]
      have hO2 : (ownR k line).2 = (fixI line).2 := by rw [hO]
      refine wc_skip ?_
      refine q_then ?_
      refine wc_seq ?_
      refine wc_draw Tryz.mixed rfl [(1000, _)] ⟨rfl, trivial⟩ ?_
      refine ra_y (i := 0) rfl (by kernel_rfl) (by kernel_rfl) (by kernel_rfl) (np_then (np_then (np_block (np_then (np_then (np_block (np_then (np_finO)))))))) (y_field_p rfl Tryz.f39' rfl (by decide) rfl) rfl ?_
      refine ra_y (i := 2) rfl (by kernel_rfl) (by kernel_rfl) (by kernel_rfl) (np_then (np_then (np_block (np_then (np_then (np_block (np_then (np_finO)))))))) (y_move rfl rfl) rfl ?_
      refine ra_y (i := 3) rfl (by kernel_rfl) (by kernel_rfl) (by kernel_rfl) (np_then (np_then (np_block (np_then (np_then (np_block (np_then (np_finO)))))))) (y_nilCheck_p rfl rfl) rfl ?_
      refine ra_y (i := 4) rfl (by kernel_rfl) (by kernel_rfl) (by kernel_rfl) (np_then (np_then (np_block (np_then (np_then (np_block (np_then (np_finO)))))))) (y_load_p rfl Tryz.k3 rfl rfl rfl (vs := [_]) rfl rfl rfl) rfl ?_
      refine ra_y (i := 5) rfl (by kernel_rfl) (by kernel_rfl) (by kernel_rfl) (np_then (np_then (np_block (np_then (np_then (np_block (np_then (np_finO)))))))) (y_add rfl rfl rfl (wrap64_id (by omega))) rfl ?_
      refine ra_do (i := 1) rfl rfl (by kernel_rfl) ?_
      refine do_y (y_load_p rfl Tryz.k3 rfl rfl rfl (vs := [_]) rfl rfl rfl) rfl ?_
      refine ra_y (i := 6) rfl (by kernel_rfl) (by kernel_rfl) (by kernel_rfl) (np_then (np_then (np_block (np_then (np_then (np_block (np_then (np_finO)))))))) (y_min (r := min lv (X + 1)) rfl rfl rfl (by split <;> omega)) rfl ?_
      refine ra_y (i := 7) rfl (by kernel_rfl) (by kernel_rfl) (by kernel_rfl) (np_then (np_then (np_block (np_then (np_then (np_block (np_then (np_finO)))))))) (y_field_p rfl Tryz.f39' rfl (by decide) rfl) rfl ?_
      refine ra_do (i := 8) rfl rfl (by kernel_rfl) ?_
      refine do_store_p ⟨rfl, trivial⟩ rfl Tryz.k3 rfl rfl rfl (vs := [_]) rfl rfl (by first | rfl | assumption | simp [Value.oneCell', str]) (Nat.le_of_ble_eq_true rfl) rfl ?_
      refine ra_end (by kernel_rfl) (ρ' := [(1, _), (5, _), (6, _), (7, _), (8, _), (9, _), (12, _), (13, _), (14, _)]) ⟨rfl, rfl, rfl, rfl, rfl, rfl, rfl, rfl, rfl, trivial⟩ ?_
      refine q_then ?_
      refine wc_region ?_
      refine ym rfl rfl ?_
      refine rl_y (y_field_p rfl Tryz.f39' rfl (by decide) rfl) rfl ?_
      refine rl_y (y_load_p rfl Tryz.k3 rfl rfl rfl (vs := [_]) rfl rfl rfl) rfl ?_
      refine rl_y (y_nilCheck_p rfl rfl) rfl ?_
      refine rl_do rfl rfl ?_
      refine do_store_p trivial rfl Tryz.k3 rfl rfl rfl (vs := [_]) rfl rfl (by first | rfl | assumption | simp [Value.oneCell', str]) (Nat.le_of_ble_eq_true rfl) rfl ?_
      refine rl_end (ρ' := [(1, _), (5, _), (6, _), (7, _), (8, _), (9, _), (12, _), (13, _), (14, _)]) ⟨rfl, rfl, rfl, rfl, rfl, rfl, rfl, rfl, rfl, trivial⟩ ?_
      refine q_thenK ?_
      first
       | (refine ⟨[(1, _), (5, _), (6, _), (7, _), (8, _), (9, _), (12, _), (13, _), (14, _)], [(611, _), (1000, _), (7, _), (634, _)], ⟨rfl, rfl, rfl, rfl, rfl, rfl, rfl, rfl, rfl, trivial⟩, ⟨rfl, rfl, rfl, rfl, trivial⟩, ad10, cap10, c5 ++ [.int .i64 1, str untS, str [], str [], str [], .slice none 0 0, .slice none 0 0, .slice none 0 0, .slice none 0 0, .slice none 0 0], (VLe.refl _), (by rw [hbe, hlr, hOn]; first | done | rfl), (by rw [hOn, hO2]; first | done | rfl), ?_⟩
          (rw [hO]; exact inlsC_snoc w5 (tI_cells _ untS (by decide))))
       | (refine ⟨[(1, _), (5, _), (6, _), (7, _), (8, _), (9, _), (12, _), (13, _), (14, _)], [(611, _), (1000, _), (7, _), (634, _)], ⟨rfl, rfl, rfl, rfl, rfl, rfl, rfl, rfl, rfl, trivial⟩, ⟨rfl, rfl, rfl, rfl, trivial⟩, ad5, cap5, c5, (VLe.refl _), (by rw [hbe, hlr, hOn]; first | done | rfl), (by rw [hOn, hO2]; first | done | rfl), ?_⟩
          (rw [hO]; exact w5))
    ·
     have h8 : ¬ k = 2 := of_decide_eq_false hb8
     have hbe : befR k lv X = X := if_neg h8
     have hlr : levR k lv X = lv := if_neg h8
     have hO : ownR k line = fixI line := if_neg fun h => h8 h.1
     have hOn : (ownR k line).1.length = (fixI line).1.length := by rw [hO]
     have hO2 : (ownR k line).2 = (fixI line).2 := by rw [hO]
     refine wc_skip ?_
     refine q_thenK ?_
     first
      | (refine ⟨[(1, _), (5, _), (6, _), (7, _), (8, _), (9, _), (12, _), (13, _), (14, _)], [(611, _), (1000, _), (7, _), (634, _)], ⟨rfl, rfl, rfl, rfl, rfl, rfl, rfl, rfl, rfl, trivial⟩, ⟨rfl, rfl, rfl, rfl, trivial⟩, ad10, cap10, c5 ++ [.int .i64 1, str untS, str [], str [], str [], .slice none 0 0, .slice none 0 0, .slice none 0 0, .slice none 0 0, .slice none 0 0], (VLe.refl _), (by rw [hbe, hlr, hOn]; first | done | rfl), (by rw [hOn, hO2]; first | done | rfl), ?_⟩
         (rw [hO]; exact inlsC_snoc w5 (tI_cells _ untS (by decide))))
      | (refine ⟨[(1, _), (5, _), (6, _), (7, _), (8, _), (9, _), (12, _), (13, _), (14, _)], [(611, _), (1000, _), (7, _), (634, _)], ⟨rfl, rfl, rfl, rfl, rfl, rfl, rfl, rfl, rfl, trivial⟩, ⟨rfl, rfl, rfl, rfl, trivial⟩, ad5, cap5, c5, (VLe.refl _), (by rw [hbe, hlr, hOn]; first | done | rfl), (by rw [hOn, hO2]; first | done | rfl), ?_⟩
         (rw [hO]; exact w5))
   ·
    rintro ρ σ uc14 ⟨ad6, cap6, c6, hlc14, rfl, rfl, h6⟩
    refine wc_cut (fun ρ σ uc16 => ∃ (adl : Option Addr) (capl : Nat), VLe uc14 uc16 ∧ σ = [(611, (none, .rwv (.slice ado xs.length capo) 39 11 xs.length (acc ++ cs.drop (i * 11)))), (1000, (some b, .box [.int .i64 (befR k lv X)])), (7, (none, .box [.int .i64 k, .int .i64 (levR k lv X), str inf, str t, str d, str ti, str a.id, .slice ad1 a.classes.length cap1, .slice ad2 a.pairs.length cap2, vl, vk]))] ∧ ρ = [(1, .p 1000 0), (5, .v (.slice ado xs.length capo)), (6, .v (.int .i64 i)), (7, .p 7 0), (8, .v (.slice adl (lineR k line).length capl)), (12, .v (.slice ad xs.length cap)), (13, .v (.int .i64 xs.length)), (14, .v (.int .i64 i))] ∧ (InlS uc16 (.slice adl (lineR k line).length capl) (lineR k line))) ?_ ?_
    ·
     refine wc_seq ?_
     refine wc_region ?_
     refine ym rfl rfl ?_
     refine rl_freezeW 634 rfl ?_
     intro uk hlek hslk
     obtain ⟨adk, capk, ek, wk⟩ := hslk
     cases ek
     have hown1 : InlS uk (.slice ad6 (ownR k line).1.length cap6) (ownR k line).1 := inlS_of rfl wk (h6.mono hlek)
     refine rl_end (ρ' := [(1, _), (5, _), (6, _), (7, _), (8, _), (12, _), (13, _), (14, _), (59, _)]) ⟨rfl, rfl, rfl, rfl, rfl, rfl, rfl, rfl, rfl, trivial⟩ ?_
     refine q_then ?_
     refine wc_cond rfl (fun hb14 => ?_) (fun hb14 => ?_)
     ·
      have h14 : (ownR k line).2 = true := hb14
      have hlR : lineR k line = mg none (ownR k line).1 := if_pos h14
      refine wc_region ?_
      refine ym rfl rfl ?_
      refine rl_do rfl rfl ?_
      refine do_call (caps := []) trivial rfl rfl Tryz.c38 rfl (FnP.mono (merge_fn (szI (ownR k line).1) _ _ uk (Nat.le_refl _) hown.2 hown.1 hown1) ?_)
      rintro v uM hle0 ⟨mcs, ⟨adm, capm, rfl, m1⟩, m2⟩ hleM
      refine ya rfl rfl ?_
      refine rl_end (ρ' := [(1, _), (5, _), (6, _), (7, _), (8, _), (12, _), (13, _), (14, _)]) ⟨rfl, rfl, rfl, rfl, rfl, rfl, rfl, rfl, trivial⟩ ?_
      refine q_thenK ?_
      first
       | (refine ⟨[(1, _), (5, _), (6, _), (7, _), (8, _), (12, _), (13, _), (14, _)], [(611, _), (1000, _), (7, _)], ⟨rfl, rfl, rfl, rfl, rfl, rfl, rfl, rfl, trivial⟩, ⟨rfl, rfl, rfl, trivial⟩, adm, capm, (hlek.trans hleM), rfl, (by rw [hlR]; first | done | rfl), ?_⟩
          (rw [hlR]; exact ⟨mcs, ⟨_, _, rfl, m1⟩, m2⟩))
       | (refine ⟨[(1, _), (5, _), (6, _), (7, _), (8, _), (12, _), (13, _), (14, _)], [(611, _), (1000, _), (7, _)], ⟨rfl, rfl, rfl, rfl, rfl, rfl, rfl, rfl, trivial⟩, ⟨rfl, rfl, rfl, trivial⟩, ad6, cap6, hlek, rfl, (by rw [hlR]; first | done | rfl), ?_⟩
          (rw [hlR]; exact hown1))
     ·
      have h14 : (ownR k line).2 = false := hb14
      have hlR : lineR k line = (ownR k line).1 := if_neg (by rw [h14]; simp)
      refine wc_skip ?_
      refine q_thenK ?_
      first
       | (refine ⟨[(1, _), (5, _), (6, _), (7, _), (8, _), (12, _), (13, _), (14, _)], [(611, _), (1000, _), (7, _)], ⟨rfl, rfl, rfl, rfl, rfl, rfl, rfl, rfl, trivial⟩, ⟨rfl, rfl, rfl, trivial⟩, adm, capm, (hlek.trans hleM), rfl, (by rw [hlR]; first | done | rfl), ?_⟩
          (rw [hlR]; exact ⟨mcs, ⟨_, _, rfl, m1⟩, m2⟩))
       | (refine ⟨[(1, _), (5, _), (6, _), (7, _), (8, _), (12, _), (13, _), (14, _)], [(611, _), (1000, _), (7, _)], ⟨rfl, rfl, rfl, rfl, rfl, rfl, rfl, rfl, trivial⟩, ⟨rfl, rfl, rfl, trivial⟩, ad6, cap6, hlek, rfl, (by rw [hlR]; first | done | rfl), ?_⟩
          (rw [hlR]; exact hown1))
    ·
     rintro ρ σ uc16 ⟨adl, capl, hlc16, rfl, rfl, hln⟩
     refine wc_seq ?_
     refine wc_region ?_
     refine ym rfl rfl ?_
     refine rl_y (y_field_p rfl Tryz.f39' rfl (by decide) rfl) rfl ?_
     refine rl_do rfl rfl ?_
     refine do_store_p trivial rfl Tryz.k37 rfl rfl rfl (vs := [_]) rfl rfl (by first | rfl | assumption | simp [Value.oneCell', str]) (Nat.le_of_ble_eq_true rfl) rfl ?_
     refine rl_end (ρ' := [(1, _), (5, _), (6, _), (7, _), (12, _), (13, _), (14, _)]) ⟨rfl, rfl, rfl, rfl, rfl, rfl, rfl, trivial⟩ ?_
     refine q_then ?_
     refine wc_seq ?_
     have hlN : VLe u' uc16 := hleA.trans (hleB.trans (hleC.trans (hlc14.trans hlc16)))
     refine wc_region ?_
     refine rl_y (y_field_p rfl Tryz.f39' rfl (by decide) rfl) rfl ?_
     refine rl_y (y_load_p rfl Tryz.k23 rfl rfl rfl (vs := [_]) rfl rfl rfl) rfl ?_
     refine ym rfl rfl ?_
     refine rl_do rfl rfl ?_
     refine do_call_o (caps := []) (ρ' := [(1, _), (5, _), (6, _), (7, _), (12, _), (13, _), (14, _)]) [1000] [] trivial rfl rfl rfl Tryz.c18 rfl rfl ⟨rfl, rfl, rfl, rfl, rfl, rfl, rfl, trivial⟩ rfl rfl rfl (FnO.mono (ih (szB kids) (by omega) vk kids b (befR k lv X) uc16 (Nat.le_refl _) (by omega) hsmk hrdk hbfi (by omega) (s4.mono hlN)) ?_)
     rintro v uK l1 hleK ⟨rfl, ⟨kcs, ⟨kad, kcap, rfl, hk1⟩, hk2⟩, hki, hkb⟩ -
     refine ⟨⟨fun _ h => h, trivial⟩, ?_⟩
     refine rl_y (y_field_p rfl Tryz.f39' rfl (by decide) rfl) rfl ?_
     refine rl_do rfl rfl ?_
     refine do_store_p trivial rfl Tryz.k23 rfl rfl rfl (vs := [_]) rfl rfl (by first | rfl | assumption | simp [Value.oneCell', str]) (Nat.le_of_ble_eq_true rfl) rfl ?_
     refine rl_end (ρ' := [(1, _), (5, _), (6, _), (7, _), (12, _), (13, _), (14, _)]) ⟨rfl, rfl, rfl, rfl, rfl, rfl, rfl, trivial⟩ ?_
     refine q_then ?_
     refine wc_region ?_
     refine ym rfl rfl ?_
     refine ym rfl rfl ?_
     refine rl_y (y_load_p rfl Tryz.k39 rfl rfl rfl (vs := [_, _, _, _, _, _, _, _, _, _, _]) rfl rfl rfl) rfl ?_
     refine rl_y (y_index_w 611 rfl Tryz.s23 rfl rfl rfl (j := i) rfl hlt) rfl ?_
     refine rl_do rfl rfl ?_
     refine do_store_w trivial rfl Tryz.k39 rfl rfl rfl (vs := [_, _, _, _, _, _, _, _, _, _, _]) rfl rfl rfl (by rw [List.length_append, List.length_drop, hacl, hcl]; omega) (row_step hacl rfl hcl hlt) ?_
     refine rl_end (ρ' := [(1, _), (5, _), (12, _), (13, _), (14, _)]) ⟨rfl, rfl, rfl, rfl, rfl, trivial⟩ ?_
     refine q_block ?_
     refine q_then ?_
     refine wc_region ?_
     refine rl_y (y_add rfl rfl rfl (wrap64_id (by omega))) rfl ?_
     refine ym rfl rfl ?_
     refine rl_end (ρ' := [(1, _), (5, _), (12, _), (13, _), (14, _)]) ⟨rfl, rfl, rfl, rfl, rfl, trivial⟩ ?_
     refine q_thenK ?_
     refine ⟨m - 1, [(1, _), (5, _), (12, _), (13, _), (14, _)], [(611, _), (1000, _)], by omega, ⟨rfl, rfl, rfl, rfl, rfl, trivial⟩, ⟨rfl, rfl, trivial⟩, i + 1, by omega, (hle3.trans (hlN.trans hleK)), _, (by rw [hft2]; first | done | rfl), rfl, ?_⟩
     rw [hft1, hft2]
     refine ⟨?_, hki, by omega⟩
     refine (hacc.mono (hlN.trans hleK)).append (BlksC.one ?_)
     have hok2 := hok
     unfold BlkOk at hok2
     have hfl2 := fixB_len kids (befR k lv X)
     exact BlkC.mk' (a := a) ⟨_, _, rfl, w1.mono ((hleB.trans (hleC.trans (hlc14.trans hlc16))).trans hleK)⟩ ⟨_, _, rfl, w2.mono ((hleC.trans (hlc14.trans hlc16)).trans hleK)⟩ (hln.mono hleK) ⟨kcs, ⟨_, _, rfl, hk1⟩, hk2⟩
      (by unfold BlkOk; exact ⟨hok2.1, hlvi, hok2.2.2.1, hok2.2.2.2.1, hok2.2.2.2.2.1, hok2.2.2.2.2.2.1, hok2.2.2.2.2.2.2.1, by omega, by omega⟩)
  ·
   have hge := of_decide_eq_false hb3
   refine wc_exit ?_
   refine q_then_exit ?_
   refine q_then_exit ?_
   refine q_block_hit ?_
   refine q_then ?_
   refine wc_seq ?_
   refine wc_region ?_
   refine rl_freezeW 611 rfl ?_
   intro uk hlek hslk
   refine ym rfl rfl ?_
   refine ya rfl rfl ?_
   refine rl_end (ρ' := [(4, _)]) ⟨rfl, trivial⟩ ?_
   refine q_then ?_
   refine wc_ret ?_
   refine finO1 [1000] (.tmp rfl) rfl rfl ?_
   have hd : cs.drop (i * 11) = [] := List.drop_eq_nil_of_le (by omega)
   rw [List.take_of_length_le (by omega)] at hacc hXi hXb ⊢
   rw [hd, List.append_nil] at hslk
   exact ⟨rfl, blkS_of' hslk (hacc.mono hlek), hXi, hXb⟩
set_option maxHeartbeats 4000000 in
theorem repair_fn (vm vb : Value) (ps : List (Bs × Bs)) (bs : List Blk) (u : View) (hl : ps.length ≤ 100000) (hbig : szB bs ≤ 1000) (hsm : smB bs) (hrd : rdB bs) (hbig2 : szB (repB bs) ≤ 1000) (hsm2 : smB (repB bs)) (hm : PrS u vm ps) (ha : BlkS u vb bs) :
  FnP Tryz.prog 7 [.agg #[vm, vb]] u fun r u' => ∃ vm' vb', r = .agg #[vm', vb'] ∧ PrS u' vm' (repM ps bs) ∧ BlkS u' vb' (repB bs) := by
 have ham := hm
 have hab := ha
 obtain ⟨adm, capm, rfl, hm1⟩ := hm
 obtain ⟨bcs, ⟨adb, capb, rfl, hb1⟩, hb2⟩ := ha
 refine FnP.intro [.cell 2 25] Tryz.func7 rfl rfl rfl ?_
 intro w0 D hw0
 refine wc_seq ?_
 refine wc_region ?_
 refine rl_do rfl rfl ?_
 refine do_box trivial rfl (cs := [_, _]) rfl rfl rfl rfl ?_
 refine rl_do rfl rfl ?_
 refine do_alloc trivial Tryz.z25 rfl rfl rfl ?_
 refine rl_end (ρ' := [(1, _), (2, _)]) ⟨rfl, rfl, trivial⟩ ?_
 refine q_then ?_
 refine wc_seq ?_
 refine wc_region ?_
 refine rl_do rfl rfl ?_
 refine do_alloc trivial Tryz.z3 rfl rfl rfl ?_
 refine rl_do rfl rfl ?_
 refine do_store_p trivial rfl Tryz.k3 rfl rfl rfl (vs := [_]) rfl rfl (by first | rfl | assumption | simp [Value.oneCell', str]) (Nat.le_of_ble_eq_true rfl) rfl ?_
 refine rl_name 3 rfl ⟨3, _, .inl rfl⟩ ?_
 intro b3
 refine rl_end (ρ' := [(1, _), (2, _), (3, _)]) ⟨rfl, rfl, rfl, trivial⟩ ?_
 refine q_then ?_
 refine wc_cut (fun ρ σ uc3 => ∃ (adp : Option Addr) (capp : Nat) (adr : Option Addr) (capr : Nat), VLe u uc3 ∧ σ = [(2, (none, .box [.slice none 0 0, .slice none 0 0])), (4, (none, .box [.slice adp ps.length capp, .slice adr (repB bs).length capr])), (609, (none, .rwv (.slice adp ps.length capp) 49 2 ps.length (pairsC ps)))] ∧ ρ = [(2, .p 2 0), (4, .p 4 0)] ∧ (BlkS uc3 (.slice adr (repB bs).length capr) (repB bs))) ?_ ?_
 ·
  refine wc_draw Tryz.mixed rfl [(1, _)] ⟨rfl, trivial⟩ ?_
  refine ra_y (i := 0) rfl (by kernel_rfl) (by kernel_rfl) (by kernel_rfl) (np_then (np_fin)) (y_field_p rfl Tryz.f25' rfl (by decide) rfl) rfl ?_
  refine ra_y (i := 1) rfl (by kernel_rfl) (by kernel_rfl) (by kernel_rfl) (np_then (np_fin)) (y_load_p rfl Tryz.k22 rfl rfl rfl (vs := [_]) rfl rfl rfl) rfl ?_
  refine ra_y (i := 3) rfl (by kernel_rfl) (by kernel_rfl) (by kernel_rfl) (np_then (np_fin)) (y_field_p rfl Tryz.f25' rfl (by decide) rfl) rfl ?_
  refine ra_y (i := 4) rfl (by kernel_rfl) (by kernel_rfl) (by kernel_rfl) (np_then (np_fin)) (y_load_p rfl Tryz.k23 rfl rfl rfl (vs := [_]) rfl rfl rfl) rfl ?_
  refine ra_all (is := [2, 7]) (by kernel_rfl) rfl ?_
  refine raall_cons rfl rfl ?_ ?_
  ·
   refine do_call_o (caps := []) (ρ' := [(2, _), (3, _), (11, _)]) [] [609] ⟨rfl, trivial⟩ rfl rfl rfl Tryz.c17 rfl rfl ⟨rfl, rfl, rfl, trivial⟩ rfl rfl rfl (FnO.mono (clonePrW_fn _ ps.length (pairsC ps) (by omega) (oneCell_pairs _) _ ham) ?_)
   rintro v uP l1 hleP ⟨adp, capp, rfl, rfl⟩ -
   refine ⟨trivial, ?_⟩
   refine ra_all (is := [5, 7]) (by kernel_rfl) rfl ?_
   refine raall_cons rfl rfl ?_ ?_
   ·
    refine do_call_o (caps := []) (ρ' := [(2, _), (9, _)]) [3] [] ⟨rfl, trivial⟩ rfl rfl rfl Tryz.c18 rfl rfl ⟨rfl, rfl, trivial⟩ rfl rfl rfl (FnO.mono (blocks_fn (szB bs) _ bs b3 0 _ (Nat.le_refl _) hbig hsm hrd ⟨by decide, by decide⟩ (by omega) (BlkS.mono hab hleP)) ?_)
    rintro v uB l1 hleB ⟨rfl, ⟨rcs, ⟨adr, capr, rfl, hr1⟩, hr2⟩, _, _⟩ -
    refine ⟨⟨fun _ h => h, trivial⟩, ?_⟩
    refine ra_y (i := 6) rfl (by kernel_rfl) (by kernel_rfl) (by kernel_rfl) (np_then (np_fin)) (y_build rfl Tryz.f25' Tryz.z25 (ps := [(_, _), (_, _)]) rfl (vs := [_, _]) rfl) rfl ?_
    refine ra_do (i := 7) rfl rfl (by kernel_rfl) ?_
    refine do_alloc ⟨rfl, trivial⟩ Tryz.z25 rfl rfl rfl ?_
    refine ra_do (i := 8) rfl rfl (by kernel_rfl) ?_
    refine do_store_p ⟨rfl, trivial⟩ rfl Tryz.k25 rfl rfl rfl (vs := [_, _]) rfl rfl (by first | rfl | assumption | simp [Value.oneCell', str]) (Nat.le_of_ble_eq_true rfl) rfl ?_
    refine ra_end (by kernel_rfl) (ρ' := [(2, _), (4, _)]) ⟨rfl, rfl, trivial⟩ ?_
    refine q_thenK ?_
    refine ⟨[(2, _), (4, _)], [(2, _), (4, _), (609, _)], ⟨rfl, rfl, trivial⟩, ⟨rfl, rfl, rfl, trivial⟩, adp, capp, adr, capr, (hleP.trans hleB), rfl, rfl, ?_⟩
    exact ⟨rcs, ⟨_, _, rfl, hr1⟩, hr2⟩
   refine raall_cons rfl rfl ?_ ?_
   ·
    refine do_alloc ⟨rfl, trivial⟩ Tryz.z25 rfl rfl rfl ?_
    refine ra_name 3 rfl ⟨3, _, .inl rfl⟩ ?_
    intro b3
    refine ra_do (i := 5) rfl rfl (by kernel_rfl) ?_
    refine do_call_o (caps := []) (ρ' := [(2, _), (4, _), (9, _)]) [3] [] ⟨rfl, trivial⟩ rfl rfl rfl Tryz.c18 rfl rfl ⟨rfl, rfl, rfl, trivial⟩ rfl rfl rfl (FnO.mono (blocks_fn (szB bs) _ bs b3 0 _ (Nat.le_refl _) hbig hsm hrd ⟨by decide, by decide⟩ (by omega) (BlkS.mono hab hleP)) ?_)
    rintro v uB l1 hleB ⟨rfl, ⟨rcs, ⟨adr, capr, rfl, hr1⟩, hr2⟩, _, _⟩ -
    refine ⟨⟨fun _ h => h, trivial⟩, ?_⟩
    refine ra_y (i := 6) rfl (by kernel_rfl) (by kernel_rfl) (by kernel_rfl) (np_then (np_fin)) (y_build rfl Tryz.f25' Tryz.z25 (ps := [(_, _), (_, _)]) rfl (vs := [_, _]) rfl) rfl ?_
    refine ra_do (i := 8) rfl rfl (by kernel_rfl) ?_
    refine do_store_p ⟨rfl, trivial⟩ rfl Tryz.k25 rfl rfl rfl (vs := [_, _]) rfl rfl (by first | rfl | assumption | simp [Value.oneCell', str]) (Nat.le_of_ble_eq_true rfl) rfl ?_
    refine ra_end (by kernel_rfl) (ρ' := [(2, _), (4, _)]) ⟨rfl, rfl, trivial⟩ ?_
    refine q_thenK ?_
    refine ⟨[(2, _), (4, _)], [(2, _), (4, _), (609, _)], ⟨rfl, rfl, trivial⟩, ⟨rfl, rfl, rfl, trivial⟩, adp, capp, adr, capr, (hleP.trans hleB), rfl, rfl, ?_⟩
    exact ⟨rcs, ⟨_, _, rfl, hr1⟩, hr2⟩
   exact raall_nil
  refine raall_cons rfl rfl ?_ ?_
  ·
   refine do_alloc ⟨rfl, trivial⟩ Tryz.z25 rfl rfl rfl ?_
   refine ra_do (i := 2) rfl rfl (by kernel_rfl) ?_
   refine do_call_o (caps := []) (ρ' := [(2, _), (3, _), (4, _), (11, _)]) [] [609] ⟨rfl, trivial⟩ rfl rfl rfl Tryz.c17 rfl rfl ⟨rfl, rfl, rfl, rfl, trivial⟩ rfl rfl rfl (FnO.mono (clonePrW_fn _ ps.length (pairsC ps) (by omega) (oneCell_pairs _) _ ham) ?_)
   rintro v uP l1 hleP ⟨adp, capp, rfl, rfl⟩ -
   refine ⟨trivial, ?_⟩
   refine ra_name 3 rfl ⟨3, _, .inl rfl⟩ ?_
   intro b3
   refine ra_do (i := 5) rfl rfl (by kernel_rfl) ?_
   refine do_call_o (caps := []) (ρ' := [(2, _), (4, _), (9, _)]) [3] [] ⟨rfl, trivial⟩ rfl rfl rfl Tryz.c18 rfl rfl ⟨rfl, rfl, rfl, trivial⟩ rfl rfl rfl (FnO.mono (blocks_fn (szB bs) _ bs b3 0 _ (Nat.le_refl _) hbig hsm hrd ⟨by decide, by decide⟩ (by omega) (BlkS.mono hab hleP)) ?_)
   rintro v uB l1 hleB ⟨rfl, ⟨rcs, ⟨adr, capr, rfl, hr1⟩, hr2⟩, _, _⟩ -
   refine ⟨⟨fun _ h => h, trivial⟩, ?_⟩
   refine ra_y (i := 6) rfl (by kernel_rfl) (by kernel_rfl) (by kernel_rfl) (np_then (np_fin)) (y_build rfl Tryz.f25' Tryz.z25 (ps := [(_, _), (_, _)]) rfl (vs := [_, _]) rfl) rfl ?_
   refine ra_do (i := 8) rfl rfl (by kernel_rfl) ?_
   refine do_store_p ⟨rfl, trivial⟩ rfl Tryz.k25 rfl rfl rfl (vs := [_, _]) rfl rfl (by first | rfl | assumption | simp [Value.oneCell', str]) (Nat.le_of_ble_eq_true rfl) rfl ?_
   refine ra_end (by kernel_rfl) (ρ' := [(2, _), (4, _)]) ⟨rfl, rfl, trivial⟩ ?_
   refine q_thenK ?_
   refine ⟨[(2, _), (4, _)], [(2, _), (4, _), (609, _)], ⟨rfl, rfl, trivial⟩, ⟨rfl, rfl, rfl, trivial⟩, adp, capp, adr, capr, (hleP.trans hleB), rfl, rfl, ?_⟩
   exact ⟨rcs, ⟨_, _, rfl, hr1⟩, hr2⟩
  exact raall_nil
 ·
  rintro ρ σ uc3 ⟨adp, capp, adr, capr, hlc3, rfl, rfl, hrB⟩
  refine wc_seq ?_
  refine wc_region ?_
  refine ya rfl rfl ?_
  refine rl_end (ρ' := [(2, _), (4, _), (5, _)]) ⟨rfl, rfl, rfl, trivial⟩ ?_
  refine q_then ?_
  refine wc_cut (fun ρ σ uc7 => VLe uc3 uc7 ∧ σ = [(2, (none, .box [.slice none 0 0, .slice none 0 0])), (4, (none, .box [.slice adp ps.length capp, .slice adr (repB bs).length capr])), (609, (none, .rwv (.slice adp ps.length capp) 49 2 ps.length (pairsC ps)))] ∧ ρ = [(2, .p 2 0), (4, .p 4 0), (5, .v (str (titleR (repB bs))))] ∧ (True)) ?_ ?_
  ·
   refine wc_seq ?_
   refine wc_region ?_
   refine rl_y (y_load_p rfl Tryz.k25 rfl rfl rfl (vs := [_, _]) rfl rfl rfl) rfl ?_
   refine rl_do rfl rfl ?_
   refine do_call (caps := []) trivial rfl rfl Tryz.c19 rfl (FnP.mono (headings_fn _ _ (repB bs) uc3 hbig2 hrB) ?_)
   rintro v uH hle0 ⟨hcs, ⟨had, hcap, rfl, hh1⟩, hh2⟩ hleH
   refine ya rfl rfl ?_
   refine rl_end (ρ' := [(2, _), (4, _), (5, _), (6, _)]) ⟨rfl, rfl, rfl, rfl, trivial⟩ ?_
   refine q_then ?_
   refine wc_seq ?_
   refine wc_region ?_
   refine ym rfl rfl ?_
   refine rl_y (y_len_v rfl rfl Tryz.s23 rfl) rfl ?_
   refine rl_y (y_gtr rfl rfl rfl) rfl ?_
   refine rl_end (ρ' := [(2, _), (4, _), (5, _), (6, _), (18, _)]) ⟨rfl, rfl, rfl, rfl, rfl, trivial⟩ ?_
   refine q_then ?_
   refine wc_cond rfl (fun hb5 => ?_) (fun hb5 => ?_)
   ·
    have hlt : 0 < (headsL (listB (repB bs))).length := by have := of_decide_eq_true hb5; omega
    obtain ⟨k, lv, inf, t, d, ti, a, line, kids, vc, vp, vl, vk, hg, hcut1, s1, s2, s3, s4, hok⟩ := hh2.at hlt
    have oneAll := (hh2.get 0 _ hg).one
    rw [hcut1] at oneAll
    obtain ⟨q1, q2⟩ := headsL_ok hsm2 (List.mem_of_getElem? hg)
    unfold smB1 at q1
    simp only [szb] at q2
    have htt : titleR (repB bs) = trim (plain line) := by
     unfold titleR
     cases hh : headsL (listB (repB bs)) with
     | nil => rw [hh] at hlt; cases hlt
     | cons x r =>
      rw [hh] at hg
      obtain rfl := Option.some.inj hg
      rfl
    refine wc_region ?_
    refine ym rfl rfl ?_
    refine rl_y (y_index_e rfl Tryz.s23 rfl rfl (by assumption) (j := 0) rfl (by omega)) rfl ?_
    refine rl_y (y_field_e rfl Tryz.f39' rfl (by decide) rfl) rfl ?_
    refine rl_y (y_load_el rfl Tryz.k37 rfl (by assumption) (by omega) (by assumption) (vs := [_]) rfl rfl rfl rfl) rfl ?_
    refine rl_do rfl rfl ?_
    refine do_call_f (caps := []) trivial rfl rfl Tryz.c20 rfl (FnP.mono (trimmed_fn vl line (by omega) (aI_tx _ q1.2.2.2.2.1) uH s3) ?_)
    rintro v u1 hle1 rfl
    refine ya rfl rfl ?_
    refine rl_end (ρ' := [(2, _), (4, _), (5, _)]) ⟨rfl, rfl, rfl, trivial⟩ ?_
    refine q_thenK ?_
    refine ⟨[(2, _), (4, _), (5, _)], [(2, _), (4, _), (609, _)], ⟨rfl, rfl, rfl, trivial⟩, ⟨rfl, rfl, rfl, trivial⟩, hleH, rfl, (by rw [htt]; first | done | rfl), ?_⟩
    trivial
   ·
    have hge := of_decide_eq_false hb5
    have htt : titleR (repB bs) = untS := by
     unfold titleR
     cases hh : headsL (listB (repB bs)) with
     | nil => rfl
     | cons x r => rw [hh] at hge; exact (hge (by rw [List.length_cons]; omega)).elim
    refine wc_skip ?_
    refine q_thenK ?_
    refine ⟨[(2, _), (4, _), (5, _)], [(2, _), (4, _), (609, _)], ⟨rfl, rfl, rfl, trivial⟩, ⟨rfl, rfl, rfl, trivial⟩, hleH, rfl, (by rw [htt]; first | done | rfl), ?_⟩
    trivial
  ·
   rintro ρ σ uc7 ⟨hlc7, rfl, rfl, hc7⟩
   refine wc_seq ?_
   refine wc_region ?_
   refine rl_y (y_field_p rfl Tryz.f25' rfl (by decide) rfl) rfl ?_
   refine rl_y (y_load_p rfl Tryz.k22 rfl rfl rfl (vs := [_]) rfl rfl rfl) rfl ?_
   refine rl_do rfl rfl ?_
   refine do_call_o (caps := []) (ρ' := [(2, _), (4, _), (5, _)]) [609] [] trivial rfl rfl rfl Tryz.c21 rfl rfl ⟨rfl, rfl, rfl, trivial⟩ rfl rfl rfl (FnO.mono (fill_fn langS enS _ ps (by omega) _) ?_)
   rintro v uL l1 hleL rfl -
   refine ⟨⟨fun _ h => h, trivial⟩, ?_⟩
   refine rl_shape 609 rfl ?_
   rintro adx capx rfl
   refine rl_y (y_field_p rfl Tryz.f25' rfl (by decide) rfl) rfl ?_
   refine rl_do rfl rfl ?_
   refine do_store_p trivial rfl Tryz.k22 rfl rfl rfl (vs := [_]) rfl rfl (by first | rfl | assumption | simp [Value.oneCell', str]) (Nat.le_of_ble_eq_true rfl) rfl ?_
   refine rl_end (ρ' := [(2, _), (4, _), (5, _)]) ⟨rfl, rfl, rfl, trivial⟩ ?_
   refine q_then ?_
   refine wc_seq ?_
   refine wc_region ?_
   refine rl_y (y_field_p rfl Tryz.f25' rfl (by decide) rfl) rfl ?_
   refine rl_y (y_load_p rfl Tryz.k22 rfl rfl rfl (vs := [_]) rfl rfl rfl) rfl ?_
   refine ym rfl rfl ?_
   refine rl_do rfl rfl ?_
   refine do_call_o (caps := []) (ρ' := [(2, _), (4, _)]) [609] [] trivial rfl rfl rfl Tryz.c21 rfl rfl ⟨rfl, rfl, trivial⟩ rfl rfl rfl (FnO.mono (fill_fn titS (titleR (repB bs)) _ (fillM langS enS ps) (by have := fill_up langS enS ps; omega) _) ?_)
   rintro v uT l1 hleT rfl -
   refine ⟨⟨fun _ h => h, trivial⟩, ?_⟩
   refine rl_shape 609 rfl ?_
   rintro ady capy rfl
   refine rl_y (y_field_p rfl Tryz.f25' rfl (by decide) rfl) rfl ?_
   refine rl_do rfl rfl ?_
   refine do_store_p trivial rfl Tryz.k22 rfl rfl rfl (vs := [_]) rfl rfl (by first | rfl | assumption | simp [Value.oneCell', str]) (Nat.le_of_ble_eq_true rfl) rfl ?_
   refine rl_end (ρ' := [(2, _), (4, _)]) ⟨rfl, rfl, trivial⟩ ?_
   refine q_then ?_
   refine wc_seq ?_
   refine wc_region ?_
   refine rl_freezeW 609 rfl ?_
   intro uk hlek hslk
   refine rl_y (y_load_p rfl Tryz.k25 rfl rfl rfl (vs := [_, _]) rfl rfl rfl) rfl ?_
   refine rl_do rfl rfl ?_
   refine do_store_p trivial rfl Tryz.k25 rfl rfl rfl (vs := [_, _]) rfl rfl (by first | rfl | assumption | simp [Value.oneCell', str]) (Nat.le_of_ble_eq_true rfl) rfl ?_
   refine rl_end (ρ' := [(2, _)]) ⟨rfl, trivial⟩ ?_
   refine q_then ?_
   refine wc_ret ?_
   refine fin1 (.cell rfl rfl Tryz.k25 (cs := _) (vs := [_, _]) rfl rfl rfl) ?_
   exact ⟨_, _, rfl, hslk, ((hrB.mono hlc7).mono hleL).mono hleT |>.mono hlek⟩
theorem sameBlocks_same (n : Nat) : ∀ (va vb : Value) (xs : List Blk), szB xs ≤ n → xs.length ≤ 140737488351232 → ∀ u : View, BlkS u va xs → BlkS u vb xs →
  FnP Tryz.prog 23 [va, vb] u fun v _ => v = .bool true := by
 induction n using Nat.strongRecOn with
 | _ n ih =>
 intro va vb xs hsz hx u ha hb
 obtain ⟨cs1, ⟨ad, cap, rfl, h1⟩, hc1⟩ := ha
 obtain ⟨cs2, ⟨ad2, cap2, rfl, h2⟩, hc2⟩ := hb
 refine FnP.intro [.tmp 4] Tryz.func23 rfl rfl rfl ?_
 intro w0 D hw0
 refine wc_seq ?_
 refine wc_region ?_
 refine ya rfl rfl ?_
 refine rl_end (ρ' := [(0, _), (1, _)]) ⟨rfl, rfl, trivial⟩ ?_
 refine q_then ?_
 refine wc_seq ?_
 refine wc_seq ?_
 refine wc_region ?_
 refine ym rfl rfl ?_
 refine rl_y (y_len_v rfl rfl Tryz.s23 rfl) rfl ?_
 refine ym rfl rfl ?_
 refine rl_y (y_len_v rfl rfl Tryz.s23 rfl) rfl ?_
 refine rl_y (y_neq_refl rfl rfl rfl) rfl ?_
 refine rl_end (ρ' := [(0, _), (1, _), (12, _)]) ⟨rfl, rfl, rfl, trivial⟩ ?_
 refine q_then ?_
 refine wc_cond_f rfl (rfl) ?_
 refine wc_skip ?_
 refine q_then ?_
 refine wc_seq ?_
 refine wc_seq ?_
 refine wc_region ?_
 refine ya rfl rfl ?_
 refine rl_end (ρ' := [(0, _), (1, _), (5, _)]) ⟨rfl, rfl, rfl, trivial⟩ ?_
 refine q_then ?_
 refine wc_block ?_
 refine wc_loop (fun m ρ σ u' => ∃ i : Nat, i + m = xs.length ∧ VLe u u' ∧ σ = [] ∧ ρ = [(0, .v (.slice ad xs.length cap)), (1, .v (.slice ad2 xs.length cap2)), (5, .v (.int .i64 i))] ∧ (u = u')) (xs.length) ?_ ?_
 ·
  refine ⟨[(0, _), (1, _), (5, _)], [], ⟨rfl, rfl, rfl, trivial⟩, trivial, 0, by omega, VLe.refl _, (by first | rfl | simp), (by first | rfl | (simp only [List.cons.injEq, Prod.mk.injEq, SV.v.injEq, Value.int.injEq, true_and, and_true]; omega) | simp), ?_⟩
  rfl
 ·
  rintro m ρ σ u' ⟨i, hi4, hle4, rfl, rfl, rfl⟩
  refine wc_seq ?_
  refine wc_seq ?_
  refine wc_region ?_
  refine ym rfl rfl ?_
  refine ym rfl rfl ?_
  refine rl_y (y_len_v rfl rfl Tryz.s23 rfl) rfl ?_
  refine rl_y (y_lss rfl rfl rfl) rfl ?_
  refine rl_end (ρ' := [(0, _), (1, _), (5, _), (16, _)]) ⟨rfl, rfl, rfl, rfl, trivial⟩ ?_
  refine q_then ?_
  refine wc_cond rfl (fun hb4 => ?_) (fun hb4 => ?_)
  ·
   refine wc_skip ?_
   refine q_then ?_
   refine wc_seq ?_
   refine wc_block ?_
   refine wc_seq ?_
   have hlt : i < xs.length := by have := of_decide_eq_true hb4; omega
   obtain ⟨k, lv, inf, t, d, ti, a, line, kids, vc, vp, vl, vk, hg, hcut1, s1, s2, s3, s4, hok⟩ := hc1.at hlt
   obtain ⟨vc', vp', vl', vk', hcut2, s1', s2', s3', s4', _⟩ := (hc2.get i _ hg).cells
   obtain ⟨_, _, _, _, _, _, ⟨_, ⟨okc, _⟩, ⟨okp, _⟩⟩, okl, okk⟩ := hok
   have oneAll := (hc1.get i _ hg).one
   rw [hcut1] at oneAll
   have oneAll2 := (hc2.get i _ hg).one
   rw [hcut2] at oneAll2
   have hkid := szB_kids hg
   refine wc_cutS [(6, .p 6 0), (7, .p 7 0)] [(6, (none, .box (blkV k lv inf t d ti a.id vc vp vl vk))), (7, (none, .box (blkV k lv inf t d ti a.id vc' vp' vl' vk')))] (ρa := [(0, _), (1, _), (5, _)]) (σa := []) ⟨rfl, rfl, rfl, trivial⟩ trivial ?_ ?_
   ·
    refine wc_draw Tryz.mixed rfl [] trivial ?_
    refine ra_y (i := 0) rfl (by kernel_rfl) (by kernel_rfl) (by kernel_rfl) (np_cutS) (y_move rfl rfl) rfl ?_
    refine ra_y (i := 1) rfl (by kernel_rfl) (by kernel_rfl) (by kernel_rfl) (np_cutS) (y_move rfl rfl) rfl ?_
    refine ra_y (i := 2) rfl (by kernel_rfl) (by kernel_rfl) (by kernel_rfl) (np_cutS) (y_index_e rfl Tryz.s23 rfl rfl (by assumption) (by first | rfl | omega) (by omega)) rfl ?_
    refine ra_y (i := 3) rfl (by kernel_rfl) (by kernel_rfl) (by kernel_rfl) (np_cutS) (y_load_el rfl Tryz.k39 rfl (by assumption) (by omega) (by assumption) (vs := [_, _, _, _, _, _, _, _, _, _, _]) rfl rfl rfl rfl) rfl ?_
    refine ra_y (i := 4) rfl (by kernel_rfl) (by kernel_rfl) (by kernel_rfl) (np_cutS) (y_move rfl rfl) rfl ?_
    refine ra_y (i := 5) rfl (by kernel_rfl) (by kernel_rfl) (by kernel_rfl) (np_cutS) (y_move rfl rfl) rfl ?_
    refine ra_y (i := 6) rfl (by kernel_rfl) (by kernel_rfl) (by kernel_rfl) (np_cutS) (y_index_e rfl Tryz.s23 rfl rfl (by assumption) (by first | rfl | omega) (by omega)) rfl ?_
    refine ra_y (i := 7) rfl (by kernel_rfl) (by kernel_rfl) (by kernel_rfl) (np_cutS) (y_load_el rfl Tryz.k39 rfl (by assumption) (by omega) (by assumption) (vs := [_, _, _, _, _, _, _, _, _, _, _]) rfl rfl rfl rfl) rfl ?_
    refine ra_all (is := [8, 9]) (by kernel_rfl) rfl ?_
    refine raall_cons rfl rfl ?_ ?_
    ·
     refine do_alloc trivial Tryz.z39 rfl rfl rfl ?_
     refine ra_do (i := 9) rfl rfl (by kernel_rfl) ?_
     refine do_alloc trivial Tryz.z39 rfl rfl rfl ?_
     refine ra_do (i := 10) rfl rfl (by kernel_rfl) ?_
     refine do_store_p trivial rfl Tryz.k39 rfl rfl rfl (vs := [_, _, _, _, _, _, _, _, _, _, _]) rfl rfl (by first | rfl | assumption | simp [Value.oneCell', str]) (Nat.le_of_ble_eq_true rfl) rfl ?_
     refine ra_do (i := 11) rfl rfl (by kernel_rfl) ?_
     refine do_store_p trivial rfl Tryz.k39 rfl rfl rfl (vs := [_, _, _, _, _, _, _, _, _, _, _]) rfl rfl (by first | rfl | assumption | simp [Value.oneCell', str]) (Nat.le_of_ble_eq_true rfl) rfl ?_
     exact cutS_endA (by kernel_rfl) ⟨rfl, rfl, rfl, rfl, rfl, trivial⟩ ⟨rfl, rfl, trivial⟩
    refine raall_cons rfl rfl ?_ ?_
    ·
     refine do_alloc trivial Tryz.z39 rfl rfl rfl ?_
     refine ra_do (i := 8) rfl rfl (by kernel_rfl) ?_
     refine do_alloc trivial Tryz.z39 rfl rfl rfl ?_
     refine ra_do (i := 10) rfl rfl (by kernel_rfl) ?_
     refine do_store_p trivial rfl Tryz.k39 rfl rfl rfl (vs := [_, _, _, _, _, _, _, _, _, _, _]) rfl rfl (by first | rfl | assumption | simp [Value.oneCell', str]) (Nat.le_of_ble_eq_true rfl) rfl ?_
     refine ra_do (i := 11) rfl rfl (by kernel_rfl) ?_
     refine do_store_p trivial rfl Tryz.k39 rfl rfl rfl (vs := [_, _, _, _, _, _, _, _, _, _, _]) rfl rfl (by first | rfl | assumption | simp [Value.oneCell', str]) (Nat.le_of_ble_eq_true rfl) rfl ?_
     exact cutS_endA (by kernel_rfl) ⟨rfl, rfl, rfl, rfl, rfl, trivial⟩ ⟨rfl, rfl, trivial⟩
    exact raall_nil
   refine q_then ?_
   refine wc_seq ?_
   refine wc_region ?_
   refine rl_y (y_field_p rfl Tryz.f39' rfl (by decide) rfl) rfl ?_
   refine rl_y (y_load_p rfl Tryz.k3 rfl rfl rfl (vs := [_]) rfl rfl rfl) rfl ?_
   refine rl_y (y_field_p rfl Tryz.f39' rfl (by decide) rfl) rfl ?_
   refine rl_y (y_load_p rfl Tryz.k3 rfl rfl rfl (vs := [_]) rfl rfl rfl) rfl ?_
   refine rl_y (y_neq_refl rfl rfl rfl) rfl ?_
   refine ym rfl rfl ?_
   refine rl_on rfl rfl ?_
   refine rl_y (y_field_p rfl Tryz.f39' rfl (by decide) rfl) rfl ?_
   refine rl_on rfl rfl ?_
   refine rl_y (y_load_p rfl Tryz.k3 rfl rfl rfl (vs := [_]) rfl rfl rfl) rfl ?_
   refine rl_on rfl rfl ?_
   refine rl_y (y_field_p rfl Tryz.f39' rfl (by decide) rfl) rfl ?_
   refine rl_on rfl rfl ?_
   refine rl_y (y_load_p rfl Tryz.k3 rfl rfl rfl (vs := [_]) rfl rfl rfl) rfl ?_
   refine rl_on rfl rfl ?_
   refine rl_y (y_neq_refl rfl rfl rfl) rfl ?_
   refine rl_y (y_pick_f rfl rfl rfl) rfl ?_
   refine ym rfl rfl ?_
   refine rl_on rfl rfl ?_
   refine rl_y (y_field_p rfl Tryz.f39' rfl (by decide) rfl) rfl ?_
   refine rl_on rfl rfl ?_
   refine rl_y (y_load_p rfl Tryz.k9 rfl rfl rfl (vs := [_]) rfl rfl rfl) rfl ?_
   refine rl_on rfl rfl ?_
   refine rl_y (y_field_p rfl Tryz.f39' rfl (by decide) rfl) rfl ?_
   refine rl_on rfl rfl ?_
   refine rl_y (y_load_p rfl Tryz.k9 rfl rfl rfl (vs := [_]) rfl rfl rfl) rfl ?_
   refine rl_on rfl rfl ?_
   refine rl_y (y_str_neq_refl rfl rfl rfl) rfl ?_
   refine rl_y (y_pick_f rfl rfl rfl) rfl ?_
   refine ym rfl rfl ?_
   refine rl_on rfl rfl ?_
   refine rl_y (y_field_p rfl Tryz.f39' rfl (by decide) rfl) rfl ?_
   refine rl_on rfl rfl ?_
   refine rl_y (y_load_p rfl Tryz.k9 rfl rfl rfl (vs := [_]) rfl rfl rfl) rfl ?_
   refine rl_on rfl rfl ?_
   refine rl_y (y_field_p rfl Tryz.f39' rfl (by decide) rfl) rfl ?_
   refine rl_on rfl rfl ?_
   refine rl_y (y_load_p rfl Tryz.k9 rfl rfl rfl (vs := [_]) rfl rfl rfl) rfl ?_
   refine rl_on rfl rfl ?_
   refine rl_y (y_str_neq_refl rfl rfl rfl) rfl ?_
   refine rl_y (y_pick_f rfl rfl rfl) rfl ?_
   refine ym rfl rfl ?_
   refine rl_on rfl rfl ?_
   refine rl_y (y_field_p rfl Tryz.f39' rfl (by decide) rfl) rfl ?_
   refine rl_on rfl rfl ?_
   refine rl_y (y_load_p rfl Tryz.k9 rfl rfl rfl (vs := [_]) rfl rfl rfl) rfl ?_
   refine rl_on rfl rfl ?_
   refine rl_y (y_field_p rfl Tryz.f39' rfl (by decide) rfl) rfl ?_
   refine rl_on rfl rfl ?_
   refine rl_y (y_load_p rfl Tryz.k9 rfl rfl rfl (vs := [_]) rfl rfl rfl) rfl ?_
   refine rl_on rfl rfl ?_
   refine rl_y (y_str_neq_refl rfl rfl rfl) rfl ?_
   refine rl_y (y_pick_f rfl rfl rfl) rfl ?_
   refine ym rfl rfl ?_
   refine rl_on rfl rfl ?_
   refine rl_y (y_field_p rfl Tryz.f39' rfl (by decide) rfl) rfl ?_
   refine rl_on rfl rfl ?_
   refine rl_y (y_load_p rfl Tryz.k9 rfl rfl rfl (vs := [_]) rfl rfl rfl) rfl ?_
   refine rl_on rfl rfl ?_
   refine rl_y (y_field_p rfl Tryz.f39' rfl (by decide) rfl) rfl ?_
   refine rl_on rfl rfl ?_
   refine rl_y (y_load_p rfl Tryz.k9 rfl rfl rfl (vs := [_]) rfl rfl rfl) rfl ?_
   refine rl_on rfl rfl ?_
   refine rl_y (y_str_neq_refl rfl rfl rfl) rfl ?_
   refine rl_y (y_pick_f rfl rfl rfl) rfl ?_
   refine ym rfl rfl ?_
   refine rl_on rfl rfl ?_
   refine rl_y (y_field_p rfl Tryz.f39' rfl (by decide) rfl) rfl ?_
   refine rl_on rfl rfl ?_
   refine rl_y (y_load_p rfl Tryz.k36 rfl rfl rfl (vs := [_, _, _]) rfl rfl rfl) rfl ?_
   refine rl_on rfl rfl ?_
   refine rl_y (y_field_p rfl Tryz.f39' rfl (by decide) rfl) rfl ?_
   refine rl_on rfl rfl ?_
   refine rl_y (y_load_p rfl Tryz.k36 rfl rfl rfl (vs := [_, _, _]) rfl rfl rfl) rfl ?_
   refine rl_on rfl rfl ?_
   refine rl_do rfl rfl ?_
   refine do_call_f (caps := []) trivial rfl rfl Tryz.c44 rfl (FnP.mono (attrs_same a _ _ _ _ okc okp u s1 s2 s1' s2') ?_)
   rintro v u1 hle1 rfl
   refine rl_on rfl rfl ?_
   refine rl_y (y_not rfl rfl) rfl ?_
   refine rl_y (y_pick_f rfl rfl rfl) rfl ?_
   refine ym rfl rfl ?_
   refine rl_on rfl rfl ?_
   refine rl_y (y_field_p rfl Tryz.f39' rfl (by decide) rfl) rfl ?_
   refine rl_on rfl rfl ?_
   refine rl_y (y_load_p rfl Tryz.k37 rfl rfl rfl (vs := [_]) rfl rfl rfl) rfl ?_
   refine rl_on rfl rfl ?_
   refine rl_y (y_field_p rfl Tryz.f39' rfl (by decide) rfl) rfl ?_
   refine rl_on rfl rfl ?_
   refine rl_y (y_load_p rfl Tryz.k37 rfl rfl rfl (vs := [_]) rfl rfl rfl) rfl ?_
   refine rl_on rfl rfl ?_
   refine rl_do rfl rfl ?_
   refine do_call_f (caps := []) trivial rfl rfl Tryz.c45 rfl (FnP.mono (inl_same okl s3 s3') ?_)
   rintro v u1 hle1 rfl
   refine rl_on rfl rfl ?_
   refine rl_y (y_not rfl rfl) rfl ?_
   refine rl_y (y_pick_f rfl rfl rfl) rfl ?_
   refine ym rfl rfl ?_
   refine rl_on rfl rfl ?_
   refine rl_y (y_field_p rfl Tryz.f39' rfl (by decide) rfl) rfl ?_
   refine rl_on rfl rfl ?_
   refine rl_y (y_load_p rfl Tryz.k23 rfl rfl rfl (vs := [_]) rfl rfl rfl) rfl ?_
   refine rl_on rfl rfl ?_
   refine rl_y (y_field_p rfl Tryz.f39' rfl (by decide) rfl) rfl ?_
   refine rl_on rfl rfl ?_
   refine rl_y (y_load_p rfl Tryz.k23 rfl rfl rfl (vs := [_]) rfl rfl rfl) rfl ?_
   refine rl_on rfl rfl ?_
   refine rl_do rfl rfl ?_
   refine do_call_f (caps := []) trivial rfl rfl Tryz.c23 rfl (FnP.mono (ih _ (by omega : szB kids < n) _ _ kids (Nat.le_refl _) okk u s4 s4') ?_)
   rintro v u1 hle1 rfl
   refine rl_on rfl rfl ?_
   refine rl_y (y_not rfl rfl) rfl ?_
   refine rl_y (y_pick_f rfl rfl rfl) rfl ?_
   refine rl_end (ρ' := [(0, _), (1, _), (5, _), (90, _)]) ⟨rfl, rfl, rfl, rfl, trivial⟩ ?_
   refine q_then ?_
   refine wc_cond_f rfl (rfl) ?_
   refine wc_skip ?_
   refine q_block ?_
   refine q_then ?_
   refine wc_region ?_
   refine ym rfl rfl ?_
   refine rl_y (y_add rfl rfl rfl (wrap64_id (by omega))) rfl ?_
   refine ya rfl rfl ?_
   refine rl_end (ρ' := [(0, _), (1, _), (5, _)]) ⟨rfl, rfl, rfl, trivial⟩ ?_
   refine q_thenK ?_
   refine ⟨m - 1, [(0, _), (1, _), (5, _)], [], by omega, ⟨rfl, rfl, rfl, trivial⟩, trivial, i + 1, by omega, hle4, (by first | rfl | simp), (by first | rfl | (simp only [List.cons.injEq, Prod.mk.injEq, SV.v.injEq, Value.int.injEq, true_and, and_true]; omega) | simp), ?_⟩
   rfl
  ·
   refine wc_exit ?_
   refine q_then_exit ?_
   refine q_then_exit ?_
   refine q_block_hit ?_
   refine q_then ?_
   refine wc_seq ?_
   refine wc_region ?_
   refine ya rfl rfl ?_
   refine rl_end (ρ' := [(4, _)]) ⟨rfl, trivial⟩ ?_
   refine q_then ?_
   refine wc_ret ?_
   refine fin1 (.tmp rfl) ?_
   rfl
theorem same_fn (va vb wa wb : Value) (ps : List (Bs × Bs)) (xs : List Blk) (hp : ps.length ≤ 140737488351232) (hx : xs.length ≤ 140737488351232) (u : View) (h1 : PrS u va ps) (h2 : PrS u wa ps) (h3 : BlkS u vb xs) (h4 : BlkS u wb xs) :
  FnP Tryz.prog 8 [.agg #[va, vb], .agg #[wa, wb]] u fun v _ => v = .bool true := by
 refine FnP.intro [.tmp 4] Tryz.func8 rfl rfl rfl ?_
 intro w0 D hw0
 refine wc_seq ?_
 refine wc_region ?_
 refine rl_do rfl rfl ?_
 refine do_box trivial rfl (cs := [_, _]) rfl rfl rfl rfl ?_
 refine rl_do rfl rfl ?_
 refine do_box trivial rfl (cs := [_, _]) rfl rfl rfl rfl ?_
 refine ya rfl rfl ?_
 refine rl_end (ρ' := [(2, _), (3, _)]) ⟨rfl, rfl, trivial⟩ ?_
 refine q_then ?_
 refine wc_seq ?_
 refine wc_region ?_
 refine rl_y (y_field_p rfl Tryz.f25' rfl (by decide) rfl) rfl ?_
 refine rl_y (y_load_p rfl Tryz.k22 rfl rfl rfl (vs := [_]) rfl rfl rfl) rfl ?_
 refine rl_y (y_field_p rfl Tryz.f25' rfl (by decide) rfl) rfl ?_
 refine rl_y (y_load_p rfl Tryz.k22 rfl rfl rfl (vs := [_]) rfl rfl rfl) rfl ?_
 refine rl_do rfl rfl ?_
 refine do_call_f (caps := []) trivial rfl rfl Tryz.c22 rfl (FnP.mono (pairs_same _ _ ps hp u h1 h2) ?_)
 rintro v u1 hle1 rfl
 refine ym rfl rfl ?_
 refine rl_on rfl rfl ?_
 refine rl_y (y_field_p rfl Tryz.f25' rfl (by decide) rfl) rfl ?_
 refine rl_on rfl rfl ?_
 refine rl_y (y_load_p rfl Tryz.k23 rfl rfl rfl (vs := [_]) rfl rfl rfl) rfl ?_
 refine rl_on rfl rfl ?_
 refine rl_y (y_field_p rfl Tryz.f25' rfl (by decide) rfl) rfl ?_
 refine rl_on rfl rfl ?_
 refine rl_y (y_load_p rfl Tryz.k23 rfl rfl rfl (vs := [_]) rfl rfl rfl) rfl ?_
 refine rl_on rfl rfl ?_
 refine rl_do rfl rfl ?_
 refine do_call_f (caps := []) trivial rfl rfl Tryz.c23 rfl (FnP.mono (sameBlocks_same (szB xs) _ _ xs (Nat.le_refl _) hx u h3 h4) ?_)
 rintro v u1 hle1 rfl
 refine rl_y (y_pick_t rfl rfl rfl) rfl ?_
 refine ya rfl rfl ?_
 refine rl_end (ρ' := [(4, _)]) ⟨rfl, trivial⟩ ?_
 refine q_then ?_
 refine wc_ret ?_
 refine fin1 (.tmp rfl) ?_
 rfl
def hdW (lv : Int) (s : Bs) : Blk := .mk 2 lv [] [] [] [] ⟨[], [], []⟩ [tI s] []
def lkW : Inl := .mk 9 [] [120] [] ⟨[], [], []⟩ [] [] []
def lkR : Inl := .mk 9 [] [120] [] ⟨[], [], []⟩ [] [] [tI [120]]
def paW (x : Inl) : Blk := .mk 1 0 [] [] [] [] ⟨[], [], []⟩ [x] []
def d3W : List Blk := [hdW 1 [65], hdW 3 [66], paW lkW]
def r3W : List Blk := [hdW 1 [65], hdW 2 [66], paW lkR]
def metaW : List (Bs × Bs) := [(langS, enS), (titS, [84])]
theorem F_d1 : faultsL metaW [hdW 2 [65]] = [(levS, [65])] := by rfl
theorem F_nil : faultsL [] [] = [(langS, langS), (titS, titS)] := by rfl
theorem R_d3 : repB d3W = r3W := by rfl
theorem M_d3 : repM [] d3W = [(langS, enS), (titS, [65])] := by rfl
theorem sm_hd (lv : Int) (s : Bs) (h : s.length ≤ 1000) : smB1 (hdW lv s) := by
 simp [hdW, tI, smB1, smI, smI1, NodeSm, longN, smB]
 omega
theorem sm_d3 : smB d3W ∧ szB d3W ≤ 1000 ∧ rdB d3W := by
 refine ⟨?_, by decide, ?_⟩
 ·
  simp [d3W, hdW, paW, lkW, tI, smB, smB1, smI, smI1, NodeSm, longN]
 ·
  have e1 : ownR 2 [tI [65]] = ([tI [65]], false) := by rfl
  have e2 : ownR 2 [tI [66]] = ([tI [66]], false) := by rfl
  have e3 : ownR 1 [lkW] = ([lkR], true) := by rfl
  simp only [d3W, hdW, paW, rdB, rdB1, e1, e2, e3]
  simp [tI, lkR, smI, smI1, NodeSm, longN, szI, sz1]
theorem sm_r3 : smB r3W ∧ szB r3W ≤ 1000 := by
 refine ⟨?_, by decide⟩
 simp [r3W, hdW, paW, lkR, tI, smB, smB1, smI, smI1, NodeSm, longN]
theorem attrOkZ : AttrOk ⟨[], [], []⟩ := ⟨by decide, ⟨by decide, by simp⟩, ⟨by decide, by simp⟩⟩
theorem blk_ok1 (k lv : Int) (line : List Inl) (hk : IntOk k) (hl : IntOk lv) (hn : line.length ≤ 1000) : BlkOk (.mk k lv [] [] [] [] ⟨[], [], []⟩ line []) :=
 ⟨hk, hl, by decide, by decide, by decide, by decide, attrOkZ, by omega, by decide⟩
theorem nilBl (u : View) : BlkS u (.slice none 0 0) [] := ⟨[], nilSl u 11, BlksC.nil⟩
theorem hd_C {u : View} {lv : Int} {s : Bs} {vl : Value} (hl : IntOk lv) (h : InlS u vl [tI s]) : BlkC u (hdW lv s) [.int .i64 2, .int .i64 lv, str [], str [], str [], str [], str [], .slice none 0 0, .slice none 0 0, vl, .slice none 0 0] :=
 BlkC.mk' (a := ⟨[], [], []⟩) (nilStr _) (nilPr _) h (nilBl _) (blk_ok1 2 lv _ ⟨by decide, by decide⟩ hl (by simp))
theorem lawmeta_fn (u : View) : FnP Tryz.prog 15 [] u fun r u' => PrS u' r metaW := by
 refine FnP.intro [.tmp 0] Tryz.func15 rfl rfl rfl ?_
 intro w0 D hw0
 refine wc_seq ?_
 refine wc_region ?_
 refine ya rfl rfl ?_
 refine rl_end (ρ' := []) trivial ?_
 refine q_then ?_
 refine wc_seq ?_
 refine wc_region ?_
 refine rl_y (y_build rfl Tryz.f49' Tryz.z49 (ps := [(_, _), (_, _)]) rfl (vs := [_, _]) rfl) rfl ?_
 refine rl_y (y_build rfl Tryz.f49' Tryz.z49 (ps := [(_, _), (_, _)]) rfl (vs := [_, _]) rfl) rfl ?_
 refine rl_do rfl rfl ?_
 refine do_buildSlice trivial Tryz.s22 Tryz.z49 (ps := [(_, _), (_, _)]) rfl (xs := [_, _, _, _]) rfl rfl rfl rfl rfl rfl rfl ?_
 refine rl_freeze 3 rfl ?_
 intro ad3 cap3 u3 hle3z hsl3
 refine ya rfl rfl ?_
 refine rl_end (ρ' := [(0, _)]) ⟨rfl, trivial⟩ ?_
 refine q_then ?_
 refine wc_ret ?_
 refine fin1 (.tmp rfl) ?_
 exact ⟨_, _, rfl, hsl3⟩
theorem lawhead_fn (lv : Int) (s : Bs) (hs : s.length ≤ 1000) (u : View) : FnP Tryz.prog 16 [.int .i64 lv, str s] u fun r u' => ∃ ad cap, r = .agg #[.int .i64 2, .int .i64 lv, str [], str [], str [], str [], str [], .slice none 0 0, .slice none 0 0, .slice ad 1 cap, .slice none 0 0] ∧ InlS u' (.slice ad 1 cap) [tI s] := by
 refine FnP.intro [.cell 4 39] Tryz.func16 rfl rfl rfl ?_
 intro w0 D hw0
 refine wc_seq ?_
 refine wc_region ?_
 refine rl_do rfl rfl ?_
 refine do_alloc trivial Tryz.z39 rfl rfl rfl ?_
 refine rl_end (ρ' := [(0, _), (1, _), (4, _)]) ⟨rfl, rfl, rfl, trivial⟩ ?_
 refine q_then ?_
 refine wc_seq ?_
 refine wc_region ?_
 refine ym rfl rfl ?_
 refine ym rfl rfl ?_
 refine rl_y (y_build rfl Tryz.f45' Tryz.z45 (ps := [(_, _), (_, _)]) rfl (vs := [_, _, _, _, _, _, _, _, _, _]) rfl) rfl ?_
 refine rl_do rfl rfl ?_
 refine do_buildSlice trivial Tryz.s37 Tryz.z45 (ps := [(_, _)]) rfl (xs := [_, _, _, _, _, _, _, _, _, _]) rfl rfl rfl rfl rfl rfl rfl ?_
 refine rl_freeze 8 rfl ?_
 intro ad8 cap8 u8 hle8z hsl8
 refine rl_y (y_build rfl Tryz.f39' Tryz.z39 (ps := [(_, _), (_, _), (_, _)]) rfl (vs := [_, _, _, _, _, _, _, _, _, _, _]) rfl) rfl ?_
 refine rl_do rfl rfl ?_
 refine do_store_p trivial rfl Tryz.k39 rfl rfl rfl (vs := [_, _, _, _, _, _, _, _, _, _, _]) rfl rfl (by first | rfl | assumption | simp [Value.oneCell', str]) (Nat.le_of_ble_eq_true rfl) rfl ?_
 refine rl_end (ρ' := [(4, _)]) ⟨rfl, trivial⟩ ?_
 refine q_then ?_
 refine wc_ret ?_
 refine fin1 (.cell rfl rfl Tryz.k39 (cs := _) (vs := [_, _, _, _, _, _, _, _, _, _, _]) rfl rfl rfl) ?_
 exact ⟨_, _, rfl, ⟨_, ⟨_, _, rfl, hsl8⟩, InlsC.one (tI_cells _ s (by omega))⟩⟩
set_option maxHeartbeats 4000000 in
theorem lawawake_fn (u : View) (hT : TabU u) : FnP Tryz.prog 6 [] u fun r _ => r = .bool true := by
 refine FnP.intro [.tmp 0] Tryz.func6 rfl rfl rfl ?_
 intro w0 D hw0
 refine wc_seq ?_
 refine wc_region ?_
 refine ya rfl rfl ?_
 refine rl_end (ρ' := []) trivial ?_
 refine q_then ?_
 refine wc_seq ?_
 refine wc_region ?_
 refine rl_do rfl rfl ?_
 refine do_call (caps := []) trivial rfl rfl Tryz.c15 rfl (FnP.mono (lawmeta_fn u) ?_)
 rintro v uA hle0 ⟨adm, capm, rfl, hm⟩ hleA
 refine rl_do rfl rfl ?_
 refine do_call (caps := []) trivial rfl rfl Tryz.c16 rfl (FnP.mono (lawhead_fn 2 [65] (by decide) uA) ?_)
 rintro v uB hle0 ⟨adh, caph, rfl, hh⟩ hleB
 refine rl_do rfl rfl ?_
 refine do_buildSlice trivial Tryz.s23 Tryz.z39 (ps := [(_, _)]) rfl (xs := [_, _, _, _, _, _, _, _, _, _, _]) rfl rfl rfl rfl rfl rfl rfl ?_
 refine rl_freeze 8 rfl ?_
 intro ad8 cap8 u8 hle8z hsl8
 have hB1 : BlkS u8 (.slice ad8 1 cap8) [hdW 2 [65]] := ⟨_, ⟨_, _, rfl, hsl8⟩, BlksC.one (hd_C ⟨by decide, by decide⟩ (hh.mono hle8z))⟩
 have hT1 := ((hT.mono hleA).mono hleB).mono hle8z
 refine rl_y (y_build rfl Tryz.f25' Tryz.z25 (ps := [(_, _), (_, _)]) rfl (vs := [_, _]) rfl) rfl ?_
 refine rl_do rfl rfl ?_
 refine do_call (caps := []) trivial rfl rfl Tryz.c9 rfl (FnP.mono (check_fn _ _ metaW [hdW 2 [65]] u8 hT1 (by decide) (by simp [smB, sm_hd]) (by decide) ⟨_, _, rfl, (hm.mono hleB).mono hle8z⟩ hB1) ?_)
 rintro v uC hle0 ⟨ad1, cap1, rfl, hf1⟩ hleC
 rw [F_d1] at hf1 ⊢
 have hc1 : cut (fltC [(levS, [65])]) (0 * 3) 3 = [str levS, str [], str [65]] := rfl
 have hT1 := hT1.mono hleC
 refine ya rfl rfl ?_
 refine rl_end (ρ' := [(1, _)]) ⟨rfl, trivial⟩ ?_
 refine q_then ?_
 refine wc_seq ?_
 refine wc_region ?_
 refine rl_y (y_build rfl Tryz.f25' Tryz.z25 (ps := []) rfl (vs := [_, _]) rfl) rfl ?_
 refine rl_do rfl rfl ?_
 refine do_call (caps := []) trivial rfl rfl Tryz.c9 rfl (FnP.mono (check_fn _ _ [] [] uC hT1 (by decide) (by simp [smB]) (by decide) (nilPr _) (nilBl _)) ?_)
 rintro v uD hle0 ⟨ad2, cap2, rfl, hf2⟩ hleD
 rw [F_nil] at hf2 ⊢
 have hc2 : cut (fltC [(langS, langS), (titS, titS)]) (0 * 3) 3 = [str langS, str [], str langS] := rfl
 have hc3 : cut (fltC [(langS, langS), (titS, titS)]) (1 * 3) 3 = [str titS, str [], str titS] := rfl
 have hf1 := hf1.mono hleD
 refine ya rfl rfl ?_
 refine rl_end (ρ' := [(1, _), (2, _)]) ⟨rfl, rfl, trivial⟩ ?_
 refine q_then ?_
 refine wc_seq ?_
 refine wc_region ?_
 refine rl_y (y_build rfl Tryz.f45' Tryz.z45 (ps := [(_, _), (_, _)]) rfl (vs := [_, _, _, _, _, _, _, _, _, _]) rfl) rfl ?_
 refine rl_do rfl rfl ?_
 refine do_buildSlice trivial Tryz.s37 Tryz.z45 (ps := [(_, _)]) rfl (xs := [_, _, _, _, _, _, _, _, _, _]) rfl rfl rfl rfl rfl rfl rfl ?_
 refine rl_freeze 14 rfl ?_
 intro ad14 cap14 u14 hle14z hsl14
 refine rl_y (y_build rfl Tryz.f39' Tryz.z39 (ps := [(_, _), (_, _)]) rfl (vs := [_, _, _, _, _, _, _, _, _, _, _]) rfl) rfl ?_
 refine rl_do rfl rfl ?_
 refine do_alloc trivial Tryz.z39 rfl rfl rfl ?_
 refine rl_do rfl rfl ?_
 refine do_store_p trivial rfl Tryz.k39 rfl rfl rfl (vs := [_, _, _, _, _, _, _, _, _, _, _]) rfl rfl (by first | rfl | assumption | simp [Value.oneCell', str]) (Nat.le_of_ble_eq_true rfl) rfl ?_
 refine rl_end (ρ' := [(1, _), (2, _), (3, _)]) ⟨rfl, rfl, rfl, trivial⟩ ?_
 refine q_then ?_
 refine wc_cut (fun ρ σ uc5 => ∃ (adm2 : Option Addr) (capm2 : Nat) (adb2 : Option Addr) (capb2 : Nat) (rcs : List Value), VLe uD uc5 ∧ σ = [(4, (none, .box [.slice adm2 2 capm2, .slice adb2 3 capb2]))] ∧ ρ = [(1, .v (.slice ad1 1 cap1)), (2, .v (.slice ad2 2 cap2)), (4, .p 4 0)] ∧ (SlC uc5 adm2 2 capm2 2 (pairsC [(langS, enS), (titS, [65])]) ∧ SlC uc5 adb2 3 capb2 11 rcs ∧ BlksC uc5 r3W rcs)) ?_ ?_
 ·
  refine wc_draw Tryz.mixed rfl [(3, _)] ⟨rfl, trivial⟩ ?_
  refine ra_y (i := 2) rfl (by kernel_rfl) (by kernel_rfl) (by kernel_rfl) (np_then (np_fin)) (y_load_p rfl Tryz.k39 rfl rfl rfl (vs := [_, _, _, _, _, _, _, _, _, _, _]) rfl rfl rfl) rfl ?_
  refine ra_all (is := [0, 6]) (by kernel_rfl) rfl ?_
  refine raall_cons rfl rfl ?_ ?_
  ·
   refine do_call (caps := []) ⟨rfl, trivial⟩ rfl rfl Tryz.c16 rfl (FnP.mono (lawhead_fn 1 [65] (by decide) _) ?_)
   rintro v uE hle0 ⟨ade, cape, rfl, he⟩ hleE
   refine ra_all (is := [1, 6]) (by kernel_rfl) rfl ?_
   refine raall_cons rfl rfl ?_ ?_
   ·
    refine do_call (caps := []) ⟨rfl, trivial⟩ rfl rfl Tryz.c16 rfl (FnP.mono (lawhead_fn 3 [66] (by decide) _) ?_)
    rintro v uF hle0 ⟨adf, capf, rfl, hf⟩ hleF
    refine ra_all (is := [3, 6]) (by kernel_rfl) rfl ?_
    refine raall_cons rfl rfl ?_ ?_
    ·
     refine do_buildSlice ⟨rfl, trivial⟩ Tryz.s23 Tryz.z39 (ps := [(_, _), (_, _), (_, _)]) rfl (xs := [_, _, _, _, _, _, _, _, _, _, _, _, _, _, _, _, _, _, _, _, _, _, _, _, _, _, _, _, _, _, _, _, _]) rfl rfl rfl rfl rfl rfl rfl ?_
     refine ra_freeze 19 rfl ?_
     intro ad19 cap19 u19 hle19z hsl19
     have hp : InlC u19 lkW [.int .i64 9, str [], str [120], str [], str [], .slice none 0 0, .slice none 0 0, .slice none 0 0, .slice none 0 0, .slice none 0 0] :=
      InlC.mk' (nilStr _) (nilPr _) (nilStr _) (nilCi _) (nilInl _) ⟨⟨by decide, by decide⟩, by decide, by decide, by decide, attrOkZ, ⟨by decide, by simp⟩, ⟨by decide, by simp⟩, by decide⟩
     have hpl : InlS u19 (.slice ad14 1 cap14) [lkW] := ⟨_, ⟨_, _, rfl, ((hsl14.mono hleE).mono hleF).mono hle19z⟩, InlsC.one hp⟩
     have hpb : BlkC u19 (paW lkW) [.int .i64 1, .int .i64 0, str [], str [], str [], str [], str [], .slice none 0 0, .slice none 0 0, .slice ad14 1 cap14, .slice none 0 0] :=
      BlkC.mk' (a := ⟨[], [], []⟩) (nilStr _) (nilPr _) hpl (nilBl _) (blk_ok1 1 0 _ ⟨by decide, by decide⟩ ⟨by decide, by decide⟩ (by simp))
     have hB3 : BlkS u19 (.slice ad19 3 cap19) d3W := ⟨_, ⟨_, _, rfl, hsl19⟩, ((BlksC.one (hd_C (lv := 1) (s := [65]) ⟨by decide, by decide⟩ ((he.mono hleF).mono hle19z))).append (BlksC.one (hd_C (lv := 3) (s := [66]) ⟨by decide, by decide⟩ (hf.mono hle19z)))).append (BlksC.one hpb)⟩
     refine ra_y (i := 4) rfl (by kernel_rfl) (by kernel_rfl) (by kernel_rfl) (np_then (np_fin)) (y_build rfl Tryz.f25' Tryz.z25 (ps := [(_, _)]) rfl (vs := [_, _]) rfl) rfl ?_
     refine ra_all (is := [5, 6]) (by kernel_rfl) rfl ?_
     refine raall_cons rfl rfl ?_ ?_
     ·
      refine do_call (caps := []) ⟨rfl, trivial⟩ rfl rfl Tryz.c7 rfl (FnP.mono (repair_fn _ _ [] d3W u19 (by decide) sm_d3.2.1 sm_d3.1 sm_d3.2.2 (by rw [R_d3]; exact sm_r3.2) (by rw [R_d3]; exact sm_r3.1) (nilPr _) hB3) ?_)
      rintro v uR hle0 ⟨_, _, rfl, ⟨adm2, capm2, rfl, hm2⟩, ⟨rcs, ⟨adb2, capb2, rfl, hb2⟩, hbc2⟩⟩ hleR
      rw [M_d3] at hm2 ⊢
      rw [R_d3] at hb2 hbc2 ⊢
      refine ra_do (i := 6) rfl rfl (by kernel_rfl) ?_
      refine do_alloc ⟨rfl, trivial⟩ Tryz.z25 rfl rfl rfl ?_
      refine ra_do (i := 7) rfl rfl (by kernel_rfl) ?_
      refine do_store_p ⟨rfl, trivial⟩ rfl Tryz.k25 rfl rfl rfl (vs := [_, _]) rfl rfl (by first | rfl | assumption | simp [Value.oneCell', str]) (Nat.le_of_ble_eq_true rfl) rfl ?_
      refine ra_end (by kernel_rfl) (ρ' := [(1, _), (2, _), (4, _)]) ⟨rfl, rfl, rfl, trivial⟩ ?_
      refine q_thenK ?_
      refine ⟨[(1, _), (2, _), (4, _)], [(4, _)], ⟨rfl, rfl, rfl, trivial⟩, ⟨rfl, trivial⟩, adm2, capm2, adb2, capb2, rcs, (hle14z.trans (hleE.trans (hleF.trans (hle19z.trans hleR)))), rfl, rfl, ?_⟩
      exact ⟨hm2, hb2, hbc2⟩
     refine raall_cons rfl rfl ?_ ?_
     ·
      refine do_alloc ⟨rfl, trivial⟩ Tryz.z25 rfl rfl rfl ?_
      refine ra_do (i := 5) rfl rfl (by kernel_rfl) ?_
      refine do_call (caps := []) ⟨rfl, trivial⟩ rfl rfl Tryz.c7 rfl (FnP.mono (repair_fn _ _ [] d3W u19 (by decide) sm_d3.2.1 sm_d3.1 sm_d3.2.2 (by rw [R_d3]; exact sm_r3.2) (by rw [R_d3]; exact sm_r3.1) (nilPr _) hB3) ?_)
      rintro v uR hle0 ⟨_, _, rfl, ⟨adm2, capm2, rfl, hm2⟩, ⟨rcs, ⟨adb2, capb2, rfl, hb2⟩, hbc2⟩⟩ hleR
      rw [M_d3] at hm2 ⊢
      rw [R_d3] at hb2 hbc2 ⊢
      refine ra_do (i := 7) rfl rfl (by kernel_rfl) ?_
      refine do_store_p ⟨rfl, trivial⟩ rfl Tryz.k25 rfl rfl rfl (vs := [_, _]) rfl rfl (by first | rfl | assumption | simp [Value.oneCell', str]) (Nat.le_of_ble_eq_true rfl) rfl ?_
      refine ra_end (by kernel_rfl) (ρ' := [(1, _), (2, _), (4, _)]) ⟨rfl, rfl, rfl, trivial⟩ ?_
      refine q_thenK ?_
      refine ⟨[(1, _), (2, _), (4, _)], [(4, _)], ⟨rfl, rfl, rfl, trivial⟩, ⟨rfl, trivial⟩, adm2, capm2, adb2, capb2, rcs, (hle14z.trans (hleE.trans (hleF.trans (hle19z.trans hleR)))), rfl, rfl, ?_⟩
      exact ⟨hm2, hb2, hbc2⟩
     exact raall_nil
    refine raall_cons rfl rfl ?_ ?_
    ·
     refine do_alloc ⟨rfl, trivial⟩ Tryz.z25 rfl rfl rfl ?_
     refine ra_do (i := 3) rfl rfl (by kernel_rfl) ?_
     refine do_buildSlice ⟨rfl, trivial⟩ Tryz.s23 Tryz.z39 (ps := [(_, _), (_, _), (_, _)]) rfl (xs := [_, _, _, _, _, _, _, _, _, _, _, _, _, _, _, _, _, _, _, _, _, _, _, _, _, _, _, _, _, _, _, _, _]) rfl rfl rfl rfl rfl rfl rfl ?_
     refine ra_freeze 19 rfl ?_
     intro ad19 cap19 u19 hle19z hsl19
     have hp : InlC u19 lkW [.int .i64 9, str [], str [120], str [], str [], .slice none 0 0, .slice none 0 0, .slice none 0 0, .slice none 0 0, .slice none 0 0] :=
      InlC.mk' (nilStr _) (nilPr _) (nilStr _) (nilCi _) (nilInl _) ⟨⟨by decide, by decide⟩, by decide, by decide, by decide, attrOkZ, ⟨by decide, by simp⟩, ⟨by decide, by simp⟩, by decide⟩
     have hpl : InlS u19 (.slice ad14 1 cap14) [lkW] := ⟨_, ⟨_, _, rfl, ((hsl14.mono hleE).mono hleF).mono hle19z⟩, InlsC.one hp⟩
     have hpb : BlkC u19 (paW lkW) [.int .i64 1, .int .i64 0, str [], str [], str [], str [], str [], .slice none 0 0, .slice none 0 0, .slice ad14 1 cap14, .slice none 0 0] :=
      BlkC.mk' (a := ⟨[], [], []⟩) (nilStr _) (nilPr _) hpl (nilBl _) (blk_ok1 1 0 _ ⟨by decide, by decide⟩ ⟨by decide, by decide⟩ (by simp))
     have hB3 : BlkS u19 (.slice ad19 3 cap19) d3W := ⟨_, ⟨_, _, rfl, hsl19⟩, ((BlksC.one (hd_C (lv := 1) (s := [65]) ⟨by decide, by decide⟩ ((he.mono hleF).mono hle19z))).append (BlksC.one (hd_C (lv := 3) (s := [66]) ⟨by decide, by decide⟩ (hf.mono hle19z)))).append (BlksC.one hpb)⟩
     refine ra_y (i := 4) rfl (by kernel_rfl) (by kernel_rfl) (by kernel_rfl) (np_then (np_fin)) (y_build rfl Tryz.f25' Tryz.z25 (ps := [(_, _)]) rfl (vs := [_, _]) rfl) rfl ?_
     refine ra_do (i := 5) rfl rfl (by kernel_rfl) ?_
     refine do_call (caps := []) ⟨rfl, trivial⟩ rfl rfl Tryz.c7 rfl (FnP.mono (repair_fn _ _ [] d3W u19 (by decide) sm_d3.2.1 sm_d3.1 sm_d3.2.2 (by rw [R_d3]; exact sm_r3.2) (by rw [R_d3]; exact sm_r3.1) (nilPr _) hB3) ?_)
     rintro v uR hle0 ⟨_, _, rfl, ⟨adm2, capm2, rfl, hm2⟩, ⟨rcs, ⟨adb2, capb2, rfl, hb2⟩, hbc2⟩⟩ hleR
     rw [M_d3] at hm2 ⊢
     rw [R_d3] at hb2 hbc2 ⊢
     refine ra_do (i := 7) rfl rfl (by kernel_rfl) ?_
     refine do_store_p ⟨rfl, trivial⟩ rfl Tryz.k25 rfl rfl rfl (vs := [_, _]) rfl rfl (by first | rfl | assumption | simp [Value.oneCell', str]) (Nat.le_of_ble_eq_true rfl) rfl ?_
     refine ra_end (by kernel_rfl) (ρ' := [(1, _), (2, _), (4, _)]) ⟨rfl, rfl, rfl, trivial⟩ ?_
     refine q_thenK ?_
     refine ⟨[(1, _), (2, _), (4, _)], [(4, _)], ⟨rfl, rfl, rfl, trivial⟩, ⟨rfl, trivial⟩, adm2, capm2, adb2, capb2, rcs, (hle14z.trans (hleE.trans (hleF.trans (hle19z.trans hleR)))), rfl, rfl, ?_⟩
     exact ⟨hm2, hb2, hbc2⟩
    exact raall_nil
   refine raall_cons rfl rfl ?_ ?_
   ·
    refine do_alloc ⟨rfl, trivial⟩ Tryz.z25 rfl rfl rfl ?_
    refine ra_do (i := 1) rfl rfl (by kernel_rfl) ?_
    refine do_call (caps := []) ⟨rfl, trivial⟩ rfl rfl Tryz.c16 rfl (FnP.mono (lawhead_fn 3 [66] (by decide) _) ?_)
    rintro v uF hle0 ⟨adf, capf, rfl, hf⟩ hleF
    refine ra_do (i := 3) rfl rfl (by kernel_rfl) ?_
    refine do_buildSlice ⟨rfl, trivial⟩ Tryz.s23 Tryz.z39 (ps := [(_, _), (_, _), (_, _)]) rfl (xs := [_, _, _, _, _, _, _, _, _, _, _, _, _, _, _, _, _, _, _, _, _, _, _, _, _, _, _, _, _, _, _, _, _]) rfl rfl rfl rfl rfl rfl rfl ?_
    refine ra_freeze 19 rfl ?_
    intro ad19 cap19 u19 hle19z hsl19
    have hp : InlC u19 lkW [.int .i64 9, str [], str [120], str [], str [], .slice none 0 0, .slice none 0 0, .slice none 0 0, .slice none 0 0, .slice none 0 0] :=
     InlC.mk' (nilStr _) (nilPr _) (nilStr _) (nilCi _) (nilInl _) ⟨⟨by decide, by decide⟩, by decide, by decide, by decide, attrOkZ, ⟨by decide, by simp⟩, ⟨by decide, by simp⟩, by decide⟩
    have hpl : InlS u19 (.slice ad14 1 cap14) [lkW] := ⟨_, ⟨_, _, rfl, ((hsl14.mono hleE).mono hleF).mono hle19z⟩, InlsC.one hp⟩
    have hpb : BlkC u19 (paW lkW) [.int .i64 1, .int .i64 0, str [], str [], str [], str [], str [], .slice none 0 0, .slice none 0 0, .slice ad14 1 cap14, .slice none 0 0] :=
     BlkC.mk' (a := ⟨[], [], []⟩) (nilStr _) (nilPr _) hpl (nilBl _) (blk_ok1 1 0 _ ⟨by decide, by decide⟩ ⟨by decide, by decide⟩ (by simp))
    have hB3 : BlkS u19 (.slice ad19 3 cap19) d3W := ⟨_, ⟨_, _, rfl, hsl19⟩, ((BlksC.one (hd_C (lv := 1) (s := [65]) ⟨by decide, by decide⟩ ((he.mono hleF).mono hle19z))).append (BlksC.one (hd_C (lv := 3) (s := [66]) ⟨by decide, by decide⟩ (hf.mono hle19z)))).append (BlksC.one hpb)⟩
    refine ra_y (i := 4) rfl (by kernel_rfl) (by kernel_rfl) (by kernel_rfl) (np_then (np_fin)) (y_build rfl Tryz.f25' Tryz.z25 (ps := [(_, _)]) rfl (vs := [_, _]) rfl) rfl ?_
    refine ra_do (i := 5) rfl rfl (by kernel_rfl) ?_
    refine do_call (caps := []) ⟨rfl, trivial⟩ rfl rfl Tryz.c7 rfl (FnP.mono (repair_fn _ _ [] d3W u19 (by decide) sm_d3.2.1 sm_d3.1 sm_d3.2.2 (by rw [R_d3]; exact sm_r3.2) (by rw [R_d3]; exact sm_r3.1) (nilPr _) hB3) ?_)
    rintro v uR hle0 ⟨_, _, rfl, ⟨adm2, capm2, rfl, hm2⟩, ⟨rcs, ⟨adb2, capb2, rfl, hb2⟩, hbc2⟩⟩ hleR
    rw [M_d3] at hm2 ⊢
    rw [R_d3] at hb2 hbc2 ⊢
    refine ra_do (i := 7) rfl rfl (by kernel_rfl) ?_
    refine do_store_p ⟨rfl, trivial⟩ rfl Tryz.k25 rfl rfl rfl (vs := [_, _]) rfl rfl (by first | rfl | assumption | simp [Value.oneCell', str]) (Nat.le_of_ble_eq_true rfl) rfl ?_
    refine ra_end (by kernel_rfl) (ρ' := [(1, _), (2, _), (4, _)]) ⟨rfl, rfl, rfl, trivial⟩ ?_
    refine q_thenK ?_
    refine ⟨[(1, _), (2, _), (4, _)], [(4, _)], ⟨rfl, rfl, rfl, trivial⟩, ⟨rfl, trivial⟩, adm2, capm2, adb2, capb2, rcs, (hle14z.trans (hleE.trans (hleF.trans (hle19z.trans hleR)))), rfl, rfl, ?_⟩
    exact ⟨hm2, hb2, hbc2⟩
   exact raall_nil
  refine raall_cons rfl rfl ?_ ?_
  ·
   refine do_alloc ⟨rfl, trivial⟩ Tryz.z25 rfl rfl rfl ?_
   refine ra_do (i := 0) rfl rfl (by kernel_rfl) ?_
   refine do_call (caps := []) ⟨rfl, trivial⟩ rfl rfl Tryz.c16 rfl (FnP.mono (lawhead_fn 1 [65] (by decide) _) ?_)
   rintro v uE hle0 ⟨ade, cape, rfl, he⟩ hleE
   refine ra_do (i := 1) rfl rfl (by kernel_rfl) ?_
   refine do_call (caps := []) ⟨rfl, trivial⟩ rfl rfl Tryz.c16 rfl (FnP.mono (lawhead_fn 3 [66] (by decide) _) ?_)
   rintro v uF hle0 ⟨adf, capf, rfl, hf⟩ hleF
   refine ra_do (i := 3) rfl rfl (by kernel_rfl) ?_
   refine do_buildSlice ⟨rfl, trivial⟩ Tryz.s23 Tryz.z39 (ps := [(_, _), (_, _), (_, _)]) rfl (xs := [_, _, _, _, _, _, _, _, _, _, _, _, _, _, _, _, _, _, _, _, _, _, _, _, _, _, _, _, _, _, _, _, _]) rfl rfl rfl rfl rfl rfl rfl ?_
   refine ra_freeze 19 rfl ?_
   intro ad19 cap19 u19 hle19z hsl19
   have hp : InlC u19 lkW [.int .i64 9, str [], str [120], str [], str [], .slice none 0 0, .slice none 0 0, .slice none 0 0, .slice none 0 0, .slice none 0 0] :=
    InlC.mk' (nilStr _) (nilPr _) (nilStr _) (nilCi _) (nilInl _) ⟨⟨by decide, by decide⟩, by decide, by decide, by decide, attrOkZ, ⟨by decide, by simp⟩, ⟨by decide, by simp⟩, by decide⟩
   have hpl : InlS u19 (.slice ad14 1 cap14) [lkW] := ⟨_, ⟨_, _, rfl, ((hsl14.mono hleE).mono hleF).mono hle19z⟩, InlsC.one hp⟩
   have hpb : BlkC u19 (paW lkW) [.int .i64 1, .int .i64 0, str [], str [], str [], str [], str [], .slice none 0 0, .slice none 0 0, .slice ad14 1 cap14, .slice none 0 0] :=
    BlkC.mk' (a := ⟨[], [], []⟩) (nilStr _) (nilPr _) hpl (nilBl _) (blk_ok1 1 0 _ ⟨by decide, by decide⟩ ⟨by decide, by decide⟩ (by simp))
   have hB3 : BlkS u19 (.slice ad19 3 cap19) d3W := ⟨_, ⟨_, _, rfl, hsl19⟩, ((BlksC.one (hd_C (lv := 1) (s := [65]) ⟨by decide, by decide⟩ ((he.mono hleF).mono hle19z))).append (BlksC.one (hd_C (lv := 3) (s := [66]) ⟨by decide, by decide⟩ (hf.mono hle19z)))).append (BlksC.one hpb)⟩
   refine ra_y (i := 4) rfl (by kernel_rfl) (by kernel_rfl) (by kernel_rfl) (np_then (np_fin)) (y_build rfl Tryz.f25' Tryz.z25 (ps := [(_, _)]) rfl (vs := [_, _]) rfl) rfl ?_
   refine ra_do (i := 5) rfl rfl (by kernel_rfl) ?_
   refine do_call (caps := []) ⟨rfl, trivial⟩ rfl rfl Tryz.c7 rfl (FnP.mono (repair_fn _ _ [] d3W u19 (by decide) sm_d3.2.1 sm_d3.1 sm_d3.2.2 (by rw [R_d3]; exact sm_r3.2) (by rw [R_d3]; exact sm_r3.1) (nilPr _) hB3) ?_)
   rintro v uR hle0 ⟨_, _, rfl, ⟨adm2, capm2, rfl, hm2⟩, ⟨rcs, ⟨adb2, capb2, rfl, hb2⟩, hbc2⟩⟩ hleR
   rw [M_d3] at hm2 ⊢
   rw [R_d3] at hb2 hbc2 ⊢
   refine ra_do (i := 7) rfl rfl (by kernel_rfl) ?_
   refine do_store_p ⟨rfl, trivial⟩ rfl Tryz.k25 rfl rfl rfl (vs := [_, _]) rfl rfl (by first | rfl | assumption | simp [Value.oneCell', str]) (Nat.le_of_ble_eq_true rfl) rfl ?_
   refine ra_end (by kernel_rfl) (ρ' := [(1, _), (2, _), (4, _)]) ⟨rfl, rfl, rfl, trivial⟩ ?_
   refine q_thenK ?_
   refine ⟨[(1, _), (2, _), (4, _)], [(4, _)], ⟨rfl, rfl, rfl, trivial⟩, ⟨rfl, trivial⟩, adm2, capm2, adb2, capb2, rcs, (hle14z.trans (hleE.trans (hleF.trans (hle19z.trans hleR)))), rfl, rfl, ?_⟩
   exact ⟨hm2, hb2, hbc2⟩
  exact raall_nil
 ·
  rintro ρ σ uc5 ⟨adm2, capm2, adb2, capb2, rcs, hlc5, rfl, rfl, ⟨hm2, hb2, hbc2⟩⟩
  refine wc_seq ?_
  refine wc_seq ?_
  have hf1 : SlC uc5 ad1 1 cap1 3 (fltC [(levS, [65])]) := hf1.mono hlc5
  have hf2 : SlC uc5 ad2 2 cap2 3 (fltC [(langS, langS), (titS, titS)]) := hf2.mono hlc5
  have hcm : cut (pairsC [(langS, enS), (titS, [65])]) (1 * 2) 2 = [str titS, str [65]] := rfl
  obtain ⟨k, lv, inf, t, d, ti, a, line, kids, vc, vp, vl, vk, hg, hcutB, _⟩ := hbc2.at (i := 1) (by decide)
  have hg' : some (hdW 2 [66]) = some (Blk.mk k lv inf t d ti a line kids) := hg
  cases hg'
  obtain ⟨k, lv, inf, t, d, ti, a, line, kids, vc3, vp3, vl3, vk3, hg3, hcutP, _, _, hsl, _⟩ := hbc2.at (i := 2) (by decide)
  have hg3' : some (paW lkR) = some (Blk.mk k lv inf t d ti a line kids) := hg3
  cases hg3'
  obtain ⟨lcs, ⟨lad, lcap, rfl, hl1⟩, hl2⟩ := hsl
  obtain ⟨k, t, d, ti, a, args, cites, kids, vc4, vp4, va4, vt4, vk4, hg4, hcutL, _, _, _, _, hkids, _⟩ := hl2.at (i := 0) (by decide)
  have hg4' : some lkR = some (Inl.mk k t d ti a args cites kids) := hg4
  cases hg4'
  obtain ⟨mcs, ⟨mad, mcap, rfl, hk1⟩, hk2⟩ := hkids
  obtain ⟨k, t, d, ti, a, args, cites, kids, vc5, vp5, va5, vt5, vk5, hg5, hcutK, _⟩ := hk2.at (i := 0) (by decide)
  have hl8 : [lkR].length = 1 := rfl
  have hl9 : [tI [120]].length = 1 := rfl
  have hg5' : some (tI [120]) = some (Inl.mk k t d ti a args cites kids) := hg5
  cases hg5'
  refine wc_region ?_
  refine ym rfl rfl ?_
  refine rl_y (y_len_v rfl rfl Tryz.s30 rfl) rfl ?_
  refine rl_y (y_neq rfl rfl rfl) rfl ?_
  refine ym rfl rfl ?_
  refine rl_on rfl rfl ?_
  refine ym rfl rfl ?_
  refine rl_on rfl rfl ?_
  refine rl_y (y_index_e rfl Tryz.s30 rfl rfl hf1 (j := 0) rfl (by decide)) rfl ?_
  refine rl_on rfl rfl ?_
  refine rl_y (y_field_e rfl Tryz.f47' rfl (by decide) rfl) rfl ?_
  refine rl_on rfl rfl ?_
  refine rl_y (y_load_el rfl Tryz.k9 rfl (by assumption) (by omega) (by assumption) (vs := [_]) rfl rfl rfl rfl) rfl ?_
  refine rl_on rfl rfl ?_
  refine rl_y (y_str_neq rfl rfl rfl) rfl ?_
  refine rl_y (y_pick_f rfl rfl rfl) rfl ?_
  refine ym rfl rfl ?_
  refine rl_on rfl rfl ?_
  refine ym rfl rfl ?_
  refine rl_on rfl rfl ?_
  refine rl_y (y_index_e rfl Tryz.s30 rfl rfl hf1 (j := 0) rfl (by decide)) rfl ?_
  refine rl_on rfl rfl ?_
  refine rl_y (y_field_e rfl Tryz.f47' rfl (by decide) rfl) rfl ?_
  refine rl_on rfl rfl ?_
  refine rl_y (y_load_el rfl Tryz.k9 rfl (by assumption) (by omega) (by assumption) (vs := [_]) rfl rfl rfl rfl) rfl ?_
  refine rl_on rfl rfl ?_
  refine rl_y (y_str_neq rfl rfl rfl) rfl ?_
  refine rl_y (y_pick_f rfl rfl rfl) rfl ?_
  refine ym rfl rfl ?_
  refine rl_on rfl rfl ?_
  refine ym rfl rfl ?_
  refine rl_on rfl rfl ?_
  refine rl_y (y_len_v rfl rfl Tryz.s30 rfl) rfl ?_
  refine rl_on rfl rfl ?_
  refine rl_y (y_neq rfl rfl rfl) rfl ?_
  refine rl_y (y_pick_f rfl rfl rfl) rfl ?_
  refine ym rfl rfl ?_
  refine rl_on rfl rfl ?_
  refine ym rfl rfl ?_
  refine rl_on rfl rfl ?_
  refine rl_y (y_index_e rfl Tryz.s30 rfl rfl hf2 (j := 0) rfl (by decide)) rfl ?_
  refine rl_on rfl rfl ?_
  refine rl_y (y_field_e rfl Tryz.f47' rfl (by decide) rfl) rfl ?_
  refine rl_on rfl rfl ?_
  refine rl_y (y_load_el rfl Tryz.k9 rfl (by assumption) (by omega) (by assumption) (vs := [_]) rfl rfl rfl rfl) rfl ?_
  refine rl_on rfl rfl ?_
  refine rl_y (y_str_neq rfl rfl rfl) rfl ?_
  refine rl_y (y_pick_f rfl rfl rfl) rfl ?_
  refine ym rfl rfl ?_
  refine rl_on rfl rfl ?_
  refine ym rfl rfl ?_
  refine rl_on rfl rfl ?_
  refine rl_y (y_index_e rfl Tryz.s30 rfl rfl hf2 (j := 1) rfl (by decide)) rfl ?_
  refine rl_on rfl rfl ?_
  refine rl_y (y_field_e rfl Tryz.f47' rfl (by decide) rfl) rfl ?_
  refine rl_on rfl rfl ?_
  refine rl_y (y_load_el rfl Tryz.k9 rfl (by assumption) (by omega) (by assumption) (vs := [_]) rfl rfl rfl rfl) rfl ?_
  refine rl_on rfl rfl ?_
  refine rl_y (y_str_neq rfl rfl rfl) rfl ?_
  refine rl_y (y_pick_f rfl rfl rfl) rfl ?_
  refine ym rfl rfl ?_
  refine rl_on rfl rfl ?_
  refine rl_y (y_field_p rfl Tryz.f25' rfl (by decide) rfl) rfl ?_
  refine rl_on rfl rfl ?_
  refine rl_y (y_load_p rfl Tryz.k23 rfl rfl rfl (vs := [_]) rfl rfl rfl) rfl ?_
  refine rl_on rfl rfl ?_
  refine rl_y (y_len_v rfl rfl Tryz.s23 rfl) rfl ?_
  refine rl_on rfl rfl ?_
  refine rl_y (y_neq rfl rfl rfl) rfl ?_
  refine rl_y (y_pick_f rfl rfl rfl) rfl ?_
  refine ym rfl rfl ?_
  refine rl_on rfl rfl ?_
  refine rl_y (y_field_p rfl Tryz.f25' rfl (by decide) rfl) rfl ?_
  refine rl_on rfl rfl ?_
  refine rl_y (y_load_p rfl Tryz.k23 rfl rfl rfl (vs := [_]) rfl rfl rfl) rfl ?_
  refine rl_on rfl rfl ?_
  refine rl_y (y_index_e rfl Tryz.s23 rfl rfl hb2 (j := 1) rfl (by decide)) rfl ?_
  refine rl_on rfl rfl ?_
  refine rl_y (y_field_e rfl Tryz.f39' rfl (by decide) rfl) rfl ?_
  refine rl_on rfl rfl ?_
  refine rl_y (y_load_el rfl Tryz.k3 rfl (by assumption) (by omega) (by assumption) (vs := [_]) rfl rfl rfl rfl) rfl ?_
  refine rl_on rfl rfl ?_
  refine rl_y (y_neq rfl rfl rfl) rfl ?_
  refine rl_y (y_pick_f rfl rfl rfl) rfl ?_
  refine ym rfl rfl ?_
  refine rl_on rfl rfl ?_
  refine rl_y (y_field_p rfl Tryz.f25' rfl (by decide) rfl) rfl ?_
  refine rl_on rfl rfl ?_
  refine rl_y (y_load_p rfl Tryz.k22 rfl rfl rfl (vs := [_]) rfl rfl rfl) rfl ?_
  refine rl_on rfl rfl ?_
  refine rl_y (y_len_v rfl rfl Tryz.s22 rfl) rfl ?_
  refine rl_on rfl rfl ?_
  refine rl_y (y_neq rfl rfl rfl) rfl ?_
  refine rl_y (y_pick_f rfl rfl rfl) rfl ?_
  refine ym rfl rfl ?_
  refine rl_on rfl rfl ?_
  refine rl_y (y_field_p rfl Tryz.f25' rfl (by decide) rfl) rfl ?_
  refine rl_on rfl rfl ?_
  refine rl_y (y_load_p rfl Tryz.k22 rfl rfl rfl (vs := [_]) rfl rfl rfl) rfl ?_
  refine rl_on rfl rfl ?_
  refine rl_y (y_index_e rfl Tryz.s22 rfl rfl hm2 (j := 1) rfl (by decide)) rfl ?_
  refine rl_on rfl rfl ?_
  refine rl_y (y_field_e rfl Tryz.f49' rfl (by decide) rfl) rfl ?_
  refine rl_on rfl rfl ?_
  refine rl_y (y_load_el rfl Tryz.k9 rfl (by assumption) (by omega) (by assumption) (vs := [_]) rfl rfl rfl rfl) rfl ?_
  refine rl_on rfl rfl ?_
  refine rl_y (y_str_neq rfl rfl rfl) rfl ?_
  refine rl_y (y_pick_f rfl rfl rfl) rfl ?_
  refine rl_end (ρ' := [(4, _), (85, _)]) ⟨rfl, rfl, trivial⟩ ?_
  refine q_then ?_
  refine wc_cond_f rfl (rfl) ?_
  refine wc_skip ?_
  refine q_then ?_
  refine wc_seq ?_
  refine wc_region ?_
  refine rl_y (y_field_p rfl Tryz.f25' rfl (by decide) rfl) rfl ?_
  refine rl_y (y_load_p rfl Tryz.k23 rfl rfl rfl (vs := [_]) rfl rfl rfl) rfl ?_
  refine rl_y (y_index_e rfl Tryz.s23 rfl rfl hb2 (j := 2) rfl (by decide)) rfl ?_
  refine rl_y (y_field_e rfl Tryz.f39' rfl (by decide) rfl) rfl ?_
  refine rl_y (y_load_el rfl Tryz.k37 rfl (by assumption) (by omega) (by assumption) (vs := [_]) rfl rfl rfl rfl) rfl ?_
  refine ya rfl rfl ?_
  refine rl_end (ρ' := [(5, _)]) ⟨rfl, trivial⟩ ?_
  refine q_then ?_
  refine wc_seq ?_
  refine wc_region ?_
  refine ym rfl rfl ?_
  refine rl_y (y_len_v rfl rfl Tryz.s37 rfl) rfl ?_
  refine rl_y (y_eql rfl rfl rfl) rfl ?_
  refine ym rfl rfl ?_
  refine rl_on rfl rfl ?_
  refine ym rfl rfl ?_
  refine rl_on rfl rfl ?_
  refine rl_y (y_index_e rfl Tryz.s37 rfl rfl hl1 (j := 0) rfl (by decide)) rfl ?_
  refine rl_on rfl rfl ?_
  refine rl_y (y_field_e rfl Tryz.f45' rfl (by decide) rfl) rfl ?_
  refine rl_on rfl rfl ?_
  refine rl_y (y_load_el rfl Tryz.k37 rfl (by assumption) (by omega) (by assumption) (vs := [_]) rfl rfl rfl rfl) rfl ?_
  refine rl_on rfl rfl ?_
  refine rl_y (y_len_v rfl rfl Tryz.s37 rfl) rfl ?_
  refine rl_on rfl rfl ?_
  refine rl_y (y_eql rfl rfl rfl) rfl ?_
  refine rl_y (y_pick_t rfl rfl rfl) rfl ?_
  refine ym rfl rfl ?_
  refine rl_on rfl rfl ?_
  refine ym rfl rfl ?_
  refine rl_on rfl rfl ?_
  refine rl_y (y_index_e rfl Tryz.s37 rfl rfl hl1 (j := 0) rfl (by decide)) rfl ?_
  refine rl_on rfl rfl ?_
  refine rl_y (y_field_e rfl Tryz.f45' rfl (by decide) rfl) rfl ?_
  refine rl_on rfl rfl ?_
  refine rl_y (y_load_el rfl Tryz.k37 rfl (by assumption) (by omega) (by assumption) (vs := [_]) rfl rfl rfl rfl) rfl ?_
  refine rl_on rfl rfl ?_
  refine rl_y (y_index_e rfl Tryz.s37 rfl rfl hk1 (j := 0) rfl (by decide)) rfl ?_
  refine rl_on rfl rfl ?_
  refine rl_y (y_field_e rfl Tryz.f45' rfl (by decide) rfl) rfl ?_
  refine rl_on rfl rfl ?_
  refine rl_y (y_load_el rfl Tryz.k9 rfl (by assumption) (by omega) (by assumption) (vs := [_]) rfl rfl rfl rfl) rfl ?_
  refine rl_on rfl rfl ?_
  refine rl_y (y_str_eql rfl rfl rfl) rfl ?_
  refine rl_y (y_pick_t rfl rfl rfl) rfl ?_
  refine ya rfl rfl ?_
  refine rl_end (ρ' := [(0, _)]) ⟨rfl, trivial⟩ ?_
  refine q_then ?_
  refine wc_ret ?_
  refine fin1 (.tmp rfl) ?_
  rfl
theorem found_none {p : Inl → Bool} {g : Inl → Bs} {xs : List Inl} (h : foundL p g xs = []) : ∀ x ∈ xs, p x = false := by
 intro x hx
 unfold foundL at h
 cases hp : p x with
 | false => rfl
 | true =>
  have : x ∈ xs.filter p := List.mem_filter.2 ⟨hx, hp⟩
  rw [List.map_eq_nil_iff.1 h] at this
  cases this
theorem faultsTo_nil {ps : List (Bs × Bs)} {bs : List Blk} : ∀ {n : Nat}, faultsTo ps bs n = [] → ∀ i, i < n → textF ps bs i = []
 | 0, _, i, hi => absurd hi (Nat.not_lt_zero i)
 | n + 1, h, i, hi => by
  rw [faultsTo] at h
  obtain ⟨h1, h2⟩ := List.append_eq_nil_iff.1 h
  rcases Nat.lt_or_ge i n with hl | hl
  ·
   exact faultsTo_nil h1 i hl
  ·
   have : i = n := by omega
   subst this
   exact List.map_eq_nil_iff.1 h2
theorem faults_none {ps : List (Bs × Bs)} {bs : List Blk} (h : faultsL ps bs = []) : repB bs = bs ∧ repM ps bs = ps := by
 have hf := faultsTo_nil (n := 8) h
 have h0 : foundL silent targetX (inls (listB bs)) = [] := hf 0 (by decide)
 have h1 : skipsL 0 (headsL (listB bs)) = [] := hf 1 (by decide)
 have h3 : foundL mute targetX (inls (listB bs)) = [] := hf 3 (by decide)
 have h4 : emptyL (headsL (listB bs)) = [] := hf 4 (by decide)
 have h5 : (if hasM langS ps = true then [] else [langS]) = [] := hf 5 (by decide)
 have h6 : (if hasM titS ps = true then [] else [titS]) = [] := hf 6 (by decide)
 refine repair_none ps bs (fun x hx => ⟨found_none h0 x hx, found_none h3 x hx⟩) h1 (fun b hb he => ?_) ?_ ?_
 ·
  unfold emptyL at h4
  have : b ∈ (headsL (listB bs)).filter fun h => decide (trim (plain (lineOf h)) = []) := List.mem_filter.2 ⟨hb, by simp [he]⟩
  rw [List.map_eq_nil_iff.1 h4] at this
  cases this
 ·
  cases hh : hasM langS ps with
  | true => rfl
  | false => rw [hh] at h5; cases h5
 ·
  cases hh : hasM titS ps with
  | true => rfl
  | false => rw [hh] at h6; cases h6
theorem rep_stays (bs : List Blk) : All2 stays (listB bs) (listB (repB bs)) := fixB_stays bs 0
theorem repB_len (bs : List Blk) : (repB bs).length = bs.length := fixB_len bs 0
set_option maxHeartbeats 4000000 in
theorem accOnce_fn (d : DDoc) (vm vb : Value) (u : View) (hT : TabU u) (hm : PrS u vm d.mts) (hbk : BlkS u vb d.blocks) (hok : DocOk d) :
  FnP Tryz.prog 3 [.agg #[vm, vb]] u fun r _ => r = .bool true := by
 have hm0 := hm
 have hb0 := hbk
 obtain ⟨adm, capm, rfl, hm1⟩ := hm
 obtain ⟨bcs, ⟨adb, capb, rfl, hb1⟩, hb2⟩ := hbk
 obtain ⟨ps, bs⟩ := d
 simp only at hm0 hb0 hm1 hb1 hb2
 refine FnP.intro [.tmp 2] Tryz.func3 rfl rfl rfl ?_
 intro w0 D hw0
 refine wc_seq ?_
 refine wc_region ?_
 refine rl_do rfl rfl ?_
 refine do_box trivial rfl (cs := [_, _]) rfl rfl rfl rfl ?_
 refine ya rfl rfl ?_
 refine rl_end (ρ' := [(1, _)]) ⟨rfl, trivial⟩ ?_
 refine q_then ?_
 refine wc_seq ?_
 refine wc_seq ?_
 refine wc_region ?_
 refine rl_y (y_load_p rfl Tryz.k25 rfl rfl rfl (vs := [_, _]) rfl rfl rfl) rfl ?_
 refine rl_do rfl rfl ?_
 refine do_call_f (caps := []) trivial rfl rfl Tryz.c5 rfl (FnP.mono (smallX_fn ⟨ps, bs⟩ _ _ u hm0 hb0 hok) ?_)
 rintro v u1 hle1 rfl
 refine rl_y (y_not rfl rfl) rfl ?_
 refine rl_end (ρ' := [(1, _), (9, _)]) ⟨rfl, rfl, trivial⟩ ?_
 refine q_then ?_
 refine wc_cond rfl (fun hb1 => ?_) (fun hb1 => ?_)
 ·
  skip
  refine wc_seq ?_
  refine wc_region ?_
  refine rl_do rfl rfl ?_
  refine do_call_f (caps := []) trivial rfl rfl Tryz.c6 rfl (FnP.mono (lawawake_fn u hT) ?_)
  rintro v u1 hle1 rfl
  refine ya rfl rfl ?_
  refine rl_end (ρ' := [(2, _)]) ⟨rfl, trivial⟩ ?_
  refine q_then ?_
  refine wc_ret ?_
  refine q_then_ret ?_
  refine fin1 (.tmp rfl) ?_
  rfl
 ·
  have hs : smallB ⟨ps, bs⟩ = true := by simpa using hb1
  obtain ⟨hs1, hs2, hs3⟩ := small_st hs
  simp only at hs1 hs2 hs3
  obtain ⟨w1, w2, w3, w4, w5⟩ := rep_sm hs3 hs2
  have hrl := repM_len ps bs
  have hst := rep_stays bs
  refine wc_skip ?_
  refine q_then ?_
  refine wc_seq ?_
  refine wc_region ?_
  refine rl_y (y_load_p rfl Tryz.k25 rfl rfl rfl (vs := [_, _]) rfl rfl rfl) rfl ?_
  refine rl_do rfl rfl ?_
  refine do_call (caps := []) trivial rfl rfl Tryz.c7 rfl (FnP.mono (repair_fn _ _ ps bs u (by omega) (by omega) w1 w2 (by omega) w3 hm0 hb0) ?_)
  rintro v uX hle0 ⟨_, _, rfl, hmX, hbX⟩ hleX
  have hmX0 := hmX
  have hbX0 := hbX
  obtain ⟨amX, cmX, rfl, hmX1⟩ := hmX
  obtain ⟨xcs, ⟨abX, cbX, rfl, hbX1⟩, hbX2⟩ := hbX
  refine rl_do rfl rfl ?_
  refine do_alloc trivial Tryz.z25 rfl rfl rfl ?_
  refine rl_do rfl rfl ?_
  refine do_store_p trivial rfl Tryz.k25 rfl rfl rfl (vs := [_, _]) rfl rfl (by first | rfl | assumption | simp [Value.oneCell', str]) (Nat.le_of_ble_eq_true rfl) rfl ?_
  refine rl_end (ρ' := [(1, _), (3, _)]) ⟨rfl, rfl, trivial⟩ ?_
  refine q_then ?_
  refine wc_cut (fun ρ σ uc6 => VLe uX uc6 ∧ σ = [(1, (none, .box [.slice adm ps.length capm, .slice adb bs.length capb])), (3, (none, .box [.slice amX (repM ps bs).length cmX, .slice abX (repB bs).length cbX]))] ∧ ρ = [(1, .p 1 0), (3, .p 3 0)] ∧ (True)) ?_ ?_
  ·
   refine wc_seq ?_
   refine wc_draw Tryz.mixed rfl [(1, _), (3, _)] ⟨rfl, rfl, trivial⟩ ?_
   refine ra_y (i := 0) rfl (by kernel_rfl) (by kernel_rfl) (by kernel_rfl) (np_then (np_then (np_fin))) (y_load_p rfl Tryz.k25 rfl rfl rfl (vs := [_, _]) rfl rfl rfl) rfl ?_
   refine ra_y (i := 2) rfl (by kernel_rfl) (by kernel_rfl) (by kernel_rfl) (np_then (np_then (np_fin))) (y_load_p rfl Tryz.k25 rfl rfl rfl (vs := [_, _]) rfl rfl rfl) rfl ?_
   refine ra_do (i := 1) rfl rfl (by kernel_rfl) ?_
   refine do_call (caps := []) ⟨rfl, rfl, trivial⟩ rfl rfl Tryz.c7 rfl (FnP.mono (repair_fn _ _ (repM ps bs) (repB bs) uX (by omega) (by omega) w3 w4 (by rw [repB_again]; omega) (by rw [repB_again]; exact w3) hmX0 hbX0) ?_)
   rintro v uY hle0 ⟨_, _, rfl, hm2, hbk2⟩ hleY
   rw [repM_again] at hm2
   rw [repB_again] at hbk2
   have hlb := repB_len bs
   have hlz := len_szB bs
   refine ra_do (i := 3) rfl rfl (by kernel_rfl) ?_
   refine do_call_f (caps := []) ⟨rfl, rfl, trivial⟩ rfl rfl Tryz.c8 rfl (FnP.mono (same_fn _ _ _ _ (repM ps bs) (repB bs) (by omega) (by omega) uY hm2 (hmX0.mono hleY) hbk2 (hbX0.mono hleY)) ?_)
   rintro v u1 hle1 rfl
   refine ra_y (i := 4) rfl (by kernel_rfl) (by kernel_rfl) (by kernel_rfl) (np_then (np_then (np_fin))) (y_not rfl rfl) rfl ?_
   refine ra_y (i := 5) rfl (by kernel_rfl) (by kernel_rfl) (by kernel_rfl) (np_then (np_then (np_fin))) (y_move rfl rfl) rfl ?_
   refine ra_y_on (i := 6) rfl rfl rfl (by kernel_rfl) (by kernel_rfl) (by kernel_rfl) (np_then (np_then (np_fin))) (y_load_p rfl Tryz.k25 rfl rfl rfl (vs := [_, _]) rfl rfl rfl) rfl ?_
   refine ra_do_on (i := 7) rfl rfl rfl (by kernel_rfl) ?_
   refine do_call (caps := []) ⟨rfl, rfl, trivial⟩ rfl rfl Tryz.c9 rfl (FnP.mono (check_fn _ _ ps bs uY ((hT.mono hleX).mono hleY) (by omega) w1 (by omega) ((hm0.mono hleX).mono hleY) ((hb0.mono hleX).mono hleY)) ?_)
   rintro v uZ hle0 ⟨adF, capF, rfl, hF⟩ hleZ
   refine ra_y_on (i := 8) rfl rfl rfl (by kernel_rfl) (by kernel_rfl) (by kernel_rfl) (np_then (np_then (np_fin))) (y_len_v rfl rfl Tryz.s30 rfl) rfl ?_
   refine ra_y_on (i := 9) rfl rfl rfl (by kernel_rfl) (by kernel_rfl) (by kernel_rfl) (np_then (np_then (np_fin))) (y_eql rfl rfl rfl) rfl ?_
   refine ra_y_on (i := 10) rfl rfl rfl (by kernel_rfl) (by kernel_rfl) (by kernel_rfl) (np_then (np_then (np_fin))) (y_move rfl rfl) rfl ?_
   rcases Bool.eq_false_or_eq_true (decide (((faultsL ps bs).length : Int) = 0)) with hg4_10 | hg4_10
   ·
    simp only [hg4_10]
    refine ra_y_on (i := 11) rfl rfl rfl (by kernel_rfl) (by kernel_rfl) (by kernel_rfl) (np_then (np_then (np_fin))) (y_load_p rfl Tryz.k25 rfl rfl rfl (vs := [_, _]) rfl rfl rfl) rfl ?_
    refine ra_y_on (i := 12) rfl rfl rfl (by kernel_rfl) (by kernel_rfl) (by kernel_rfl) (np_then (np_then (np_fin))) (y_load_p rfl Tryz.k25 rfl rfl rfl (vs := [_, _]) rfl rfl rfl) rfl ?_
    refine ra_do_on (i := 13) rfl rfl rfl (by kernel_rfl) ?_
    refine do_call_f (caps := []) ⟨rfl, rfl, trivial⟩ rfl rfl Tryz.c8 rfl (FnP.mono (same_fn _ _ _ _ (repM ps bs) (repB bs) (by omega) (by omega) uZ ((hmX0.mono hleY).mono hleZ) (by
    have hF0 : faultsL ps bs = [] := List.eq_nil_of_length_eq_zero (by have := of_decide_eq_true hg4_10; omega)
    rw [(faults_none hF0).2]
    exact ((hm0.mono hleX).mono hleY).mono hleZ) ((hbX0.mono hleY).mono hleZ) (by
    have hF0 : faultsL ps bs = [] := List.eq_nil_of_length_eq_zero (by have := of_decide_eq_true hg4_10; omega)
    rw [(faults_none hF0).1]
    exact ((hb0.mono hleX).mono hleY).mono hleZ)) ?_)
    rintro v u1 hle1 rfl
    refine ra_y_on (i := 14) rfl rfl rfl (by kernel_rfl) (by kernel_rfl) (by kernel_rfl) (np_then (np_then (np_fin))) (y_not rfl rfl) rfl ?_
    refine ra_y_on (i := 15) rfl rfl rfl (by kernel_rfl) (by kernel_rfl) (by kernel_rfl) (np_then (np_then (np_fin))) (y_pick_t rfl rfl rfl) rfl ?_
    refine ra_y (i := 16) rfl (by kernel_rfl) (by kernel_rfl) (by kernel_rfl) (np_then (np_then (np_fin))) (y_pick_f rfl rfl rfl) rfl ?_
    refine ra_end (by kernel_rfl) (ρ' := [(1, _), (3, _), (29, _)]) ⟨rfl, rfl, rfl, trivial⟩ ?_
    refine q_then ?_
    refine wc_cond_f rfl (rfl) ?_
    refine wc_skip ?_
    refine q_thenK ?_
    refine ⟨[(1, _), (3, _)], [(1, _), (3, _)], ⟨rfl, rfl, trivial⟩, ⟨rfl, rfl, trivial⟩, (hleY.trans hleZ), rfl, rfl, ?_⟩
    trivial
   ·
    simp only [hg4_10]
    refine ra_off (i := 11) rfl rfl rfl rfl (by kernel_rfl) (by kernel_rfl) (by kernel_rfl) (np_then (np_then (np_fin))) rfl ?_
    refine ra_off (i := 12) rfl rfl rfl rfl (by kernel_rfl) (by kernel_rfl) (by kernel_rfl) (np_then (np_then (np_fin))) rfl ?_
    refine ra_off (i := 13) rfl rfl rfl rfl (by kernel_rfl) (by kernel_rfl) (by kernel_rfl) (np_then (np_then (np_fin))) rfl ?_
    refine ra_off (i := 14) rfl rfl rfl rfl (by kernel_rfl) (by kernel_rfl) (by kernel_rfl) (np_then (np_then (np_fin))) rfl ?_
    refine ra_y_on (i := 15) rfl rfl rfl (by kernel_rfl) (by kernel_rfl) (by kernel_rfl) (np_then (np_then (np_fin))) (y_pick_f rfl rfl rfl) rfl ?_
    refine ra_y (i := 16) rfl (by kernel_rfl) (by kernel_rfl) (by kernel_rfl) (np_then (np_then (np_fin))) (y_pick_f rfl rfl rfl) rfl ?_
    refine ra_end (by kernel_rfl) (ρ' := [(1, _), (3, _), (29, _)]) ⟨rfl, rfl, rfl, trivial⟩ ?_
    refine q_then ?_
    refine wc_cond_f rfl (rfl) ?_
    refine wc_skip ?_
    refine q_thenK ?_
    refine ⟨[(1, _), (3, _)], [(1, _), (3, _)], ⟨rfl, rfl, trivial⟩, ⟨rfl, rfl, trivial⟩, (hleY.trans hleZ), rfl, rfl, ?_⟩
    trivial
  ·
   rintro ρ σ uc6 ⟨hlc6, rfl, rfl, -⟩
   refine wc_seq ?_
   refine wc_draw Tryz.mixed rfl [(1, _), (3, _)] ⟨rfl, rfl, trivial⟩ ?_
   refine ra_y (i := 0) rfl (by kernel_rfl) (by kernel_rfl) (by kernel_rfl) (np_then (np_fin)) (y_field_p rfl Tryz.f25' rfl (by decide) rfl) rfl ?_
   refine ra_y (i := 1) rfl (by kernel_rfl) (by kernel_rfl) (by kernel_rfl) (np_then (np_fin)) (y_load_p rfl Tryz.k23 rfl rfl rfl (vs := [_]) rfl rfl rfl) rfl ?_
   refine ra_y (i := 3) rfl (by kernel_rfl) (by kernel_rfl) (by kernel_rfl) (np_then (np_fin)) (y_field_p rfl Tryz.f25' rfl (by decide) rfl) rfl ?_
   refine ra_y (i := 4) rfl (by kernel_rfl) (by kernel_rfl) (by kernel_rfl) (np_then (np_fin)) (y_load_p rfl Tryz.k23 rfl rfl rfl (vs := [_]) rfl rfl rfl) rfl ?_
   refine ra_do (i := 2) rfl rfl (by kernel_rfl) ?_
   refine do_call (caps := []) ⟨rfl, rfl, trivial⟩ rfl rfl Tryz.c10 rfl (FnP.mono (list_fn (szB bs) _ bs uc6 (Nat.le_refl _) (by omega) ((hb0.mono hleX).mono hlc6)) ?_)
   rintro v uP hle0 ⟨l1cs, ⟨l1a, l1c, rfl, hl1⟩, hl1c⟩ hleP
   refine ra_do (i := 5) rfl rfl (by kernel_rfl) ?_
   refine do_call (caps := []) ⟨rfl, rfl, trivial⟩ rfl rfl Tryz.c10 rfl (FnP.mono (list_fn (szB (repB bs)) _ (repB bs) uP (Nat.le_refl _) (by omega) ((hbX0.mono hlc6).mono hleP)) ?_)
   rintro v uQ hle0 ⟨l2cs, ⟨l2a, l2c, rfl, hl2⟩, hl2c⟩ hleQ
   have hlen := hst.len
   have hln := listB_len bs
   rw [← hlen] at hl2 ⊢
   have hl1 := hl1.mono hleQ
   have hl1c := hl1c.mono hleQ
   have hT2 := (((hT.mono hleX).mono hlc6).mono hleP).mono hleQ
   refine ra_y (i := 6) rfl (by kernel_rfl) (by kernel_rfl) (by kernel_rfl) (np_then (np_fin)) (y_assign rfl rfl) rfl ?_
   refine ra_y (i := 7) rfl (by kernel_rfl) (by kernel_rfl) (by kernel_rfl) (np_then (np_fin)) (y_assign rfl rfl) rfl ?_
   refine ra_end (by kernel_rfl) (ρ' := [(4, _), (5, _)]) ⟨rfl, rfl, trivial⟩ ?_
   refine q_then ?_
   refine wc_seq ?_
   refine wc_seq ?_
   refine wc_region ?_
   refine ym rfl rfl ?_
   refine rl_y (y_len_v rfl rfl Tryz.s23 rfl) rfl ?_
   refine ym rfl rfl ?_
   refine rl_y (y_len_v rfl rfl Tryz.s23 rfl) rfl ?_
   refine rl_y (y_neq_refl rfl rfl rfl) rfl ?_
   refine rl_end (ρ' := [(4, _), (5, _), (40, _)]) ⟨rfl, rfl, rfl, trivial⟩ ?_
   refine q_then ?_
   refine wc_cond_f rfl (rfl) ?_
   refine wc_skip ?_
   refine q_then ?_
   refine wc_seq ?_
   refine wc_seq ?_
   refine wc_region ?_
   refine ya rfl rfl ?_
   refine rl_end (ρ' := [(4, _), (5, _), (6, _)]) ⟨rfl, rfl, rfl, trivial⟩ ?_
   refine q_then ?_
   refine wc_block ?_
   refine wc_loop (fun m ρ σ u' => ∃ i : Nat, i + m = (listB bs).length ∧ VLe uQ u' ∧ σ = [] ∧ ρ = [(4, .v (.slice l1a (listB bs).length l1c)), (5, .v (.slice l2a (listB bs).length l2c)), (6, .v (.int .i64 i))] ∧ (uQ = u')) ((listB bs).length) ?_ ?_
   ·
    refine ⟨[(4, _), (5, _), (6, _)], [], ⟨rfl, rfl, rfl, trivial⟩, trivial, 0, by omega, VLe.refl _, (by first | rfl | simp), (by first | rfl | (simp only [List.cons.injEq, Prod.mk.injEq, SV.v.injEq, Value.int.injEq, true_and, and_true]; omega) | simp), ?_⟩
    rfl
   ·
    rintro m ρ σ u' ⟨i, hi10, hle10, rfl, rfl, rfl⟩
    refine wc_seq ?_
    refine wc_seq ?_
    refine wc_region ?_
    refine ym rfl rfl ?_
    refine ym rfl rfl ?_
    refine rl_y (y_len_v rfl rfl Tryz.s23 rfl) rfl ?_
    refine rl_y (y_lss rfl rfl rfl) rfl ?_
    refine rl_end (ρ' := [(4, _), (5, _), (6, _), (44, _)]) ⟨rfl, rfl, rfl, rfl, trivial⟩ ?_
    refine q_then ?_
    refine wc_cond rfl (fun hb10 => ?_) (fun hb10 => ?_)
    ·
     have hlt : i < (listB bs).length := by have := of_decide_eq_true hb10; omega
     obtain ⟨k, lv, inf, t, d, ti, a, line, kids, vc, vp, vl, vk, hg, hcut1, s1, s2, s3, s4, hok1⟩ := hl1c.at hlt
     obtain ⟨k2, lv2, inf2, t2, d2, ti2, a2, line2, kids2, vc2, vp2, vl2, vk2, hg2, hcut2, r1, r2, r3, r4, hok2⟩ := hl2c.at (i := i) (by omega)
     obtain ⟨z1, z2, z3⟩ := hst.get hg hg2
     have z4 : a.id = a2.id := z3
     have z5 : k = k2 := z2
     rw [← z4, ← z5] at hcut2
     obtain ⟨q1, q2⟩ := aB_mem _ bs (Nat.le_refl _) w1 _ (List.mem_of_getElem? hg)
     obtain ⟨q3, q4⟩ := aB_mem _ (repB bs) (Nat.le_refl _) w3 _ (List.mem_of_getElem? hg2)
     unfold smB1 at q1 q3
     simp only [szb] at q2 q4
     have hd1 : decide (((plain line2).length : Int) < (plain line).length) = false := decide_eq_false (by
      have : (plain line).length ≤ (plain line2).length := z1
      omega)
     refine wc_skip ?_
     refine q_then ?_
     refine wc_seq ?_
     refine wc_block ?_
     refine wc_seq ?_
     refine wc_draw Tryz.mixed rfl [] trivial ?_
     refine ra_y (i := 0) rfl (by kernel_rfl) (by kernel_rfl) (by kernel_rfl) (np_then (np_block (np_then (np_then (np_block (np_then (np_fin))))))) (y_move rfl rfl) rfl ?_
     refine ra_y (i := 1) rfl (by kernel_rfl) (by kernel_rfl) (by kernel_rfl) (np_then (np_block (np_then (np_then (np_block (np_then (np_fin))))))) (y_move rfl rfl) rfl ?_
     refine ra_y (i := 2) rfl (by kernel_rfl) (by kernel_rfl) (by kernel_rfl) (np_then (np_block (np_then (np_then (np_block (np_then (np_fin))))))) (y_index_e rfl Tryz.s23 rfl rfl (by assumption) (by first | rfl | omega) (by omega)) rfl ?_
     refine ra_y (i := 3) rfl (by kernel_rfl) (by kernel_rfl) (by kernel_rfl) (np_then (np_block (np_then (np_then (np_block (np_then (np_fin))))))) (y_field_e rfl Tryz.f39' rfl (by decide) rfl) rfl ?_
     refine ra_y (i := 4) rfl (by kernel_rfl) (by kernel_rfl) (by kernel_rfl) (np_then (np_block (np_then (np_then (np_block (np_then (np_fin))))))) (y_load_el rfl Tryz.k37 rfl (by assumption) (by omega) (by assumption) (vs := [_]) rfl rfl rfl rfl) rfl ?_
     refine ra_y (i := 7) rfl (by kernel_rfl) (by kernel_rfl) (by kernel_rfl) (np_then (np_block (np_then (np_then (np_block (np_then (np_fin))))))) (y_move rfl rfl) rfl ?_
     refine ra_y (i := 8) rfl (by kernel_rfl) (by kernel_rfl) (by kernel_rfl) (np_then (np_block (np_then (np_then (np_block (np_then (np_fin))))))) (y_move rfl rfl) rfl ?_
     refine ra_y (i := 9) rfl (by kernel_rfl) (by kernel_rfl) (by kernel_rfl) (np_then (np_block (np_then (np_then (np_block (np_then (np_fin))))))) (y_index_e rfl Tryz.s23 rfl rfl (by assumption) (by first | rfl | omega) (by omega)) rfl ?_
     refine ra_y (i := 10) rfl (by kernel_rfl) (by kernel_rfl) (by kernel_rfl) (np_then (np_block (np_then (np_then (np_block (np_then (np_fin))))))) (y_field_e rfl Tryz.f39' rfl (by decide) rfl) rfl ?_
     refine ra_y (i := 11) rfl (by kernel_rfl) (by kernel_rfl) (by kernel_rfl) (np_then (np_block (np_then (np_then (np_block (np_then (np_fin))))))) (y_load_el rfl Tryz.k37 rfl (by assumption) (by omega) (by assumption) (vs := [_]) rfl rfl rfl rfl) rfl ?_
     refine ra_do (i := 5) rfl rfl (by kernel_rfl) ?_
     refine do_call_f (caps := []) trivial rfl rfl Tryz.c11 rfl (FnP.mono (treePlain_fn vl line (by omega) (aI_tx _ q1.2.2.2.2.1) uQ s3) ?_)
     rintro v u1 hle1 rfl
     refine ra_y (i := 6) rfl (by kernel_rfl) (by kernel_rfl) (by kernel_rfl) (np_then (np_block (np_then (np_then (np_block (np_then (np_fin))))))) (y_len_str rfl rfl Tryz.str9 rfl) rfl ?_
     refine ra_do (i := 12) rfl rfl (by kernel_rfl) ?_
     refine do_call_f (caps := []) trivial rfl rfl Tryz.c11 rfl (FnP.mono (treePlain_fn vl2 line2 (by omega) (aI_tx _ q3.2.2.2.2.1) uQ r3) ?_)
     rintro v u1 hle1 rfl
     refine ra_y (i := 13) rfl (by kernel_rfl) (by kernel_rfl) (by kernel_rfl) (np_then (np_block (np_then (np_then (np_block (np_then (np_fin))))))) (y_len_str rfl rfl Tryz.str9 rfl) rfl ?_
     refine ra_y (i := 14) rfl (by kernel_rfl) (by kernel_rfl) (by kernel_rfl) (np_then (np_block (np_then (np_then (np_block (np_then (np_fin))))))) (y_gtr rfl rfl rfl) rfl ?_
     rw [hd1]
     refine ra_y (i := 15) rfl (by kernel_rfl) (by kernel_rfl) (by kernel_rfl) (np_then (np_block (np_then (np_then (np_block (np_then (np_fin))))))) (y_move rfl rfl) rfl ?_
     refine ra_y_on (i := 16) rfl rfl rfl (by kernel_rfl) (by kernel_rfl) (by kernel_rfl) (np_then (np_block (np_then (np_then (np_block (np_then (np_fin))))))) (y_move rfl rfl) rfl ?_
     refine ra_y_on (i := 17) rfl rfl rfl (by kernel_rfl) (by kernel_rfl) (by kernel_rfl) (np_then (np_block (np_then (np_then (np_block (np_then (np_fin))))))) (y_move rfl rfl) rfl ?_
     refine ra_y_on (i := 18) rfl rfl rfl (by kernel_rfl) (by kernel_rfl) (by kernel_rfl) (np_then (np_block (np_then (np_then (np_block (np_then (np_fin))))))) (y_index_e rfl Tryz.s23 rfl rfl (by assumption) (by first | rfl | omega) (by omega)) rfl ?_
     refine ra_y_on (i := 19) rfl rfl rfl (by kernel_rfl) (by kernel_rfl) (by kernel_rfl) (np_then (np_block (np_then (np_then (np_block (np_then (np_fin))))))) (y_field_e rfl Tryz.f39' rfl (by decide) rfl) rfl ?_
     refine ra_y_on (i := 20) rfl rfl rfl (by kernel_rfl) (by kernel_rfl) (by kernel_rfl) (np_then (np_block (np_then (np_then (np_block (np_then (np_fin))))))) (y_load_el rfl Tryz.k3 rfl (by assumption) (by omega) (by assumption) (vs := [_]) rfl rfl rfl rfl) rfl ?_
     refine ra_y_on (i := 21) rfl rfl rfl (by kernel_rfl) (by kernel_rfl) (by kernel_rfl) (np_then (np_block (np_then (np_then (np_block (np_then (np_fin))))))) (y_move rfl rfl) rfl ?_
     refine ra_y_on (i := 22) rfl rfl rfl (by kernel_rfl) (by kernel_rfl) (by kernel_rfl) (np_then (np_block (np_then (np_then (np_block (np_then (np_fin))))))) (y_move rfl rfl) rfl ?_
     refine ra_y_on (i := 23) rfl rfl rfl (by kernel_rfl) (by kernel_rfl) (by kernel_rfl) (np_then (np_block (np_then (np_then (np_block (np_then (np_fin))))))) (y_index_e rfl Tryz.s23 rfl rfl (by assumption) (by first | rfl | omega) (by omega)) rfl ?_
     refine ra_y_on (i := 24) rfl rfl rfl (by kernel_rfl) (by kernel_rfl) (by kernel_rfl) (np_then (np_block (np_then (np_then (np_block (np_then (np_fin))))))) (y_field_e rfl Tryz.f39' rfl (by decide) rfl) rfl ?_
     refine ra_y_on (i := 25) rfl rfl rfl (by kernel_rfl) (by kernel_rfl) (by kernel_rfl) (np_then (np_block (np_then (np_then (np_block (np_then (np_fin))))))) (y_load_el rfl Tryz.k3 rfl (by assumption) (by omega) (by assumption) (vs := [_]) rfl rfl rfl rfl) rfl ?_
     refine ra_y_on (i := 26) rfl rfl rfl (by kernel_rfl) (by kernel_rfl) (by kernel_rfl) (np_then (np_block (np_then (np_then (np_block (np_then (np_fin))))))) (y_neq_refl rfl rfl rfl) rfl ?_
     refine ra_y (i := 27) rfl (by kernel_rfl) (by kernel_rfl) (by kernel_rfl) (np_then (np_block (np_then (np_then (np_block (np_then (np_fin))))))) (y_pick_f rfl rfl rfl) rfl ?_
     refine ra_y (i := 28) rfl (by kernel_rfl) (by kernel_rfl) (by kernel_rfl) (np_then (np_block (np_then (np_then (np_block (np_then (np_fin))))))) (y_move rfl rfl) rfl ?_
     refine ra_y_on (i := 29) rfl rfl rfl (by kernel_rfl) (by kernel_rfl) (by kernel_rfl) (np_then (np_block (np_then (np_then (np_block (np_then (np_fin))))))) (y_move rfl rfl) rfl ?_
     refine ra_y_on (i := 30) rfl rfl rfl (by kernel_rfl) (by kernel_rfl) (by kernel_rfl) (np_then (np_block (np_then (np_then (np_block (np_then (np_fin))))))) (y_move rfl rfl) rfl ?_
     refine ra_y_on (i := 31) rfl rfl rfl (by kernel_rfl) (by kernel_rfl) (by kernel_rfl) (np_then (np_block (np_then (np_then (np_block (np_then (np_fin))))))) (y_index_e rfl Tryz.s23 rfl rfl (by assumption) (by first | rfl | omega) (by omega)) rfl ?_
     refine ra_y_on (i := 32) rfl rfl rfl (by kernel_rfl) (by kernel_rfl) (by kernel_rfl) (np_then (np_block (np_then (np_then (np_block (np_then (np_fin))))))) (y_field_e rfl Tryz.f39' rfl (by decide) rfl) rfl ?_
     refine ra_y_on (i := 33) rfl rfl rfl (by kernel_rfl) (by kernel_rfl) (by kernel_rfl) (np_then (np_block (np_then (np_then (np_block (np_then (np_fin))))))) (y_field_e rfl Tryz.f36' rfl (by decide) rfl) rfl ?_
     refine ra_y_on (i := 34) rfl rfl rfl (by kernel_rfl) (by kernel_rfl) (by kernel_rfl) (np_then (np_block (np_then (np_then (np_block (np_then (np_fin))))))) (y_load_el rfl Tryz.k9 rfl (by assumption) (by omega) (by assumption) (vs := [_]) rfl rfl rfl rfl) rfl ?_
     refine ra_y_on (i := 35) rfl rfl rfl (by kernel_rfl) (by kernel_rfl) (by kernel_rfl) (np_then (np_block (np_then (np_then (np_block (np_then (np_fin))))))) (y_move rfl rfl) rfl ?_
     refine ra_y_on (i := 36) rfl rfl rfl (by kernel_rfl) (by kernel_rfl) (by kernel_rfl) (np_then (np_block (np_then (np_then (np_block (np_then (np_fin))))))) (y_move rfl rfl) rfl ?_
     refine ra_y_on (i := 37) rfl rfl rfl (by kernel_rfl) (by kernel_rfl) (by kernel_rfl) (np_then (np_block (np_then (np_then (np_block (np_then (np_fin))))))) (y_index_e rfl Tryz.s23 rfl rfl (by assumption) (by first | rfl | omega) (by omega)) rfl ?_
     refine ra_y_on (i := 38) rfl rfl rfl (by kernel_rfl) (by kernel_rfl) (by kernel_rfl) (np_then (np_block (np_then (np_then (np_block (np_then (np_fin))))))) (y_field_e rfl Tryz.f39' rfl (by decide) rfl) rfl ?_
     refine ra_y_on (i := 39) rfl rfl rfl (by kernel_rfl) (by kernel_rfl) (by kernel_rfl) (np_then (np_block (np_then (np_then (np_block (np_then (np_fin))))))) (y_field_e rfl Tryz.f36' rfl (by decide) rfl) rfl ?_
     refine ra_y_on (i := 40) rfl rfl rfl (by kernel_rfl) (by kernel_rfl) (by kernel_rfl) (np_then (np_block (np_then (np_then (np_block (np_then (np_fin))))))) (y_load_el rfl Tryz.k9 rfl (by assumption) (by omega) (by assumption) (vs := [_]) rfl rfl rfl rfl) rfl ?_
     refine ra_y_on (i := 41) rfl rfl rfl (by kernel_rfl) (by kernel_rfl) (by kernel_rfl) (np_then (np_block (np_then (np_then (np_block (np_then (np_fin))))))) (y_str_neq_refl rfl rfl rfl) rfl ?_
     refine ra_y (i := 42) rfl (by kernel_rfl) (by kernel_rfl) (by kernel_rfl) (np_then (np_block (np_then (np_then (np_block (np_then (np_fin))))))) (y_pick_f rfl rfl rfl) rfl ?_
     refine ra_end (by kernel_rfl) (ρ' := [(4, _), (5, _), (6, _), (89, _)]) ⟨rfl, rfl, rfl, rfl, trivial⟩ ?_
     refine q_then ?_
     refine wc_cond_f rfl (rfl) ?_
     refine wc_skip ?_
     refine q_block ?_
     refine q_then ?_
     refine wc_region ?_
     refine ym rfl rfl ?_
     refine rl_y (y_add rfl rfl rfl (wrap64_id (by omega))) rfl ?_
     refine ya rfl rfl ?_
     refine rl_end (ρ' := [(4, _), (5, _), (6, _)]) ⟨rfl, rfl, rfl, trivial⟩ ?_
     refine q_thenK ?_
     refine ⟨m - 1, [(4, _), (5, _), (6, _)], [], by omega, ⟨rfl, rfl, rfl, trivial⟩, trivial, i + 1, by omega, hle10, (by first | rfl | simp), (by first | rfl | (simp only [List.cons.injEq, Prod.mk.injEq, SV.v.injEq, Value.int.injEq, true_and, and_true]; omega) | simp), ?_⟩
     rfl
    ·
     skip
     refine wc_exit ?_
     refine q_then_exit ?_
     refine q_then_exit ?_
     refine q_block_hit ?_
     refine q_then ?_
     refine wc_seq ?_
     refine wc_region ?_
     refine rl_do rfl rfl ?_
     refine do_call_f (caps := []) trivial rfl rfl Tryz.c6 rfl (FnP.mono (lawawake_fn uQ hT2) ?_)
     rintro v u1 hle1 rfl
     refine ya rfl rfl ?_
     refine rl_end (ρ' := [(2, _)]) ⟨rfl, trivial⟩ ?_
     refine q_then ?_
     refine wc_ret ?_
     refine fin1 (.tmp rfl) ?_
     rfl
end Go.Proofs.Ytoajhdnfdfbmaaa
