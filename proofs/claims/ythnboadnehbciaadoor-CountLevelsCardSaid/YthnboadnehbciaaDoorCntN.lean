/- All inlines of a document (tree.Inlines). -/
import Derived.Test.YthnboadnehbciaaDoorCntM
namespace Go.Proofs.Ythnboadnehbciaa
open Go Go.Eng
set_option linter.unusedSimpArgs false
set_option linter.unusedVariables false
set_option maxRecDepth 4000

theorem setAt_append {acc zs vs : List Value} {o : Nat} (ho : o = acc.length) (hl : vs.length = zs.length) : setAt (acc ++ zs) o vs = acc ++ vs := by
  subst ho
  rw [setAt_eq _ _ _ (by simp [hl])]
  simp [hl]
abbrev visI (b3 b4 : Nat) : Value := .func (.func 54) #[] #[.pointer (some ⟨b3, 0, none⟩), .pointer (some ⟨b4, 0, none⟩)]
abbrev zeroI : List Value := [.int .i64 0, str [], str [], str [], str [], .slice none 0 0, .slice none 0 0, .slice none 0 0, .slice none 0 0, .slice none 0 0]

set_option maxHeartbeats 4000000 in
theorem visI_fn (b3 b4 : Nat) (n : Nat) : ∀ (v : Value) (xs out : List Inl) (ao : Option Addr) (co : Nat) (acc : List Value) (u : View), szI xs ≤ n → out.length + szI xs ≤ 100000 → smI xs → InlS u v xs → InlsC u out acc →
    FnO Tryd.prog 54 [v, .pointer (some ⟨b3, 0, none⟩), .pointer (some ⟨b4, 0, none⟩)] u [(some b3, .box [.slice ao out.length co]), (some b4, .box [visI b3 b4]), (none, .rwv (.slice ao out.length co) 57 10 out.length acc)]
      fun r u' l' => r = .tuple #[] ∧ ∃ ao' co' acc', l' = [(some b3, .box [.slice ao' (out ++ deep xs).length co']), (some b4, .box [visI b3 b4]), (none, .rwv (.slice ao' (out ++ deep xs).length co') 57 10 (out ++ deep xs).length acc')] ∧ InlsC u' (out ++ deep xs) acc' := by
  induction n using Nat.strongRecOn with
  | _ n ih =>
  intro v xs out ao co acc u hsz hbig hsm ha hacc
  have hlx := len_szI xs
  obtain ⟨cs, ⟨ad, cap, rfl, h1⟩, hc1⟩ := ha
  refine FnO.intro [] Tryd.func54 rfl rfl rfl ?_
  intro w0 D hw0
  refine wc_pin 1 1000 _ 0 rfl rfl ?_
  refine wc_pin 2 1001 _ 0 rfl rfl ?_
  refine wc_seq ?_
  refine wc_region ?_
  refine rl_y (y_move rfl rfl) rfl ?_
  refine rl_y (y_len_v rfl rfl Tryd.s36 rfl) rfl ?_
  refine rl_y (y_move rfl rfl) rfl ?_
  refine rl_end (ρ' := [(0, _), (1, _), (2, _), (7, _), (8, _)]) ⟨rfl, rfl, rfl, rfl, rfl, trivial⟩ ?_
  refine q_then ?_
  refine wc_block ?_
  refine wc_loop (fun m ρ σ u' => ∃ i : Nat, i + m = xs.length ∧ VLe u u' ∧ ∃ (ai : Option Addr) (ci : Nat) (li : List Value), σ = [(1000, (some b3, .box [.slice ai (out ++ deep (xs.take i)).length ci])), (1001, (some b4, .box [visI b3 b4])), (1002, (none, .rwv (.slice ai (out ++ deep (xs.take i)).length ci) 57 10 (out ++ deep (xs.take i)).length li))] ∧ ρ = [(0, .v (.slice ad xs.length cap)), (1, .p 1000 0), (2, .p 1001 0), (7, .v (.int .i64 xs.length)), (8, .v (.int .i64 i))] ∧ (InlsC u' (out ++ deep (xs.take i)) li)) (xs.length) ?_ ?_
  ·
    refine ⟨[(0, _), (1, _), (2, _), (7, _), (8, _)], [(1000, _), (1001, _), (1002, _)], ⟨rfl, rfl, rfl, rfl, rfl, trivial⟩, ⟨rfl, rfl, rfl, trivial⟩, 0, by omega, VLe.refl _, ao, co, acc, (by simp [deep]), rfl, ?_⟩
    simpa [deep] using hacc
  ·
    rintro m ρ σ u' ⟨i, hi1, hle1, ai, ci, li, rfl, rfl, hli⟩
    refine wc_seq ?_
    refine wc_region ?_
    refine rl_y (y_lss rfl rfl rfl) rfl ?_
    refine rl_end (ρ' := [(0, _), (1, _), (2, _), (7, _), (8, _), (9, _)]) ⟨rfl, rfl, rfl, rfl, rfl, rfl, trivial⟩ ?_
    refine q_then ?_
    refine wc_seq ?_
    refine wc_cond rfl (fun hb1 => ?_) (fun hb1 => ?_)
    ·
      refine wc_skip ?_
      refine q_then ?_
      refine wc_seq ?_
      refine wc_block ?_
      refine wc_seq ?_
      refine wc_region ?_
      refine rl_y (y_move rfl rfl) rfl ?_
      refine rl_y (y_assign rfl rfl) rfl ?_
      refine rl_end (ρ' := [(0, _), (1, _), (2, _), (4, _), (7, _), (8, _)]) ⟨rfl, rfl, rfl, rfl, rfl, rfl, trivial⟩ ?_
      refine q_then ?_
      refine wc_seq ?_
      have hlt : i < xs.length := by have := of_decide_eq_true hb1; omega
      have h1 := h1.mono hle1
      obtain ⟨k, t, d, ti, a, args, cites, kids, vc, vp, va, vt, vk, hg, hcut1, s1, s2, s3, s4, s5, hok⟩ := (hc1.mono hle1).at hlt
      have oneAll := ((hc1.mono hle1).get i _ hg).one
      rw [hcut1] at oneAll
      have t5 := s5
      obtain ⟨kcs, ⟨kad, kcap, rfl, hk1⟩, hk2⟩ := t5
      have hsm1 := smI_get hsm hg
      unfold smI1 at hsm1
      obtain ⟨⟨n1, n2, n3, n4, n5, n6, n7, n8⟩, hsmk⟩ := hsm1
      have hszk := szI_kids hg
      have hdt := deep_take hg
      have hszt := szI_take hg
      have hszle := szI_take_le xs (i + 1)
      simp only [deep1] at hdt
      simp only [sz1] at hszt
      have hAl : (out ++ deep (xs.take i)).length = out.length + szI (xs.take i) := by simp [deep_len]
      have hdt2 : out ++ deep (xs.take (i + 1)) = (out ++ deep (xs.take i) ++ [.mk k t d ti a args cites kids]) ++ deep kids := by rw [hdt]; simp
      generalize out ++ deep (xs.take i) = A at *
      refine wc_region ?_
      refine rl_y (y_move rfl rfl) rfl ?_
      refine rl_y (y_move rfl rfl) rfl ?_
      refine rl_y (y_index_e rfl Tryd.s36 rfl rfl (by assumption) (by first | rfl | omega) (by omega)) rfl ?_
      refine rl_y (y_load_el rfl Tryd.k57 rfl (by assumption) (by omega) (by assumption) (vs := [_, _, _, _, _, _, _, _, _, _]) rfl rfl rfl rfl) rfl ?_
      refine rl_do rfl rfl ?_
      refine do_alloc trivial Tryd.z57 rfl rfl rfl ?_
      refine rl_do rfl rfl ?_
      refine do_store_p trivial rfl Tryd.k57 rfl rfl rfl (vs := [_, _, _, _, _, _, _, _, _, _]) rfl rfl (by first | rfl | exact oneAll | exact oneAll2 | simp [Value.oneCell', str]) (Nat.le_of_ble_eq_true rfl) rfl ?_
      refine rl_end (ρ' := [(0, _), (1, _), (2, _), (4, _), (5, _), (7, _), (8, _)]) ⟨rfl, rfl, rfl, rfl, rfl, rfl, rfl, trivial⟩ ?_
      refine q_then ?_
      refine wc_seq ?_
      refine wc_region ?_
      refine rl_y (y_field_p rfl Tryd.f57' rfl (by decide) rfl) rfl ?_
      refine rl_y (y_load_p rfl Tryd.k40 rfl rfl rfl (vs := [_, _, _]) rfl rfl rfl) rfl ?_
      refine rl_do rfl rfl ?_
      refine do_call (caps := []) trivial rfl rfl Tryd.c55 rfl (FnP.mono (copyAttr_fn a vc vp u' (by omega) (by omega) s1 s2) ?_)
      rintro v uA hle0 ⟨vc2, vp2, rfl, ⟨ad1, cap1, rfl, q1⟩, ⟨ad2, cap2, rfl, q2⟩⟩ hleA
      refine rl_y (y_field_p rfl Tryd.f57' rfl (by decide) rfl) rfl ?_
      refine rl_do rfl rfl ?_
      refine do_store_p trivial rfl Tryd.k40 rfl rfl rfl (vs := [_, _, _]) rfl rfl (by first | rfl | exact oneAll | exact oneAll2 | simp [Value.oneCell', str]) (Nat.le_of_ble_eq_true rfl) rfl ?_
      refine rl_end (ρ' := [(0, _), (1, _), (2, _), (4, _), (5, _), (7, _), (8, _)]) ⟨rfl, rfl, rfl, rfl, rfl, rfl, rfl, trivial⟩ ?_
      refine q_then ?_
      refine wc_seq ?_
      refine wc_region ?_
      refine rl_y (y_field_p rfl Tryd.f57' rfl (by decide) rfl) rfl ?_
      refine rl_y (y_load_p rfl Tryd.k32 rfl rfl rfl (vs := [_]) rfl rfl rfl) rfl ?_
      refine rl_do rfl rfl ?_
      refine do_call (caps := []) trivial rfl rfl Tryd.c56 rfl (FnP.mono (cloneStr_fn va args (by omega) uA (s3.mono hleA)) ?_)
      rintro v uB hle0 ⟨ad3, cap3, rfl, q3⟩ hleB
      refine rl_y (y_field_p rfl Tryd.f57' rfl (by decide) rfl) rfl ?_
      refine rl_do rfl rfl ?_
      refine do_store_p trivial rfl Tryd.k32 rfl rfl rfl (vs := [_]) rfl rfl (by first | rfl | exact oneAll | exact oneAll2 | simp [Value.oneCell', str]) (Nat.le_of_ble_eq_true rfl) rfl ?_
      refine rl_end (ρ' := [(0, _), (1, _), (2, _), (4, _), (5, _), (7, _), (8, _)]) ⟨rfl, rfl, rfl, rfl, rfl, rfl, rfl, trivial⟩ ?_
      refine q_then ?_
      refine wc_seq ?_
      refine wc_region ?_
      refine rl_y (y_field_p rfl Tryd.f57' rfl (by decide) rfl) rfl ?_
      refine rl_y (y_load_p rfl Tryd.k55 rfl rfl rfl (vs := [_]) rfl rfl rfl) rfl ?_
      refine rl_do rfl rfl ?_
      refine do_call (caps := []) trivial rfl rfl Tryd.c57 rfl (FnP.mono (cloneCi_fn vt cites (by omega) uB ((s4.mono hleA).mono hleB)) ?_)
      rintro v uC hle0 ⟨ad4, cap4, rfl, q4⟩ hleC
      refine rl_y (y_field_p rfl Tryd.f57' rfl (by decide) rfl) rfl ?_
      refine rl_do rfl rfl ?_
      refine do_store_p trivial rfl Tryd.k55 rfl rfl rfl (vs := [_]) rfl rfl (by first | rfl | exact oneAll | exact oneAll2 | simp [Value.oneCell', str]) (Nat.le_of_ble_eq_true rfl) rfl ?_
      refine rl_end (ρ' := [(0, _), (1, _), (2, _), (4, _), (5, _), (7, _), (8, _)]) ⟨rfl, rfl, rfl, rfl, rfl, rfl, rfl, trivial⟩ ?_
      refine q_then ?_
      refine wc_seq ?_
      refine wc_draw Tryd.mixed rfl [(5, _)] ⟨rfl, trivial⟩ ?_
      refine ra_y (i := 1) rfl (by kernel_rfl) (by kernel_rfl) (by kernel_rfl) (np_then (np_block (np_then (np_then (np_block (np_finO)))))) (y_load_p rfl Tryd.k57 rfl rfl rfl (vs := [_, _, _, _, _, _, _, _, _, _]) rfl rfl rfl) rfl ?_
      refine ra_all (is := [0, 3]) (by kernel_rfl) rfl ?_
      refine raall_cons rfl rfl ?_ ?_
      ·
        refine do_y (y_load_p rfl Tryd.k36 rfl rfl rfl (vs := [_]) rfl rfl rfl) rfl ?_
        refine ra_y (i := 2) rfl (by kernel_rfl) (by kernel_rfl) (by kernel_rfl) (np_then (np_block (np_then (np_then (np_block (np_finO)))))) (y_len_v rfl rfl Tryd.s36 rfl) rfl ?_
        refine ra_do (i := 3) rfl rfl (by kernel_rfl) ?_
        refine do_buildSlice ⟨rfl, trivial⟩ Tryd.s36 Tryd.z57 (ps := [(_, _)]) rfl (xs := [_, _, _, _, _, _, _, _, _, _]) rfl rfl rfl rfl rfl rfl rfl ?_
        refine ra_do (i := 4) rfl rfl (by kernel_rfl) ?_
        refine do_append_w_s 1002 ⟨rfl, trivial⟩ rfl rfl Tryd.s36 Tryd.z57 rfl rfl rfl rfl rfl rfl (by first | rfl | simp [Value.oneCell', str]) (by omega) (by omega) rfl rfl ?_
        intro a2 c2
        refine ra_y (i := 5) rfl (by kernel_rfl) (by kernel_rfl) (by kernel_rfl) (np_then (np_block (np_then (np_then (np_block (np_finO)))))) (y_index_w 1002 rfl Tryd.s36 rfl rfl rfl (j := A.length) rfl (by omega)) rfl ?_
        refine ra_all (is := [6, 7]) (by kernel_rfl) rfl ?_
        refine raall_cons rfl rfl ?_ ?_
        ·
          have hlA := hli.len
          refine do_store_w ⟨rfl, trivial⟩ rfl Tryd.k57 rfl rfl rfl (vs := [_, _, _, _, _, _, _, _, _, _]) rfl rfl (by simp [Value.oneCell', str]) (by simp; omega) (setAt_append (by omega) rfl) ?_
          refine ra_do (i := 7) rfl rfl (by kernel_rfl) ?_
          refine do_store_p ⟨rfl, trivial⟩ rfl Tryd.k36 rfl rfl rfl (vs := [_]) rfl rfl (by first | rfl | exact oneAll | exact oneAll2 | simp [Value.oneCell', str]) (Nat.le_of_ble_eq_true rfl) rfl ?_
          refine ra_end (by kernel_rfl) (ρ' := [(0, _), (1, _), (2, _), (4, _), (7, _), (8, _)]) ⟨rfl, rfl, rfl, rfl, rfl, rfl, trivial⟩ ?_
          refine q_then ?_
          have hl1 : A.length + 1 = (A ++ [(.mk k t d ti a args cites kids : Inl)]).length := by simp
          rw [hl1]
          have hmono := (hleA.trans hleB).trans hleC
          have h1 := h1.mono hmono
          have hcut1' := hcut1
          have hli2 : InlsC uC (A ++ [(.mk k t d ti a args cites kids : Inl)]) _ := (hli.mono hmono).append (InlsC.one (InlC.mk' (vc := .slice ad1 _ cap1) (vp := .slice ad2 _ cap2) (va := .slice ad3 _ cap3) (vt := .slice ad4 _ cap4) (vk := .slice kad _ kcap) ⟨_, _, rfl, (q1.mono hleB).mono hleC⟩ ⟨_, _, rfl, (q2.mono hleB).mono hleC⟩ ⟨_, _, rfl, q3.mono hleC⟩ ⟨_, _, rfl, q4⟩ (s5.mono hmono) hok))
          refine wc_draw Tryd.mixed rfl [] trivial ?_
          refine ra_y (i := 1) rfl (by kernel_rfl) (by kernel_rfl) (by kernel_rfl) (np_block (np_then (np_then (np_block (np_finO))))) (y_move rfl rfl) rfl ?_
          refine ra_y (i := 2) rfl (by kernel_rfl) (by kernel_rfl) (by kernel_rfl) (np_block (np_then (np_then (np_block (np_finO))))) (y_move rfl rfl) rfl ?_
          refine ra_y (i := 3) rfl (by kernel_rfl) (by kernel_rfl) (by kernel_rfl) (np_block (np_then (np_then (np_block (np_finO))))) (y_index_e rfl Tryd.s36 rfl rfl (by assumption) (by first | rfl | omega) (by omega)) rfl ?_
          refine ra_y (i := 4) rfl (by kernel_rfl) (by kernel_rfl) (by kernel_rfl) (np_block (np_then (np_then (np_block (np_finO))))) (y_field_e rfl Tryd.f57' rfl (by decide) rfl) rfl ?_
          refine ra_y (i := 5) rfl (by kernel_rfl) (by kernel_rfl) (by kernel_rfl) (np_block (np_then (np_then (np_block (np_finO))))) (y_load_el rfl Tryd.k36 rfl (by assumption) (by omega) (by assumption) (vs := [_]) rfl rfl rfl rfl) rfl ?_
          refine ra_do (i := 0) rfl rfl (by kernel_rfl) ?_
          refine do_y (y_load_p rfl Tryd.k93 rfl rfl rfl (vs := [_]) rfl rfl rfl) rfl ?_
          refine ra_do (i := 6) rfl rfl (by kernel_rfl) ?_
          refine do_call_o (caps := [.pointer (some ⟨b3, 0, none⟩), .pointer (some ⟨b4, 0, none⟩)]) (ρ' := [(0, _), (1, _), (2, _), (7, _), (8, _)]) [1000, 1001, 1002] [] trivial rfl rfl rfl Tryd.c54 rfl rfl ⟨rfl, rfl, rfl, rfl, rfl, trivial⟩ rfl rfl rfl (FnO.mono (ih (szI kids) (by omega) _ kids (A ++ [Inl.mk k t d ti a args cites kids]) a2 c2 _ uC (Nat.le_refl _) (by simp; omega) hsmk (s5.mono hmono) hli2) ?_)
          rintro v uR l1 hleR ⟨rfl, a6, c6, l6, rfl, h6⟩ -
          refine ⟨⟨fun _ h => h, fun _ h => h, fun _ h => h, trivial⟩, ?_⟩
          refine ra_end (by kernel_rfl) (ρ' := [(0, _), (1, _), (2, _), (7, _), (8, _)]) ⟨rfl, rfl, rfl, rfl, rfl, trivial⟩ ?_
          refine q_block ?_
          refine q_then ?_
          refine wc_region ?_
          refine rl_y (y_add rfl rfl rfl (wrap64_id (by omega))) rfl ?_
          refine rl_y (y_move rfl rfl) rfl ?_
          refine rl_end (ρ' := [(0, _), (1, _), (2, _), (7, _), (8, _)]) ⟨rfl, rfl, rfl, rfl, rfl, trivial⟩ ?_
          refine q_thenK ?_
          refine ⟨m - 1, [(0, _), (1, _), (2, _), (7, _), (8, _)], [(1000, _), (1001, _), (1002, _)], by omega, ⟨rfl, rfl, rfl, rfl, rfl, trivial⟩, ⟨rfl, rfl, rfl, trivial⟩, i + 1, by omega, (hle1.trans (hmono.trans hleR)), a6, c6, l6, (by rw [hdt2]), (by first | rfl | simp), ?_⟩
          rw [hdt2]; exact h6
        refine raall_cons rfl rfl ?_ ?_
        ·
          refine do_store_p ⟨rfl, trivial⟩ rfl Tryd.k36 rfl rfl rfl (vs := [_]) rfl rfl (by first | rfl | exact oneAll | exact oneAll2 | simp [Value.oneCell', str]) (Nat.le_of_ble_eq_true rfl) rfl ?_
          have hlA := hli.len
          refine ra_do (i := 6) rfl rfl (by kernel_rfl) ?_
          refine do_store_w ⟨rfl, trivial⟩ rfl Tryd.k57 rfl rfl rfl (vs := [_, _, _, _, _, _, _, _, _, _]) rfl rfl (by simp [Value.oneCell', str]) (by simp; omega) (setAt_append (by omega) rfl) ?_
          refine ra_end (by kernel_rfl) (ρ' := [(0, _), (1, _), (2, _), (4, _), (7, _), (8, _)]) ⟨rfl, rfl, rfl, rfl, rfl, rfl, trivial⟩ ?_
          refine q_then ?_
          have hl1 : A.length + 1 = (A ++ [(.mk k t d ti a args cites kids : Inl)]).length := by simp
          rw [hl1]
          have hmono := (hleA.trans hleB).trans hleC
          have h1 := h1.mono hmono
          have hcut1' := hcut1
          have hli2 : InlsC uC (A ++ [(.mk k t d ti a args cites kids : Inl)]) _ := (hli.mono hmono).append (InlsC.one (InlC.mk' (vc := .slice ad1 _ cap1) (vp := .slice ad2 _ cap2) (va := .slice ad3 _ cap3) (vt := .slice ad4 _ cap4) (vk := .slice kad _ kcap) ⟨_, _, rfl, (q1.mono hleB).mono hleC⟩ ⟨_, _, rfl, (q2.mono hleB).mono hleC⟩ ⟨_, _, rfl, q3.mono hleC⟩ ⟨_, _, rfl, q4⟩ (s5.mono hmono) hok))
          refine wc_draw Tryd.mixed rfl [] trivial ?_
          refine ra_y (i := 1) rfl (by kernel_rfl) (by kernel_rfl) (by kernel_rfl) (np_block (np_then (np_then (np_block (np_finO))))) (y_move rfl rfl) rfl ?_
          refine ra_y (i := 2) rfl (by kernel_rfl) (by kernel_rfl) (by kernel_rfl) (np_block (np_then (np_then (np_block (np_finO))))) (y_move rfl rfl) rfl ?_
          refine ra_y (i := 3) rfl (by kernel_rfl) (by kernel_rfl) (by kernel_rfl) (np_block (np_then (np_then (np_block (np_finO))))) (y_index_e rfl Tryd.s36 rfl rfl (by assumption) (by first | rfl | omega) (by omega)) rfl ?_
          refine ra_y (i := 4) rfl (by kernel_rfl) (by kernel_rfl) (by kernel_rfl) (np_block (np_then (np_then (np_block (np_finO))))) (y_field_e rfl Tryd.f57' rfl (by decide) rfl) rfl ?_
          refine ra_y (i := 5) rfl (by kernel_rfl) (by kernel_rfl) (by kernel_rfl) (np_block (np_then (np_then (np_block (np_finO))))) (y_load_el rfl Tryd.k36 rfl (by assumption) (by omega) (by assumption) (vs := [_]) rfl rfl rfl rfl) rfl ?_
          refine ra_do (i := 0) rfl rfl (by kernel_rfl) ?_
          refine do_y (y_load_p rfl Tryd.k93 rfl rfl rfl (vs := [_]) rfl rfl rfl) rfl ?_
          refine ra_do (i := 6) rfl rfl (by kernel_rfl) ?_
          refine do_call_o (caps := [.pointer (some ⟨b3, 0, none⟩), .pointer (some ⟨b4, 0, none⟩)]) (ρ' := [(0, _), (1, _), (2, _), (7, _), (8, _)]) [1000, 1001, 1002] [] trivial rfl rfl rfl Tryd.c54 rfl rfl ⟨rfl, rfl, rfl, rfl, rfl, trivial⟩ rfl rfl rfl (FnO.mono (ih (szI kids) (by omega) _ kids (A ++ [Inl.mk k t d ti a args cites kids]) a2 c2 _ uC (Nat.le_refl _) (by simp; omega) hsmk (s5.mono hmono) hli2) ?_)
          rintro v uR l1 hleR ⟨rfl, a6, c6, l6, rfl, h6⟩ -
          refine ⟨⟨fun _ h => h, fun _ h => h, fun _ h => h, trivial⟩, ?_⟩
          refine ra_end (by kernel_rfl) (ρ' := [(0, _), (1, _), (2, _), (7, _), (8, _)]) ⟨rfl, rfl, rfl, rfl, rfl, trivial⟩ ?_
          refine q_block ?_
          refine q_then ?_
          refine wc_region ?_
          refine rl_y (y_add rfl rfl rfl (wrap64_id (by omega))) rfl ?_
          refine rl_y (y_move rfl rfl) rfl ?_
          refine rl_end (ρ' := [(0, _), (1, _), (2, _), (7, _), (8, _)]) ⟨rfl, rfl, rfl, rfl, rfl, trivial⟩ ?_
          refine q_thenK ?_
          refine ⟨m - 1, [(0, _), (1, _), (2, _), (7, _), (8, _)], [(1000, _), (1001, _), (1002, _)], by omega, ⟨rfl, rfl, rfl, rfl, rfl, trivial⟩, ⟨rfl, rfl, rfl, trivial⟩, i + 1, by omega, (hle1.trans (hmono.trans hleR)), a6, c6, l6, (by rw [hdt2]), (by first | rfl | simp), ?_⟩
          rw [hdt2]; exact h6
        exact raall_nil
      refine raall_cons rfl rfl ?_ ?_
      ·
        refine do_buildSlice ⟨rfl, trivial⟩ Tryd.s36 Tryd.z57 (ps := [(_, _)]) rfl (xs := [_, _, _, _, _, _, _, _, _, _]) rfl rfl rfl rfl rfl rfl rfl ?_
        refine ra_do (i := 0) rfl rfl (by kernel_rfl) ?_
        refine do_y (y_load_p rfl Tryd.k36 rfl rfl rfl (vs := [_]) rfl rfl rfl) rfl ?_
        refine ra_y (i := 2) rfl (by kernel_rfl) (by kernel_rfl) (by kernel_rfl) (np_then (np_block (np_then (np_then (np_block (np_finO)))))) (y_len_v rfl rfl Tryd.s36 rfl) rfl ?_
        refine ra_do (i := 4) rfl rfl (by kernel_rfl) ?_
        refine do_append_w_s 1002 ⟨rfl, trivial⟩ rfl rfl Tryd.s36 Tryd.z57 rfl rfl rfl rfl rfl rfl (by first | rfl | simp [Value.oneCell', str]) (by omega) (by omega) rfl rfl ?_
        intro a2 c2
        refine ra_y (i := 5) rfl (by kernel_rfl) (by kernel_rfl) (by kernel_rfl) (np_then (np_block (np_then (np_then (np_block (np_finO)))))) (y_index_w 1002 rfl Tryd.s36 rfl rfl rfl (j := A.length) rfl (by omega)) rfl ?_
        refine ra_all (is := [6, 7]) (by kernel_rfl) rfl ?_
        refine raall_cons rfl rfl ?_ ?_
        ·
          have hlA := hli.len
          refine do_store_w ⟨rfl, trivial⟩ rfl Tryd.k57 rfl rfl rfl (vs := [_, _, _, _, _, _, _, _, _, _]) rfl rfl (by simp [Value.oneCell', str]) (by simp; omega) (setAt_append (by omega) rfl) ?_
          refine ra_do (i := 7) rfl rfl (by kernel_rfl) ?_
          refine do_store_p ⟨rfl, trivial⟩ rfl Tryd.k36 rfl rfl rfl (vs := [_]) rfl rfl (by first | rfl | exact oneAll | exact oneAll2 | simp [Value.oneCell', str]) (Nat.le_of_ble_eq_true rfl) rfl ?_
          refine ra_end (by kernel_rfl) (ρ' := [(0, _), (1, _), (2, _), (4, _), (7, _), (8, _)]) ⟨rfl, rfl, rfl, rfl, rfl, rfl, trivial⟩ ?_
          refine q_then ?_
          have hl1 : A.length + 1 = (A ++ [(.mk k t d ti a args cites kids : Inl)]).length := by simp
          rw [hl1]
          have hmono := (hleA.trans hleB).trans hleC
          have h1 := h1.mono hmono
          have hcut1' := hcut1
          have hli2 : InlsC uC (A ++ [(.mk k t d ti a args cites kids : Inl)]) _ := (hli.mono hmono).append (InlsC.one (InlC.mk' (vc := .slice ad1 _ cap1) (vp := .slice ad2 _ cap2) (va := .slice ad3 _ cap3) (vt := .slice ad4 _ cap4) (vk := .slice kad _ kcap) ⟨_, _, rfl, (q1.mono hleB).mono hleC⟩ ⟨_, _, rfl, (q2.mono hleB).mono hleC⟩ ⟨_, _, rfl, q3.mono hleC⟩ ⟨_, _, rfl, q4⟩ (s5.mono hmono) hok))
          refine wc_draw Tryd.mixed rfl [] trivial ?_
          refine ra_y (i := 1) rfl (by kernel_rfl) (by kernel_rfl) (by kernel_rfl) (np_block (np_then (np_then (np_block (np_finO))))) (y_move rfl rfl) rfl ?_
          refine ra_y (i := 2) rfl (by kernel_rfl) (by kernel_rfl) (by kernel_rfl) (np_block (np_then (np_then (np_block (np_finO))))) (y_move rfl rfl) rfl ?_
          refine ra_y (i := 3) rfl (by kernel_rfl) (by kernel_rfl) (by kernel_rfl) (np_block (np_then (np_then (np_block (np_finO))))) (y_index_e rfl Tryd.s36 rfl rfl (by assumption) (by first | rfl | omega) (by omega)) rfl ?_
          refine ra_y (i := 4) rfl (by kernel_rfl) (by kernel_rfl) (by kernel_rfl) (np_block (np_then (np_then (np_block (np_finO))))) (y_field_e rfl Tryd.f57' rfl (by decide) rfl) rfl ?_
          refine ra_y (i := 5) rfl (by kernel_rfl) (by kernel_rfl) (by kernel_rfl) (np_block (np_then (np_then (np_block (np_finO))))) (y_load_el rfl Tryd.k36 rfl (by assumption) (by omega) (by assumption) (vs := [_]) rfl rfl rfl rfl) rfl ?_
          refine ra_do (i := 0) rfl rfl (by kernel_rfl) ?_
          refine do_y (y_load_p rfl Tryd.k93 rfl rfl rfl (vs := [_]) rfl rfl rfl) rfl ?_
          refine ra_do (i := 6) rfl rfl (by kernel_rfl) ?_
          refine do_call_o (caps := [.pointer (some ⟨b3, 0, none⟩), .pointer (some ⟨b4, 0, none⟩)]) (ρ' := [(0, _), (1, _), (2, _), (7, _), (8, _)]) [1000, 1001, 1002] [] trivial rfl rfl rfl Tryd.c54 rfl rfl ⟨rfl, rfl, rfl, rfl, rfl, trivial⟩ rfl rfl rfl (FnO.mono (ih (szI kids) (by omega) _ kids (A ++ [Inl.mk k t d ti a args cites kids]) a2 c2 _ uC (Nat.le_refl _) (by simp; omega) hsmk (s5.mono hmono) hli2) ?_)
          rintro v uR l1 hleR ⟨rfl, a6, c6, l6, rfl, h6⟩ -
          refine ⟨⟨fun _ h => h, fun _ h => h, fun _ h => h, trivial⟩, ?_⟩
          refine ra_end (by kernel_rfl) (ρ' := [(0, _), (1, _), (2, _), (7, _), (8, _)]) ⟨rfl, rfl, rfl, rfl, rfl, trivial⟩ ?_
          refine q_block ?_
          refine q_then ?_
          refine wc_region ?_
          refine rl_y (y_add rfl rfl rfl (wrap64_id (by omega))) rfl ?_
          refine rl_y (y_move rfl rfl) rfl ?_
          refine rl_end (ρ' := [(0, _), (1, _), (2, _), (7, _), (8, _)]) ⟨rfl, rfl, rfl, rfl, rfl, trivial⟩ ?_
          refine q_thenK ?_
          refine ⟨m - 1, [(0, _), (1, _), (2, _), (7, _), (8, _)], [(1000, _), (1001, _), (1002, _)], by omega, ⟨rfl, rfl, rfl, rfl, rfl, trivial⟩, ⟨rfl, rfl, rfl, trivial⟩, i + 1, by omega, (hle1.trans (hmono.trans hleR)), a6, c6, l6, (by rw [hdt2]), (by first | rfl | simp), ?_⟩
          rw [hdt2]; exact h6
        refine raall_cons rfl rfl ?_ ?_
        ·
          refine do_store_p ⟨rfl, trivial⟩ rfl Tryd.k36 rfl rfl rfl (vs := [_]) rfl rfl (by first | rfl | exact oneAll | exact oneAll2 | simp [Value.oneCell', str]) (Nat.le_of_ble_eq_true rfl) rfl ?_
          have hlA := hli.len
          refine ra_do (i := 6) rfl rfl (by kernel_rfl) ?_
          refine do_store_w ⟨rfl, trivial⟩ rfl Tryd.k57 rfl rfl rfl (vs := [_, _, _, _, _, _, _, _, _, _]) rfl rfl (by simp [Value.oneCell', str]) (by simp; omega) (setAt_append (by omega) rfl) ?_
          refine ra_end (by kernel_rfl) (ρ' := [(0, _), (1, _), (2, _), (4, _), (7, _), (8, _)]) ⟨rfl, rfl, rfl, rfl, rfl, rfl, trivial⟩ ?_
          refine q_then ?_
          have hl1 : A.length + 1 = (A ++ [(.mk k t d ti a args cites kids : Inl)]).length := by simp
          rw [hl1]
          have hmono := (hleA.trans hleB).trans hleC
          have h1 := h1.mono hmono
          have hcut1' := hcut1
          have hli2 : InlsC uC (A ++ [(.mk k t d ti a args cites kids : Inl)]) _ := (hli.mono hmono).append (InlsC.one (InlC.mk' (vc := .slice ad1 _ cap1) (vp := .slice ad2 _ cap2) (va := .slice ad3 _ cap3) (vt := .slice ad4 _ cap4) (vk := .slice kad _ kcap) ⟨_, _, rfl, (q1.mono hleB).mono hleC⟩ ⟨_, _, rfl, (q2.mono hleB).mono hleC⟩ ⟨_, _, rfl, q3.mono hleC⟩ ⟨_, _, rfl, q4⟩ (s5.mono hmono) hok))
          refine wc_draw Tryd.mixed rfl [] trivial ?_
          refine ra_y (i := 1) rfl (by kernel_rfl) (by kernel_rfl) (by kernel_rfl) (np_block (np_then (np_then (np_block (np_finO))))) (y_move rfl rfl) rfl ?_
          refine ra_y (i := 2) rfl (by kernel_rfl) (by kernel_rfl) (by kernel_rfl) (np_block (np_then (np_then (np_block (np_finO))))) (y_move rfl rfl) rfl ?_
          refine ra_y (i := 3) rfl (by kernel_rfl) (by kernel_rfl) (by kernel_rfl) (np_block (np_then (np_then (np_block (np_finO))))) (y_index_e rfl Tryd.s36 rfl rfl (by assumption) (by first | rfl | omega) (by omega)) rfl ?_
          refine ra_y (i := 4) rfl (by kernel_rfl) (by kernel_rfl) (by kernel_rfl) (np_block (np_then (np_then (np_block (np_finO))))) (y_field_e rfl Tryd.f57' rfl (by decide) rfl) rfl ?_
          refine ra_y (i := 5) rfl (by kernel_rfl) (by kernel_rfl) (by kernel_rfl) (np_block (np_then (np_then (np_block (np_finO))))) (y_load_el rfl Tryd.k36 rfl (by assumption) (by omega) (by assumption) (vs := [_]) rfl rfl rfl rfl) rfl ?_
          refine ra_do (i := 0) rfl rfl (by kernel_rfl) ?_
          refine do_y (y_load_p rfl Tryd.k93 rfl rfl rfl (vs := [_]) rfl rfl rfl) rfl ?_
          refine ra_do (i := 6) rfl rfl (by kernel_rfl) ?_
          refine do_call_o (caps := [.pointer (some ⟨b3, 0, none⟩), .pointer (some ⟨b4, 0, none⟩)]) (ρ' := [(0, _), (1, _), (2, _), (7, _), (8, _)]) [1000, 1001, 1002] [] trivial rfl rfl rfl Tryd.c54 rfl rfl ⟨rfl, rfl, rfl, rfl, rfl, trivial⟩ rfl rfl rfl (FnO.mono (ih (szI kids) (by omega) _ kids (A ++ [Inl.mk k t d ti a args cites kids]) a2 c2 _ uC (Nat.le_refl _) (by simp; omega) hsmk (s5.mono hmono) hli2) ?_)
          rintro v uR l1 hleR ⟨rfl, a6, c6, l6, rfl, h6⟩ -
          refine ⟨⟨fun _ h => h, fun _ h => h, fun _ h => h, trivial⟩, ?_⟩
          refine ra_end (by kernel_rfl) (ρ' := [(0, _), (1, _), (2, _), (7, _), (8, _)]) ⟨rfl, rfl, rfl, rfl, rfl, trivial⟩ ?_
          refine q_block ?_
          refine q_then ?_
          refine wc_region ?_
          refine rl_y (y_add rfl rfl rfl (wrap64_id (by omega))) rfl ?_
          refine rl_y (y_move rfl rfl) rfl ?_
          refine rl_end (ρ' := [(0, _), (1, _), (2, _), (7, _), (8, _)]) ⟨rfl, rfl, rfl, rfl, rfl, trivial⟩ ?_
          refine q_thenK ?_
          refine ⟨m - 1, [(0, _), (1, _), (2, _), (7, _), (8, _)], [(1000, _), (1001, _), (1002, _)], by omega, ⟨rfl, rfl, rfl, rfl, rfl, trivial⟩, ⟨rfl, rfl, rfl, trivial⟩, i + 1, by omega, (hle1.trans (hmono.trans hleR)), a6, c6, l6, (by rw [hdt2]), (by first | rfl | simp), ?_⟩
          rw [hdt2]; exact h6
        exact raall_nil
      exact raall_nil
    ·
      refine wc_exit ?_
      refine q_then_exit ?_
      refine q_then_exit ?_
      refine q_block_hit ?_
      refine finO0n [1000, 1001, 1002]  rfl rfl ?_
      have hge := of_decide_eq_false hb1
      rw [List.take_of_length_le (by omega)] at hli ⊢
      exact ⟨rfl, _, _, _, rfl, hli⟩

abbrev visB (b4 b5 : Nat) : Value := .func (.func 58) #[] #[.pointer (some ⟨b4, 0, none⟩), .pointer (some ⟨b5, 0, none⟩)]
theorem inls_append (xs ys : List Blk) : inls (xs ++ ys) = inls xs ++ inls ys := by simp [inls]
theorem inlsB_take {bs : List Blk} {i : Nat} {k lv : Int} {inf t d ti : Bs} {a : DAttr} {line : List Inl} {kids : List Blk} (h : bs[i]? = some (.mk k lv inf t d ti a line kids)) :
    inls (listB (bs.take (i + 1))) = inls (listB (bs.take i)) ++ (deep line ++ inls (listB kids)) := by
  rw [listB_take h, inls_append]
  simp [listb, inls, lineOf]
theorem inlsB_len (bs : List Blk) : (inls (listB bs)).length ≤ szB bs := by
  rw [inls_len]
  exact szL_listB bs

set_option maxHeartbeats 4000000 in
theorem visB_fn (b3 b4 b5 : Nat) (n : Nat) : ∀ (v : Value) (bs : List Blk) (out : List Inl) (ao : Option Addr) (co : Nat) (acc : List Value) (u : View), szB bs ≤ n → out.length + szB bs ≤ 100000 → smB bs → BlkS u v bs → InlsC u out acc →
    FnO Tryd.prog 58 [v, .pointer (some ⟨b4, 0, none⟩), .pointer (some ⟨b5, 0, none⟩)] u [(some b3, .box [.slice ao out.length co]), (some b4, .box [visI b3 b4]), (some b5, .box [visB b4 b5]), (none, .rwv (.slice ao out.length co) 57 10 out.length acc)]
      fun r u' l' => r = .tuple #[] ∧ ∃ ao' co' acc', l' = [(some b3, .box [.slice ao' (out ++ inls (listB bs)).length co']), (some b4, .box [visI b3 b4]), (some b5, .box [visB b4 b5]), (none, .rwv (.slice ao' (out ++ inls (listB bs)).length co') 57 10 (out ++ inls (listB bs)).length acc')] ∧ InlsC u' (out ++ inls (listB bs)) acc' := by
  induction n using Nat.strongRecOn with
  | _ n ih =>
  intro v bs out ao co acc u hsz hbig hsm ha hacc
  have hlx := len_szB bs
  obtain ⟨cs, ⟨ad, cap, rfl, h1⟩, hc1⟩ := ha
  refine FnO.intro [] Tryd.func58 rfl rfl rfl ?_
  intro w0 D hw0
  refine wc_pin 1 1001 _ 0 rfl rfl ?_
  refine wc_pin 2 1002 _ 0 rfl rfl ?_
  refine wc_seq ?_
  refine wc_region ?_
  refine rl_y (y_move rfl rfl) rfl ?_
  refine rl_y (y_len_v rfl rfl Tryd.s23 rfl) rfl ?_
  refine rl_y (y_move rfl rfl) rfl ?_
  refine rl_end (ρ' := [(0, _), (1, _), (2, _), (6, _), (7, _)]) ⟨rfl, rfl, rfl, rfl, rfl, trivial⟩ ?_
  refine q_then ?_
  refine wc_block ?_
  refine wc_loop (fun m ρ σ u' => ∃ i : Nat, i + m = bs.length ∧ VLe u u' ∧ ∃ (ai : Option Addr) (ci : Nat) (li : List Value), σ = [(1000, (some b3, .box [.slice ai (out ++ inls (listB (bs.take i))).length ci])), (1001, (some b4, .box [visI b3 b4])), (1002, (some b5, .box [visB b4 b5])), (1003, (none, .rwv (.slice ai (out ++ inls (listB (bs.take i))).length ci) 57 10 (out ++ inls (listB (bs.take i))).length li))] ∧ ρ = [(0, .v (.slice ad bs.length cap)), (1, .p 1001 0), (2, .p 1002 0), (6, .v (.int .i64 bs.length)), (7, .v (.int .i64 i))] ∧ (InlsC u' (out ++ inls (listB (bs.take i))) li)) (bs.length) ?_ ?_
  ·
    refine ⟨[(0, _), (1, _), (2, _), (6, _), (7, _)], [(1000, _), (1001, _), (1002, _), (1003, _)], ⟨rfl, rfl, rfl, rfl, rfl, trivial⟩, ⟨rfl, rfl, rfl, rfl, trivial⟩, 0, by omega, VLe.refl _, ao, co, acc, (by simp [listB, inls]), rfl, ?_⟩
    simpa [listB, inls] using hacc
  ·
    rintro m ρ σ u' ⟨i, hi1, hle1, ai, ci, li, rfl, rfl, hli⟩
    refine wc_seq ?_
    refine wc_region ?_
    refine rl_y (y_lss rfl rfl rfl) rfl ?_
    refine rl_end (ρ' := [(0, _), (1, _), (2, _), (6, _), (7, _), (8, _)]) ⟨rfl, rfl, rfl, rfl, rfl, rfl, trivial⟩ ?_
    refine q_then ?_
    refine wc_seq ?_
    refine wc_cond rfl (fun hb1 => ?_) (fun hb1 => ?_)
    ·
      refine wc_skip ?_
      refine q_then ?_
      refine wc_seq ?_
      refine wc_block ?_
      refine wc_seq ?_
      refine wc_region ?_
      refine rl_y (y_move rfl rfl) rfl ?_
      refine rl_y (y_assign rfl rfl) rfl ?_
      refine rl_end (ρ' := [(0, _), (1, _), (2, _), (4, _), (6, _), (7, _)]) ⟨rfl, rfl, rfl, rfl, rfl, rfl, trivial⟩ ?_
      refine q_then ?_
      refine wc_seq ?_
      have hlt : i < bs.length := by have := of_decide_eq_true hb1; omega
      have h1 := h1.mono hle1
      obtain ⟨k, lv, inf, t, d, ti, a, line, kids, vc, vp, vl, vk, hg, hcut1, s1, s2, s3, s4, hok⟩ := (hc1.mono hle1).at hlt
      have oneAll := ((hc1.mono hle1).get i _ hg).one
      rw [hcut1] at oneAll
      have hsm1 := smB_get hsm hg
      unfold smB1 at hsm1
      have hszk := szB_kids hg
      have htg := szB_take_get hg
      simp only [szb] at htg
      have hdt := inlsB_take hg
      have hil := inlsB_len (bs.take i)
      have hAl : (out ++ inls (listB (bs.take i))).length ≤ out.length + szB (bs.take i) := by simp; omega
      have hdt2 : out ++ inls (listB (bs.take (i + 1))) = (out ++ inls (listB (bs.take i)) ++ deep line) ++ inls (listB kids) := by rw [hdt]; simp
      generalize out ++ inls (listB (bs.take i)) = A at *
      have hdl := deep_len line
      refine wc_draw Tryd.mixed rfl [] trivial ?_
      refine ra_y (i := 1) rfl (by kernel_rfl) (by kernel_rfl) (by kernel_rfl) (np_then (np_block (np_then (np_then (np_block (np_finO)))))) (y_move rfl rfl) rfl ?_
      refine ra_y (i := 2) rfl (by kernel_rfl) (by kernel_rfl) (by kernel_rfl) (np_then (np_block (np_then (np_then (np_block (np_finO)))))) (y_move rfl rfl) rfl ?_
      refine ra_y (i := 3) rfl (by kernel_rfl) (by kernel_rfl) (by kernel_rfl) (np_then (np_block (np_then (np_then (np_block (np_finO)))))) (y_index_e rfl Tryd.s23 rfl rfl (by assumption) (by first | rfl | omega) (by omega)) rfl ?_
      refine ra_y (i := 4) rfl (by kernel_rfl) (by kernel_rfl) (by kernel_rfl) (np_then (np_block (np_then (np_then (np_block (np_finO)))))) (y_field_e rfl Tryd.f42' rfl (by decide) rfl) rfl ?_
      refine ra_y (i := 5) rfl (by kernel_rfl) (by kernel_rfl) (by kernel_rfl) (np_then (np_block (np_then (np_then (np_block (np_finO)))))) (y_load_el rfl Tryd.k36 rfl (by assumption) (by omega) (by assumption) (vs := [_]) rfl rfl rfl rfl) rfl ?_
      refine ra_do (i := 0) rfl rfl (by kernel_rfl) ?_
      refine do_y (y_load_p rfl Tryd.k93 rfl rfl rfl (vs := [_]) rfl rfl rfl) rfl ?_
      refine ra_do (i := 6) rfl rfl (by kernel_rfl) ?_
      refine do_call_o (caps := [.pointer (some ⟨b3, 0, none⟩), .pointer (some ⟨b4, 0, none⟩)]) (ρ' := [(0, _), (1, _), (2, _), (4, _), (6, _), (7, _)]) [1000, 1001, 1003] [] trivial rfl rfl rfl Tryd.c54 rfl rfl ⟨rfl, rfl, rfl, rfl, rfl, rfl, trivial⟩ rfl rfl rfl (FnO.mono (visI_fn b3 b4 (szI line) vl line A ai ci li u' (Nat.le_refl _) (by omega) hsm1.2.2.2.2.1 s3 hli) ?_)
      rintro v uI l1 hleI ⟨rfl, a6, c6, l6, rfl, h6⟩ -
      refine ⟨⟨fun _ h => h, fun _ h => h, fun _ h => h, trivial⟩, ?_⟩
      refine ra_end (by kernel_rfl) (ρ' := [(0, _), (1, _), (2, _), (4, _), (6, _), (7, _)]) ⟨rfl, rfl, rfl, rfl, rfl, rfl, trivial⟩ ?_
      refine q_then ?_
      have h1 := h1.mono hleI
      refine wc_draw Tryd.mixed rfl [] trivial ?_
      refine ra_y (i := 1) rfl (by kernel_rfl) (by kernel_rfl) (by kernel_rfl) (np_block (np_then (np_then (np_block (np_finO))))) (y_move rfl rfl) rfl ?_
      refine ra_y (i := 2) rfl (by kernel_rfl) (by kernel_rfl) (by kernel_rfl) (np_block (np_then (np_then (np_block (np_finO))))) (y_move rfl rfl) rfl ?_
      refine ra_y (i := 3) rfl (by kernel_rfl) (by kernel_rfl) (by kernel_rfl) (np_block (np_then (np_then (np_block (np_finO))))) (y_index_e rfl Tryd.s23 rfl rfl (by assumption) (by first | rfl | omega) (by omega)) rfl ?_
      refine ra_y (i := 4) rfl (by kernel_rfl) (by kernel_rfl) (by kernel_rfl) (np_block (np_then (np_then (np_block (np_finO))))) (y_field_e rfl Tryd.f42' rfl (by decide) rfl) rfl ?_
      refine ra_y (i := 5) rfl (by kernel_rfl) (by kernel_rfl) (by kernel_rfl) (np_block (np_then (np_then (np_block (np_finO))))) (y_load_el rfl Tryd.k23 rfl (by assumption) (by omega) (by assumption) (vs := [_]) rfl rfl rfl rfl) rfl ?_
      refine ra_do (i := 0) rfl rfl (by kernel_rfl) ?_
      refine do_y (y_load_p rfl Tryd.k97 rfl rfl rfl (vs := [_]) rfl rfl rfl) rfl ?_
      refine ra_do (i := 6) rfl rfl (by kernel_rfl) ?_
      refine do_call_o (caps := [.pointer (some ⟨b4, 0, none⟩), .pointer (some ⟨b5, 0, none⟩)]) (ρ' := [(0, _), (1, _), (2, _), (6, _), (7, _)]) [1000, 1001, 1002, 1003] [] trivial rfl rfl rfl Tryd.c58 rfl rfl ⟨rfl, rfl, rfl, rfl, rfl, trivial⟩ rfl rfl rfl (FnO.mono (ih (szB kids) (by omega) vk kids (A ++ deep line) a6 c6 l6 uI (Nat.le_refl _) (by simp; omega) hsm1.2.2.2.2.2 (s4.mono hleI) h6) ?_)
      rintro v uK l1 hleK ⟨rfl, a7, c7, l7, rfl, h7⟩ -
      refine ⟨⟨fun _ h => h, fun _ h => h, fun _ h => h, fun _ h => h, trivial⟩, ?_⟩
      refine ra_end (by kernel_rfl) (ρ' := [(0, _), (1, _), (2, _), (6, _), (7, _)]) ⟨rfl, rfl, rfl, rfl, rfl, trivial⟩ ?_
      refine q_block ?_
      refine q_then ?_
      refine wc_region ?_
      refine rl_y (y_add rfl rfl rfl (wrap64_id (by omega))) rfl ?_
      refine rl_y (y_move rfl rfl) rfl ?_
      refine rl_end (ρ' := [(0, _), (1, _), (2, _), (6, _), (7, _)]) ⟨rfl, rfl, rfl, rfl, rfl, trivial⟩ ?_
      refine q_thenK ?_
      refine ⟨m - 1, [(0, _), (1, _), (2, _), (6, _), (7, _)], [(1000, _), (1001, _), (1002, _), (1003, _)], by omega, ⟨rfl, rfl, rfl, rfl, rfl, trivial⟩, ⟨rfl, rfl, rfl, rfl, trivial⟩, i + 1, by omega, (hle1.trans (hleI.trans hleK)), a7, c7, l7, (by rw [hdt2]), (by first | rfl | simp), ?_⟩
      rw [hdt2]; exact h7
    ·
      refine wc_exit ?_
      refine q_then_exit ?_
      refine q_then_exit ?_
      refine q_block_hit ?_
      refine finO0n [1000, 1001, 1002, 1003]  rfl rfl ?_
      have hge := of_decide_eq_false hb1
      rw [List.take_of_length_le (by omega)] at hli ⊢
      exact ⟨rfl, _, _, _, rfl, hli⟩

theorem treeInlines_fn (v : Value) (bs : List Blk) (u : View) (hbig : szB bs ≤ 100000) (hsm : smB bs) (ha : BlkS u v bs) : FnP Tryd.prog 37 [v] u fun r u' => InlS u' r (inls (listB bs)) := by
  refine FnP.intro [.tmp 2] Tryd.func37 rfl rfl rfl ?_
  intro w0 D hw0
  refine wc_seq ?_
  refine wc_region ?_
  refine rl_y (y_assign rfl rfl) rfl ?_
  refine rl_end (ρ' := [(0, _)]) ⟨rfl, trivial⟩ ?_
  refine q_then ?_
  refine wc_seq ?_
  refine wc_region ?_
  refine rl_do rfl rfl ?_
  refine do_alloc trivial Tryd.z36 rfl rfl rfl ?_
  refine rl_end (ρ' := [(0, _), (3, _)]) ⟨rfl, rfl, trivial⟩ ?_
  refine q_then ?_
  refine wc_seq ?_
  refine wc_region ?_
  refine rl_do rfl rfl ?_
  refine do_alloc trivial Tryd.z93 rfl rfl rfl ?_
  refine rl_end (ρ' := [(0, _), (3, _), (4, _)]) ⟨rfl, rfl, rfl, trivial⟩ ?_
  refine q_then ?_
  refine wc_seq ?_
  refine wc_region ?_
  refine rl_name 3 rfl ⟨3, _, .inl rfl⟩ ?_
  intro b3
  refine rl_name 4 rfl ⟨4, _, .inl rfl⟩ ?_
  intro b4
  refine rl_y (y_makeFunc rfl rfl rfl) rfl ?_
  refine rl_do rfl rfl ?_
  refine do_store_p trivial rfl Tryd.k93 rfl rfl rfl (vs := [_]) rfl rfl (by first | rfl | exact oneAll | exact oneAll2 | simp [Value.oneCell', str]) (Nat.le_of_ble_eq_true rfl) rfl ?_
  refine rl_end (ρ' := [(0, _), (3, _), (4, _)]) ⟨rfl, rfl, rfl, trivial⟩ ?_
  refine q_then ?_
  refine wc_seq ?_
  refine wc_region ?_
  refine rl_do rfl rfl ?_
  refine do_alloc trivial Tryd.z97 rfl rfl rfl ?_
  refine rl_end (ρ' := [(0, _), (3, _), (4, _), (5, _)]) ⟨rfl, rfl, rfl, rfl, trivial⟩ ?_
  refine q_then ?_
  refine wc_seq ?_
  refine wc_region ?_
  refine rl_name 5 rfl ⟨5, _, .inl rfl⟩ ?_
  intro b5
  refine rl_y (y_makeFunc rfl rfl rfl) rfl ?_
  refine rl_do rfl rfl ?_
  refine do_store_p trivial rfl Tryd.k97 rfl rfl rfl (vs := [_]) rfl rfl (by first | rfl | exact oneAll | exact oneAll2 | simp [Value.oneCell', str]) (Nat.le_of_ble_eq_true rfl) rfl ?_
  refine rl_end (ρ' := [(0, _), (3, _), (5, _)]) ⟨rfl, rfl, rfl, trivial⟩ ?_
  refine q_then ?_
  refine wc_seq ?_
  refine wc_region ?_
  refine rl_y (y_load_p rfl Tryd.k97 rfl rfl rfl (vs := [_]) rfl rfl rfl) rfl ?_
  refine rl_y (y_move rfl rfl) rfl ?_
  refine rl_nilW 600 57 10 rfl rfl ?_
  refine rl_do rfl rfl ?_
  refine do_call_o (caps := [.pointer (some ⟨b4, 0, none⟩), .pointer (some ⟨b5, 0, none⟩)]) (ρ' := [(3, _)]) [3, 4, 5, 600] [] trivial rfl rfl rfl Tryd.c58 rfl rfl ⟨rfl, trivial⟩ rfl rfl rfl (FnO.mono (visB_fn b3 b4 b5 (szB bs) v bs [] none 0 [] u (Nat.le_refl _) (by simp; omega) hsm ha InlsC.nil) ?_)
  rintro v u1 l1 hle1 ⟨rfl, a7, c7, l7, rfl, h7⟩ -
  refine ⟨⟨fun _ h => h, fun _ h => h, fun _ h => h, fun _ h => h, trivial⟩, ?_⟩
  refine rl_end (ρ' := [(3, _)]) ⟨rfl, trivial⟩ ?_
  refine q_then ?_
  refine wc_seq ?_
  refine wc_region ?_
  refine rl_y (y_load_p rfl Tryd.k36 rfl rfl rfl (vs := [_]) rfl rfl rfl) rfl ?_
  refine rl_freezeW 600 rfl ?_
  intro uF hleF hF
  refine rl_y (y_assign rfl rfl) rfl ?_
  refine rl_end (ρ' := [(2, _)]) ⟨rfl, trivial⟩ ?_
  refine q_then ?_
  refine wc_ret ?_
  refine fin1 (.tmp rfl) ?_
  exact ⟨_, hF, h7.mono hleF⟩
end Go.Proofs.Ythnboadnehbciaa
