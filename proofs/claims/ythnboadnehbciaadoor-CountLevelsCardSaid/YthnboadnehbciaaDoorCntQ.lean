/- Count: the closure that numbers blocks, its walk. -/
import Derived.Test.YthnboadnehbciaaDoorCntP
namespace Go.Proofs.Ythnboadnehbciaa
open Go Go.Eng
set_option linter.unusedSimpArgs false
set_option linter.unusedVariables false
set_option maxRecDepth 4000

abbrev visV (b4 b6 b3 b7 : Nat) : Value := .func (.func 29) #[] #[.pointer (some ⟨b4, 0, none⟩), .pointer (some ⟨b6, 0, none⟩), .pointer (some ⟨b3, 0, none⟩), .pointer (some ⟨b7, 0, none⟩)]
abbrev visL (b3 b4 b5 bm b6 b7 : Nat) (x : Cs) (ao : Option Addr) (co : Nat) (acc : List Value) (kvs : List (Value × Value)) : List PO :=
  [(some b3, .box [.slice ao x.out.length co]), (some b4, .box (arr 6 fun j => x.f (j + 1))), (some b5, .box [.map (some bm)]), (some bm, .mp kvs), (some b6, .box [cntV b5]), (some b7, .box [visV b4 b6 b3 b7]), (none, .rwv (.slice ao x.out.length co) 38 4 x.out.length acc)]

set_option maxHeartbeats 8000000 in
theorem visN_fn (b3 b4 b5 bm b6 b7 : Nat) (n : Nat) : ∀ (v : Value) (bs : List Blk) (free : Bool) (x : Cs) (ao : Option Addr) (co : Nat) (acc : List Value) (kvs : List (Value × Value)) (B : Nat) (u : View), TabU u → szB bs ≤ n → B + szB bs ≤ 9000 → CsLe B x → smB bs → BlkS u v bs → NumsC u x.out acc → CtrM kvs (cOf x.g 0) →
    FnO Tryd.prog 29 [v, .bool free, .pointer (some ⟨b4, 0, none⟩), .pointer (some ⟨b6, 0, none⟩), .pointer (some ⟨b3, 0, none⟩), .pointer (some ⟨b7, 0, none⟩)] u (visL b3 b4 b5 bm b6 b7 x ao co acc kvs)
      fun r u' l' => r = .tuple #[] ∧ ∃ ao' co' acc' kvs', l' = visL b3 b4 b5 bm b6 b7 (numbB free x bs) ao' co' acc' kvs' ∧ NumsC u' (numbB free x bs).out acc' ∧ CtrM kvs' (cOf (numbB free x bs).g 0) := by
  induction n using Nat.strongRecOn with
  | _ n ih =>
  intro v bs free x ao co acc kvs B u hT hsz hbig hB hsm ha hn hM
  have hlx := len_szB bs
  obtain ⟨cs, ⟨ad, cap, rfl, h1⟩, hc1⟩ := ha
  refine FnO.intro [] Tryd.func29 rfl rfl rfl ?_
  intro w0 D hw0
  refine wc_pin 2 1001 _ 0 rfl rfl ?_
  refine wc_pin 3 1004 _ 0 rfl rfl ?_
  refine wc_pin 4 1000 _ 0 rfl rfl ?_
  refine wc_pin 5 1005 _ 0 rfl rfl ?_
  refine wc_seq ?_
  refine wc_region ?_
  refine rl_y (y_move rfl rfl) rfl ?_
  refine rl_y (y_len_v rfl rfl Tryd.s23 rfl) rfl ?_
  refine rl_y (y_move rfl rfl) rfl ?_
  refine rl_end (ρ' := [(1, _), (2, _), (3, _), (4, _), (5, _), (11, _), (12, _), (13, _)]) ⟨rfl, rfl, rfl, rfl, rfl, rfl, rfl, rfl, trivial⟩ ?_
  refine q_then ?_
  refine wc_block ?_
  refine wc_loop (fun m ρ σ u' => ∃ i : Nat, i + m = bs.length ∧ VLe u u' ∧ ∃ (ai : Option Addr) (ci : Nat) (li : List Value) (ki : List (Value × Value)), σ = [(1000, (some b3, .box [.slice ai (numbB free x (bs.take i)).out.length ci])), (1001, (some b4, .box (arr 6 fun j => (numbB free x (bs.take i)).f (j + 1)))), (1002, (some b5, .box [.map (some bm)])), (1003, (some bm, .mp ki)), (1004, (some b6, .box [cntV b5])), (1005, (some b7, .box [visV b4 b6 b3 b7])), (1006, (none, .rwv (.slice ai (numbB free x (bs.take i)).out.length ci) 38 4 (numbB free x (bs.take i)).out.length li))] ∧ ρ = [(1, .v (.bool free)), (2, .p 1001 0), (3, .p 1004 0), (4, .p 1000 0), (5, .p 1005 0), (11, .v (.slice ad bs.length cap)), (12, .v (.int .i64 bs.length)), (13, .v (.int .i64 i))] ∧ (NumsC u' (numbB free x (bs.take i)).out li ∧ CtrM ki (cOf (numbB free x (bs.take i)).g 0))) (bs.length) ?_ ?_
  ·
    refine ⟨[(1, _), (2, _), (3, _), (4, _), (5, _), (11, _), (12, _), (13, _)], [(1000, _), (1001, _), (1002, _), (1003, _), (1004, _), (1005, _), (1006, _)], ⟨rfl, rfl, rfl, rfl, rfl, rfl, rfl, rfl, trivial⟩, ⟨rfl, rfl, rfl, rfl, rfl, rfl, rfl, trivial⟩, 0, by omega, VLe.refl _, ao, co, acc, kvs, rfl, rfl, ?_⟩
    exact ⟨hn, hM⟩
  ·
    rintro m ρ σ u' ⟨i, hi1, hle1, ai, ci, li, ki, rfl, rfl, ⟨hai, hMi⟩⟩
    refine wc_seq ?_
    refine wc_region ?_
    refine rl_y (y_lss rfl rfl rfl) rfl ?_
    refine rl_end (ρ' := [(1, _), (2, _), (3, _), (4, _), (5, _), (11, _), (12, _), (13, _), (14, _)]) ⟨rfl, rfl, rfl, rfl, rfl, rfl, rfl, rfl, rfl, trivial⟩ ?_
    refine q_then ?_
    refine wc_seq ?_
    refine wc_cond rfl (fun hb1 => ?_) (fun hb1 => ?_)
    ·
      refine wc_skip ?_
      refine q_then ?_
      refine wc_seq ?_
      refine wc_block ?_
      refine wc_seq ?_
      have hlt : i < bs.length := by have := of_decide_eq_true hb1; omega
      have h1 := h1.mono hle1
      have hT := hT.mono hle1
      obtain ⟨k, lv, inf, t, d, ti, a, line, kids, vc, vp, vl, vk, hg, hcut1, s1, s2, s3, s4, hok⟩ := (hc1.mono hle1).at hlt
      have oneAll := ((hc1.mono hle1).get i _ hg).one
      rw [hcut1] at oneAll
      have hX := numbB_le (free := free) (bs.take i) B x hB
      have hst := numbB_take (free := free) (x := x) hg
      have htg := szB_take_get hg
      have hlk := len_szB kids
      have hszk := szB_kids hg
      have hsm1 := smB_get hsm hg
      unfold smB1 at hsm1
      simp only [szb] at htg
      rw [numb1] at hst
      generalize numbB free x (bs.take i) = X at hX hst hai hMi ⊢
      have hZl := step_le (free := free) (k := k) (lv := lv) (inf := inf) (a := a) (line := line) (kids := kids) hX
      have hS := caseSec (k := k) (lv := lv) (free := free) (inf := inf) (a := a) (line := line) (kids := kids) (X := X)
      have hFT := caseFT (k := k) (lv := lv) (free := free) (inf := inf) (a := a) (line := line) (kids := kids) (X := X)
      have hE := caseEq (k := k) (lv := lv) (free := free) (inf := inf) (a := a) (line := line) (kids := kids) (X := X)
      have hN := caseNo (k := k) (lv := lv) (free := free) (inf := inf) (a := a) (line := line) (kids := kids) (X := X)
      have hXf := fun j => hX.1 j
      have hXg := fun j => hX.2.1 j
      have hXo := hX.2.2
      have t3 := s3
      have t4 := s4
      obtain ⟨lcs, ⟨lad, lcap, rfl, hl1⟩, hl2⟩ := t3
      obtain ⟨kcs, ⟨kad, kcap, rfl, hk1⟩, hk2⟩ := t4
      refine wc_region ?_
      refine rl_y (y_index_e rfl Tryd.s23 rfl rfl (by assumption) (by first | rfl | omega) (by omega)) rfl ?_
      refine rl_y (y_load_el rfl Tryd.k42 rfl (by assumption) (by omega) (by assumption) (vs := [_, _, _, _, _, _, _, _, _, _, _]) rfl rfl rfl rfl) rfl ?_
      refine rl_do rfl rfl ?_
      refine do_alloc trivial Tryd.z42 rfl rfl rfl ?_
      refine rl_do rfl rfl ?_
      refine do_store_p trivial rfl Tryd.k42 rfl rfl rfl (vs := [_, _, _, _, _, _, _, _, _, _, _]) rfl rfl (by first | rfl | exact oneAll | exact oneAll2 | simp [Value.oneCell', str]) (Nat.le_of_ble_eq_true rfl) rfl ?_
      refine rl_end (ρ' := [(1, _), (2, _), (3, _), (4, _), (5, _), (9, _), (11, _), (12, _), (13, _)]) ⟨rfl, rfl, rfl, rfl, rfl, rfl, rfl, rfl, rfl, trivial⟩ ?_
      refine q_then ?_
      refine wc_seq ?_
      refine wc_cutS [(10, .p 10 0)] [(10, (none, .box [str a.id, str (kindOfS k free inf a.id), str [], .slice none 0 0]))] (ρa := [(1, _), (2, _), (3, _), (4, _), (5, _), (9, _), (11, _), (12, _), (13, _)]) (σa := [(9, _), (1000, _), (1001, _), (1002, _), (1003, _), (1004, _), (1005, _), (1006, _)]) ⟨rfl, rfl, rfl, rfl, rfl, rfl, rfl, rfl, rfl, trivial⟩ ⟨rfl, rfl, rfl, rfl, rfl, rfl, rfl, rfl, trivial⟩ ?_ ?_
      ·
        refine wc_draw Tryd.mixed rfl [(9, _)] ⟨rfl, trivial⟩ ?_
        refine ra_y (i := 0) rfl (by kernel_rfl) (by kernel_rfl) (by kernel_rfl) (np_cutS) (y_field_p rfl Tryd.f42' rfl (by decide) rfl) rfl ?_
        refine ra_y (i := 1) rfl (by kernel_rfl) (by kernel_rfl) (by kernel_rfl) (np_cutS) (y_field_p rfl Tryd.f40' rfl (by decide) rfl) rfl ?_
        refine ra_y (i := 2) rfl (by kernel_rfl) (by kernel_rfl) (by kernel_rfl) (np_cutS) (y_load_p rfl Tryd.k9 rfl rfl rfl (vs := [_]) rfl rfl rfl) rfl ?_
        refine ra_y (i := 3) rfl (by kernel_rfl) (by kernel_rfl) (by kernel_rfl) (np_cutS) (y_load_p rfl Tryd.k42 rfl rfl rfl (vs := [_, _, _, _, _, _, _, _, _, _, _]) rfl rfl rfl) rfl ?_
        refine ra_y (i := 4) rfl (by kernel_rfl) (by kernel_rfl) (by kernel_rfl) (np_cutS) (y_move rfl rfl) rfl ?_
        refine ra_all (is := [5, 7]) (by kernel_rfl) rfl ?_
        refine raall_cons rfl rfl ?_ ?_
        ·
          refine do_call_f (caps := []) ⟨rfl, trivial⟩ rfl rfl Tryd.c30 rfl (FnP.mono (kindOf_fn k lv inf t d ti a.id vc vp _ _ free _) ?_)
          rintro v u1 hle1 rfl
          refine ra_y (i := 6) rfl (by kernel_rfl) (by kernel_rfl) (by kernel_rfl) (np_cutS) (y_build rfl Tryd.f38' Tryd.z38 (ps := [(_, _), (_, _)]) rfl (vs := [_, _, _, _]) rfl) rfl ?_
          refine ra_do (i := 7) rfl rfl (by kernel_rfl) ?_
          refine do_alloc ⟨rfl, trivial⟩ Tryd.z38 rfl rfl rfl ?_
          refine ra_do (i := 8) rfl rfl (by kernel_rfl) ?_
          refine do_store_p ⟨rfl, trivial⟩ rfl Tryd.k38 rfl rfl rfl (vs := [_, _, _, _]) rfl rfl (by first | rfl | exact oneAll | exact oneAll2 | simp [Value.oneCell', str]) (Nat.le_of_ble_eq_true rfl) rfl ?_
          exact cutS_endA (by kernel_rfl) ⟨rfl, rfl, rfl, rfl, rfl, rfl, rfl, rfl, rfl, rfl, trivial⟩ ⟨rfl, rfl, rfl, rfl, rfl, rfl, rfl, rfl, rfl, trivial⟩
        refine raall_cons rfl rfl ?_ ?_
        ·
          refine do_alloc ⟨rfl, trivial⟩ Tryd.z38 rfl rfl rfl ?_
          refine ra_do (i := 5) rfl rfl (by kernel_rfl) ?_
          refine do_call_f (caps := []) ⟨rfl, trivial⟩ rfl rfl Tryd.c30 rfl (FnP.mono (kindOf_fn k lv inf t d ti a.id vc vp _ _ free _) ?_)
          rintro v u1 hle1 rfl
          refine ra_y (i := 6) rfl (by kernel_rfl) (by kernel_rfl) (by kernel_rfl) (np_cutS) (y_build rfl Tryd.f38' Tryd.z38 (ps := [(_, _), (_, _)]) rfl (vs := [_, _, _, _]) rfl) rfl ?_
          refine ra_do (i := 8) rfl rfl (by kernel_rfl) ?_
          refine do_store_p ⟨rfl, trivial⟩ rfl Tryd.k38 rfl rfl rfl (vs := [_, _, _, _]) rfl rfl (by first | rfl | exact oneAll | exact oneAll2 | simp [Value.oneCell', str]) (Nat.le_of_ble_eq_true rfl) rfl ?_
          exact cutS_endA (by kernel_rfl) ⟨rfl, rfl, rfl, rfl, rfl, rfl, rfl, rfl, rfl, rfl, trivial⟩ ⟨rfl, rfl, rfl, rfl, rfl, rfl, rfl, rfl, rfl, trivial⟩
        exact raall_nil
      generalize kindOfS k free inf a.id = K at *
      generalize hYd : kindStep k inf a kids (headStep free k lv a line X) = Y at *
      refine q_then ?_
      refine wc_cut (fun ρ σ uc12 => ∃ (V : Bs) (L : List Inl) (qad : Option Addr) (qcap : Nat) (k2 : List (Value × Value)), VLe u' uc12 ∧ σ = [(9, (none, .box (blkV k lv inf t d ti a.id vc vp (.slice lad line.length lcap) (.slice kad kids.length kcap)))), (10, (none, .box [str a.id, str K, str V, .slice qad L.length qcap])), (1000, (some b3, .box [.slice ai X.out.length ci])), (1001, (some b4, .box (arr 6 fun j => Y.f (j + 1)))), (1002, (some b5, .box [.map (some bm)])), (1003, (some bm, .mp k2)), (1004, (some b6, .box [cntV b5])), (1005, (some b7, .box [visV b4 b6 b3 b7])), (1006, (none, .rwv (.slice ai X.out.length ci) 38 4 X.out.length li))] ∧ ρ = [(1, .v (.bool free)), (2, .p 1001 0), (3, .p 1004 0), (4, .p 1000 0), (5, .p 1005 0), (9, .p 9 0), (10, .p 10 0), (11, .v (.slice ad bs.length cap)), (12, .v (.int .i64 bs.length)), (13, .v (.int .i64 i))] ∧ (InlS uc12 (.slice qad L.length qcap) L ∧ CtrM k2 (cOf Y.g 0) ∧ ((K = [] ∧ Y.out = X.out) ∨ (K ≠ [] ∧ Y.out = X.out ++ [⟨a.id, K, V, L⟩])))) ?_ ?_
      ·
        refine wc_seq ?_
        refine wc_region ?_
        refine rl_y (y_field_p rfl Tryd.f38' rfl (by decide) rfl) rfl ?_
        refine rl_y (y_load_p rfl Tryd.k9 rfl rfl rfl (vs := [_]) rfl rfl rfl) rfl ?_
        refine rl_end (ρ' := [(1, _), (2, _), (3, _), (4, _), (5, _), (9, _), (10, _), (11, _), (12, _), (13, _), (25, _)]) ⟨rfl, rfl, rfl, rfl, rfl, rfl, rfl, rfl, rfl, rfl, rfl, trivial⟩ ?_
        refine q_then ?_
        refine wc_block ?_
        refine wc_seq ?_
        refine wc_region ?_
        refine rl_y (y_str_eql rfl rfl rfl) rfl ?_
        refine rl_y (y_assign rfl rfl) rfl ?_
        refine rl_end (ρ' := [(1, _), (2, _), (3, _), (4, _), (5, _), (9, _), (10, _), (11, _), (12, _), (13, _), (25, _), (26, _)]) ⟨rfl, rfl, rfl, rfl, rfl, rfl, rfl, rfl, rfl, rfl, rfl, rfl, trivial⟩ ?_
        refine q_then ?_
        refine wc_cond rfl (fun hb5 => ?_) (fun hb5 => ?_)
        ·
          have h5 := of_decide_eq_true hb5; have hY := hS h5
          refine wc_draw Tryd.mixed rfl [(9, _)] ⟨rfl, trivial⟩ ?_
          refine ra_y (i := 0) rfl (by kernel_rfl) (by kernel_rfl) (by kernel_rfl) (np_block (np_then (np_block (np_then (np_then (np_block (np_finO))))))) (y_field_p rfl Tryd.f42' rfl (by decide) rfl) rfl ?_
          refine ra_y (i := 1) rfl (by kernel_rfl) (by kernel_rfl) (by kernel_rfl) (np_block (np_then (np_block (np_then (np_then (np_block (np_finO))))))) (y_load_p rfl Tryd.k3 rfl rfl rfl (vs := [_]) rfl rfl rfl) rfl ?_
          refine ra_y (i := 3) rfl (by kernel_rfl) (by kernel_rfl) (by kernel_rfl) (np_block (np_then (np_block (np_then (np_then (np_block (np_finO))))))) (y_field_p rfl Tryd.f42' rfl (by decide) rfl) rfl ?_
          refine ra_y (i := 4) rfl (by kernel_rfl) (by kernel_rfl) (by kernel_rfl) (np_block (np_then (np_block (np_then (np_then (np_block (np_finO))))))) (y_load_p rfl Tryd.k36 rfl rfl rfl (vs := [_]) rfl rfl rfl) rfl ?_
          refine ra_do (i := 2) rfl rfl (by kernel_rfl) ?_
          refine do_call_o (caps := []) (ρ' := [(1, _), (2, _), (3, _), (4, _), (5, _), (9, _), (10, _), (11, _), (12, _), (13, _), (32, _)]) [1001] [] ⟨rfl, trivial⟩ rfl rfl rfl Tryd.c31 rfl rfl ⟨rfl, rfl, rfl, rfl, rfl, rfl, rfl, rfl, rfl, rfl, rfl, trivial⟩ rfl rfl rfl (FnO.mono (next_fn X.f lv b4 (fun j ↦ Nat.le_trans (hXf j) (by omega)) _ (by first | exact hT | exact hT.mono hleC)) ?_)
          rintro v uN l1 hleN ⟨rfl, rfl⟩ -
          refine ⟨⟨fun _ h => h, trivial⟩, ?_⟩
          refine ra_y (i := 6) rfl (by kernel_rfl) (by kernel_rfl) (by kernel_rfl) (np_block (np_then (np_block (np_then (np_then (np_block (np_finO))))))) (y_field_p rfl Tryd.f38' rfl (by decide) rfl) rfl ?_
          refine ra_do (i := 5) rfl rfl (by kernel_rfl) ?_
          refine do_call (caps := []) ⟨rfl, trivial⟩ rfl rfl Tryd.c32 rfl (FnP.mono (copyLine_fn (szI line) _ line _ (Nat.le_refl _) (by omega) hsm1.2.2.2.2.1 (by first | exact s3 | exact s3.mono hleN)) ?_)
          rintro v uC hle0 ⟨ccs, ⟨cad, ccap, rfl, hq1⟩, hq2⟩ hleC
          refine ra_do (i := 7) rfl rfl (by kernel_rfl) ?_
          refine do_store_p ⟨rfl, trivial⟩ rfl Tryd.k9 rfl rfl rfl (vs := [_]) rfl rfl (by first | rfl | exact oneAll | exact oneAll2 | simp [Value.oneCell', str]) (Nat.le_of_ble_eq_true rfl) rfl ?_
          refine ra_y (i := 8) rfl (by kernel_rfl) (by kernel_rfl) (by kernel_rfl) (np_block (np_then (np_block (np_then (np_then (np_block (np_finO))))))) (y_field_p rfl Tryd.f38' rfl (by decide) rfl) rfl ?_
          refine ra_do (i := 9) rfl rfl (by kernel_rfl) ?_
          refine do_store_p ⟨rfl, trivial⟩ rfl Tryd.k36 rfl rfl rfl (vs := [_]) rfl rfl (by first | rfl | exact oneAll | exact oneAll2 | simp [Value.oneCell', str]) (Nat.le_of_ble_eq_true rfl) rfl ?_
          refine ra_end (by kernel_rfl) (ρ' := [(1, _), (2, _), (3, _), (4, _), (5, _), (9, _), (10, _), (11, _), (12, _), (13, _)]) ⟨rfl, rfl, rfl, rfl, rfl, rfl, rfl, rfl, rfl, rfl, trivial⟩ ?_
          refine q_block ?_
          refine q_thenK ?_
          first
            | (refine ⟨[(1, _), (2, _), (3, _), (4, _), (5, _), (9, _), (10, _), (11, _), (12, _), (13, _)], [(9, _), (10, _), (1000, _), (1001, _), (1002, _), (1003, _), (1004, _), (1005, _), (1006, _)], ⟨rfl, rfl, rfl, rfl, rfl, rfl, rfl, rfl, rfl, rfl, trivial⟩, ⟨rfl, rfl, rfl, rfl, rfl, rfl, rfl, rfl, rfl, trivial⟩, _, line, cad, ccap, ki, (by first | exact hleN.trans hleC | exact hleC.trans hleN), (by rw [hY]; first | done | rfl), rfl, ?_⟩
               (rw [hY]; refine ⟨by first | exact inlS_of rfl hq1 hq2 | exact (inlS_of rfl hq1 hq2).mono hleN, hMi, .inr ⟨by rw [h5]; decide, by rw [h5]⟩⟩))
            | (refine ⟨[(1, _), (2, _), (3, _), (4, _), (5, _), (9, _), (10, _), (11, _), (12, _), (13, _)], [(9, _), (10, _), (1000, _), (1001, _), (1002, _), (1003, _), (1004, _), (1005, _), (1006, _)], ⟨rfl, rfl, rfl, rfl, rfl, rfl, rfl, rfl, rfl, rfl, trivial⟩, ⟨rfl, rfl, rfl, rfl, rfl, rfl, rfl, rfl, rfl, trivial⟩, _, capOf kids, cad, ccap, k2, (by first | exact hleN.trans hleC | exact hleC.trans hleN), (by rw [hY]; first | done | rfl), rfl, ?_⟩
               (rw [hY]; refine ⟨by first | exact inlS_of rfl hq1 hq2 | exact (inlS_of rfl hq1 hq2).mono hleN, (by rw [← hup]; exact hM2), .inr ⟨hK0, by rw [hck]⟩⟩))
            | (refine ⟨[(1, _), (2, _), (3, _), (4, _), (5, _), (9, _), (10, _), (11, _), (12, _), (13, _)], [(9, _), (10, _), (1000, _), (1001, _), (1002, _), (1003, _), (1004, _), (1005, _), (1006, _)], ⟨rfl, rfl, rfl, rfl, rfl, rfl, rfl, rfl, rfl, rfl, trivial⟩, ⟨rfl, rfl, rfl, rfl, rfl, rfl, rfl, rfl, rfl, trivial⟩, _, [], none, 0, k2, hleN, (by rw [hY]; first | done | rfl), rfl, ?_⟩
               (rw [hY]; refine ⟨nilInl _, (by rw [← hup]; exact hM2), .inr ⟨hK0, by rw [hck]⟩⟩))
            | (refine ⟨[(1, _), (2, _), (3, _), (4, _), (5, _), (9, _), (10, _), (11, _), (12, _), (13, _)], [(9, _), (10, _), (1000, _), (1001, _), (1002, _), (1003, _), (1004, _), (1005, _), (1006, _)], ⟨rfl, rfl, rfl, rfl, rfl, rfl, rfl, rfl, rfl, rfl, trivial⟩, ⟨rfl, rfl, rfl, rfl, rfl, rfl, rfl, rfl, rfl, trivial⟩, [], [], none, 0, ki, (VLe.refl _), (by rw [hY]; first | done | rfl), rfl, ?_⟩
               (rw [hY]; exact ⟨nilInl _, hMi, .inl ⟨hK0, rfl⟩⟩))
        ·
          have h5 := of_decide_eq_false hb5
          refine wc_cut (fun ρ σ uci9 => VLe u' uci9 ∧ σ = [(9, (none, .box (blkV k lv inf t d ti a.id vc vp (.slice lad line.length lcap) (.slice kad kids.length kcap)))), (10, (none, .box [str a.id, str K, str [], .slice none 0 0])), (1000, (some b3, .box [.slice ai X.out.length ci])), (1001, (some b4, .box (arr 6 fun j => X.f (j + 1)))), (1002, (some b5, .box [.map (some bm)])), (1003, (some bm, .mp ki)), (1004, (some b6, .box [cntV b5])), (1005, (some b7, .box [visV b4 b6 b3 b7])), (1006, (none, .rwv (.slice ai X.out.length ci) 38 4 X.out.length li))] ∧ ρ = [(1, .v (.bool free)), (2, .p 1001 0), (3, .p 1004 0), (4, .p 1000 0), (5, .p 1005 0), (9, .p 9 0), (10, .p 10 0), (11, .v (.slice ad bs.length cap)), (12, .v (.int .i64 bs.length)), (13, .v (.int .i64 i)), (25, .v (str K)), (36, .v (.bool (decide (K = figS ∨ K = tabS))))] ∧ (u' = uci9)) ?_ ?_
          ·
            refine wc_seq ?_
            refine wc_region ?_
            refine rl_y (y_str_eql rfl rfl rfl) rfl ?_
            refine rl_y (y_assign rfl rfl) rfl ?_
            refine rl_end (ρ' := [(1, _), (2, _), (3, _), (4, _), (5, _), (9, _), (10, _), (11, _), (12, _), (13, _), (25, _), (36, _)]) ⟨rfl, rfl, rfl, rfl, rfl, rfl, rfl, rfl, rfl, rfl, rfl, rfl, trivial⟩ ?_
            refine q_then ?_
            refine wc_cond rfl (fun hb7 => ?_) (fun hb7 => ?_)
            ·
              refine wc_skip ?_
              refine q_thenK ?_
              refine ⟨[(1, _), (2, _), (3, _), (4, _), (5, _), (9, _), (10, _), (11, _), (12, _), (13, _), (25, _), (36, _)], [(9, _), (10, _), (1000, _), (1001, _), (1002, _), (1003, _), (1004, _), (1005, _), (1006, _)], ⟨rfl, rfl, rfl, rfl, rfl, rfl, rfl, rfl, rfl, rfl, rfl, rfl, trivial⟩, ⟨rfl, rfl, rfl, rfl, rfl, rfl, rfl, rfl, rfl, trivial⟩, (VLe.refl _), rfl, (by first | (have h7 := of_decide_eq_true hb7; simp [h7]; done) | (have h7 := of_decide_eq_false hb7; simp [h7]; done)), ?_⟩
              rfl
            ·
              refine wc_region ?_
              refine rl_y (y_str_eql rfl rfl rfl) rfl ?_
              refine rl_y (y_assign rfl rfl) rfl ?_
              refine rl_end (ρ' := [(1, _), (2, _), (3, _), (4, _), (5, _), (9, _), (10, _), (11, _), (12, _), (13, _), (25, _), (36, _)]) ⟨rfl, rfl, rfl, rfl, rfl, rfl, rfl, rfl, rfl, rfl, rfl, rfl, trivial⟩ ?_
              refine q_thenK ?_
              refine ⟨[(1, _), (2, _), (3, _), (4, _), (5, _), (9, _), (10, _), (11, _), (12, _), (13, _), (25, _), (36, _)], [(9, _), (10, _), (1000, _), (1001, _), (1002, _), (1003, _), (1004, _), (1005, _), (1006, _)], ⟨rfl, rfl, rfl, rfl, rfl, rfl, rfl, rfl, rfl, rfl, rfl, rfl, trivial⟩, ⟨rfl, rfl, rfl, rfl, rfl, rfl, rfl, rfl, rfl, trivial⟩, (VLe.refl _), rfl, (by first | (have h7 := of_decide_eq_true hb7; simp [h7]; done) | (have h7 := of_decide_eq_false hb7; simp [h7]; done)), ?_⟩
              rfl
          ·
            rintro ρ σ uci9 ⟨hlci9, rfl, rfl, rfl⟩
            refine wc_cond rfl (fun hb8 => ?_) (fun hb8 => ?_)
            ·
              obtain ⟨n, hn1, hn3, hKn, hY⟩ := hFT (of_decide_eq_true hb8); have hck : cOf X.g 0 K = X.g n := (by rw [hKn]; exact cOf_kind hn1 hn3); have hup : upC (cOf X.g 0) K = cOf (setF X.g n (X.g n + 1)) 0 := (by rw [hKn]; exact cOf_up hn1 hn3); have hgn := hXg n; have hK0 : K ≠ [] := (by rcases of_decide_eq_true hb8 with h | h <;> rw [h] <;> decide)
              refine wc_draw Tryd.mixed rfl [(9, _), (1004, _)] ⟨rfl, rfl, trivial⟩ ?_
              refine ra_y (i := 0) rfl (by kernel_rfl) (by kernel_rfl) (by kernel_rfl) (np_block (np_then (np_block (np_then (np_then (np_block (np_finO))))))) (y_load_p rfl Tryd.k64 rfl rfl rfl (vs := [_]) rfl rfl rfl) rfl ?_
              refine ra_y (i := 1) rfl (by kernel_rfl) (by kernel_rfl) (by kernel_rfl) (np_block (np_then (np_block (np_then (np_then (np_block (np_finO))))))) (y_field_p rfl Tryd.f38' rfl (by decide) rfl) rfl ?_
              refine ra_y (i := 4) rfl (by kernel_rfl) (by kernel_rfl) (by kernel_rfl) (np_block (np_then (np_block (np_then (np_then (np_block (np_finO))))))) (y_field_p rfl Tryd.f42' rfl (by decide) rfl) rfl ?_
              refine ra_y (i := 5) rfl (by kernel_rfl) (by kernel_rfl) (by kernel_rfl) (np_block (np_then (np_block (np_then (np_then (np_block (np_finO))))))) (y_load_p rfl Tryd.k23 rfl rfl rfl (vs := [_]) rfl rfl rfl) rfl ?_
              refine ra_do (i := 2) rfl rfl (by kernel_rfl) ?_
              refine do_y (y_load_p rfl Tryd.k9 rfl rfl rfl (vs := [_]) rfl rfl rfl) rfl ?_
              refine ra_do (i := 3) rfl rfl (by kernel_rfl) ?_
              refine do_call_o (caps := [.pointer (some ⟨b5, 0, none⟩)]) (ρ' := [(1, _), (2, _), (3, _), (4, _), (5, _), (9, _), (10, _), (11, _), (12, _), (13, _), (44, _)]) [1002, 1003] [] ⟨rfl, rfl, trivial⟩ rfl rfl rfl Tryd.c27 rfl rfl ⟨rfl, rfl, rfl, rfl, rfl, rfl, rfl, rfl, rfl, rfl, rfl, trivial⟩ rfl rfl rfl (FnO.mono (count_fn b5 bm ki (cOf X.g 0) K (by rw [hck]; omega) _ (by first | exact hT | exact hT.mono hleC) hMi) ?_)
              rintro v uN l1 hleN ⟨rfl, k2, rfl, hM2⟩ -
              refine ⟨⟨fun _ h => h, fun _ h => h, trivial⟩, ?_⟩
              refine ra_y (i := 7) rfl (by kernel_rfl) (by kernel_rfl) (by kernel_rfl) (np_block (np_then (np_block (np_then (np_then (np_block (np_finO))))))) (y_field_p rfl Tryd.f38' rfl (by decide) rfl) rfl ?_
              refine ra_do (i := 6) rfl rfl (by kernel_rfl) ?_
              refine do_call (caps := []) ⟨rfl, rfl, trivial⟩ rfl rfl Tryd.c33 rfl (FnP.mono (countCaption_fn _ kids (by omega) hsm1.2.2.2.2.2 _ (by first | exact s4 | exact s4.mono hleN)) ?_)
              rintro v uC hle0 ⟨ccs, ⟨cad, ccap, rfl, hq1⟩, hq2⟩ hleC
              refine ra_do (i := 8) rfl rfl (by kernel_rfl) ?_
              refine do_store_p ⟨rfl, rfl, trivial⟩ rfl Tryd.k9 rfl rfl rfl (vs := [_]) rfl rfl (by first | rfl | exact oneAll | exact oneAll2 | simp [Value.oneCell', str]) (Nat.le_of_ble_eq_true rfl) rfl ?_
              refine ra_y (i := 9) rfl (by kernel_rfl) (by kernel_rfl) (by kernel_rfl) (np_block (np_then (np_block (np_then (np_then (np_block (np_finO))))))) (y_field_p rfl Tryd.f38' rfl (by decide) rfl) rfl ?_
              refine ra_do (i := 10) rfl rfl (by kernel_rfl) ?_
              refine do_store_p ⟨rfl, rfl, trivial⟩ rfl Tryd.k36 rfl rfl rfl (vs := [_]) rfl rfl (by first | rfl | exact oneAll | exact oneAll2 | simp [Value.oneCell', str]) (Nat.le_of_ble_eq_true rfl) rfl ?_
              refine ra_end (by kernel_rfl) (ρ' := [(1, _), (2, _), (3, _), (4, _), (5, _), (9, _), (10, _), (11, _), (12, _), (13, _)]) ⟨rfl, rfl, rfl, rfl, rfl, rfl, rfl, rfl, rfl, rfl, trivial⟩ ?_
              refine q_block ?_
              refine q_thenK ?_
              first
                | (refine ⟨[(1, _), (2, _), (3, _), (4, _), (5, _), (9, _), (10, _), (11, _), (12, _), (13, _)], [(9, _), (10, _), (1000, _), (1001, _), (1002, _), (1003, _), (1004, _), (1005, _), (1006, _)], ⟨rfl, rfl, rfl, rfl, rfl, rfl, rfl, rfl, rfl, rfl, trivial⟩, ⟨rfl, rfl, rfl, rfl, rfl, rfl, rfl, rfl, rfl, trivial⟩, _, line, cad, ccap, ki, (by first | exact hleN.trans hleC | exact hleC.trans hleN), (by rw [hY]; first | done | rfl), rfl, ?_⟩
                   (rw [hY]; refine ⟨by first | exact inlS_of rfl hq1 hq2 | exact (inlS_of rfl hq1 hq2).mono hleN, hMi, .inr ⟨by rw [h5]; decide, by rw [h5]⟩⟩))
                | (refine ⟨[(1, _), (2, _), (3, _), (4, _), (5, _), (9, _), (10, _), (11, _), (12, _), (13, _)], [(9, _), (10, _), (1000, _), (1001, _), (1002, _), (1003, _), (1004, _), (1005, _), (1006, _)], ⟨rfl, rfl, rfl, rfl, rfl, rfl, rfl, rfl, rfl, rfl, trivial⟩, ⟨rfl, rfl, rfl, rfl, rfl, rfl, rfl, rfl, rfl, trivial⟩, _, capOf kids, cad, ccap, k2, (by first | exact hleN.trans hleC | exact hleC.trans hleN), (by rw [hY]; first | done | rfl), rfl, ?_⟩
                   (rw [hY]; refine ⟨by first | exact inlS_of rfl hq1 hq2 | exact (inlS_of rfl hq1 hq2).mono hleN, (by rw [← hup]; exact hM2), .inr ⟨hK0, by rw [hck]⟩⟩))
                | (refine ⟨[(1, _), (2, _), (3, _), (4, _), (5, _), (9, _), (10, _), (11, _), (12, _), (13, _)], [(9, _), (10, _), (1000, _), (1001, _), (1002, _), (1003, _), (1004, _), (1005, _), (1006, _)], ⟨rfl, rfl, rfl, rfl, rfl, rfl, rfl, rfl, rfl, rfl, trivial⟩, ⟨rfl, rfl, rfl, rfl, rfl, rfl, rfl, rfl, rfl, trivial⟩, _, [], none, 0, k2, hleN, (by rw [hY]; first | done | rfl), rfl, ?_⟩
                   (rw [hY]; refine ⟨nilInl _, (by rw [← hup]; exact hM2), .inr ⟨hK0, by rw [hck]⟩⟩))
                | (refine ⟨[(1, _), (2, _), (3, _), (4, _), (5, _), (9, _), (10, _), (11, _), (12, _), (13, _)], [(9, _), (10, _), (1000, _), (1001, _), (1002, _), (1003, _), (1004, _), (1005, _), (1006, _)], ⟨rfl, rfl, rfl, rfl, rfl, rfl, rfl, rfl, rfl, rfl, trivial⟩, ⟨rfl, rfl, rfl, rfl, rfl, rfl, rfl, rfl, rfl, trivial⟩, [], [], none, 0, ki, (VLe.refl _), (by rw [hY]; first | done | rfl), rfl, ?_⟩
                   (rw [hY]; exact ⟨nilInl _, hMi, .inl ⟨hK0, rfl⟩⟩))
            ·
              have h8 := of_decide_eq_false hb8
              refine wc_seq ?_
              refine wc_region ?_
              refine rl_y (y_str_eql rfl rfl rfl) rfl ?_
              refine rl_y (y_assign rfl rfl) rfl ?_
              refine rl_end (ρ' := [(1, _), (2, _), (3, _), (4, _), (5, _), (9, _), (10, _), (11, _), (12, _), (13, _), (48, _)]) ⟨rfl, rfl, rfl, rfl, rfl, rfl, rfl, rfl, rfl, rfl, rfl, trivial⟩ ?_
              refine q_then ?_
              refine wc_cond rfl (fun hb10 => ?_) (fun hb10 => ?_)
              ·
                have h10 := of_decide_eq_true hb10; have hY := hE h10; have hg3 := hXg 3; have hck : cOf X.g 0 K = X.g 3 := (by rw [h10]; rfl); have hup : upC (cOf X.g 0) K = cOf (setF X.g 3 (X.g 3 + 1)) 0 := (by rw [h10]; exact cOf_up (n := 3) (by decide) (by decide)); have hK0 : K ≠ [] := (by rw [h10]; decide)
                refine wc_region ?_
                refine rl_y (y_load_p rfl Tryd.k64 rfl rfl rfl (vs := [_]) rfl rfl rfl) rfl ?_
                refine rl_y (y_field_p rfl Tryd.f38' rfl (by decide) rfl) rfl ?_
                refine rl_y (y_load_p rfl Tryd.k9 rfl rfl rfl (vs := [_]) rfl rfl rfl) rfl ?_
                refine rl_do rfl rfl ?_
                refine do_call_o (caps := [.pointer (some ⟨b5, 0, none⟩)]) (ρ' := [(1, _), (2, _), (3, _), (4, _), (5, _), (9, _), (10, _), (11, _), (12, _), (13, _)]) [1002, 1003] [] trivial rfl rfl rfl Tryd.c27 rfl rfl ⟨rfl, rfl, rfl, rfl, rfl, rfl, rfl, rfl, rfl, rfl, trivial⟩ rfl rfl rfl (FnO.mono (count_fn b5 bm ki (cOf X.g 0) K (by rw [hck]; omega) _ hT hMi) ?_)
                rintro v uN l1 hleN ⟨rfl, k2, rfl, hM2⟩ -
                refine ⟨⟨fun _ h => h, fun _ h => h, trivial⟩, ?_⟩
                refine rl_y (y_field_p rfl Tryd.f38' rfl (by decide) rfl) rfl ?_
                refine rl_do rfl rfl ?_
                refine do_store_p trivial rfl Tryd.k9 rfl rfl rfl (vs := [_]) rfl rfl (by first | rfl | exact oneAll | exact oneAll2 | simp [Value.oneCell', str]) (Nat.le_of_ble_eq_true rfl) rfl ?_
                refine rl_end (ρ' := [(1, _), (2, _), (3, _), (4, _), (5, _), (9, _), (10, _), (11, _), (12, _), (13, _)]) ⟨rfl, rfl, rfl, rfl, rfl, rfl, rfl, rfl, rfl, rfl, trivial⟩ ?_
                refine q_block ?_
                refine q_thenK ?_
                first
                  | (refine ⟨[(1, _), (2, _), (3, _), (4, _), (5, _), (9, _), (10, _), (11, _), (12, _), (13, _)], [(9, _), (10, _), (1000, _), (1001, _), (1002, _), (1003, _), (1004, _), (1005, _), (1006, _)], ⟨rfl, rfl, rfl, rfl, rfl, rfl, rfl, rfl, rfl, rfl, trivial⟩, ⟨rfl, rfl, rfl, rfl, rfl, rfl, rfl, rfl, rfl, trivial⟩, _, line, cad, ccap, ki, (by first | exact hleN.trans hleC | exact hleC.trans hleN), (by rw [hY]; first | done | rfl), rfl, ?_⟩
                     (rw [hY]; refine ⟨by first | exact inlS_of rfl hq1 hq2 | exact (inlS_of rfl hq1 hq2).mono hleN, hMi, .inr ⟨by rw [h5]; decide, by rw [h5]⟩⟩))
                  | (refine ⟨[(1, _), (2, _), (3, _), (4, _), (5, _), (9, _), (10, _), (11, _), (12, _), (13, _)], [(9, _), (10, _), (1000, _), (1001, _), (1002, _), (1003, _), (1004, _), (1005, _), (1006, _)], ⟨rfl, rfl, rfl, rfl, rfl, rfl, rfl, rfl, rfl, rfl, trivial⟩, ⟨rfl, rfl, rfl, rfl, rfl, rfl, rfl, rfl, rfl, trivial⟩, _, capOf kids, cad, ccap, k2, (by first | exact hleN.trans hleC | exact hleC.trans hleN), (by rw [hY]; first | done | rfl), rfl, ?_⟩
                     (rw [hY]; refine ⟨by first | exact inlS_of rfl hq1 hq2 | exact (inlS_of rfl hq1 hq2).mono hleN, (by rw [← hup]; exact hM2), .inr ⟨hK0, by rw [hck]⟩⟩))
                  | (refine ⟨[(1, _), (2, _), (3, _), (4, _), (5, _), (9, _), (10, _), (11, _), (12, _), (13, _)], [(9, _), (10, _), (1000, _), (1001, _), (1002, _), (1003, _), (1004, _), (1005, _), (1006, _)], ⟨rfl, rfl, rfl, rfl, rfl, rfl, rfl, rfl, rfl, rfl, trivial⟩, ⟨rfl, rfl, rfl, rfl, rfl, rfl, rfl, rfl, rfl, trivial⟩, _, [], none, 0, k2, hleN, (by rw [hY]; first | done | rfl), rfl, ?_⟩
                     (rw [hY]; refine ⟨nilInl _, (by rw [← hup]; exact hM2), .inr ⟨hK0, by rw [hck]⟩⟩))
                  | (refine ⟨[(1, _), (2, _), (3, _), (4, _), (5, _), (9, _), (10, _), (11, _), (12, _), (13, _)], [(9, _), (10, _), (1000, _), (1001, _), (1002, _), (1003, _), (1004, _), (1005, _), (1006, _)], ⟨rfl, rfl, rfl, rfl, rfl, rfl, rfl, rfl, rfl, rfl, trivial⟩, ⟨rfl, rfl, rfl, rfl, rfl, rfl, rfl, rfl, rfl, trivial⟩, [], [], none, 0, ki, (VLe.refl _), (by rw [hY]; first | done | rfl), rfl, ?_⟩
                     (rw [hY]; exact ⟨nilInl _, hMi, .inl ⟨hK0, rfl⟩⟩))
              ·
                obtain ⟨hK0, hY⟩ := hN h5 (fun h => h8 (.inl h)) (fun h => h8 (.inr h)) (of_decide_eq_false hb10)
                refine wc_skip ?_
                refine q_block ?_
                refine q_thenK ?_
                first
                  | (refine ⟨[(1, _), (2, _), (3, _), (4, _), (5, _), (9, _), (10, _), (11, _), (12, _), (13, _)], [(9, _), (10, _), (1000, _), (1001, _), (1002, _), (1003, _), (1004, _), (1005, _), (1006, _)], ⟨rfl, rfl, rfl, rfl, rfl, rfl, rfl, rfl, rfl, rfl, trivial⟩, ⟨rfl, rfl, rfl, rfl, rfl, rfl, rfl, rfl, rfl, trivial⟩, _, line, cad, ccap, ki, (by first | exact hleN.trans hleC | exact hleC.trans hleN), (by rw [hY]; first | done | rfl), rfl, ?_⟩
                     (rw [hY]; refine ⟨by first | exact inlS_of rfl hq1 hq2 | exact (inlS_of rfl hq1 hq2).mono hleN, hMi, .inr ⟨by rw [h5]; decide, by rw [h5]⟩⟩))
                  | (refine ⟨[(1, _), (2, _), (3, _), (4, _), (5, _), (9, _), (10, _), (11, _), (12, _), (13, _)], [(9, _), (10, _), (1000, _), (1001, _), (1002, _), (1003, _), (1004, _), (1005, _), (1006, _)], ⟨rfl, rfl, rfl, rfl, rfl, rfl, rfl, rfl, rfl, rfl, trivial⟩, ⟨rfl, rfl, rfl, rfl, rfl, rfl, rfl, rfl, rfl, trivial⟩, _, capOf kids, cad, ccap, k2, (by first | exact hleN.trans hleC | exact hleC.trans hleN), (by rw [hY]; first | done | rfl), rfl, ?_⟩
                     (rw [hY]; refine ⟨by first | exact inlS_of rfl hq1 hq2 | exact (inlS_of rfl hq1 hq2).mono hleN, (by rw [← hup]; exact hM2), .inr ⟨hK0, by rw [hck]⟩⟩))
                  | (refine ⟨[(1, _), (2, _), (3, _), (4, _), (5, _), (9, _), (10, _), (11, _), (12, _), (13, _)], [(9, _), (10, _), (1000, _), (1001, _), (1002, _), (1003, _), (1004, _), (1005, _), (1006, _)], ⟨rfl, rfl, rfl, rfl, rfl, rfl, rfl, rfl, rfl, rfl, trivial⟩, ⟨rfl, rfl, rfl, rfl, rfl, rfl, rfl, rfl, rfl, trivial⟩, _, [], none, 0, k2, hleN, (by rw [hY]; first | done | rfl), rfl, ?_⟩
                     (rw [hY]; refine ⟨nilInl _, (by rw [← hup]; exact hM2), .inr ⟨hK0, by rw [hck]⟩⟩))
                  | (refine ⟨[(1, _), (2, _), (3, _), (4, _), (5, _), (9, _), (10, _), (11, _), (12, _), (13, _)], [(9, _), (10, _), (1000, _), (1001, _), (1002, _), (1003, _), (1004, _), (1005, _), (1006, _)], ⟨rfl, rfl, rfl, rfl, rfl, rfl, rfl, rfl, rfl, rfl, trivial⟩, ⟨rfl, rfl, rfl, rfl, rfl, rfl, rfl, rfl, rfl, trivial⟩, [], [], none, 0, ki, (VLe.refl _), (by rw [hY]; first | done | rfl), rfl, ?_⟩
                     (rw [hY]; exact ⟨nilInl _, hMi, .inl ⟨hK0, rfl⟩⟩))
      ·
        rintro ρ σ uc12 ⟨V, L, qad, qcap, k2, hlc12, rfl, rfl, ⟨hL, hM2, hKY⟩⟩
        refine wc_cut (fun ρ σ uc14 => ∃ (a5 : Option Addr) (c5 : Nat) (l5 : List Value), VLe uc12 uc14 ∧ σ = [(9, (none, .box (blkV k lv inf t d ti a.id vc vp (.slice lad line.length lcap) (.slice kad kids.length kcap)))), (1000, (some b3, .box [.slice a5 Y.out.length c5])), (1001, (some b4, .box (arr 6 fun j => Y.f (j + 1)))), (1002, (some b5, .box [.map (some bm)])), (1003, (some bm, .mp k2)), (1004, (some b6, .box [cntV b5])), (1005, (some b7, .box [visV b4 b6 b3 b7])), (1006, (none, .rwv (.slice a5 Y.out.length c5) 38 4 Y.out.length l5))] ∧ ρ = [(1, .v (.bool free)), (2, .p 1001 0), (3, .p 1004 0), (4, .p 1000 0), (5, .p 1005 0), (9, .p 9 0), (11, .v (.slice ad bs.length cap)), (12, .v (.int .i64 bs.length)), (13, .v (.int .i64 i))] ∧ (uc12 = uc14 ∧ NumsC uc12 Y.out l5)) ?_ ?_
        ·
          refine wc_seq ?_
          refine wc_region ?_
          refine rl_y (y_field_p rfl Tryd.f38' rfl (by decide) rfl) rfl ?_
          refine rl_y (y_load_p rfl Tryd.k9 rfl rfl rfl (vs := [_]) rfl rfl rfl) rfl ?_
          refine rl_y (y_str_neq rfl rfl rfl) rfl ?_
          refine rl_end (ρ' := [(1, _), (2, _), (3, _), (4, _), (5, _), (9, _), (10, _), (11, _), (12, _), (13, _), (57, _)]) ⟨rfl, rfl, rfl, rfl, rfl, rfl, rfl, rfl, rfl, rfl, rfl, trivial⟩ ?_
          refine q_then ?_
          refine wc_cond rfl (fun hb12 => ?_) (fun hb12 => ?_)
          ·
            have h12 := of_decide_eq_true hb12; have hYo : Y.out = X.out ++ [⟨a.id, K, V, L⟩] := hKY.elim (fun h => absurd h.1 h12) (fun h => h.2)
            refine wc_region ?_
            refine rl_y (y_load_p rfl Tryd.k29 rfl rfl rfl (vs := [_]) rfl rfl rfl) rfl ?_
            refine rl_y (y_load_p rfl Tryd.k38 rfl rfl rfl (vs := [_, _, _, _]) rfl rfl rfl) rfl ?_
            refine rl_do rfl rfl ?_
            refine do_buildSlice trivial Tryd.s29 Tryd.z38 (ps := [(_, _)]) rfl (xs := [_, _, _, _]) rfl rfl rfl rfl rfl rfl rfl ?_
            refine rl_do rfl rfl ?_
            refine do_append_w_s 1006 trivial rfl rfl Tryd.s29 Tryd.z38 rfl rfl rfl rfl rfl rfl (by simp [Value.oneCell', str]) (by omega) (by omega) rfl rfl ?_
            intro a4 c4
            refine rl_do rfl rfl ?_
            refine do_store_p trivial rfl Tryd.k29 rfl rfl rfl (vs := [_]) rfl rfl (by first | rfl | exact oneAll | exact oneAll2 | simp [Value.oneCell', str]) (Nat.le_of_ble_eq_true rfl) rfl ?_
            refine rl_end (ρ' := [(1, _), (2, _), (3, _), (4, _), (5, _), (9, _), (11, _), (12, _), (13, _)]) ⟨rfl, rfl, rfl, rfl, rfl, rfl, rfl, rfl, rfl, trivial⟩ ?_
            refine q_thenK ?_
            first
              | (refine ⟨[(1, _), (2, _), (3, _), (4, _), (5, _), (9, _), (11, _), (12, _), (13, _)], [(9, _), (1000, _), (1001, _), (1002, _), (1003, _), (1004, _), (1005, _), (1006, _)], ⟨rfl, rfl, rfl, rfl, rfl, rfl, rfl, rfl, rfl, trivial⟩, ⟨rfl, rfl, rfl, rfl, rfl, rfl, rfl, rfl, trivial⟩, a4, c4, li ++ [str a.id, str K, str V, .slice qad L.length qcap], (VLe.refl _), (by rw [hYo]; first | done | rfl | (simp only [List.length_append]; rfl)), rfl, ?_⟩
                 (rw [hYo]; exact ⟨rfl, (hai.mono hlc12).snoc ⟨_, rfl, hL⟩⟩))
              | (refine ⟨[(1, _), (2, _), (3, _), (4, _), (5, _), (9, _), (11, _), (12, _), (13, _)], [(9, _), (1000, _), (1001, _), (1002, _), (1003, _), (1004, _), (1005, _), (1006, _)], ⟨rfl, rfl, rfl, rfl, rfl, rfl, rfl, rfl, rfl, trivial⟩, ⟨rfl, rfl, rfl, rfl, rfl, rfl, rfl, rfl, trivial⟩, ai, ci, li, (VLe.refl _), (by rw [hYo]; first | done | rfl | (simp only [List.length_append]; rfl)), rfl, ?_⟩
                 (rw [hYo]; exact ⟨rfl, hai.mono hlc12⟩))
          ·
            have h12 := of_decide_eq_false hb12; have hYo : Y.out = X.out := hKY.elim (fun h => h.2) (fun h => absurd (Decidable.of_not_not h12) h.1)
            refine wc_skip ?_
            refine q_thenK ?_
            first
              | (refine ⟨[(1, _), (2, _), (3, _), (4, _), (5, _), (9, _), (11, _), (12, _), (13, _)], [(9, _), (1000, _), (1001, _), (1002, _), (1003, _), (1004, _), (1005, _), (1006, _)], ⟨rfl, rfl, rfl, rfl, rfl, rfl, rfl, rfl, rfl, trivial⟩, ⟨rfl, rfl, rfl, rfl, rfl, rfl, rfl, rfl, trivial⟩, a4, c4, li ++ [str a.id, str K, str V, .slice qad L.length qcap], (VLe.refl _), (by rw [hYo]; first | done | rfl | (simp only [List.length_append]; rfl)), rfl, ?_⟩
                 (rw [hYo]; exact ⟨rfl, (hai.mono hlc12).snoc ⟨_, rfl, hL⟩⟩))
              | (refine ⟨[(1, _), (2, _), (3, _), (4, _), (5, _), (9, _), (11, _), (12, _), (13, _)], [(9, _), (1000, _), (1001, _), (1002, _), (1003, _), (1004, _), (1005, _), (1006, _)], ⟨rfl, rfl, rfl, rfl, rfl, rfl, rfl, rfl, rfl, trivial⟩, ⟨rfl, rfl, rfl, rfl, rfl, rfl, rfl, rfl, trivial⟩, ai, ci, li, (VLe.refl _), (by rw [hYo]; first | done | rfl | (simp only [List.length_append]; rfl)), rfl, ?_⟩
                 (rw [hYo]; exact ⟨rfl, hai.mono hlc12⟩))
        ·
          rintro ρ σ uc14 ⟨a5, c5, l5, hlc14, rfl, rfl, ⟨rfl, ha5⟩⟩
          obtain ⟨q, hqf⟩ : ∃ q, q = free := ⟨_, rfl⟩
          have hqe : some (SV.v (.bool free)) = some (SV.v (.bool q)) := by rw [hqf]
          have hkf : kidsFree free k = (q && decide (k = 13)) := by rw [hqf]; unfold kidsFree; cases free <;> simp
          have h1 := h1.mono hlc12
          refine wc_region ?_
          refine rl_y (y_load_p rfl Tryd.k65 rfl rfl rfl (vs := [_]) rfl rfl rfl) rfl ?_
          refine rl_y (y_field_p rfl Tryd.f42' rfl (by decide) rfl) rfl ?_
          refine rl_y (y_load_p rfl Tryd.k23 rfl rfl rfl (vs := [_]) rfl rfl rfl) rfl ?_
          refine rl_y (y_move rfl rfl) rfl ?_
          refine rl_y (y_move rfl hqe) rfl ?_
          rcases Bool.eq_false_or_eq_true (q) with hg14_4 | hg14_4
          ·
            simp only [hg14_4]
            refine rl_on rfl rfl ?_
            refine rl_y (y_field_p rfl Tryd.f42' rfl (by decide) rfl) rfl ?_
            refine rl_on rfl rfl ?_
            refine rl_y (y_load_p rfl Tryd.k3 rfl rfl rfl (vs := [_]) rfl rfl rfl) rfl ?_
            refine rl_on rfl rfl ?_
            refine rl_y (y_eql rfl rfl rfl) rfl ?_
            refine rl_y (y_pick_t rfl rfl rfl) rfl ?_
            refine rl_do rfl rfl ?_
            refine do_call_o (caps := [.pointer (some ⟨b4, 0, none⟩), .pointer (some ⟨b6, 0, none⟩), .pointer (some ⟨b3, 0, none⟩), .pointer (some ⟨b7, 0, none⟩)]) (ρ' := [(1, _), (2, _), (3, _), (4, _), (5, _), (11, _), (12, _), (13, _)]) [1000, 1001, 1002, 1003, 1004, 1005, 1006] [] trivial rfl rfl rfl Tryd.c29 rfl rfl ⟨rfl, rfl, rfl, rfl, rfl, rfl, rfl, rfl, trivial⟩ rfl rfl rfl (FnO.mono (ih (szB kids) (by omega) _ kids _ Y a5 c5 l5 k2 (B + szB (List.take i bs) + 1) uc12 (hT.mono hlc12) (Nat.le_refl _) (by omega) hZl hsm1.2.2.2.2.2 (s4.mono hlc12) ha5 hM2) ?_)
            rintro v uR l1 hleR ⟨rfl, a6, c6, l6, k6, rfl, h6, hM6⟩ -
            refine ⟨⟨fun _ h => h, fun _ h => h, fun _ h => h, fun _ h => h, fun _ h => h, fun _ h => h, fun _ h => h, trivial⟩, ?_⟩
            refine rl_end (ρ' := [(1, _), (2, _), (3, _), (4, _), (5, _), (11, _), (12, _), (13, _)]) ⟨rfl, rfl, rfl, rfl, rfl, rfl, rfl, rfl, trivial⟩ ?_
            refine q_block ?_
            refine q_then ?_
            refine wc_region ?_
            refine rl_y (y_add rfl rfl rfl (wrap64_id (by omega))) rfl ?_
            refine rl_y (y_move rfl rfl) rfl ?_
            refine rl_end (ρ' := [(1, _), (2, _), (3, _), (4, _), (5, _), (11, _), (12, _), (13, _)]) ⟨rfl, rfl, rfl, rfl, rfl, rfl, rfl, rfl, trivial⟩ ?_
            refine q_thenK ?_
            refine ⟨m - 1, [(1, _), (2, _), (3, _), (4, _), (5, _), (11, _), (12, _), (13, _)], [(1000, _), (1001, _), (1002, _), (1003, _), (1004, _), (1005, _), (1006, _)], by omega, ⟨rfl, rfl, rfl, rfl, rfl, rfl, rfl, rfl, trivial⟩, ⟨rfl, rfl, rfl, rfl, rfl, rfl, rfl, trivial⟩, i + 1, by omega, (hle1.trans (hlc12.trans hleR)), a6, c6, l6, k6, (by simp only [hst, hkf, hg14_4, Bool.true_and, Bool.false_and]), (by first | rfl | simp), ?_⟩
            simp only [hst, hkf, hg14_4, Bool.true_and, Bool.false_and]
            exact ⟨h6, hM6⟩
          ·
            simp only [hg14_4]
            refine rl_off rfl rfl rfl rfl ?_
            refine rl_off rfl rfl rfl rfl ?_
            refine rl_off rfl rfl rfl rfl ?_
            refine rl_y (y_pick_f rfl rfl rfl) rfl ?_
            refine rl_do rfl rfl ?_
            refine do_call_o (caps := [.pointer (some ⟨b4, 0, none⟩), .pointer (some ⟨b6, 0, none⟩), .pointer (some ⟨b3, 0, none⟩), .pointer (some ⟨b7, 0, none⟩)]) (ρ' := [(1, _), (2, _), (3, _), (4, _), (5, _), (11, _), (12, _), (13, _)]) [1000, 1001, 1002, 1003, 1004, 1005, 1006] [] trivial rfl rfl rfl Tryd.c29 rfl rfl ⟨rfl, rfl, rfl, rfl, rfl, rfl, rfl, rfl, trivial⟩ rfl rfl rfl (FnO.mono (ih (szB kids) (by omega) _ kids _ Y a5 c5 l5 k2 (B + szB (List.take i bs) + 1) uc12 (hT.mono hlc12) (Nat.le_refl _) (by omega) hZl hsm1.2.2.2.2.2 (s4.mono hlc12) ha5 hM2) ?_)
            rintro v uR l1 hleR ⟨rfl, a6, c6, l6, k6, rfl, h6, hM6⟩ -
            refine ⟨⟨fun _ h => h, fun _ h => h, fun _ h => h, fun _ h => h, fun _ h => h, fun _ h => h, fun _ h => h, trivial⟩, ?_⟩
            refine rl_end (ρ' := [(1, _), (2, _), (3, _), (4, _), (5, _), (11, _), (12, _), (13, _)]) ⟨rfl, rfl, rfl, rfl, rfl, rfl, rfl, rfl, trivial⟩ ?_
            refine q_block ?_
            refine q_then ?_
            refine wc_region ?_
            refine rl_y (y_add rfl rfl rfl (wrap64_id (by omega))) rfl ?_
            refine rl_y (y_move rfl rfl) rfl ?_
            refine rl_end (ρ' := [(1, _), (2, _), (3, _), (4, _), (5, _), (11, _), (12, _), (13, _)]) ⟨rfl, rfl, rfl, rfl, rfl, rfl, rfl, rfl, trivial⟩ ?_
            refine q_thenK ?_
            refine ⟨m - 1, [(1, _), (2, _), (3, _), (4, _), (5, _), (11, _), (12, _), (13, _)], [(1000, _), (1001, _), (1002, _), (1003, _), (1004, _), (1005, _), (1006, _)], by omega, ⟨rfl, rfl, rfl, rfl, rfl, rfl, rfl, rfl, trivial⟩, ⟨rfl, rfl, rfl, rfl, rfl, rfl, rfl, trivial⟩, i + 1, by omega, (hle1.trans (hlc12.trans hleR)), a6, c6, l6, k6, (by simp only [hst, hkf, hg14_4, Bool.true_and, Bool.false_and]), (by first | rfl | simp), ?_⟩
            simp only [hst, hkf, hg14_4, Bool.true_and, Bool.false_and]
            exact ⟨h6, hM6⟩
    ·
      refine wc_exit ?_
      refine q_then_exit ?_
      refine q_then_exit ?_
      refine q_block_hit ?_
      refine finO0n [1000, 1001, 1002, 1003, 1004, 1005, 1006]  rfl rfl ?_
      have hge := of_decide_eq_false hb1
      rw [List.take_of_length_le (by omega)] at hai hMi ⊢
      exact ⟨rfl, _, _, _, _, rfl, hai, hMi⟩
end Go.Proofs.Ythnboadnehbciaa
