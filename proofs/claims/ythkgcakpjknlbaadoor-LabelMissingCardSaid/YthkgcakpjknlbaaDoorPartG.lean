/- Texts for a law, part 7: they walk the functions that the law reaches, and state what holds of them; without conditions beyond each theorem's own. -/
import Derived.Test.YthkgcakpjknlbaaDoorPartF
import Derived.Lib.LaidTab
import Derived.ChangeMaps5
namespace Go.Proofs.Ythkgcakpjknlbaa
open Go Go.Eng
set_option linter.unusedSimpArgs false
set_option linter.unusedVariables false
set_option maxRecDepth 4000
def namesI (xs : List Inl) : List Bs := xs.flatMap fun x => nz (idI x)
theorem namesI_take {xs : List Inl} {i : Nat} {x : Inl} (h : xs[i]? = some x) : namesI (xs.take (i + 1)) = namesI (xs.take i) ++ nz (idI x) := by
 obtain ⟨hlt, rfl⟩ := List.getElem?_eq_some_iff.1 h
 rw [List.take_succ_eq_append_getElem hlt]
 simp only [namesI, List.flatMap_append, List.flatMap_cons, List.flatMap_nil, List.append_nil]
theorem namesI_len (xs : List Inl) : (namesI xs).length ≤ xs.length := by
  induction xs with
  | nil => simp [namesI]
  | cons x l ih =>
    have h : (nz (idI x)).length ≤ 1 := by unfold nz; split <;> simp
    have e : namesI (x :: l) = nz (idI x) ++ namesI l := rfl
    rw [e, List.length_append, List.length_cons]; omega
theorem namesE_evI (xs : List Inl) : namesE (evI xs) = namesI (deep xs) := by simp [namesE, evI, namesI, List.flatMap_map, evId]
theorem namesL_take {L : List Blk} {i : Nat} {x : Blk} (h : L[i]? = some x) : namesE (evL (L.take (i + 1))) = namesE (evL (L.take i)) ++ nz (idB x) ++ namesI (deep (lineOf x)) := by
 rw [evL_take h, namesE_append, ← namesE_evI]
 simp [namesE, evId]
theorem evL_len_take (bs : List Blk) (i : Nat) : (evL ((listB bs).take i)).length ≤ szB bs := by
 have h : evL (listB bs) = evL ((listB bs).take i) ++ evL ((listB bs).drop i) := by rw [← evL_append, List.take_append_drop]
 have := evB_len bs
 unfold evB at this
 rw [h, List.length_append] at this
 omega
set_option maxHeartbeats 1000000 in
theorem refNames_fn (vm vb : Value) (bs : List Blk) (u : View) (hbig : szB bs ≤ 100000) (ha : BlkS u vb bs) :
    FnP Tryd.prog 12 [.agg #[vm, vb]] u fun r u' => StrS u' r (namesOf bs) := by
  have hll := listB_len bs
  have hls := szL_listB bs
  refine FnP.intro [.tmp 2] Tryd.func12 rfl rfl rfl ?_
  intro w0 D hw0
  refine wc_seq ?_
  refine wc_region ?_
  refine rl_do rfl rfl ?_
  refine do_box trivial rfl (cs := [_, _]) rfl rfl rfl rfl ?_
  refine rl_y (y_assign rfl rfl) rfl ?_
  refine rl_end (ρ' := [(1, _)]) ⟨rfl, trivial⟩ ?_
  refine q_then ?_
  refine wc_seq ?_
  refine wc_region ?_
  refine rl_y (y_assign rfl rfl) rfl ?_
  refine rl_own_nil 3 503 9 1 rfl rfl rfl ?_
  refine rl_end (ρ' := [(1, _), (3, _)]) ⟨rfl, rfl, trivial⟩ ?_
  refine q_then ?_
  refine wc_seq ?_
  refine wc_region ?_
  refine rl_y (y_field_p rfl Tryd.f25' rfl (by decide) rfl) rfl ?_
  refine rl_y (y_load_p rfl Tryd.k23 rfl rfl rfl (vs := [_]) rfl rfl rfl) rfl ?_
  refine rl_do rfl rfl ?_
  refine do_call (caps := []) trivial rfl rfl Tryd.c20 rfl (FnP.mono (list_fn _ vb bs u (Nat.le_refl _) (by omega) ha) ?_)
  rintro v uL hle0 ⟨cs, ⟨ad, cap, rfl, h1⟩, hc1⟩ hleL
  refine rl_y (y_assign rfl rfl) rfl ?_
  refine rl_end (ρ' := [(3, _), (4, _)]) ⟨rfl, rfl, trivial⟩ ?_
  refine q_then ?_
  refine wc_seq ?_
  refine wc_seq ?_
  refine wc_region ?_
  refine rl_y (y_assign rfl rfl) rfl ?_
  refine rl_end (ρ' := [(3, _), (4, _), (5, _)]) ⟨rfl, rfl, rfl, trivial⟩ ?_
  refine q_then ?_
  refine wc_block ?_
  refine wc_loop (fun m ρ σ u' => ∃ i : Nat, i + m = (listB bs).length ∧ VLe uL u' ∧ σ = [(503, (none, .row 9 1 (namesE (evL ((listB bs).take i))).length (strsC (namesE (evL ((listB bs).take i))))))] ∧ ρ = [(3, .s 503), (4, .v (.slice ad (listB bs).length cap)), (5, .v (.int .i64 i))] ∧ (True)) ((listB bs).length) ?_ ?_
  ·
    refine ⟨[(3, _), (4, _), (5, _)], [(503, _)], ⟨rfl, rfl, rfl, trivial⟩, ⟨rfl, trivial⟩, 0, by omega, VLe.refl _, (by first | rfl | simp), (by first | rfl | (simp only [List.cons.injEq, Prod.mk.injEq, SV.v.injEq, Value.int.injEq, true_and, and_true]; omega) | simp), ?_⟩
    trivial
  ·
    rintro m ρ σ u' ⟨i, hi4, hle4, rfl, rfl, _⟩
    have h1 := h1.mono hle4
    have hc1 := hc1.mono hle4
    refine wc_seq ?_
    refine wc_seq ?_
    refine wc_region ?_
    refine rl_y (y_move rfl rfl) rfl ?_
    refine rl_y (y_move rfl rfl) rfl ?_
    refine rl_y (y_len_v rfl rfl Tryd.s23 rfl) rfl ?_
    refine rl_y (y_lss rfl rfl rfl) rfl ?_
    refine rl_end (ρ' := [(3, _), (4, _), (5, _), (14, _)]) ⟨rfl, rfl, rfl, rfl, trivial⟩ ?_
    refine q_then ?_
    refine wc_cond rfl (fun hb4 => ?_) (fun hb4 => ?_)
    ·
      have hlt : i < (listB bs).length := by have := of_decide_eq_true hb4; omega
      obtain ⟨k, lv, inf, t, d, ti, a, line, kids, vc, vp, vl, vk, hg, hcut1, s1, s2, s3, s4, hok⟩ := hc1.at hlt
      have oneAll := (hc1.get i _ hg).one
      rw [hcut1] at oneAll
      have hst := namesL_take hg
      have hln := namesE_len (evL ((listB bs).take i))
      have hle' := evL_len_take bs i
      have hle'' := evL_len_take bs (i + 1)
      have hln2 := namesE_len (evL ((listB bs).take (i + 1)))
      rw [evL_take hg] at hle''
      simp only [lineOf, List.length_append, List.length_cons, evI_len] at hst hle''
      have hdl := deep_len line
      generalize namesE (evL ((listB bs).take i)) = A at hst hln ⊢
      refine wc_skip ?_
      refine q_then ?_
      refine wc_seq ?_
      refine wc_block ?_
      refine wc_cut (fun ρ σ uc8 => ∃ (A2 : List Bs), VLe u' uc8 ∧ σ = [(503, (none, .row 9 1 A2.length (strsC A2)))] ∧ ρ = [(3, .s 503), (4, .v (.slice ad (listB bs).length cap)), (5, .v (.int .i64 i))] ∧ (u' = uc8 ∧ A2 = A ++ nz a.id ∧ A2.length ≤ A.length + 1)) ?_ ?_
      ·
        refine wc_seq ?_
        refine wc_region ?_
        refine rl_y (y_move rfl rfl) rfl ?_
        refine rl_y (y_move rfl rfl) rfl ?_
        refine rl_y (y_index_e rfl Tryd.s23 rfl rfl (by assumption) (by first | rfl | omega) (by omega)) rfl ?_
        refine rl_y (y_field_e rfl Tryd.f42' rfl (by decide) rfl) rfl ?_
        refine rl_y (y_field_e rfl Tryd.f39' rfl (by decide) rfl) rfl ?_
        refine rl_y (y_load_el rfl Tryd.k9 rfl (by assumption) (by omega) (by assumption) (vs := [_]) rfl rfl rfl rfl) rfl ?_
        refine rl_y (y_str_neq rfl rfl rfl) rfl ?_
        refine rl_end (ρ' := [(3, _), (4, _), (5, _), (23, _)]) ⟨rfl, rfl, rfl, rfl, trivial⟩ ?_
        refine q_then ?_
        refine wc_cond rfl (fun hb6 => ?_) (fun hb6 => ?_)
        ·
          refine wc_region ?_
          refine rl_y (y_move rfl rfl) rfl ?_
          refine rl_y (y_move rfl rfl) rfl ?_
          refine rl_y (y_move rfl rfl) rfl ?_
          refine rl_y (y_index_e rfl Tryd.s23 rfl rfl (by assumption) (by first | rfl | omega) (by omega)) rfl ?_
          refine rl_y (y_field_e rfl Tryd.f42' rfl (by decide) rfl) rfl ?_
          refine rl_y (y_field_e rfl Tryd.f39' rfl (by decide) rfl) rfl ?_
          refine rl_y (y_load_el rfl Tryd.k9 rfl (by assumption) (by omega) (by assumption) (vs := [_]) rfl rfl rfl rfl) rfl ?_
          refine rl_do rfl rfl ?_
          refine do_buildSlice trivial Tryd.s29 Tryd.z9 (ps := [(_, _)]) rfl (xs := [_]) rfl rfl rfl rfl rfl rfl rfl ?_
          refine rl_do rfl rfl ?_
          refine do_append_s trivial rfl rfl Tryd.s29 Tryd.z9 rfl rfl rfl rfl rfl rfl (by first | rfl | exact oneAll | exact oneAll2 | simp [Value.oneCell', str]) (by omega) (by omega) (ρ' := [(4, _), (5, _)]) ⟨rfl, rfl, trivial⟩ rfl rfl rfl ?_
          refine rl_y (y_assign rfl rfl) rfl ?_
          refine rl_ren 32 503 rfl rfl rfl ?_
          refine rl_end (ρ' := [(3, _), (4, _), (5, _)]) ⟨rfl, rfl, rfl, trivial⟩ ?_
          refine q_thenK ?_
          first
            | (refine ⟨[(3, _), (4, _), (5, _)], [(503, _)], ⟨rfl, rfl, rfl, trivial⟩, ⟨rfl, trivial⟩, A ++ [a.id], (VLe.refl _), (by first | rfl | (simp [strsC]; done)), rfl, ?_⟩
               exact ⟨rfl, by rw [show nz a.id = [a.id] from if_neg (of_decide_eq_true hb6)], by simp⟩)
            | (refine ⟨[(3, _), (4, _), (5, _)], [(503, _)], ⟨rfl, rfl, rfl, trivial⟩, ⟨rfl, trivial⟩, A, (VLe.refl _), (by first | rfl | (simp [strsC]; done)), rfl, ?_⟩
               exact ⟨rfl, by rw [show nz a.id = [] from if_pos (Decidable.of_not_not (of_decide_eq_false hb6)), List.append_nil], by omega⟩)
        ·
          refine wc_skip ?_
          refine q_thenK ?_
          first
            | (refine ⟨[(3, _), (4, _), (5, _)], [(503, _)], ⟨rfl, rfl, rfl, trivial⟩, ⟨rfl, trivial⟩, A ++ [a.id], (VLe.refl _), (by first | rfl | (simp [strsC]; done)), rfl, ?_⟩
               exact ⟨rfl, by rw [show nz a.id = [a.id] from if_neg (of_decide_eq_true hb6)], by simp⟩)
            | (refine ⟨[(3, _), (4, _), (5, _)], [(503, _)], ⟨rfl, rfl, rfl, trivial⟩, ⟨rfl, trivial⟩, A, (VLe.refl _), (by first | rfl | (simp [strsC]; done)), rfl, ?_⟩
               exact ⟨rfl, by rw [show nz a.id = [] from if_pos (Decidable.of_not_not (of_decide_eq_false hb6)), List.append_nil], by omega⟩)
      ·
        rintro ρ σ uc8 ⟨A2, hlc8, rfl, rfl, ⟨rfl, hA2, hA3⟩⟩
        refine wc_seq ?_
        refine wc_region ?_
        refine rl_y (y_move rfl rfl) rfl ?_
        refine rl_y (y_move rfl rfl) rfl ?_
        refine rl_y (y_index_e rfl Tryd.s23 rfl rfl (by assumption) (by first | rfl | omega) (by omega)) rfl ?_
        refine rl_y (y_field_e rfl Tryd.f42' rfl (by decide) rfl) rfl ?_
        refine rl_y (y_load_el rfl Tryd.k40 rfl (by assumption) (by omega) (by assumption) (vs := [_]) rfl rfl rfl rfl) rfl ?_
        refine rl_do rfl rfl ?_
        refine do_call (caps := []) trivial rfl rfl Tryd.c29 rfl (FnP.mono (deep_fn _ vl line u' (Nat.le_refl _) (by omega) s3) ?_)
        rintro v uX hle0 ⟨ks, ⟨adk, capk, rfl, hk⟩, hkc⟩ hleX
        refine rl_y (y_assign rfl rfl) rfl ?_
        refine rl_end (ρ' := [(3, _), (4, _), (5, _), (6, _)]) ⟨rfl, rfl, rfl, rfl, trivial⟩ ?_
        refine q_then ?_
        refine wc_seq ?_
        refine wc_region ?_
        refine rl_y (y_assign rfl rfl) rfl ?_
        refine rl_end (ρ' := [(3, _), (4, _), (5, _), (6, _), (7, _)]) ⟨rfl, rfl, rfl, rfl, rfl, trivial⟩ ?_
        refine q_then ?_
        refine wc_block ?_
        refine wc_loop (fun m ρ σ u' => ∃ j : Nat, j + m = (deep line).length ∧ VLe uX u' ∧ σ = [(503, (none, .row 9 1 (A2 ++ namesI ((deep line).take j)).length (strsC (A2 ++ namesI ((deep line).take j)))))] ∧ ρ = [(3, .s 503), (4, .v (.slice ad (listB bs).length cap)), (5, .v (.int .i64 i)), (6, .v (.slice adk (deep line).length capk)), (7, .v (.int .i64 j))] ∧ (uX = u')) ((deep line).length) ?_ ?_
        ·
          refine ⟨[(3, _), (4, _), (5, _), (6, _), (7, _)], [(503, _)], ⟨rfl, rfl, rfl, rfl, rfl, trivial⟩, ⟨rfl, trivial⟩, 0, by omega, VLe.refl _, (by simp [namesI]), rfl, ?_⟩
          rfl
        ·
          rintro mj ρ σ u' ⟨j, hi10, hle10, rfl, rfl, rfl⟩
          refine wc_seq ?_
          refine wc_seq ?_
          refine wc_region ?_
          refine rl_y (y_move rfl rfl) rfl ?_
          refine rl_y (y_move rfl rfl) rfl ?_
          refine rl_y (y_len_v rfl rfl Tryd.s40 rfl) rfl ?_
          refine rl_y (y_lss rfl rfl rfl) rfl ?_
          refine rl_end (ρ' := [(3, _), (4, _), (5, _), (6, _), (7, _), (42, _)]) ⟨rfl, rfl, rfl, rfl, rfl, rfl, trivial⟩ ?_
          refine q_then ?_
          refine wc_cond rfl (fun hb10 => ?_) (fun hb10 => ?_)
          ·
            have hlt2 : j < (deep line).length := (by have := of_decide_eq_true hb10; omega)
            refine wc_skip ?_
            refine q_then ?_
            refine wc_seq ?_
            refine wc_block ?_
            refine wc_seq ?_
            obtain ⟨k2, t2, d2, ti2, a2, args2, cites2, kids2, vc2, vp2, va2, vt2, vk2, hg2, hcut2, _⟩ := hkc.at hlt2
            have oneAll := (hkc.get j _ hg2).one
            rw [hcut2] at oneAll
            have hst2 := namesI_take hg2
            have hnl := namesI_len ((deep line).take j)
            have htl : ((deep line).take j).length ≤ j := by simp; omega
            refine wc_region ?_
            refine rl_y (y_move rfl rfl) rfl ?_
            refine rl_y (y_move rfl rfl) rfl ?_
            refine rl_y (y_index_e rfl Tryd.s40 rfl rfl (by assumption) (by first | rfl | omega) (by omega)) rfl ?_
            refine rl_y (y_field_e rfl Tryd.f46' rfl (by decide) rfl) rfl ?_
            refine rl_y (y_field_e rfl Tryd.f39' rfl (by decide) rfl) rfl ?_
            refine rl_y (y_load_el rfl Tryd.k9 rfl (by assumption) (by omega) (by assumption) (vs := [_]) rfl rfl rfl rfl) rfl ?_
            refine rl_y (y_str_neq rfl rfl rfl) rfl ?_
            refine rl_end (ρ' := [(3, _), (4, _), (5, _), (6, _), (7, _), (51, _)]) ⟨rfl, rfl, rfl, rfl, rfl, rfl, trivial⟩ ?_
            refine q_then ?_
            refine wc_cond rfl (fun hb12 => ?_) (fun hb12 => ?_)
            ·
              rw [show nz (idI (.mk k2 t2 d2 ti2 a2 args2 cites2 kids2)) = [a2.id] from if_neg (of_decide_eq_true hb12)] at hst2
              refine wc_region ?_
              refine rl_y (y_move rfl rfl) rfl ?_
              refine rl_y (y_move rfl rfl) rfl ?_
              refine rl_y (y_move rfl rfl) rfl ?_
              refine rl_y (y_index_e rfl Tryd.s40 rfl rfl (by assumption) (by first | rfl | omega) (by omega)) rfl ?_
              refine rl_y (y_field_e rfl Tryd.f46' rfl (by decide) rfl) rfl ?_
              refine rl_y (y_field_e rfl Tryd.f39' rfl (by decide) rfl) rfl ?_
              refine rl_y (y_load_el rfl Tryd.k9 rfl (by assumption) (by omega) (by assumption) (vs := [_]) rfl rfl rfl rfl) rfl ?_
              refine rl_do rfl rfl ?_
              refine do_buildSlice trivial Tryd.s29 Tryd.z9 (ps := [(_, _)]) rfl (xs := [_]) rfl rfl rfl rfl rfl rfl rfl ?_
              refine rl_do rfl rfl ?_
              refine do_append_s trivial rfl rfl Tryd.s29 Tryd.z9 rfl rfl rfl rfl rfl rfl (oneCell_strs [a2.id]) (by rw [List.length_append]; omega) (by rw [List.length_append]; omega) (ρ' := [(4, _), (5, _), (6, _), (7, _)]) ⟨rfl, rfl, rfl, rfl, trivial⟩ rfl rfl rfl ?_
              refine rl_y (y_assign rfl rfl) rfl ?_
              refine rl_ren 60 503 rfl rfl rfl ?_
              refine rl_end (ρ' := [(3, _), (4, _), (5, _), (6, _), (7, _)]) ⟨rfl, rfl, rfl, rfl, rfl, trivial⟩ ?_
              refine q_block ?_
              refine q_then ?_
              refine wc_region ?_
              refine rl_y (y_move rfl rfl) rfl ?_
              refine rl_y (y_add rfl rfl rfl (wrap64_id (by omega))) rfl ?_
              refine rl_y (y_assign rfl rfl) rfl ?_
              refine rl_end (ρ' := [(3, _), (4, _), (5, _), (6, _), (7, _)]) ⟨rfl, rfl, rfl, rfl, rfl, trivial⟩ ?_
              refine q_thenK ?_
              refine ⟨mj - 1, [(3, _), (4, _), (5, _), (6, _), (7, _)], [(503, _)], by omega, ⟨rfl, rfl, rfl, rfl, rfl, trivial⟩, ⟨rfl, trivial⟩, j + 1, by omega, hle10, (by first | (rw [hst2]; done) | (rw [hst2]; simp [strsC, Nat.add_assoc]; done)), (by first | rfl | simp), ?_⟩
              rfl
            ·
              rw [show nz (idI (.mk k2 t2 d2 ti2 a2 args2 cites2 kids2)) = [] from if_pos (Decidable.of_not_not (of_decide_eq_false hb12)), List.append_nil] at hst2
              refine wc_skip ?_
              refine q_block ?_
              refine q_then ?_
              refine wc_region ?_
              refine rl_y (y_move rfl rfl) rfl ?_
              refine rl_y (y_add rfl rfl rfl (wrap64_id (by omega))) rfl ?_
              refine rl_y (y_assign rfl rfl) rfl ?_
              refine rl_end (ρ' := [(3, _), (4, _), (5, _), (6, _), (7, _)]) ⟨rfl, rfl, rfl, rfl, rfl, trivial⟩ ?_
              refine q_thenK ?_
              refine ⟨mj - 1, [(3, _), (4, _), (5, _), (6, _), (7, _)], [(503, _)], by omega, ⟨rfl, rfl, rfl, rfl, rfl, trivial⟩, ⟨rfl, trivial⟩, j + 1, by omega, hle10, (by first | (rw [hst2]; done) | (rw [hst2]; simp [strsC, Nat.add_assoc]; done)), (by first | rfl | simp), ?_⟩
              rfl
          ·
            have hge2 := of_decide_eq_false hb10; rw [List.take_of_length_le (by omega)]
            refine wc_exit ?_
            refine q_then_exit ?_
            refine q_then_exit ?_
            refine q_block_hit ?_
            refine q_block ?_
            refine q_then ?_
            refine wc_region ?_
            refine rl_y (y_move rfl rfl) rfl ?_
            refine rl_y (y_add rfl rfl rfl (wrap64_id (by omega))) rfl ?_
            refine rl_y (y_assign rfl rfl) rfl ?_
            refine rl_end (ρ' := [(3, _), (4, _), (5, _)]) ⟨rfl, rfl, rfl, trivial⟩ ?_
            refine q_thenK ?_
            refine ⟨m - 1, [(3, _), (4, _), (5, _)], [(503, _)], by omega, ⟨rfl, rfl, rfl, trivial⟩, ⟨rfl, trivial⟩, i + 1, by omega, (hle4.trans hleX), (by rw [hst, hA2]; rfl), (by first | rfl | simp), ?_⟩
            trivial
    ·
      have hge := of_decide_eq_false hb4
      refine wc_exit ?_
      refine q_then_exit ?_
      refine q_then_exit ?_
      refine q_block_hit ?_
      refine q_then ?_
      refine wc_seq ?_
      refine wc_region ?_
      refine rl_y (y_move rfl rfl) rfl ?_
      refine rl_freeze 503 rfl ?_
      intro ad503 cap503 u503 hle503z hsl503
      refine rl_y (y_assign rfl rfl) rfl ?_
      refine rl_end (ρ' := [(2, _)]) ⟨rfl, trivial⟩ ?_
      refine q_then ?_
      refine wc_ret ?_
      refine fin1 (.tmp rfl) ?_
      rw [List.take_of_length_le (by omega)] at hsl503 ⊢
      exact strS_of' rfl hsl503
theorem refNotes_fn' (vm vb : Value) (bs : List Blk) (u : View) (hbig : szB bs ≤ 100000) (ha : BlkS u vb bs) :
  FnP Tryd.prog 32 [.agg #[vm, vb]] u fun r u' => StrS u' r (noteNames (listB bs)) := by
 have hll := listB_len bs
 refine FnP.intro [.tmp 2] Tryd.func32 rfl rfl rfl ?_
 intro w0 D hw0
 refine wc_seq ?_
 refine wc_region ?_
 refine rl_do rfl rfl ?_
 refine do_box trivial rfl (cs := [_, _]) rfl rfl rfl rfl ?_
 refine rl_y (y_assign rfl rfl) rfl ?_
 refine rl_end (ρ' := [(1, _)]) ⟨rfl, trivial⟩ ?_
 refine q_then ?_
 refine wc_seq ?_
 refine wc_region ?_
 refine rl_y (y_assign rfl rfl) rfl ?_
 refine rl_own_nil 3 503 9 1 rfl rfl rfl ?_
 refine rl_end (ρ' := [(1, _), (3, _)]) ⟨rfl, rfl, trivial⟩ ?_
 refine q_then ?_
 refine wc_seq ?_
 refine wc_region ?_
 refine rl_y (y_field_p rfl Tryd.f25' rfl (by decide) rfl) rfl ?_
 refine rl_y (y_load_p rfl Tryd.k23 rfl rfl rfl (vs := [_]) rfl rfl rfl) rfl ?_
 refine rl_do rfl rfl ?_
 refine do_call (caps := []) trivial rfl rfl Tryd.c20 rfl (FnP.mono (list_fn _ vb bs u (Nat.le_refl _) (by omega) ha) ?_)
 rintro v uL hle0 ⟨cs, ⟨ad, cap, rfl, h1⟩, hc1⟩ hleL
 refine rl_y (y_assign rfl rfl) rfl ?_
 refine rl_end (ρ' := [(3, _), (4, _)]) ⟨rfl, rfl, trivial⟩ ?_
 refine q_then ?_
 refine wc_seq ?_
 refine wc_seq ?_
 refine wc_region ?_
 refine rl_y (y_assign rfl rfl) rfl ?_
 refine rl_end (ρ' := [(3, _), (4, _), (5, _)]) ⟨rfl, rfl, rfl, trivial⟩ ?_
 refine q_then ?_
 refine wc_block ?_
 refine wc_loop (fun m ρ σ u' => ∃ i : Nat, i + m = (listB bs).length ∧ VLe uL u' ∧ σ = [(503, (none, .row 9 1 (noteNames ((listB bs).take i)).length (strsC (noteNames ((listB bs).take i)))))] ∧ ρ = [(3, .s 503), (4, .v (.slice ad (listB bs).length cap)), (5, .v (.int .i64 i))] ∧ (uL = u')) ((listB bs).length) ?_ ?_
 ·
  refine ⟨[(3, _), (4, _), (5, _)], [(503, _)], ⟨rfl, rfl, rfl, trivial⟩, ⟨rfl, trivial⟩, 0, by omega, VLe.refl _, (by first | rfl | simp), (by first | rfl | (simp only [List.cons.injEq, Prod.mk.injEq, SV.v.injEq, Value.int.injEq, true_and, and_true]; omega) | simp), ?_⟩
  rfl
 ·
  rintro m ρ σ u' ⟨i, hi4, hle4, rfl, rfl, rfl⟩
  refine wc_seq ?_
  refine wc_seq ?_
  refine wc_region ?_
  refine rl_y (y_move rfl rfl) rfl ?_
  refine rl_y (y_move rfl rfl) rfl ?_
  refine rl_y (y_len_v rfl rfl Tryd.s23 rfl) rfl ?_
  refine rl_y (y_lss rfl rfl rfl) rfl ?_
  refine rl_end (ρ' := [(3, _), (4, _), (5, _), (12, _)]) ⟨rfl, rfl, rfl, rfl, trivial⟩ ?_
  refine q_then ?_
  refine wc_cond rfl (fun hb4 => ?_) (fun hb4 => ?_)
  ·
   refine wc_skip ?_
   refine q_then ?_
   refine wc_seq ?_
   refine wc_block ?_
   refine wc_seq ?_
   have hlt : i < (listB bs).length := by have := of_decide_eq_true hb4; omega
   obtain ⟨k, lv, inf, t, d, ti, a, line, kids, vc, vp, vl, vk, hg, hcut1, s1, s2, s3, s4, hok⟩ := hc1.at hlt
   have hft : noteNames ((listB bs).take (i + 1)) = noteNames ((listB bs).take i) ++ (if k = 14 then some inf else none).toList := filterMap_take _ hg
   have hfl : (noteNames ((listB bs).take i)).length ≤ ((listB bs).take i).length := filterMap_len _ _
   have htl : ((listB bs).take i).length ≤ i := by simp; omega
   refine wc_region ?_
   refine rl_y (y_move rfl rfl) rfl ?_
   refine rl_y (y_move rfl rfl) rfl ?_
   refine rl_y (y_index_e rfl Tryd.s23 rfl rfl (by assumption) (by first | rfl | omega) (by omega)) rfl ?_
   refine rl_y (y_field_e rfl Tryd.f42' rfl (by decide) rfl) rfl ?_
   refine rl_y (y_load_el rfl Tryd.k3 rfl (by assumption) (by omega) (by assumption) (vs := [_]) rfl rfl rfl rfl) rfl ?_
   refine rl_y (y_eql rfl rfl rfl) rfl ?_
   refine rl_end (ρ' := [(3, _), (4, _), (5, _), (20, _)]) ⟨rfl, rfl, rfl, rfl, trivial⟩ ?_
   refine q_then ?_
   refine wc_cond rfl (fun hb6 => ?_) (fun hb6 => ?_)
   ·
    have h5 := of_decide_eq_true hb6; rw [if_pos h5] at hft
    refine wc_region ?_
    refine rl_y (y_move rfl rfl) rfl ?_
    refine rl_y (y_move rfl rfl) rfl ?_
    refine rl_y (y_move rfl rfl) rfl ?_
    refine rl_y (y_index_e rfl Tryd.s23 rfl rfl (by assumption) (by first | rfl | omega) (by omega)) rfl ?_
    refine rl_y (y_field_e rfl Tryd.f42' rfl (by decide) rfl) rfl ?_
    refine rl_y (y_load_el rfl Tryd.k9 rfl (by assumption) (by omega) (by assumption) (vs := [_]) rfl rfl rfl rfl) rfl ?_
    refine rl_do rfl rfl ?_
    refine do_buildSlice trivial Tryd.s29 Tryd.z9 (ps := [(_, _)]) rfl (xs := [_]) rfl rfl rfl rfl rfl rfl rfl ?_
    refine rl_do rfl rfl ?_
    refine do_append_s trivial rfl rfl Tryd.s29 Tryd.z9 rfl rfl rfl rfl rfl rfl (by first | rfl | exact oneAll | exact oneAll2 | simp [Value.oneCell', str]) (by omega) (by omega) (ρ' := [(4, _), (5, _)]) ⟨rfl, rfl, trivial⟩ rfl rfl rfl ?_
    refine rl_y (y_assign rfl rfl) rfl ?_
    refine rl_ren 28 503 rfl rfl rfl ?_
    refine rl_end (ρ' := [(3, _), (4, _), (5, _)]) ⟨rfl, rfl, rfl, trivial⟩ ?_
    refine q_block ?_
    refine q_then ?_
    refine wc_region ?_
    refine rl_y (y_move rfl rfl) rfl ?_
    refine rl_y (y_add rfl rfl rfl (wrap64_id (by omega))) rfl ?_
    refine rl_y (y_assign rfl rfl) rfl ?_
    refine rl_end (ρ' := [(3, _), (4, _), (5, _)]) ⟨rfl, rfl, rfl, trivial⟩ ?_
    refine q_thenK ?_
    refine ⟨m - 1, [(3, _), (4, _), (5, _)], [(503, _)], by omega, ⟨rfl, rfl, rfl, trivial⟩, ⟨rfl, trivial⟩, i + 1, by omega, hle4, (by simp only [hft]; try simp [strsC]), (by first | rfl | simp), ?_⟩
    rfl
   ·
    have h5 := of_decide_eq_false hb6; rw [if_neg h5] at hft
    refine wc_skip ?_
    refine q_block ?_
    refine q_then ?_
    refine wc_region ?_
    refine rl_y (y_move rfl rfl) rfl ?_
    refine rl_y (y_add rfl rfl rfl (wrap64_id (by omega))) rfl ?_
    refine rl_y (y_assign rfl rfl) rfl ?_
    refine rl_end (ρ' := [(3, _), (4, _), (5, _)]) ⟨rfl, rfl, rfl, trivial⟩ ?_
    refine q_thenK ?_
    refine ⟨m - 1, [(3, _), (4, _), (5, _)], [(503, _)], by omega, ⟨rfl, rfl, rfl, trivial⟩, ⟨rfl, trivial⟩, i + 1, by omega, hle4, (by simp only [hft]; try simp [strsC]), (by first | rfl | simp), ?_⟩
    rfl
  ·
   refine wc_exit ?_
   refine q_then_exit ?_
   refine q_then_exit ?_
   refine q_block_hit ?_
   refine q_then ?_
   refine wc_seq ?_
   refine wc_region ?_
   refine rl_y (y_move rfl rfl) rfl ?_
   refine rl_freeze 503 rfl ?_
   intro ad503 cap503 u503 hle503z hsl503
   refine rl_y (y_assign rfl rfl) rfl ?_
   refine rl_end (ρ' := [(2, _)]) ⟨rfl, trivial⟩ ?_
   refine q_then ?_
   refine wc_ret ?_
   refine fin1 (.tmp rfl) ?_
   have hge := of_decide_eq_false hb4
   rw [List.take_of_length_le (by omega)] at hsl503 ⊢
   exact strS_of' rfl hsl503
def missI (Dn N : List Bs) (xs : List Inl) : List Bs := xs.flatMap fun x => missEv Dn N (.inr x)
theorem missI_take (Dn N : List Bs) {xs : List Inl} {i : Nat} {x : Inl} (h : xs[i]? = some x) : missI Dn N (xs.take (i + 1)) = missI Dn N (xs.take i) ++ missEv Dn N (.inr x) := by
 obtain ⟨hlt, rfl⟩ := List.getElem?_eq_some_iff.1 h
 rw [List.take_succ_eq_append_getElem hlt]
 simp only [missI, List.flatMap_append, List.flatMap_cons, List.flatMap_nil, List.append_nil]
theorem missI_len (Dn N : List Bs) (xs : List Inl) : (missI Dn N xs).length ≤ xs.length := by
  induction xs with
  | nil => simp [missI]
  | cons x l ih =>
    have h := missEv_len Dn N (.inr x)
    have e : missI Dn N (x :: l) = missEv Dn N (.inr x) ++ missI Dn N l := rfl
    rw [e, List.length_append, List.length_cons]; omega
set_option maxHeartbeats 2000000 in
theorem refMissing_fn (vm vb : Value) (bs : List Blk) (u : View) (hbig : szB bs ≤ 100000) (ha : BlkS u vb bs) :
    FnP Tryd.prog 16 [.agg #[vm, vb]] u fun r u' => StrS u' r (onceL (missOf bs)) := by
  have hll := listB_len bs
  have hls := szL_listB bs
  have hli := inls_len (listB bs)
  have hnl := namesOf_len bs
  have hno : (noteNames (listB bs)).length ≤ (listB bs).length := filterMap_len _ _
  refine FnP.intro [.tmp 2] Tryd.func16 rfl rfl rfl ?_
  intro w0 D hw0
  refine wc_seq ?_
  refine wc_region ?_
  refine rl_do rfl rfl ?_
  refine do_box trivial rfl (cs := [_, _]) rfl rfl rfl rfl ?_
  refine rl_y (y_assign rfl rfl) rfl ?_
  refine rl_end (ρ' := [(1, _)]) ⟨rfl, trivial⟩ ?_
  refine q_then ?_
  refine wc_seq ?_
  refine wc_region ?_
  refine rl_y (y_assign rfl rfl) rfl ?_
  refine rl_own_nil 3 503 9 1 rfl rfl rfl ?_
  refine rl_end (ρ' := [(1, _), (3, _)]) ⟨rfl, rfl, trivial⟩ ?_
  refine q_then ?_
  refine wc_cut (fun ρ σ uc3 => ∃ (v4 : Value) (v5 : Value), VLe u uc3 ∧ σ = [(1, (none, .box [vm, vb])), (503, (none, .row 9 1 0 []))] ∧ ρ = [(1, .p 1 0), (3, .s 503), (4, .v v4), (5, .v v5)] ∧ (StrS uc3 v4 (namesOf bs) ∧ StrS uc3 v5 (noteNames (listB bs)))) ?_ ?_
  ·
    refine wc_draw Tryd.mixed rfl [(1, _)] ⟨rfl, trivial⟩ ?_
    refine ra_y (i := 0) rfl (by kernel_rfl) (by kernel_rfl) (by kernel_rfl) (np_then (np_fin)) (y_load_p rfl Tryd.k25 rfl rfl rfl (vs := [_, _]) rfl rfl rfl) rfl ?_
    refine ra_y (i := 2) rfl (by kernel_rfl) (by kernel_rfl) (by kernel_rfl) (np_then (np_fin)) (y_load_p rfl Tryd.k25 rfl rfl rfl (vs := [_, _]) rfl rfl rfl) rfl ?_
    refine ra_do (i := 1) rfl rfl (by kernel_rfl) ?_
    refine do_call (caps := []) ⟨rfl, trivial⟩ rfl rfl Tryd.c12 rfl (FnP.mono (refNames_fn vm vb bs _ hbig (by first | exact ha | exact ha.mono hleR)) ?_)
    rintro v uP hle0 hP1 hleP
    refine ra_do (i := 3) rfl rfl (by kernel_rfl) ?_
    refine do_call (caps := []) ⟨rfl, trivial⟩ rfl rfl Tryd.c32 rfl (FnP.mono (refNotes_fn' vm vb bs _ hbig (by first | exact ha | exact ha.mono hleP)) ?_)
    rintro v uR hle0 hR1 hleR
    refine ra_y (i := 4) rfl (by kernel_rfl) (by kernel_rfl) (by kernel_rfl) (np_then (np_fin)) (y_assign rfl rfl) rfl ?_
    refine ra_y (i := 5) rfl (by kernel_rfl) (by kernel_rfl) (by kernel_rfl) (np_then (np_fin)) (y_assign rfl rfl) rfl ?_
    refine ra_end (by kernel_rfl) (ρ' := [(1, _), (3, _), (4, _), (5, _)]) ⟨rfl, rfl, rfl, rfl, trivial⟩ ?_
    refine q_thenK ?_
    first
      | (refine ⟨[(1, _), (3, _), (4, _), (5, _)], [(1, _), (503, _)], ⟨rfl, rfl, rfl, rfl, trivial⟩, ⟨rfl, rfl, trivial⟩, _, _, (hleP.trans hleR), (by first | rfl | simp), (by first | rfl | (simp only [List.cons.injEq, Prod.mk.injEq, SV.v.injEq, Value.int.injEq, true_and, and_true]; omega) | simp), ?_⟩
         exact ⟨hP1.mono hleR, hR1⟩)
      | (refine ⟨[(1, _), (3, _), (4, _), (5, _)], [(1, _), (503, _)], ⟨rfl, rfl, rfl, rfl, trivial⟩, ⟨rfl, rfl, trivial⟩, _, _, (hleR.trans hleP), (by first | rfl | simp), (by first | rfl | (simp only [List.cons.injEq, Prod.mk.injEq, SV.v.injEq, Value.int.injEq, true_and, and_true]; omega) | simp), ?_⟩
         exact ⟨hP1, hR1.mono hleP⟩)
  ·
    rintro ρ σ uc3 ⟨v4, v5, hlc3, rfl, rfl, ⟨hV4, hV5⟩⟩
    refine wc_seq ?_
    refine wc_region ?_
    refine rl_y (y_field_p rfl Tryd.f25' rfl (by decide) rfl) rfl ?_
    refine rl_y (y_load_p rfl Tryd.k23 rfl rfl rfl (vs := [_]) rfl rfl rfl) rfl ?_
    refine rl_do rfl rfl ?_
    refine do_call (caps := []) trivial rfl rfl Tryd.c21 rfl (FnP.mono (inlines_fn vb bs _ (by omega) (ha.mono hlc3)) ?_)
    rintro v uI hle0 ⟨is, ⟨adi, capi, rfl, hi1⟩, hic⟩ hleI
    refine rl_y (y_assign rfl rfl) rfl ?_
    refine rl_end (ρ' := [(3, _), (4, _), (5, _), (6, _)]) ⟨rfl, rfl, rfl, rfl, trivial⟩ ?_
    refine q_then ?_
    refine wc_seq ?_
    refine wc_seq ?_
    refine wc_region ?_
    refine rl_y (y_assign rfl rfl) rfl ?_
    refine rl_end (ρ' := [(3, _), (4, _), (5, _), (6, _), (7, _)]) ⟨rfl, rfl, rfl, rfl, rfl, trivial⟩ ?_
    refine q_then ?_
    refine wc_block ?_
    refine wc_loop (fun m ρ σ u' => ∃ i : Nat, i + m = (inls (listB bs)).length ∧ VLe uI u' ∧ σ = [(503, (none, .row 9 1 (onceL (missI (namesOf bs) (noteNames (listB bs)) ((inls (listB bs)).take i))).length (strsC (onceL (missI (namesOf bs) (noteNames (listB bs)) ((inls (listB bs)).take i))))))] ∧ ρ = [(3, .s 503), (4, .v v4), (5, .v v5), (6, .v (.slice adi (inls (listB bs)).length capi)), (7, .v (.int .i64 i))] ∧ (uI = u')) ((inls (listB bs)).length) ?_ ?_
    ·
      refine ⟨[(3, _), (4, _), (5, _), (6, _), (7, _)], [(503, _)], ⟨rfl, rfl, rfl, rfl, rfl, trivial⟩, ⟨rfl, trivial⟩, 0, by omega, VLe.refl _, rfl, rfl, ?_⟩
      rfl
    ·
      rintro m ρ σ u' ⟨i, hi5, hle5, rfl, rfl, rfl⟩
      have hV4 := hV4.mono hleI
      have hV5 := hV5.mono hleI
      refine wc_seq ?_
      refine wc_seq ?_
      refine wc_region ?_
      refine rl_y (y_move rfl rfl) rfl ?_
      refine rl_y (y_move rfl rfl) rfl ?_
      refine rl_y (y_len_v rfl rfl Tryd.s40 rfl) rfl ?_
      refine rl_y (y_lss rfl rfl rfl) rfl ?_
      refine rl_end (ρ' := [(3, _), (4, _), (5, _), (6, _), (7, _), (20, _)]) ⟨rfl, rfl, rfl, rfl, rfl, rfl, trivial⟩ ?_
      refine q_then ?_
      refine wc_cond rfl (fun hb5 => ?_) (fun hb5 => ?_)
      ·
        have hlt : i < (inls (listB bs)).length := by have := of_decide_eq_true hb5; omega
        obtain ⟨k, t, d, ti, a, args, cites, kids, vc, vp, va, vt, vk, hg, hcut1, s1, s2, s3, s4, s5, hok⟩ := hic.at hlt
        obtain ⟨_, okt, okd, _⟩ := hok
        have oneAll := (hic.get i _ hg).one
        rw [hcut1] at oneAll
        have hst := missI_take (namesOf bs) (noteNames (listB bs)) hg
        have hml := missI_len (namesOf bs) (noteNames (listB bs)) ((inls (listB bs)).take i)
        have hol := onceL_len (missI (namesOf bs) (noteNames (listB bs)) ((inls (listB bs)).take i))
        have htl : ((inls (listB bs)).take i).length ≤ i := by simp; omega
        generalize missI (namesOf bs) (noteNames (listB bs)) ((inls (listB bs)).take i) = A at hst hml hol ⊢
        have hE : missEv (namesOf bs) (noteNames (listB bs)) (.inr (.mk k t d ti a args cites kids)) = if k = 14 then (if t ∈ (namesOf bs) then [] else [t]) else if k = 12 then (if t ∈ (noteNames (listB bs)) then [] else [t]) else if k = 9 ∧ t = [] ∧ d.head? = some 35 then (if d.tail ∈ (namesOf bs) then [] else [d.tail]) else [] := by simp only [missEv]
        refine wc_skip ?_
        refine q_then ?_
        refine wc_seq ?_
        refine wc_block ?_
        refine wc_seq ?_
        refine wc_region ?_
        refine rl_y (y_move rfl rfl) rfl ?_
        refine rl_y (y_move rfl rfl) rfl ?_
        refine rl_y (y_index_e rfl Tryd.s40 rfl rfl (by assumption) (by first | rfl | omega) (by omega)) rfl ?_
        refine rl_y (y_field_e rfl Tryd.f46' rfl (by decide) rfl) rfl ?_
        refine rl_y (y_load_el rfl Tryd.k9 rfl (by assumption) (by omega) (by assumption) (vs := [_]) rfl rfl rfl rfl) rfl ?_
        refine rl_y (y_assign rfl rfl) rfl ?_
        refine rl_y (y_assign rfl rfl) rfl ?_
        refine rl_end (ρ' := [(3, _), (4, _), (5, _), (6, _), (7, _), (8, _), (9, _)]) ⟨rfl, rfl, rfl, rfl, rfl, rfl, rfl, trivial⟩ ?_
        refine q_then ?_
        refine wc_cut (fun ρ σ uc17 => ∃ (nm : Bs) (kn : Bool), VLe uI uc17 ∧ σ = [(503, (none, .row 9 1 (onceL A).length (strsC (onceL A))))] ∧ ρ = [(3, .s 503), (4, .v v4), (5, .v v5), (6, .v (.slice adi (inls (listB bs)).length capi)), (7, .v (.int .i64 i)), (8, .v (str nm)), (9, .v (.bool kn))] ∧ (uI = uc17 ∧ missEv (namesOf bs) (noteNames (listB bs)) (.inr (.mk k t d ti a args cites kids)) = if kn = true then [] else [nm])) ?_ ?_
        ·
          refine wc_seq ?_
          refine wc_region ?_
          refine rl_y (y_move rfl rfl) rfl ?_
          refine rl_y (y_move rfl rfl) rfl ?_
          refine rl_y (y_index_e rfl Tryd.s40 rfl rfl (by assumption) (by first | rfl | omega) (by omega)) rfl ?_
          refine rl_y (y_field_e rfl Tryd.f46' rfl (by decide) rfl) rfl ?_
          refine rl_y (y_load_el rfl Tryd.k3 rfl (by assumption) (by omega) (by assumption) (vs := [_]) rfl rfl rfl rfl) rfl ?_
          refine rl_end (ρ' := [(3, _), (4, _), (5, _), (6, _), (7, _), (8, _), (9, _), (32, _)]) ⟨rfl, rfl, rfl, rfl, rfl, rfl, rfl, rfl, trivial⟩ ?_
          refine q_then ?_
          refine wc_block ?_
          refine wc_seq ?_
          refine wc_region ?_
          refine rl_y (y_eql rfl rfl rfl) rfl ?_
          refine rl_y (y_assign rfl rfl) rfl ?_
          refine rl_end (ρ' := [(3, _), (4, _), (5, _), (6, _), (7, _), (8, _), (9, _), (32, _), (33, _)]) ⟨rfl, rfl, rfl, rfl, rfl, rfl, rfl, rfl, rfl, trivial⟩ ?_
          refine q_then ?_
          refine wc_cond rfl (fun hb9 => ?_) (fun hb9 => ?_)
          ·
            have h1 := of_decide_eq_true hb9; rw [if_pos h1] at hE
            refine wc_region ?_
            refine rl_y (y_move rfl rfl) rfl ?_
            refine rl_y (y_move rfl rfl) rfl ?_
            refine rl_do rfl rfl ?_
            refine do_call_f (caps := []) trivial rfl rfl Tryd.c31 rfl (FnP.mono (has_fn _ _ t (by omega) uI hV4) ?_)
            rintro v u1 hle1 rfl
            refine rl_y (y_assign rfl rfl) rfl ?_
            refine rl_end (ρ' := [(3, _), (4, _), (5, _), (6, _), (7, _), (8, _), (9, _)]) ⟨rfl, rfl, rfl, rfl, rfl, rfl, rfl, trivial⟩ ?_
            refine q_block ?_
            refine q_thenK ?_
            refine ⟨[(3, _), (4, _), (5, _), (6, _), (7, _), (8, _), (9, _)], [(503, _)], ⟨rfl, rfl, rfl, rfl, rfl, rfl, rfl, trivial⟩, ⟨rfl, trivial⟩, _, _, (VLe.refl _), (by first | rfl | simp), (by first | rfl | (simp only [List.cons.injEq, Prod.mk.injEq, SV.v.injEq, Value.int.injEq, true_and, and_true]; omega) | simp), ?_⟩
            (refine ⟨rfl, ?_⟩; rw [hE]; first | (simp only [decide_eq_true_eq]; done) | (simp; done))
          ·
            have h1 := of_decide_eq_false hb9; rw [if_neg h1] at hE
            refine wc_seq ?_
            refine wc_region ?_
            refine rl_y (y_eql rfl rfl rfl) rfl ?_
            refine rl_y (y_assign rfl rfl) rfl ?_
            refine rl_end (ρ' := [(3, _), (4, _), (5, _), (6, _), (7, _), (8, _), (9, _), (32, _), (38, _)]) ⟨rfl, rfl, rfl, rfl, rfl, rfl, rfl, rfl, rfl, trivial⟩ ?_
            refine q_then ?_
            refine wc_cond rfl (fun hb11 => ?_) (fun hb11 => ?_)
            ·
              have h3 := of_decide_eq_true hb11; rw [if_pos h3] at hE
              refine wc_region ?_
              refine rl_y (y_move rfl rfl) rfl ?_
              refine rl_y (y_move rfl rfl) rfl ?_
              refine rl_do rfl rfl ?_
              refine do_call_f (caps := []) trivial rfl rfl Tryd.c31 rfl (FnP.mono (has_fn _ _ t (by omega) uI hV5) ?_)
              rintro v u1 hle1 rfl
              refine rl_y (y_assign rfl rfl) rfl ?_
              refine rl_end (ρ' := [(3, _), (4, _), (5, _), (6, _), (7, _), (8, _), (9, _)]) ⟨rfl, rfl, rfl, rfl, rfl, rfl, rfl, trivial⟩ ?_
              refine q_block ?_
              refine q_thenK ?_
              refine ⟨[(3, _), (4, _), (5, _), (6, _), (7, _), (8, _), (9, _)], [(503, _)], ⟨rfl, rfl, rfl, rfl, rfl, rfl, rfl, trivial⟩, ⟨rfl, trivial⟩, _, _, (VLe.refl _), (by first | rfl | simp), (by first | rfl | (simp only [List.cons.injEq, Prod.mk.injEq, SV.v.injEq, Value.int.injEq, true_and, and_true]; omega) | simp), ?_⟩
              (refine ⟨rfl, ?_⟩; rw [hE]; first | (simp only [decide_eq_true_eq]; done) | (simp; done))
            ·
              have h3 := of_decide_eq_false hb11; rw [if_neg h3] at hE
              refine wc_seq ?_
              refine wc_region ?_
              refine rl_y (y_eql rfl rfl rfl) rfl ?_
              refine rl_y (y_assign rfl rfl) rfl ?_
              refine rl_end (ρ' := [(3, _), (4, _), (5, _), (6, _), (7, _), (8, _), (9, _), (43, _)]) ⟨rfl, rfl, rfl, rfl, rfl, rfl, rfl, rfl, trivial⟩ ?_
              refine q_then ?_
              refine wc_cond rfl (fun hb13 => ?_) (fun hb13 => ?_)
              ·
                have h5 := of_decide_eq_true hb13
                refine wc_seq ?_
                refine wc_cutB 64 (decide (t = [] ∧ d.head? = some 35)) (ρk := [(3, _), (4, _), (5, _), (6, _), (7, _), (8, _), (9, _)]) ⟨rfl, rfl, rfl, rfl, rfl, rfl, rfl, trivial⟩ ?_ ?_
                ·
                  refine wc_region ?_
                  refine rl_y (y_move rfl rfl) rfl ?_
                  refine rl_y (y_str_eql rfl rfl rfl) rfl ?_
                  refine rl_y (y_move rfl rfl) rfl ?_
                  rcases Bool.eq_false_or_eq_true (decide (t = [])) with hg14_2 | hg14_2
                  ·
                    simp only [hg14_2]
                    refine rl_on rfl rfl ?_
                    refine rl_y (y_move rfl rfl) rfl ?_
                    refine rl_on rfl rfl ?_
                    refine rl_y (y_move rfl rfl) rfl ?_
                    refine rl_on rfl rfl ?_
                    refine rl_y (y_index_e rfl Tryd.s40 rfl rfl (by assumption) (by first | rfl | omega) (by omega)) rfl ?_
                    refine rl_on rfl rfl ?_
                    refine rl_y (y_field_e rfl Tryd.f46' rfl (by decide) rfl) rfl ?_
                    refine rl_on rfl rfl ?_
                    refine rl_y (y_load_el rfl Tryd.k9 rfl (by assumption) (by omega) (by assumption) (vs := [_]) rfl rfl rfl rfl) rfl ?_
                    refine rl_on rfl rfl ?_
                    refine rl_y (y_len_str rfl rfl Tryd.str9 rfl) rfl ?_
                    refine rl_on rfl rfl ?_
                    refine rl_y (y_gtr rfl rfl rfl) rfl ?_
                    refine rl_y (y_pick_t rfl rfl rfl) rfl ?_
                    refine rl_y (y_move rfl rfl) rfl ?_
                    rcases Bool.eq_false_or_eq_true (decide ((0 : Int) < d.length)) with hg14_11 | hg14_11
                    ·
                      simp only [hg14_11]
                      refine rl_on rfl rfl ?_
                      refine rl_y (y_move rfl rfl) rfl ?_
                      refine rl_on rfl rfl ?_
                      refine rl_y (y_move rfl rfl) rfl ?_
                      refine rl_on rfl rfl ?_
                      refine rl_y (y_index_e rfl Tryd.s40 rfl rfl (by assumption) (by first | rfl | omega) (by omega)) rfl ?_
                      refine rl_on rfl rfl ?_
                      refine rl_y (y_field_e rfl Tryd.f46' rfl (by decide) rfl) rfl ?_
                      refine rl_on rfl rfl ?_
                      refine rl_y (y_load_el rfl Tryd.k9 rfl (by assumption) (by omega) (by assumption) (vs := [_]) rfl rfl rfl rfl) rfl ?_
                      obtain ⟨c0, hc0⟩ : ∃ c0, d[0]? = some c0 := by
                        cases d with
                        | nil => simp at hg14_11
                        | cons x d => exact ⟨x, rfl⟩
                      have hd0 : d.head? = some c0 := by rw [← hc0]; cases d <;> rfl
                      refine rl_on rfl rfl ?_
                      refine rl_y (y_index_str rfl Tryd.str9 rfl rfl (by first | rfl | omega) (by assumption)) rfl ?_
                      refine rl_on rfl rfl ?_
                      refine rl_y (y_eql rfl rfl rfl) rfl ?_
                      rw [u8_35]
                      refine rl_y (y_pick_t rfl rfl rfl) rfl ?_
                      exact cutB_end rfl ⟨rfl, rfl, rfl, rfl, rfl, rfl, rfl, trivial⟩ (by first | (cases d <;> simp_all; done) | (cases d with | nil => simp_all | cons x d => simp at hg14_11))
                    ·
                      simp only [hg14_11]
                      refine rl_off rfl rfl rfl rfl ?_
                      refine rl_off rfl rfl rfl rfl ?_
                      refine rl_off rfl rfl rfl rfl ?_
                      refine rl_off rfl rfl rfl rfl ?_
                      refine rl_off rfl rfl rfl rfl ?_
                      refine rl_off rfl rfl rfl rfl ?_
                      refine rl_off rfl rfl rfl rfl ?_
                      refine rl_y (y_pick_f rfl rfl rfl) rfl ?_
                      exact cutB_end rfl ⟨rfl, rfl, rfl, rfl, rfl, rfl, rfl, trivial⟩ (by first | (cases d <;> simp_all; done) | (cases d with | nil => simp_all | cons x d => simp at hg14_11))
                  ·
                    simp only [hg14_2]
                    refine rl_off rfl rfl rfl rfl ?_
                    refine rl_off rfl rfl rfl rfl ?_
                    refine rl_off rfl rfl rfl rfl ?_
                    refine rl_off rfl rfl rfl rfl ?_
                    refine rl_off rfl rfl rfl rfl ?_
                    refine rl_off rfl rfl rfl rfl ?_
                    refine rl_off rfl rfl rfl rfl ?_
                    refine rl_y (y_pick_f rfl rfl rfl) rfl ?_
                    refine rl_y (y_move rfl rfl) rfl ?_
                    refine rl_off rfl rfl rfl rfl ?_
                    refine rl_off rfl rfl rfl rfl ?_
                    refine rl_off rfl rfl rfl rfl ?_
                    refine rl_off rfl rfl rfl rfl ?_
                    refine rl_off rfl rfl rfl rfl ?_
                    refine rl_off rfl rfl rfl rfl ?_
                    refine rl_off rfl rfl rfl rfl ?_
                    refine rl_y (y_pick_f rfl rfl rfl) rfl ?_
                    exact cutB_end rfl ⟨rfl, rfl, rfl, rfl, rfl, rfl, rfl, trivial⟩ (by first | (cases d <;> simp_all; done) | (cases d with | nil => simp_all | cons x d => simp at hg14_11))
                refine q_then ?_
                refine wc_cond rfl (fun hb14 => ?_) (fun hb14 => ?_)
                ·
                  have h6 := of_decide_eq_true hb14; rw [if_pos (show k = 9 ∧ t = [] ∧ d.head? = some 35 from ⟨h5, h6⟩)] at hE; have hdl : 1 ≤ d.length := (by cases d with | nil => simp at h6 | cons x d => simp)
                  refine wc_seq ?_
                  refine wc_region ?_
                  refine rl_y (y_move rfl rfl) rfl ?_
                  refine rl_y (y_move rfl rfl) rfl ?_
                  refine rl_y (y_index_e rfl Tryd.s40 rfl rfl (by assumption) (by first | rfl | omega) (by omega)) rfl ?_
                  refine rl_y (y_field_e rfl Tryd.f46' rfl (by decide) rfl) rfl ?_
                  refine rl_y (y_load_el rfl Tryd.k9 rfl (by assumption) (by omega) (by assumption) (vs := [_]) rfl rfl rfl rfl) rfl ?_
                  refine rl_y (y_slice_str (i := 1) (j := d.length) (k' := .i64) rfl Tryd.str9 rfl rfl rfl hdl (Nat.le_refl _)) rfl ?_
                  rw [tail_take]
                  refine rl_y (y_assign rfl rfl) rfl ?_
                  refine rl_end (ρ' := [(3, _), (4, _), (5, _), (6, _), (7, _), (8, _)]) ⟨rfl, rfl, rfl, rfl, rfl, rfl, trivial⟩ ?_
                  refine q_then ?_
                  refine wc_region ?_
                  refine rl_y (y_move rfl rfl) rfl ?_
                  refine rl_y (y_move rfl rfl) rfl ?_
                  refine rl_do rfl rfl ?_
                  refine do_call_f (caps := []) trivial rfl rfl Tryd.c31 rfl (FnP.mono (has_fn _ _ d.tail (by omega) uI hV4) ?_)
                  rintro v u1 hle1 rfl
                  refine rl_y (y_assign rfl rfl) rfl ?_
                  refine rl_end (ρ' := [(3, _), (4, _), (5, _), (6, _), (7, _), (8, _), (9, _)]) ⟨rfl, rfl, rfl, rfl, rfl, rfl, rfl, trivial⟩ ?_
                  refine q_block ?_
                  refine q_thenK ?_
                  refine ⟨[(3, _), (4, _), (5, _), (6, _), (7, _), (8, _), (9, _)], [(503, _)], ⟨rfl, rfl, rfl, rfl, rfl, rfl, rfl, trivial⟩, ⟨rfl, trivial⟩, _, _, (VLe.refl _), (by first | rfl | simp), (by first | rfl | (simp only [List.cons.injEq, Prod.mk.injEq, SV.v.injEq, Value.int.injEq, true_and, and_true]; omega) | simp), ?_⟩
                  (refine ⟨rfl, ?_⟩; rw [hE]; first | (simp only [decide_eq_true_eq]; done) | (simp; done))
                ·
                  have h6 := of_decide_eq_false hb14; rw [if_neg (fun h => h6 h.2)] at hE
                  refine wc_skip ?_
                  refine q_block ?_
                  refine q_thenK ?_
                  refine ⟨[(3, _), (4, _), (5, _), (6, _), (7, _), (8, _), (9, _)], [(503, _)], ⟨rfl, rfl, rfl, rfl, rfl, rfl, rfl, trivial⟩, ⟨rfl, trivial⟩, _, _, (VLe.refl _), (by first | rfl | simp), (by first | rfl | (simp only [List.cons.injEq, Prod.mk.injEq, SV.v.injEq, Value.int.injEq, true_and, and_true]; omega) | simp), ?_⟩
                  (refine ⟨rfl, ?_⟩; rw [hE]; first | (simp only [decide_eq_true_eq]; done) | (simp; done))
              ·
                have h5 := of_decide_eq_false hb13; rw [if_neg (fun h => h5 h.1)] at hE
                refine wc_skip ?_
                refine q_block ?_
                refine q_thenK ?_
                refine ⟨[(3, _), (4, _), (5, _), (6, _), (7, _), (8, _), (9, _)], [(503, _)], ⟨rfl, rfl, rfl, rfl, rfl, rfl, rfl, trivial⟩, ⟨rfl, trivial⟩, _, _, (VLe.refl _), (by first | rfl | simp), (by first | rfl | (simp only [List.cons.injEq, Prod.mk.injEq, SV.v.injEq, Value.int.injEq, true_and, and_true]; omega) | simp), ?_⟩
                (refine ⟨rfl, ?_⟩; rw [hE]; first | (simp only [decide_eq_true_eq]; done) | (simp; done))
        ·
          rintro ρ σ uc17 ⟨nm, kn, hlc17, rfl, rfl, ⟨rfl, hE2⟩⟩
          rw [hE2] at hst
          refine wc_seq ?_
          refine wc_cutB 81 (decide (kn = false ∧ nm ∉ onceL A)) (ρk := [(3, _), (4, _), (5, _), (6, _), (7, _), (8, _)]) ⟨rfl, rfl, rfl, rfl, rfl, rfl, trivial⟩ ?_ ?_
          ·
            refine wc_region ?_
            refine rl_y (y_move rfl rfl) rfl ?_
            refine rl_y (y_not rfl rfl) rfl ?_
            refine rl_y (y_move rfl rfl) rfl ?_
            rcases Bool.eq_false_or_eq_true (!kn) with hg17_2 | hg17_2
            ·
              simp only [hg17_2]
              refine rl_on rfl rfl ?_
              refine rl_y (y_move rfl rfl) rfl ?_
              refine rl_on rfl rfl ?_
              refine rl_y (y_move rfl rfl) rfl ?_
              refine rl_on rfl rfl ?_
              refine rl_do rfl rfl ?_
              refine do_call_b (caps := []) 503 trivial rfl rfl Tryd.c31 rfl ?_
              intro adb capb ub hleb hslb
              refine ⟨_, rfl, FnP.mono (has_fn _ _ nm (by omega) ub (strS_of' rfl hslb)) ?_⟩
              rintro v u1 hle1 rfl
              refine rl_on rfl rfl ?_
              refine rl_y (y_not rfl rfl) rfl ?_
              refine rl_y (y_pick_t rfl rfl rfl) rfl ?_
              exact cutB_end rfl ⟨rfl, rfl, rfl, rfl, rfl, rfl, trivial⟩ (by cases kn <;> simp_all)
            ·
              simp only [hg17_2]
              refine rl_off rfl rfl rfl rfl ?_
              refine rl_off rfl rfl rfl rfl ?_
              refine rl_off rfl rfl rfl rfl ?_
              refine rl_off rfl rfl rfl rfl ?_
              refine rl_y (y_pick_f rfl rfl rfl) rfl ?_
              exact cutB_end rfl ⟨rfl, rfl, rfl, rfl, rfl, rfl, trivial⟩ (by cases kn <;> simp_all)
          refine q_then ?_
          refine wc_cond rfl (fun hb17 => ?_) (fun hb17 => ?_)
          ·
            have h17 := of_decide_eq_true hb17
            rw [h17.1, if_neg (by simp)] at hst
            have hs2 := onceL_snoc A nm
            rw [addOnce, if_neg h17.2, ← hst] at hs2
            refine wc_region ?_
            refine rl_y (y_move rfl rfl) rfl ?_
            refine rl_y (y_move rfl rfl) rfl ?_
            refine rl_do rfl rfl ?_
            refine do_buildSlice trivial Tryd.s29 Tryd.z9 (ps := [(_, _)]) rfl (xs := [_]) rfl rfl rfl rfl rfl rfl rfl ?_
            refine rl_do rfl rfl ?_
            refine do_append_s trivial rfl rfl Tryd.s29 Tryd.z9 rfl rfl rfl rfl rfl rfl (by first | rfl | exact oneAll | exact oneAll2 | simp [Value.oneCell', str]) (by omega) (by omega) (ρ' := [(4, _), (5, _), (6, _), (7, _)]) ⟨rfl, rfl, rfl, rfl, trivial⟩ rfl rfl rfl ?_
            refine rl_y (y_assign rfl rfl) rfl ?_
            refine rl_ren 85 503 rfl rfl rfl ?_
            refine rl_end (ρ' := [(3, _), (4, _), (5, _), (6, _), (7, _)]) ⟨rfl, rfl, rfl, rfl, rfl, trivial⟩ ?_
            refine q_block ?_
            refine q_then ?_
            refine wc_region ?_
            refine rl_y (y_move rfl rfl) rfl ?_
            refine rl_y (y_add rfl rfl rfl (wrap64_id (by omega))) rfl ?_
            refine rl_y (y_assign rfl rfl) rfl ?_
            refine rl_end (ρ' := [(3, _), (4, _), (5, _), (6, _), (7, _)]) ⟨rfl, rfl, rfl, rfl, rfl, trivial⟩ ?_
            refine q_thenK ?_
            refine ⟨m - 1, [(3, _), (4, _), (5, _), (6, _), (7, _)], [(503, _)], by omega, ⟨rfl, rfl, rfl, rfl, rfl, trivial⟩, ⟨rfl, trivial⟩, i + 1, by omega, hle5, (by first | (rw [hs2]; done) | (rw [hs2]; simp [strsC]; done)), (by first | rfl | simp), ?_⟩
            rfl
          ·
            have h17 := of_decide_eq_false hb17
            have hs2 : onceL (missI (namesOf bs) (noteNames (listB bs)) ((inls (listB bs)).take (i + 1))) = onceL A := by
              rw [hst]
              cases kn with
              | true => simp
              | false =>
                rw [if_neg (by simp), onceL_snoc, addOnce, if_pos (Decidable.of_not_not (fun h => h17 ⟨rfl, h⟩))]
            refine wc_skip ?_
            refine q_block ?_
            refine q_then ?_
            refine wc_region ?_
            refine rl_y (y_move rfl rfl) rfl ?_
            refine rl_y (y_add rfl rfl rfl (wrap64_id (by omega))) rfl ?_
            refine rl_y (y_assign rfl rfl) rfl ?_
            refine rl_end (ρ' := [(3, _), (4, _), (5, _), (6, _), (7, _)]) ⟨rfl, rfl, rfl, rfl, rfl, trivial⟩ ?_
            refine q_thenK ?_
            refine ⟨m - 1, [(3, _), (4, _), (5, _), (6, _), (7, _)], [(503, _)], by omega, ⟨rfl, rfl, rfl, rfl, rfl, trivial⟩, ⟨rfl, trivial⟩, i + 1, by omega, hle5, (by first | (rw [hs2]; done) | (rw [hs2]; simp [strsC]; done)), (by first | rfl | simp), ?_⟩
            rfl
      ·
        have hge := of_decide_eq_false hb5
        refine wc_exit ?_
        refine q_then_exit ?_
        refine q_then_exit ?_
        refine q_block_hit ?_
        refine q_then ?_
        refine wc_seq ?_
        refine wc_region ?_
        refine rl_y (y_move rfl rfl) rfl ?_
        refine rl_freeze 503 rfl ?_
        intro ad503 cap503 u503 hle503z hsl503
        refine rl_y (y_assign rfl rfl) rfl ?_
        refine rl_end (ρ' := [(2, _)]) ⟨rfl, trivial⟩ ?_
        refine q_then ?_
        refine wc_ret ?_
        refine fin1 (.tmp rfl) ?_
        rw [List.take_of_length_le (by omega)] at hsl503 ⊢
        have hmo : missOf bs = missI (namesOf bs) (noteNames (listB bs)) (inls (listB bs)) := missE_inls _ _ bs
        rw [← hmo] at hsl503 ⊢
        exact strS_of' rfl hsl503
end Go.Proofs.Ythkgcakpjknlbaa
namespace Go.Eng
open Go Go.RowKit
section
variable {F : Fx} {ρ : Env} {σ : Own} {u : View} {Q : Post} {σS : Own} {uS : View} {o : Oper}
/-- x[:i] -/
theorem y_slice_hi {x hi : Operand} {t e : TypeId} {sz by' n cap i : Nat} {ad : Option Addr} {k : IntKind} {z : Int} (ho : o.op = .slice t x none (some hi) none) (hS : tyS F.P t = some (e, sz, by')) (hx : opv ρ x = some (.v (.slice ad n cap)))
  (hhi : opv ρ hi = some (.v (.int k z))) (hz : z = (i : Int)) (hi' : i ≤ cap) : Yld F σS uS ρ σ u o (.v (.slice (if cap = 0 then ad else ad.map (·.add (0 * sz))) i cap)) := by
 intro bk hd a w hR
 subst hz
 refine ⟨_, rfl, fun w' _ => ?_⟩
 obtain ⟨inf, hu, hinf, rfl, _⟩ := tyS_some hS
 have hb : (Instr.sliceBounds true n cap none (some (.int k (i : Int))) none).run F.P w' = .ok (0, i, cap) w' := by
  simp [Instr.sliceBounds, Instr.sliceBound, asIntOf, hi']
 simp [execOp, ho, hR.op hx, hR.op hhi, Instr.sliceAt, run_underlying hu, Instr.slice, hb, sizeOf, typeInfo, hinf]
end
theorem SlC.upto {u : View} {ad : Option Addr} {n cap sz i : Nat} {xs : List Value} (h : SlC u ad n cap sz xs) (hi : i ≤ n) : SlC u (if cap = 0 then ad else ad.map (·.add (0 * sz))) i cap sz (xs.take (i * sz)) := by
 obtain ⟨h1, h2, h3, h4⟩ := h
 have hm : i * sz ≤ n * sz := Nat.mul_le_mul_right _ hi
 refine ⟨by rw [List.length_take, h1]; omega, by omega, h3, fun hn => ?_⟩
 obtain ⟨b, off, c, T, fr, rfl, hu, hc⟩ := h4 (by omega)
 rw [if_neg (by omega)]
 refine ⟨b, off, c, T, fr, by simp [add_eq], hu, ?_⟩
 rw [← hc]
 unfold cut
 rw [List.take_take, Nat.min_eq_left hm]
end Go.Eng
namespace Go.Proofs.Ythkgcakpjknlbaa
open Go Go.Eng
set_option linter.unusedSimpArgs false
set_option linter.unusedVariables false
set_option maxRecDepth 4000
theorem refCheck_fn (vm vb : Value) (bs : List Blk) (u : View) (hbig : szB bs ≤ 100000) (ha : BlkS u vb bs) :
    FnP Tryd.prog 14 [.agg #[vm, vb]] u fun r _ => r = .tuple #[str (checkOf bs).1, .int .i64 (checkOf bs).2] := by
  have hnl := namesOf_len bs
  have hml := missOf_len bs
  refine FnP.intro [.tmp 2, .tmp 3] Tryd.func14 rfl rfl rfl ?_
  intro w0 D hw0
  refine wc_seq ?_
  refine wc_region ?_
  refine rl_do rfl rfl ?_
  refine do_box trivial rfl (cs := [_, _]) rfl rfl rfl rfl ?_
  refine rl_y (y_assign rfl rfl) rfl ?_
  refine rl_y (y_assign rfl rfl) rfl ?_
  refine rl_end (ρ' := [(1, _)]) ⟨rfl, trivial⟩ ?_
  refine q_then ?_
  refine wc_seq ?_
  refine wc_region ?_
  refine rl_y (y_load_p rfl Tryd.k25 rfl rfl rfl (vs := [_, _]) rfl rfl rfl) rfl ?_
  refine rl_do rfl rfl ?_
  refine do_call (caps := []) trivial rfl rfl Tryd.c12 rfl (FnP.mono (refNames_fn vm vb bs _ hbig ha) ?_)
  rintro v uN hle0 ⟨adn, capn, rfl, hn⟩ hleN
  refine rl_y (y_assign rfl rfl) rfl ?_
  refine rl_end (ρ' := [(1, _), (4, _)]) ⟨rfl, rfl, trivial⟩ ?_
  refine q_then ?_
  refine wc_seq ?_
  refine wc_seq ?_
  refine wc_region ?_
  refine rl_y (y_assign rfl rfl) rfl ?_
  refine rl_end (ρ' := [(1, _), (4, _), (5, _)]) ⟨rfl, rfl, rfl, trivial⟩ ?_
  refine q_then ?_
  refine wc_block ?_
  refine wc_loop (fun m ρ σ u' => ∃ i : Nat, i + m = (namesOf bs).length ∧ VLe uN u' ∧ σ = [(1, (none, .box [vm, vb]))] ∧ ρ = [(1, .p 1 0), (4, .v (.slice adn (namesOf bs).length capn)), (5, .v (.int .i64 i))] ∧ (uN = u' ∧ twice [] (namesOf bs) = twice ((namesOf bs).take i) ((namesOf bs).drop i))) ((namesOf bs).length) ?_ ?_
  ·
    refine ⟨[(1, _), (4, _), (5, _)], [(1, _)], ⟨rfl, rfl, rfl, trivial⟩, ⟨rfl, trivial⟩, 0, by omega, VLe.refl _, (by first | rfl | simp), (by first | rfl | (simp only [List.cons.injEq, Prod.mk.injEq, SV.v.injEq, Value.int.injEq, true_and, and_true]; omega) | simp), ?_⟩
    exact ⟨rfl, by simp⟩
  ·
    rintro m ρ σ u' ⟨i, hi3, hle3, rfl, rfl, ⟨rfl, htw⟩⟩
    refine wc_seq ?_
    refine wc_seq ?_
    refine wc_region ?_
    refine rl_y (y_move rfl rfl) rfl ?_
    refine rl_y (y_move rfl rfl) rfl ?_
    refine rl_y (y_len_v rfl rfl Tryd.s29 rfl) rfl ?_
    refine rl_y (y_lss rfl rfl rfl) rfl ?_
    refine rl_end (ρ' := [(1, _), (4, _), (5, _), (12, _)]) ⟨rfl, rfl, rfl, rfl, trivial⟩ ?_
    refine q_then ?_
    refine wc_cond rfl (fun hb3 => ?_) (fun hb3 => ?_)
    ·
      have hlt : i < (namesOf bs).length := by have := of_decide_eq_true hb3; omega
      have hg := List.getElem?_eq_getElem hlt
      have hcut := cut_strsC hg
      have hcapn := hn.2.1
      refine wc_skip ?_
      refine q_then ?_
      refine wc_seq ?_
      refine wc_block ?_
      refine wc_seq ?_
      refine wc_draw Tryd.mixed rfl [] trivial ?_
      refine ra_y (i := 0) rfl (by kernel_rfl) (by kernel_rfl) (by kernel_rfl) (np_then (np_block (np_then (np_then (np_block (np_then (np_fin))))))) (y_move rfl rfl) rfl ?_
      refine ra_y (i := 1) rfl (by kernel_rfl) (by kernel_rfl) (by kernel_rfl) (np_then (np_block (np_then (np_then (np_block (np_then (np_fin))))))) (y_move rfl rfl) rfl ?_
      refine ra_y (i := 2) rfl (by kernel_rfl) (by kernel_rfl) (by kernel_rfl) (np_then (np_block (np_then (np_then (np_block (np_then (np_fin))))))) (y_slice_hi rfl Tryd.s29 rfl rfl (i := i) rfl (by omega)) rfl ?_
      refine ra_y (i := 3) rfl (by kernel_rfl) (by kernel_rfl) (by kernel_rfl) (np_then (np_block (np_then (np_then (np_block (np_then (np_fin))))))) (y_move rfl rfl) rfl ?_
      refine ra_y (i := 4) rfl (by kernel_rfl) (by kernel_rfl) (by kernel_rfl) (np_then (np_block (np_then (np_then (np_block (np_then (np_fin))))))) (y_move rfl rfl) rfl ?_
      refine ra_y (i := 5) rfl (by kernel_rfl) (by kernel_rfl) (by kernel_rfl) (np_then (np_block (np_then (np_then (np_block (np_then (np_fin))))))) (y_index_e rfl Tryd.s29 rfl rfl (by assumption) (by first | rfl | omega) (by omega)) rfl ?_
      refine ra_y (i := 6) rfl (by kernel_rfl) (by kernel_rfl) (by kernel_rfl) (np_then (np_block (np_then (np_then (np_block (np_then (np_fin))))))) (y_load_el rfl Tryd.k9 rfl (by assumption) (by omega) (by assumption) (vs := [_]) rfl rfl rfl rfl) rfl ?_
      refine ra_do (i := 7) rfl rfl (by kernel_rfl) ?_
      refine do_call_f (caps := []) trivial rfl rfl Tryd.c31 rfl (FnP.mono (has_fn _ ((namesOf bs).take i) ((namesOf bs)[i]) (by rw [List.length_take]; omega) uN ⟨_, _, by rw [List.length_take, Nat.min_eq_left (by omega)], by have h := hn.upto (i := i) (by omega); rw [List.length_take, Nat.min_eq_left (by omega)]; simpa [strsC, List.map_take] using h⟩) ?_)
      rintro v u1 hle1 rfl
      refine ra_end (by kernel_rfl) (ρ' := [(1, _), (4, _), (5, _), (22, _)]) ⟨rfl, rfl, rfl, rfl, trivial⟩ ?_
      refine q_then ?_
      refine wc_cond rfl (fun hb5 => ?_) (fun hb5 => ?_)
      ·
        have h5 := of_decide_eq_true hb5; have htw2 := twice_hit hg h5 htw
        refine wc_seq ?_
        refine wc_region ?_
        refine rl_y (y_move rfl rfl) rfl ?_
        refine rl_y (y_move rfl rfl) rfl ?_
        refine rl_y (y_index_e rfl Tryd.s29 rfl rfl (by assumption) (by first | rfl | omega) (by omega)) rfl ?_
        refine rl_y (y_load_el rfl Tryd.k9 rfl (by assumption) (by omega) (by assumption) (vs := [_]) rfl rfl rfl rfl) rfl ?_
        refine rl_y (y_assign rfl rfl) rfl ?_
        refine rl_y (y_assign rfl rfl) rfl ?_
        refine rl_end (ρ' := [(2, _), (3, _)]) ⟨rfl, rfl, trivial⟩ ?_
        refine q_then ?_
        refine wc_ret ?_
        refine q_block_ret ?_
        refine q_then_ret ?_
        refine q_then_ret ?_
        refine q_block_ret ?_
        refine q_then_ret ?_
        refine fin2 (.tmp rfl) (.tmp rfl) ?_
        unfold checkOf; rw [htw2]
      ·
        have h5 := of_decide_eq_false hb5; have htw2 := twice_take hg h5 htw
        refine wc_skip ?_
        refine q_block ?_
        refine q_then ?_
        refine wc_region ?_
        refine rl_y (y_move rfl rfl) rfl ?_
        refine rl_y (y_add rfl rfl rfl (wrap64_id (by omega))) rfl ?_
        refine rl_y (y_assign rfl rfl) rfl ?_
        refine rl_end (ρ' := [(1, _), (4, _), (5, _)]) ⟨rfl, rfl, rfl, trivial⟩ ?_
        refine q_thenK ?_
        refine ⟨m - 1, [(1, _), (4, _), (5, _)], [(1, _)], by omega, ⟨rfl, rfl, rfl, trivial⟩, ⟨rfl, trivial⟩, i + 1, by omega, hle3, (by first | rfl | simp), (by first | rfl | (simp only [List.cons.injEq, Prod.mk.injEq, SV.v.injEq, Value.int.injEq, true_and, and_true]; omega) | simp), ?_⟩
        exact ⟨rfl, htw2⟩
    ·
      have hge := of_decide_eq_false hb3
      rw [List.drop_eq_nil_of_le (by omega), twice] at htw
      refine wc_exit ?_
      refine q_then_exit ?_
      refine q_then_exit ?_
      refine q_block_hit ?_
      refine q_then ?_
      refine wc_seq ?_
      refine wc_region ?_
      refine rl_y (y_load_p rfl Tryd.k25 rfl rfl rfl (vs := [_, _]) rfl rfl rfl) rfl ?_
      refine rl_do rfl rfl ?_
      refine do_call (caps := []) trivial rfl rfl Tryd.c16 rfl (FnP.mono (refMissing_fn vm vb bs _ hbig (ha.mono hleN)) ?_)
      rintro v uM hle0 ⟨adm, capm, rfl, hm⟩ hleM
      refine rl_y (y_assign rfl rfl) rfl ?_
      refine rl_end (ρ' := [(6, _)]) ⟨rfl, trivial⟩ ?_
      refine q_then ?_
      refine wc_seq ?_
      refine wc_seq ?_
      refine wc_region ?_
      refine rl_y (y_move rfl rfl) rfl ?_
      refine rl_y (y_len_v rfl rfl Tryd.s29 rfl) rfl ?_
      refine rl_y (y_gtr rfl rfl rfl) rfl ?_
      refine rl_end (ρ' := [(6, _), (31, _)]) ⟨rfl, rfl, trivial⟩ ?_
      refine q_then ?_
      refine wc_cond rfl (fun hb8 => ?_) (fun hb8 => ?_)
      ·
        have h8 := of_decide_eq_true hb8
        refine wc_seq ?_
        obtain ⟨m0, mr, hmo, hmo2⟩ : ∃ m0 mr, onceL (missOf bs) = m0 :: mr ∧ (missOf bs).head? = some m0 := by
          cases h : onceL (missOf bs) with
          | nil => rw [h] at h8; simp at h8
          | cons a b => exact ⟨a, b, rfl, by rw [← onceL_head, h]; rfl⟩
        have hcut := cut_strsC (xs := onceL (missOf bs)) (i := 0) (x := m0) (by rw [hmo]; rfl)
        have hck : checkOf bs = (m0, 12) := by
          unfold checkOf
          rw [htw]
          cases h : missOf bs with
          | nil => rw [h] at hmo2; cases hmo2
          | cons a b => rw [h] at hmo2; cases hmo2; rfl
        have hpos : 0 < (onceL (missOf bs)).length := by rw [hmo]; simp
        refine wc_region ?_
        refine rl_y (y_move rfl rfl) rfl ?_
        refine rl_y (y_index_e rfl Tryd.s29 rfl rfl (by assumption) (j := 0) rfl (by omega)) rfl ?_
        refine rl_y (y_load_el rfl Tryd.k9 rfl (by assumption) (by omega) (by assumption) (vs := [_]) rfl rfl rfl rfl) rfl ?_
        refine rl_y (y_assign rfl rfl) rfl ?_
        refine rl_y (y_assign rfl rfl) rfl ?_
        refine rl_end (ρ' := [(2, _), (3, _)]) ⟨rfl, rfl, trivial⟩ ?_
        refine q_then ?_
        refine wc_ret ?_
        refine q_then_ret ?_
        refine fin2 (.tmp rfl) (.tmp rfl) ?_
        rw [hck]
      ·
        have h8 := of_decide_eq_false hb8
        refine wc_skip ?_
        refine q_then ?_
        refine wc_seq ?_
        refine wc_region ?_
        refine rl_y (y_assign rfl rfl) rfl ?_
        refine rl_y (y_assign rfl rfl) rfl ?_
        refine rl_end (ρ' := [(2, _), (3, _)]) ⟨rfl, rfl, trivial⟩ ?_
        refine q_then ?_
        refine wc_ret ?_
        refine fin2 (.tmp rfl) (.tmp rfl) ?_
        have hmo : onceL (missOf bs) = [] := List.eq_nil_of_length_eq_zero (by omega)
        have hmo2 : missOf bs = [] := by
          have h := onceL_head (missOf bs)
          rw [hmo] at h
          cases hx : missOf bs with
          | nil => rfl
          | cons a b => rw [hx] at h; cases h
        unfold checkOf
        rw [htw, hmo2]
        rfl
theorem sameBlocks_same (n : Nat) : ∀ (va vb : Value) (xs : List Blk), szB xs ≤ n → xs.length ≤ 140737488351232 → ∀ u : View, BlkS u va xs → BlkS u vb xs →
    FnP Tryd.prog 40 [va, vb] u fun v _ => v = .bool true := by
  induction n using Nat.strongRecOn with
  | _ n ih =>
  intro va vb xs hsz hx u ha hb
  obtain ⟨cs1, ⟨ad, cap, rfl, h1⟩, hc1⟩ := ha
  obtain ⟨cs2, ⟨ad2, cap2, rfl, h2⟩, hc2⟩ := hb
  refine FnP.intro [.tmp 4] Tryd.func40 rfl rfl rfl ?_
  intro w0 D hw0
  refine wc_seq ?_
  refine wc_region ?_
  refine rl_y (y_assign rfl rfl) rfl ?_
  refine rl_end (ρ' := [(0, _), (1, _)]) ⟨rfl, rfl, trivial⟩ ?_
  refine q_then ?_
  refine wc_seq ?_
  refine wc_seq ?_
  refine wc_region ?_
  refine rl_y (y_move rfl rfl) rfl ?_
  refine rl_y (y_len_v rfl rfl Tryd.s23 rfl) rfl ?_
  refine rl_y (y_move rfl rfl) rfl ?_
  refine rl_y (y_len_v rfl rfl Tryd.s23 rfl) rfl ?_
  refine rl_y (y_neq_refl rfl rfl rfl) rfl ?_
  refine rl_end (ρ' := [(0, _), (1, _), (12, _)]) ⟨rfl, rfl, rfl, trivial⟩ ?_
  refine q_then ?_
  refine wc_cond_f rfl (rfl) ?_
  refine wc_skip ?_
  refine q_then ?_
  refine wc_seq ?_
  refine wc_seq ?_
  refine wc_region ?_
  refine rl_y (y_assign rfl rfl) rfl ?_
  refine rl_end (ρ' := [(0, _), (1, _), (5, _)]) ⟨rfl, rfl, rfl, trivial⟩ ?_
  refine q_then ?_
  refine wc_block ?_
  refine wc_loop (fun m ρ σ u' => ∃ i : Nat, i + m = xs.length ∧ VLe u u' ∧ σ = [] ∧ ρ = [(0, .v (.slice ad xs.length cap)), (1, .v (.slice ad2 xs.length cap2)), (5, .v (.int .i64 i))] ∧ (u = u')) (xs.length) ?_ ?_
  ·
    refine ⟨[(0, _), (1, _), (5, _)], [], ⟨rfl, rfl, rfl, trivial⟩, trivial, 0, by omega, VLe.refl _, (by first | rfl | simp), (by first | rfl | (simp only [List.cons.injEq, Prod.mk.injEq, SV.v.injEq, Value.int.injEq, true_and, and_true]; omega) | simp), ?_⟩
    rfl
  ·
    rintro m ρ σ u' ⟨i, hi4, hle4, rfl, rfl, rfl⟩
    refine wc_seq ?_
    refine wc_seq ?_
    refine wc_region ?_
    refine rl_y (y_move rfl rfl) rfl ?_
    refine rl_y (y_move rfl rfl) rfl ?_
    refine rl_y (y_len_v rfl rfl Tryd.s23 rfl) rfl ?_
    refine rl_y (y_lss rfl rfl rfl) rfl ?_
    refine rl_end (ρ' := [(0, _), (1, _), (5, _), (16, _)]) ⟨rfl, rfl, rfl, rfl, trivial⟩ ?_
    refine q_then ?_
    refine wc_cond rfl (fun hb4 => ?_) (fun hb4 => ?_)
    ·
      refine wc_skip ?_
      refine q_then ?_
      refine wc_seq ?_
      refine wc_block ?_
      refine wc_seq ?_
      have hlt : i < xs.length := by have := of_decide_eq_true hb4; omega
      obtain ⟨k, lv, inf, t, d, ti, a, line, kids, vc, vp, vl, vk, hg, hcut1, s1, s2, s3, s4, hok⟩ := hc1.at hlt
      obtain ⟨vc', vp', vl', vk', hcut2, s1', s2', s3', s4', _⟩ := (hc2.get i _ hg).cells
      obtain ⟨_, _, _, _, _, _, ⟨_, ⟨okc, _⟩, ⟨okp, _⟩⟩, okl, okk⟩ := hok
      have oneAll := (hc1.get i _ hg).one
      rw [hcut1] at oneAll
      have oneAll2 := (hc2.get i _ hg).one
      rw [hcut2] at oneAll2
      have hkid := szB_kids hg
      refine wc_cutS [(6, .p 6 0), (7, .p 7 0)] [(6, (none, .box (blkV k lv inf t d ti a.id vc vp vl vk))), (7, (none, .box (blkV k lv inf t d ti a.id vc' vp' vl' vk')))] (ρa := [(0, _), (1, _), (5, _)]) (σa := []) ⟨rfl, rfl, rfl, trivial⟩ trivial ?_ ?_
      ·
        refine wc_draw Tryd.mixed rfl [] trivial ?_
        refine ra_y (i := 0) rfl (by kernel_rfl) (by kernel_rfl) (by kernel_rfl) (np_cutS) (y_move rfl rfl) rfl ?_
        refine ra_y (i := 1) rfl (by kernel_rfl) (by kernel_rfl) (by kernel_rfl) (np_cutS) (y_move rfl rfl) rfl ?_
        refine ra_y (i := 2) rfl (by kernel_rfl) (by kernel_rfl) (by kernel_rfl) (np_cutS) (y_index_e rfl Tryd.s23 rfl rfl (by assumption) (by first | rfl | omega) (by omega)) rfl ?_
        refine ra_y (i := 3) rfl (by kernel_rfl) (by kernel_rfl) (by kernel_rfl) (np_cutS) (y_load_el rfl Tryd.k42 rfl (by assumption) (by omega) (by assumption) (vs := [_, _, _, _, _, _, _, _, _, _, _]) rfl rfl rfl rfl) rfl ?_
        refine ra_y (i := 4) rfl (by kernel_rfl) (by kernel_rfl) (by kernel_rfl) (np_cutS) (y_move rfl rfl) rfl ?_
        refine ra_y (i := 5) rfl (by kernel_rfl) (by kernel_rfl) (by kernel_rfl) (np_cutS) (y_move rfl rfl) rfl ?_
        refine ra_y (i := 6) rfl (by kernel_rfl) (by kernel_rfl) (by kernel_rfl) (np_cutS) (y_index_e rfl Tryd.s23 rfl rfl (by assumption) (by first | rfl | omega) (by omega)) rfl ?_
        refine ra_y (i := 7) rfl (by kernel_rfl) (by kernel_rfl) (by kernel_rfl) (np_cutS) (y_load_el rfl Tryd.k42 rfl (by assumption) (by omega) (by assumption) (vs := [_, _, _, _, _, _, _, _, _, _, _]) rfl rfl rfl rfl) rfl ?_
        refine ra_all (is := [8, 9]) (by kernel_rfl) rfl ?_
        refine raall_cons rfl rfl ?_ ?_
        ·
          refine do_alloc trivial Tryd.z42 rfl rfl rfl ?_
          refine ra_do (i := 9) rfl rfl (by kernel_rfl) ?_
          refine do_alloc trivial Tryd.z42 rfl rfl rfl ?_
          refine ra_do (i := 10) rfl rfl (by kernel_rfl) ?_
          refine do_store_p trivial rfl Tryd.k42 rfl rfl rfl (vs := [_, _, _, _, _, _, _, _, _, _, _]) rfl rfl (by first | rfl | exact oneAll | exact oneAll2 | simp [Value.oneCell', str]) (Nat.le_of_ble_eq_true rfl) rfl ?_
          refine ra_do (i := 11) rfl rfl (by kernel_rfl) ?_
          refine do_store_p trivial rfl Tryd.k42 rfl rfl rfl (vs := [_, _, _, _, _, _, _, _, _, _, _]) rfl rfl (by first | rfl | exact oneAll | exact oneAll2 | simp [Value.oneCell', str]) (Nat.le_of_ble_eq_true rfl) rfl ?_
          exact cutS_endA (by kernel_rfl) ⟨rfl, rfl, rfl, rfl, rfl, trivial⟩ ⟨rfl, rfl, trivial⟩
        refine raall_cons rfl rfl ?_ ?_
        ·
          refine do_alloc trivial Tryd.z42 rfl rfl rfl ?_
          refine ra_do (i := 8) rfl rfl (by kernel_rfl) ?_
          refine do_alloc trivial Tryd.z42 rfl rfl rfl ?_
          refine ra_do (i := 10) rfl rfl (by kernel_rfl) ?_
          refine do_store_p trivial rfl Tryd.k42 rfl rfl rfl (vs := [_, _, _, _, _, _, _, _, _, _, _]) rfl rfl (by first | rfl | exact oneAll | exact oneAll2 | simp [Value.oneCell', str]) (Nat.le_of_ble_eq_true rfl) rfl ?_
          refine ra_do (i := 11) rfl rfl (by kernel_rfl) ?_
          refine do_store_p trivial rfl Tryd.k42 rfl rfl rfl (vs := [_, _, _, _, _, _, _, _, _, _, _]) rfl rfl (by first | rfl | exact oneAll | exact oneAll2 | simp [Value.oneCell', str]) (Nat.le_of_ble_eq_true rfl) rfl ?_
          exact cutS_endA (by kernel_rfl) ⟨rfl, rfl, rfl, rfl, rfl, trivial⟩ ⟨rfl, rfl, trivial⟩
        exact raall_nil
      refine q_then ?_
      refine wc_seq ?_
      refine wc_region ?_
      refine rl_y (y_field_p rfl Tryd.f42' rfl (by decide) rfl) rfl ?_
      refine rl_y (y_load_p rfl Tryd.k3 rfl rfl rfl (vs := [_]) rfl rfl rfl) rfl ?_
      refine rl_y (y_field_p rfl Tryd.f42' rfl (by decide) rfl) rfl ?_
      refine rl_y (y_load_p rfl Tryd.k3 rfl rfl rfl (vs := [_]) rfl rfl rfl) rfl ?_
      refine rl_y (y_neq_refl rfl rfl rfl) rfl ?_
      refine rl_y (y_move rfl rfl) rfl ?_
      refine rl_on rfl rfl ?_
      refine rl_y (y_field_p rfl Tryd.f42' rfl (by decide) rfl) rfl ?_
      refine rl_on rfl rfl ?_
      refine rl_y (y_load_p rfl Tryd.k3 rfl rfl rfl (vs := [_]) rfl rfl rfl) rfl ?_
      refine rl_on rfl rfl ?_
      refine rl_y (y_field_p rfl Tryd.f42' rfl (by decide) rfl) rfl ?_
      refine rl_on rfl rfl ?_
      refine rl_y (y_load_p rfl Tryd.k3 rfl rfl rfl (vs := [_]) rfl rfl rfl) rfl ?_
      refine rl_on rfl rfl ?_
      refine rl_y (y_neq_refl rfl rfl rfl) rfl ?_
      refine rl_y (y_pick_f rfl rfl rfl) rfl ?_
      refine rl_y (y_move rfl rfl) rfl ?_
      refine rl_on rfl rfl ?_
      refine rl_y (y_field_p rfl Tryd.f42' rfl (by decide) rfl) rfl ?_
      refine rl_on rfl rfl ?_
      refine rl_y (y_load_p rfl Tryd.k9 rfl rfl rfl (vs := [_]) rfl rfl rfl) rfl ?_
      refine rl_on rfl rfl ?_
      refine rl_y (y_field_p rfl Tryd.f42' rfl (by decide) rfl) rfl ?_
      refine rl_on rfl rfl ?_
      refine rl_y (y_load_p rfl Tryd.k9 rfl rfl rfl (vs := [_]) rfl rfl rfl) rfl ?_
      refine rl_on rfl rfl ?_
      refine rl_y (y_str_neq_refl rfl rfl rfl) rfl ?_
      refine rl_y (y_pick_f rfl rfl rfl) rfl ?_
      refine rl_y (y_move rfl rfl) rfl ?_
      refine rl_on rfl rfl ?_
      refine rl_y (y_field_p rfl Tryd.f42' rfl (by decide) rfl) rfl ?_
      refine rl_on rfl rfl ?_
      refine rl_y (y_load_p rfl Tryd.k9 rfl rfl rfl (vs := [_]) rfl rfl rfl) rfl ?_
      refine rl_on rfl rfl ?_
      refine rl_y (y_field_p rfl Tryd.f42' rfl (by decide) rfl) rfl ?_
      refine rl_on rfl rfl ?_
      refine rl_y (y_load_p rfl Tryd.k9 rfl rfl rfl (vs := [_]) rfl rfl rfl) rfl ?_
      refine rl_on rfl rfl ?_
      refine rl_y (y_str_neq_refl rfl rfl rfl) rfl ?_
      refine rl_y (y_pick_f rfl rfl rfl) rfl ?_
      refine rl_y (y_move rfl rfl) rfl ?_
      refine rl_on rfl rfl ?_
      refine rl_y (y_field_p rfl Tryd.f42' rfl (by decide) rfl) rfl ?_
      refine rl_on rfl rfl ?_
      refine rl_y (y_load_p rfl Tryd.k9 rfl rfl rfl (vs := [_]) rfl rfl rfl) rfl ?_
      refine rl_on rfl rfl ?_
      refine rl_y (y_field_p rfl Tryd.f42' rfl (by decide) rfl) rfl ?_
      refine rl_on rfl rfl ?_
      refine rl_y (y_load_p rfl Tryd.k9 rfl rfl rfl (vs := [_]) rfl rfl rfl) rfl ?_
      refine rl_on rfl rfl ?_
      refine rl_y (y_str_neq_refl rfl rfl rfl) rfl ?_
      refine rl_y (y_pick_f rfl rfl rfl) rfl ?_
      refine rl_y (y_move rfl rfl) rfl ?_
      refine rl_on rfl rfl ?_
      refine rl_y (y_field_p rfl Tryd.f42' rfl (by decide) rfl) rfl ?_
      refine rl_on rfl rfl ?_
      refine rl_y (y_load_p rfl Tryd.k9 rfl rfl rfl (vs := [_]) rfl rfl rfl) rfl ?_
      refine rl_on rfl rfl ?_
      refine rl_y (y_field_p rfl Tryd.f42' rfl (by decide) rfl) rfl ?_
      refine rl_on rfl rfl ?_
      refine rl_y (y_load_p rfl Tryd.k9 rfl rfl rfl (vs := [_]) rfl rfl rfl) rfl ?_
      refine rl_on rfl rfl ?_
      refine rl_y (y_str_neq_refl rfl rfl rfl) rfl ?_
      refine rl_y (y_pick_f rfl rfl rfl) rfl ?_
      refine rl_y (y_move rfl rfl) rfl ?_
      refine rl_on rfl rfl ?_
      refine rl_y (y_field_p rfl Tryd.f42' rfl (by decide) rfl) rfl ?_
      refine rl_on rfl rfl ?_
      refine rl_y (y_load_p rfl Tryd.k39 rfl rfl rfl (vs := [_, _, _]) rfl rfl rfl) rfl ?_
      refine rl_on rfl rfl ?_
      refine rl_y (y_field_p rfl Tryd.f42' rfl (by decide) rfl) rfl ?_
      refine rl_on rfl rfl ?_
      refine rl_y (y_load_p rfl Tryd.k39 rfl rfl rfl (vs := [_, _, _]) rfl rfl rfl) rfl ?_
      refine rl_on rfl rfl ?_
      refine rl_do rfl rfl ?_
      refine do_call_f (caps := []) trivial rfl rfl Tryd.c54 rfl (FnP.mono (attrs_same a _ _ _ _ okc okp u s1 s2 s1' s2') ?_)
      rintro v u1 hle1 rfl
      refine rl_on rfl rfl ?_
      refine rl_y (y_not rfl rfl) rfl ?_
      refine rl_y (y_pick_f rfl rfl rfl) rfl ?_
      refine rl_y (y_move rfl rfl) rfl ?_
      refine rl_on rfl rfl ?_
      refine rl_y (y_field_p rfl Tryd.f42' rfl (by decide) rfl) rfl ?_
      refine rl_on rfl rfl ?_
      refine rl_y (y_load_p rfl Tryd.k40 rfl rfl rfl (vs := [_]) rfl rfl rfl) rfl ?_
      refine rl_on rfl rfl ?_
      refine rl_y (y_field_p rfl Tryd.f42' rfl (by decide) rfl) rfl ?_
      refine rl_on rfl rfl ?_
      refine rl_y (y_load_p rfl Tryd.k40 rfl rfl rfl (vs := [_]) rfl rfl rfl) rfl ?_
      refine rl_on rfl rfl ?_
      refine rl_do rfl rfl ?_
      refine do_call_f (caps := []) trivial rfl rfl Tryd.c55 rfl (FnP.mono (inl_same okl s3 s3') ?_)
      rintro v u1 hle1 rfl
      refine rl_on rfl rfl ?_
      refine rl_y (y_not rfl rfl) rfl ?_
      refine rl_y (y_pick_f rfl rfl rfl) rfl ?_
      refine rl_y (y_move rfl rfl) rfl ?_
      refine rl_on rfl rfl ?_
      refine rl_y (y_field_p rfl Tryd.f42' rfl (by decide) rfl) rfl ?_
      refine rl_on rfl rfl ?_
      refine rl_y (y_load_p rfl Tryd.k23 rfl rfl rfl (vs := [_]) rfl rfl rfl) rfl ?_
      refine rl_on rfl rfl ?_
      refine rl_y (y_field_p rfl Tryd.f42' rfl (by decide) rfl) rfl ?_
      refine rl_on rfl rfl ?_
      refine rl_y (y_load_p rfl Tryd.k23 rfl rfl rfl (vs := [_]) rfl rfl rfl) rfl ?_
      refine rl_on rfl rfl ?_
      refine rl_do rfl rfl ?_
      refine do_call_f (caps := []) trivial rfl rfl Tryd.c40 rfl (FnP.mono (ih _ (by omega : szB kids < n) _ _ kids (Nat.le_refl _) okk u s4 s4') ?_)
      rintro v u1 hle1 rfl
      refine rl_on rfl rfl ?_
      refine rl_y (y_not rfl rfl) rfl ?_
      refine rl_y (y_pick_f rfl rfl rfl) rfl ?_
      refine rl_end (ρ' := [(0, _), (1, _), (5, _), (90, _)]) ⟨rfl, rfl, rfl, rfl, trivial⟩ ?_
      refine q_then ?_
      refine wc_cond_f rfl (rfl) ?_
      refine wc_skip ?_
      refine q_block ?_
      refine q_then ?_
      refine wc_region ?_
      refine rl_y (y_move rfl rfl) rfl ?_
      refine rl_y (y_add rfl rfl rfl (wrap64_id (by omega))) rfl ?_
      refine rl_y (y_assign rfl rfl) rfl ?_
      refine rl_end (ρ' := [(0, _), (1, _), (5, _)]) ⟨rfl, rfl, rfl, trivial⟩ ?_
      refine q_thenK ?_
      refine ⟨m - 1, [(0, _), (1, _), (5, _)], [], by omega, ⟨rfl, rfl, rfl, trivial⟩, trivial, i + 1, by omega, hle4, (by first | rfl | simp), (by first | rfl | (simp only [List.cons.injEq, Prod.mk.injEq, SV.v.injEq, Value.int.injEq, true_and, and_true]; omega) | simp), ?_⟩
      rfl
    ·
      refine wc_exit ?_
      refine q_then_exit ?_
      refine q_then_exit ?_
      refine q_block_hit ?_
      refine q_then ?_
      refine wc_seq ?_
      refine wc_region ?_
      refine rl_y (y_assign rfl rfl) rfl ?_
      refine rl_end (ρ' := [(4, _)]) ⟨rfl, trivial⟩ ?_
      refine q_then ?_
      refine wc_ret ?_
      refine fin1 (.tmp rfl) ?_
      rfl
theorem same_fn (va vb wa wb : Value) (ps : List (Bs × Bs)) (xs : List Blk) (hp : ps.length ≤ 140737488351232) (hx : xs.length ≤ 140737488351232) (u : View) (h1 : PrS u va ps) (h2 : PrS u wa ps) (h3 : BlkS u vb xs) (h4 : BlkS u wb xs) :
  FnP Tryd.prog 19 [.agg #[va, vb], .agg #[wa, wb]] u fun v _ => v = .bool true := by
 refine FnP.intro [.tmp 4] Tryd.func19 rfl rfl rfl ?_
 intro w0 D hw0
 refine wc_seq ?_
 refine wc_region ?_
 refine rl_do rfl rfl ?_
 refine do_box trivial rfl (cs := [_, _]) rfl rfl rfl rfl ?_
 refine rl_do rfl rfl ?_
 refine do_box trivial rfl (cs := [_, _]) rfl rfl rfl rfl ?_
 refine rl_y (y_assign rfl rfl) rfl ?_
 refine rl_end (ρ' := [(2, _), (3, _)]) ⟨rfl, rfl, trivial⟩ ?_
 refine q_then ?_
 refine wc_seq ?_
 refine wc_region ?_
 refine rl_y (y_field_p rfl Tryd.f25' rfl (by decide) rfl) rfl ?_
 refine rl_y (y_load_p rfl Tryd.k22 rfl rfl rfl (vs := [_]) rfl rfl rfl) rfl ?_
 refine rl_y (y_field_p rfl Tryd.f25' rfl (by decide) rfl) rfl ?_
 refine rl_y (y_load_p rfl Tryd.k22 rfl rfl rfl (vs := [_]) rfl rfl rfl) rfl ?_
 refine rl_do rfl rfl ?_
 refine do_call_f (caps := []) trivial rfl rfl Tryd.c39 rfl (FnP.mono (pairs_same _ _ ps hp u h1 h2) ?_)
 rintro v u1 hle1 rfl
 refine rl_y (y_move rfl rfl) rfl ?_
 refine rl_on rfl rfl ?_
 refine rl_y (y_field_p rfl Tryd.f25' rfl (by decide) rfl) rfl ?_
 refine rl_on rfl rfl ?_
 refine rl_y (y_load_p rfl Tryd.k23 rfl rfl rfl (vs := [_]) rfl rfl rfl) rfl ?_
 refine rl_on rfl rfl ?_
 refine rl_y (y_field_p rfl Tryd.f25' rfl (by decide) rfl) rfl ?_
 refine rl_on rfl rfl ?_
 refine rl_y (y_load_p rfl Tryd.k23 rfl rfl rfl (vs := [_]) rfl rfl rfl) rfl ?_
 refine rl_on rfl rfl ?_
 refine rl_do rfl rfl ?_
 refine do_call_f (caps := []) trivial rfl rfl Tryd.c40 rfl (FnP.mono (sameBlocks_same (szB xs) _ _ xs (Nat.le_refl _) hx u h3 h4) ?_)
 rintro v u1 hle1 rfl
 refine rl_y (y_pick_t rfl rfl rfl) rfl ?_
 refine rl_y (y_assign rfl rfl) rfl ?_
 refine rl_end (ρ' := [(4, _)]) ⟨rfl, trivial⟩ ?_
 refine q_then ?_
 refine wc_ret ?_
 refine fin1 (.tmp rfl) ?_
 rfl
end Go.Proofs.Ythkgcakpjknlbaa
namespace Go.Proofs.Ythkgcakpjknlbaa
open Go Go.Eng
set_option linter.unusedSimpArgs false
set_option linter.unusedVariables false
set_option maxRecDepth 4000
theorem labelChecks_fn (d : DDoc) (vm vb : Value) (u : View) (hT : TabU u) (hm : PrS u vm d.mts) (hb : BlkS u vb d.blocks) (hok : DocOk d) :
  FnP Tryd.prog 4 [.agg #[vm, vb]] u fun r _ => r = .bool true := by
 refine FnP.intro [.tmp 2] Tryd.func4 rfl rfl rfl ?_
 intro w0 D hw0
 refine wc_seq ?_
 refine wc_region ?_
 refine rl_do rfl rfl ?_
 refine do_box trivial rfl (cs := [_, _]) rfl rfl rfl rfl ?_
 refine rl_y (y_assign rfl rfl) rfl ?_
 refine rl_end (ρ' := [(1, _)]) ⟨rfl, trivial⟩ ?_
 refine q_then ?_
 refine wc_seq ?_
 refine wc_seq ?_
 refine wc_region ?_
 refine rl_y (y_load_p rfl Tryd.k25 rfl rfl rfl (vs := [_, _]) rfl rfl rfl) rfl ?_
 refine rl_do rfl rfl ?_
 refine do_call_f (caps := []) trivial rfl rfl Tryd.c8 rfl (FnP.mono (small_fn d vm vb u hm hb hok) ?_)
 rintro v u1 hle1 ⟨b, rfl, hsm⟩
 refine rl_y (y_not rfl rfl) rfl ?_
 refine rl_end (ρ' := [(1, _), (9, _)]) ⟨rfl, rfl, trivial⟩ ?_
 refine q_then ?_
 refine wc_cond rfl (fun hb1 => ?_) (fun hb1 => ?_)
 ·
  refine wc_seq ?_
  refine wc_region ?_
  refine rl_do rfl rfl ?_
  refine do_call_f (caps := []) trivial rfl rfl Tryd.c9 rfl (FnP.mono (lawawake_fn u hT) ?_)
  rintro v u1 hle1 rfl
  refine rl_y (y_assign rfl rfl) rfl ?_
  refine rl_end (ρ' := [(2, _)]) ⟨rfl, trivial⟩ ?_
  refine q_then ?_
  refine wc_ret ?_
  refine q_then_ret ?_
  refine fin1 (.tmp rfl) ?_
  rfl
 ·
  refine wc_skip ?_
  refine q_then ?_
  refine wc_seq ?_
  have hbt : b = true := by cases b <;> simp_all
  obtain ⟨_, _, hsz, hsm⟩ := hsm hbt
  refine wc_region ?_
  refine rl_y (y_load_p rfl Tryd.k25 rfl rfl rfl (vs := [_, _]) rfl rfl rfl) rfl ?_
  refine rl_do rfl rfl ?_
  refine do_call_f (caps := []) trivial rfl rfl Tryd.c13 rfl (FnP.mono (labCheck_fn vm vb d.blocks u (by omega) hb) ?_)
  rintro v u1 hle1 rfl
  refine rl_y (y_move rfl rfl) rfl ?_
  refine rl_y (y_extract rfl rfl rfl) rfl ?_
  refine rl_y (y_extract rfl rfl rfl) rfl ?_
  refine rl_y (y_assign rfl rfl) rfl ?_
  refine rl_y (y_assign rfl rfl) rfl ?_
  refine rl_end (ρ' := [(1, _), (3, _), (4, _)]) ⟨rfl, rfl, rfl, trivial⟩ ?_
  refine q_then ?_
  refine wc_seq ?_
  refine wc_region ?_
  refine rl_y (y_load_p rfl Tryd.k25 rfl rfl rfl (vs := [_, _]) rfl rfl rfl) rfl ?_
  refine rl_do rfl rfl ?_
  refine do_call_f (caps := []) trivial rfl rfl Tryd.c14 rfl (FnP.mono (refCheck_fn vm vb d.blocks u (by omega) hb) ?_)
  rintro v u1 hle1 rfl
  refine rl_y (y_move rfl rfl) rfl ?_
  refine rl_y (y_extract rfl rfl rfl) rfl ?_
  refine rl_y (y_extract rfl rfl rfl) rfl ?_
  refine rl_y (y_assign rfl rfl) rfl ?_
  refine rl_y (y_assign rfl rfl) rfl ?_
  refine rl_end (ρ' := [(3, _), (4, _), (5, _), (6, _)]) ⟨rfl, rfl, rfl, rfl, trivial⟩ ?_
  refine q_then ?_
  refine wc_seq ?_
  refine wc_region ?_
  refine rl_y (y_move rfl rfl) rfl ?_
  refine rl_y (y_move rfl rfl) rfl ?_
  refine rl_y (y_str_eql_refl rfl rfl rfl) rfl ?_
  refine rl_y (y_move rfl rfl) rfl ?_
  refine rl_on rfl rfl ?_
  refine rl_y (y_move rfl rfl) rfl ?_
  refine rl_on rfl rfl ?_
  refine rl_y (y_move rfl rfl) rfl ?_
  refine rl_on rfl rfl ?_
  refine rl_y (y_eql_refl rfl rfl rfl) rfl ?_
  refine rl_y (y_pick_t rfl rfl rfl) rfl ?_
  refine rl_y (y_move rfl rfl) rfl ?_
  refine rl_on rfl rfl ?_
  refine rl_do rfl rfl ?_
  refine do_call_f (caps := []) trivial rfl rfl Tryd.c9 rfl (FnP.mono (lawawake_fn u hT) ?_)
  rintro v u1 hle1 rfl
  refine rl_y (y_pick_t rfl rfl rfl) rfl ?_
  refine rl_y (y_assign rfl rfl) rfl ?_
  refine rl_end (ρ' := [(2, _)]) ⟨rfl, trivial⟩ ?_
  refine q_then ?_
  refine wc_ret ?_
  refine fin1 (.tmp rfl) ?_
  rfl
theorem check0 {bs : List Blk} (h : (checkOf bs).2 = 0) : (onceL (missOf bs)).length = 0 := by
  unfold checkOf at h
  have hl := onceL_len (missOf bs)
  cases ht : twice [] (namesOf bs) with
  | some s => rw [ht] at h; cases h
  | none =>
    rw [ht] at h
    cases hm : missOf bs with
    | nil => rfl
    | cons a b => rw [hm] at h; cases h
theorem check12 {bs : List Blk} (h : (checkOf bs).2 = 12) : 0 < (onceL (missOf bs)).length ∧ (onceL (missOf bs)).headD [] = (checkOf bs).1 := by
  have hh := onceL_head (missOf bs)
  unfold checkOf at h ⊢
  cases ht : twice [] (namesOf bs) with
  | some s => rw [ht] at h; cases h
  | none =>
    rw [ht] at h
    cases hm : missOf bs with
    | nil => rw [hm] at h; cases h
    | cons a b =>
      rw [hm] at hh
      cases ho : onceL (a :: b) with
      | nil => rw [ho] at hh; cases hh
      | cons x y => rw [ho] at hh; cases hh; exact ⟨by simp, rfl⟩
theorem cut_head {l : List Bs} (h : 0 < l.length) : cut (strsC l) (0 * 1) 1 = [str (l.headD [])] := by
  cases l with
  | nil => simp at h
  | cons a b => exact cut_strsC (i := 0) (x := a) rfl
theorem labelMissing_fn (d : DDoc) (vm vb : Value) (u : View) (hT : TabU u) (hm : PrS u vm d.mts) (hb : BlkS u vb d.blocks) (hok : DocOk d) :
  FnP Tryd.prog 5 [.agg #[vm, vb]] u fun r _ => r = .bool true := by
 refine FnP.intro [.tmp 2] Tryd.func5 rfl rfl rfl ?_
 intro w0 D hw0
 refine wc_seq ?_
 refine wc_region ?_
 refine rl_do rfl rfl ?_
 refine do_box trivial rfl (cs := [_, _]) rfl rfl rfl rfl ?_
 refine rl_y (y_assign rfl rfl) rfl ?_
 refine rl_end (ρ' := [(1, _)]) ⟨rfl, trivial⟩ ?_
 refine q_then ?_
 refine wc_seq ?_
 refine wc_seq ?_
 refine wc_region ?_
 refine rl_y (y_load_p rfl Tryd.k25 rfl rfl rfl (vs := [_, _]) rfl rfl rfl) rfl ?_
 refine rl_do rfl rfl ?_
 refine do_call_f (caps := []) trivial rfl rfl Tryd.c8 rfl (FnP.mono (small_fn d vm vb u hm hb hok) ?_)
 rintro v u1 hle1 ⟨b, rfl, hsm⟩
 refine rl_y (y_not rfl rfl) rfl ?_
 refine rl_end (ρ' := [(1, _), (8, _)]) ⟨rfl, rfl, trivial⟩ ?_
 refine q_then ?_
 refine wc_cond rfl (fun hb1 => ?_) (fun hb1 => ?_)
 ·
  refine wc_seq ?_
  refine wc_region ?_
  refine rl_do rfl rfl ?_
  refine do_call_f (caps := []) trivial rfl rfl Tryd.c9 rfl (FnP.mono (lawawake_fn u hT) ?_)
  rintro v u1 hle1 rfl
  refine rl_y (y_assign rfl rfl) rfl ?_
  refine rl_end (ρ' := [(2, _)]) ⟨rfl, trivial⟩ ?_
  refine q_then ?_
  refine wc_ret ?_
  refine q_then_ret ?_
  refine fin1 (.tmp rfl) ?_
  rfl
 ·
  refine wc_skip ?_
  refine q_then ?_
  refine wc_seq ?_
  have hbt : b = true := by cases b <;> simp_all
  obtain ⟨_, _, hsz, hsm⟩ := hsm hbt
  have hml := missOf_len d.blocks
  have hol := onceL_len (missOf d.blocks)
  refine wc_region ?_
  refine rl_y (y_load_p rfl Tryd.k25 rfl rfl rfl (vs := [_, _]) rfl rfl rfl) rfl ?_
  refine rl_do rfl rfl ?_
  refine do_call (caps := []) trivial rfl rfl Tryd.c15 rfl (FnP.mono (labMissing_fn vm vb d.blocks u (by omega) hb) ?_)
  rintro v uL hle0 ⟨lad, lcap, rfl, hl1⟩ hleL
  have hT := hT.mono hleL
  have hb := hb.mono hleL
  refine rl_y (y_assign rfl rfl) rfl ?_
  refine rl_end (ρ' := [(1, _), (3, _)]) ⟨rfl, rfl, trivial⟩ ?_
  refine q_then ?_
  refine wc_seq ?_
  refine wc_region ?_
  refine rl_y (y_load_p rfl Tryd.k25 rfl rfl rfl (vs := [_, _]) rfl rfl rfl) rfl ?_
  refine rl_do rfl rfl ?_
  refine do_call_f (caps := []) trivial rfl rfl Tryd.c13 rfl (FnP.mono (labCheck_fn vm vb d.blocks uL (by omega) hb) ?_)
  rintro v u1 hle1 rfl
  refine rl_y (y_move rfl rfl) rfl ?_
  refine rl_y (y_extract rfl rfl rfl) rfl ?_
  refine rl_y (y_extract rfl rfl rfl) rfl ?_
  refine rl_y (y_assign rfl rfl) rfl ?_
  refine rl_y (y_assign rfl rfl) rfl ?_
  refine rl_end (ρ' := [(1, _), (3, _), (4, _), (5, _)]) ⟨rfl, rfl, rfl, rfl, trivial⟩ ?_
  refine q_then ?_
  refine wc_seq ?_
  refine wc_seq ?_
  have hE0 := check0 (bs := d.blocks)
  have hE12 := check12 (bs := d.blocks)
  have hLs : StrS uL (.slice lad (onceL (missOf d.blocks)).length lcap) (onceL (missOf d.blocks)) := ⟨_, _, rfl, hl1⟩
  have hcut0 := cut_head (l := onceL (missOf d.blocks))
  generalize (checkOf d.blocks).2 = e at *
  generalize (checkOf d.blocks).1 = s at *
  refine wc_cutB 39 (false) (ρk := [(1, _), (3, _)]) ⟨rfl, rfl, trivial⟩ ?_ ?_
  ·
   refine wc_region ?_
   refine rl_y (y_move rfl rfl) rfl ?_
   refine rl_y (y_eql rfl rfl rfl) rfl ?_
   refine rl_y (y_move rfl rfl) rfl ?_
   rcases Bool.eq_false_or_eq_true (decide (e = 0)) with hg5_2 | hg5_2
   ·
    simp only [hg5_2]
    refine rl_on rfl rfl ?_
    refine rl_y (y_move rfl rfl) rfl ?_
    refine rl_on rfl rfl ?_
    refine rl_y (y_len_v rfl rfl Tryd.s29 rfl) rfl ?_
    refine rl_on rfl rfl ?_
    refine rl_y (y_gtr rfl rfl rfl) rfl ?_
    refine rl_y (y_pick_t rfl rfl rfl) rfl ?_
    refine rl_y (y_move rfl rfl) rfl ?_
    rcases Bool.eq_false_or_eq_true (decide ((0 : Int) < (onceL (missOf d.blocks)).length)) with hg5_7 | hg5_7
    ·
     simp only [hg5_7]
     refine rl_off rfl rfl rfl rfl ?_
     refine rl_off rfl rfl rfl rfl ?_
     refine rl_off rfl rfl rfl rfl ?_
     refine rl_off_u rfl rfl rfl ?_
     refine rl_off_u rfl rfl rfl ?_
     refine rl_off_u rfl rfl rfl ?_
     refine rl_off_u rfl rfl rfl ?_
     refine rl_off_u rfl rfl rfl ?_
     refine rl_off_u rfl rfl rfl ?_
     refine rl_off_u rfl rfl rfl ?_
     refine rl_off_u rfl rfl rfl ?_
     refine rl_off_u rfl rfl rfl ?_
     refine rl_off_u rfl rfl rfl ?_
     refine rl_off rfl rfl rfl rfl ?_
     refine rl_y (y_pick_t rfl rfl rfl) rfl ?_
     exact cutB_end rfl ⟨rfl, rfl, trivial⟩ (by first | rfl | (exfalso; simp only [decide_eq_true_eq, decide_eq_false_iff_not] at *; omega) | (have q := hE12 (of_decide_eq_true hg5_10); first | (exact decide_eq_false (fun h => h q.2)) | (exfalso; simp only [decide_eq_true_eq, decide_eq_false_iff_not] at *; omega)))
    ·
     simp only [hg5_7]
     refine rl_on rfl rfl ?_
     refine rl_y (y_move rfl rfl) rfl ?_
     refine rl_on rfl rfl ?_
     refine rl_y (y_eql rfl rfl rfl) rfl ?_
     refine rl_on rfl rfl ?_
     refine rl_y (y_move rfl rfl) rfl ?_
     rcases Bool.eq_false_or_eq_true (decide (e = 12)) with hg5_10 | hg5_10
     ·
      simp only [hg5_10]
      refine rl_on rfl rfl ?_
      refine rl_y (y_move rfl rfl) rfl ?_
      refine rl_on rfl rfl ?_
      refine rl_y (y_len_v rfl rfl Tryd.s29 rfl) rfl ?_
      refine rl_on rfl rfl ?_
      refine rl_y (y_eql rfl rfl rfl) rfl ?_
      refine rl_on rfl rfl ?_
      refine rl_y (y_move rfl rfl) rfl ?_
      rcases Bool.eq_false_or_eq_true (decide (((onceL (missOf d.blocks)).length : Int) = 0)) with hg5_14 | hg5_14
      ·
       simp only [hg5_14]
       refine rl_off rfl rfl rfl rfl ?_
       refine rl_off rfl rfl rfl rfl ?_
       refine rl_off rfl rfl rfl rfl ?_
       refine rl_off rfl rfl rfl rfl ?_
       refine rl_off rfl rfl rfl rfl ?_
       refine rl_on rfl rfl ?_
       refine rl_y (y_pick_t rfl rfl rfl) rfl ?_
       refine rl_on rfl rfl ?_
       refine rl_y (y_pick_t rfl rfl rfl) rfl ?_
       refine rl_y (y_pick_f rfl rfl rfl) rfl ?_
       exact cutB_end rfl ⟨rfl, rfl, trivial⟩ (by first | rfl | (exfalso; simp only [decide_eq_true_eq, decide_eq_false_iff_not] at *; omega) | (have q := hE12 (of_decide_eq_true hg5_10); first | (exact decide_eq_false (fun h => h q.2)) | (exfalso; simp only [decide_eq_true_eq, decide_eq_false_iff_not] at *; omega)))
      ·
       simp only [hg5_14]
       refine rl_on rfl rfl ?_
       refine rl_y (y_move rfl rfl) rfl ?_
       refine rl_on rfl rfl ?_
       refine rl_y (y_index_e rfl Tryd.s29 rfl rfl hl1 (j := 0) rfl (by have := of_decide_eq_false hg5_14; omega)) rfl ?_
       refine rl_on rfl rfl ?_
       refine rl_y (y_load_el rfl Tryd.k9 rfl hl1 (by have := of_decide_eq_false hg5_14; omega) (hcut0 (by have := of_decide_eq_false hg5_14; omega)) (vs := [_]) rfl rfl rfl rfl) rfl ?_
       refine rl_on rfl rfl ?_
       refine rl_y (y_move rfl rfl) rfl ?_
       refine rl_on rfl rfl ?_
       refine rl_y (y_str_neq rfl rfl rfl) rfl ?_
       refine rl_on rfl rfl ?_
       refine rl_y (y_pick_f rfl rfl rfl) rfl ?_
       refine rl_on rfl rfl ?_
       refine rl_y (y_pick_t rfl rfl rfl) rfl ?_
       refine rl_y (y_pick_f rfl rfl rfl) rfl ?_
       exact cutB_end rfl ⟨rfl, rfl, trivial⟩ (by first | rfl | (exfalso; simp only [decide_eq_true_eq, decide_eq_false_iff_not] at *; omega) | (have q := hE12 (of_decide_eq_true hg5_10); first | (exact decide_eq_false (fun h => h q.2)) | (exfalso; simp only [decide_eq_true_eq, decide_eq_false_iff_not] at *; omega)))
     ·
      simp only [hg5_10]
      refine rl_off rfl rfl rfl rfl ?_
      refine rl_off rfl rfl rfl rfl ?_
      refine rl_off rfl rfl rfl rfl ?_
      refine rl_off rfl rfl rfl rfl ?_
      refine rl_off_u rfl rfl rfl ?_
      refine rl_off_u rfl rfl rfl ?_
      refine rl_off_u rfl rfl rfl ?_
      refine rl_off_u rfl rfl rfl ?_
      refine rl_off_u rfl rfl rfl ?_
      refine rl_off rfl rfl rfl rfl ?_
      refine rl_on rfl rfl ?_
      refine rl_y (y_pick_f rfl rfl rfl) rfl ?_
      refine rl_y (y_pick_f rfl rfl rfl) rfl ?_
      exact cutB_end rfl ⟨rfl, rfl, trivial⟩ (by first | rfl | (exfalso; simp only [decide_eq_true_eq, decide_eq_false_iff_not] at *; omega) | (have q := hE12 (of_decide_eq_true hg5_10); first | (exact decide_eq_false (fun h => h q.2)) | (exfalso; simp only [decide_eq_true_eq, decide_eq_false_iff_not] at *; omega)))
   ·
    simp only [hg5_2]
    refine rl_off rfl rfl rfl rfl ?_
    refine rl_off rfl rfl rfl rfl ?_
    refine rl_off rfl rfl rfl rfl ?_
    refine rl_y (y_pick_f rfl rfl rfl) rfl ?_
    refine rl_y (y_move rfl rfl) rfl ?_
    refine rl_on rfl rfl ?_
    refine rl_y (y_move rfl rfl) rfl ?_
    refine rl_on rfl rfl ?_
    refine rl_y (y_eql rfl rfl rfl) rfl ?_
    refine rl_on rfl rfl ?_
    refine rl_y (y_move rfl rfl) rfl ?_
    rcases Bool.eq_false_or_eq_true (decide (e = 12)) with hg5_10 | hg5_10
    ·
     simp only [hg5_10]
     refine rl_on rfl rfl ?_
     refine rl_y (y_move rfl rfl) rfl ?_
     refine rl_on rfl rfl ?_
     refine rl_y (y_len_v rfl rfl Tryd.s29 rfl) rfl ?_
     refine rl_on rfl rfl ?_
     refine rl_y (y_eql rfl rfl rfl) rfl ?_
     refine rl_on rfl rfl ?_
     refine rl_y (y_move rfl rfl) rfl ?_
     rcases Bool.eq_false_or_eq_true (decide (((onceL (missOf d.blocks)).length : Int) = 0)) with hg5_14 | hg5_14
     ·
      simp only [hg5_14]
      refine rl_off rfl rfl rfl rfl ?_
      refine rl_off rfl rfl rfl rfl ?_
      refine rl_off rfl rfl rfl rfl ?_
      refine rl_off rfl rfl rfl rfl ?_
      refine rl_off rfl rfl rfl rfl ?_
      refine rl_on rfl rfl ?_
      refine rl_y (y_pick_t rfl rfl rfl) rfl ?_
      refine rl_on rfl rfl ?_
      refine rl_y (y_pick_t rfl rfl rfl) rfl ?_
      refine rl_y (y_pick_f rfl rfl rfl) rfl ?_
      exact cutB_end rfl ⟨rfl, rfl, trivial⟩ (by first | rfl | (exfalso; simp only [decide_eq_true_eq, decide_eq_false_iff_not] at *; omega) | (have q := hE12 (of_decide_eq_true hg5_10); first | (exact decide_eq_false (fun h => h q.2)) | (exfalso; simp only [decide_eq_true_eq, decide_eq_false_iff_not] at *; omega)))
     ·
      simp only [hg5_14]
      refine rl_on rfl rfl ?_
      refine rl_y (y_move rfl rfl) rfl ?_
      refine rl_on rfl rfl ?_
      refine rl_y (y_index_e rfl Tryd.s29 rfl rfl hl1 (j := 0) rfl (by have := of_decide_eq_false hg5_14; omega)) rfl ?_
      refine rl_on rfl rfl ?_
      refine rl_y (y_load_el rfl Tryd.k9 rfl hl1 (by have := of_decide_eq_false hg5_14; omega) (hcut0 (by have := of_decide_eq_false hg5_14; omega)) (vs := [_]) rfl rfl rfl rfl) rfl ?_
      refine rl_on rfl rfl ?_
      refine rl_y (y_move rfl rfl) rfl ?_
      refine rl_on rfl rfl ?_
      refine rl_y (y_str_neq rfl rfl rfl) rfl ?_
      refine rl_on rfl rfl ?_
      refine rl_y (y_pick_f rfl rfl rfl) rfl ?_
      refine rl_on rfl rfl ?_
      refine rl_y (y_pick_t rfl rfl rfl) rfl ?_
      refine rl_y (y_pick_f rfl rfl rfl) rfl ?_
      exact cutB_end rfl ⟨rfl, rfl, trivial⟩ (by first | rfl | (exfalso; simp only [decide_eq_true_eq, decide_eq_false_iff_not] at *; omega) | (have q := hE12 (of_decide_eq_true hg5_10); first | (exact decide_eq_false (fun h => h q.2)) | (exfalso; simp only [decide_eq_true_eq, decide_eq_false_iff_not] at *; omega)))
    ·
     simp only [hg5_10]
     refine rl_off rfl rfl rfl rfl ?_
     refine rl_off rfl rfl rfl rfl ?_
     refine rl_off rfl rfl rfl rfl ?_
     refine rl_off rfl rfl rfl rfl ?_
     refine rl_off_u rfl rfl rfl ?_
     refine rl_off_u rfl rfl rfl ?_
     refine rl_off_u rfl rfl rfl ?_
     refine rl_off_u rfl rfl rfl ?_
     refine rl_off_u rfl rfl rfl ?_
     refine rl_off rfl rfl rfl rfl ?_
     refine rl_on rfl rfl ?_
     refine rl_y (y_pick_f rfl rfl rfl) rfl ?_
     refine rl_y (y_pick_f rfl rfl rfl) rfl ?_
     exact cutB_end rfl ⟨rfl, rfl, trivial⟩ (by first | rfl | (exfalso; simp only [decide_eq_true_eq, decide_eq_false_iff_not] at *; omega) | (have q := hE12 (of_decide_eq_true hg5_10); first | (exact decide_eq_false (fun h => h q.2)) | (exfalso; simp only [decide_eq_true_eq, decide_eq_false_iff_not] at *; omega)))
  refine q_then ?_
  refine wc_cond_f rfl (rfl) ?_
  refine wc_skip ?_
  refine q_then ?_
  refine wc_seq ?_
  refine wc_region ?_
  refine rl_y (y_move rfl rfl) rfl ?_
  refine rl_y (y_load_p rfl Tryd.k25 rfl rfl rfl (vs := [_, _]) rfl rfl rfl) rfl ?_
  refine rl_do rfl rfl ?_
  refine do_call (caps := []) trivial rfl rfl Tryd.c16 rfl (FnP.mono (refMissing_fn vm vb d.blocks uL (by omega) hb) ?_)
  rintro v uM hle0 hms hleM
  refine rl_do rfl rfl ?_
  refine do_call_f (caps := []) trivial rfl rfl Tryd.c10 rfl (FnP.mono (lawTexts_fn _ _ (onceL (missOf d.blocks)) (by omega) uM (hLs.mono hleM) hms) ?_)
  rintro v u1 hle1 rfl
  refine rl_y (y_move rfl rfl) rfl ?_
  refine rl_on rfl rfl ?_
  refine rl_do rfl rfl ?_
  refine do_call_f (caps := []) trivial rfl rfl Tryd.c9 rfl (FnP.mono (lawawake_fn uM (hT.mono hleM)) ?_)
  rintro v u1 hle1 rfl
  refine rl_y (y_pick_t rfl rfl rfl) rfl ?_
  refine rl_y (y_assign rfl rfl) rfl ?_
  refine rl_end (ρ' := [(2, _)]) ⟨rfl, trivial⟩ ?_
  refine q_then ?_
  refine wc_ret ?_
  refine fin1 (.tmp rfl) ?_
  rfl
end Go.Proofs.Ythkgcakpjknlbaa
namespace Go.Proofs.Ythkgcakpjknlbaa
open Go Go.Eng
set_option linter.unusedSimpArgs false
set_option linter.unusedVariables false
set_option maxRecDepth 4000
/-! ### the document behind Links is no larger -/
mutual
theorem lnkI1_sz (D : Bs → Option Blk) : ∀ x : Inl, sz1 (lnkI1 D x) = sz1 x
  | .mk k t d ti a args cites kids => by
    have := lnkI_sz D kids
    simp only [lnkI1]
    split <;> simp only [sz1, this]
theorem lnkI_sz (D : Bs → Option Blk) : ∀ xs : List Inl, szI (lnkI D xs) = szI xs
  | [] => by simp [lnkI]
  | x :: xs => by simp only [lnkI, szI, lnkI1_sz D x, lnkI_sz D xs]
end
mutual
theorem lnkI1_sm (D : Bs → Option Blk) (hD : ∀ s, (destO (D s)).length + (titleO (D s)).length ≤ 300) : ∀ x : Inl, smI1 x → smI1 (lnkI1 D x)
  | .mk k t d ti a args cites kids, h => by
    unfold smI1 at h
    have hk := lnkI_sm D hD kids h.2
    simp only [lnkI1]
    split
    · unfold smI1 NodeSm at *
      have := hD t
      obtain ⟨⟨h1, h2⟩, _⟩ := h
      exact ⟨⟨by simp only [List.length_nil]; omega, h2⟩, hk⟩
    · unfold smI1
      exact ⟨h.1, hk⟩
theorem lnkI_sm (D : Bs → Option Blk) (hD : ∀ s, (destO (D s)).length + (titleO (D s)).length ≤ 300) : ∀ xs : List Inl, smI xs → smI (lnkI D xs)
  | [], _ => by unfold lnkI smI; trivial
  | x :: xs, h => by
    unfold smI at h
    unfold lnkI smI
    exact ⟨lnkI1_sm D hD x h.1, lnkI_sm D hD xs h.2⟩
end
mutual
theorem rebb_sz (kp : Blk → Bool) (g : List Inl → List Inl) (hg : ∀ l, szI (g l) = szI l) : ∀ x : Blk, szB (rebb kp g x) ≤ szb x
  | .mk k lv inf t d ti a line kids => by
    have := rebB_sz kp g hg kids
    simp only [rebb]
    split
    · simp only [szB, szb, hg line]; omega
    · simp [szB]
theorem rebB_sz (kp : Blk → Bool) (g : List Inl → List Inl) (hg : ∀ l, szI (g l) = szI l) : ∀ xs : List Blk, szB (rebB kp g xs) ≤ szB xs
  | [] => by simp [rebB]
  | x :: xs => by
    have := rebb_sz kp g hg x
    have := rebB_sz kp g hg xs
    simp only [rebB, szB, szB_append]; omega
end
mutual
theorem rebb_sm (kp : Blk → Bool) (g : List Inl → List Inl) (hg : ∀ l, smI l → smI (g l)) : ∀ x : Blk, smB1 x → smB (rebb kp g x)
  | .mk k lv inf t d ti a line kids, h => by
    unfold smB1 at h
    obtain ⟨h1, h2, h3, h4, h5, h6⟩ := h
    have := rebB_sm kp g hg kids h6
    simp only [rebb]
    split
    · unfold smB smB1; exact ⟨⟨h1, h2, h3, h4, hg _ h5, this⟩, by unfold smB; trivial⟩
    · unfold smB; trivial
theorem rebB_sm (kp : Blk → Bool) (g : List Inl → List Inl) (hg : ∀ l, smI l → smI (g l)) : ∀ xs : List Blk, smB xs → smB (rebB kp g xs)
  | [], _ => by unfold rebB smB; trivial
  | x :: xs, h => by
    unfold smB at h
    simp only [rebB]
    exact smB_append (rebb_sm kp g hg x h.1) (rebB_sm kp g hg xs h.2)
end
theorem defs_len {bs : List Blk} (hs : smB bs) (s : Bs) : (destO (defOf (listB bs) s)).length + (titleO (defOf (listB bs) s)).length ≤ 300 := by
  cases h : defOf (listB bs) s with
  | none => simp [destO, titleO]
  | some b =>
    obtain ⟨h1, _⟩ := smB_mem _ bs (Nat.le_refl _) hs b (List.mem_of_find?_eq_some h)
    obtain ⟨k, lv, inf, t, d, ti, a, line, kids⟩ := b
    unfold smB1 at h1
    simp only [destO, titleO]
    omega
theorem lnkDoc_sz (bs : List Blk) : szB (lnkDoc bs) ≤ szB bs := rebB_sz _ _ (lnkI_sz _) bs
theorem lnkDoc_sm {bs : List Blk} (hs : smB bs) : smB (lnkDoc bs) := rebB_sm _ _ (lnkI_sm _ (defs_len hs)) bs hs
/-- what Links yields, by its parts -/
def lkP (mts : List (Bs × Bs)) (bs : List Blk) : List (Bs × Bs) := if lnkOk bs = true then mts else []
def lkB (bs : List Blk) : List Blk := if lnkOk bs = true then lnkDoc bs else []
def lkE (bs : List Blk) : Int := if lnkOk bs = true then 0 else 12
theorem LinksR.norm {u : View} {mts : List (Bs × Bs)} {bs : List Blk} {r : Value} (h : LinksR u mts bs r) : ∃ pad pcap bad bcap, r = .tuple #[.agg #[.slice pad (lkP mts bs).length pcap, .slice bad (lkB bs).length bcap], .int .i64 (lkE bs)] ∧ PrS u (.slice pad (lkP mts bs).length pcap) (lkP mts bs) ∧ BlkS u (.slice bad (lkB bs).length bcap) (lkB bs) := by
  unfold lkP lkB lkE
  rcases h with ⟨h, vm, vb, rfl, h1, h2⟩ | ⟨h, rfl⟩
  · rw [if_pos h, if_pos h, if_pos h]
    have h3 := h1
    have h4 := h2
    obtain ⟨pad, pcap, rfl, _⟩ := h3
    obtain ⟨_, ⟨bad, bcap, rfl, _⟩, _⟩ := h4
    exact ⟨pad, pcap, bad, bcap, rfl, h1, h2⟩
  · have h' : ¬ lnkOk bs = true := by rw [h]; decide
    rw [if_neg h', if_neg h', if_neg h']
    exact ⟨none, 0, none, 0, rfl, nilPr _, nilBlk _⟩
theorem lkB_len (bs : List Blk) : (lkB bs).length ≤ szB bs := by
  have h1 := lnkDoc_sz bs
  have h2 := len_szB (lnkDoc bs)
  unfold lkB
  split
  · omega
  · simp
theorem lkP_len (mts : List (Bs × Bs)) (bs : List Blk) : (lkP mts bs).length ≤ mts.length := by
 unfold lkP
 split <;> simp
theorem labelLinks_fn (d : DDoc) (vm vb : Value) (u : View) (hT : TabU u) (hm : PrS u vm d.mts) (hb : BlkS u vb d.blocks) (hok : DocOk d) :
  FnP Tryd.prog 6 [.agg #[vm, vb]] u fun r _ => r = .bool true := by
 have hlb := lkB_len d.blocks
 have hlp := lkP_len d.mts d.blocks
 refine FnP.intro [.tmp 2] Tryd.func6 rfl rfl rfl ?_
 intro w0 D hw0
 refine wc_seq ?_
 refine wc_region ?_
 refine rl_do rfl rfl ?_
 refine do_box trivial rfl (cs := [_, _]) rfl rfl rfl rfl ?_
 refine rl_y (y_assign rfl rfl) rfl ?_
 refine rl_end (ρ' := [(1, _)]) ⟨rfl, trivial⟩ ?_
 refine q_then ?_
 refine wc_seq ?_
 refine wc_seq ?_
 refine wc_region ?_
 refine rl_y (y_load_p rfl Tryd.k25 rfl rfl rfl (vs := [_, _]) rfl rfl rfl) rfl ?_
 refine rl_do rfl rfl ?_
 refine do_call_f (caps := []) trivial rfl rfl Tryd.c8 rfl (FnP.mono (small_fn d vm vb u hm hb hok) ?_)
 rintro v u1 hle1 ⟨b, rfl, hsm⟩
 refine rl_y (y_not rfl rfl) rfl ?_
 refine rl_end (ρ' := [(1, _), (9, _)]) ⟨rfl, rfl, trivial⟩ ?_
 refine q_then ?_
 refine wc_cond rfl (fun hb1 => ?_) (fun hb1 => ?_)
 ·
  refine wc_seq ?_
  refine wc_region ?_
  refine rl_do rfl rfl ?_
  refine do_call_f (caps := []) trivial rfl rfl Tryd.c9 rfl (FnP.mono (lawawake_fn u hT) ?_)
  rintro v u1 hle1 rfl
  refine rl_y (y_assign rfl rfl) rfl ?_
  refine rl_end (ρ' := [(2, _)]) ⟨rfl, trivial⟩ ?_
  refine q_then ?_
  refine wc_ret ?_
  refine q_then_ret ?_
  refine fin1 (.tmp rfl) ?_
  rfl
 ·
  refine wc_skip ?_
  refine q_then ?_
  refine wc_seq ?_
  have hbt : b = true := by cases b <;> simp_all
  obtain ⟨hml, _, hsz, hsm⟩ := hsm hbt
  refine wc_region ?_
  refine rl_y (y_load_p rfl Tryd.k25 rfl rfl rfl (vs := [_, _]) rfl rfl rfl) rfl ?_
  refine rl_do rfl rfl ?_
  refine do_call (caps := []) trivial rfl rfl Tryd.c17 rfl (FnP.mono (labLinks_fn vm vb d.mts d.blocks u (by omega) hsm (by omega) hm hb) ?_)
  rintro v uA hle0 hR1 hleA
  obtain ⟨pad, pcap, bad, bcap, rfl, hp1, hb1⟩ := hR1.norm
  refine rl_y (y_move rfl rfl) rfl ?_
  refine rl_y (y_extract rfl rfl rfl) rfl ?_
  refine rl_y (y_extract rfl rfl rfl) rfl ?_
  refine rl_do rfl rfl ?_
  refine do_alloc trivial Tryd.z25 rfl rfl rfl ?_
  refine rl_do rfl rfl ?_
  refine do_store_p trivial rfl Tryd.k25 rfl rfl rfl (vs := [_, _]) rfl rfl (by first | rfl | exact oneAll | exact oneAll2 | simp [Value.oneCell', str]) (Nat.le_of_ble_eq_true rfl) rfl ?_
  refine rl_y (y_assign rfl rfl) rfl ?_
  refine rl_end (ρ' := [(1, _), (3, _), (4, _)]) ⟨rfl, rfl, rfl, trivial⟩ ?_
  refine q_then ?_
  refine wc_seq ?_
  refine wc_region ?_
  refine rl_y (y_load_p rfl Tryd.k25 rfl rfl rfl (vs := [_, _]) rfl rfl rfl) rfl ?_
  refine rl_do rfl rfl ?_
  refine do_call (caps := []) trivial rfl rfl Tryd.c18 rfl (FnP.mono (refLinks_fn vm vb d.mts d.blocks uA (by omega) (hm.mono hleA) (hb.mono hleA)) ?_)
  rintro v uB hle0 hR2 hleB
  obtain ⟨pad2, pcap2, bad2, bcap2, rfl, hp2, hb2⟩ := hR2.norm
  refine rl_y (y_move rfl rfl) rfl ?_
  refine rl_y (y_extract rfl rfl rfl) rfl ?_
  refine rl_y (y_extract rfl rfl rfl) rfl ?_
  refine rl_do rfl rfl ?_
  refine do_alloc trivial Tryd.z25 rfl rfl rfl ?_
  refine rl_do rfl rfl ?_
  refine do_store_p trivial rfl Tryd.k25 rfl rfl rfl (vs := [_, _]) rfl rfl (by first | rfl | exact oneAll | exact oneAll2 | simp [Value.oneCell', str]) (Nat.le_of_ble_eq_true rfl) rfl ?_
  refine rl_y (y_assign rfl rfl) rfl ?_
  refine rl_end (ρ' := [(3, _), (4, _), (5, _), (6, _)]) ⟨rfl, rfl, rfl, rfl, trivial⟩ ?_
  refine q_then ?_
  refine wc_seq ?_
  refine wc_region ?_
  refine rl_y (y_load_p rfl Tryd.k25 rfl rfl rfl (vs := [_, _]) rfl rfl rfl) rfl ?_
  refine rl_y (y_load_p rfl Tryd.k25 rfl rfl rfl (vs := [_, _]) rfl rfl rfl) rfl ?_
  refine rl_do rfl rfl ?_
  refine do_call_f (caps := []) trivial rfl rfl Tryd.c19 rfl (FnP.mono (same_fn _ _ _ _ (lkP d.mts d.blocks) (lkB d.blocks) (by omega) (by omega) uB (hp1.mono hleB) hp2 (hb1.mono hleB) hb2) ?_)
  rintro v u1 hle1 rfl
  refine rl_y (y_move rfl rfl) rfl ?_
  refine rl_on rfl rfl ?_
  refine rl_y (y_move rfl rfl) rfl ?_
  refine rl_on rfl rfl ?_
  refine rl_y (y_move rfl rfl) rfl ?_
  refine rl_on rfl rfl ?_
  refine rl_y (y_eql_refl rfl rfl rfl) rfl ?_
  refine rl_y (y_pick_t rfl rfl rfl) rfl ?_
  refine rl_y (y_move rfl rfl) rfl ?_
  refine rl_on rfl rfl ?_
  refine rl_do rfl rfl ?_
  refine do_call_f (caps := []) trivial rfl rfl Tryd.c9 rfl (FnP.mono (lawawake_fn uB ((hT.mono hleA).mono hleB)) ?_)
  rintro v u1 hle1 rfl
  refine rl_y (y_pick_t rfl rfl rfl) rfl ?_
  refine rl_y (y_assign rfl rfl) rfl ?_
  refine rl_end (ρ' := [(2, _)]) ⟨rfl, trivial⟩ ?_
  refine q_then ?_
  refine wc_ret ?_
  refine fin1 (.tmp rfl) ?_
  rfl
end Go.Proofs.Ythkgcakpjknlbaa
namespace Go.Proofs.Ythkgcakpjknlbaa
open Go Go.Eng
set_option linter.unusedSimpArgs false
set_option linter.unusedVariables false
set_option maxRecDepth 4000
set_option maxHeartbeats 1000000 in
theorem labelDefs_fn (d : DDoc) (vm vb : Value) (u : View) (hT : TabU u) (hm : PrS u vm d.mts) (hb : BlkS u vb d.blocks) (hok : DocOk d) :
  FnP Tryd.prog 7 [.agg #[vm, vb]] u fun r _ => r = .bool true := by
 have hlb := lkB_len d.blocks
 have hlp := lkP_len d.mts d.blocks
 have hds := lnkDoc_sz d.blocks
 have hll := listB_len (lnkDoc d.blocks)
 have hil := inls_len (listB (lnkDoc d.blocks))
 have hls := szL_listB (lnkDoc d.blocks)
 refine FnP.intro [.tmp 2] Tryd.func7 rfl rfl rfl ?_
 intro w0 D hw0
 refine wc_seq ?_
 refine wc_region ?_
 refine rl_do rfl rfl ?_
 refine do_box trivial rfl (cs := [_, _]) rfl rfl rfl rfl ?_
 refine rl_y (y_assign rfl rfl) rfl ?_
 refine rl_end (ρ' := [(1, _)]) ⟨rfl, trivial⟩ ?_
 refine q_then ?_
 refine wc_seq ?_
 refine wc_seq ?_
 refine wc_region ?_
 refine rl_y (y_load_p rfl Tryd.k25 rfl rfl rfl (vs := [_, _]) rfl rfl rfl) rfl ?_
 refine rl_do rfl rfl ?_
 refine do_call_f (caps := []) trivial rfl rfl Tryd.c8 rfl (FnP.mono (small_fn d vm vb u hm hb hok) ?_)
 rintro v u1 hle1 ⟨b, rfl, hsm⟩
 refine rl_y (y_not rfl rfl) rfl ?_
 refine rl_end (ρ' := [(1, _), (13, _)]) ⟨rfl, rfl, trivial⟩ ?_
 refine q_then ?_
 refine wc_cond rfl (fun hb1 => ?_) (fun hb1 => ?_)
 ·
  refine wc_seq ?_
  refine wc_region ?_
  refine rl_do rfl rfl ?_
  refine do_call_f (caps := []) trivial rfl rfl Tryd.c9 rfl (FnP.mono (lawawake_fn u hT) ?_)
  rintro v u1 hle1 rfl
  refine rl_y (y_assign rfl rfl) rfl ?_
  refine rl_end (ρ' := [(2, _)]) ⟨rfl, trivial⟩ ?_
  refine q_then ?_
  refine wc_ret ?_
  refine q_then_ret ?_
  refine fin1 (.tmp rfl) ?_
  rfl
 ·
  refine wc_skip ?_
  refine q_then ?_
  refine wc_seq ?_
  have hbt : b = true := by cases b <;> simp_all
  obtain ⟨hml, _, hsz, hsm⟩ := hsm hbt
  refine wc_region ?_
  refine rl_y (y_load_p rfl Tryd.k25 rfl rfl rfl (vs := [_, _]) rfl rfl rfl) rfl ?_
  refine rl_do rfl rfl ?_
  refine do_call (caps := []) trivial rfl rfl Tryd.c17 rfl (FnP.mono (labLinks_fn vm vb d.mts d.blocks u (by omega) hsm (by omega) hm hb) ?_)
  rintro v uA hle0 hR1 hleA
  obtain ⟨pad, pcap, bad, bcap, rfl, hp1, hb1⟩ := hR1.norm
  refine rl_y (y_move rfl rfl) rfl ?_
  refine rl_y (y_extract rfl rfl rfl) rfl ?_
  refine rl_y (y_extract rfl rfl rfl) rfl ?_
  refine rl_do rfl rfl ?_
  refine do_alloc trivial Tryd.z25 rfl rfl rfl ?_
  refine rl_do rfl rfl ?_
  refine do_store_p trivial rfl Tryd.k25 rfl rfl rfl (vs := [_, _]) rfl rfl (by first | rfl | exact oneAll | exact oneAll2 | simp [Value.oneCell', str]) (Nat.le_of_ble_eq_true rfl) rfl ?_
  refine rl_y (y_assign rfl rfl) rfl ?_
  refine rl_end (ρ' := [(3, _), (4, _)]) ⟨rfl, rfl, trivial⟩ ?_
  refine q_then ?_
  refine wc_seq ?_
  refine wc_seq ?_
  refine wc_region ?_
  refine rl_y (y_move rfl rfl) rfl ?_
  refine rl_y (y_neq rfl rfl rfl) rfl ?_
  refine rl_end (ρ' := [(3, _), (4, _), (21, _)]) ⟨rfl, rfl, rfl, trivial⟩ ?_
  refine q_then ?_
  refine wc_cond rfl (fun hb4 => ?_) (fun hb4 => ?_)
  ·
   have h4 : lnkOk d.blocks = false := (by cases h : lnkOk d.blocks; rfl; exact absurd (if_pos h) (of_decide_eq_true hb4 : lkE d.blocks ≠ 0))
   refine wc_seq ?_
   have hE : lkE d.blocks = 12 := by unfold lkE; rw [h4]; rfl
   have hB : (lkB d.blocks).length = 0 := by unfold lkB; rw [h4]; rfl
   rw [hE, hB]
   refine wc_region ?_
   refine rl_y (y_move rfl rfl) rfl ?_
   refine rl_y (y_eql rfl rfl rfl) rfl ?_
   refine rl_y (y_move rfl rfl) rfl ?_
   refine rl_on rfl rfl ?_
   refine rl_y (y_field_p rfl Tryd.f25' rfl (by decide) rfl) rfl ?_
   refine rl_on rfl rfl ?_
   refine rl_y (y_load_p rfl Tryd.k23 rfl rfl rfl (vs := [_]) rfl rfl rfl) rfl ?_
   refine rl_on rfl rfl ?_
   refine rl_y (y_len_v rfl rfl Tryd.s23 rfl) rfl ?_
   refine rl_on rfl rfl ?_
   refine rl_y (y_eql rfl rfl rfl) rfl ?_
   refine rl_y (y_pick_t rfl rfl rfl) rfl ?_
   refine rl_y (y_move rfl rfl) rfl ?_
   refine rl_on rfl rfl ?_
   refine rl_do rfl rfl ?_
   refine do_call_f (caps := []) trivial rfl rfl Tryd.c9 rfl (FnP.mono (lawawake_fn uA (hT.mono hleA)) ?_)
   rintro v u1 hle1 rfl
   refine rl_y (y_pick_t rfl rfl rfl) rfl ?_
   refine rl_y (y_assign rfl rfl) rfl ?_
   refine rl_end (ρ' := [(2, _)]) ⟨rfl, trivial⟩ ?_
   refine q_then ?_
   refine wc_ret ?_
   refine q_then_ret ?_
   refine fin1 (.tmp rfl) ?_
   rfl
  ·
   have h4 : lnkOk d.blocks = true := (by cases h : lnkOk d.blocks; exact absurd (of_decide_eq_false hb4 : ¬ lkE d.blocks ≠ 0) (by unfold lkE; rw [h]; decide); rfl)
   refine wc_skip ?_
   refine q_then ?_
   refine wc_seq ?_
   have hB : lkB d.blocks = lnkDoc d.blocks := if_pos h4
   have hP : lkP d.mts d.blocks = d.mts := if_pos h4
   have hT := hT.mono hleA
   rw [hB] at hb1 hlb
   rw [hP] at hp1
   rw [hB, hP]
   refine wc_region ?_
   refine rl_y (y_field_p rfl Tryd.f25' rfl (by decide) rfl) rfl ?_
   refine rl_y (y_load_p rfl Tryd.k23 rfl rfl rfl (vs := [_]) rfl rfl rfl) rfl ?_
   refine rl_do rfl rfl ?_
   refine do_call (caps := []) trivial rfl rfl Tryd.c20 rfl (FnP.mono (list_fn _ _ (lnkDoc d.blocks) uA (Nat.le_refl _) (by omega) hb1) ?_)
   rintro v uL hle0 ⟨lcs, ⟨lad, lcap, rfl, hl1⟩, hl2⟩ hleL
   refine rl_y (y_assign rfl rfl) rfl ?_
   refine rl_end (ρ' := [(3, _), (5, _)]) ⟨rfl, rfl, trivial⟩ ?_
   refine q_then ?_
   refine wc_seq ?_
   refine wc_seq ?_
   refine wc_region ?_
   refine rl_y (y_assign rfl rfl) rfl ?_
   refine rl_end (ρ' := [(3, _), (5, _), (6, _)]) ⟨rfl, rfl, rfl, trivial⟩ ?_
   refine q_then ?_
   refine wc_block ?_
   refine wc_loop (fun m ρ σ u' => ∃ i : Nat, i + m = (listB (lnkDoc d.blocks)).length ∧ VLe uL u' ∧ σ = [(3, (none, .box [.slice pad d.mts.length pcap, .slice bad (lnkDoc d.blocks).length bcap]))] ∧ ρ = [(3, .p 3 0), (5, .v (.slice lad (listB (lnkDoc d.blocks)).length lcap)), (6, .v (.int .i64 i))] ∧ (uL = u')) ((listB (lnkDoc d.blocks)).length) ?_ ?_
   ·
    refine ⟨[(3, _), (5, _), (6, _)], [(3, _)], ⟨rfl, rfl, rfl, trivial⟩, ⟨rfl, trivial⟩, 0, by omega, VLe.refl _, (by first | rfl | simp), (by first | rfl | (simp only [List.cons.injEq, Prod.mk.injEq, SV.v.injEq, Value.int.injEq, true_and, and_true]; omega) | simp), ?_⟩
    rfl
   ·
    rintro m ρ σ u' ⟨i, hi8, hle8, rfl, rfl, rfl⟩
    refine wc_seq ?_
    refine wc_seq ?_
    refine wc_region ?_
    refine rl_y (y_move rfl rfl) rfl ?_
    refine rl_y (y_move rfl rfl) rfl ?_
    refine rl_y (y_len_v rfl rfl Tryd.s23 rfl) rfl ?_
    refine rl_y (y_lss rfl rfl rfl) rfl ?_
    refine rl_end (ρ' := [(3, _), (5, _), (6, _), (39, _)]) ⟨rfl, rfl, rfl, rfl, trivial⟩ ?_
    refine q_then ?_
    refine wc_cond rfl (fun hb8 => ?_) (fun hb8 => ?_)
    ·
     have hlt : i < (listB (lnkDoc d.blocks)).length := by have := of_decide_eq_true hb8; omega
     obtain ⟨k, lv, inf, t, dd, ti, a, line, kids, vc, vp, vl, vk, hg, hcut1, s1, s2, s3, s4, hokb⟩ := hl2.at hlt
     have hkd := (lnkDoc_kinds d.blocks _ (List.mem_of_getElem? hg)).1
     refine wc_skip ?_
     refine q_then ?_
     refine wc_seq ?_
     refine wc_block ?_
     refine wc_seq ?_
     refine wc_region ?_
     refine rl_y (y_move rfl rfl) rfl ?_
     refine rl_y (y_move rfl rfl) rfl ?_
     refine rl_y (y_index_e rfl Tryd.s23 rfl rfl (by assumption) (by first | rfl | omega) (by omega)) rfl ?_
     refine rl_y (y_field_e rfl Tryd.f42' rfl (by decide) rfl) rfl ?_
     refine rl_y (y_load_el rfl Tryd.k3 rfl (by assumption) (by omega) (by assumption) (vs := [_]) rfl rfl rfl rfl) rfl ?_
     refine rl_y (y_eql rfl rfl rfl) rfl ?_
     refine rl_end (ρ' := [(3, _), (5, _), (6, _), (47, _)]) ⟨rfl, rfl, rfl, rfl, trivial⟩ ?_
     refine q_then ?_
     refine wc_cond_f rfl ((decide_eq_false hkd)) ?_
     refine wc_skip ?_
     refine q_block ?_
     refine q_then ?_
     refine wc_region ?_
     refine rl_y (y_move rfl rfl) rfl ?_
     refine rl_y (y_add rfl rfl rfl (wrap64_id (by omega))) rfl ?_
     refine rl_y (y_assign rfl rfl) rfl ?_
     refine rl_end (ρ' := [(3, _), (5, _), (6, _)]) ⟨rfl, rfl, rfl, trivial⟩ ?_
     refine q_thenK ?_
     refine ⟨m - 1, [(3, _), (5, _), (6, _)], [(3, _)], by omega, ⟨rfl, rfl, rfl, trivial⟩, ⟨rfl, trivial⟩, i + 1, by omega, hle8, (by first | rfl | simp), (by first | rfl | (simp only [List.cons.injEq, Prod.mk.injEq, SV.v.injEq, Value.int.injEq, true_and, and_true]; omega) | simp), ?_⟩
     rfl
    ·
     refine wc_exit ?_
     refine q_then_exit ?_
     refine q_then_exit ?_
     refine q_block_hit ?_
     refine q_then ?_
     refine wc_seq ?_
     refine wc_region ?_
     refine rl_y (y_field_p rfl Tryd.f25' rfl (by decide) rfl) rfl ?_
     refine rl_y (y_load_p rfl Tryd.k23 rfl rfl rfl (vs := [_]) rfl rfl rfl) rfl ?_
     refine rl_do rfl rfl ?_
     refine do_call (caps := []) trivial rfl rfl Tryd.c21 rfl (FnP.mono (inlines_fn _ (lnkDoc d.blocks) uL (by omega) (hb1.mono hleL)) ?_)
     rintro v uI hle0 ⟨ics, ⟨iad, icap, rfl, hi1⟩, hi2⟩ hleI
     refine rl_y (y_assign rfl rfl) rfl ?_
     refine rl_end (ρ' := [(3, _), (7, _)]) ⟨rfl, rfl, trivial⟩ ?_
     refine q_then ?_
     refine wc_seq ?_
     refine wc_seq ?_
     refine wc_region ?_
     refine rl_y (y_assign rfl rfl) rfl ?_
     refine rl_end (ρ' := [(3, _), (7, _), (8, _)]) ⟨rfl, rfl, rfl, trivial⟩ ?_
     refine q_then ?_
     refine wc_block ?_
     refine wc_loop (fun m ρ σ u' => ∃ j : Nat, j + m = (inls (listB (lnkDoc d.blocks))).length ∧ VLe uI u' ∧ σ = [(3, (none, .box [.slice pad d.mts.length pcap, .slice bad (lnkDoc d.blocks).length bcap]))] ∧ ρ = [(3, .p 3 0), (7, .v (.slice iad (inls (listB (lnkDoc d.blocks))).length icap)), (8, .v (.int .i64 j))] ∧ (uI = u')) ((inls (listB (lnkDoc d.blocks))).length) ?_ ?_
     ·
      refine ⟨[(3, _), (7, _), (8, _)], [(3, _)], ⟨rfl, rfl, rfl, trivial⟩, ⟨rfl, trivial⟩, 0, by omega, VLe.refl _, (by first | rfl | simp), (by first | rfl | (simp only [List.cons.injEq, Prod.mk.injEq, SV.v.injEq, Value.int.injEq, true_and, and_true]; omega) | simp), ?_⟩
      rfl
     ·
      rintro mj ρ σ u' ⟨j, hi14, hle14, rfl, rfl, rfl⟩
      refine wc_seq ?_
      refine wc_seq ?_
      refine wc_region ?_
      refine rl_y (y_move rfl rfl) rfl ?_
      refine rl_y (y_move rfl rfl) rfl ?_
      refine rl_y (y_len_v rfl rfl Tryd.s40 rfl) rfl ?_
      refine rl_y (y_lss rfl rfl rfl) rfl ?_
      refine rl_end (ρ' := [(3, _), (7, _), (8, _), (54, _)]) ⟨rfl, rfl, rfl, rfl, trivial⟩ ?_
      refine q_then ?_
      refine wc_cond rfl (fun hb14 => ?_) (fun hb14 => ?_)
      ·
       have hlt2 : j < (inls (listB (lnkDoc d.blocks))).length := by have := of_decide_eq_true hb14; omega
       obtain ⟨k, t, dd, ti, a, args, cites, kids, vc, vp, va, vt, vk, hg2, hcut2, _, _, _, _, _, _⟩ := hi2.at hlt2
       have hno : ¬ ((k = 9 ∨ k = 10) ∧ t ≠ []) := by
        intro h
        have := lnkDoc_inls d.blocks _ (List.mem_of_getElem? hg2)
        simp only [labI, if_pos h] at this
        cases this
       refine wc_skip ?_
       refine q_then ?_
       refine wc_seq ?_
       refine wc_block ?_
       refine wc_seq ?_
       refine wc_cutB 78 (false) (ρk := [(3, _), (7, _), (8, _)]) ⟨rfl, rfl, rfl, trivial⟩ ?_ ?_
       ·
        refine wc_region ?_
        refine rl_y (y_move rfl rfl) rfl ?_
        refine rl_y (y_move rfl rfl) rfl ?_
        refine rl_y (y_index_e rfl Tryd.s40 rfl rfl (by assumption) (by first | rfl | omega) (by omega)) rfl ?_
        refine rl_y (y_field_e rfl Tryd.f46' rfl (by decide) rfl) rfl ?_
        refine rl_y (y_load_el rfl Tryd.k3 rfl (by assumption) (by omega) (by assumption) (vs := [_]) rfl rfl rfl rfl) rfl ?_
        refine rl_y (y_eql rfl rfl rfl) rfl ?_
        refine rl_y (y_move rfl rfl) rfl ?_
        rcases Bool.eq_false_or_eq_true (decide (k = 9)) with hg16_6 | hg16_6
        ·
         simp only [hg16_6]
         refine rl_off rfl rfl rfl rfl ?_
         refine rl_off rfl rfl rfl rfl ?_
         refine rl_off rfl rfl rfl rfl ?_
         refine rl_off rfl rfl rfl rfl ?_
         refine rl_off rfl rfl rfl rfl ?_
         refine rl_off rfl rfl rfl rfl ?_
         refine rl_y (y_pick_t rfl rfl rfl) rfl ?_
         refine rl_y (y_move rfl rfl) rfl ?_
         refine rl_on rfl rfl ?_
         refine rl_y (y_move rfl rfl) rfl ?_
         refine rl_on rfl rfl ?_
         refine rl_y (y_move rfl rfl) rfl ?_
         refine rl_on rfl rfl ?_
         refine rl_y (y_index_e rfl Tryd.s40 rfl rfl (by assumption) (by first | rfl | omega) (by omega)) rfl ?_
         refine rl_on rfl rfl ?_
         refine rl_y (y_field_e rfl Tryd.f46' rfl (by decide) rfl) rfl ?_
         refine rl_on rfl rfl ?_
         refine rl_y (y_load_el rfl Tryd.k9 rfl (by assumption) (by omega) (by assumption) (vs := [_]) rfl rfl rfl rfl) rfl ?_
         refine rl_on rfl rfl ?_
         refine rl_y (y_str_neq rfl rfl rfl) rfl ?_
         refine rl_y (y_pick_t rfl rfl rfl) rfl ?_
         exact cutB_end rfl ⟨rfl, rfl, rfl, trivial⟩ (by first | rfl | (simp only [decide_eq_true_eq, decide_eq_false_iff_not] at *; by_cases h : t = [] <;> simp_all))
        ·
         simp only [hg16_6]
         refine rl_on rfl rfl ?_
         refine rl_y (y_move rfl rfl) rfl ?_
         refine rl_on rfl rfl ?_
         refine rl_y (y_move rfl rfl) rfl ?_
         refine rl_on rfl rfl ?_
         refine rl_y (y_index_e rfl Tryd.s40 rfl rfl (by assumption) (by first | rfl | omega) (by omega)) rfl ?_
         refine rl_on rfl rfl ?_
         refine rl_y (y_field_e rfl Tryd.f46' rfl (by decide) rfl) rfl ?_
         refine rl_on rfl rfl ?_
         refine rl_y (y_load_el rfl Tryd.k3 rfl (by assumption) (by omega) (by assumption) (vs := [_]) rfl rfl rfl rfl) rfl ?_
         refine rl_on rfl rfl ?_
         refine rl_y (y_eql rfl rfl rfl) rfl ?_
         refine rl_y (y_pick_f rfl rfl rfl) rfl ?_
         refine rl_y (y_move rfl rfl) rfl ?_
         rcases Bool.eq_false_or_eq_true (decide (k = 10)) with hg16_14 | hg16_14
         ·
          simp only [hg16_14]
          refine rl_on rfl rfl ?_
          refine rl_y (y_move rfl rfl) rfl ?_
          refine rl_on rfl rfl ?_
          refine rl_y (y_move rfl rfl) rfl ?_
          refine rl_on rfl rfl ?_
          refine rl_y (y_index_e rfl Tryd.s40 rfl rfl (by assumption) (by first | rfl | omega) (by omega)) rfl ?_
          refine rl_on rfl rfl ?_
          refine rl_y (y_field_e rfl Tryd.f46' rfl (by decide) rfl) rfl ?_
          refine rl_on rfl rfl ?_
          refine rl_y (y_load_el rfl Tryd.k9 rfl (by assumption) (by omega) (by assumption) (vs := [_]) rfl rfl rfl rfl) rfl ?_
          refine rl_on rfl rfl ?_
          refine rl_y (y_str_neq rfl rfl rfl) rfl ?_
          refine rl_y (y_pick_t rfl rfl rfl) rfl ?_
          exact cutB_end rfl ⟨rfl, rfl, rfl, trivial⟩ (by first | rfl | (simp only [decide_eq_true_eq, decide_eq_false_iff_not] at *; by_cases h : t = [] <;> simp_all))
         ·
          simp only [hg16_14]
          refine rl_off rfl rfl rfl rfl ?_
          refine rl_off rfl rfl rfl rfl ?_
          refine rl_off rfl rfl rfl rfl ?_
          refine rl_off rfl rfl rfl rfl ?_
          refine rl_off rfl rfl rfl rfl ?_
          refine rl_off rfl rfl rfl rfl ?_
          refine rl_y (y_pick_f rfl rfl rfl) rfl ?_
          exact cutB_end rfl ⟨rfl, rfl, rfl, trivial⟩ (by first | rfl | (simp only [decide_eq_true_eq, decide_eq_false_iff_not] at *; by_cases h : t = [] <;> simp_all))
       refine q_then ?_
       refine wc_cond_f rfl (rfl) ?_
       refine wc_skip ?_
       refine q_block ?_
       refine q_then ?_
       refine wc_region ?_
       refine rl_y (y_move rfl rfl) rfl ?_
       refine rl_y (y_add rfl rfl rfl (wrap64_id (by omega))) rfl ?_
       refine rl_y (y_assign rfl rfl) rfl ?_
       refine rl_end (ρ' := [(3, _), (7, _), (8, _)]) ⟨rfl, rfl, rfl, trivial⟩ ?_
       refine q_thenK ?_
       refine ⟨mj - 1, [(3, _), (7, _), (8, _)], [(3, _)], by omega, ⟨rfl, rfl, rfl, trivial⟩, ⟨rfl, trivial⟩, j + 1, by omega, hle14, (by first | rfl | simp), (by first | rfl | (simp only [List.cons.injEq, Prod.mk.injEq, SV.v.injEq, Value.int.injEq, true_and, and_true]; omega) | simp), ?_⟩
       rfl
      ·
       refine wc_exit ?_
       refine q_then_exit ?_
       refine q_then_exit ?_
       refine q_block_hit ?_
       refine q_then ?_
       refine wc_seq ?_
       refine wc_region ?_
       refine rl_y (y_load_p rfl Tryd.k25 rfl rfl rfl (vs := [_, _]) rfl rfl rfl) rfl ?_
       refine rl_do rfl rfl ?_
       refine do_call (caps := []) trivial rfl rfl Tryd.c17 rfl (FnP.mono (labLinks_fn _ _ d.mts (lnkDoc d.blocks) uI (by omega) (lnkDoc_sm hsm) (by omega) ((hp1.mono hleL).mono hleI) ((hb1.mono hleL).mono hleI)) ?_)
       rintro v uQ hle0 hR2 hleQ
       obtain ⟨pad2, pcap2, bad2, bcap2, rfl, hp2, hb2⟩ := hR2.norm
       have hk2 : lnkOk (lnkDoc d.blocks) = true := lnkDoc_okAgain d.blocks
       have hE2 : lkE (lnkDoc d.blocks) = 0 := if_pos hk2
       have hB2 : lkB (lnkDoc d.blocks) = lnkDoc d.blocks := (if_pos hk2).trans (lnkDoc_again d.blocks)
       have hP2 : lkP d.mts (lnkDoc d.blocks) = d.mts := if_pos hk2
       rw [hB2] at hb2
       rw [hP2] at hp2
       rw [hE2, hB2, hP2]
       refine rl_y (y_move rfl rfl) rfl ?_
       refine rl_y (y_extract rfl rfl rfl) rfl ?_
       refine rl_y (y_extract rfl rfl rfl) rfl ?_
       refine rl_do rfl rfl ?_
       refine do_alloc trivial Tryd.z25 rfl rfl rfl ?_
       refine rl_do rfl rfl ?_
       refine do_store_p trivial rfl Tryd.k25 rfl rfl rfl (vs := [_, _]) rfl rfl (by first | rfl | exact oneAll | exact oneAll2 | simp [Value.oneCell', str]) (Nat.le_of_ble_eq_true rfl) rfl ?_
       refine rl_y (y_assign rfl rfl) rfl ?_
       refine rl_end (ρ' := [(3, _), (9, _), (10, _)]) ⟨rfl, rfl, rfl, trivial⟩ ?_
       refine q_then ?_
       refine wc_seq ?_
       refine wc_region ?_
       refine rl_y (y_move rfl rfl) rfl ?_
       refine rl_y (y_eql rfl rfl rfl) rfl ?_
       refine rl_y (y_move rfl rfl) rfl ?_
       refine rl_on rfl rfl ?_
       refine rl_y (y_load_p rfl Tryd.k25 rfl rfl rfl (vs := [_, _]) rfl rfl rfl) rfl ?_
       refine rl_on rfl rfl ?_
       refine rl_y (y_load_p rfl Tryd.k25 rfl rfl rfl (vs := [_, _]) rfl rfl rfl) rfl ?_
       refine rl_on rfl rfl ?_
       refine rl_do rfl rfl ?_
       refine do_call_f (caps := []) trivial rfl rfl Tryd.c19 rfl (FnP.mono (same_fn _ _ _ _ d.mts (lnkDoc d.blocks) (by omega) (by omega) uQ (((hp1.mono hleL).mono hleI).mono hleQ) hp2 (((hb1.mono hleL).mono hleI).mono hleQ) hb2) ?_)
       rintro v u1 hle1 rfl
       refine rl_y (y_pick_t rfl rfl rfl) rfl ?_
       refine rl_y (y_move rfl rfl) rfl ?_
       refine rl_on rfl rfl ?_
       refine rl_do rfl rfl ?_
       refine do_call_f (caps := []) trivial rfl rfl Tryd.c9 rfl (FnP.mono (lawawake_fn uQ (((hT.mono hleL).mono hleI).mono hleQ)) ?_)
       rintro v u1 hle1 rfl
       refine rl_y (y_pick_t rfl rfl rfl) rfl ?_
       refine rl_y (y_assign rfl rfl) rfl ?_
       refine rl_end (ρ' := [(2, _)]) ⟨rfl, trivial⟩ ?_
       refine q_then ?_
       refine wc_ret ?_
       refine fin1 (.tmp rfl) ?_
       rfl
end Go.Proofs.Ythkgcakpjknlbaa
namespace Go.Proofs.Ythkgcakpjknlbaa
open Go Go.Eng
set_option linter.unusedSimpArgs false
set_option linter.unusedVariables false
def docT : DocTys Tryd.prog where
 int := 3
 bool := 4
 s := 9
 ss := 29
 pair := 48
 pairs := 22
 cite := 86
 cites := 44
 attr := 39
 inl := 46
 inls := 40
 blk := 42
 blks := 23
 hint := by kernel_rfl
 hbool := by kernel_rfl
 hs := by kernel_rfl
 hss := by kernel_rfl
 hpairs := by kernel_rfl
 hcites := by kernel_rfl
 hinls := by kernel_rfl
 hblks := by kernel_rfl
 hpair := ⟨Tryd.prog.fieldsOf 48, by kernel_rfl, by kernel_rfl⟩
 hcite := ⟨Tryd.prog.fieldsOf 86, by kernel_rfl, by kernel_rfl⟩
 hattr := ⟨Tryd.prog.fieldsOf 39, by kernel_rfl, by kernel_rfl⟩
 hinl := ⟨Tryd.prog.fieldsOf 46, by kernel_rfl, by kernel_rfl⟩
 hblk := ⟨Tryd.prog.fieldsOf 42, by kernel_rfl, by kernel_rfl⟩
 cint := by kernel_rfl
 cbool := by kernel_rfl
 cs := by kernel_rfl
 css := by kernel_rfl
 cpairs := by kernel_rfl
 ccites := by kernel_rfl
 cinls := by kernel_rfl
 cblks := by kernel_rfl
 cpair := by kernel_rfl
 ccite := by kernel_rfl
 cattr := by kernel_rfl
 cinl := by kernel_rfl
 cblk := by kernel_rfl
 ys := of_decide_eq_true (by kernel_rfl)
 ypair := of_decide_eq_true (by kernel_rfl)
 ycite := of_decide_eq_true (by kernel_rfl)
 yinl := of_decide_eq_true (by kernel_rfl)
 yblk := of_decide_eq_true (by kernel_rfl)
theorem docFl : FldsAre Tryd.prog 25 [(0, docT.pairs), (1, docT.blks)] := ⟨Tryd.prog.fieldsOf 25, by kernel_rfl, by kernel_rfl⟩
end Go.Proofs.Ythkgcakpjknlbaa
namespace Go.Eng
open Go Go.RowKit
open Go.ChangeShapes Go.WideShapes
set_option linter.unusedSimpArgs false
set_option linter.unusedVariables false
theorem laidMet_tail {P : Program} {x : String × DataW Unit} {r : List (String × DataW Unit)} {W : World} (h : laidMet P (x :: r) W) : laidMet P r W := by
 obtain ⟨ps, ⟨g, t, cs, fuel, p, q, _, _, _, _, hq, rfl⟩, hnd, hc⟩ := h
 exact ⟨q, hq, (List.nodup_append.1 hnd).2.1, fun b off hm => hc b off (List.mem_append_right _ hm)⟩
theorem wok_of {H : Type} {P : Program} {ts : List TypeId} {ds : List (DataW H)} (h : (DataW.weightsEach P ts ds).all (· ≤ reachBytes) = true) (i : Nat) {t : TypeId} {d : DataW H} (ht : ts[i]? = some t) (hd : ds[i]? = some d) : WOk P t d := by
 intro n hn
 have := List.all_eq_true.1 h n (weightsEach_mem ht hd hn)
 have h2 := of_decide_eq_true this
 unfold reachBytes at h2
 omega
/-- cells of a listed datum -/
def litCell : DataW Unit → Value
  | .lit (.int k n) => .int k n
  | _ => undef
def datCells : DataW Unit → Array Value
  | .agg l => (l.map litCell).toArray
  | _ => #[]
section
variable {H : Type} {enc : TypeId × Value → H} {P : Program} {w : World} {base b0 : Nat} {spare : Nat → Bool} {held : Bool} {r : Reach}
theorem open_docV (T : DocTys P) {t : TypeId} {v : Value} {d : DataW H} {ps : List MemPlace} (ht : FldsAre P t [(0, T.pairs), (1, T.blks)]) (hc : P.cellsOf t = 2) (hw : WOk P t d) (hval : Value.okWide P w r b0 t v) (hd : DataW.Trod enc P w base spare held t v d ps) :
  ∃ (d : DDoc) (vm vb : Value), v = .agg #[vm, vb] ∧ PrS (wview w) vm d.mts ∧ BlkS (wview w) vb d.blocks ∧ DocOk d := by
 obtain ⟨fs, hu, _⟩ := id ht
 unfold Value.okWide at hval
 rw [hu] at hval
 obtain ⟨cs, rfl, hsz, _⟩ := hval
 obtain ⟨fuel, hf⟩ := hd
 obtain ⟨d, vm, vb, h1, h2⟩ := open_doc T ht hc hw hf
 refine ⟨d, vm, vb, ?_, h2⟩
 have h3 : cs.toList = [vm, vb] := h1
 have : cs = #[vm, vb] := by
  cases cs
  simpa using h3
 rw [this]
theorem chopN (u : View) (p : DNum → Prop) : ∀ (n : Nat) (cs : List Value), cs.length = n * 4 → (∀ i, i < n → ∃ x : DNum, NumC u x (cut cs (i * 4) 4) ∧ p x) → ∃ xs : List DNum, xs.length = n ∧ NumsC u xs cs ∧ ∀ x ∈ xs, p x
  | 0, cs, hl, _ => ⟨[], rfl, List.eq_nil_of_length_eq_zero (by simpa using hl), by simp⟩
  | n + 1, cs, hl, h => by
    obtain ⟨x, hx, hp⟩ := h 0 (by omega)
    have hl2 : cs.length = n * 4 + 4 := by omega
    obtain ⟨xs, h1, h2, h3⟩ := chopN u p n (cs.drop 4) (by simp; omega) (fun i hi => by
      obtain ⟨y, hy, hq⟩ := h (i + 1) (by omega)
      refine ⟨y, ?_, hq⟩
      unfold cut at hy ⊢
      rw [List.drop_drop, show 4 + i * 4 = (i + 1) * 4 by omega]
      exact hy)
    refine ⟨x :: xs, by simp [h1], ⟨cs.take 4, cs.drop 4, (List.take_append_drop 4 cs).symm, ?_, h2⟩, ?_⟩
    · unfold cut at hx
      simpa using hx
    · intro y hy
      rcases List.mem_cons.1 hy with rfl | hy
      · exact hp
      · exact h3 y hy
theorem open_nums (T : DocTys P) {num nums : TypeId} (hn : P.underlying nums = some (.slice num)) (hf : FldsAre P num [(0, T.s), (1, T.s), (2, T.s), (3, T.inls)]) (hc : P.cellsOf num = 4) (hy : 0 < P.bytesOf num) {v : Value} {d : DataW H} {ps : List MemPlace} (hw : WOk P nums d) (hval : Value.okWide P w r b0 nums v) (hd : DataW.Trod enc P w base spare held nums v d ps) :
    ∃ xs : List DNum, NumS (wview w) v xs ∧ ∀ x ∈ xs, x.line.length ≤ 140737488351232 := by
  obtain ⟨fuel, h⟩ := hd
  have hcells : ∃ y, v.cells.toList = [y] ∧ v = y := by
    obtain ⟨ad, n, c, rfl⟩ := okWide_slice hn hval
    exact ⟨_, rfl, rfl⟩
  obtain ⟨y, hy1, rfl⟩ := hcells
  rw [hy1] at h
  obtain ⟨n, cs, hsl, hn, hel⟩ := open_sl hn hc (by omega) hy hw h
  have hlen : cs.length = n * 4 := by obtain ⟨_, _, _, h1, _⟩ := hsl; exact h1
  obtain ⟨xs, h1, h2, h5⟩ := chopN (wview w) (fun x => x.line.length ≤ 140737488351232) n cs hlen (fun i hi => by
    obtain ⟨m, y, _, h3, hy⟩ := hel i hi
    obtain ⟨hl, hff⟩ := open_flds hf hy h3
    rw [hc] at hl
    obtain ⟨_, _, _, a0, q0⟩ := hff 0 0 T.s rfl
    obtain ⟨_, _, _, a1, q1⟩ := hff 1 1 T.s rfl
    obtain ⟨_, _, _, a2, q2⟩ := hff 2 2 T.s rfl
    obtain ⟨_, _, _, a3, q3⟩ := hff 3 3 T.inls rfl
    rw [T.cs] at a0 a1 a2
    rw [T.cinls] at a3
    generalize cut cs (i * 4) 4 = c at *
    match c, hl with
    | [u0, u1, u2, u3], _ =>
      obtain ⟨s0, b0, p0, _⟩ := DataW.trod_string T.hs a0
      obtain ⟨s1, b1, p1, _⟩ := DataW.trod_string T.hs a1
      obtain ⟨s2, b2, p2, _⟩ := DataW.trod_string T.hs a2
      obtain ⟨l0, e0⟩ := str_of s0
      obtain ⟨l1, e1⟩ := str_of s1
      obtain ⟨l2, e2⟩ := str_of s2
      obtain ⟨line, hline, oline⟩ := open_inls T _ u3 _ q3 (show DataW.trod enc P w base spare held _ T.inls [u3] = some _ from a3)
      unfold cut at b0 b1 b2
      simp at b0 b1 b2
      exact ⟨⟨l0, l1, l2, line⟩, ⟨u3, by rw [b0, b1, b2, e0, e1, e2], hline⟩, oline⟩)
  exact ⟨xs, ⟨cs, by rw [h1]; exact hsl, h2⟩, h5⟩
theorem open_str {t : TypeId} {v : Value} {d : DataW H} {ps : List MemPlace} (ht : P.underlying t = some .string) (hval : Value.okWide P w r b0 t v) (hd : DataW.Trod enc P w base spare held t v d ps) :
  ∃ l : List UInt8, v = str l ∧ l.length ≤ maxLen := by
 obtain ⟨s, rfl, _, _, hs⟩ := Go.ChangeMaps.open_string ht hval hd
 refine ⟨s.data.toList, ?_, (show s.data.toList.length = s.size from Array.length_toList) ▸ hs⟩
 cases s
 rfl
theorem open_u8s {t e : TypeId} (ht : P.underlying t = some (.slice e)) (he : P.underlying e = some (.int .u8)) (hc : P.cellsOf e = 1) (hby : 0 < P.bytesOf e) {v : Value} {d : DataW H} {ps : List MemPlace} (hw : WOk P t d) (hval : Value.okWide P w r b0 t v) (hd : DataW.Trod enc P w base spare held t v d ps) :
  ∃ ls : List Nat, IsSl (wview w) v ls.length 1 (ls.map fun n : Nat => Value.int .u8 n) ∧ ∀ n ∈ ls, n < 256 := by
 obtain ⟨fuel, h⟩ := hd
 have hcells : ∃ y, v.cells.toList = [y] ∧ v = y := by
  obtain ⟨ad, n, c, rfl⟩ := okWide_slice ht hval
  exact ⟨_, rfl, rfl⟩
 obtain ⟨y, hy1, rfl⟩ := hcells
 rw [hy1] at h
 obtain ⟨n, cs, hsl, hn, hel⟩ := open_sl ht hc (by omega) hby hw h
 have hlen : cs.length = n * 1 := by obtain ⟨_, _, _, h1, _⟩ := hsl; exact h1
 obtain ⟨xs, h1, h2, h5⟩ := chop (fun n : Nat => [Value.int .u8 n]) (fun n => n < 256) 1 n cs hlen (fun i hi => by
  obtain ⟨m, y, _, h3, hy⟩ := hel i hi
  rw [show (1 : Nat) = P.cellsOf e from hc.symm] at h3
  obtain ⟨z, h4, _, hwf⟩ := DataW.trod_int he h3
  simp [Lit.wf, IntKind.min, IntKind.max, IntKind.signed, IntKind.bits] at hwf
  refine ⟨z.toNat, ?_, by omega⟩
  rw [hc] at h4
  rw [h4]
  congr 2
  omega)
 refine ⟨xs, ?_, h5⟩
 rw [h1]
 have e1 : (xs.map fun n : Nat => Value.int .u8 n) = cs := by rw [h2]; exact List.map_eq_flatMap
 rw [e1]
 exact hsl
end
end Go.Eng
namespace Go.Proofs.Ythkgcakpjknlbaa
open Go Go.Eng
theorem numFl : FldsAre Tryd.prog 95 [(0, docT.s), (1, docT.s), (2, docT.s), (3, docT.inls)] := ⟨Tryd.prog.fieldsOf 95, by kernel_rfl, by kernel_rfl⟩
theorem tabU_of {W : World} (h : Lib.TabIs Tryd.prog W "internal/strconv.uint64pow10" .u64 Lib.pow10Tab) : TabU (wview W) := by
  unfold Lib.TabIs World.var? at h
  rw [gTab] at h
  unfold TabU wview
  cases hg : W.heap[0]? with
  | none => simp [hg] at h
  | some o =>
    cases o with
    | cells c T fr =>
      simp [hg] at h
      exact ⟨T, fr, by rw [h]⟩
    | _ => simp [hg] at h
end Go.Proofs.Ythkgcakpjknlbaa
