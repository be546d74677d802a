/- Texts for a law, part 7: they walk the functions that the law reaches, and state what holds of them; without conditions beyond each theorem's own. -/
import Derived.Test.YthkgcakpjknlbaaGreatDoorQartF
import Derived.Lib.LaidTab
import Derived.ChangeMaps5
namespace Go.Eng
open Go Go.RowKit
section
variable {F : Fx} {ρ : Env} {σ : Own} {u : View} {Q : Post} {σS : Own} {uS : View} {o : Oper}
theorem y_slice_hi {x hi : Operand} {t e : TypeId} {sz by' n cap i : Nat} {ad : Option Addr} {k : IntKind} {z : Int} (ho : o.op = .slice t x none (some hi) none) (hS : tyS F.P t = some (e, sz, by')) (hx : opv ρ x = some (.v (.slice ad n cap)))
  (hhi : opv ρ hi = some (.v (.int k z))) (hz : z = (i : Int)) (hi' : i ≤ cap) : Yld F σS uS ρ σ u o (.v (.slice (if cap = 0 then ad else ad.map (·.add (0 * sz))) i cap)) := by
 intro bk hd a w hR
 subst hz
 refine ⟨_, rfl, fun w' _ => ?_⟩
 obtain ⟨inf, hu, hinf, rfl, _⟩ := tyS_some hS
 have hb : (Instr.sliceBounds true n cap none (some (.int k (i : Int))) none).run F.P w' = .ok (0, i, cap) w' := by
  simp [Instr.sliceBounds, Instr.sliceBound, asIntOf, hi']
 simp [execOp, ho, hR.op hx, hR.op hhi, Instr.sliceAt, run_underlying hu, Instr.slice, hb, sizeOf, typeInfo, hinf]
end
theorem SlC.upto {u : View} {ad : Option Addr} {n cap sz i : Nat} {xs : List Value} (h : SlC u ad n cap sz xs) (hi : i ≤ n) : SlC u (if cap = 0 then ad else ad.map (·.add (0 * sz))) i cap sz (xs.take (i * sz)) := by
 obtain ⟨h1, h2, h3, h4⟩ := h
 have hm : i * sz ≤ n * sz := Nat.mul_le_mul_right _ hi
 refine ⟨by rw [List.length_take, h1]; omega, by omega, h3, fun hn => ?_⟩
 obtain ⟨b, off, c, T, fr, rfl, hu, hc⟩ := h4 (by omega)
 rw [if_neg (by omega)]
 refine ⟨b, off, c, T, fr, by simp [add_eq], hu, ?_⟩
 rw [← hc]
 unfold cut
 rw [List.take_take, Nat.min_eq_left hm]
end Go.Eng
namespace Go.Proofs.Ythkgcakpjknlbaa
open Go Go.Eng
set_option linter.unusedSimpArgs false
set_option linter.unusedVariables false
set_option maxRecDepth 4000
theorem refCheck_fn (vm vb : Value) (bs : List Blk) (u : View) (hbig : szB bs ≤ 100000) (ha : BlkS u vb bs) :
  FnP Tryz.prog 28 [.agg #[vm, vb]] u fun r _ => r = .tuple #[str (checkOf bs).1, .int .i64 (checkOf bs).2] := by
 have hnl := namesOf_len bs
 have hml := missOf_len bs
 refine FnP.intro [.tmp 2, .tmp 3] Tryz.func28 rfl rfl rfl ?_
 intro w0 D hw0
 refine wc_seq ?_
 refine wc_region ?_
 refine rl_do rfl rfl ?_
 refine do_box trivial rfl (cs := [_, _]) rfl rfl rfl rfl ?_
 refine ya rfl rfl ?_
 refine ya rfl rfl ?_
 refine rl_end (ρ' := [(1, _)]) ⟨rfl, trivial⟩ ?_
 refine q_then ?_
 refine wc_seq ?_
 refine wc_region ?_
 refine rl_y (y_load_p rfl Tryz.k25 rfl rfl rfl (vs := [_, _]) rfl rfl rfl) rfl ?_
 refine rl_do rfl rfl ?_
 refine do_call (caps := []) trivial rfl rfl Tryz.c61 rfl (FnP.mono (refNames_fn vm vb bs _ hbig ha) ?_)
 rintro v uN hle0 ⟨adn, capn, rfl, hn⟩ hleN
 refine ya rfl rfl ?_
 refine rl_end (ρ' := [(1, _), (4, _)]) ⟨rfl, rfl, trivial⟩ ?_
 refine q_then ?_
 refine wc_seq ?_
 refine wc_seq ?_
 refine wc_region ?_
 refine ya rfl rfl ?_
 refine rl_end (ρ' := [(1, _), (4, _), (5, _)]) ⟨rfl, rfl, rfl, trivial⟩ ?_
 refine q_then ?_
 refine wc_block ?_
 refine wc_loop (fun m ρ σ u' => ∃ i : Nat, i + m = (namesOf bs).length ∧ VLe uN u' ∧ σ = [(1, (none, .box [vm, vb]))] ∧ ρ = [(1, .p 1 0), (4, .v (.slice adn (namesOf bs).length capn)), (5, .v (.int .i64 i))] ∧ (uN = u' ∧ twice [] (namesOf bs) = twice ((namesOf bs).take i) ((namesOf bs).drop i))) ((namesOf bs).length) ?_ ?_
 ·
  refine ⟨[(1, _), (4, _), (5, _)], [(1, _)], ⟨rfl, rfl, rfl, trivial⟩, ⟨rfl, trivial⟩, 0, by omega, VLe.refl _, (by first | rfl | simp), (by first | rfl | (simp only [List.cons.injEq, Prod.mk.injEq, SV.v.injEq, Value.int.injEq, true_and, and_true]; omega) | simp), ?_⟩
  exact ⟨rfl, by simp⟩
 ·
  rintro m ρ σ u' ⟨i, hi3, hle3, rfl, rfl, ⟨rfl, htw⟩⟩
  refine wc_seq ?_
  refine wc_seq ?_
  refine wc_region ?_
  refine ym rfl rfl ?_
  refine ym rfl rfl ?_
  refine rl_y (y_len_v rfl rfl Tryz.s37 rfl) rfl ?_
  refine rl_y (y_lss rfl rfl rfl) rfl ?_
  refine rl_end (ρ' := [(1, _), (4, _), (5, _), (12, _)]) ⟨rfl, rfl, rfl, rfl, trivial⟩ ?_
  refine q_then ?_
  refine wc_cond rfl (fun hb3 => ?_) (fun hb3 => ?_)
  ·
   have hlt : i < (namesOf bs).length := by have := of_decide_eq_true hb3; omega
   have hg := List.getElem?_eq_getElem hlt
   have hcut := cut_strsC hg
   have hcapn := hn.2.1
   refine wc_skip ?_
   refine q_then ?_
   refine wc_seq ?_
   refine wc_block ?_
   refine wc_seq ?_
   refine wc_draw Tryz.mixed rfl [] trivial ?_
   refine ra_y (i := 0) rfl (by kernel_rfl) (by kernel_rfl) (by kernel_rfl) (np_then (np_block (np_then (np_then (np_block (np_then (np_fin))))))) (y_move rfl rfl) rfl ?_
   refine ra_y (i := 1) rfl (by kernel_rfl) (by kernel_rfl) (by kernel_rfl) (np_then (np_block (np_then (np_then (np_block (np_then (np_fin))))))) (y_move rfl rfl) rfl ?_
   refine ra_y (i := 2) rfl (by kernel_rfl) (by kernel_rfl) (by kernel_rfl) (np_then (np_block (np_then (np_then (np_block (np_then (np_fin))))))) (y_slice_hi rfl Tryz.s37 rfl rfl (i := i) rfl (by omega)) rfl ?_
   refine ra_y (i := 3) rfl (by kernel_rfl) (by kernel_rfl) (by kernel_rfl) (np_then (np_block (np_then (np_then (np_block (np_then (np_fin))))))) (y_move rfl rfl) rfl ?_
   refine ra_y (i := 4) rfl (by kernel_rfl) (by kernel_rfl) (by kernel_rfl) (np_then (np_block (np_then (np_then (np_block (np_then (np_fin))))))) (y_move rfl rfl) rfl ?_
   refine ra_y (i := 5) rfl (by kernel_rfl) (by kernel_rfl) (by kernel_rfl) (np_then (np_block (np_then (np_then (np_block (np_then (np_fin))))))) (y_index_e rfl Tryz.s37 rfl rfl (by assumption) (by first | rfl | omega) (by omega)) rfl ?_
   refine ra_y (i := 6) rfl (by kernel_rfl) (by kernel_rfl) (by kernel_rfl) (np_then (np_block (np_then (np_then (np_block (np_then (np_fin))))))) (y_load_el rfl Tryz.k9 rfl (by assumption) (by omega) (by assumption) (vs := [_]) rfl rfl rfl rfl) rfl ?_
   refine ra_do (i := 7) rfl rfl (by kernel_rfl) ?_
   refine do_call_f (caps := []) trivial rfl rfl Tryz.c62 rfl (FnP.mono (has_fn _ ((namesOf bs).take i) ((namesOf bs)[i]) (by rw [List.length_take]; omega) uN ⟨_, _, by rw [List.length_take, Nat.min_eq_left (by omega)], by have h := hn.upto (i := i) (by omega); rw [List.length_take, Nat.min_eq_left (by omega)]; simpa [strsC, List.map_take] using h⟩) ?_)
   rintro v u1 hle1 rfl
   refine ra_end (by kernel_rfl) (ρ' := [(1, _), (4, _), (5, _), (22, _)]) ⟨rfl, rfl, rfl, rfl, trivial⟩ ?_
   refine q_then ?_
   refine wc_cond rfl (fun hb5 => ?_) (fun hb5 => ?_)
   ·
    have h5 := of_decide_eq_true hb5; have htw2 := twice_hit hg h5 htw
    refine wc_seq ?_
    refine wc_region ?_
    refine ym rfl rfl ?_
    refine ym rfl rfl ?_
    refine rl_y (y_index_e rfl Tryz.s37 rfl rfl (by assumption) (by first | rfl | omega) (by omega)) rfl ?_
    refine rl_y (y_load_el rfl Tryz.k9 rfl (by assumption) (by omega) (by assumption) (vs := [_]) rfl rfl rfl rfl) rfl ?_
    refine ya rfl rfl ?_
    refine ya rfl rfl ?_
    refine rl_end (ρ' := [(2, _), (3, _)]) ⟨rfl, rfl, trivial⟩ ?_
    refine q_then ?_
    refine wc_ret ?_
    refine q_block_ret ?_
    refine q_then_ret ?_
    refine q_then_ret ?_
    refine q_block_ret ?_
    refine q_then_ret ?_
    refine fin2 (.tmp rfl) (.tmp rfl) ?_
    unfold checkOf; rw [htw2]
   ·
    have h5 := of_decide_eq_false hb5; have htw2 := twice_take hg h5 htw
    refine wc_skip ?_
    refine q_block ?_
    refine q_then ?_
    refine wc_region ?_
    refine ym rfl rfl ?_
    refine rl_y (y_add rfl rfl rfl (wrap64_id (by omega))) rfl ?_
    refine ya rfl rfl ?_
    refine rl_end (ρ' := [(1, _), (4, _), (5, _)]) ⟨rfl, rfl, rfl, trivial⟩ ?_
    refine q_thenK ?_
    refine ⟨m - 1, [(1, _), (4, _), (5, _)], [(1, _)], by omega, ⟨rfl, rfl, rfl, trivial⟩, ⟨rfl, trivial⟩, i + 1, by omega, hle3, (by first | rfl | simp), (by first | rfl | (simp only [List.cons.injEq, Prod.mk.injEq, SV.v.injEq, Value.int.injEq, true_and, and_true]; omega) | simp), ?_⟩
    exact ⟨rfl, htw2⟩
  ·
   have hge := of_decide_eq_false hb3
   rw [List.drop_eq_nil_of_le (by omega), twice] at htw
   refine wc_exit ?_
   refine q_then_exit ?_
   refine q_then_exit ?_
   refine q_block_hit ?_
   refine q_then ?_
   refine wc_seq ?_
   refine wc_region ?_
   refine rl_y (y_load_p rfl Tryz.k25 rfl rfl rfl (vs := [_, _]) rfl rfl rfl) rfl ?_
   refine rl_do rfl rfl ?_
   refine do_call (caps := []) trivial rfl rfl Tryz.c63 rfl (FnP.mono (refMissing_fn vm vb bs _ hbig (ha.mono hleN)) ?_)
   rintro v uM hle0 ⟨adm, capm, rfl, hm⟩ hleM
   refine ya rfl rfl ?_
   refine rl_end (ρ' := [(6, _)]) ⟨rfl, trivial⟩ ?_
   refine q_then ?_
   refine wc_seq ?_
   refine wc_seq ?_
   refine wc_region ?_
   refine ym rfl rfl ?_
   refine rl_y (y_len_v rfl rfl Tryz.s37 rfl) rfl ?_
   refine rl_y (y_gtr rfl rfl rfl) rfl ?_
   refine rl_end (ρ' := [(6, _), (31, _)]) ⟨rfl, rfl, trivial⟩ ?_
   refine q_then ?_
   refine wc_cond rfl (fun hb8 => ?_) (fun hb8 => ?_)
   ·
    have h8 := of_decide_eq_true hb8
    refine wc_seq ?_
    obtain ⟨m0, mr, hmo, hmo2⟩ : ∃ m0 mr, onceL (missOf bs) = m0 :: mr ∧ (missOf bs).head? = some m0 := by
     cases h : onceL (missOf bs) with
     | nil => rw [h] at h8; simp at h8
     | cons a b => exact ⟨a, b, rfl, by rw [← onceL_head, h]; rfl⟩
    have hcut := cut_strsC (xs := onceL (missOf bs)) (i := 0) (x := m0) (by rw [hmo]; rfl)
    have hck : checkOf bs = (m0, 12) := by
     unfold checkOf
     rw [htw]
     cases h : missOf bs with
     | nil => rw [h] at hmo2; cases hmo2
     | cons a b => rw [h] at hmo2; cases hmo2; rfl
    have hpos : 0 < (onceL (missOf bs)).length := by rw [hmo]; simp
    refine wc_region ?_
    refine ym rfl rfl ?_
    refine rl_y (y_index_e rfl Tryz.s37 rfl rfl (by assumption) (j := 0) rfl (by omega)) rfl ?_
    refine rl_y (y_load_el rfl Tryz.k9 rfl (by assumption) (by omega) (by assumption) (vs := [_]) rfl rfl rfl rfl) rfl ?_
    refine ya rfl rfl ?_
    refine ya rfl rfl ?_
    refine rl_end (ρ' := [(2, _), (3, _)]) ⟨rfl, rfl, trivial⟩ ?_
    refine q_then ?_
    refine wc_ret ?_
    refine q_then_ret ?_
    refine fin2 (.tmp rfl) (.tmp rfl) ?_
    rw [hck]
   ·
    have h8 := of_decide_eq_false hb8
    refine wc_skip ?_
    refine q_then ?_
    refine wc_seq ?_
    refine wc_region ?_
    refine ya rfl rfl ?_
    refine ya rfl rfl ?_
    refine rl_end (ρ' := [(2, _), (3, _)]) ⟨rfl, rfl, trivial⟩ ?_
    refine q_then ?_
    refine wc_ret ?_
    refine fin2 (.tmp rfl) (.tmp rfl) ?_
    have hmo : onceL (missOf bs) = [] := List.eq_nil_of_length_eq_zero (by omega)
    have hmo2 : missOf bs = [] := by
     have h := onceL_head (missOf bs)
     rw [hmo] at h
     cases hx : missOf bs with
     | nil => rfl
     | cons a b => rw [hx] at h; cases h
    unfold checkOf
    rw [htw, hmo2]
    rfl
theorem sameBlocks_same (n : Nat) : ∀ (va vb : Value) (xs : List Blk), szB xs ≤ n → xs.length ≤ 140737488351232 → ∀ u : View, BlkS u va xs → BlkS u vb xs →
  FnP Tryz.prog 32 [va, vb] u fun v _ => v = .bool true := by
 induction n using Nat.strongRecOn with
 | _ n ih =>
 intro va vb xs hsz hx u ha hb
 obtain ⟨cs1, ⟨ad, cap, rfl, h1⟩, hc1⟩ := ha
 obtain ⟨cs2, ⟨ad2, cap2, rfl, h2⟩, hc2⟩ := hb
 refine FnP.intro [.tmp 4] Tryz.func32 rfl rfl rfl ?_
 intro w0 D hw0
 refine wc_seq ?_
 refine wc_region ?_
 refine ya rfl rfl ?_
 refine rl_end (ρ' := [(0, _), (1, _)]) ⟨rfl, rfl, trivial⟩ ?_
 refine q_then ?_
 refine wc_seq ?_
 refine wc_seq ?_
 refine wc_region ?_
 refine ym rfl rfl ?_
 refine rl_y (y_len_v rfl rfl Tryz.s23 rfl) rfl ?_
 refine ym rfl rfl ?_
 refine rl_y (y_len_v rfl rfl Tryz.s23 rfl) rfl ?_
 refine rl_y (y_neq_refl rfl rfl rfl) rfl ?_
 refine rl_end (ρ' := [(0, _), (1, _), (12, _)]) ⟨rfl, rfl, rfl, trivial⟩ ?_
 refine q_then ?_
 refine wc_cond_f rfl (rfl) ?_
 refine wc_skip ?_
 refine q_then ?_
 refine wc_seq ?_
 refine wc_seq ?_
 refine wc_region ?_
 refine ya rfl rfl ?_
 refine rl_end (ρ' := [(0, _), (1, _), (5, _)]) ⟨rfl, rfl, rfl, trivial⟩ ?_
 refine q_then ?_
 refine wc_block ?_
 refine wc_loop (fun m ρ σ u' => ∃ i : Nat, i + m = xs.length ∧ VLe u u' ∧ σ = [] ∧ ρ = [(0, .v (.slice ad xs.length cap)), (1, .v (.slice ad2 xs.length cap2)), (5, .v (.int .i64 i))] ∧ (u = u')) (xs.length) ?_ ?_
 ·
  refine ⟨[(0, _), (1, _), (5, _)], [], ⟨rfl, rfl, rfl, trivial⟩, trivial, 0, by omega, VLe.refl _, (by first | rfl | simp), (by first | rfl | (simp only [List.cons.injEq, Prod.mk.injEq, SV.v.injEq, Value.int.injEq, true_and, and_true]; omega) | simp), ?_⟩
  rfl
 ·
  rintro m ρ σ u' ⟨i, hi4, hle4, rfl, rfl, rfl⟩
  refine wc_seq ?_
  refine wc_seq ?_
  refine wc_region ?_
  refine ym rfl rfl ?_
  refine ym rfl rfl ?_
  refine rl_y (y_len_v rfl rfl Tryz.s23 rfl) rfl ?_
  refine rl_y (y_lss rfl rfl rfl) rfl ?_
  refine rl_end (ρ' := [(0, _), (1, _), (5, _), (16, _)]) ⟨rfl, rfl, rfl, rfl, trivial⟩ ?_
  refine q_then ?_
  refine wc_cond rfl (fun hb4 => ?_) (fun hb4 => ?_)
  ·
   refine wc_skip ?_
   refine q_then ?_
   refine wc_seq ?_
   refine wc_block ?_
   refine wc_seq ?_
   have hlt : i < xs.length := by have := of_decide_eq_true hb4; omega
   obtain ⟨k, lv, inf, t, d, ti, a, line, kids, vc, vp, vl, vk, hg, hcut1, s1, s2, s3, s4, hok⟩ := hc1.at hlt
   obtain ⟨vc', vp', vl', vk', hcut2, s1', s2', s3', s4', _⟩ := (hc2.get i _ hg).cells
   obtain ⟨_, _, _, _, _, _, ⟨_, ⟨okc, _⟩, ⟨okp, _⟩⟩, okl, okk⟩ := hok
   have oneAll := (hc1.get i _ hg).one
   rw [hcut1] at oneAll
   have oneAll2 := (hc2.get i _ hg).one
   rw [hcut2] at oneAll2
   have hkid := szB_kids hg
   refine wc_cutS [(6, .p 6 0), (7, .p 7 0)] [(6, (none, .box (blkV k lv inf t d ti a.id vc vp vl vk))), (7, (none, .box (blkV k lv inf t d ti a.id vc' vp' vl' vk')))] (ρa := [(0, _), (1, _), (5, _)]) (σa := []) ⟨rfl, rfl, rfl, trivial⟩ trivial ?_ ?_
   ·
    refine wc_draw Tryz.mixed rfl [] trivial ?_
    refine ra_y (i := 0) rfl (by kernel_rfl) (by kernel_rfl) (by kernel_rfl) (np_cutS) (y_move rfl rfl) rfl ?_
    refine ra_y (i := 1) rfl (by kernel_rfl) (by kernel_rfl) (by kernel_rfl) (np_cutS) (y_move rfl rfl) rfl ?_
    refine ra_y (i := 2) rfl (by kernel_rfl) (by kernel_rfl) (by kernel_rfl) (np_cutS) (y_index_e rfl Tryz.s23 rfl rfl (by assumption) (by first | rfl | omega) (by omega)) rfl ?_
    refine ra_y (i := 3) rfl (by kernel_rfl) (by kernel_rfl) (by kernel_rfl) (np_cutS) (y_load_el rfl Tryz.k59 rfl (by assumption) (by omega) (by assumption) (vs := [_, _, _, _, _, _, _, _, _, _, _]) rfl rfl rfl rfl) rfl ?_
    refine ra_y (i := 4) rfl (by kernel_rfl) (by kernel_rfl) (by kernel_rfl) (np_cutS) (y_move rfl rfl) rfl ?_
    refine ra_y (i := 5) rfl (by kernel_rfl) (by kernel_rfl) (by kernel_rfl) (np_cutS) (y_move rfl rfl) rfl ?_
    refine ra_y (i := 6) rfl (by kernel_rfl) (by kernel_rfl) (by kernel_rfl) (np_cutS) (y_index_e rfl Tryz.s23 rfl rfl (by assumption) (by first | rfl | omega) (by omega)) rfl ?_
    refine ra_y (i := 7) rfl (by kernel_rfl) (by kernel_rfl) (by kernel_rfl) (np_cutS) (y_load_el rfl Tryz.k59 rfl (by assumption) (by omega) (by assumption) (vs := [_, _, _, _, _, _, _, _, _, _, _]) rfl rfl rfl rfl) rfl ?_
    refine ra_all (is := [8, 9]) (by kernel_rfl) rfl ?_
    refine raall_cons rfl rfl ?_ ?_
    ·
     refine do_alloc trivial Tryz.z59 rfl rfl rfl ?_
     refine ra_do (i := 9) rfl rfl (by kernel_rfl) ?_
     refine do_alloc trivial Tryz.z59 rfl rfl rfl ?_
     refine ra_do (i := 10) rfl rfl (by kernel_rfl) ?_
     refine do_store_p trivial rfl Tryz.k59 rfl rfl rfl (vs := [_, _, _, _, _, _, _, _, _, _, _]) rfl rfl (by first | rfl | assumption | simp [Value.oneCell', str]) (Nat.le_of_ble_eq_true rfl) rfl ?_
     refine ra_do (i := 11) rfl rfl (by kernel_rfl) ?_
     refine do_store_p trivial rfl Tryz.k59 rfl rfl rfl (vs := [_, _, _, _, _, _, _, _, _, _, _]) rfl rfl (by first | rfl | assumption | simp [Value.oneCell', str]) (Nat.le_of_ble_eq_true rfl) rfl ?_
     exact cutS_endA (by kernel_rfl) ⟨rfl, rfl, rfl, rfl, rfl, trivial⟩ ⟨rfl, rfl, trivial⟩
    refine raall_cons rfl rfl ?_ ?_
    ·
     refine do_alloc trivial Tryz.z59 rfl rfl rfl ?_
     refine ra_do (i := 8) rfl rfl (by kernel_rfl) ?_
     refine do_alloc trivial Tryz.z59 rfl rfl rfl ?_
     refine ra_do (i := 10) rfl rfl (by kernel_rfl) ?_
     refine do_store_p trivial rfl Tryz.k59 rfl rfl rfl (vs := [_, _, _, _, _, _, _, _, _, _, _]) rfl rfl (by first | rfl | assumption | simp [Value.oneCell', str]) (Nat.le_of_ble_eq_true rfl) rfl ?_
     refine ra_do (i := 11) rfl rfl (by kernel_rfl) ?_
     refine do_store_p trivial rfl Tryz.k59 rfl rfl rfl (vs := [_, _, _, _, _, _, _, _, _, _, _]) rfl rfl (by first | rfl | assumption | simp [Value.oneCell', str]) (Nat.le_of_ble_eq_true rfl) rfl ?_
     exact cutS_endA (by kernel_rfl) ⟨rfl, rfl, rfl, rfl, rfl, trivial⟩ ⟨rfl, rfl, trivial⟩
    exact raall_nil
   refine q_then ?_
   refine wc_seq ?_
   refine wc_region ?_
   refine rl_y (y_field_p rfl Tryz.f59' rfl (by decide) rfl) rfl ?_
   refine rl_y (y_load_p rfl Tryz.k3 rfl rfl rfl (vs := [_]) rfl rfl rfl) rfl ?_
   refine rl_y (y_field_p rfl Tryz.f59' rfl (by decide) rfl) rfl ?_
   refine rl_y (y_load_p rfl Tryz.k3 rfl rfl rfl (vs := [_]) rfl rfl rfl) rfl ?_
   refine rl_y (y_neq_refl rfl rfl rfl) rfl ?_
   refine ym rfl rfl ?_
   refine rl_on rfl rfl ?_
   refine rl_y (y_field_p rfl Tryz.f59' rfl (by decide) rfl) rfl ?_
   refine rl_on rfl rfl ?_
   refine rl_y (y_load_p rfl Tryz.k3 rfl rfl rfl (vs := [_]) rfl rfl rfl) rfl ?_
   refine rl_on rfl rfl ?_
   refine rl_y (y_field_p rfl Tryz.f59' rfl (by decide) rfl) rfl ?_
   refine rl_on rfl rfl ?_
   refine rl_y (y_load_p rfl Tryz.k3 rfl rfl rfl (vs := [_]) rfl rfl rfl) rfl ?_
   refine rl_on rfl rfl ?_
   refine rl_y (y_neq_refl rfl rfl rfl) rfl ?_
   refine rl_y (y_pick_f rfl rfl rfl) rfl ?_
   refine ym rfl rfl ?_
   refine rl_on rfl rfl ?_
   refine rl_y (y_field_p rfl Tryz.f59' rfl (by decide) rfl) rfl ?_
   refine rl_on rfl rfl ?_
   refine rl_y (y_load_p rfl Tryz.k9 rfl rfl rfl (vs := [_]) rfl rfl rfl) rfl ?_
   refine rl_on rfl rfl ?_
   refine rl_y (y_field_p rfl Tryz.f59' rfl (by decide) rfl) rfl ?_
   refine rl_on rfl rfl ?_
   refine rl_y (y_load_p rfl Tryz.k9 rfl rfl rfl (vs := [_]) rfl rfl rfl) rfl ?_
   refine rl_on rfl rfl ?_
   refine rl_y (y_str_neq_refl rfl rfl rfl) rfl ?_
   refine rl_y (y_pick_f rfl rfl rfl) rfl ?_
   refine ym rfl rfl ?_
   refine rl_on rfl rfl ?_
   refine rl_y (y_field_p rfl Tryz.f59' rfl (by decide) rfl) rfl ?_
   refine rl_on rfl rfl ?_
   refine rl_y (y_load_p rfl Tryz.k9 rfl rfl rfl (vs := [_]) rfl rfl rfl) rfl ?_
   refine rl_on rfl rfl ?_
   refine rl_y (y_field_p rfl Tryz.f59' rfl (by decide) rfl) rfl ?_
   refine rl_on rfl rfl ?_
   refine rl_y (y_load_p rfl Tryz.k9 rfl rfl rfl (vs := [_]) rfl rfl rfl) rfl ?_
   refine rl_on rfl rfl ?_
   refine rl_y (y_str_neq_refl rfl rfl rfl) rfl ?_
   refine rl_y (y_pick_f rfl rfl rfl) rfl ?_
   refine ym rfl rfl ?_
   refine rl_on rfl rfl ?_
   refine rl_y (y_field_p rfl Tryz.f59' rfl (by decide) rfl) rfl ?_
   refine rl_on rfl rfl ?_
   refine rl_y (y_load_p rfl Tryz.k9 rfl rfl rfl (vs := [_]) rfl rfl rfl) rfl ?_
   refine rl_on rfl rfl ?_
   refine rl_y (y_field_p rfl Tryz.f59' rfl (by decide) rfl) rfl ?_
   refine rl_on rfl rfl ?_
   refine rl_y (y_load_p rfl Tryz.k9 rfl rfl rfl (vs := [_]) rfl rfl rfl) rfl ?_
   refine rl_on rfl rfl ?_
   refine rl_y (y_str_neq_refl rfl rfl rfl) rfl ?_
   refine rl_y (y_pick_f rfl rfl rfl) rfl ?_
   refine ym rfl rfl ?_
   refine rl_on rfl rfl ?_
   refine rl_y (y_field_p rfl Tryz.f59' rfl (by decide) rfl) rfl ?_
   refine rl_on rfl rfl ?_
   refine rl_y (y_load_p rfl Tryz.k9 rfl rfl rfl (vs := [_]) rfl rfl rfl) rfl ?_
   refine rl_on rfl rfl ?_
   refine rl_y (y_field_p rfl Tryz.f59' rfl (by decide) rfl) rfl ?_
   refine rl_on rfl rfl ?_
   refine rl_y (y_load_p rfl Tryz.k9 rfl rfl rfl (vs := [_]) rfl rfl rfl) rfl ?_
   refine rl_on rfl rfl ?_
   refine rl_y (y_str_neq_refl rfl rfl rfl) rfl ?_
   refine rl_y (y_pick_f rfl rfl rfl) rfl ?_
   refine ym rfl rfl ?_
   refine rl_on rfl rfl ?_
   refine rl_y (y_field_p rfl Tryz.f59' rfl (by decide) rfl) rfl ?_
   refine rl_on rfl rfl ?_
   refine rl_y (y_load_p rfl Tryz.k39 rfl rfl rfl (vs := [_, _, _]) rfl rfl rfl) rfl ?_
   refine rl_on rfl rfl ?_
   refine rl_y (y_field_p rfl Tryz.f59' rfl (by decide) rfl) rfl ?_
   refine rl_on rfl rfl ?_
   refine rl_y (y_load_p rfl Tryz.k39 rfl rfl rfl (vs := [_, _, _]) rfl rfl rfl) rfl ?_
   refine rl_on rfl rfl ?_
   refine rl_do rfl rfl ?_
   refine do_call_f (caps := []) trivial rfl rfl Tryz.c68 rfl (FnP.mono (attrs_same a _ _ _ _ okc okp u s1 s2 s1' s2') ?_)
   rintro v u1 hle1 rfl
   refine rl_on rfl rfl ?_
   refine rl_y (y_not rfl rfl) rfl ?_
   refine rl_y (y_pick_f rfl rfl rfl) rfl ?_
   refine ym rfl rfl ?_
   refine rl_on rfl rfl ?_
   refine rl_y (y_field_p rfl Tryz.f59' rfl (by decide) rfl) rfl ?_
   refine rl_on rfl rfl ?_
   refine rl_y (y_load_p rfl Tryz.k35 rfl rfl rfl (vs := [_]) rfl rfl rfl) rfl ?_
   refine rl_on rfl rfl ?_
   refine rl_y (y_field_p rfl Tryz.f59' rfl (by decide) rfl) rfl ?_
   refine rl_on rfl rfl ?_
   refine rl_y (y_load_p rfl Tryz.k35 rfl rfl rfl (vs := [_]) rfl rfl rfl) rfl ?_
   refine rl_on rfl rfl ?_
   refine rl_do rfl rfl ?_
   refine do_call_f (caps := []) trivial rfl rfl Tryz.c69 rfl (FnP.mono (inl_same okl s3 s3') ?_)
   rintro v u1 hle1 rfl
   refine rl_on rfl rfl ?_
   refine rl_y (y_not rfl rfl) rfl ?_
   refine rl_y (y_pick_f rfl rfl rfl) rfl ?_
   refine ym rfl rfl ?_
   refine rl_on rfl rfl ?_
   refine rl_y (y_field_p rfl Tryz.f59' rfl (by decide) rfl) rfl ?_
   refine rl_on rfl rfl ?_
   refine rl_y (y_load_p rfl Tryz.k23 rfl rfl rfl (vs := [_]) rfl rfl rfl) rfl ?_
   refine rl_on rfl rfl ?_
   refine rl_y (y_field_p rfl Tryz.f59' rfl (by decide) rfl) rfl ?_
   refine rl_on rfl rfl ?_
   refine rl_y (y_load_p rfl Tryz.k23 rfl rfl rfl (vs := [_]) rfl rfl rfl) rfl ?_
   refine rl_on rfl rfl ?_
   refine rl_do rfl rfl ?_
   refine do_call_f (caps := []) trivial rfl rfl Tryz.c32 rfl (FnP.mono (ih _ (by omega : szB kids < n) _ _ kids (Nat.le_refl _) okk u s4 s4') ?_)
   rintro v u1 hle1 rfl
   refine rl_on rfl rfl ?_
   refine rl_y (y_not rfl rfl) rfl ?_
   refine rl_y (y_pick_f rfl rfl rfl) rfl ?_
   refine rl_end (ρ' := [(0, _), (1, _), (5, _), (90, _)]) ⟨rfl, rfl, rfl, rfl, trivial⟩ ?_
   refine q_then ?_
   refine wc_cond_f rfl (rfl) ?_
   refine wc_skip ?_
   refine q_block ?_
   refine q_then ?_
   refine wc_region ?_
   refine ym rfl rfl ?_
   refine rl_y (y_add rfl rfl rfl (wrap64_id (by omega))) rfl ?_
   refine ya rfl rfl ?_
   refine rl_end (ρ' := [(0, _), (1, _), (5, _)]) ⟨rfl, rfl, rfl, trivial⟩ ?_
   refine q_thenK ?_
   refine ⟨m - 1, [(0, _), (1, _), (5, _)], [], by omega, ⟨rfl, rfl, rfl, trivial⟩, trivial, i + 1, by omega, hle4, (by first | rfl | simp), (by first | rfl | (simp only [List.cons.injEq, Prod.mk.injEq, SV.v.injEq, Value.int.injEq, true_and, and_true]; omega) | simp), ?_⟩
   rfl
  ·
   refine wc_exit ?_
   refine q_then_exit ?_
   refine q_then_exit ?_
   refine q_block_hit ?_
   refine q_then ?_
   refine wc_seq ?_
   refine wc_region ?_
   refine ya rfl rfl ?_
   refine rl_end (ρ' := [(4, _)]) ⟨rfl, trivial⟩ ?_
   refine q_then ?_
   refine wc_ret ?_
   refine fin1 (.tmp rfl) ?_
   rfl
theorem same_fn (va vb wa wb : Value) (ps : List (Bs × Bs)) (xs : List Blk) (hp : ps.length ≤ 140737488351232) (hx : xs.length ≤ 140737488351232) (u : View) (h1 : PrS u va ps) (h2 : PrS u wa ps) (h3 : BlkS u vb xs) (h4 : BlkS u wb xs) :
  FnP Tryz.prog 11 [.agg #[va, vb], .agg #[wa, wb]] u fun v _ => v = .bool true := by
 refine FnP.intro [.tmp 4] Tryz.func11 rfl rfl rfl ?_
 intro w0 D hw0
 refine wc_seq ?_
 refine wc_region ?_
 refine rl_do rfl rfl ?_
 refine do_box trivial rfl (cs := [_, _]) rfl rfl rfl rfl ?_
 refine rl_do rfl rfl ?_
 refine do_box trivial rfl (cs := [_, _]) rfl rfl rfl rfl ?_
 refine ya rfl rfl ?_
 refine rl_end (ρ' := [(2, _), (3, _)]) ⟨rfl, rfl, trivial⟩ ?_
 refine q_then ?_
 refine wc_seq ?_
 refine wc_region ?_
 refine rl_y (y_field_p rfl Tryz.f25' rfl (by decide) rfl) rfl ?_
 refine rl_y (y_load_p rfl Tryz.k22 rfl rfl rfl (vs := [_]) rfl rfl rfl) rfl ?_
 refine rl_y (y_field_p rfl Tryz.f25' rfl (by decide) rfl) rfl ?_
 refine rl_y (y_load_p rfl Tryz.k22 rfl rfl rfl (vs := [_]) rfl rfl rfl) rfl ?_
 refine rl_do rfl rfl ?_
 refine do_call_f (caps := []) trivial rfl rfl Tryz.c31 rfl (FnP.mono (pairs_same _ _ ps hp u h1 h2) ?_)
 rintro v u1 hle1 rfl
 refine ym rfl rfl ?_
 refine rl_on rfl rfl ?_
 refine rl_y (y_field_p rfl Tryz.f25' rfl (by decide) rfl) rfl ?_
 refine rl_on rfl rfl ?_
 refine rl_y (y_load_p rfl Tryz.k23 rfl rfl rfl (vs := [_]) rfl rfl rfl) rfl ?_
 refine rl_on rfl rfl ?_
 refine rl_y (y_field_p rfl Tryz.f25' rfl (by decide) rfl) rfl ?_
 refine rl_on rfl rfl ?_
 refine rl_y (y_load_p rfl Tryz.k23 rfl rfl rfl (vs := [_]) rfl rfl rfl) rfl ?_
 refine rl_on rfl rfl ?_
 refine rl_do rfl rfl ?_
 refine do_call_f (caps := []) trivial rfl rfl Tryz.c32 rfl (FnP.mono (sameBlocks_same (szB xs) _ _ xs (Nat.le_refl _) hx u h3 h4) ?_)
 rintro v u1 hle1 rfl
 refine rl_y (y_pick_t rfl rfl rfl) rfl ?_
 refine ya rfl rfl ?_
 refine rl_end (ρ' := [(4, _)]) ⟨rfl, trivial⟩ ?_
 refine q_then ?_
 refine wc_ret ?_
 refine fin1 (.tmp rfl) ?_
 rfl
theorem refWord_fn (lang kind : Bs) (u : View) : FnP Tryz.prog 112 [str lang, str kind] u fun r _ => r = str (wordOf lang kind) := by
 refine FnP.intro [.tmp 4] Tryz.func112 rfl rfl rfl ?_
 intro w0 D hw0
 refine wc_seq ?_
 refine wc_region ?_
 refine ya rfl rfl ?_
 refine rl_end (ρ' := [(0, _), (1, _)]) ⟨rfl, rfl, trivial⟩ ?_
 refine q_then ?_
 refine wc_seq ?_
 refine wc_region ?_
 refine rl_do rfl rfl ?_
 refine do_buildSlice trivial Tryz.s37 Tryz.z9 (ps := [(_, _), (_, _), (_, _)]) rfl (xs := [_, _, _]) rfl rfl rfl rfl rfl rfl rfl ?_
 refine rl_freeze 6 rfl ?_
 intro ad6 cap6 u6 hle6z hsl6
 refine ya rfl rfl ?_
 refine rl_end (ρ' := [(0, _), (1, _), (5, _)]) ⟨rfl, rfl, rfl, trivial⟩ ?_
 refine q_then ?_
 refine wc_cut (fun ρ σ uc9 => ∃ (x : Option Addr) (y : Nat) (a b c : Bs), VLe u uc9 ∧ σ = [] ∧ ρ = [(1, .v (str kind)), (5, .v (.slice x 3 y))] ∧ (SlC uc9 x 3 y 1 [str a, str b, str c] ∧ rowW lang = (a, b, c))) ?_ ?_
 ·
  refine wc_seq ?_
  refine wc_region ?_
  refine ym rfl rfl ?_
  refine rl_end (ρ' := [(1, _), (5, _), (7, _)]) ⟨rfl, rfl, rfl, trivial⟩ ?_
  refine q_then ?_
  refine wc_block ?_
  refine wc_seq ?_
  refine wc_region ?_
  refine rl_y (y_str_eql rfl rfl rfl) rfl ?_
  refine ya rfl rfl ?_
  refine rl_end (ρ' := [(1, _), (5, _), (7, _), (8, _)]) ⟨rfl, rfl, rfl, rfl, trivial⟩ ?_
  refine q_then ?_
  refine wc_cond rfl (fun hb3 => ?_) (fun hb3 => ?_)
  ·
   have h3 : lang = deS := of_decide_eq_true hb3
   refine wc_region ?_
   refine rl_do rfl rfl ?_
   refine do_buildSlice trivial Tryz.s37 Tryz.z9 (ps := [(_, _), (_, _), (_, _)]) rfl (xs := [_, _, _]) rfl rfl rfl rfl rfl rfl rfl ?_
   refine rl_freeze 10 rfl ?_
   intro ad10 cap10 u10 hle10z hsl10
   refine ya rfl rfl ?_
   refine rl_end (ρ' := [(1, _), (5, _)]) ⟨rfl, rfl, trivial⟩ ?_
   refine q_block ?_
   refine q_thenK ?_
   first
    | (refine ⟨[(1, _), (5, _)], [], ⟨rfl, rfl, trivial⟩, trivial, _, _, [65, 98, 115, 99, 104, 110, 105, 116, 116], [65, 98, 98, 105, 108, 100, 117, 110, 103], [84, 97, 98, 101, 108, 108, 101], (hle6z.trans hle10z), (by first | rfl | simp), (by first | rfl | (simp only [List.cons.injEq, Prod.mk.injEq, SV.v.injEq, Value.int.injEq, true_and, and_true]; omega) | simp), ?_⟩
       (refine ⟨hsl10, ?_⟩; unfold rowW; rw [if_pos h3]))
    | (refine ⟨[(1, _), (5, _)], [], ⟨rfl, rfl, trivial⟩, trivial, _, _, [83, 101, 99, 116, 105, 111, 110], [70, 105, 103, 117, 114, 101], [84, 97, 98, 108, 101, 97, 117], (hle6z.trans hle13z), (by first | rfl | simp), (by first | rfl | (simp only [List.cons.injEq, Prod.mk.injEq, SV.v.injEq, Value.int.injEq, true_and, and_true]; omega) | simp), ?_⟩
       (refine ⟨hsl13, ?_⟩; unfold rowW; rw [if_neg h3, if_pos h5]))
    | (refine ⟨[(1, _), (5, _)], [], ⟨rfl, rfl, trivial⟩, trivial, _, _, [83, 101, 99, 99, 105, 195, 179, 110], [70, 105, 103, 117, 114, 97], [84, 97, 98, 108, 97], (hle6z.trans hle16z), (by first | rfl | simp), (by first | rfl | (simp only [List.cons.injEq, Prod.mk.injEq, SV.v.injEq, Value.int.injEq, true_and, and_true]; omega) | simp), ?_⟩
       (refine ⟨hsl16, ?_⟩; unfold rowW; rw [if_neg h3, if_neg h5, if_pos h7]))
    | (refine ⟨[(1, _), (5, _)], [], ⟨rfl, rfl, trivial⟩, trivial, _, _, [83, 101, 99, 116, 105, 111, 110], [70, 105, 103, 117, 114, 101], [84, 97, 98, 108, 101], hle6z, (by first | rfl | simp), (by first | rfl | (simp only [List.cons.injEq, Prod.mk.injEq, SV.v.injEq, Value.int.injEq, true_and, and_true]; omega) | simp), ?_⟩
       (refine ⟨hsl6, ?_⟩; unfold rowW; rw [if_neg h3, if_neg h5, if_neg h7]))
  ·
   have h3 : ¬ lang = deS := of_decide_eq_false hb3
   refine wc_seq ?_
   refine wc_region ?_
   refine rl_y (y_str_eql rfl rfl rfl) rfl ?_
   refine ya rfl rfl ?_
   refine rl_end (ρ' := [(1, _), (5, _), (7, _), (11, _)]) ⟨rfl, rfl, rfl, rfl, trivial⟩ ?_
   refine q_then ?_
   refine wc_cond rfl (fun hb5 => ?_) (fun hb5 => ?_)
   ·
    have h5 : lang = frS := of_decide_eq_true hb5
    refine wc_region ?_
    refine rl_do rfl rfl ?_
    refine do_buildSlice trivial Tryz.s37 Tryz.z9 (ps := [(_, _), (_, _), (_, _)]) rfl (xs := [_, _, _]) rfl rfl rfl rfl rfl rfl rfl ?_
    refine rl_freeze 13 rfl ?_
    intro ad13 cap13 u13 hle13z hsl13
    refine ya rfl rfl ?_
    refine rl_end (ρ' := [(1, _), (5, _)]) ⟨rfl, rfl, trivial⟩ ?_
    refine q_block ?_
    refine q_thenK ?_
    first
     | (refine ⟨[(1, _), (5, _)], [], ⟨rfl, rfl, trivial⟩, trivial, _, _, [65, 98, 115, 99, 104, 110, 105, 116, 116], [65, 98, 98, 105, 108, 100, 117, 110, 103], [84, 97, 98, 101, 108, 108, 101], (hle6z.trans hle10z), (by first | rfl | simp), (by first | rfl | (simp only [List.cons.injEq, Prod.mk.injEq, SV.v.injEq, Value.int.injEq, true_and, and_true]; omega) | simp), ?_⟩
        (refine ⟨hsl10, ?_⟩; unfold rowW; rw [if_pos h3]))
     | (refine ⟨[(1, _), (5, _)], [], ⟨rfl, rfl, trivial⟩, trivial, _, _, [83, 101, 99, 116, 105, 111, 110], [70, 105, 103, 117, 114, 101], [84, 97, 98, 108, 101, 97, 117], (hle6z.trans hle13z), (by first | rfl | simp), (by first | rfl | (simp only [List.cons.injEq, Prod.mk.injEq, SV.v.injEq, Value.int.injEq, true_and, and_true]; omega) | simp), ?_⟩
        (refine ⟨hsl13, ?_⟩; unfold rowW; rw [if_neg h3, if_pos h5]))
     | (refine ⟨[(1, _), (5, _)], [], ⟨rfl, rfl, trivial⟩, trivial, _, _, [83, 101, 99, 99, 105, 195, 179, 110], [70, 105, 103, 117, 114, 97], [84, 97, 98, 108, 97], (hle6z.trans hle16z), (by first | rfl | simp), (by first | rfl | (simp only [List.cons.injEq, Prod.mk.injEq, SV.v.injEq, Value.int.injEq, true_and, and_true]; omega) | simp), ?_⟩
        (refine ⟨hsl16, ?_⟩; unfold rowW; rw [if_neg h3, if_neg h5, if_pos h7]))
     | (refine ⟨[(1, _), (5, _)], [], ⟨rfl, rfl, trivial⟩, trivial, _, _, [83, 101, 99, 116, 105, 111, 110], [70, 105, 103, 117, 114, 101], [84, 97, 98, 108, 101], hle6z, (by first | rfl | simp), (by first | rfl | (simp only [List.cons.injEq, Prod.mk.injEq, SV.v.injEq, Value.int.injEq, true_and, and_true]; omega) | simp), ?_⟩
        (refine ⟨hsl6, ?_⟩; unfold rowW; rw [if_neg h3, if_neg h5, if_neg h7]))
   ·
    have h5 : ¬ lang = frS := of_decide_eq_false hb5
    refine wc_seq ?_
    refine wc_region ?_
    refine rl_y (y_str_eql rfl rfl rfl) rfl ?_
    refine ya rfl rfl ?_
    refine rl_end (ρ' := [(1, _), (5, _), (14, _)]) ⟨rfl, rfl, rfl, trivial⟩ ?_
    refine q_then ?_
    refine wc_cond rfl (fun hb7 => ?_) (fun hb7 => ?_)
    ·
     have h7 : lang = esS := of_decide_eq_true hb7
     refine wc_region ?_
     refine rl_do rfl rfl ?_
     refine do_buildSlice trivial Tryz.s37 Tryz.z9 (ps := [(_, _), (_, _), (_, _)]) rfl (xs := [_, _, _]) rfl rfl rfl rfl rfl rfl rfl ?_
     refine rl_freeze 16 rfl ?_
     intro ad16 cap16 u16 hle16z hsl16
     refine ya rfl rfl ?_
     refine rl_end (ρ' := [(1, _), (5, _)]) ⟨rfl, rfl, trivial⟩ ?_
     refine q_block ?_
     refine q_thenK ?_
     first
      | (refine ⟨[(1, _), (5, _)], [], ⟨rfl, rfl, trivial⟩, trivial, _, _, [65, 98, 115, 99, 104, 110, 105, 116, 116], [65, 98, 98, 105, 108, 100, 117, 110, 103], [84, 97, 98, 101, 108, 108, 101], (hle6z.trans hle10z), (by first | rfl | simp), (by first | rfl | (simp only [List.cons.injEq, Prod.mk.injEq, SV.v.injEq, Value.int.injEq, true_and, and_true]; omega) | simp), ?_⟩
         (refine ⟨hsl10, ?_⟩; unfold rowW; rw [if_pos h3]))
      | (refine ⟨[(1, _), (5, _)], [], ⟨rfl, rfl, trivial⟩, trivial, _, _, [83, 101, 99, 116, 105, 111, 110], [70, 105, 103, 117, 114, 101], [84, 97, 98, 108, 101, 97, 117], (hle6z.trans hle13z), (by first | rfl | simp), (by first | rfl | (simp only [List.cons.injEq, Prod.mk.injEq, SV.v.injEq, Value.int.injEq, true_and, and_true]; omega) | simp), ?_⟩
         (refine ⟨hsl13, ?_⟩; unfold rowW; rw [if_neg h3, if_pos h5]))
      | (refine ⟨[(1, _), (5, _)], [], ⟨rfl, rfl, trivial⟩, trivial, _, _, [83, 101, 99, 99, 105, 195, 179, 110], [70, 105, 103, 117, 114, 97], [84, 97, 98, 108, 97], (hle6z.trans hle16z), (by first | rfl | simp), (by first | rfl | (simp only [List.cons.injEq, Prod.mk.injEq, SV.v.injEq, Value.int.injEq, true_and, and_true]; omega) | simp), ?_⟩
         (refine ⟨hsl16, ?_⟩; unfold rowW; rw [if_neg h3, if_neg h5, if_pos h7]))
      | (refine ⟨[(1, _), (5, _)], [], ⟨rfl, rfl, trivial⟩, trivial, _, _, [83, 101, 99, 116, 105, 111, 110], [70, 105, 103, 117, 114, 101], [84, 97, 98, 108, 101], hle6z, (by first | rfl | simp), (by first | rfl | (simp only [List.cons.injEq, Prod.mk.injEq, SV.v.injEq, Value.int.injEq, true_and, and_true]; omega) | simp), ?_⟩
         (refine ⟨hsl6, ?_⟩; unfold rowW; rw [if_neg h3, if_neg h5, if_neg h7]))
    ·
     have h7 : ¬ lang = esS := of_decide_eq_false hb7
     refine wc_skip ?_
     refine q_block ?_
     refine q_thenK ?_
     first
      | (refine ⟨[(1, _), (5, _)], [], ⟨rfl, rfl, trivial⟩, trivial, _, _, [65, 98, 115, 99, 104, 110, 105, 116, 116], [65, 98, 98, 105, 108, 100, 117, 110, 103], [84, 97, 98, 101, 108, 108, 101], (hle6z.trans hle10z), (by first | rfl | simp), (by first | rfl | (simp only [List.cons.injEq, Prod.mk.injEq, SV.v.injEq, Value.int.injEq, true_and, and_true]; omega) | simp), ?_⟩
         (refine ⟨hsl10, ?_⟩; unfold rowW; rw [if_pos h3]))
      | (refine ⟨[(1, _), (5, _)], [], ⟨rfl, rfl, trivial⟩, trivial, _, _, [83, 101, 99, 116, 105, 111, 110], [70, 105, 103, 117, 114, 101], [84, 97, 98, 108, 101, 97, 117], (hle6z.trans hle13z), (by first | rfl | simp), (by first | rfl | (simp only [List.cons.injEq, Prod.mk.injEq, SV.v.injEq, Value.int.injEq, true_and, and_true]; omega) | simp), ?_⟩
         (refine ⟨hsl13, ?_⟩; unfold rowW; rw [if_neg h3, if_pos h5]))
      | (refine ⟨[(1, _), (5, _)], [], ⟨rfl, rfl, trivial⟩, trivial, _, _, [83, 101, 99, 99, 105, 195, 179, 110], [70, 105, 103, 117, 114, 97], [84, 97, 98, 108, 97], (hle6z.trans hle16z), (by first | rfl | simp), (by first | rfl | (simp only [List.cons.injEq, Prod.mk.injEq, SV.v.injEq, Value.int.injEq, true_and, and_true]; omega) | simp), ?_⟩
         (refine ⟨hsl16, ?_⟩; unfold rowW; rw [if_neg h3, if_neg h5, if_pos h7]))
      | (refine ⟨[(1, _), (5, _)], [], ⟨rfl, rfl, trivial⟩, trivial, _, _, [83, 101, 99, 116, 105, 111, 110], [70, 105, 103, 117, 114, 101], [84, 97, 98, 108, 101], hle6z, (by first | rfl | simp), (by first | rfl | (simp only [List.cons.injEq, Prod.mk.injEq, SV.v.injEq, Value.int.injEq, true_and, and_true]; omega) | simp), ?_⟩
         (refine ⟨hsl6, ?_⟩; unfold rowW; rw [if_neg h3, if_neg h5, if_neg h7]))
 ·
  rintro ρ σ uc9 ⟨x, y, a, b, c, hlc9, rfl, rfl, ⟨hs9, hrow⟩⟩
  have hca : cut [str a, str b, str c] (0 * 1) 1 = [str a] := rfl
  have hcb : cut [str a, str b, str c] (1 * 1) 1 = [str b] := rfl
  have hcc : cut [str a, str b, str c] (2 * 1) 1 = [str c] := rfl
  refine wc_seq ?_
  refine wc_seq ?_
  refine wc_region ?_
  refine ym rfl rfl ?_
  refine rl_y (y_str_eql rfl rfl rfl) rfl ?_
  refine rl_end (ρ' := [(1, _), (5, _), (18, _)]) ⟨rfl, rfl, rfl, trivial⟩ ?_
  refine q_then ?_
  refine wc_cond rfl (fun hb9 => ?_) (fun hb9 => ?_)
  ·
   have h10 : kind = secS := of_decide_eq_true hb9
   refine wc_seq ?_
   refine wc_region ?_
   refine ym rfl rfl ?_
   refine rl_y (y_index_e rfl Tryz.s37 rfl rfl hs9 (j := 0) rfl (by decide)) rfl ?_
   refine rl_y (y_load_el rfl Tryz.k9 rfl (by assumption) (by omega) (by assumption) (vs := [_]) rfl rfl rfl rfl) rfl ?_
   refine ya rfl rfl ?_
   refine rl_end (ρ' := [(4, _)]) ⟨rfl, trivial⟩ ?_
   refine q_then ?_
   refine wc_ret ?_
   refine q_then_ret ?_
   refine fin1 (.tmp rfl) ?_
   unfold wordOf; rw [if_pos h10, hrow]
  ·
   have h10 : ¬ kind = secS := of_decide_eq_false hb9
   refine wc_skip ?_
   refine q_then ?_
   refine wc_seq ?_
   refine wc_seq ?_
   refine wc_region ?_
   refine ym rfl rfl ?_
   refine rl_y (y_str_eql rfl rfl rfl) rfl ?_
   refine rl_end (ρ' := [(5, _), (23, _)]) ⟨rfl, rfl, trivial⟩ ?_
   refine q_then ?_
   refine wc_cond rfl (fun hb11 => ?_) (fun hb11 => ?_)
   ·
    have h12 : kind = figS := of_decide_eq_true hb11
    refine wc_seq ?_
    refine wc_region ?_
    refine ym rfl rfl ?_
    refine rl_y (y_index_e rfl Tryz.s37 rfl rfl hs9 (j := 1) rfl (by decide)) rfl ?_
    refine rl_y (y_load_el rfl Tryz.k9 rfl (by assumption) (by omega) (by assumption) (vs := [_]) rfl rfl rfl rfl) rfl ?_
    refine ya rfl rfl ?_
    refine rl_end (ρ' := [(4, _)]) ⟨rfl, trivial⟩ ?_
    refine q_then ?_
    refine wc_ret ?_
    refine q_then_ret ?_
    refine fin1 (.tmp rfl) ?_
    unfold wordOf; rw [if_neg h10, if_pos h12, hrow]
   ·
    have h12 : ¬ kind = figS := of_decide_eq_false hb11
    refine wc_skip ?_
    refine q_then ?_
    refine wc_seq ?_
    refine wc_region ?_
    refine ym rfl rfl ?_
    refine rl_y (y_index_e rfl Tryz.s37 rfl rfl hs9 (j := 2) rfl (by decide)) rfl ?_
    refine rl_y (y_load_el rfl Tryz.k9 rfl (by assumption) (by omega) (by assumption) (vs := [_]) rfl rfl rfl rfl) rfl ?_
    refine ya rfl rfl ?_
    refine rl_end (ρ' := [(4, _)]) ⟨rfl, trivial⟩ ?_
    refine q_then ?_
    refine wc_ret ?_
    refine fin1 (.tmp rfl) ?_
    unfold wordOf; rw [if_neg h10, if_neg h12, hrow]
theorem hlineOf_cons (e : Ev) (l : List Ev) (s : Bs) : hlineOf (e :: l) s = if evId e = s then headEv e else hlineOf l s := by
 unfold hlineOf headOf
 rw [List.find?_cons]
 by_cases h : evId e = s
 ·
  simp [h]
 ·
  simp [h]
theorem evL_drop {L : List Blk} {i : Nat} {x : Blk} (h : L[i]? = some x) : evL (L.drop i) = Sum.inl x :: ((deep (lineOf x)).drop 0).map Sum.inr ++ evL (L.drop (i + 1)) := by
 obtain ⟨hlt, rfl⟩ := List.getElem?_eq_some_iff.1 h
 rw [List.drop_eq_getElem_cons hlt]
 rfl
theorem evI_drop {xs : List Inl} {j : Nat} {x : Inl} (h : xs[j]? = some x) : (xs.drop j).map (Sum.inr : Inl → Ev) = Sum.inr x :: (xs.drop (j + 1)).map Sum.inr := by
 obtain ⟨hlt, rfl⟩ := List.getElem?_eq_some_iff.1 h
 rw [List.drop_eq_getElem_cons hlt]
 rfl
set_option maxHeartbeats 1000000 in
theorem refHeld_fn (vm vb : Value) (bs : List Blk) (s : Bs) (hsm : smB bs) (hbig : szB bs ≤ 1000) (u : View) (ha : BlkS u vb bs) :
  FnP Tryz.prog 113 [.agg #[vm, vb], str s] u fun r _ => r = str (plain (hlineOf (evB bs) s)) := by
 have hll := listB_len bs
 have hP0 : plain [] = [] := by simp [plain]
 refine FnP.intro [.tmp 4] Tryz.func113 rfl rfl rfl ?_
 intro w0 D hw0
 refine wc_seq ?_
 refine wc_region ?_
 refine rl_do rfl rfl ?_
 refine do_box trivial rfl (cs := [_, _]) rfl rfl rfl rfl ?_
 refine ya rfl rfl ?_
 refine rl_end (ρ' := [(1, _), (2, _)]) ⟨rfl, rfl, trivial⟩ ?_
 refine q_then ?_
 refine wc_seq ?_
 refine wc_region ?_
 refine rl_y (y_field_p rfl Tryz.f25' rfl (by decide) rfl) rfl ?_
 refine rl_y (y_load_p rfl Tryz.k23 rfl rfl rfl (vs := [_]) rfl rfl rfl) rfl ?_
 refine rl_do rfl rfl ?_
 refine do_call (caps := []) trivial rfl rfl Tryz.c38 rfl (FnP.mono (list_fn _ vb bs u (Nat.le_refl _) (by omega) ha) ?_)
 rintro v uL hle0 ⟨lcs, ⟨lad, lcap, rfl, hl1⟩, hl2⟩ hleL
 refine ya rfl rfl ?_
 refine rl_end (ρ' := [(1, _), (5, _)]) ⟨rfl, rfl, trivial⟩ ?_
 refine q_then ?_
 refine wc_seq ?_
 refine wc_seq ?_
 refine wc_region ?_
 refine ya rfl rfl ?_
 refine rl_end (ρ' := [(1, _), (5, _), (6, _)]) ⟨rfl, rfl, rfl, trivial⟩ ?_
 refine q_then ?_
 refine wc_block ?_
 refine wc_loop (fun m ρ σ u' => ∃ i : Nat, i + m = (listB bs).length ∧ VLe uL u' ∧ σ = [] ∧ ρ = [(1, .v (str s)), (5, .v (.slice lad (listB bs).length lcap)), (6, .v (.int .i64 i))] ∧ (hlineOf (evB bs) s = hlineOf (evL ((listB bs).drop i)) s)) ((listB bs).length) ?_ ?_
 ·
  refine ⟨[(1, _), (5, _), (6, _)], [], ⟨rfl, rfl, rfl, trivial⟩, trivial, 0, by omega, VLe.refl _, (by first | rfl | simp), (by first | rfl | (simp only [List.cons.injEq, Prod.mk.injEq, SV.v.injEq, Value.int.injEq, true_and, and_true]; omega) | simp), ?_⟩
  rfl
 ·
  rintro m ρ σ u' ⟨i, hi3, hle3, rfl, rfl, hinv⟩
  refine wc_seq ?_
  refine wc_seq ?_
  refine wc_region ?_
  refine ym rfl rfl ?_
  refine ym rfl rfl ?_
  refine rl_y (y_len_v rfl rfl Tryz.s23 rfl) rfl ?_
  refine rl_y (y_lss rfl rfl rfl) rfl ?_
  refine rl_end (ρ' := [(1, _), (5, _), (6, _), (15, _)]) ⟨rfl, rfl, rfl, rfl, trivial⟩ ?_
  refine q_then ?_
  refine wc_cond rfl (fun hb3 => ?_) (fun hb3 => ?_)
  ·
   have hlt : i < (listB bs).length := by have := of_decide_eq_true hb3; omega
   have hl1 := hl1.mono hle3
   obtain ⟨k, lv, inf, t, d, ti, a, line, kids, vc, vp, vl, vk, hg, hcut1, s1, s2, s3, s4, hok⟩ := (hl2.mono hle3).at hlt
   obtain ⟨q1, q2⟩ := smB_mem _ bs (Nat.le_refl _) hsm _ (List.mem_of_getElem? hg)
   unfold smB1 at q1
   have hml : smI line := q1.2.2.2.2.1
   simp only [lineOf] at q2
   have hdl := deep_len line
   rw [evL_drop hg, List.cons_append, hlineOf_cons] at hinv
   refine wc_skip ?_
   refine q_then ?_
   refine wc_seq ?_
   refine wc_block ?_
   refine wc_seq ?_
   refine wc_seq ?_
   refine wc_region ?_
   refine ym rfl rfl ?_
   refine ym rfl rfl ?_
   refine rl_y (y_index_e rfl Tryz.s23 rfl rfl (by assumption) (by first | rfl | omega) (by omega)) rfl ?_
   refine rl_y (y_field_e rfl Tryz.f59' rfl (by decide) rfl) rfl ?_
   refine rl_y (y_field_e rfl Tryz.f39' rfl (by decide) rfl) rfl ?_
   refine rl_y (y_load_el rfl Tryz.k9 rfl (by assumption) (by omega) (by assumption) (vs := [_]) rfl rfl rfl rfl) rfl ?_
   refine ym rfl rfl ?_
   refine rl_y (y_str_eql rfl rfl rfl) rfl ?_
   refine rl_end (ρ' := [(1, _), (5, _), (6, _), (25, _)]) ⟨rfl, rfl, rfl, rfl, trivial⟩ ?_
   refine q_then ?_
   refine wc_cond rfl (fun hb5 => ?_) (fun hb5 => ?_)
   ·
    have h5 : evId (Sum.inl (Blk.mk k lv inf t d ti a line kids)) = s := of_decide_eq_true hb5
    rw [if_pos h5] at hinv
    refine wc_seq ?_
    refine wc_seq ?_
    refine wc_region ?_
    refine ym rfl rfl ?_
    refine ym rfl rfl ?_
    refine rl_y (y_index_e rfl Tryz.s23 rfl rfl (by assumption) (by first | rfl | omega) (by omega)) rfl ?_
    refine rl_y (y_field_e rfl Tryz.f59' rfl (by decide) rfl) rfl ?_
    refine rl_y (y_load_el rfl Tryz.k3 rfl (by assumption) (by omega) (by assumption) (vs := [_]) rfl rfl rfl rfl) rfl ?_
    refine rl_y (y_eql rfl rfl rfl) rfl ?_
    refine rl_end (ρ' := [(5, _), (6, _), (31, _)]) ⟨rfl, rfl, rfl, trivial⟩ ?_
    refine q_then ?_
    refine wc_cond rfl (fun hb6 => ?_) (fun hb6 => ?_)
    ·
     have h6 : headEv (Sum.inl (Blk.mk k lv inf t d ti a line kids)) = line := if_pos (of_decide_eq_true hb6 : k = 2)
     rw [h6] at hinv
     refine wc_seq ?_
     refine wc_region ?_
     refine ym rfl rfl ?_
     refine ym rfl rfl ?_
     refine rl_y (y_index_e rfl Tryz.s23 rfl rfl (by assumption) (by first | rfl | omega) (by omega)) rfl ?_
     refine rl_y (y_field_e rfl Tryz.f59' rfl (by decide) rfl) rfl ?_
     refine rl_y (y_load_el rfl Tryz.k35 rfl (by assumption) (by omega) (by assumption) (vs := [_]) rfl rfl rfl rfl) rfl ?_
     refine rl_do rfl rfl ?_
     refine do_call_f (caps := []) trivial rfl rfl Tryz.c21 rfl (FnP.mono (refPlain_fn (szI line) vl line u' (Nat.le_refl _) (by omega) (txI_of _ hml) s3) ?_)
     rintro v u1 hle1 rfl
     refine ya rfl rfl ?_
     refine rl_end (ρ' := [(4, _)]) ⟨rfl, trivial⟩ ?_
     refine q_then ?_
     refine wc_ret ?_
     refine q_then_ret ?_
     refine q_then_ret ?_
     refine q_block_ret ?_
     refine q_then_ret ?_
     refine q_then_ret ?_
     refine q_block_ret ?_
     refine q_then_ret ?_
     refine fin1 (.tmp rfl) ?_
     rw [hinv]
    ·
     have h6 : headEv (Sum.inl (Blk.mk k lv inf t d ti a line kids)) = [] := if_neg (of_decide_eq_false hb6 : ¬ k = 2)
     rw [h6] at hinv
     refine wc_skip ?_
     refine q_then ?_
     refine wc_seq ?_
     refine wc_region ?_
     refine ya rfl rfl ?_
     refine rl_end (ρ' := [(4, _)]) ⟨rfl, trivial⟩ ?_
     refine q_then ?_
     refine wc_ret ?_
     refine q_then_ret ?_
     refine q_block_ret ?_
     refine q_then_ret ?_
     refine q_then_ret ?_
     refine q_block_ret ?_
     refine q_then_ret ?_
     refine fin1 (.tmp rfl) ?_
     rw [hinv, hP0]; rfl
   ·
    have h5 : ¬ evId (Sum.inl (Blk.mk k lv inf t d ti a line kids)) = s := of_decide_eq_false hb5
    rw [if_neg h5] at hinv
    refine wc_skip ?_
    refine q_then ?_
    refine wc_seq ?_
    refine wc_region ?_
    refine ym rfl rfl ?_
    refine ym rfl rfl ?_
    refine rl_y (y_index_e rfl Tryz.s23 rfl rfl (by assumption) (by first | rfl | omega) (by omega)) rfl ?_
    refine rl_y (y_field_e rfl Tryz.f59' rfl (by decide) rfl) rfl ?_
    refine rl_y (y_load_el rfl Tryz.k35 rfl (by assumption) (by omega) (by assumption) (vs := [_]) rfl rfl rfl rfl) rfl ?_
    refine rl_do rfl rfl ?_
    refine do_call (caps := []) trivial rfl rfl Tryz.c39 rfl (FnP.mono (deep_fn (szI line) vl line u' (Nat.le_refl _) (by omega) s3) ?_)
    rintro v uD hle0 ⟨dcs, ⟨dad, dcap, rfl, hd1⟩, hd2⟩ hleD
    refine ya rfl rfl ?_
    refine rl_end (ρ' := [(1, _), (5, _), (6, _), (7, _)]) ⟨rfl, rfl, rfl, rfl, trivial⟩ ?_
    refine q_then ?_
    refine wc_seq ?_
    refine wc_region ?_
    refine ya rfl rfl ?_
    refine rl_end (ρ' := [(1, _), (5, _), (6, _), (7, _), (8, _)]) ⟨rfl, rfl, rfl, rfl, rfl, trivial⟩ ?_
    refine q_then ?_
    refine wc_block ?_
    refine wc_loop (fun m ρ σ u' => ∃ j : Nat, j + m = (deep line).length ∧ VLe uD u' ∧ σ = [] ∧ ρ = [(1, .v (str s)), (5, .v (.slice lad (listB bs).length lcap)), (6, .v (.int .i64 i)), (7, .v (.slice dad (deep line).length dcap)), (8, .v (.int .i64 j))] ∧ (uD = u' ∧ hlineOf (evB bs) s = hlineOf (((deep line).drop j).map Sum.inr ++ evL ((listB bs).drop (i + 1))) s)) ((deep line).length) ?_ ?_
    ·
     refine ⟨[(1, _), (5, _), (6, _), (7, _), (8, _)], [], ⟨rfl, rfl, rfl, rfl, rfl, trivial⟩, trivial, 0, by omega, VLe.refl _, (by first | rfl | simp), (by first | rfl | (simp only [List.cons.injEq, Prod.mk.injEq, SV.v.injEq, Value.int.injEq, true_and, and_true]; omega) | simp), ?_⟩
     exact ⟨rfl, hinv⟩
    ·
     rintro mj ρ σ u' ⟨j, hi11, hle11, rfl, rfl, ⟨rfl, hin2⟩⟩
     refine wc_seq ?_
     refine wc_seq ?_
     refine wc_region ?_
     refine ym rfl rfl ?_
     refine ym rfl rfl ?_
     refine rl_y (y_len_v rfl rfl Tryz.s35 rfl) rfl ?_
     refine rl_y (y_lss rfl rfl rfl) rfl ?_
     refine rl_end (ρ' := [(1, _), (5, _), (6, _), (7, _), (8, _), (47, _)]) ⟨rfl, rfl, rfl, rfl, rfl, rfl, trivial⟩ ?_
     refine q_then ?_
     refine wc_cond rfl (fun hb11 => ?_) (fun hb11 => ?_)
     ·
      have hlt2 : j < (deep line).length := by have := of_decide_eq_true hb11; omega
      obtain ⟨k2, t2, d2, ti2, a2, args2, cites2, kids2, vc2, vp2, va2, vt2, vk2, hg2, hcut2, w1, w2, w3, w4, w5, hok2⟩ := hd2.at hlt2
      obtain ⟨r1, r2⟩ := smI_mem _ line (Nat.le_refl _) hml _ (List.mem_of_getElem? hg2)
      unfold smI1 at r1
      have hmk : smI kids2 := r1.2
      simp only [sz1] at r2
      rw [evI_drop hg2, List.cons_append, hlineOf_cons] at hin2
      refine wc_skip ?_
      refine q_then ?_
      refine wc_seq ?_
      refine wc_block ?_
      refine wc_seq ?_
      refine wc_region ?_
      refine ym rfl rfl ?_
      refine ym rfl rfl ?_
      refine rl_y (y_index_e rfl Tryz.s35 rfl rfl (by assumption) (by first | rfl | omega) (by omega)) rfl ?_
      refine rl_y (y_field_e rfl Tryz.f42' rfl (by decide) rfl) rfl ?_
      refine rl_y (y_field_e rfl Tryz.f39' rfl (by decide) rfl) rfl ?_
      refine rl_y (y_load_el rfl Tryz.k9 rfl (by assumption) (by omega) (by assumption) (vs := [_]) rfl rfl rfl rfl) rfl ?_
      refine ym rfl rfl ?_
      refine rl_y (y_str_eql rfl rfl rfl) rfl ?_
      refine rl_end (ρ' := [(1, _), (5, _), (6, _), (7, _), (8, _), (57, _)]) ⟨rfl, rfl, rfl, rfl, rfl, rfl, trivial⟩ ?_
      refine q_then ?_
      refine wc_cond rfl (fun hb13 => ?_) (fun hb13 => ?_)
      ·
       have h13 : evId (Sum.inr (Inl.mk k2 t2 d2 ti2 a2 args2 cites2 kids2)) = s := of_decide_eq_true hb13
       rw [if_pos h13] at hin2
       refine wc_seq ?_
       refine wc_region ?_
       refine ym rfl rfl ?_
       refine ym rfl rfl ?_
       refine rl_y (y_index_e rfl Tryz.s35 rfl rfl (by assumption) (by first | rfl | omega) (by omega)) rfl ?_
       refine rl_y (y_field_e rfl Tryz.f42' rfl (by decide) rfl) rfl ?_
       refine rl_y (y_load_el rfl Tryz.k35 rfl (by assumption) (by omega) (by assumption) (vs := [_]) rfl rfl rfl rfl) rfl ?_
       refine rl_do rfl rfl ?_
       refine do_call_f (caps := []) trivial rfl rfl Tryz.c21 rfl (FnP.mono (refPlain_fn (szI kids2) vk2 kids2 uD (Nat.le_refl _) (by omega) (txI_of _ hmk) w5) ?_)
       rintro v u1 hle1 rfl
       refine ya rfl rfl ?_
       refine rl_end (ρ' := [(4, _)]) ⟨rfl, trivial⟩ ?_
       refine q_then ?_
       refine wc_ret ?_
       refine q_block_ret ?_
       refine q_then_ret ?_
       refine q_then_ret ?_
       refine q_block_ret ?_
       refine q_block_ret ?_
       refine q_then_ret ?_
       refine q_then_ret ?_
       refine q_block_ret ?_
       refine q_then_ret ?_
       refine fin1 (.tmp rfl) ?_
       rw [hin2]; rfl
      ·
       have h13 : ¬ evId (Sum.inr (Inl.mk k2 t2 d2 ti2 a2 args2 cites2 kids2)) = s := of_decide_eq_false hb13
       rw [if_neg h13] at hin2
       refine wc_skip ?_
       refine q_block ?_
       refine q_then ?_
       refine wc_region ?_
       refine ym rfl rfl ?_
       refine rl_y (y_add rfl rfl rfl (wrap64_id (by omega))) rfl ?_
       refine ya rfl rfl ?_
       refine rl_end (ρ' := [(1, _), (5, _), (6, _), (7, _), (8, _)]) ⟨rfl, rfl, rfl, rfl, rfl, trivial⟩ ?_
       refine q_thenK ?_
       refine ⟨mj - 1, [(1, _), (5, _), (6, _), (7, _), (8, _)], [], by omega, ⟨rfl, rfl, rfl, rfl, rfl, trivial⟩, trivial, j + 1, by omega, hle11, (by first | rfl | simp), (by first | rfl | (simp only [List.cons.injEq, Prod.mk.injEq, SV.v.injEq, Value.int.injEq, true_and, and_true]; omega) | simp), ?_⟩
       exact ⟨rfl, hin2⟩
     ·
      have hge2 := of_decide_eq_false hb11
      rw [List.drop_eq_nil_of_le (by omega)] at hin2
      refine wc_exit ?_
      refine q_then_exit ?_
      refine q_then_exit ?_
      refine q_block_hit ?_
      refine q_block ?_
      refine q_then ?_
      refine wc_region ?_
      refine ym rfl rfl ?_
      refine rl_y (y_add rfl rfl rfl (wrap64_id (by omega))) rfl ?_
      refine ya rfl rfl ?_
      refine rl_end (ρ' := [(1, _), (5, _), (6, _)]) ⟨rfl, rfl, rfl, trivial⟩ ?_
      refine q_thenK ?_
      refine ⟨m - 1, [(1, _), (5, _), (6, _)], [], by omega, ⟨rfl, rfl, rfl, trivial⟩, trivial, i + 1, by omega, (hle3.trans hleD), (by first | rfl | simp), (by first | rfl | (simp only [List.cons.injEq, Prod.mk.injEq, SV.v.injEq, Value.int.injEq, true_and, and_true]; omega) | simp), ?_⟩
      exact hin2
  ·
   have hge := of_decide_eq_false hb3
   rw [List.drop_eq_nil_of_le (by omega)] at hinv
   refine wc_exit ?_
   refine q_then_exit ?_
   refine q_then_exit ?_
   refine q_block_hit ?_
   refine q_then ?_
   refine wc_seq ?_
   refine wc_region ?_
   refine ya rfl rfl ?_
   refine rl_end (ρ' := [(4, _)]) ⟨rfl, trivial⟩ ?_
   refine q_then ?_
   refine wc_ret ?_
   refine fin1 (.tmp rfl) ?_
   rw [hinv]
   exact congrArg str hP0.symm
def refTx2 (ns : List DNum) (bs : List Blk) (lang s : Bs) : Bs := match numFor ns s with
 | some n => numT lang n
 | none => heldT bs s
def refT2 (ns : List DNum) (bs : List Blk) (lang : Bs) (ps : List (Bs × Bs)) (t ti : Bs) : Bs := if ti = pageS then placeT ps t else refTx2 ns bs lang t
theorem refT2_eq (ns : List DNum) (bs : List Blk) (lang : Bs) (ps : List (Bs × Bs)) (t ti : Bs) (h : t ≠ []) : refT2 ns bs lang ps t ti = refT ns bs lang ps t ti := by
 unfold refT2 refT refTx2 refTx
 split
 ·
  rfl
 ·
  cases numFor ns t with
  | none => rfl
  | some n => simp [h]
theorem placeOf_drop {ps : List (Bs × Bs)} {i : Nat} {x : Bs × Bs} (h : ps[i]? = some x) (s : Bs) : placeOf (ps.drop i) s = if x.1 = s then some x else placeOf (ps.drop (i + 1)) s := by
 obtain ⟨hlt, rfl⟩ := List.getElem?_eq_some_iff.1 h
 rw [List.drop_eq_getElem_cons hlt]
 unfold placeOf
 rw [List.find?_cons]
 by_cases e : (ps[i]).1 = s
 ·
  simp [e]
 ·
  simp [e]
theorem numFor_drop {ns : List DNum} {i : Nat} {x : DNum} (h : ns[i]? = some x) (s : Bs) : numFor (ns.drop i) s = if x.id = s ∧ x.kind ≠ notS then some x else numFor (ns.drop (i + 1)) s := by
 obtain ⟨hlt, rfl⟩ := List.getElem?_eq_some_iff.1 h
 rw [List.drop_eq_getElem_cons hlt]
 unfold numFor
 rw [List.find?_cons]
 by_cases e : (ns[i]).id = s ∧ (ns[i]).kind ≠ notS
 ·
  simp [e]
 ·
  simp [e]
set_option maxHeartbeats 1000000 in
theorem refText_fn (vm vb vn vp : Value) (lang : Bs) (ns : List DNum) (ps : List (Bs × Bs)) (bs : List Blk) (k : Int) (t d ti id : Bs) (vc vq va vt vk : Value) (oneAll : (inlV k t d ti id vc vq va vt vk).all Value.oneCell' = true) (hsm : smB bs) (hbig : szB bs ≤ 1000) (hns : NsOk ns) (hpl : ps.length ≤ 1000) (u : View) (ha : BlkS u vb bs) (hn : NumS u vn ns) (hp : PrS u vp ps) :
  FnP Tryz.prog 86 [.agg #[vm, vb], vn, .agg (inlV k t d ti id vc vq va vt vk).toArray, str lang, vp] u fun r _ => r = str (refT2 ns bs lang ps t ti) := by
 obtain ⟨ncs, ⟨nad, ncap, rfl, hn1⟩, hn2⟩ := hn
 obtain ⟨pad, pcap, rfl, hp1⟩ := hp
 have hwl := wordOf_len lang
 obtain ⟨hnl, hns⟩ := hns
 refine FnP.intro [.tmp 10] Tryz.func86 rfl rfl rfl ?_
 intro w0 D hw0
 refine wc_seq ?_
 refine wc_region ?_
 refine rl_do rfl rfl ?_
 refine do_box trivial rfl (cs := [_, _]) rfl rfl rfl rfl ?_
 refine rl_do rfl rfl ?_
 refine do_box trivial rfl (cs := [_, _, _, _, _, _, _, _, _, _]) rfl rfl rfl rfl ?_
 refine ya rfl rfl ?_
 refine rl_end (ρ' := [(1, _), (3, _), (4, _), (5, _), (7, _)]) ⟨rfl, rfl, rfl, rfl, rfl, trivial⟩ ?_
 refine q_then ?_
 refine wc_seq ?_
 refine wc_seq ?_
 refine wc_region ?_
 refine rl_y (y_field_p rfl Tryz.f42' rfl (by decide) rfl) rfl ?_
 refine rl_y (y_load_p rfl Tryz.k9 rfl rfl rfl (vs := [_]) rfl rfl rfl) rfl ?_
 refine rl_y (y_str_eql rfl rfl rfl) rfl ?_
 refine rl_end (ρ' := [(1, _), (3, _), (4, _), (5, _), (7, _), (16, _)]) ⟨rfl, rfl, rfl, rfl, rfl, rfl, trivial⟩ ?_
 refine q_then ?_
 refine wc_cond rfl (fun hb1 => ?_) (fun hb1 => ?_)
 ·
  have h1 : refT2 ns bs lang ps t ti = placeT ps t := if_pos (of_decide_eq_true hb1 : ti = pageS)
  refine wc_seq ?_
  refine wc_seq ?_
  refine wc_region ?_
  refine ya rfl rfl ?_
  refine rl_end (ρ' := [(4, _), (7, _), (11, _)]) ⟨rfl, rfl, rfl, trivial⟩ ?_
  refine q_then ?_
  refine wc_block ?_
  refine wc_loop (fun m ρ σ u' => ∃ i : Nat, i + m = ps.length ∧ VLe u u' ∧ σ = [(7, (none, .box (inlV k t d ti id vc vq va vt vk)))] ∧ ρ = [(4, .v (.slice pad ps.length pcap)), (7, .p 7 0), (11, .v (.int .i64 i))] ∧ (u = u' ∧ placeOf ps t = placeOf (ps.drop i) t)) (ps.length) ?_ ?_
  ·
   refine ⟨[(4, _), (7, _), (11, _)], [(7, _)], ⟨rfl, rfl, rfl, trivial⟩, ⟨rfl, trivial⟩, 0, by omega, VLe.refl _, (by first | rfl | simp), (by first | rfl | (simp only [List.cons.injEq, Prod.mk.injEq, SV.v.injEq, Value.int.injEq, true_and, and_true]; omega) | simp), ?_⟩
   exact ⟨rfl, rfl⟩
  ·
   rintro m ρ σ u' ⟨i, hi3, hle3, rfl, rfl, ⟨rfl, hinv⟩⟩
   refine wc_seq ?_
   refine wc_seq ?_
   refine wc_region ?_
   refine ym rfl rfl ?_
   refine ym rfl rfl ?_
   refine rl_y (y_len_v rfl rfl Tryz.s22 rfl) rfl ?_
   refine rl_y (y_lss rfl rfl rfl) rfl ?_
   refine rl_end (ρ' := [(4, _), (7, _), (11, _), (20, _)]) ⟨rfl, rfl, rfl, rfl, trivial⟩ ?_
   refine q_then ?_
   refine wc_cond rfl (fun hb3 => ?_) (fun hb3 => ?_)
   ·
    have hlt : i < ps.length := by have := of_decide_eq_true hb3; omega
    have hg := List.getElem?_eq_getElem hlt
    have hcut := cut_pairsC hg
    rw [placeOf_drop hg] at hinv
    refine wc_skip ?_
    refine q_then ?_
    refine wc_seq ?_
    refine wc_block ?_
    refine wc_seq ?_
    refine wc_draw Tryz.mixed rfl [(7, _)] ⟨rfl, trivial⟩ ?_
    refine ra_y (i := 0) rfl (by kernel_rfl) (by kernel_rfl) (by kernel_rfl) (np_then (np_block (np_then (np_then (np_block (np_then (np_then (np_fin)))))))) (y_move rfl rfl) rfl ?_
    refine ra_y (i := 1) rfl (by kernel_rfl) (by kernel_rfl) (by kernel_rfl) (np_then (np_block (np_then (np_then (np_block (np_then (np_then (np_fin)))))))) (y_move rfl rfl) rfl ?_
    refine ra_y (i := 2) rfl (by kernel_rfl) (by kernel_rfl) (by kernel_rfl) (np_then (np_block (np_then (np_then (np_block (np_then (np_then (np_fin)))))))) (y_index_e rfl Tryz.s22 rfl rfl (by assumption) (by first | rfl | omega) (by omega)) rfl ?_
    refine ra_y (i := 3) rfl (by kernel_rfl) (by kernel_rfl) (by kernel_rfl) (np_then (np_block (np_then (np_then (np_block (np_then (np_then (np_fin)))))))) (y_field_e rfl Tryz.f56' rfl (by decide) rfl) rfl ?_
    refine ra_y (i := 4) rfl (by kernel_rfl) (by kernel_rfl) (by kernel_rfl) (np_then (np_block (np_then (np_then (np_block (np_then (np_then (np_fin)))))))) (y_load_el rfl Tryz.k9 rfl (by assumption) (by omega) (by assumption) (vs := [_]) rfl rfl rfl rfl) rfl ?_
    refine ra_y (i := 5) rfl (by kernel_rfl) (by kernel_rfl) (by kernel_rfl) (np_then (np_block (np_then (np_then (np_block (np_then (np_then (np_fin)))))))) (y_field_p rfl Tryz.f42' rfl (by decide) rfl) rfl ?_
    refine ra_y (i := 6) rfl (by kernel_rfl) (by kernel_rfl) (by kernel_rfl) (np_then (np_block (np_then (np_then (np_block (np_then (np_then (np_fin)))))))) (y_load_p rfl Tryz.k9 rfl rfl rfl (vs := [_]) rfl rfl rfl) rfl ?_
    refine ra_y (i := 7) rfl (by kernel_rfl) (by kernel_rfl) (by kernel_rfl) (np_then (np_block (np_then (np_then (np_block (np_then (np_then (np_fin)))))))) (y_str_eql rfl rfl rfl) rfl ?_
    refine ra_end (by kernel_rfl) (ρ' := [(4, _), (7, _), (11, _), (30, _)]) ⟨rfl, rfl, rfl, rfl, trivial⟩ ?_
    refine q_then ?_
    refine wc_cond rfl (fun hb5 => ?_) (fun hb5 => ?_)
    ·
     rw [if_pos (of_decide_eq_true hb5)] at hinv
     refine wc_seq ?_
     refine wc_seq ?_
     refine wc_region ?_
     refine ym rfl rfl ?_
     refine ym rfl rfl ?_
     refine rl_y (y_index_e rfl Tryz.s22 rfl rfl (by assumption) (by first | rfl | omega) (by omega)) rfl ?_
     refine rl_y (y_field_e rfl Tryz.f56' rfl (by decide) rfl) rfl ?_
     refine rl_y (y_load_el rfl Tryz.k9 rfl (by assumption) (by omega) (by assumption) (vs := [_]) rfl rfl rfl rfl) rfl ?_
     refine rl_y (y_str_eql rfl rfl rfl) rfl ?_
     refine rl_end (ρ' := [(4, _), (11, _), (36, _)]) ⟨rfl, rfl, rfl, trivial⟩ ?_
     refine q_then ?_
     refine wc_cond rfl (fun hb6 => ?_) (fun hb6 => ?_)
     ·
      have h6 := of_decide_eq_true hb6
      refine wc_seq ?_
      refine wc_region ?_
      refine ya rfl rfl ?_
      refine rl_end (ρ' := [(10, _)]) ⟨rfl, trivial⟩ ?_
      refine q_then ?_
      refine wc_ret ?_
      refine q_then_ret ?_
      refine q_block_ret ?_
      refine q_then_ret ?_
      refine q_then_ret ?_
      refine q_block_ret ?_
      refine q_then_ret ?_
      refine q_then_ret ?_
      refine fin1 (.tmp rfl) ?_
      rw [h1]; unfold placeT placeV; rw [hinv]; simp only; rw [if_pos h6]; rfl
     ·
      have h6 := of_decide_eq_false hb6
      refine wc_skip ?_
      refine q_then ?_
      refine wc_seq ?_
      refine wc_region ?_
      refine ym rfl rfl ?_
      refine ym rfl rfl ?_
      refine rl_y (y_index_e rfl Tryz.s22 rfl rfl (by assumption) (by first | rfl | omega) (by omega)) rfl ?_
      refine rl_y (y_field_e rfl Tryz.f56' rfl (by decide) rfl) rfl ?_
      refine rl_y (y_load_el rfl Tryz.k9 rfl (by assumption) (by omega) (by assumption) (vs := [_]) rfl rfl rfl rfl) rfl ?_
      refine ya rfl rfl ?_
      refine rl_end (ρ' := [(10, _)]) ⟨rfl, trivial⟩ ?_
      refine q_then ?_
      refine wc_ret ?_
      refine q_block_ret ?_
      refine q_then_ret ?_
      refine q_then_ret ?_
      refine q_block_ret ?_
      refine q_then_ret ?_
      refine q_then_ret ?_
      refine fin1 (.tmp rfl) ?_
      rw [h1]; unfold placeT placeV; rw [hinv]; simp only; rw [if_neg h6]
    ·
     rw [if_neg (of_decide_eq_false hb5)] at hinv
     refine wc_skip ?_
     refine q_block ?_
     refine q_then ?_
     refine wc_region ?_
     refine ym rfl rfl ?_
     refine rl_y (y_add rfl rfl rfl (wrap64_id (by omega))) rfl ?_
     refine ya rfl rfl ?_
     refine rl_end (ρ' := [(4, _), (7, _), (11, _)]) ⟨rfl, rfl, rfl, trivial⟩ ?_
     refine q_thenK ?_
     refine ⟨m - 1, [(4, _), (7, _), (11, _)], [(7, _)], by omega, ⟨rfl, rfl, rfl, trivial⟩, ⟨rfl, trivial⟩, i + 1, by omega, hle3, (by first | rfl | simp), (by first | rfl | (simp only [List.cons.injEq, Prod.mk.injEq, SV.v.injEq, Value.int.injEq, true_and, and_true]; omega) | simp), ?_⟩
     exact ⟨rfl, hinv⟩
   ·
    have hge := of_decide_eq_false hb3
    rw [List.drop_eq_nil_of_le (by omega)] at hinv
    refine wc_exit ?_
    refine q_then_exit ?_
    refine q_then_exit ?_
    refine q_block_hit ?_
    refine q_then ?_
    refine wc_seq ?_
    refine wc_region ?_
    refine ya rfl rfl ?_
    refine rl_end (ρ' := [(10, _)]) ⟨rfl, trivial⟩ ?_
    refine q_then ?_
    refine wc_ret ?_
    refine q_then_ret ?_
    refine fin1 (.tmp rfl) ?_
    rw [h1]; unfold placeT placeV; rw [hinv]; rfl
 ·
  have h1 : refT2 ns bs lang ps t ti = refTx2 ns bs lang t := if_neg (of_decide_eq_false hb1 : ¬ ti = pageS)
  refine wc_skip ?_
  refine q_then ?_
  refine wc_seq ?_
  refine wc_seq ?_
  refine wc_region ?_
  refine ya rfl rfl ?_
  refine rl_end (ρ' := [(1, _), (3, _), (5, _), (7, _), (12, _)]) ⟨rfl, rfl, rfl, rfl, rfl, trivial⟩ ?_
  refine q_then ?_
  refine wc_block ?_
  refine wc_loop (fun m ρ σ u' => ∃ j : Nat, j + m = ns.length ∧ VLe u u' ∧ σ = [(5, (none, .box [vm, vb])), (7, (none, .box (inlV k t d ti id vc vq va vt vk)))] ∧ ρ = [(1, .v (.slice nad ns.length ncap)), (3, .v (str lang)), (5, .p 5 0), (7, .p 7 0), (12, .v (.int .i64 j))] ∧ (u = u' ∧ numFor ns t = numFor (ns.drop j) t)) (ns.length) ?_ ?_
  ·
   refine ⟨[(1, _), (3, _), (5, _), (7, _), (12, _)], [(5, _), (7, _)], ⟨rfl, rfl, rfl, rfl, rfl, trivial⟩, ⟨rfl, rfl, trivial⟩, 0, by omega, VLe.refl _, (by first | rfl | simp), (by first | rfl | (simp only [List.cons.injEq, Prod.mk.injEq, SV.v.injEq, Value.int.injEq, true_and, and_true]; omega) | simp), ?_⟩
   exact ⟨rfl, rfl⟩
  ·
   rintro mj ρ σ u' ⟨j, hi11, hle11, rfl, rfl, ⟨rfl, hinv⟩⟩
   refine wc_seq ?_
   refine wc_seq ?_
   refine wc_region ?_
   refine ym rfl rfl ?_
   refine ym rfl rfl ?_
   refine rl_y (y_len_v rfl rfl Tryz.s47 rfl) rfl ?_
   refine rl_y (y_lss rfl rfl rfl) rfl ?_
   refine rl_end (ρ' := [(1, _), (3, _), (5, _), (7, _), (12, _), (45, _)]) ⟨rfl, rfl, rfl, rfl, rfl, rfl, trivial⟩ ?_
   refine q_then ?_
   refine wc_cond rfl (fun hb11 => ?_) (fun hb11 => ?_)
   ·
    have hlt : j < ns.length := by have := of_decide_eq_true hb11; omega
    obtain ⟨x, xl, hg, hcut1, s1⟩ := hn2.at hlt
    rw [numFor_drop hg] at hinv
    obtain ⟨l1, l2, l3⟩ := hns x (List.mem_of_getElem? hg)
    refine wc_skip ?_
    refine q_then ?_
    refine wc_seq ?_
    refine wc_block ?_
    refine wc_seq ?_
    refine wc_cutB 63 (decide (x.id = t ∧ x.kind ≠ notS)) (ρk := [(1, _), (3, _), (5, _), (7, _), (12, _)]) ⟨rfl, rfl, rfl, rfl, rfl, trivial⟩ ?_ ?_
    ·
     refine wc_draw Tryz.mixed rfl [(7, _)] ⟨rfl, trivial⟩ ?_
     refine ra_y (i := 0) rfl (by kernel_rfl) (by kernel_rfl) (by kernel_rfl) (np_cutB) (y_move rfl rfl) rfl ?_
     refine ra_y (i := 1) rfl (by kernel_rfl) (by kernel_rfl) (by kernel_rfl) (np_cutB) (y_move rfl rfl) rfl ?_
     refine ra_y (i := 2) rfl (by kernel_rfl) (by kernel_rfl) (by kernel_rfl) (np_cutB) (y_index_e rfl Tryz.s47 rfl rfl (by assumption) (by first | rfl | omega) (by omega)) rfl ?_
     refine ra_y (i := 3) rfl (by kernel_rfl) (by kernel_rfl) (by kernel_rfl) (np_cutB) (y_field_e rfl Tryz.f50' rfl (by decide) rfl) rfl ?_
     refine ra_y (i := 4) rfl (by kernel_rfl) (by kernel_rfl) (by kernel_rfl) (np_cutB) (y_load_el rfl Tryz.k9 rfl (by assumption) (by omega) (by assumption) (vs := [_]) rfl rfl rfl rfl) rfl ?_
     refine ra_y (i := 5) rfl (by kernel_rfl) (by kernel_rfl) (by kernel_rfl) (np_cutB) (y_field_p rfl Tryz.f42' rfl (by decide) rfl) rfl ?_
     refine ra_y (i := 6) rfl (by kernel_rfl) (by kernel_rfl) (by kernel_rfl) (np_cutB) (y_load_p rfl Tryz.k9 rfl rfl rfl (vs := [_]) rfl rfl rfl) rfl ?_
     refine ra_y (i := 7) rfl (by kernel_rfl) (by kernel_rfl) (by kernel_rfl) (np_cutB) (y_str_eql rfl rfl rfl) rfl ?_
     refine ra_y (i := 8) rfl (by kernel_rfl) (by kernel_rfl) (by kernel_rfl) (np_cutB) (y_move rfl rfl) rfl ?_
     rcases Bool.eq_false_or_eq_true (decide (x.id = t)) with hg13_8 | hg13_8
     ·
      simp only [hg13_8]
      refine ra_y_on (i := 9) rfl rfl rfl (by kernel_rfl) (by kernel_rfl) (by kernel_rfl) (np_cutB) (y_move rfl rfl) rfl ?_
      refine ra_y_on (i := 10) rfl rfl rfl (by kernel_rfl) (by kernel_rfl) (by kernel_rfl) (np_cutB) (y_move rfl rfl) rfl ?_
      refine ra_y_on (i := 11) rfl rfl rfl (by kernel_rfl) (by kernel_rfl) (by kernel_rfl) (np_cutB) (y_index_e rfl Tryz.s47 rfl rfl (by assumption) (by first | rfl | omega) (by omega)) rfl ?_
      refine ra_y_on (i := 12) rfl rfl rfl (by kernel_rfl) (by kernel_rfl) (by kernel_rfl) (np_cutB) (y_field_e rfl Tryz.f50' rfl (by decide) rfl) rfl ?_
      refine ra_y_on (i := 13) rfl rfl rfl (by kernel_rfl) (by kernel_rfl) (by kernel_rfl) (np_cutB) (y_load_el rfl Tryz.k9 rfl (by assumption) (by omega) (by assumption) (vs := [_]) rfl rfl rfl rfl) rfl ?_
      refine ra_y_on (i := 14) rfl rfl rfl (by kernel_rfl) (by kernel_rfl) (by kernel_rfl) (np_cutB) (y_str_neq rfl rfl rfl) rfl ?_
      refine ra_y (i := 15) rfl (by kernel_rfl) (by kernel_rfl) (by kernel_rfl) (np_cutB) (y_pick_t rfl rfl rfl) rfl ?_
      exact cutB_endA (by kernel_rfl) rfl ⟨rfl, rfl, rfl, rfl, rfl, trivial⟩ (by simp_all [notS])
     ·
      simp only [hg13_8]
      refine ra_off (i := 9) rfl rfl rfl rfl (by kernel_rfl) (by kernel_rfl) (by kernel_rfl) (np_cutB) rfl ?_
      refine ra_off (i := 10) rfl rfl rfl rfl (by kernel_rfl) (by kernel_rfl) (by kernel_rfl) (np_cutB) rfl ?_
      refine ra_off (i := 11) rfl rfl rfl rfl (by kernel_rfl) (by kernel_rfl) (by kernel_rfl) (np_cutB) rfl ?_
      refine ra_off (i := 12) rfl rfl rfl rfl (by kernel_rfl) (by kernel_rfl) (by kernel_rfl) (np_cutB) rfl ?_
      refine ra_off (i := 13) rfl rfl rfl rfl (by kernel_rfl) (by kernel_rfl) (by kernel_rfl) (np_cutB) rfl ?_
      refine ra_off (i := 14) rfl rfl rfl rfl (by kernel_rfl) (by kernel_rfl) (by kernel_rfl) (np_cutB) rfl ?_
      refine ra_y (i := 15) rfl (by kernel_rfl) (by kernel_rfl) (by kernel_rfl) (np_cutB) (y_pick_f rfl rfl rfl) rfl ?_
      exact cutB_endA (by kernel_rfl) rfl ⟨rfl, rfl, rfl, rfl, rfl, trivial⟩ (by simp_all [notS])
    refine q_then ?_
    refine wc_cond rfl (fun hb13 => ?_) (fun hb13 => ?_)
    ·
     rw [if_pos (of_decide_eq_true hb13)] at hinv
     refine wc_seq ?_
     refine wc_seq ?_
     refine wc_region ?_
     refine ym rfl rfl ?_
     refine ym rfl rfl ?_
     refine rl_y (y_index_e rfl Tryz.s47 rfl rfl (by assumption) (by first | rfl | omega) (by omega)) rfl ?_
     refine rl_y (y_field_e rfl Tryz.f50' rfl (by decide) rfl) rfl ?_
     refine rl_y (y_load_el rfl Tryz.k9 rfl (by assumption) (by omega) (by assumption) (vs := [_]) rfl rfl rfl rfl) rfl ?_
     refine rl_y (y_str_eql rfl rfl rfl) rfl ?_
     refine rl_end (ρ' := [(1, _), (3, _), (12, _), (69, _)]) ⟨rfl, rfl, rfl, rfl, trivial⟩ ?_
     refine q_then ?_
     refine wc_cond rfl (fun hb14 => ?_) (fun hb14 => ?_)
     ·
      have h14 : numT lang x = [40] ++ x.value ++ [41] := if_pos (of_decide_eq_true hb14 : x.kind = equS)
      refine wc_seq ?_
      refine wc_region ?_
      refine ym rfl rfl ?_
      refine ym rfl rfl ?_
      refine rl_y (y_index_e rfl Tryz.s47 rfl rfl (by assumption) (by first | rfl | omega) (by omega)) rfl ?_
      refine rl_y (y_field_e rfl Tryz.f50' rfl (by decide) rfl) rfl ?_
      refine rl_y (y_load_el rfl Tryz.k9 rfl (by assumption) (by omega) (by assumption) (vs := [_]) rfl rfl rfl rfl) rfl ?_
      refine rl_y (y_str_add (l := [40]) rfl rfl rfl (by simp only [List.length_cons, List.length_nil]; omega)) rfl ?_
      refine rl_y (y_str_add (m := [41]) rfl rfl rfl (by simp only [List.length_append, List.length_cons, List.length_nil]; omega)) rfl ?_
      refine ya rfl rfl ?_
      refine rl_end (ρ' := [(10, _)]) ⟨rfl, trivial⟩ ?_
      refine q_then ?_
      refine wc_ret ?_
      refine q_then_ret ?_
      refine q_block_ret ?_
      refine q_then_ret ?_
      refine q_then_ret ?_
      refine q_block_ret ?_
      refine q_then_ret ?_
      refine fin1 (.tmp rfl) ?_
      rw [h1]; unfold refTx2; rw [hinv]; exact congrArg str h14.symm
     ·
      have h14 : numT lang x = wordOf lang x.kind ++ [32] ++ x.value := if_neg (of_decide_eq_false hb14 : ¬ x.kind = equS)
      refine wc_skip ?_
      refine q_then ?_
      refine wc_seq ?_
      refine wc_draw Tryz.mixed rfl [] trivial ?_
      refine ra_y (i := 0) rfl (by kernel_rfl) (by kernel_rfl) (by kernel_rfl) (np_then (np_block (np_then (np_then (np_block (np_then (np_fin))))))) (y_move rfl rfl) rfl ?_
      refine ra_y (i := 1) rfl (by kernel_rfl) (by kernel_rfl) (by kernel_rfl) (np_then (np_block (np_then (np_then (np_block (np_then (np_fin))))))) (y_move rfl rfl) rfl ?_
      refine ra_y (i := 2) rfl (by kernel_rfl) (by kernel_rfl) (by kernel_rfl) (np_then (np_block (np_then (np_then (np_block (np_then (np_fin))))))) (y_move rfl rfl) rfl ?_
      refine ra_y (i := 3) rfl (by kernel_rfl) (by kernel_rfl) (by kernel_rfl) (np_then (np_block (np_then (np_then (np_block (np_then (np_fin))))))) (y_index_e rfl Tryz.s47 rfl rfl (by assumption) (by first | rfl | omega) (by omega)) rfl ?_
      refine ra_y (i := 4) rfl (by kernel_rfl) (by kernel_rfl) (by kernel_rfl) (np_then (np_block (np_then (np_then (np_block (np_then (np_fin))))))) (y_field_e rfl Tryz.f50' rfl (by decide) rfl) rfl ?_
      refine ra_y (i := 5) rfl (by kernel_rfl) (by kernel_rfl) (by kernel_rfl) (np_then (np_block (np_then (np_then (np_block (np_then (np_fin))))))) (y_load_el rfl Tryz.k9 rfl (by assumption) (by omega) (by assumption) (vs := [_]) rfl rfl rfl rfl) rfl ?_
      refine ra_y (i := 8) rfl (by kernel_rfl) (by kernel_rfl) (by kernel_rfl) (np_then (np_block (np_then (np_then (np_block (np_then (np_fin))))))) (y_move rfl rfl) rfl ?_
      refine ra_y (i := 9) rfl (by kernel_rfl) (by kernel_rfl) (by kernel_rfl) (np_then (np_block (np_then (np_then (np_block (np_then (np_fin))))))) (y_move rfl rfl) rfl ?_
      refine ra_y (i := 10) rfl (by kernel_rfl) (by kernel_rfl) (by kernel_rfl) (np_then (np_block (np_then (np_then (np_block (np_then (np_fin))))))) (y_index_e rfl Tryz.s47 rfl rfl (by assumption) (by first | rfl | omega) (by omega)) rfl ?_
      refine ra_y (i := 11) rfl (by kernel_rfl) (by kernel_rfl) (by kernel_rfl) (np_then (np_block (np_then (np_then (np_block (np_then (np_fin))))))) (y_field_e rfl Tryz.f50' rfl (by decide) rfl) rfl ?_
      refine ra_y (i := 12) rfl (by kernel_rfl) (by kernel_rfl) (by kernel_rfl) (np_then (np_block (np_then (np_then (np_block (np_then (np_fin))))))) (y_load_el rfl Tryz.k9 rfl (by assumption) (by omega) (by assumption) (vs := [_]) rfl rfl rfl rfl) rfl ?_
      refine ra_do (i := 6) rfl rfl (by kernel_rfl) ?_
      refine do_call_f (caps := []) trivial rfl rfl Tryz.c112 rfl (FnP.mono (refWord_fn lang x.kind u) ?_)
      rintro v u1 hle1 rfl
      have hwl := hwl x.kind
      refine ra_y (i := 7) rfl (by kernel_rfl) (by kernel_rfl) (by kernel_rfl) (np_then (np_block (np_then (np_then (np_block (np_then (np_fin))))))) (y_str_add (m := [32]) rfl rfl rfl (by simp only [List.length_cons, List.length_nil]; omega)) rfl ?_
      refine ra_y (i := 13) rfl (by kernel_rfl) (by kernel_rfl) (by kernel_rfl) (np_then (np_block (np_then (np_then (np_block (np_then (np_fin))))))) (y_str_add rfl rfl rfl (by simp only [List.length_append, List.length_cons, List.length_nil]; omega)) rfl ?_
      refine ra_y (i := 14) rfl (by kernel_rfl) (by kernel_rfl) (by kernel_rfl) (np_then (np_block (np_then (np_then (np_block (np_then (np_fin))))))) (y_assign rfl rfl) rfl ?_
      refine ra_end (by kernel_rfl) (ρ' := [(10, _)]) ⟨rfl, trivial⟩ ?_
      refine q_then ?_
      refine wc_ret ?_
      refine q_block_ret ?_
      refine q_then_ret ?_
      refine q_then_ret ?_
      refine q_block_ret ?_
      refine q_then_ret ?_
      refine fin1 (.tmp rfl) ?_
      rw [h1]; unfold refTx2; rw [hinv]; exact congrArg str h14.symm
    ·
     rw [if_neg (of_decide_eq_false hb13)] at hinv
     refine wc_skip ?_
     refine q_block ?_
     refine q_then ?_
     refine wc_region ?_
     refine ym rfl rfl ?_
     refine rl_y (y_add rfl rfl rfl (wrap64_id (by omega))) rfl ?_
     refine ya rfl rfl ?_
     refine rl_end (ρ' := [(1, _), (3, _), (5, _), (7, _), (12, _)]) ⟨rfl, rfl, rfl, rfl, rfl, trivial⟩ ?_
     refine q_thenK ?_
     refine ⟨mj - 1, [(1, _), (3, _), (5, _), (7, _), (12, _)], [(5, _), (7, _)], by omega, ⟨rfl, rfl, rfl, rfl, rfl, trivial⟩, ⟨rfl, rfl, trivial⟩, j + 1, by omega, hle11, (by first | rfl | simp), (by first | rfl | (simp only [List.cons.injEq, Prod.mk.injEq, SV.v.injEq, Value.int.injEq, true_and, and_true]; omega) | simp), ?_⟩
     exact ⟨rfl, hinv⟩
   ·
    have hge := of_decide_eq_false hb11
    rw [List.drop_eq_nil_of_le (by omega)] at hinv
    refine wc_exit ?_
    refine q_then_exit ?_
    refine q_then_exit ?_
    refine q_block_hit ?_
    refine q_then ?_
    refine wc_seq ?_
    refine wc_region ?_
    refine rl_y (y_load_p rfl Tryz.k25 rfl rfl rfl (vs := [_, _]) rfl rfl rfl) rfl ?_
    refine rl_y (y_field_p rfl Tryz.f42' rfl (by decide) rfl) rfl ?_
    refine rl_y (y_load_p rfl Tryz.k9 rfl rfl rfl (vs := [_]) rfl rfl rfl) rfl ?_
    refine rl_do rfl rfl ?_
    refine do_call_f (caps := []) trivial rfl rfl Tryz.c113 rfl (FnP.mono (refHeld_fn vm vb bs t hsm hbig u ha) ?_)
    rintro v u1 hle1 rfl
    refine ya rfl rfl ?_
    refine rl_end (ρ' := [(7, _), (13, _)]) ⟨rfl, rfl, trivial⟩ ?_
    refine q_then ?_
    refine wc_seq ?_
    refine wc_seq ?_
    refine wc_region ?_
    refine ym rfl rfl ?_
    refine rl_y (y_str_eql rfl rfl rfl) rfl ?_
    refine rl_end (ρ' := [(7, _), (13, _), (96, _)]) ⟨rfl, rfl, rfl, trivial⟩ ?_
    refine q_then ?_
    refine wc_cond rfl (fun hb18 => ?_) (fun hb18 => ?_)
    ·
     have h18 : heldT bs t = t := if_pos (of_decide_eq_true hb18)
     refine wc_seq ?_
     refine wc_region ?_
     refine rl_y (y_field_p rfl Tryz.f42' rfl (by decide) rfl) rfl ?_
     refine rl_y (y_load_p rfl Tryz.k9 rfl rfl rfl (vs := [_]) rfl rfl rfl) rfl ?_
     refine ya rfl rfl ?_
     refine rl_end (ρ' := [(10, _)]) ⟨rfl, trivial⟩ ?_
     refine q_then ?_
     refine wc_ret ?_
     refine q_then_ret ?_
     refine fin1 (.tmp rfl) ?_
     rw [h1]; unfold refTx2; rw [hinv]; exact congrArg str h18.symm
    ·
     have h18 : heldT bs t = plain (hlineOf (evB bs) t) := if_neg (of_decide_eq_false hb18)
     refine wc_skip ?_
     refine q_then ?_
     refine wc_seq ?_
     refine wc_region ?_
     refine ym rfl rfl ?_
     refine ya rfl rfl ?_
     refine rl_end (ρ' := [(10, _)]) ⟨rfl, trivial⟩ ?_
     refine q_then ?_
     refine wc_ret ?_
     refine fin1 (.tmp rfl) ?_
     rw [h1]; unfold refTx2; rw [hinv]; exact congrArg str h18.symm
theorem refT2_len (ns : List DNum) (bs : List Blk) (lang : Bs) (ps : List (Bs × Bs)) (t ti : Bs) (hsm : smB bs) (hbig : szB bs ≤ 1000) (ht : t.length ≤ 100000) (hns : NsOk ns) (hps : ∀ p ∈ ps, p.2.length ≤ 100000) : (refT2 ns bs lang ps t ti).length ≤ 1000000000 := by
 have h1 := heldT_len bs hsm hbig t ht
 unfold refT2
 split
 ·
  unfold placeT placeV
  cases hp : placeOf ps t with
  | none => simp
  | some p =>
   have := hps p (List.mem_of_find?_eq_some hp)
   simp only
   split
   ·
    simp
   ·
    omega
 ·
  unfold refTx2
  cases hn : numFor ns t with
  | none => simp only; omega
  | some n =>
   obtain ⟨_, _, l3⟩ := hns.2 n (List.mem_of_find?_eq_some hn)
   have hwl := wordOf_len lang n.kind
   simp only
   unfold numT
   split <;> simp <;> omega
set_option maxHeartbeats 1000000 in
theorem refLine_fn (vm vb vn vp : Value) (lang : Bs) (ns : List DNum) (ps : List (Bs × Bs)) (bs : List Blk) (hsm : smB bs) (hbig : szB bs ≤ 1000) (hns : NsOk ns) (hpl : ps.length ≤ 1000) (hps : ∀ p ∈ ps, p.2.length ≤ 100000) (n : Nat) : ∀ (v : Value) (xs : List Inl) (u : View), szI xs ≤ n → szI xs ≤ 1000 → smI xs → BlkS u vb bs → NumS u vn ns → PrS u vp ps → InlS u v xs →
  FnP Tryz.prog 64 [.agg #[vm, vb], vn, v, str lang, vp] u fun r u' => InlS u' r (resI (refT2 ns bs lang ps) xs) := by
 induction n using Nat.strongRecOn with
 | _ n ih =>
 intro v xs u hsz hbx hsx hB hN hP ha
 have hlx := len_szI xs
 obtain ⟨cs, ⟨ad, cap, rfl, h1⟩, hc1⟩ := ha
 refine FnP.intro [.tmp 10] Tryz.func64 rfl rfl rfl ?_
 intro w0 D hw0
 refine wc_seq ?_
 refine wc_region ?_
 refine rl_do rfl rfl ?_
 refine do_box trivial rfl (cs := [_, _]) rfl rfl rfl rfl ?_
 refine ya rfl rfl ?_
 refine rl_end (ρ' := [(1, _), (2, _), (3, _), (4, _), (5, _)]) ⟨rfl, rfl, rfl, rfl, rfl, trivial⟩ ?_
 refine q_then ?_
 refine wc_seq ?_
 refine wc_region ?_
 refine ya rfl rfl ?_
 refine rl_own_nil 11 511 42 10 rfl rfl rfl ?_
 refine rl_end (ρ' := [(1, _), (2, _), (3, _), (4, _), (5, _), (11, _)]) ⟨rfl, rfl, rfl, rfl, rfl, rfl, trivial⟩ ?_
 refine q_then ?_
 refine wc_seq ?_
 refine wc_seq ?_
 refine wc_region ?_
 refine ya rfl rfl ?_
 refine rl_end (ρ' := [(1, _), (2, _), (3, _), (4, _), (5, _), (11, _), (12, _)]) ⟨rfl, rfl, rfl, rfl, rfl, rfl, rfl, trivial⟩ ?_
 refine q_then ?_
 refine wc_block ?_
 refine wc_loop (fun m ρ σ u' => ∃ i : Nat, i + m = xs.length ∧ VLe u u' ∧ ∃ (acc : List Value), σ = [(5, (none, .box [vm, vb])), (511, (none, .row 42 10 (resI (refT2 ns bs lang ps) (xs.take i)).length acc))] ∧ ρ = [(1, .v vn), (2, .v (.slice ad xs.length cap)), (3, .v (str lang)), (4, .v vp), (5, .p 5 0), (11, .s 511), (12, .v (.int .i64 i))] ∧ (InlsC u' (resI (refT2 ns bs lang ps) (xs.take i)) acc)) (xs.length) ?_ ?_
 ·
  refine ⟨[(1, _), (2, _), (3, _), (4, _), (5, _), (11, _), (12, _)], [(5, _), (511, _)], ⟨rfl, rfl, rfl, rfl, rfl, rfl, rfl, trivial⟩, ⟨rfl, rfl, trivial⟩, 0, by omega, VLe.refl _, [], (by simp [resI]), rfl, ?_⟩
  rw [List.take_zero, resI]; exact InlsC.nil
 ·
  rintro m ρ σ u' ⟨i, hi3, hle3, acc, rfl, rfl, hacc⟩
  refine wc_seq ?_
  refine wc_seq ?_
  refine wc_region ?_
  refine ym rfl rfl ?_
  refine ym rfl rfl ?_
  refine rl_y (y_len_v rfl rfl Tryz.s35 rfl) rfl ?_
  refine rl_y (y_lss rfl rfl rfl) rfl ?_
  refine rl_end (ρ' := [(1, _), (2, _), (3, _), (4, _), (5, _), (11, _), (12, _), (17, _)]) ⟨rfl, rfl, rfl, rfl, rfl, rfl, rfl, rfl, trivial⟩ ?_
  refine q_then ?_
  refine wc_cond rfl (fun hb3 => ?_) (fun hb3 => ?_)
  ·
   have hlt : i < xs.length := by have := of_decide_eq_true hb3; omega
   have h1 := h1.mono hle3
   have hB := hB.mono hle3
   have hN := hN.mono hle3
   have hP := hP.mono hle3
   obtain ⟨k, t, d, ti, a, args, cites, kids, vc, vq, va, vt, vk, hg, hcut1, s1, s2, s3, s4, s5, hok⟩ := (hc1.mono hle3).at hlt
   have oneAll := ((hc1.mono hle3).get i _ hg).one
   rw [hcut1] at oneAll
   have hszk := szI_kids hg
   have hsm1 := smI_get hsx hg
   unfold smI1 NodeSm at hsm1
   obtain ⟨⟨htl, _⟩, hsk⟩ := hsm1
   have hlt' := resI_take (refT2 ns bs lang ps) hg
   have hgl := resI_len (refT2 ns bs lang ps) (xs.take i)
   have htl2 : (xs.take i).length ≤ i := by simp; omega
   have hkl := resI_len (refT2 ns bs lang ps) kids
   have hfl := refT2_len ns bs lang ps t ti hsm hbig (by omega) hns hps
   obtain ⟨o1, o2, o3, o4, o5, o6, o7, o8⟩ := hok
   have hX : resI1 (refT2 ns bs lang ps) (.mk k t d ti a args cites kids) = if k = 14 then linkI t (refT2 ns bs lang ps t ti) else .mk k t d ti a args cites (resI (refT2 ns bs lang ps) kids) := by rw [resI1]
   refine wc_skip ?_
   refine q_then ?_
   refine wc_seq ?_
   refine wc_block ?_
   refine wc_seq ?_
   refine wc_region ?_
   refine ym rfl rfl ?_
   refine ym rfl rfl ?_
   refine rl_y (y_index_e rfl Tryz.s35 rfl rfl (by assumption) (by first | rfl | omega) (by omega)) rfl ?_
   refine rl_y (y_load_el rfl Tryz.k42 rfl (by assumption) (by omega) (by assumption) (vs := [_, _, _, _, _, _, _, _, _, _]) rfl rfl rfl rfl) rfl ?_
   refine rl_do rfl rfl ?_
   refine do_alloc trivial Tryz.z42 rfl rfl rfl ?_
   refine rl_do rfl rfl ?_
   refine do_store_p trivial rfl Tryz.k42 rfl rfl rfl (vs := [_, _, _, _, _, _, _, _, _, _]) rfl rfl (by first | rfl | assumption | simp [Value.oneCell', str]) (Nat.le_of_ble_eq_true rfl) rfl ?_
   refine rl_end (ρ' := [(1, _), (2, _), (3, _), (4, _), (5, _), (11, _), (12, _), (13, _)]) ⟨rfl, rfl, rfl, rfl, rfl, rfl, rfl, rfl, trivial⟩ ?_
   refine q_then ?_
   refine wc_seq ?_
   refine wc_region ?_
   refine rl_y (y_load_p rfl Tryz.k25 rfl rfl rfl (vs := [_, _]) rfl rfl rfl) rfl ?_
   refine ym rfl rfl ?_
   refine rl_y (y_field_p rfl Tryz.f42' rfl (by decide) rfl) rfl ?_
   refine rl_y (y_load_p rfl Tryz.k35 rfl rfl rfl (vs := [_]) rfl rfl rfl) rfl ?_
   refine ym rfl rfl ?_
   refine ym rfl rfl ?_
   refine rl_do rfl rfl ?_
   refine do_call (caps := []) trivial rfl rfl Tryz.c64 rfl (FnP.mono (ih (szI kids) (by omega) vk kids u' (Nat.le_refl _) (by omega) hsk hB hN hP s5) ?_)
   rintro v uK hle0 ⟨kcs, ⟨kad, kcap, rfl, hk1⟩, hk2⟩ hleK
   have hnewK : InlC uK (.mk k t d ti a args cites (resI (refT2 ns bs lang ps) kids)) (inlV k t d ti a.id vc vq va vt (.slice kad (resI (refT2 ns bs lang ps) kids).length kcap)) :=
    InlC.mk' (s1.mono hleK) (s2.mono hleK) (s3.mono hleK) (s4.mono hleK) ⟨kcs, ⟨kad, kcap, rfl, hk1⟩, hk2⟩ ⟨o1, o2, o3, o4, o5, o6, o7, by omega⟩
   have oneAll2 := hnewK.one
   refine rl_y (y_field_p rfl Tryz.f42' rfl (by decide) rfl) rfl ?_
   refine rl_do rfl rfl ?_
   refine do_store_p trivial rfl Tryz.k35 rfl rfl rfl (vs := [_]) rfl rfl (by first | rfl | assumption | simp [Value.oneCell', str]) (Nat.le_of_ble_eq_true rfl) rfl ?_
   refine rl_end (ρ' := [(1, _), (2, _), (3, _), (4, _), (5, _), (11, _), (12, _), (13, _)]) ⟨rfl, rfl, rfl, rfl, rfl, rfl, rfl, rfl, trivial⟩ ?_
   refine q_then ?_
   refine wc_cut (fun ρ σ uc9 => ∃ (k3 : Int) (t3 d3 ti3 id3 : Bs) (w1 w2 w3 w4 w5 : Value), VLe uK uc9 ∧ σ = [(5, (none, .box [vm, vb])), (13, (none, .box (inlV k3 t3 d3 ti3 id3 w1 w2 w3 w4 w5))), (511, (none, .row 42 10 (resI (refT2 ns bs lang ps) (xs.take i)).length acc))] ∧ ρ = [(1, .v vn), (2, .v (.slice ad xs.length cap)), (3, .v (str lang)), (4, .v vp), (5, .p 5 0), (11, .s 511), (12, .v (.int .i64 i)), (13, .p 13 0)] ∧ (InlC uc9 (resI1 (refT2 ns bs lang ps) (.mk k t d ti a args cites kids)) (inlV k3 t3 d3 ti3 id3 w1 w2 w3 w4 w5))) ?_ ?_
   ·
    refine wc_seq ?_
    refine wc_region ?_
    refine rl_y (y_field_p rfl Tryz.f42' rfl (by decide) rfl) rfl ?_
    refine rl_y (y_load_p rfl Tryz.k3 rfl rfl rfl (vs := [_]) rfl rfl rfl) rfl ?_
    refine rl_y (y_eql rfl rfl rfl) rfl ?_
    refine rl_end (ρ' := [(1, _), (2, _), (3, _), (4, _), (5, _), (11, _), (12, _), (13, _), (34, _)]) ⟨rfl, rfl, rfl, rfl, rfl, rfl, rfl, rfl, rfl, trivial⟩ ?_
    refine q_then ?_
    refine wc_cond rfl (fun hb7 => ?_) (fun hb7 => ?_)
    ·
     have h7 : k = 14 := of_decide_eq_true hb7; rw [if_pos h7] at hX
     refine wc_draw Tryz.mixed rfl [(5, _)] ⟨rfl, trivial⟩ ?_
     refine ra_y (i := 0) rfl (by kernel_rfl) (by kernel_rfl) (by kernel_rfl) (np_then (np_block (np_then (np_then (np_block (np_then (np_fin))))))) (y_field_p rfl Tryz.f42' rfl (by decide) rfl) rfl ?_
     refine ra_y (i := 3) rfl (by kernel_rfl) (by kernel_rfl) (by kernel_rfl) (np_then (np_block (np_then (np_then (np_block (np_then (np_fin))))))) (y_load_p rfl Tryz.k25 rfl rfl rfl (vs := [_, _]) rfl rfl rfl) rfl ?_
     refine ra_y (i := 4) rfl (by kernel_rfl) (by kernel_rfl) (by kernel_rfl) (np_then (np_block (np_then (np_then (np_block (np_then (np_fin))))))) (y_move rfl rfl) rfl ?_
     refine ra_y (i := 6) rfl (by kernel_rfl) (by kernel_rfl) (by kernel_rfl) (np_then (np_block (np_then (np_then (np_block (np_then (np_fin))))))) (y_move rfl rfl) rfl ?_
     refine ra_y (i := 7) rfl (by kernel_rfl) (by kernel_rfl) (by kernel_rfl) (np_then (np_block (np_then (np_then (np_block (np_then (np_fin))))))) (y_move rfl rfl) rfl ?_
     refine ra_all (is := [1, 5]) (by kernel_rfl) rfl ?_
     refine raall_cons rfl rfl ?_ ?_
     ·
      refine do_y (y_load_p rfl Tryz.k9 rfl rfl rfl (vs := [_]) rfl rfl rfl) rfl ?_
      refine ra_y (i := 2) rfl (by kernel_rfl) (by kernel_rfl) (by kernel_rfl) (np_then (np_block (np_then (np_then (np_block (np_then (np_fin))))))) (y_str_add (l := [35]) rfl rfl rfl (by simp only [List.length_cons, List.length_nil]; omega)) rfl ?_
      refine ra_do (i := 5) rfl rfl (by kernel_rfl) ?_
      refine do_y (y_load_p rfl Tryz.k42 rfl rfl rfl (vs := [_, _, _, _, _, _, _, _, _, _]) rfl rfl rfl) rfl ?_
      refine ra_do (i := 8) rfl rfl (by kernel_rfl) ?_
      refine do_call_f (caps := []) ⟨rfl, trivial⟩ rfl rfl Tryz.c86 rfl (FnP.mono (refText_fn vm vb vn vp lang ns ps bs k t d ti a.id vc vq va vt (.slice kad (resI (refT2 ns bs lang ps) kids).length kcap) oneAll2 hsm hbig hns hpl uK (hB.mono hleK) (hN.mono hleK) (hP.mono hleK)) ?_)
      rintro v u1 hle1 rfl
      refine ra_y (i := 9) rfl (by kernel_rfl) (by kernel_rfl) (by kernel_rfl) (np_then (np_block (np_then (np_then (np_block (np_then (np_fin))))))) (y_build rfl Tryz.f42' Tryz.z42 (ps := [(_, _), (_, _)]) rfl (vs := [_, _, _, _, _, _, _, _, _, _]) rfl) rfl ?_
      refine ra_do (i := 10) rfl rfl (by kernel_rfl) ?_
      refine do_buildSlice ⟨rfl, trivial⟩ Tryz.s35 Tryz.z42 (ps := [(_, _)]) rfl (xs := [_, _, _, _, _, _, _, _, _, _]) rfl rfl rfl rfl rfl rfl rfl ?_
      refine ra_freeze 45 rfl ?_
      intro ad45 cap45 u45 hle45z hsl45
      refine ra_y (i := 11) rfl (by kernel_rfl) (by kernel_rfl) (by kernel_rfl) (np_then (np_block (np_then (np_then (np_block (np_then (np_fin))))))) (y_build rfl Tryz.f42' Tryz.z42 (ps := [(_, _), (_, _), (_, _)]) rfl (vs := [_, _, _, _, _, _, _, _, _, _]) rfl) rfl ?_
      refine ra_do (i := 12) rfl rfl (by kernel_rfl) ?_
      refine do_store_p ⟨rfl, trivial⟩ rfl Tryz.k42 rfl rfl rfl (vs := [_, _, _, _, _, _, _, _, _, _]) rfl rfl (by first | rfl | assumption | simp [Value.oneCell', str]) (Nat.le_of_ble_eq_true rfl) rfl ?_
      refine ra_end (by kernel_rfl) (ρ' := [(1, _), (2, _), (3, _), (4, _), (5, _), (11, _), (12, _), (13, _)]) ⟨rfl, rfl, rfl, rfl, rfl, rfl, rfl, rfl, trivial⟩ ?_
      refine q_thenK ?_
      first
       | (refine ⟨[(1, _), (2, _), (3, _), (4, _), (5, _), (11, _), (12, _), (13, _)], [(5, _), (13, _), (511, _)], ⟨rfl, rfl, rfl, rfl, rfl, rfl, rfl, rfl, trivial⟩, ⟨rfl, rfl, rfl, trivial⟩, 9, [], 35 :: t, [], [], .slice none 0 0, .slice none 0 0, .slice none 0 0, .slice none 0 0, .slice ad45 1 cap45, hle45z, (by first | rfl | simp), (by first | rfl | (simp only [List.cons.injEq, Prod.mk.injEq, SV.v.injEq, Value.int.injEq, true_and, and_true]; omega) | simp), ?_⟩
          rw [hX]; exact linkI_ok _ t _ _ (by omega) (inlS_of rfl hsl45 (InlsC.one (textI_ok _ _ hfl))))
       | (refine ⟨[(1, _), (2, _), (3, _), (4, _), (5, _), (11, _), (12, _), (13, _)], [(5, _), (13, _), (511, _)], ⟨rfl, rfl, rfl, rfl, rfl, rfl, rfl, rfl, trivial⟩, ⟨rfl, rfl, rfl, trivial⟩, k, t, d, ti, a.id, vc, vq, va, vt, .slice kad (resI (refT2 ns bs lang ps) kids).length kcap, (VLe.refl _), (by first | rfl | simp), (by first | rfl | (simp only [List.cons.injEq, Prod.mk.injEq, SV.v.injEq, Value.int.injEq, true_and, and_true]; omega) | simp), ?_⟩
          rw [hX]; exact hnewK)
     refine raall_cons rfl rfl ?_ ?_
     ·
      refine do_y (y_load_p rfl Tryz.k42 rfl rfl rfl (vs := [_, _, _, _, _, _, _, _, _, _]) rfl rfl rfl) rfl ?_
      refine ra_all (is := [1, 8]) (by kernel_rfl) rfl ?_
      refine raall_cons rfl rfl ?_ ?_
      ·
       refine do_y (y_load_p rfl Tryz.k9 rfl rfl rfl (vs := [_]) rfl rfl rfl) rfl ?_
       refine ra_y (i := 2) rfl (by kernel_rfl) (by kernel_rfl) (by kernel_rfl) (np_then (np_block (np_then (np_then (np_block (np_then (np_fin))))))) (y_str_add (l := [35]) rfl rfl rfl (by simp only [List.length_cons, List.length_nil]; omega)) rfl ?_
       refine ra_do (i := 8) rfl rfl (by kernel_rfl) ?_
       refine do_call_f (caps := []) ⟨rfl, trivial⟩ rfl rfl Tryz.c86 rfl (FnP.mono (refText_fn vm vb vn vp lang ns ps bs k t d ti a.id vc vq va vt (.slice kad (resI (refT2 ns bs lang ps) kids).length kcap) oneAll2 hsm hbig hns hpl uK (hB.mono hleK) (hN.mono hleK) (hP.mono hleK)) ?_)
       rintro v u1 hle1 rfl
       refine ra_y (i := 9) rfl (by kernel_rfl) (by kernel_rfl) (by kernel_rfl) (np_then (np_block (np_then (np_then (np_block (np_then (np_fin))))))) (y_build rfl Tryz.f42' Tryz.z42 (ps := [(_, _), (_, _)]) rfl (vs := [_, _, _, _, _, _, _, _, _, _]) rfl) rfl ?_
       refine ra_do (i := 10) rfl rfl (by kernel_rfl) ?_
       refine do_buildSlice ⟨rfl, trivial⟩ Tryz.s35 Tryz.z42 (ps := [(_, _)]) rfl (xs := [_, _, _, _, _, _, _, _, _, _]) rfl rfl rfl rfl rfl rfl rfl ?_
       refine ra_freeze 45 rfl ?_
       intro ad45 cap45 u45 hle45z hsl45
       refine ra_y (i := 11) rfl (by kernel_rfl) (by kernel_rfl) (by kernel_rfl) (np_then (np_block (np_then (np_then (np_block (np_then (np_fin))))))) (y_build rfl Tryz.f42' Tryz.z42 (ps := [(_, _), (_, _), (_, _)]) rfl (vs := [_, _, _, _, _, _, _, _, _, _]) rfl) rfl ?_
       refine ra_do (i := 12) rfl rfl (by kernel_rfl) ?_
       refine do_store_p ⟨rfl, trivial⟩ rfl Tryz.k42 rfl rfl rfl (vs := [_, _, _, _, _, _, _, _, _, _]) rfl rfl (by first | rfl | assumption | simp [Value.oneCell', str]) (Nat.le_of_ble_eq_true rfl) rfl ?_
       refine ra_end (by kernel_rfl) (ρ' := [(1, _), (2, _), (3, _), (4, _), (5, _), (11, _), (12, _), (13, _)]) ⟨rfl, rfl, rfl, rfl, rfl, rfl, rfl, rfl, trivial⟩ ?_
       refine q_thenK ?_
       first
        | (refine ⟨[(1, _), (2, _), (3, _), (4, _), (5, _), (11, _), (12, _), (13, _)], [(5, _), (13, _), (511, _)], ⟨rfl, rfl, rfl, rfl, rfl, rfl, rfl, rfl, trivial⟩, ⟨rfl, rfl, rfl, trivial⟩, 9, [], 35 :: t, [], [], .slice none 0 0, .slice none 0 0, .slice none 0 0, .slice none 0 0, .slice ad45 1 cap45, hle45z, (by first | rfl | simp), (by first | rfl | (simp only [List.cons.injEq, Prod.mk.injEq, SV.v.injEq, Value.int.injEq, true_and, and_true]; omega) | simp), ?_⟩
           rw [hX]; exact linkI_ok _ t _ _ (by omega) (inlS_of rfl hsl45 (InlsC.one (textI_ok _ _ hfl))))
        | (refine ⟨[(1, _), (2, _), (3, _), (4, _), (5, _), (11, _), (12, _), (13, _)], [(5, _), (13, _), (511, _)], ⟨rfl, rfl, rfl, rfl, rfl, rfl, rfl, rfl, trivial⟩, ⟨rfl, rfl, rfl, trivial⟩, k, t, d, ti, a.id, vc, vq, va, vt, .slice kad (resI (refT2 ns bs lang ps) kids).length kcap, (VLe.refl _), (by first | rfl | simp), (by first | rfl | (simp only [List.cons.injEq, Prod.mk.injEq, SV.v.injEq, Value.int.injEq, true_and, and_true]; omega) | simp), ?_⟩
           rw [hX]; exact hnewK)
      refine raall_cons rfl rfl ?_ ?_
      ·
       refine do_call_f (caps := []) ⟨rfl, trivial⟩ rfl rfl Tryz.c86 rfl (FnP.mono (refText_fn vm vb vn vp lang ns ps bs k t d ti a.id vc vq va vt (.slice kad (resI (refT2 ns bs lang ps) kids).length kcap) oneAll2 hsm hbig hns hpl uK (hB.mono hleK) (hN.mono hleK) (hP.mono hleK)) ?_)
       rintro v u1 hle1 rfl
       refine ra_y (i := 9) rfl (by kernel_rfl) (by kernel_rfl) (by kernel_rfl) (np_then (np_block (np_then (np_then (np_block (np_then (np_fin))))))) (y_build rfl Tryz.f42' Tryz.z42 (ps := [(_, _), (_, _)]) rfl (vs := [_, _, _, _, _, _, _, _, _, _]) rfl) rfl ?_
       refine ra_all (is := [1, 10]) (by kernel_rfl) rfl ?_
       refine raall_cons rfl rfl ?_ ?_
       ·
        refine do_y (y_load_p rfl Tryz.k9 rfl rfl rfl (vs := [_]) rfl rfl rfl) rfl ?_
        refine ra_y (i := 2) rfl (by kernel_rfl) (by kernel_rfl) (by kernel_rfl) (np_then (np_block (np_then (np_then (np_block (np_then (np_fin))))))) (y_str_add (l := [35]) rfl rfl rfl (by simp only [List.length_cons, List.length_nil]; omega)) rfl ?_
        refine ra_do (i := 10) rfl rfl (by kernel_rfl) ?_
        refine do_buildSlice ⟨rfl, trivial⟩ Tryz.s35 Tryz.z42 (ps := [(_, _)]) rfl (xs := [_, _, _, _, _, _, _, _, _, _]) rfl rfl rfl rfl rfl rfl rfl ?_
        refine ra_freeze 45 rfl ?_
        intro ad45 cap45 u45 hle45z hsl45
        refine ra_y (i := 11) rfl (by kernel_rfl) (by kernel_rfl) (by kernel_rfl) (np_then (np_block (np_then (np_then (np_block (np_then (np_fin))))))) (y_build rfl Tryz.f42' Tryz.z42 (ps := [(_, _), (_, _), (_, _)]) rfl (vs := [_, _, _, _, _, _, _, _, _, _]) rfl) rfl ?_
        refine ra_do (i := 12) rfl rfl (by kernel_rfl) ?_
        refine do_store_p ⟨rfl, trivial⟩ rfl Tryz.k42 rfl rfl rfl (vs := [_, _, _, _, _, _, _, _, _, _]) rfl rfl (by first | rfl | assumption | simp [Value.oneCell', str]) (Nat.le_of_ble_eq_true rfl) rfl ?_
        refine ra_end (by kernel_rfl) (ρ' := [(1, _), (2, _), (3, _), (4, _), (5, _), (11, _), (12, _), (13, _)]) ⟨rfl, rfl, rfl, rfl, rfl, rfl, rfl, rfl, trivial⟩ ?_
        refine q_thenK ?_
        first
         | (refine ⟨[(1, _), (2, _), (3, _), (4, _), (5, _), (11, _), (12, _), (13, _)], [(5, _), (13, _), (511, _)], ⟨rfl, rfl, rfl, rfl, rfl, rfl, rfl, rfl, trivial⟩, ⟨rfl, rfl, rfl, trivial⟩, 9, [], 35 :: t, [], [], .slice none 0 0, .slice none 0 0, .slice none 0 0, .slice none 0 0, .slice ad45 1 cap45, hle45z, (by first | rfl | simp), (by first | rfl | (simp only [List.cons.injEq, Prod.mk.injEq, SV.v.injEq, Value.int.injEq, true_and, and_true]; omega) | simp), ?_⟩
            rw [hX]; exact linkI_ok _ t _ _ (by omega) (inlS_of rfl hsl45 (InlsC.one (textI_ok _ _ hfl))))
         | (refine ⟨[(1, _), (2, _), (3, _), (4, _), (5, _), (11, _), (12, _), (13, _)], [(5, _), (13, _), (511, _)], ⟨rfl, rfl, rfl, rfl, rfl, rfl, rfl, rfl, trivial⟩, ⟨rfl, rfl, rfl, trivial⟩, k, t, d, ti, a.id, vc, vq, va, vt, .slice kad (resI (refT2 ns bs lang ps) kids).length kcap, (VLe.refl _), (by first | rfl | simp), (by first | rfl | (simp only [List.cons.injEq, Prod.mk.injEq, SV.v.injEq, Value.int.injEq, true_and, and_true]; omega) | simp), ?_⟩
            rw [hX]; exact hnewK)
       refine raall_cons rfl rfl ?_ ?_
       ·
        refine do_buildSlice ⟨rfl, trivial⟩ Tryz.s35 Tryz.z42 (ps := [(_, _)]) rfl (xs := [_, _, _, _, _, _, _, _, _, _]) rfl rfl rfl rfl rfl rfl rfl ?_
        refine ra_freeze 45 rfl ?_
        intro ad45 cap45 u45 hle45z hsl45
        refine ra_do (i := 1) rfl rfl (by kernel_rfl) ?_
        refine do_y (y_load_p rfl Tryz.k9 rfl rfl rfl (vs := [_]) rfl rfl rfl) rfl ?_
        refine ra_y (i := 2) rfl (by kernel_rfl) (by kernel_rfl) (by kernel_rfl) (np_then (np_block (np_then (np_then (np_block (np_then (np_fin))))))) (y_str_add (l := [35]) rfl rfl rfl (by simp only [List.length_cons, List.length_nil]; omega)) rfl ?_
        refine ra_y (i := 11) rfl (by kernel_rfl) (by kernel_rfl) (by kernel_rfl) (np_then (np_block (np_then (np_then (np_block (np_then (np_fin))))))) (y_build rfl Tryz.f42' Tryz.z42 (ps := [(_, _), (_, _), (_, _)]) rfl (vs := [_, _, _, _, _, _, _, _, _, _]) rfl) rfl ?_
        refine ra_do (i := 12) rfl rfl (by kernel_rfl) ?_
        refine do_store_p ⟨rfl, trivial⟩ rfl Tryz.k42 rfl rfl rfl (vs := [_, _, _, _, _, _, _, _, _, _]) rfl rfl (by first | rfl | assumption | simp [Value.oneCell', str]) (Nat.le_of_ble_eq_true rfl) rfl ?_
        refine ra_end (by kernel_rfl) (ρ' := [(1, _), (2, _), (3, _), (4, _), (5, _), (11, _), (12, _), (13, _)]) ⟨rfl, rfl, rfl, rfl, rfl, rfl, rfl, rfl, trivial⟩ ?_
        refine q_thenK ?_
        first
         | (refine ⟨[(1, _), (2, _), (3, _), (4, _), (5, _), (11, _), (12, _), (13, _)], [(5, _), (13, _), (511, _)], ⟨rfl, rfl, rfl, rfl, rfl, rfl, rfl, rfl, trivial⟩, ⟨rfl, rfl, rfl, trivial⟩, 9, [], 35 :: t, [], [], .slice none 0 0, .slice none 0 0, .slice none 0 0, .slice none 0 0, .slice ad45 1 cap45, hle45z, (by first | rfl | simp), (by first | rfl | (simp only [List.cons.injEq, Prod.mk.injEq, SV.v.injEq, Value.int.injEq, true_and, and_true]; omega) | simp), ?_⟩
            rw [hX]; exact linkI_ok _ t _ _ (by omega) (inlS_of rfl hsl45 (InlsC.one (textI_ok _ _ hfl))))
         | (refine ⟨[(1, _), (2, _), (3, _), (4, _), (5, _), (11, _), (12, _), (13, _)], [(5, _), (13, _), (511, _)], ⟨rfl, rfl, rfl, rfl, rfl, rfl, rfl, rfl, trivial⟩, ⟨rfl, rfl, rfl, trivial⟩, k, t, d, ti, a.id, vc, vq, va, vt, .slice kad (resI (refT2 ns bs lang ps) kids).length kcap, (VLe.refl _), (by first | rfl | simp), (by first | rfl | (simp only [List.cons.injEq, Prod.mk.injEq, SV.v.injEq, Value.int.injEq, true_and, and_true]; omega) | simp), ?_⟩
            rw [hX]; exact hnewK)
       exact raall_nil
      exact raall_nil
     exact raall_nil
    ·
     have h7 : ¬ k = 14 := of_decide_eq_false hb7; rw [if_neg h7] at hX
     refine wc_skip ?_
     refine q_thenK ?_
     first
      | (refine ⟨[(1, _), (2, _), (3, _), (4, _), (5, _), (11, _), (12, _), (13, _)], [(5, _), (13, _), (511, _)], ⟨rfl, rfl, rfl, rfl, rfl, rfl, rfl, rfl, trivial⟩, ⟨rfl, rfl, rfl, trivial⟩, 9, [], 35 :: t, [], [], .slice none 0 0, .slice none 0 0, .slice none 0 0, .slice none 0 0, .slice ad45 1 cap45, hle45z, (by first | rfl | simp), (by first | rfl | (simp only [List.cons.injEq, Prod.mk.injEq, SV.v.injEq, Value.int.injEq, true_and, and_true]; omega) | simp), ?_⟩
         rw [hX]; exact linkI_ok _ t _ _ (by omega) (inlS_of rfl hsl45 (InlsC.one (textI_ok _ _ hfl))))
      | (refine ⟨[(1, _), (2, _), (3, _), (4, _), (5, _), (11, _), (12, _), (13, _)], [(5, _), (13, _), (511, _)], ⟨rfl, rfl, rfl, rfl, rfl, rfl, rfl, rfl, trivial⟩, ⟨rfl, rfl, rfl, trivial⟩, k, t, d, ti, a.id, vc, vq, va, vt, .slice kad (resI (refT2 ns bs lang ps) kids).length kcap, (VLe.refl _), (by first | rfl | simp), (by first | rfl | (simp only [List.cons.injEq, Prod.mk.injEq, SV.v.injEq, Value.int.injEq, true_and, and_true]; omega) | simp), ?_⟩
         rw [hX]; exact hnewK)
   ·
    rintro ρ σ uc9 ⟨k3, t3, d3, ti3, id3, w1, w2, w3, w4, w5, hlc9, rfl, rfl, hnew⟩
    have oneAll3 := hnew.one
    refine wc_region ?_
    refine ym rfl rfl ?_
    refine rl_y (y_load_p rfl Tryz.k42 rfl rfl rfl (vs := [_, _, _, _, _, _, _, _, _, _]) rfl rfl rfl) rfl ?_
    refine rl_do rfl rfl ?_
    refine do_buildSlice trivial Tryz.s35 Tryz.z42 (ps := [(_, _)]) rfl (xs := [_, _, _, _, _, _, _, _, _, _]) rfl rfl rfl rfl rfl rfl rfl ?_
    refine rl_do rfl rfl ?_
    refine do_append_s trivial rfl rfl Tryz.s35 Tryz.z42 rfl rfl rfl rfl rfl rfl oneAll3 (by omega) (by omega) (ρ' := [(1, _), (2, _), (3, _), (4, _), (5, _), (12, _)]) ⟨rfl, rfl, rfl, rfl, rfl, rfl, trivial⟩ rfl rfl rfl ?_
    refine ya rfl rfl ?_
    refine rl_ren 50 511 rfl rfl rfl ?_
    refine rl_end (ρ' := [(1, _), (2, _), (3, _), (4, _), (5, _), (11, _), (12, _)]) ⟨rfl, rfl, rfl, rfl, rfl, rfl, rfl, trivial⟩ ?_
    refine q_block ?_
    refine q_then ?_
    refine wc_region ?_
    refine ym rfl rfl ?_
    refine rl_y (y_add rfl rfl rfl (wrap64_id (by omega))) rfl ?_
    refine ya rfl rfl ?_
    refine rl_end (ρ' := [(1, _), (2, _), (3, _), (4, _), (5, _), (11, _), (12, _)]) ⟨rfl, rfl, rfl, rfl, rfl, rfl, rfl, trivial⟩ ?_
    refine q_thenK ?_
    refine ⟨m - 1, [(1, _), (2, _), (3, _), (4, _), (5, _), (11, _), (12, _)], [(5, _), (511, _)], by omega, ⟨rfl, rfl, rfl, rfl, rfl, rfl, rfl, trivial⟩, ⟨rfl, rfl, trivial⟩, i + 1, by omega, (hle3.trans (hleK.trans hlc9)), _, (by rw [hlt', List.length_append]; rfl), (by first | rfl | simp), ?_⟩
    rw [hlt']
    exact (hacc.mono (hleK.trans hlc9)).append (InlsC.one hnew)
  ·
   have hge := of_decide_eq_false hb3
   refine wc_exit ?_
   refine q_then_exit ?_
   refine q_then_exit ?_
   refine q_block_hit ?_
   refine q_then ?_
   refine wc_seq ?_
   refine wc_region ?_
   refine ym rfl rfl ?_
   refine rl_freeze 511 rfl ?_
   intro ad511 cap511 u511 hle511z hsl511
   refine ya rfl rfl ?_
   refine rl_end (ρ' := [(10, _)]) ⟨rfl, trivial⟩ ?_
   refine q_then ?_
   refine wc_ret ?_
   refine fin1 (.tmp rfl) ?_
   rw [List.take_of_length_le (by omega)] at hacc hsl511
   exact ⟨_, ⟨_, _, by rw [List.take_of_length_le (by omega)], hsl511⟩, hacc.mono hle511z⟩
set_option maxHeartbeats 1000000 in
theorem refBlocks_fn (vm vb vn vp : Value) (lang : Bs) (ns : List DNum) (ps : List (Bs × Bs)) (bs : List Blk) (hsm : smB bs) (hbig : szB bs ≤ 1000) (hns : NsOk ns) (hpl : ps.length ≤ 1000) (hps : ∀ p ∈ ps, p.2.length ≤ 100000) (n : Nat) : ∀ (v : Value) (xs : List Blk) (u : View), szB xs ≤ n → szB xs ≤ 1000 → smB xs → BlkS u vb bs → NumS u vn ns → PrS u vp ps → BlkS u v xs →
  FnP Tryz.prog 29 [.agg #[vm, vb], vn, v, str lang, vp] u fun r u' => BlkS u' r (rebB (fun _ => true) (resI (refT2 ns bs lang ps)) xs) := by
 induction n using Nat.strongRecOn with
 | _ n ih =>
 intro v xs u hsz hbx hsx hB hN hP ha
 have hlx := len_szB xs
 obtain ⟨cs, ⟨ad, cap, rfl, h1⟩, hc1⟩ := ha
 refine FnP.intro [.tmp 10] Tryz.func29 rfl rfl rfl ?_
 intro w0 D hw0
 refine wc_seq ?_
 refine wc_region ?_
 refine rl_do rfl rfl ?_
 refine do_box trivial rfl (cs := [_, _]) rfl rfl rfl rfl ?_
 refine ya rfl rfl ?_
 refine rl_end (ρ' := [(1, _), (2, _), (3, _), (4, _), (5, _)]) ⟨rfl, rfl, rfl, rfl, rfl, trivial⟩ ?_
 refine q_then ?_
 refine wc_seq ?_
 refine wc_region ?_
 refine ya rfl rfl ?_
 refine rl_own_nil 11 511 59 11 rfl rfl rfl ?_
 refine rl_end (ρ' := [(1, _), (2, _), (3, _), (4, _), (5, _), (11, _)]) ⟨rfl, rfl, rfl, rfl, rfl, rfl, trivial⟩ ?_
 refine q_then ?_
 refine wc_seq ?_
 refine wc_seq ?_
 refine wc_region ?_
 refine ya rfl rfl ?_
 refine rl_end (ρ' := [(1, _), (2, _), (3, _), (4, _), (5, _), (11, _), (12, _)]) ⟨rfl, rfl, rfl, rfl, rfl, rfl, rfl, trivial⟩ ?_
 refine q_then ?_
 refine wc_block ?_
 refine wc_loop (fun m ρ σ u' => ∃ i : Nat, i + m = xs.length ∧ VLe u u' ∧ ∃ (acc : List Value), σ = [(5, (none, .box [vm, vb])), (511, (none, .row 59 11 (rebB (fun _ => true) (resI (refT2 ns bs lang ps)) (xs.take i)).length acc))] ∧ ρ = [(1, .v vn), (2, .v (.slice ad xs.length cap)), (3, .v (str lang)), (4, .v vp), (5, .p 5 0), (11, .s 511), (12, .v (.int .i64 i))] ∧ (BlksC u' (rebB (fun _ => true) (resI (refT2 ns bs lang ps)) (xs.take i)) acc)) (xs.length) ?_ ?_
 ·
  refine ⟨[(1, _), (2, _), (3, _), (4, _), (5, _), (11, _), (12, _)], [(5, _), (511, _)], ⟨rfl, rfl, rfl, rfl, rfl, rfl, rfl, trivial⟩, ⟨rfl, rfl, trivial⟩, 0, by omega, VLe.refl _, [], (by simp [rebB]), rfl, ?_⟩
  rw [List.take_zero, rebB]; exact BlksC.nil
 ·
  rintro m ρ σ u' ⟨i, hi3, hle3, acc, rfl, rfl, hacc⟩
  refine wc_seq ?_
  refine wc_seq ?_
  refine wc_region ?_
  refine ym rfl rfl ?_
  refine ym rfl rfl ?_
  refine rl_y (y_len_v rfl rfl Tryz.s23 rfl) rfl ?_
  refine rl_y (y_lss rfl rfl rfl) rfl ?_
  refine rl_end (ρ' := [(1, _), (2, _), (3, _), (4, _), (5, _), (11, _), (12, _), (17, _)]) ⟨rfl, rfl, rfl, rfl, rfl, rfl, rfl, rfl, trivial⟩ ?_
  refine q_then ?_
  refine wc_cond rfl (fun hb3 => ?_) (fun hb3 => ?_)
  ·
   have hlt : i < xs.length := by have := of_decide_eq_true hb3; omega
   have h1 := h1.mono hle3
   have hB := hB.mono hle3
   have hN := hN.mono hle3
   have hP := hP.mono hle3
   obtain ⟨k, lv, inf, t, d, ti, a, line, kids, vc, vq, vl, vk, hg, hcut1, s1, s2, s3, s4, hok⟩ := (hc1.mono hle3).at hlt
   have oneAll := ((hc1.mono hle3).get i _ hg).one
   rw [hcut1] at oneAll
   have hszk := szB_kids hg
   have hszt := szB_take hg
   have hszt2 := szB_take_le xs (i + 1)
   simp only [szb] at hszt
   have hsm1 := smB_get hsx hg
   unfold smB1 at hsm1
   obtain ⟨_, _, _, _, hsl, hsk⟩ := hsm1
   have hlt' := rebB_take (fun _ => true) (resI (refT2 ns bs lang ps)) hg
   rw [rebb_eq, if_pos rfl] at hlt'
   have hgl := rebB_len (fun _ => true) (resI (refT2 ns bs lang ps)) (xs.take i)
   have htl2 : (xs.take i).length ≤ i := by simp; omega
   have hkl := rebB_len (fun _ => true) (resI (refT2 ns bs lang ps)) kids
   have hll := resI_len (refT2 ns bs lang ps) line
   have hkl2 := len_szB kids
   have hll2 := len_szI line
   obtain ⟨o1, o2, o3, o4, o5, o6, o7, o8, o9⟩ := hok
   refine wc_skip ?_
   refine q_then ?_
   refine wc_seq ?_
   refine wc_block ?_
   refine wc_seq ?_
   refine wc_region ?_
   refine ym rfl rfl ?_
   refine ym rfl rfl ?_
   refine rl_y (y_index_e rfl Tryz.s23 rfl rfl (by assumption) (by first | rfl | omega) (by omega)) rfl ?_
   refine rl_y (y_load_el rfl Tryz.k59 rfl (by assumption) (by omega) (by assumption) (vs := [_, _, _, _, _, _, _, _, _, _, _]) rfl rfl rfl rfl) rfl ?_
   refine rl_do rfl rfl ?_
   refine do_alloc trivial Tryz.z59 rfl rfl rfl ?_
   refine rl_do rfl rfl ?_
   refine do_store_p trivial rfl Tryz.k59 rfl rfl rfl (vs := [_, _, _, _, _, _, _, _, _, _, _]) rfl rfl (by first | rfl | assumption | simp [Value.oneCell', str]) (Nat.le_of_ble_eq_true rfl) rfl ?_
   refine rl_end (ρ' := [(1, _), (2, _), (3, _), (4, _), (5, _), (11, _), (12, _), (13, _)]) ⟨rfl, rfl, rfl, rfl, rfl, rfl, rfl, rfl, trivial⟩ ?_
   refine q_then ?_
   refine wc_seq ?_
   refine wc_region ?_
   refine rl_y (y_load_p rfl Tryz.k25 rfl rfl rfl (vs := [_, _]) rfl rfl rfl) rfl ?_
   refine ym rfl rfl ?_
   refine rl_y (y_field_p rfl Tryz.f59' rfl (by decide) rfl) rfl ?_
   refine rl_y (y_load_p rfl Tryz.k35 rfl rfl rfl (vs := [_]) rfl rfl rfl) rfl ?_
   refine ym rfl rfl ?_
   refine ym rfl rfl ?_
   refine rl_do rfl rfl ?_
   refine do_call (caps := []) trivial rfl rfl Tryz.c64 rfl (FnP.mono (refLine_fn vm vb vn vp lang ns ps bs hsm hbig hns hpl hps (szI line) vl line u' (Nat.le_refl _) (by omega) hsl hB hN hP s3) ?_)
   rintro v uK hle0 ⟨lcs, ⟨lad, lcap, rfl, hl1⟩, hl2⟩ hleK
   refine rl_y (y_field_p rfl Tryz.f59' rfl (by decide) rfl) rfl ?_
   refine rl_do rfl rfl ?_
   refine do_store_p trivial rfl Tryz.k35 rfl rfl rfl (vs := [_]) rfl rfl (by first | rfl | assumption | simp [Value.oneCell', str]) (Nat.le_of_ble_eq_true rfl) rfl ?_
   refine rl_end (ρ' := [(1, _), (2, _), (3, _), (4, _), (5, _), (11, _), (12, _), (13, _)]) ⟨rfl, rfl, rfl, rfl, rfl, rfl, rfl, rfl, trivial⟩ ?_
   refine q_then ?_
   refine wc_seq ?_
   refine wc_region ?_
   refine rl_y (y_load_p rfl Tryz.k25 rfl rfl rfl (vs := [_, _]) rfl rfl rfl) rfl ?_
   refine ym rfl rfl ?_
   refine rl_y (y_field_p rfl Tryz.f59' rfl (by decide) rfl) rfl ?_
   refine rl_y (y_load_p rfl Tryz.k23 rfl rfl rfl (vs := [_]) rfl rfl rfl) rfl ?_
   refine ym rfl rfl ?_
   refine ym rfl rfl ?_
   refine rl_do rfl rfl ?_
   refine do_call (caps := []) trivial rfl rfl Tryz.c29 rfl (FnP.mono (ih (szB kids) (by omega) vk kids uK (Nat.le_refl _) (by omega) hsk (hB.mono hleK) (hN.mono hleK) (hP.mono hleK) (s4.mono hleK)) ?_)
   rintro v uQ hle0 ⟨kcs, ⟨kad, kcap, rfl, hk1⟩, hk2⟩ hleQ
   have hnew : BlkC uQ (.mk k lv inf t d ti a (resI (refT2 ns bs lang ps) line) (rebB (fun _ => true) (resI (refT2 ns bs lang ps)) kids)) (blkV k lv inf t d ti a.id vc vq (.slice lad (resI (refT2 ns bs lang ps) line).length lcap) (.slice kad (rebB (fun _ => true) (resI (refT2 ns bs lang ps)) kids).length kcap)) :=
    BlkC.mk' (s1.mono (hleK.trans hleQ)) (s2.mono (hleK.trans hleQ)) (InlS.mono ⟨lcs, ⟨lad, lcap, rfl, hl1⟩, hl2⟩ hleQ) ⟨kcs, ⟨kad, kcap, rfl, hk1⟩, hk2⟩ ⟨o1, o2, o3, o4, o5, o6, o7, by omega, by omega⟩
   have oneAll3 := hnew.one
   refine rl_y (y_field_p rfl Tryz.f59' rfl (by decide) rfl) rfl ?_
   refine rl_do rfl rfl ?_
   refine do_store_p trivial rfl Tryz.k23 rfl rfl rfl (vs := [_]) rfl rfl (by first | rfl | assumption | simp [Value.oneCell', str]) (Nat.le_of_ble_eq_true rfl) rfl ?_
   refine rl_end (ρ' := [(1, _), (2, _), (3, _), (4, _), (5, _), (11, _), (12, _), (13, _)]) ⟨rfl, rfl, rfl, rfl, rfl, rfl, rfl, rfl, trivial⟩ ?_
   refine q_then ?_
   refine wc_region ?_
   refine ym rfl rfl ?_
   refine rl_y (y_load_p rfl Tryz.k59 rfl rfl rfl (vs := [_, _, _, _, _, _, _, _, _, _, _]) rfl rfl rfl) rfl ?_
   refine rl_do rfl rfl ?_
   refine do_buildSlice trivial Tryz.s23 Tryz.z59 (ps := [(_, _)]) rfl (xs := [_, _, _, _, _, _, _, _, _, _, _]) rfl rfl rfl rfl rfl rfl rfl ?_
   refine rl_do rfl rfl ?_
   refine do_append_s trivial rfl rfl Tryz.s23 Tryz.z59 rfl rfl rfl rfl rfl rfl oneAll3 (by omega) (by omega) (ρ' := [(1, _), (2, _), (3, _), (4, _), (5, _), (12, _)]) ⟨rfl, rfl, rfl, rfl, rfl, rfl, trivial⟩ rfl rfl rfl ?_
   refine ya rfl rfl ?_
   refine rl_ren 43 511 rfl rfl rfl ?_
   refine rl_end (ρ' := [(1, _), (2, _), (3, _), (4, _), (5, _), (11, _), (12, _)]) ⟨rfl, rfl, rfl, rfl, rfl, rfl, rfl, trivial⟩ ?_
   refine q_block ?_
   refine q_then ?_
   refine wc_region ?_
   refine ym rfl rfl ?_
   refine rl_y (y_add rfl rfl rfl (wrap64_id (by omega))) rfl ?_
   refine ya rfl rfl ?_
   refine rl_end (ρ' := [(1, _), (2, _), (3, _), (4, _), (5, _), (11, _), (12, _)]) ⟨rfl, rfl, rfl, rfl, rfl, rfl, rfl, trivial⟩ ?_
   refine q_thenK ?_
   refine ⟨m - 1, [(1, _), (2, _), (3, _), (4, _), (5, _), (11, _), (12, _)], [(5, _), (511, _)], by omega, ⟨rfl, rfl, rfl, rfl, rfl, rfl, rfl, trivial⟩, ⟨rfl, rfl, trivial⟩, i + 1, by omega, (hle3.trans (hleK.trans hleQ)), _, (by rw [hlt', List.length_append]; rfl), (by first | rfl | simp), ?_⟩
   rw [hlt']
   exact (hacc.mono (hleK.trans hleQ)).append (BlksC.one hnew)
  ·
   have hge := of_decide_eq_false hb3
   refine wc_exit ?_
   refine q_then_exit ?_
   refine q_then_exit ?_
   refine q_block_hit ?_
   refine q_then ?_
   refine wc_seq ?_
   refine wc_region ?_
   refine ym rfl rfl ?_
   refine rl_freeze 511 rfl ?_
   intro ad511 cap511 u511 hle511z hsl511
   refine ya rfl rfl ?_
   refine rl_end (ρ' := [(10, _)]) ⟨rfl, trivial⟩ ?_
   refine q_then ?_
   refine wc_ret ?_
   refine fin1 (.tmp rfl) ?_
   rw [List.take_of_length_le (by omega)] at hacc hsl511
   exact ⟨_, ⟨_, _, by rw [List.take_of_length_le (by omega)], hsl511⟩, hacc.mono hle511z⟩
def refEq (f g : Bs → Bs → Bs) : Inl → Prop
 | .mk k t _ ti _ _ _ _ => k = 14 → f t ti = g t ti
mutual
theorem resI1_congr (f g : Bs → Bs → Bs) : ∀ x : Inl, (∀ y ∈ deep1 x, refEq f g y) → resI1 f x = resI1 g x
 | .mk k t d ti a args cites kids, h => by
  have h0 := h (.mk k t d ti a args cites kids) (by simp [deep1])
  have hk := resI_congr f g kids (fun y hy => h y (by simp [deep1, hy]))
  simp only [resI1]
  by_cases e : k = 14
  ·
   rw [if_pos e, if_pos e, h0 e]
  ·
   rw [if_neg e, if_neg e, hk]
theorem resI_congr (f g : Bs → Bs → Bs) : ∀ xs : List Inl, (∀ y ∈ deep xs, refEq f g y) → resI f xs = resI g xs
 | [], _ => by simp [resI]
 | x :: xs, h => by
  simp only [resI, resI1_congr f g x (fun y hy => h y (by simp [deep, hy])), resI_congr f g xs (fun y hy => h y (by simp [deep, hy]))]
end
mutual
theorem rebb_congr (kp : Blk → Bool) (f g : List Inl → List Inl) : ∀ x : Blk, (∀ b ∈ listb x, f (lineOf b) = g (lineOf b)) → rebb kp f x = rebb kp g x
 | .mk k lv inf t d ti a line kids, h => by
  have h0 := h (.mk k lv inf t d ti a line kids) (by simp [listb])
  have hk := rebB_congr kp f g kids (fun y hy => h y (by simp [listb, hy]))
  simp only [lineOf] at h0
  simp only [rebb, h0, hk]
theorem rebB_congr (kp : Blk → Bool) (f g : List Inl → List Inl) : ∀ xs : List Blk, (∀ b ∈ listB xs, f (lineOf b) = g (lineOf b)) → rebB kp f xs = rebB kp g xs
 | [], _ => by simp [rebB]
 | x :: xs, h => by
  simp only [rebB, rebb_congr kp f g x (fun y hy => h y (by simp [listB, hy])), rebB_congr kp f g xs (fun y hy => h y (by simp [listB, hy]))]
end
theorem names_ne {l : List Ev} : [] ∉ namesE l := by
 intro h
 unfold namesE at h
 obtain ⟨e, _, he⟩ := List.mem_flatMap.1 h
 unfold nz at he
 split at he
 ·
  cases he
 ·
  rename_i hc
  exact hc (List.mem_singleton.1 he).symm
theorem check0_miss {bs : List Blk} (h : (checkOf bs).2 = 0) : missOf bs = [] := by
 unfold checkOf at h
 cases ht : twice [] (namesOf bs) with
 | some s => rw [ht] at h; cases h
 | none =>
  rw [ht] at h
  cases hm : missOf bs with
  | nil => rfl
  | cons a b => rw [hm] at h; cases h
theorem ref_named {bs : List Blk} (h : (checkOf bs).2 = 0) {b : Blk} (hb : b ∈ listB bs) {y : Inl} (hy : y ∈ deep (lineOf b)) : match y with | .mk k t _ _ _ _ _ _ => k = 14 → t ∈ namesOf bs := by
 have hm := check0_miss h
 unfold missOf missE at hm
 have he : (Sum.inr y : Ev) ∈ evB bs := by
  unfold evB evL evI
  refine List.mem_flatMap.2 ⟨b, hb, List.mem_cons_of_mem _ (List.mem_map.2 ⟨y, hy, rfl⟩)⟩
 have h1 := List.flatMap_eq_nil_iff.1 hm _ he
 obtain ⟨k, t, d, ti, a, args, cites, kids⟩ := y
 intro hk
 simp only [missEv, if_pos hk] at h1
 by_cases ht : t ∈ namesOf bs
 ·
  exact ht
 ·
  rw [if_neg ht] at h1; cases h1
theorem resDoc_eq (lang : Bs) (ps : List (Bs × Bs)) (bs : List Blk) (h : (checkOf bs).2 = 0) : rebB (fun _ => true) (resI (refT2 (numsOf bs) bs lang ps)) bs = resDoc lang ps bs := by
 unfold resDoc
 refine rebB_congr _ _ _ bs fun b hb => resI_congr _ _ _ fun y hy => ?_
 have h1 := ref_named h hb hy
 obtain ⟨k, t, d, ti, a, args, cites, kids⟩ := y
 intro hk
 refine refT2_eq _ _ _ _ _ _ fun e => ?_
 have h2 := h1 hk
 rw [e] at h2
 exact names_ne h2
set_option maxHeartbeats 1000000 in
theorem refResolve_fn (vm vb vp : Value) (mts : List (Bs × Bs)) (lang : Bs) (bs : List Blk) (ps : List (Bs × Bs)) (u : View) (hbig : szB bs ≤ 1000) (hsm : smB bs) (hpl : ps.length ≤ 1000) (hps : ∀ p ∈ ps, p.2.length ≤ 100000) (hm : PrS u vm mts) (ha : BlkS u vb bs) (hp : PrS u vp ps) :
  FnP Tryz.prog 10 [.agg #[vm, vb], str lang, vp] u fun r u' => ResR u' mts lang ps bs r := by
 have hns := nsOk_numsOf bs hsm hbig
 have hm2 := hm
 obtain ⟨mad, mcap, rfl, hm1⟩ := hm2
 refine FnP.intro [.cell 6 25, .tmp 7] Tryz.func10 rfl rfl rfl ?_
 intro w0 D hw0
 refine wc_seq ?_
 refine wc_region ?_
 refine rl_do rfl rfl ?_
 refine do_box trivial rfl (cs := [_, _]) rfl rfl rfl rfl ?_
 refine rl_do rfl rfl ?_
 refine do_alloc trivial Tryz.z25 rfl rfl rfl ?_
 refine ya rfl rfl ?_
 refine rl_end (ρ' := [(1, _), (2, _), (3, _), (6, _)]) ⟨rfl, rfl, rfl, rfl, trivial⟩ ?_
 refine q_then ?_
 refine wc_seq ?_
 refine wc_seq ?_
 refine wc_cutB 23 (decide (¬ LangOk lang)) (ρk := [(1, _), (2, _), (3, _), (6, _)]) ⟨rfl, rfl, rfl, rfl, trivial⟩ ?_ ?_
 ·
  refine wc_region ?_
  refine ym rfl rfl ?_
  refine rl_y (y_str_neq rfl rfl rfl) rfl ?_
  refine ym rfl rfl ?_
  rcases Bool.eq_false_or_eq_true (decide (lang ≠ [101, 110])) with hg1_2 | hg1_2
  ·
   simp only [hg1_2]
   refine rl_on rfl rfl ?_
   refine ym rfl rfl ?_
   refine rl_on rfl rfl ?_
   refine rl_y (y_str_neq rfl rfl rfl) rfl ?_
   refine rl_y (y_pick_t rfl rfl rfl) rfl ?_
   refine ym rfl rfl ?_
   rcases Bool.eq_false_or_eq_true (decide (lang ≠ [100, 101])) with hg1_6 | hg1_6
   ·
    simp only [hg1_6]
    refine rl_on rfl rfl ?_
    refine ym rfl rfl ?_
    refine rl_on rfl rfl ?_
    refine rl_y (y_str_neq rfl rfl rfl) rfl ?_
    refine rl_y (y_pick_t rfl rfl rfl) rfl ?_
    refine ym rfl rfl ?_
    rcases Bool.eq_false_or_eq_true (decide (lang ≠ [102, 114])) with hg1_10 | hg1_10
    ·
     simp only [hg1_10]
     refine rl_on rfl rfl ?_
     refine ym rfl rfl ?_
     refine rl_on rfl rfl ?_
     refine rl_y (y_str_neq rfl rfl rfl) rfl ?_
     refine rl_y (y_pick_t rfl rfl rfl) rfl ?_
     exact cutB_end rfl ⟨rfl, rfl, rfl, rfl, trivial⟩ (by simp only [LangOk, enS, deS, frS, esS] at *; simp_all)
    ·
     simp only [hg1_10]
     refine rl_off rfl rfl rfl rfl ?_
     refine rl_off rfl rfl rfl rfl ?_
     refine rl_y (y_pick_f rfl rfl rfl) rfl ?_
     exact cutB_end rfl ⟨rfl, rfl, rfl, rfl, trivial⟩ (by simp only [LangOk, enS, deS, frS, esS] at *; simp_all)
   ·
    simp only [hg1_6]
    refine rl_off rfl rfl rfl rfl ?_
    refine rl_off rfl rfl rfl rfl ?_
    refine rl_y (y_pick_f rfl rfl rfl) rfl ?_
    refine ym rfl rfl ?_
    refine rl_off rfl rfl rfl rfl ?_
    refine rl_off rfl rfl rfl rfl ?_
    refine rl_y (y_pick_f rfl rfl rfl) rfl ?_
    exact cutB_end rfl ⟨rfl, rfl, rfl, rfl, trivial⟩ (by simp only [LangOk, enS, deS, frS, esS] at *; simp_all)
  ·
   simp only [hg1_2]
   refine rl_off rfl rfl rfl rfl ?_
   refine rl_off rfl rfl rfl rfl ?_
   refine rl_y (y_pick_f rfl rfl rfl) rfl ?_
   refine ym rfl rfl ?_
   refine rl_off rfl rfl rfl rfl ?_
   refine rl_off rfl rfl rfl rfl ?_
   refine rl_y (y_pick_f rfl rfl rfl) rfl ?_
   refine ym rfl rfl ?_
   refine rl_off rfl rfl rfl rfl ?_
   refine rl_off rfl rfl rfl rfl ?_
   refine rl_y (y_pick_f rfl rfl rfl) rfl ?_
   exact cutB_end rfl ⟨rfl, rfl, rfl, rfl, trivial⟩ (by simp only [LangOk, enS, deS, frS, esS] at *; simp_all)
 refine q_then ?_
 refine wc_cond rfl (fun hb1 => ?_) (fun hb1 => ?_)
 ·
  have hE : resErr lang bs = 2 := if_neg (of_decide_eq_true hb1 : ¬ LangOk lang)
  refine wc_seq ?_
  refine wc_region ?_
  refine rl_y (y_build rfl Tryz.f25' Tryz.z25 (ps := []) rfl (vs := [_, _]) rfl) rfl ?_
  refine rl_do rfl rfl ?_
  refine do_store_p trivial rfl Tryz.k25 rfl rfl rfl (vs := [_, _]) rfl rfl (by first | rfl | assumption | simp [Value.oneCell', str]) (Nat.le_of_ble_eq_true rfl) rfl ?_
  refine ya rfl rfl ?_
  refine rl_end (ρ' := [(6, _), (7, _)]) ⟨rfl, rfl, trivial⟩ ?_
  refine q_then ?_
  refine wc_ret ?_
  refine q_then_ret ?_
  refine fin2 (.cell rfl rfl Tryz.k25 (cs := _) (vs := [_, _]) rfl rfl rfl) (.tmp rfl) ?_
  exact .inr ⟨by rw [hE]; decide, by rw [hE]⟩
 ·
  have hE : resErr lang bs = (checkOf bs).2 := if_pos (Decidable.of_not_not (of_decide_eq_false hb1) : LangOk lang)
  refine wc_skip ?_
  refine q_then ?_
  refine wc_seq ?_
  refine wc_region ?_
  refine rl_y (y_load_p rfl Tryz.k25 rfl rfl rfl (vs := [_, _]) rfl rfl rfl) rfl ?_
  refine rl_do rfl rfl ?_
  refine do_call_f (caps := []) trivial rfl rfl Tryz.c28 rfl (FnP.mono (refCheck_fn _ vb bs u (by omega) ha) ?_)
  rintro v u1 hle1 rfl
  refine ym rfl rfl ?_
  refine rl_y (y_extract rfl rfl rfl) rfl ?_
  refine rl_y (y_extract rfl rfl rfl) rfl ?_
  refine ya rfl rfl ?_
  refine ya rfl rfl ?_
  refine rl_end (ρ' := [(1, _), (2, _), (3, _), (6, _), (9, _)]) ⟨rfl, rfl, rfl, rfl, rfl, trivial⟩ ?_
  refine q_then ?_
  refine wc_seq ?_
  refine wc_seq ?_
  refine wc_region ?_
  refine ym rfl rfl ?_
  refine rl_y (y_neq rfl rfl rfl) rfl ?_
  refine rl_end (ρ' := [(1, _), (2, _), (3, _), (6, _), (9, _), (31, _)]) ⟨rfl, rfl, rfl, rfl, rfl, rfl, trivial⟩ ?_
  refine q_then ?_
  refine wc_cond rfl (fun hb4 => ?_) (fun hb4 => ?_)
  ·
   have h4 : (checkOf bs).2 ≠ 0 := of_decide_eq_true hb4
   refine wc_seq ?_
   refine wc_region ?_
   refine rl_y (y_build rfl Tryz.f25' Tryz.z25 (ps := []) rfl (vs := [_, _]) rfl) rfl ?_
   refine ym rfl rfl ?_
   refine rl_do rfl rfl ?_
   refine do_store_p trivial rfl Tryz.k25 rfl rfl rfl (vs := [_, _]) rfl rfl (by first | rfl | assumption | simp [Value.oneCell', str]) (Nat.le_of_ble_eq_true rfl) rfl ?_
   refine ya rfl rfl ?_
   refine rl_end (ρ' := [(6, _), (7, _)]) ⟨rfl, rfl, trivial⟩ ?_
   refine q_then ?_
   refine wc_ret ?_
   refine q_then_ret ?_
   refine fin2 (.cell rfl rfl Tryz.k25 (cs := _) (vs := [_, _]) rfl rfl rfl) (.tmp rfl) ?_
   exact .inr ⟨by rw [hE]; exact h4, by rw [hE]⟩
  ·
   have h4 : (checkOf bs).2 = 0 := Decidable.of_not_not (of_decide_eq_false hb4)
   refine wc_skip ?_
   refine q_then ?_
   refine wc_seq ?_
   refine wc_draw Tryz.mixed rfl [(3, _)] ⟨rfl, trivial⟩ ?_
   refine ra_y (i := 0) rfl (by kernel_rfl) (by kernel_rfl) (by kernel_rfl) (np_then (np_fin)) (y_field_p rfl Tryz.f25' rfl (by decide) rfl) rfl ?_
   refine ra_y (i := 1) rfl (by kernel_rfl) (by kernel_rfl) (by kernel_rfl) (np_then (np_fin)) (y_load_p rfl Tryz.k22 rfl rfl rfl (vs := [_]) rfl rfl rfl) rfl ?_
   refine ra_y (i := 2) rfl (by kernel_rfl) (by kernel_rfl) (by kernel_rfl) (np_then (np_fin)) (y_load_p rfl Tryz.k25 rfl rfl rfl (vs := [_, _]) rfl rfl rfl) rfl ?_
   refine ra_y (i := 3) rfl (by kernel_rfl) (by kernel_rfl) (by kernel_rfl) (np_then (np_fin)) (y_load_p rfl Tryz.k25 rfl rfl rfl (vs := [_, _]) rfl rfl rfl) rfl ?_
   refine ra_y (i := 5) rfl (by kernel_rfl) (by kernel_rfl) (by kernel_rfl) (np_then (np_fin)) (y_field_p rfl Tryz.f25' rfl (by decide) rfl) rfl ?_
   refine ra_y (i := 6) rfl (by kernel_rfl) (by kernel_rfl) (by kernel_rfl) (np_then (np_fin)) (y_load_p rfl Tryz.k23 rfl rfl rfl (vs := [_]) rfl rfl rfl) rfl ?_
   refine ra_y (i := 7) rfl (by kernel_rfl) (by kernel_rfl) (by kernel_rfl) (np_then (np_fin)) (y_move rfl rfl) rfl ?_
   refine ra_y (i := 8) rfl (by kernel_rfl) (by kernel_rfl) (by kernel_rfl) (np_then (np_fin)) (y_move rfl rfl) rfl ?_
   refine ra_do (i := 4) rfl rfl (by kernel_rfl) ?_
   refine do_call (caps := []) ⟨rfl, trivial⟩ rfl rfl Tryz.c30 rfl (FnP.mono (refNumbers_fn _ vb bs u (by omega) ha) ?_)
   rintro v uN hle0 hN hleN
   refine ra_do (i := 9) rfl rfl (by kernel_rfl) ?_
   refine do_call (caps := []) ⟨rfl, trivial⟩ rfl rfl Tryz.c29 rfl (FnP.mono (refBlocks_fn _ vb _ vp lang (numsOf bs) ps bs hsm hbig hns hpl hps (szB bs) vb bs uN (Nat.le_refl _) hbig hsm (ha.mono hleN) hN (hp.mono hleN) (ha.mono hleN)) ?_)
   rintro v uB hle0 hB hleB
   rw [resDoc_eq lang ps bs h4] at hB
   have hB2 := hB
   obtain ⟨bcs, ⟨bad, bcap, rfl, hb1'⟩, hb2'⟩ := hB2
   refine ra_y (i := 10) rfl (by kernel_rfl) (by kernel_rfl) (by kernel_rfl) (np_then (np_fin)) (y_build rfl Tryz.f25' Tryz.z25 (ps := [(_, _), (_, _)]) rfl (vs := [_, _]) rfl) rfl ?_
   refine ra_do (i := 11) rfl rfl (by kernel_rfl) ?_
   refine do_store_p ⟨rfl, trivial⟩ rfl Tryz.k25 rfl rfl rfl (vs := [_, _]) rfl rfl (by first | rfl | assumption | simp [Value.oneCell', str]) (Nat.le_of_ble_eq_true rfl) rfl ?_
   refine ra_y (i := 12) rfl (by kernel_rfl) (by kernel_rfl) (by kernel_rfl) (np_then (np_fin)) (y_assign rfl rfl) rfl ?_
   refine ra_end (by kernel_rfl) (ρ' := [(6, _), (7, _)]) ⟨rfl, rfl, trivial⟩ ?_
   refine q_then ?_
   refine wc_ret ?_
   refine fin2 (.cell rfl rfl Tryz.k25 (cs := _) (vs := [_, _]) rfl rfl rfl) (.tmp rfl) ?_
   exact .inl ⟨by rw [hE]; exact h4, _, _, rfl, (hm.mono hleN).mono hleB, hB⟩
def fewB (ps : List (Bs × Bs)) : Bool := decide (ps.length ≤ 40 ∧ ∀ p ∈ ps, p.1.length ≤ 100 ∧ p.2.length ≤ 100)
theorem few_fn (vp : Value) (ps : List (Bs × Bs)) (hok : PrOk ps) (u : View) (hp : PrS u vp ps) :
  FnP Tryz.prog 7 [vp] u fun r _ => r = .bool (fewB ps) := by
 obtain ⟨pad, pcap, rfl, hp1⟩ := hp
 obtain ⟨hl, hk⟩ := hok
 refine FnP.intro [.tmp 2] Tryz.func7 rfl rfl rfl ?_
 intro w0 D hw0
 refine wc_seq ?_
 refine wc_region ?_
 refine ya rfl rfl ?_
 refine rl_end (ρ' := [(0, _)]) ⟨rfl, trivial⟩ ?_
 refine q_then ?_
 refine wc_seq ?_
 refine wc_seq ?_
 refine wc_region ?_
 refine ym rfl rfl ?_
 refine rl_y (y_len_v rfl rfl Tryz.s22 rfl) rfl ?_
 refine rl_y (y_gtr rfl rfl rfl) rfl ?_
 refine rl_end (ρ' := [(0, _), (6, _)]) ⟨rfl, rfl, trivial⟩ ?_
 refine q_then ?_
 refine wc_cond rfl (fun hb1 => ?_) (fun hb1 => ?_)
 ·
  refine wc_seq ?_
  refine wc_region ?_
  refine ya rfl rfl ?_
  refine rl_end (ρ' := [(2, _)]) ⟨rfl, trivial⟩ ?_
  refine q_then ?_
  refine wc_ret ?_
  refine q_then_ret ?_
  refine fin1 (.tmp rfl) ?_
  unfold fewB; rw [decide_eq_false]; intro h; exact absurd (of_decide_eq_true hb1) (by omega)
 ·
  refine wc_skip ?_
  refine q_then ?_
  refine wc_seq ?_
  refine wc_seq ?_
  refine wc_region ?_
  refine ya rfl rfl ?_
  refine rl_end (ρ' := [(0, _), (3, _)]) ⟨rfl, rfl, trivial⟩ ?_
  refine q_then ?_
  refine wc_block ?_
  refine wc_loop (fun m ρ σ u' => ∃ i : Nat, i + m = ps.length ∧ VLe u u' ∧ σ = [] ∧ ρ = [(0, .v (.slice pad ps.length pcap)), (3, .v (.int .i64 i))] ∧ (u = u' ∧ ∀ p ∈ ps.take i, p.1.length ≤ 100 ∧ p.2.length ≤ 100)) (ps.length) ?_ ?_
  ·
   refine ⟨[(0, _), (3, _)], [], ⟨rfl, rfl, trivial⟩, trivial, 0, by omega, VLe.refl _, (by first | rfl | simp), (by first | rfl | (simp only [List.cons.injEq, Prod.mk.injEq, SV.v.injEq, Value.int.injEq, true_and, and_true]; omega) | simp), ?_⟩
   exact ⟨rfl, fun p hp => by simp at hp⟩
  ·
   rintro m ρ σ u' ⟨i, hi4, hle4, rfl, rfl, ⟨rfl, hinv⟩⟩
   refine wc_seq ?_
   refine wc_seq ?_
   refine wc_region ?_
   refine ym rfl rfl ?_
   refine ym rfl rfl ?_
   refine rl_y (y_len_v rfl rfl Tryz.s22 rfl) rfl ?_
   refine rl_y (y_lss rfl rfl rfl) rfl ?_
   refine rl_end (ρ' := [(0, _), (3, _), (10, _)]) ⟨rfl, rfl, rfl, trivial⟩ ?_
   refine q_then ?_
   refine wc_cond rfl (fun hb4 => ?_) (fun hb4 => ?_)
   ·
    have hlt : i < ps.length := by have := of_decide_eq_true hb4; omega
    have hg := List.getElem?_eq_getElem hlt
    have hcc := cut_pairsC hg
    have hsl := hk _ (List.mem_of_getElem? hg)
    refine wc_skip ?_
    refine q_then ?_
    refine wc_seq ?_
    refine wc_block ?_
    refine wc_seq ?_
    refine wc_cutB 28 (decide (¬ ((ps[i]).1.length ≤ 100 ∧ (ps[i]).2.length ≤ 100))) (ρk := [(0, _), (3, _)]) ⟨rfl, rfl, trivial⟩ ?_ ?_
    ·
     refine wc_region ?_
     refine ym rfl rfl ?_
     refine ym rfl rfl ?_
     refine rl_y (y_index_e rfl Tryz.s22 rfl rfl (by assumption) (by first | rfl | omega) (by omega)) rfl ?_
     refine rl_y (y_field_e rfl Tryz.f56' rfl (by decide) rfl) rfl ?_
     refine rl_y (y_load_el rfl Tryz.k9 rfl (by assumption) (by omega) (by assumption) (vs := [_]) rfl rfl rfl rfl) rfl ?_
     refine rl_y (y_len_str rfl rfl Tryz.str9 rfl) rfl ?_
     refine rl_y (y_gtr rfl rfl rfl) rfl ?_
     refine ym rfl rfl ?_
     rcases Bool.eq_false_or_eq_true (decide ((100 : Int) < (ps[i]).1.length)) with hg6_7 | hg6_7
     ·
      simp only [hg6_7]
      refine rl_off rfl rfl rfl rfl ?_
      refine rl_off rfl rfl rfl rfl ?_
      refine rl_off rfl rfl rfl rfl ?_
      refine rl_off rfl rfl rfl rfl ?_
      refine rl_off rfl rfl rfl rfl ?_
      refine rl_off rfl rfl rfl rfl ?_
      refine rl_off rfl rfl rfl rfl ?_
      refine rl_y (y_pick_t rfl rfl rfl) rfl ?_
      exact cutB_end rfl ⟨rfl, rfl, trivial⟩ (by (first | refine (decide_eq_true ?_).symm | refine (decide_eq_false ?_).symm | refine decide_eq_decide.2 ?_ | refine decide_eq_true ?_ | refine decide_eq_false ?_) <;> (try unfold longN) <;> (try simp only [decide_eq_true_eq, decide_eq_false_iff_not] at *) <;> omega)
     ·
      simp only [hg6_7]
      refine rl_on rfl rfl ?_
      refine ym rfl rfl ?_
      refine rl_on rfl rfl ?_
      refine ym rfl rfl ?_
      refine rl_on rfl rfl ?_
      refine rl_y (y_index_e rfl Tryz.s22 rfl rfl (by assumption) (by first | rfl | omega) (by omega)) rfl ?_
      refine rl_on rfl rfl ?_
      refine rl_y (y_field_e rfl Tryz.f56' rfl (by decide) rfl) rfl ?_
      refine rl_on rfl rfl ?_
      refine rl_y (y_load_el rfl Tryz.k9 rfl (by assumption) (by omega) (by assumption) (vs := [_]) rfl rfl rfl rfl) rfl ?_
      refine rl_on rfl rfl ?_
      refine rl_y (y_len_str rfl rfl Tryz.str9 rfl) rfl ?_
      refine rl_on rfl rfl ?_
      refine rl_y (y_gtr rfl rfl rfl) rfl ?_
      refine rl_y (y_pick_f rfl rfl rfl) rfl ?_
      exact cutB_end rfl ⟨rfl, rfl, trivial⟩ (by (first | refine (decide_eq_true ?_).symm | refine (decide_eq_false ?_).symm | refine decide_eq_decide.2 ?_ | refine decide_eq_true ?_ | refine decide_eq_false ?_) <;> (try unfold longN) <;> (try simp only [decide_eq_true_eq, decide_eq_false_iff_not] at *) <;> omega)
    refine q_then ?_
    refine wc_cond rfl (fun hb6 => ?_) (fun hb6 => ?_)
    ·
     refine wc_seq ?_
     refine wc_region ?_
     refine ya rfl rfl ?_
     refine rl_end (ρ' := [(2, _)]) ⟨rfl, trivial⟩ ?_
     refine q_then ?_
     refine wc_ret ?_
     refine q_block_ret ?_
     refine q_then_ret ?_
     refine q_then_ret ?_
     refine q_block_ret ?_
     refine q_then_ret ?_
     refine fin1 (.tmp rfl) ?_
     unfold fewB; rw [decide_eq_false]; intro h; exact of_decide_eq_true hb6 (h.2 _ (List.mem_of_getElem? hg))
    ·
     refine wc_skip ?_
     refine q_block ?_
     refine q_then ?_
     refine wc_region ?_
     refine ym rfl rfl ?_
     refine rl_y (y_add rfl rfl rfl (wrap64_id (by omega))) rfl ?_
     refine ya rfl rfl ?_
     refine rl_end (ρ' := [(0, _), (3, _)]) ⟨rfl, rfl, trivial⟩ ?_
     refine q_thenK ?_
     refine ⟨m - 1, [(0, _), (3, _)], [], by omega, ⟨rfl, rfl, trivial⟩, trivial, i + 1, by omega, hle4, (by first | rfl | simp), (by first | rfl | (simp only [List.cons.injEq, Prod.mk.injEq, SV.v.injEq, Value.int.injEq, true_and, and_true]; omega) | simp), ?_⟩
     have h6 := Decidable.of_not_not (of_decide_eq_false hb6); refine ⟨rfl, fun p hp => ?_⟩; rcases mem_take_succ hg hp with hs | rfl; exact hinv p hs; exact h6
   ·
    have hge := of_decide_eq_false hb4
    have h1 := of_decide_eq_false hb1
    rw [List.take_of_length_le (by omega)] at hinv
    refine wc_exit ?_
    refine q_then_exit ?_
    refine q_then_exit ?_
    refine q_block_hit ?_
    refine q_then ?_
    refine wc_seq ?_
    refine wc_region ?_
    refine ya rfl rfl ?_
    refine rl_end (ρ' := [(2, _)]) ⟨rfl, trivial⟩ ?_
    refine q_then ?_
    refine wc_ret ?_
    refine fin1 (.tmp rfl) ?_
    unfold fewB; rw [decide_eq_true]; exact ⟨by omega, hinv⟩
theorem ResR.norm {u : View} {mts : List (Bs × Bs)} {lang : Bs} {ps : List (Bs × Bs)} {bs : List Blk} {r : Value} (h : ResR u mts lang ps bs r) : ∃ pad pcap bad bcap, r = .tuple #[.agg #[.slice pad (if resErr lang bs = 0 then mts else []).length pcap, .slice bad (if resErr lang bs = 0 then resDoc lang ps bs else []).length bcap], .int .i64 (resErr lang bs)] ∧ PrS u (.slice pad (if resErr lang bs = 0 then mts else []).length pcap) (if resErr lang bs = 0 then mts else []) ∧ BlkS u (.slice bad (if resErr lang bs = 0 then resDoc lang ps bs else []).length bcap) (if resErr lang bs = 0 then resDoc lang ps bs else []) := by
 rcases h with ⟨h, vm, vb, rfl, h1, h2⟩ | ⟨h, rfl⟩
 ·
  rw [if_pos h, if_pos h]
  have h3 := h1
  have h4 := h2
  obtain ⟨pad, pcap, rfl, _⟩ := h3
  obtain ⟨_, ⟨bad, bcap, rfl, _⟩, _⟩ := h4
  exact ⟨pad, pcap, bad, bcap, by rw [h], h1, h2⟩
 ·
  rw [if_neg h, if_neg h]
  exact ⟨none, 0, none, 0, rfl, nilPr _, nilBlk _⟩
theorem labelResolves_fn (d : DDoc) (vm vb : Value) (lang : Bs) (vp : Value) (ps : List (Bs × Bs)) (u : View) (hT : TabU u) (hm : PrS u vm d.mts) (hb : BlkS u vb d.blocks) (hok : DocOk d) (hp : PrS u vp ps) (hpok : PrOk ps) :
  FnP Tryz.prog 3 [.agg #[vm, vb], str lang, vp] u fun r _ => r = .bool true := by
 have hrl := rebB_len (fun _ => true) (resI (refT (numsOf d.blocks) d.blocks lang ps)) d.blocks
 have hrl2 : (if resErr lang d.blocks = 0 then resDoc lang ps d.blocks else []).length ≤ d.blocks.length := by
  split
  ·
   exact hrl
  ·
   simp
 have hml2 : (if resErr lang d.blocks = 0 then d.mts else []).length ≤ d.mts.length := by split <;> simp
 have hsl := len_szB d.blocks
 refine FnP.intro [.tmp 6] Tryz.func3 rfl rfl rfl ?_
 intro w0 D hw0
 refine wc_seq ?_
 refine wc_region ?_
 refine rl_do rfl rfl ?_
 refine do_box trivial rfl (cs := [_, _]) rfl rfl rfl rfl ?_
 refine ya rfl rfl ?_
 refine rl_end (ρ' := [(1, _), (2, _), (3, _)]) ⟨rfl, rfl, rfl, trivial⟩ ?_
 refine q_then ?_
 refine wc_seq ?_
 refine wc_seq ?_
 refine wc_region ?_
 refine rl_y (y_load_p rfl Tryz.k25 rfl rfl rfl (vs := [_, _]) rfl rfl rfl) rfl ?_
 refine rl_do rfl rfl ?_
 refine do_call_f (caps := []) trivial rfl rfl Tryz.c6 rfl (FnP.mono (small_fn d vm vb u hm hb hok) ?_)
 rintro v u1 hle1 ⟨b, rfl, hsm⟩
 refine rl_y (y_not rfl rfl) rfl ?_
 refine ym rfl rfl ?_
 rcases Bool.eq_false_or_eq_true (!b) with hg1_3 | hg1_3
 ·
  simp only [hg1_3]
  refine rl_off rfl rfl rfl rfl ?_
  refine rl_off rfl rfl rfl rfl ?_
  refine rl_off rfl rfl rfl rfl ?_
  refine rl_y (y_pick_t rfl rfl rfl) rfl ?_
  refine rl_end (ρ' := [(1, _), (2, _), (3, _), (18, _)]) ⟨rfl, rfl, rfl, rfl, trivial⟩ ?_
  refine q_then ?_
  refine wc_cond_t rfl (rfl) ?_
  refine wc_seq ?_
  refine wc_region ?_
  refine rl_do rfl rfl ?_
  refine do_call_f (caps := []) trivial rfl rfl Tryz.c8 rfl (FnP.mono (lawawake_fn u hT) ?_)
  rintro v u1 hle1 rfl
  refine ya rfl rfl ?_
  refine rl_end (ρ' := [(6, _)]) ⟨rfl, trivial⟩ ?_
  refine q_then ?_
  refine wc_ret ?_
  refine q_then_ret ?_
  refine fin1 (.tmp rfl) ?_
  rfl
 ·
  simp only [hg1_3]
  refine rl_on rfl rfl ?_
  refine ym rfl rfl ?_
  refine rl_on rfl rfl ?_
  refine rl_do rfl rfl ?_
  refine do_call_f (caps := []) trivial rfl rfl Tryz.c7 rfl (FnP.mono (few_fn vp ps hpok u hp) ?_)
  rintro v u1 hle1 rfl
  refine rl_on rfl rfl ?_
  refine rl_y (y_not rfl rfl) rfl ?_
  refine rl_y (y_pick_f rfl rfl rfl) rfl ?_
  refine rl_end (ρ' := [(1, _), (2, _), (3, _), (18, _)]) ⟨rfl, rfl, rfl, rfl, trivial⟩ ?_
  refine q_then ?_
  refine wc_cond rfl (fun hb2 => ?_) (fun hb2 => ?_)
  ·
   refine wc_seq ?_
   refine wc_region ?_
   refine rl_do rfl rfl ?_
   refine do_call_f (caps := []) trivial rfl rfl Tryz.c8 rfl (FnP.mono (lawawake_fn u hT) ?_)
   rintro v u1 hle1 rfl
   refine ya rfl rfl ?_
   refine rl_end (ρ' := [(6, _)]) ⟨rfl, trivial⟩ ?_
   refine q_then ?_
   refine wc_ret ?_
   refine q_then_ret ?_
   refine fin1 (.tmp rfl) ?_
   rfl
  ·
   refine wc_skip ?_
   refine q_then ?_
   refine wc_seq ?_
   have hbt : b = true := by cases b <;> simp_all
   have hft : fewB ps = true := by cases b <;> simp_all
   obtain ⟨hml, _, hsz, hsm⟩ := hsm hbt
   obtain ⟨hpl, hpv⟩ := of_decide_eq_true hft
   have hpv2 : ∀ p ∈ ps, p.2.length ≤ 100000 := fun p hp => by have := (hpv p hp).2; omega
   refine wc_region ?_
   refine rl_y (y_load_p rfl Tryz.k25 rfl rfl rfl (vs := [_, _]) rfl rfl rfl) rfl ?_
   refine ym rfl rfl ?_
   refine ym rfl rfl ?_
   refine rl_do rfl rfl ?_
   refine do_call (caps := []) trivial rfl rfl Tryz.c9 rfl (FnP.mono (labResolve_fn vm vb vp d.mts lang d.blocks ps u hT (by omega) hsm (by omega) (by omega) hpv2 hm hb hp) ?_)
   rintro v uA hle0 hR1 hleA
   obtain ⟨pad, pcap, bad, bcap, rfl, hp1, hb1⟩ := hR1.norm
   refine ym rfl rfl ?_
   refine rl_y (y_extract rfl rfl rfl) rfl ?_
   refine rl_y (y_extract rfl rfl rfl) rfl ?_
   refine rl_do rfl rfl ?_
   refine do_alloc trivial Tryz.z25 rfl rfl rfl ?_
   refine rl_do rfl rfl ?_
   refine do_store_p trivial rfl Tryz.k25 rfl rfl rfl (vs := [_, _]) rfl rfl (by first | rfl | assumption | simp [Value.oneCell', str]) (Nat.le_of_ble_eq_true rfl) rfl ?_
   refine ya rfl rfl ?_
   refine rl_end (ρ' := [(1, _), (2, _), (3, _), (7, _), (8, _)]) ⟨rfl, rfl, rfl, rfl, rfl, trivial⟩ ?_
   refine q_then ?_
   refine wc_seq ?_
   refine wc_region ?_
   refine rl_y (y_load_p rfl Tryz.k25 rfl rfl rfl (vs := [_, _]) rfl rfl rfl) rfl ?_
   refine ym rfl rfl ?_
   refine ym rfl rfl ?_
   refine rl_do rfl rfl ?_
   refine do_call (caps := []) trivial rfl rfl Tryz.c10 rfl (FnP.mono (refResolve_fn vm vb vp d.mts lang d.blocks ps uA (by omega) hsm (by omega) hpv2 (hm.mono hleA) (hb.mono hleA) (hp.mono hleA)) ?_)
   rintro v uB hle0 hR2 hleB
   obtain ⟨pad2, pcap2, bad2, bcap2, rfl, hp2, hb2⟩ := hR2.norm
   refine ym rfl rfl ?_
   refine rl_y (y_extract rfl rfl rfl) rfl ?_
   refine rl_y (y_extract rfl rfl rfl) rfl ?_
   refine rl_do rfl rfl ?_
   refine do_alloc trivial Tryz.z25 rfl rfl rfl ?_
   refine rl_do rfl rfl ?_
   refine do_store_p trivial rfl Tryz.k25 rfl rfl rfl (vs := [_, _]) rfl rfl (by first | rfl | assumption | simp [Value.oneCell', str]) (Nat.le_of_ble_eq_true rfl) rfl ?_
   refine ya rfl rfl ?_
   refine rl_end (ρ' := [(7, _), (8, _), (9, _), (10, _)]) ⟨rfl, rfl, rfl, rfl, trivial⟩ ?_
   refine q_then ?_
   refine wc_seq ?_
   refine wc_region ?_
   refine rl_y (y_load_p rfl Tryz.k25 rfl rfl rfl (vs := [_, _]) rfl rfl rfl) rfl ?_
   refine rl_y (y_load_p rfl Tryz.k25 rfl rfl rfl (vs := [_, _]) rfl rfl rfl) rfl ?_
   refine rl_do rfl rfl ?_
   refine do_call_f (caps := []) trivial rfl rfl Tryz.c11 rfl (FnP.mono (same_fn _ _ _ _ _ _ (by omega) (by omega) uB (hp1.mono hleB) hp2 (hb1.mono hleB) hb2) ?_)
   rintro v u1 hle1 rfl
   refine ym rfl rfl ?_
   refine rl_on rfl rfl ?_
   refine ym rfl rfl ?_
   refine rl_on rfl rfl ?_
   refine ym rfl rfl ?_
   refine rl_on rfl rfl ?_
   refine rl_y (y_eql_refl rfl rfl rfl) rfl ?_
   refine rl_y (y_pick_t rfl rfl rfl) rfl ?_
   refine ym rfl rfl ?_
   refine rl_on rfl rfl ?_
   refine rl_do rfl rfl ?_
   refine do_call_f (caps := []) trivial rfl rfl Tryz.c8 rfl (FnP.mono (lawawake_fn uB ((hT.mono hleA).mono hleB)) ?_)
   rintro v u1 hle1 rfl
   refine rl_y (y_pick_t rfl rfl rfl) rfl ?_
   refine ya rfl rfl ?_
   refine rl_end (ρ' := [(6, _)]) ⟨rfl, trivial⟩ ?_
   refine q_then ?_
   refine wc_ret ?_
   refine fin1 (.tmp rfl) ?_
   rfl
set_option linter.unusedSimpArgs false
set_option linter.unusedVariables false
def docT : DocTys Tryz.prog where
 int := 3
 bool := 4
 s := 9
 ss := 37
 pair := 56
 pairs := 22
 cite := 124
 cites := 40
 attr := 39
 inl := 42
 inls := 35
 blk := 59
 blks := 23
 hint := by kernel_rfl
 hbool := by kernel_rfl
 hs := by kernel_rfl
 hss := by kernel_rfl
 hpairs := by kernel_rfl
 hcites := by kernel_rfl
 hinls := by kernel_rfl
 hblks := by kernel_rfl
 hpair := ⟨Tryz.prog.fieldsOf 56, by kernel_rfl, by kernel_rfl⟩
 hcite := ⟨Tryz.prog.fieldsOf 124, by kernel_rfl, by kernel_rfl⟩
 hattr := ⟨Tryz.prog.fieldsOf 39, by kernel_rfl, by kernel_rfl⟩
 hinl := ⟨Tryz.prog.fieldsOf 42, by kernel_rfl, by kernel_rfl⟩
 hblk := ⟨Tryz.prog.fieldsOf 59, by kernel_rfl, by kernel_rfl⟩
 cint := by kernel_rfl
 cbool := by kernel_rfl
 cs := by kernel_rfl
 css := by kernel_rfl
 cpairs := by kernel_rfl
 ccites := by kernel_rfl
 cinls := by kernel_rfl
 cblks := by kernel_rfl
 cpair := by kernel_rfl
 ccite := by kernel_rfl
 cattr := by kernel_rfl
 cinl := by kernel_rfl
 cblk := by kernel_rfl
 ys := of_decide_eq_true (by kernel_rfl)
 ypair := of_decide_eq_true (by kernel_rfl)
 ycite := of_decide_eq_true (by kernel_rfl)
 yinl := of_decide_eq_true (by kernel_rfl)
 yblk := of_decide_eq_true (by kernel_rfl)
theorem docFl : FldsAre Tryz.prog 25 [(0, docT.pairs), (1, docT.blks)] := ⟨Tryz.prog.fieldsOf 25, by kernel_rfl, by kernel_rfl⟩
end Go.Proofs.Ythkgcakpjknlbaa
namespace Go.Eng
open Go Go.RowKit
open Go.ChangeShapes Go.WideShapes
set_option linter.unusedSimpArgs false
set_option linter.unusedVariables false
theorem laidMet_tail {P : Program} {x : String × DataW Unit} {r : List (String × DataW Unit)} {W : World} (h : laidMet P (x :: r) W) : laidMet P r W := by
 obtain ⟨ps, ⟨g, t, cs, fuel, p, q, _, _, _, _, hq, rfl⟩, hnd, hc⟩ := h
 exact ⟨q, hq, (List.nodup_append.1 hnd).2.1, fun b off hm => hc b off (List.mem_append_right _ hm)⟩
theorem wok_of {H : Type} {P : Program} {ts : List TypeId} {ds : List (DataW H)} (h : (DataW.weightsEach P ts ds).all (· ≤ reachBytes) = true) (i : Nat) {t : TypeId} {d : DataW H} (ht : ts[i]? = some t) (hd : ds[i]? = some d) : WOk P t d := by
 intro n hn
 have := List.all_eq_true.1 h n (weightsEach_mem ht hd hn)
 have h2 := of_decide_eq_true this
 unfold reachBytes at h2
 omega
def litCell : DataW Unit → Value
 | .lit (.int k n) => .int k n
 | _ => undef
def datCells : DataW Unit → Array Value
 | .agg l => (l.map litCell).toArray
 | _ => #[]
section
variable {H : Type} {enc : TypeId × Value → H} {P : Program} {w : World} {base b0 : Nat} {spare : Nat → Bool} {held : Bool} {r : Reach}
theorem open_docV (T : DocTys P) {t : TypeId} {v : Value} {d : DataW H} {ps : List MemPlace} (ht : FldsAre P t [(0, T.pairs), (1, T.blks)]) (hc : P.cellsOf t = 2) (hw : WOk P t d) (hval : Value.okWide P w r b0 t v) (hd : DataW.Trod enc P w base spare held t v d ps) :
  ∃ (d : DDoc) (vm vb : Value), v = .agg #[vm, vb] ∧ PrS (wview w) vm d.mts ∧ BlkS (wview w) vb d.blocks ∧ DocOk d := by
 obtain ⟨fs, hu, _⟩ := id ht
 unfold Value.okWide at hval
 rw [hu] at hval
 obtain ⟨cs, rfl, hsz, _⟩ := hval
 obtain ⟨fuel, hf⟩ := hd
 obtain ⟨d, vm, vb, h1, h2⟩ := open_doc T ht hc hw hf
 refine ⟨d, vm, vb, ?_, h2⟩
 have h3 : cs.toList = [vm, vb] := h1
 have : cs = #[vm, vb] := by
  cases cs
  simpa using h3
 rw [this]
theorem open_prsV (T : DocTys P) {v : Value} {d : DataW H} {ps : List MemPlace} (hu : P.underlying T.pairs = some (.slice T.pair)) (hw : WOk P T.pairs d) (hval : Value.okWide P w r b0 T.pairs v) (hd : DataW.Trod enc P w base spare held T.pairs v d ps) :
  ∃ xs : List (Bs × Bs), PrS (wview w) v xs ∧ PrOk xs := by
 obtain ⟨fuel, h⟩ := hd
 have hcells : ∃ y, v.cells.toList = [y] ∧ v = y := by
  obtain ⟨ad, n, c, rfl⟩ := okWide_slice hu hval
  exact ⟨_, rfl, rfl⟩
 obtain ⟨y, hy1, rfl⟩ := hcells
 rw [hy1] at h
 exact open_prs2 T hw h
theorem open_str {t : TypeId} {v : Value} {d : DataW H} {ps : List MemPlace} (ht : P.underlying t = some .string) (hval : Value.okWide P w r b0 t v) (hd : DataW.Trod enc P w base spare held t v d ps) :
  ∃ l : List UInt8, v = str l ∧ l.length ≤ maxLen := by
 obtain ⟨s, rfl, _, _, hs⟩ := Go.ChangeMaps.open_string ht hval hd
 refine ⟨s.data.toList, ?_, (show s.data.toList.length = s.size from Array.length_toList) ▸ hs⟩
 cases s
 rfl
end
end Go.Eng
namespace Go.Proofs.Ythkgcakpjknlbaa
open Go Go.Eng
theorem tabU_of {W : World} (h : Lib.TabIs Tryz.prog W "internal/strconv.uint64pow10" .u64 Lib.pow10Tab) : TabU (wview W) := by
 unfold Lib.TabIs World.var? at h
 rw [gTab] at h
 unfold TabU wview
 cases hg : W.heap[0]? with
 | none => simp [hg] at h
 | some o =>
  cases o with
  | cells c T fr =>
   simp [hg] at h
   exact ⟨T, fr, by rw [h]⟩
  | _ => simp [hg] at h
end Go.Proofs.Ythkgcakpjknlbaa
