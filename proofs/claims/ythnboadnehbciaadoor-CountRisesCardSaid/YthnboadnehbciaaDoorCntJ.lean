/- Count: the reference's numbers. -/
import Derived.Test.YthnboadnehbciaaDoorCntI
namespace Go.Proofs.Ythnboadnehbciaa
open Go Go.Eng
set_option linter.unusedSimpArgs false
set_option linter.unusedVariables false
set_option maxRecDepth 4000

def cs0 : Cs := ⟨fun _ => 0, fun _ => 0, []⟩
/-- the numbers of notes -/
def noteNums (l : List Bs) : List DNum := (List.range l.length).map fun i => ⟨l.getD i [], notS, dec (i + 1), []⟩
def noteNumsTo (l : List Bs) (i : Nat) : List DNum := (List.range i).map fun i => ⟨l.getD i [], notS, dec (i + 1), []⟩
theorem noteNumsTo_succ (l : List Bs) (i : Nat) : noteNumsTo l (i + 1) = noteNumsTo l i ++ [⟨l.getD i [], notS, dec (i + 1), []⟩] := by simp [noteNumsTo, List.range_succ]
theorem noteNumsTo_len (l : List Bs) (i : Nat) : (noteNumsTo l i).length = i := by simp [noteNumsTo]
/-- the numbers of a document -/
def numsOf (bs : List Blk) : List DNum := (numbB true cs0 bs).out ++ noteNums (notesOf bs)
theorem cs0_le : CsLe 0 cs0 := ⟨fun _ => Nat.le_refl _, fun _ => Nat.le_refl _, Nat.le_refl _⟩
theorem notesOf_len (bs : List Blk) : (notesOf bs).length ≤ szB bs := by
  have h1 := notesIn_len (noteNames (listB bs)) (inls (listB bs))
  have h2 := inls_len (listB bs)
  have h3 := szL_listB bs
  unfold notesOf
  omega

set_option maxHeartbeats 2000000 in
theorem refNumbers_fn (vm vb : Value) (bs : List Blk) (u : View) (hbig : szB bs ≤ 10000) (ha : BlkS u vb bs) :
    FnP Tryd.prog 13 [.agg #[vm, vb]] u fun r u' => NumS u' r (numsOf bs) := by
  have hle := numbB_le (free := true) bs 0 cs0 cs0_le
  have hlo := hle.2.2
  have hnl := notesOf_len bs
  refine FnP.intro [.tmp 2] Tryd.func13 rfl rfl rfl ?_
  intro w0 D hw0
  refine wc_seq ?_
  refine wc_region ?_
  refine rl_do rfl rfl ?_
  refine do_box trivial rfl (cs := [_, _]) rfl rfl rfl rfl ?_
  refine rl_y (y_assign rfl rfl) rfl ?_
  refine rl_end (ρ' := [(1, _)]) ⟨rfl, trivial⟩ ?_
  refine q_then ?_
  refine wc_seq ?_
  refine wc_region ?_
  refine rl_y (y_field_p rfl Tryd.f25' rfl (by decide) rfl) rfl ?_
  refine rl_y (y_load_p rfl Tryd.k23 rfl rfl rfl (vs := [_]) rfl rfl rfl) rfl ?_
  refine rl_y (y_build rfl Tryd.f72' Tryd.z72 (ps := []) rfl (vs := [_, _, _, _, _, _, _, _, _, _, _, _]) rfl) rfl ?_
  refine rl_nilW 600 38 4 rfl rfl ?_
  refine rl_do rfl rfl ?_
  refine do_call_o (caps := []) (ρ' := [(1, _)]) [600] [] trivial rfl rfl rfl Tryd.c34 rfl rfl ⟨rfl, trivial⟩ rfl rfl rfl (FnO.mono (numbered_fn (szB bs) vb bs true cs0 none 0 [] 0 u (Nat.le_refl _) (by omega) cs0_le ha rfl) ?_)
  rintro v u1 l1 hle1 ⟨a1, c1, l1, rfl, rfl, hn1⟩ -
  refine ⟨⟨fun _ h => h, trivial⟩, ?_⟩
  refine rl_do rfl rfl ?_
  refine do_alloc trivial Tryd.z72 rfl rfl rfl ?_
  refine rl_do rfl rfl ?_
  refine do_store_p trivial rfl Tryd.k72 rfl rfl rfl (vs := csV _ (.slice _ _ _)) rfl rfl rfl (Nat.le_of_ble_eq_true rfl) (cs' := csV (numbB true cs0 bs) (.slice a1 (numbB true cs0 bs).out.length c1)) rfl ?_
  refine rl_end (ρ' := [(1, _), (3, _)]) ⟨rfl, rfl, trivial⟩ ?_
  refine q_then ?_
  refine wc_seq ?_
  refine wc_region ?_
  refine rl_y (y_load_p rfl Tryd.k25 rfl rfl rfl (vs := [_, _]) rfl rfl rfl) rfl ?_
  refine rl_do rfl rfl ?_
  refine do_call (caps := []) trivial rfl rfl Tryd.c16 rfl (FnP.mono (refNotes_fn vm vb bs u1 (by omega) (ha.mono hle1)) ?_)
  rintro v uN hle0 ⟨nad, ncap, rfl, hns⟩ hleN
  refine rl_y (y_assign rfl rfl) rfl ?_
  refine rl_end (ρ' := [(3, _), (4, _)]) ⟨rfl, rfl, trivial⟩ ?_
  refine q_then ?_
  refine wc_seq ?_
  refine wc_seq ?_
  refine wc_region ?_
  refine rl_y (y_assign rfl rfl) rfl ?_
  refine rl_end (ρ' := [(3, _), (4, _), (5, _)]) ⟨rfl, rfl, rfl, trivial⟩ ?_
  refine q_then ?_
  refine wc_block ?_
  refine wc_loop (fun m ρ σ u' => ∃ i : Nat, i + m = (notesOf bs).length ∧ VLe uN u' ∧ ∃ (ai : Option Addr) (ci : Nat) (li : List Value), σ = [(3, (none, .box (csV (numbB true cs0 bs) (.slice ai ((numbB true cs0 bs).out.length + i) ci)))), (600, (none, .rwv (.slice ai ((numbB true cs0 bs).out.length + i) ci) 38 4 ((numbB true cs0 bs).out.length + i) li))] ∧ ρ = [(3, .p 3 0), (4, .v (.slice nad (notesOf bs).length ncap)), (5, .v (.int .i64 i))] ∧ (uN = u' ∧ NumsC uN ((numbB true cs0 bs).out ++ noteNumsTo (notesOf bs) i) li)) ((notesOf bs).length) ?_ ?_
  ·
    refine ⟨[(3, _), (4, _), (5, _)], [(3, _), (600, _)], ⟨rfl, rfl, rfl, trivial⟩, ⟨rfl, rfl, trivial⟩, 0, by omega, VLe.refl _, a1, c1, l1, (by first | rfl | simp), (by first | rfl | (simp only [List.cons.injEq, Prod.mk.injEq, SV.v.injEq, Value.int.injEq, true_and, and_true]; omega) | simp), ?_⟩
    exact ⟨rfl, by simpa [noteNumsTo] using hn1.mono hleN⟩
  ·
    rintro m ρ σ u' ⟨i, hi4, hle4, ai, ci, li, rfl, rfl, ⟨rfl, hli⟩⟩
    refine wc_seq ?_
    refine wc_seq ?_
    refine wc_region ?_
    refine rl_y (y_move rfl rfl) rfl ?_
    refine rl_y (y_move rfl rfl) rfl ?_
    refine rl_y (y_len_v rfl rfl Tryd.s32 rfl) rfl ?_
    refine rl_y (y_lss rfl rfl rfl) rfl ?_
    refine rl_end (ρ' := [(3, _), (4, _), (5, _), (15, _)]) ⟨rfl, rfl, rfl, rfl, trivial⟩ ?_
    refine q_then ?_
    refine wc_cond rfl (fun hb4 => ?_) (fun hb4 => ?_)
    ·
      refine wc_skip ?_
      refine q_then ?_
      refine wc_seq ?_
      refine wc_block ?_
      have hlt : i < (notesOf bs).length := by have := of_decide_eq_true hb4; omega
      have hg := List.getElem?_eq_getElem hlt
      have hcut := cut_strsC hg
      refine wc_draw Tryd.mixed rfl [] trivial ?_
      refine ra_y (i := 0) rfl (by kernel_rfl) (by kernel_rfl) (by kernel_rfl) (np_block (np_then (np_then (np_block (np_then (np_fin)))))) (y_field_p rfl Tryd.f72' rfl (by decide) rfl) rfl ?_
      refine ra_y (i := 2) rfl (by kernel_rfl) (by kernel_rfl) (by kernel_rfl) (np_block (np_then (np_then (np_block (np_then (np_fin)))))) (y_move rfl rfl) rfl ?_
      refine ra_y (i := 3) rfl (by kernel_rfl) (by kernel_rfl) (by kernel_rfl) (np_block (np_then (np_then (np_block (np_then (np_fin)))))) (y_move rfl rfl) rfl ?_
      refine ra_y (i := 4) rfl (by kernel_rfl) (by kernel_rfl) (by kernel_rfl) (np_block (np_then (np_then (np_block (np_then (np_fin)))))) (y_index_e rfl Tryd.s32 rfl rfl (by assumption) (by first | rfl | omega) (by omega)) rfl ?_
      refine ra_y (i := 5) rfl (by kernel_rfl) (by kernel_rfl) (by kernel_rfl) (np_block (np_then (np_then (np_block (np_then (np_fin)))))) (y_load_el rfl Tryd.k9 rfl (by assumption) (by omega) (by assumption) (vs := [_]) rfl rfl rfl rfl) rfl ?_
      refine ra_y (i := 6) rfl (by kernel_rfl) (by kernel_rfl) (by kernel_rfl) (np_block (np_then (np_then (np_block (np_then (np_fin)))))) (y_move rfl rfl) rfl ?_
      refine ra_y (i := 7) rfl (by kernel_rfl) (by kernel_rfl) (by kernel_rfl) (np_block (np_then (np_then (np_block (np_then (np_fin)))))) (y_add rfl rfl rfl (wrap64_id (by omega))) rfl ?_
      refine ra_all (is := [1, 8]) (by kernel_rfl) rfl ?_
      refine raall_cons rfl rfl ?_ ?_
      ·
        refine do_y (y_load_p rfl Tryd.k29 rfl rfl rfl (vs := [_]) rfl rfl rfl) rfl ?_
        refine ra_do (i := 8) rfl rfl (by kernel_rfl) ?_
        refine do_call_f (caps := []) trivial rfl rfl Tryd.c35 rfl (FnP.mono (num_fn (i + 1) (by omega) uN) ?_)
        rintro v u1 hle1 rfl
        refine ra_y (i := 9) rfl (by kernel_rfl) (by kernel_rfl) (by kernel_rfl) (np_block (np_then (np_then (np_block (np_then (np_fin)))))) (y_build rfl Tryd.f38' Tryd.z38 (ps := [(_, _), (_, _), (_, _)]) rfl (vs := [_, _, _, _]) rfl) rfl ?_
        refine ra_do (i := 10) rfl rfl (by kernel_rfl) ?_
        refine do_buildSlice trivial Tryd.s29 Tryd.z38 (ps := [(_, _)]) rfl (xs := [_, _, _, _]) rfl rfl rfl rfl rfl rfl rfl ?_
        refine ra_do (i := 11) rfl rfl (by kernel_rfl) ?_
        refine do_append_w_s 600 trivial rfl rfl Tryd.s29 Tryd.z38 rfl rfl rfl rfl rfl rfl (by simp [Value.oneCell', str]) (by omega) (by omega) rfl rfl ?_
        intro a2 c2
        refine ra_y (i := 12) rfl (by kernel_rfl) (by kernel_rfl) (by kernel_rfl) (np_block (np_then (np_then (np_block (np_then (np_fin)))))) (y_field_p rfl Tryd.f72' rfl (by decide) rfl) rfl ?_
        refine ra_do (i := 13) rfl rfl (by kernel_rfl) ?_
        refine do_store_p trivial rfl Tryd.k29 rfl rfl rfl (vs := [_]) rfl rfl (by first | rfl | exact oneAll | exact oneAll2 | simp [Value.oneCell', str]) (Nat.le_of_ble_eq_true rfl) rfl ?_
        refine ra_end (by kernel_rfl) (ρ' := [(3, _), (4, _), (5, _)]) ⟨rfl, rfl, rfl, trivial⟩ ?_
        refine q_block ?_
        refine q_then ?_
        refine wc_region ?_
        refine rl_y (y_move rfl rfl) rfl ?_
        refine rl_y (y_add rfl rfl rfl (wrap64_id (by omega))) rfl ?_
        refine rl_y (y_assign rfl rfl) rfl ?_
        refine rl_end (ρ' := [(3, _), (4, _), (5, _)]) ⟨rfl, rfl, rfl, trivial⟩ ?_
        refine q_thenK ?_
        refine ⟨m - 1, [(3, _), (4, _), (5, _)], [(3, _), (600, _)], by omega, ⟨rfl, rfl, rfl, trivial⟩, ⟨rfl, rfl, trivial⟩, i + 1, by omega, hle4, a2, c2, li ++ [str (notesOf bs)[i], str notS, str (dec (i + 1)), .slice none 0 0], (by first | rfl | simp), (by first | rfl | (simp only [List.cons.injEq, Prod.mk.injEq, SV.v.injEq, Value.int.injEq, true_and, and_true]; omega) | simp), ?_⟩
        refine ⟨rfl, ?_⟩
        rw [noteNumsTo_succ, ← List.append_assoc]
        refine hli.snoc ⟨_, ?_, nilInl _⟩
        simp [hlt]
      refine raall_cons rfl rfl ?_ ?_
      ·
        refine do_call_f (caps := []) trivial rfl rfl Tryd.c35 rfl (FnP.mono (num_fn (i + 1) (by omega) uN) ?_)
        rintro v u1 hle1 rfl
        refine ra_y (i := 9) rfl (by kernel_rfl) (by kernel_rfl) (by kernel_rfl) (np_block (np_then (np_then (np_block (np_then (np_fin)))))) (y_build rfl Tryd.f38' Tryd.z38 (ps := [(_, _), (_, _), (_, _)]) rfl (vs := [_, _, _, _]) rfl) rfl ?_
        refine ra_all (is := [1, 10]) (by kernel_rfl) rfl ?_
        refine raall_cons rfl rfl ?_ ?_
        ·
          refine do_y (y_load_p rfl Tryd.k29 rfl rfl rfl (vs := [_]) rfl rfl rfl) rfl ?_
          refine ra_do (i := 10) rfl rfl (by kernel_rfl) ?_
          refine do_buildSlice trivial Tryd.s29 Tryd.z38 (ps := [(_, _)]) rfl (xs := [_, _, _, _]) rfl rfl rfl rfl rfl rfl rfl ?_
          refine ra_do (i := 11) rfl rfl (by kernel_rfl) ?_
          refine do_append_w_s 600 trivial rfl rfl Tryd.s29 Tryd.z38 rfl rfl rfl rfl rfl rfl (by simp [Value.oneCell', str]) (by omega) (by omega) rfl rfl ?_
          intro a2 c2
          refine ra_y (i := 12) rfl (by kernel_rfl) (by kernel_rfl) (by kernel_rfl) (np_block (np_then (np_then (np_block (np_then (np_fin)))))) (y_field_p rfl Tryd.f72' rfl (by decide) rfl) rfl ?_
          refine ra_do (i := 13) rfl rfl (by kernel_rfl) ?_
          refine do_store_p trivial rfl Tryd.k29 rfl rfl rfl (vs := [_]) rfl rfl (by first | rfl | exact oneAll | exact oneAll2 | simp [Value.oneCell', str]) (Nat.le_of_ble_eq_true rfl) rfl ?_
          refine ra_end (by kernel_rfl) (ρ' := [(3, _), (4, _), (5, _)]) ⟨rfl, rfl, rfl, trivial⟩ ?_
          refine q_block ?_
          refine q_then ?_
          refine wc_region ?_
          refine rl_y (y_move rfl rfl) rfl ?_
          refine rl_y (y_add rfl rfl rfl (wrap64_id (by omega))) rfl ?_
          refine rl_y (y_assign rfl rfl) rfl ?_
          refine rl_end (ρ' := [(3, _), (4, _), (5, _)]) ⟨rfl, rfl, rfl, trivial⟩ ?_
          refine q_thenK ?_
          refine ⟨m - 1, [(3, _), (4, _), (5, _)], [(3, _), (600, _)], by omega, ⟨rfl, rfl, rfl, trivial⟩, ⟨rfl, rfl, trivial⟩, i + 1, by omega, hle4, a2, c2, li ++ [str (notesOf bs)[i], str notS, str (dec (i + 1)), .slice none 0 0], (by first | rfl | simp), (by first | rfl | (simp only [List.cons.injEq, Prod.mk.injEq, SV.v.injEq, Value.int.injEq, true_and, and_true]; omega) | simp), ?_⟩
          refine ⟨rfl, ?_⟩
          rw [noteNumsTo_succ, ← List.append_assoc]
          refine hli.snoc ⟨_, ?_, nilInl _⟩
          simp [hlt]
        refine raall_cons rfl rfl ?_ ?_
        ·
          refine do_buildSlice trivial Tryd.s29 Tryd.z38 (ps := [(_, _)]) rfl (xs := [_, _, _, _]) rfl rfl rfl rfl rfl rfl rfl ?_
          refine ra_do (i := 1) rfl rfl (by kernel_rfl) ?_
          refine do_y (y_load_p rfl Tryd.k29 rfl rfl rfl (vs := [_]) rfl rfl rfl) rfl ?_
          refine ra_do (i := 11) rfl rfl (by kernel_rfl) ?_
          refine do_append_w_s 600 trivial rfl rfl Tryd.s29 Tryd.z38 rfl rfl rfl rfl rfl rfl (by simp [Value.oneCell', str]) (by omega) (by omega) rfl rfl ?_
          intro a2 c2
          refine ra_y (i := 12) rfl (by kernel_rfl) (by kernel_rfl) (by kernel_rfl) (np_block (np_then (np_then (np_block (np_then (np_fin)))))) (y_field_p rfl Tryd.f72' rfl (by decide) rfl) rfl ?_
          refine ra_do (i := 13) rfl rfl (by kernel_rfl) ?_
          refine do_store_p trivial rfl Tryd.k29 rfl rfl rfl (vs := [_]) rfl rfl (by first | rfl | exact oneAll | exact oneAll2 | simp [Value.oneCell', str]) (Nat.le_of_ble_eq_true rfl) rfl ?_
          refine ra_end (by kernel_rfl) (ρ' := [(3, _), (4, _), (5, _)]) ⟨rfl, rfl, rfl, trivial⟩ ?_
          refine q_block ?_
          refine q_then ?_
          refine wc_region ?_
          refine rl_y (y_move rfl rfl) rfl ?_
          refine rl_y (y_add rfl rfl rfl (wrap64_id (by omega))) rfl ?_
          refine rl_y (y_assign rfl rfl) rfl ?_
          refine rl_end (ρ' := [(3, _), (4, _), (5, _)]) ⟨rfl, rfl, rfl, trivial⟩ ?_
          refine q_thenK ?_
          refine ⟨m - 1, [(3, _), (4, _), (5, _)], [(3, _), (600, _)], by omega, ⟨rfl, rfl, rfl, trivial⟩, ⟨rfl, rfl, trivial⟩, i + 1, by omega, hle4, a2, c2, li ++ [str (notesOf bs)[i], str notS, str (dec (i + 1)), .slice none 0 0], (by first | rfl | simp), (by first | rfl | (simp only [List.cons.injEq, Prod.mk.injEq, SV.v.injEq, Value.int.injEq, true_and, and_true]; omega) | simp), ?_⟩
          refine ⟨rfl, ?_⟩
          rw [noteNumsTo_succ, ← List.append_assoc]
          refine hli.snoc ⟨_, ?_, nilInl _⟩
          simp [hlt]
        exact raall_nil
      exact raall_nil
    ·
      refine wc_exit ?_
      refine q_then_exit ?_
      refine q_then_exit ?_
      refine q_block_hit ?_
      refine q_then ?_
      refine wc_seq ?_
      refine wc_region ?_
      refine rl_y (y_field_p rfl Tryd.f72' rfl (by decide) rfl) rfl ?_
      refine rl_y (y_load_p rfl Tryd.k29 rfl rfl rfl (vs := [_]) rfl rfl rfl) rfl ?_
      refine rl_y (y_assign rfl rfl) rfl ?_
      refine rl_freezeW 600 rfl ?_
      intro uF hleF hF
      refine rl_end (ρ' := [(2, _)]) ⟨rfl, trivial⟩ ?_
      refine q_then ?_
      refine wc_ret ?_
      refine fin1 (.tmp rfl) ?_
      have hge := of_decide_eq_false hb4
      have hin : i = (notesOf bs).length := by omega
      subst hin
      refine ⟨li, ?_, hli.mono hleF⟩
      rw [show (numsOf bs).length = (numbB true cs0 bs).out.length + (notesOf bs).length by simp [numsOf, noteNums]]
      exact hF
end Go.Proofs.Ythnboadnehbciaa
