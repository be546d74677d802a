/- Count: the law of levels. -/
import Derived.Test.YthnboadnehbciaaDoorCntW
namespace Go.Proofs.Ythnboadnehbciaa
open Go Go.Eng
set_option linter.unusedSimpArgs false
set_option linter.unusedVariables false
set_option maxRecDepth 4000

def u8C (xs : List Nat) : List Value := xs.map fun n : Nat => Value.int .u8 n
theorem cut_u8C {xs : List Nat} {i : Nat} {x : Nat} (h : xs[i]? = some x) : cut (u8C xs) (i * 1) 1 = [.int .u8 x] := by
  obtain ⟨hlt, rfl⟩ := List.getElem?_eq_some_iff.1 h
  unfold cut u8C
  rw [Nat.mul_one, List.drop_eq_getElem_cons (by simpa using hlt)]
  simp
def lvl (n : Nat) : Nat := 1 + n % 6
def hlB (n : Nat) : Blk := headB (1 + (n : Int) % 6)
def docL (ls : List Nat) : List Blk := ls.map hlB
theorem docL_sz : ∀ ls : List Nat, szB (docL ls) = 2 * ls.length
  | [] => rfl
  | n :: ls => by
    have := docL_sz ls
    simp only [docL, List.map_cons] at this ⊢
    simp only [szB, hlB, headB, szb, szI, textT, sz1, this, List.length_cons]
    omega
theorem docL_sm : ∀ ls : List Nat, smB (docL ls)
  | [] => by simp [docL, smB]
  | n :: ls => by
    have := docL_sm ls
    simp only [docL, List.map_cons] at this ⊢
    unfold smB
    refine ⟨?_, this⟩
    simp [hlB, headB, textT, smB1, smI, smI1, smB, NodeSm, longN, attr0]
theorem docL_names : ∀ ls : List Nat, noteNames (listB (docL ls)) = []
  | [] => rfl
  | n :: ls => by
    have := docL_names ls
    simp only [docL, List.map_cons] at this ⊢
    simp only [listB, hlB, headB, listb, List.nil_append, List.cons_append]
    unfold noteNames at this ⊢
    simp only [List.filterMap_cons, noteName]
    simpa using this
theorem notesIn_nil : ∀ l : List Inl, notesIn [] l = [] := by
  have key : ∀ (l : List Inl) (out : List Bs), l.foldl (noteStep []) out = out := by
    intro l
    induction l with
    | nil => intro out; rfl
    | cons x l ih =>
      intro out
      have : noteStep [] out x = out := by cases x; simp [noteStep]
      rw [List.foldl_cons, this, ih]
  exact fun l => key l []
theorem docL_notes (ls : List Nat) : notesOf (docL ls) = [] := by
  unfold notesOf
  rw [docL_names, notesIn_nil]
def LvOk (x : Cs) (ms : List Nat) : Prop := x.out.length = ms.length ∧ ∀ (i m : Nat), ms[i]? = some m → ∃ (y : DNum) (f : Nat → Nat), x.out[i]? = some y ∧ y.kind = secS ∧ y.value = dots (firsts f m) ∧ ∀ j, f j ≤ 100000
theorem clamp_lvl (n : Nat) : clampL (1 + (n : Int) % 6) = lvl n := by
  unfold clampL lvl
  rw [if_neg (by omega), if_neg (by omega)]
  omega
theorem numb1_lv {B n : Nat} {x : Cs} {ms : List Nat} (hB : B ≤ 10000) (hle : CsLe B x) (h : LvOk x ms) : LvOk (numb1 true x (hlB n)) (ms ++ [lvl n]) := by
  have e : numb1 true x (hlB n) = ⟨ctrF x.f (lvl n), x.g, x.out ++ [⟨[], secS, valF (ctrF x.f (lvl n)) (lvl n), [textT]⟩]⟩ := by
    simp only [hlB, headB, numb1, numbB, headStep]
    rw [if_pos (by simp), clamp_lvl]
    simp [kindStep, kindN, attr0]
  rw [e]
  obtain ⟨h1, h2⟩ := h
  refine ⟨by simp [h1], fun i m hi => ?_⟩
  rw [List.getElem?_append] at hi
  split at hi
  · rename_i hlt
    obtain ⟨y, f, hy, rest⟩ := h2 i m hi
    exact ⟨y, f, by rw [List.getElem?_append_left (by omega)]; exact hy, rest⟩
  · rename_i hge
    have hz : i - ms.length = 0 := by
      have := (List.getElem?_eq_some_iff.1 hi).1
      simp at this; omega
    rw [hz] at hi
    simp at hi
    subst hi
    refine ⟨⟨[], secS, valF (ctrF x.f (lvl n)) (lvl n), [textT]⟩, ctrF x.f (lvl n), ?_, rfl, rfl, fun j => by have := ctrF_le hle.1 (lvl n) j; omega⟩
    have : i = x.out.length := by omega
    subst this
    simp
theorem numbB_lv : ∀ (ls : List Nat) (B : Nat) (x : Cs) (ms : List Nat), B + 2 * ls.length ≤ 10000 → CsLe B x → LvOk x ms → LvOk (numbB true x (docL ls)) (ms ++ ls.map lvl)
  | [], B, x, ms, _, _, h => by simpa [docL, numbB] using h
  | n :: ls, B, x, ms, hB, hle, h => by
    simp only [List.length_cons] at hB
    have ih := numbB_lv ls (B + 2) (numb1 true x (hlB n)) (ms ++ [lvl n]) (by omega) (by
      have := numb1_le (free := true) (hlB n) B x hle
      simpa [hlB, headB, szb, szI, sz1, textT, szB] using this) (numb1_lv (by omega) hle h)
    simp only [docL, List.map_cons, numbB] at ih ⊢
    simpa using ih
theorem numsOf_lv (ls : List Nat) (h : ls.length ≤ 100) : (numsOf (docL ls)).length = ls.length ∧ ∀ (i n : Nat), ls[i]? = some n → ∃ (y : DNum) (f : Nat → Nat), (numsOf (docL ls))[i]? = some y ∧ y.kind = secS ∧ y.value = dots (firsts f (lvl n)) ∧ ∀ j, f j ≤ 100000 := by
  obtain ⟨h1, h2⟩ := numbB_lv ls 0 cs0 [] (by omega) cs0_le ⟨rfl, by simp⟩
  have e : numsOf (docL ls) = (numbB true cs0 (docL ls)).out := by
    unfold numsOf
    rw [docL_notes]
    simp [noteNums]
  rw [e]
  refine ⟨by simpa using h1, fun i n hi => h2 i (lvl n) (by simp [hi])⟩
theorem numL_fn (ls : List Nat) (hl : ls.length ≤ 100) (v : Value) (u : View) (hT : TabU u) (h : BlkS u v (docL ls)) : FnP Tryd.prog 12 [.agg #[nilV, v]] u fun r u' => ∃ ad cap cs, r = .slice ad ls.length cap ∧ SlC u' ad ls.length cap 4 cs ∧ NumsC u' (numsOf (docL ls)) cs := by
  have hz := docL_sz ls
  have := numbers_fn nilV v (docL ls) u hT (by omega) (docL_sm ls) h
  refine this.mono ?_
  rintro r u' hle ⟨cs, ⟨ad, cap, rfl, h1⟩, h2⟩
  rw [(numsOf_lv ls hl).1] at h1 ⊢
  exact ⟨ad, cap, cs, rfl, h1, h2⟩

set_option maxHeartbeats 2000000 in
theorem countLevels_fn (ls : List Nat) (v : Value) (u : View) (hT : TabU u) (hu8 : ∀ n ∈ ls, n < 256) (ha : IsSl u v ls.length 1 (u8C ls)) :
    FnP Tryd.prog 8 [v] u fun r _ => r = .bool true := by
  obtain ⟨ad, cap, rfl, h1⟩ := ha
  refine FnP.intro [.tmp 2] Tryd.func8 rfl rfl rfl ?_
  intro w0 D hw0
  refine wc_seq ?_
  refine wc_region ?_
  refine rl_y (y_assign rfl rfl) rfl ?_
  refine rl_end (ρ' := [(0, _)]) ⟨rfl, trivial⟩ ?_
  refine q_then ?_
  refine wc_seq ?_
  refine wc_seq ?_
  refine wc_region ?_
  refine rl_y (y_move rfl rfl) rfl ?_
  refine rl_y (y_len_v rfl rfl Tryd.s49 rfl) rfl ?_
  refine rl_y (y_gtr rfl rfl rfl) rfl ?_
  refine rl_end (ρ' := [(0, _), (9, _)]) ⟨rfl, rfl, trivial⟩ ?_
  refine q_then ?_
  refine wc_cond rfl (fun hb1 => ?_) (fun hb1 => ?_)
  ·
    refine wc_seq ?_
    refine wc_region ?_
    refine rl_do rfl rfl ?_
    refine do_call_f (caps := []) trivial rfl rfl Tryd.c10 rfl (FnP.mono (awake_fn u hT) ?_)
    rintro v u1 hle1 rfl
    refine rl_y (y_assign rfl rfl) rfl ?_
    refine rl_end (ρ' := [(2, _)]) ⟨rfl, trivial⟩ ?_
    refine q_then ?_
    refine wc_ret ?_
    refine q_then_ret ?_
    refine fin1 (.tmp rfl) ?_
    rfl
  ·
    refine wc_skip ?_
    refine q_then ?_
    refine wc_seq ?_
    have hlen := of_decide_eq_false hb1
    refine wc_region ?_
    refine rl_do rfl rfl ?_
    refine do_alloc trivial Tryd.z25 rfl rfl rfl ?_
    refine rl_nilW 600 42 11 rfl rfl ?_
    refine rl_end (ρ' := [(0, _), (3, _)]) ⟨rfl, rfl, trivial⟩ ?_
    refine q_then ?_
    refine wc_seq ?_
    refine wc_seq ?_
    refine wc_region ?_
    refine rl_y (y_assign rfl rfl) rfl ?_
    refine rl_end (ρ' := [(0, _), (3, _), (4, _)]) ⟨rfl, rfl, rfl, trivial⟩ ?_
    refine q_then ?_
    refine wc_block ?_
    refine wc_loop (fun m ρ σ u' => ∃ i : Nat, i + m = ls.length ∧ VLe u u' ∧ ∃ (ai : Option Addr) (ci : Nat) (li : List Value), σ = [(3, (none, .box [nilV, .slice ai i ci])), (600, (none, .rwv (.slice ai i ci) 42 11 i li))] ∧ ρ = [(0, .v (.slice ad ls.length cap)), (3, .p 3 0), (4, .v (.int .i64 i))] ∧ (BlksC u' (docL (ls.take i)) li)) (ls.length) ?_ ?_
    ·
      refine ⟨[(0, _), (3, _), (4, _)], [(3, _), (600, _)], ⟨rfl, rfl, rfl, trivial⟩, ⟨rfl, rfl, trivial⟩, 0, by omega, VLe.refl _, none, 0, [], (by first | rfl | simp), (by first | rfl | (simp only [List.cons.injEq, Prod.mk.injEq, SV.v.injEq, Value.int.injEq, true_and, and_true]; omega) | simp), ?_⟩
      exact BlksC.nil
    ·
      rintro m ρ σ u' ⟨i, hi5, hle5, ai, ci, li, rfl, rfl, hli⟩
      refine wc_seq ?_
      refine wc_seq ?_
      refine wc_region ?_
      refine rl_y (y_move rfl rfl) rfl ?_
      refine rl_y (y_move rfl rfl) rfl ?_
      refine rl_y (y_len_v rfl rfl Tryd.s49 rfl) rfl ?_
      refine rl_y (y_lss rfl rfl rfl) rfl ?_
      refine rl_end (ρ' := [(0, _), (3, _), (4, _), (14, _)]) ⟨rfl, rfl, rfl, rfl, trivial⟩ ?_
      refine q_then ?_
      refine wc_cond rfl (fun hb5 => ?_) (fun hb5 => ?_)
      ·
        refine wc_skip ?_
        refine q_then ?_
        refine wc_seq ?_
        refine wc_block ?_
        have hlt : i < ls.length := by have := of_decide_eq_true hb5; omega
        have h1 := h1.mono hle5
        have hg := List.getElem?_eq_getElem hlt
        have hcut := cut_u8C hg
        have h256 := hu8 _ (List.getElem_mem hlt)
        have hdt : docL (ls.take (i + 1)) = docL (ls.take i) ++ [hlB ls[i]] := by unfold docL; rw [List.take_succ_eq_append_getElem hlt, List.map_append]; rfl
        refine wc_draw Tryd.mixed rfl [] trivial ?_
        refine ra_y (i := 0) rfl (by kernel_rfl) (by kernel_rfl) (by kernel_rfl) (np_block (np_then (np_then (np_block (np_then (np_fin)))))) (y_field_p rfl Tryd.f25' rfl (by decide) rfl) rfl ?_
        refine ra_y (i := 2) rfl (by kernel_rfl) (by kernel_rfl) (by kernel_rfl) (np_block (np_then (np_then (np_block (np_then (np_fin)))))) (y_move rfl rfl) rfl ?_
        refine ra_y (i := 3) rfl (by kernel_rfl) (by kernel_rfl) (by kernel_rfl) (np_block (np_then (np_then (np_block (np_then (np_fin)))))) (y_move rfl rfl) rfl ?_
        refine ra_y (i := 4) rfl (by kernel_rfl) (by kernel_rfl) (by kernel_rfl) (np_block (np_then (np_then (np_block (np_then (np_fin)))))) (y_index_e rfl Tryd.s49 rfl rfl (by assumption) (by first | rfl | omega) (by omega)) rfl ?_
        refine ra_y (i := 5) rfl (by kernel_rfl) (by kernel_rfl) (by kernel_rfl) (np_block (np_then (np_then (np_block (np_then (np_fin)))))) (y_load_el rfl Tryd.k5 rfl (by assumption) (by omega) (by assumption) (vs := [_]) rfl rfl rfl rfl) rfl ?_
        refine ra_y (i := 6) rfl (by kernel_rfl) (by kernel_rfl) (by kernel_rfl) (np_block (np_then (np_then (np_block (np_then (np_fin)))))) (y_remE rfl rfl rfl (by omega) (by omega)) rfl ?_
        refine ra_y (i := 7) rfl (by kernel_rfl) (by kernel_rfl) (by kernel_rfl) (np_block (np_then (np_then (np_block (np_then (np_fin)))))) (y_conv rfl Tryd.u5 Tryd.u3 rfl (wrap64_id (by omega))) rfl ?_
        refine ra_y (i := 8) rfl (by kernel_rfl) (by kernel_rfl) (by kernel_rfl) (np_block (np_then (np_then (np_block (np_then (np_fin)))))) (y_add rfl rfl rfl (wrap64_id (by omega))) rfl ?_
        refine ra_all (is := [1, 9]) (by kernel_rfl) rfl ?_
        refine raall_cons rfl rfl ?_ ?_
        ·
          refine do_y (y_load_p rfl Tryd.k23 rfl rfl rfl (vs := [_]) rfl rfl rfl) rfl ?_
          refine ra_do (i := 9) rfl rfl (by kernel_rfl) ?_
          refine do_call (caps := []) trivial rfl rfl Tryd.c23 rfl (FnP.mono (head2_fn _ (by unfold IntOk; omega) _) ?_)
          rintro v uH hle0 ⟨had, hcap, rfl, hH⟩ hleH
          refine ra_do (i := 10) rfl rfl (by kernel_rfl) ?_
          refine do_buildSlice trivial Tryd.s23 Tryd.z42 (ps := [(_, _)]) rfl (xs := [_, _, _, _, _, _, _, _, _, _, _]) rfl rfl rfl rfl rfl rfl rfl ?_
          refine ra_do (i := 11) rfl rfl (by kernel_rfl) ?_
          refine do_append_w_s 600 trivial rfl rfl Tryd.s23 Tryd.z42 rfl rfl rfl rfl rfl rfl (by simp [Value.oneCell', str]) (by omega) (by omega) rfl rfl ?_
          intro a2 c2
          refine ra_y (i := 12) rfl (by kernel_rfl) (by kernel_rfl) (by kernel_rfl) (np_block (np_then (np_then (np_block (np_then (np_fin)))))) (y_field_p rfl Tryd.f25' rfl (by decide) rfl) rfl ?_
          refine ra_do (i := 13) rfl rfl (by kernel_rfl) ?_
          refine do_store_p trivial rfl Tryd.k23 rfl rfl rfl (vs := [_]) rfl rfl (by first | rfl | exact oneAll | exact oneAll2 | simp [Value.oneCell', str]) (Nat.le_of_ble_eq_true rfl) rfl ?_
          refine ra_end (by kernel_rfl) (ρ' := [(0, _), (3, _), (4, _)]) ⟨rfl, rfl, rfl, trivial⟩ ?_
          refine q_block ?_
          refine q_then ?_
          refine wc_region ?_
          refine rl_y (y_move rfl rfl) rfl ?_
          refine rl_y (y_add rfl rfl rfl (wrap64_id (by omega))) rfl ?_
          refine rl_y (y_assign rfl rfl) rfl ?_
          refine rl_end (ρ' := [(0, _), (3, _), (4, _)]) ⟨rfl, rfl, rfl, trivial⟩ ?_
          refine q_thenK ?_
          refine ⟨m - 1, [(0, _), (3, _), (4, _)], [(3, _), (600, _)], by omega, ⟨rfl, rfl, rfl, trivial⟩, ⟨rfl, rfl, trivial⟩, i + 1, by omega, (hle5.trans hleH), a2, c2, _, (by first | rfl | simp), (by first | rfl | (simp only [List.cons.injEq, Prod.mk.injEq, SV.v.injEq, Value.int.injEq, true_and, and_true]; omega) | simp), ?_⟩
          rw [hdt]
          exact (hli.mono hleH).append (BlksC.one hH)
        refine raall_cons rfl rfl ?_ ?_
        ·
          refine do_call (caps := []) trivial rfl rfl Tryd.c23 rfl (FnP.mono (head2_fn _ (by unfold IntOk; omega) _) ?_)
          rintro v uH hle0 ⟨had, hcap, rfl, hH⟩ hleH
          refine ra_all (is := [1, 10]) (by kernel_rfl) rfl ?_
          refine raall_cons rfl rfl ?_ ?_
          ·
            refine do_y (y_load_p rfl Tryd.k23 rfl rfl rfl (vs := [_]) rfl rfl rfl) rfl ?_
            refine ra_do (i := 10) rfl rfl (by kernel_rfl) ?_
            refine do_buildSlice trivial Tryd.s23 Tryd.z42 (ps := [(_, _)]) rfl (xs := [_, _, _, _, _, _, _, _, _, _, _]) rfl rfl rfl rfl rfl rfl rfl ?_
            refine ra_do (i := 11) rfl rfl (by kernel_rfl) ?_
            refine do_append_w_s 600 trivial rfl rfl Tryd.s23 Tryd.z42 rfl rfl rfl rfl rfl rfl (by simp [Value.oneCell', str]) (by omega) (by omega) rfl rfl ?_
            intro a2 c2
            refine ra_y (i := 12) rfl (by kernel_rfl) (by kernel_rfl) (by kernel_rfl) (np_block (np_then (np_then (np_block (np_then (np_fin)))))) (y_field_p rfl Tryd.f25' rfl (by decide) rfl) rfl ?_
            refine ra_do (i := 13) rfl rfl (by kernel_rfl) ?_
            refine do_store_p trivial rfl Tryd.k23 rfl rfl rfl (vs := [_]) rfl rfl (by first | rfl | exact oneAll | exact oneAll2 | simp [Value.oneCell', str]) (Nat.le_of_ble_eq_true rfl) rfl ?_
            refine ra_end (by kernel_rfl) (ρ' := [(0, _), (3, _), (4, _)]) ⟨rfl, rfl, rfl, trivial⟩ ?_
            refine q_block ?_
            refine q_then ?_
            refine wc_region ?_
            refine rl_y (y_move rfl rfl) rfl ?_
            refine rl_y (y_add rfl rfl rfl (wrap64_id (by omega))) rfl ?_
            refine rl_y (y_assign rfl rfl) rfl ?_
            refine rl_end (ρ' := [(0, _), (3, _), (4, _)]) ⟨rfl, rfl, rfl, trivial⟩ ?_
            refine q_thenK ?_
            refine ⟨m - 1, [(0, _), (3, _), (4, _)], [(3, _), (600, _)], by omega, ⟨rfl, rfl, rfl, trivial⟩, ⟨rfl, rfl, trivial⟩, i + 1, by omega, (hle5.trans hleH), a2, c2, _, (by first | rfl | simp), (by first | rfl | (simp only [List.cons.injEq, Prod.mk.injEq, SV.v.injEq, Value.int.injEq, true_and, and_true]; omega) | simp), ?_⟩
            rw [hdt]
            exact (hli.mono hleH).append (BlksC.one hH)
          refine raall_cons rfl rfl ?_ ?_
          ·
            refine do_buildSlice trivial Tryd.s23 Tryd.z42 (ps := [(_, _)]) rfl (xs := [_, _, _, _, _, _, _, _, _, _, _]) rfl rfl rfl rfl rfl rfl rfl ?_
            refine ra_do (i := 1) rfl rfl (by kernel_rfl) ?_
            refine do_y (y_load_p rfl Tryd.k23 rfl rfl rfl (vs := [_]) rfl rfl rfl) rfl ?_
            refine ra_do (i := 11) rfl rfl (by kernel_rfl) ?_
            refine do_append_w_s 600 trivial rfl rfl Tryd.s23 Tryd.z42 rfl rfl rfl rfl rfl rfl (by simp [Value.oneCell', str]) (by omega) (by omega) rfl rfl ?_
            intro a2 c2
            refine ra_y (i := 12) rfl (by kernel_rfl) (by kernel_rfl) (by kernel_rfl) (np_block (np_then (np_then (np_block (np_then (np_fin)))))) (y_field_p rfl Tryd.f25' rfl (by decide) rfl) rfl ?_
            refine ra_do (i := 13) rfl rfl (by kernel_rfl) ?_
            refine do_store_p trivial rfl Tryd.k23 rfl rfl rfl (vs := [_]) rfl rfl (by first | rfl | exact oneAll | exact oneAll2 | simp [Value.oneCell', str]) (Nat.le_of_ble_eq_true rfl) rfl ?_
            refine ra_end (by kernel_rfl) (ρ' := [(0, _), (3, _), (4, _)]) ⟨rfl, rfl, rfl, trivial⟩ ?_
            refine q_block ?_
            refine q_then ?_
            refine wc_region ?_
            refine rl_y (y_move rfl rfl) rfl ?_
            refine rl_y (y_add rfl rfl rfl (wrap64_id (by omega))) rfl ?_
            refine rl_y (y_assign rfl rfl) rfl ?_
            refine rl_end (ρ' := [(0, _), (3, _), (4, _)]) ⟨rfl, rfl, rfl, trivial⟩ ?_
            refine q_thenK ?_
            refine ⟨m - 1, [(0, _), (3, _), (4, _)], [(3, _), (600, _)], by omega, ⟨rfl, rfl, rfl, trivial⟩, ⟨rfl, rfl, trivial⟩, i + 1, by omega, (hle5.trans hleH), a2, c2, _, (by first | rfl | simp), (by first | rfl | (simp only [List.cons.injEq, Prod.mk.injEq, SV.v.injEq, Value.int.injEq, true_and, and_true]; omega) | simp), ?_⟩
            rw [hdt]
            exact (hli.mono hleH).append (BlksC.one hH)
          exact raall_nil
        exact raall_nil
      ·
        refine wc_exit ?_
        refine q_then_exit ?_
        refine q_then_exit ?_
        refine q_block_hit ?_
        refine q_then ?_
        refine wc_seq ?_
        have hge := of_decide_eq_false hb5
        have hin : i = ls.length := by omega
        subst hin
        rw [List.take_of_length_le (Nat.le_refl _)] at hli
        refine wc_freezeW 600 rfl ?_
        intro uF hleF hF
        have hB : BlkS uF (.slice ai ls.length ci) (docL ls) := by
          refine ⟨li, ?_, hli.mono hleF⟩
          rw [show (docL ls).length = ls.length by simp [docL]]
          exact hF
        have hT := (hT.mono hle5).mono hleF
        have h1 := (h1.mono hle5).mono hleF
        have hz := docL_sz ls
        obtain ⟨hlv, hlv2⟩ := numsOf_lv ls (by omega)
        refine wc_region ?_
        refine rl_y (y_load_p rfl Tryd.k25 rfl rfl rfl (vs := [_, _]) rfl rfl rfl) rfl ?_
        refine rl_do rfl rfl ?_
        refine do_call (caps := []) trivial rfl rfl Tryd.c12 rfl (FnP.mono (numL_fn ls (by omega) _ uF hT hB) ?_)
        rintro v uN hle0 ⟨nad, ncap, ncs, rfl, hn1, hn2⟩ hleN
        have hT := hT.mono hleN; have h1 := h1.mono hleN; have hB := hB.mono hleN; have hNum : NumS uN (.slice nad ls.length ncap) (numsOf (docL ls)) := ⟨ncs, by rw [hlv]; exact ⟨nad, ncap, rfl, hn1⟩, hn2⟩
        refine rl_y (y_assign rfl rfl) rfl ?_
        refine rl_end (ρ' := [(0, _), (3, _), (5, _)]) ⟨rfl, rfl, rfl, trivial⟩ ?_
        refine q_then ?_
        refine wc_seq ?_
        refine wc_seq ?_
        refine wc_region ?_
        refine rl_y (y_move rfl rfl) rfl ?_
        refine rl_y (y_len_v rfl rfl Tryd.s29 rfl) rfl ?_
        refine rl_y (y_move rfl rfl) rfl ?_
        refine rl_y (y_len_v rfl rfl Tryd.s49 rfl) rfl ?_
        refine rl_y (y_neq_refl rfl rfl rfl) rfl ?_
        refine rl_end (ρ' := [(0, _), (3, _), (5, _), (36, _)]) ⟨rfl, rfl, rfl, rfl, trivial⟩ ?_
        refine q_then ?_
        refine wc_cond_f rfl (rfl) ?_
        refine wc_skip ?_
        refine q_then ?_
        refine wc_seq ?_
        refine wc_seq ?_
        refine wc_region ?_
        refine rl_y (y_assign rfl rfl) rfl ?_
        refine rl_end (ρ' := [(0, _), (3, _), (5, _), (6, _)]) ⟨rfl, rfl, rfl, rfl, trivial⟩ ?_
        refine q_then ?_
        refine wc_block ?_
        refine wc_loop (fun m ρ σ u' => ∃ j : Nat, j + m = ls.length ∧ VLe uN u' ∧ σ = [(3, (none, .box [nilV, .slice ai ls.length ci]))] ∧ ρ = [(0, .v (.slice ad ls.length cap)), (3, .p 3 0), (5, .v (.slice nad ls.length ncap)), (6, .v (.int .i64 j))] ∧ (True)) (ls.length) ?_ ?_
        ·
          refine ⟨[(0, _), (3, _), (5, _), (6, _)], [(3, _)], ⟨rfl, rfl, rfl, rfl, trivial⟩, ⟨rfl, trivial⟩, 0, by omega, VLe.refl _, (by first | rfl | simp), (by first | rfl | (simp only [List.cons.injEq, Prod.mk.injEq, SV.v.injEq, Value.int.injEq, true_and, and_true]; omega) | simp), ?_⟩
          trivial
        ·
          rintro mj ρ σ u' ⟨j, hi12, hle12, rfl, rfl, _⟩
          refine wc_seq ?_
          refine wc_seq ?_
          refine wc_cutB 46 (decide (j < ls.length)) (ρk := [(0, _), (3, _), (5, _), (6, _)]) ⟨rfl, rfl, rfl, rfl, trivial⟩ ?_ ?_
          ·
            refine wc_region ?_
            refine rl_y (y_move rfl rfl) rfl ?_
            refine rl_y (y_move rfl rfl) rfl ?_
            refine rl_y (y_len_v rfl rfl Tryd.s29 rfl) rfl ?_
            refine rl_y (y_lss rfl rfl rfl) rfl ?_
            refine rl_y (y_move rfl rfl) rfl ?_
            rcases Bool.eq_false_or_eq_true (decide ((j : Int) < ls.length)) with hg12_4 | hg12_4
            ·
              simp only [hg12_4]
              refine rl_on rfl rfl ?_
              refine rl_y (y_move rfl rfl) rfl ?_
              refine rl_on rfl rfl ?_
              refine rl_y (y_move rfl rfl) rfl ?_
              refine rl_on rfl rfl ?_
              refine rl_y (y_len_v rfl rfl Tryd.s49 rfl) rfl ?_
              refine rl_on rfl rfl ?_
              refine rl_y (y_lss rfl rfl rfl) rfl ?_
              refine rl_y (y_pick_t rfl rfl rfl) rfl ?_
              exact cutB_end rfl ⟨rfl, rfl, rfl, rfl, trivial⟩ (by (first | refine (decide_eq_true ?_).symm | refine (decide_eq_false ?_).symm | refine decide_eq_decide.2 ?_ | refine decide_eq_true ?_ | refine decide_eq_false ?_) <;> (try unfold lvl) <;> (try simp only [decide_eq_true_eq, decide_eq_false_iff_not] at *) <;> omega)
            ·
              simp only [hg12_4]
              refine rl_off rfl rfl rfl rfl ?_
              refine rl_off rfl rfl rfl rfl ?_
              refine rl_off rfl rfl rfl rfl ?_
              refine rl_off rfl rfl rfl rfl ?_
              refine rl_y (y_pick_f rfl rfl rfl) rfl ?_
              exact cutB_end rfl ⟨rfl, rfl, rfl, rfl, trivial⟩ (by (first | refine (decide_eq_true ?_).symm | refine (decide_eq_false ?_).symm | refine decide_eq_decide.2 ?_ | refine decide_eq_true ?_ | refine decide_eq_false ?_) <;> (try unfold lvl) <;> (try simp only [decide_eq_true_eq, decide_eq_false_iff_not] at *) <;> omega)
          refine q_then ?_
          refine wc_cond rfl (fun hb12 => ?_) (fun hb12 => ?_)
          ·
            refine wc_skip ?_
            refine q_then ?_
            refine wc_seq ?_
            refine wc_block ?_
            refine wc_seq ?_
            have hlt : j < ls.length := of_decide_eq_true hb12
            have h1 := h1.mono hle12
            have hn1 := hn1.mono hle12
            have hg := List.getElem?_eq_getElem hlt
            have hcut := cut_u8C hg
            have h256 := hu8 _ (List.getElem_mem hlt)
            obtain ⟨y, f, hy, hyk, hyv, hf⟩ := hlv2 j _ hg
            obtain ⟨vl, hcut2, hyl⟩ := (hn2.mono hle12).get j y hy
            have hl6 : 1 ≤ lvl ls[j] ∧ lvl ls[j] ≤ 6 := by unfold lvl; omega
            refine wc_draw Tryd.mixed rfl [] trivial ?_
            refine ra_y (i := 0) rfl (by kernel_rfl) (by kernel_rfl) (by kernel_rfl) (np_then (np_block (np_then (np_then (np_block (np_then (np_fin))))))) (y_move rfl rfl) rfl ?_
            refine ra_y (i := 1) rfl (by kernel_rfl) (by kernel_rfl) (by kernel_rfl) (np_then (np_block (np_then (np_then (np_block (np_then (np_fin))))))) (y_move rfl rfl) rfl ?_
            refine ra_y (i := 2) rfl (by kernel_rfl) (by kernel_rfl) (by kernel_rfl) (np_then (np_block (np_then (np_then (np_block (np_then (np_fin))))))) (y_index_e rfl Tryd.s29 rfl rfl (by assumption) (by first | rfl | omega) (by omega)) rfl ?_
            refine ra_y (i := 3) rfl (by kernel_rfl) (by kernel_rfl) (by kernel_rfl) (np_then (np_block (np_then (np_then (np_block (np_then (np_fin))))))) (y_field_e rfl Tryd.f38' rfl (by decide) rfl) rfl ?_
            refine ra_y (i := 4) rfl (by kernel_rfl) (by kernel_rfl) (by kernel_rfl) (np_then (np_block (np_then (np_then (np_block (np_then (np_fin))))))) (y_load_el rfl Tryd.k9 rfl (by assumption) (by omega) (by assumption) (vs := [_]) rfl rfl rfl rfl) rfl ?_
            rw [hyv]
            refine ra_y (i := 7) rfl (by kernel_rfl) (by kernel_rfl) (by kernel_rfl) (np_then (np_block (np_then (np_then (np_block (np_then (np_fin))))))) (y_move rfl rfl) rfl ?_
            refine ra_y (i := 8) rfl (by kernel_rfl) (by kernel_rfl) (by kernel_rfl) (np_then (np_block (np_then (np_then (np_block (np_then (np_fin))))))) (y_move rfl rfl) rfl ?_
            refine ra_y (i := 9) rfl (by kernel_rfl) (by kernel_rfl) (by kernel_rfl) (np_then (np_block (np_then (np_then (np_block (np_then (np_fin))))))) (y_index_e rfl Tryd.s49 rfl rfl (by assumption) (by first | rfl | omega) (by omega)) rfl ?_
            refine ra_y (i := 10) rfl (by kernel_rfl) (by kernel_rfl) (by kernel_rfl) (np_then (np_block (np_then (np_then (np_block (np_then (np_fin))))))) (y_load_el rfl Tryd.k5 rfl (by assumption) (by omega) (by assumption) (vs := [_]) rfl rfl rfl rfl) rfl ?_
            refine ra_y (i := 11) rfl (by kernel_rfl) (by kernel_rfl) (by kernel_rfl) (np_then (np_block (np_then (np_then (np_block (np_then (np_fin))))))) (y_remE rfl rfl rfl (by omega) (by omega)) rfl ?_
            refine ra_y (i := 12) rfl (by kernel_rfl) (by kernel_rfl) (by kernel_rfl) (np_then (np_block (np_then (np_then (np_block (np_then (np_fin))))))) (y_conv rfl Tryd.u5 Tryd.u3 rfl (wrap64_id (by omega))) rfl ?_
            refine ra_y (i := 13) rfl (by kernel_rfl) (by kernel_rfl) (by kernel_rfl) (np_then (np_block (np_then (np_then (np_block (np_then (np_fin))))))) (y_add rfl rfl rfl (wrap64_id (by omega))) rfl ?_
            refine ra_do (i := 5) rfl rfl (by kernel_rfl) ?_
            refine do_call (caps := []) trivial rfl rfl Tryd.c21 rfl (FnP.mono (counters2_fn (firsts f (lvl ls[j])) (by rw [firsts_len]; exact hl6.1) (by rw [firsts_len]; exact hl6.2) (fun n hn ↦ by obtain ⟨q, _, rfl⟩ := List.mem_map.1 hn; exact hf _) _) ?_)
            rintro v uX hle0 ⟨cad, ccap, rfl, hC⟩ hleX
            rw [firsts_len] at hC ⊢; have hn1 := hn1.mono hleX
            refine ra_y (i := 6) rfl (by kernel_rfl) (by kernel_rfl) (by kernel_rfl) (np_then (np_block (np_then (np_then (np_block (np_then (np_fin))))))) (y_len_v rfl rfl Tryd.s46 rfl) rfl ?_
            refine ra_y (i := 14) rfl (by kernel_rfl) (by kernel_rfl) (by kernel_rfl) (np_then (np_block (np_then (np_then (np_block (np_then (np_fin))))))) (y_neq rfl rfl rfl) rfl ?_
            rw [decide_eq_false (by simp only [lvl]; omega)]
            refine ra_y (i := 15) rfl (by kernel_rfl) (by kernel_rfl) (by kernel_rfl) (np_then (np_block (np_then (np_then (np_block (np_then (np_fin))))))) (y_move rfl rfl) rfl ?_
            refine ra_y_on (i := 16) rfl rfl rfl (by kernel_rfl) (by kernel_rfl) (by kernel_rfl) (np_then (np_block (np_then (np_then (np_block (np_then (np_fin))))))) (y_move rfl rfl) rfl ?_
            refine ra_y_on (i := 17) rfl rfl rfl (by kernel_rfl) (by kernel_rfl) (by kernel_rfl) (np_then (np_block (np_then (np_then (np_block (np_then (np_fin))))))) (y_move rfl rfl) rfl ?_
            refine ra_y_on (i := 18) rfl rfl rfl (by kernel_rfl) (by kernel_rfl) (by kernel_rfl) (np_then (np_block (np_then (np_then (np_block (np_then (np_fin))))))) (y_index_e rfl Tryd.s29 rfl rfl (by assumption) (by first | rfl | omega) (by omega)) rfl ?_
            refine ra_y_on (i := 19) rfl rfl rfl (by kernel_rfl) (by kernel_rfl) (by kernel_rfl) (np_then (np_block (np_then (np_then (np_block (np_then (np_fin))))))) (y_field_e rfl Tryd.f38' rfl (by decide) rfl) rfl ?_
            refine ra_y_on (i := 20) rfl rfl rfl (by kernel_rfl) (by kernel_rfl) (by kernel_rfl) (np_then (np_block (np_then (np_then (np_block (np_then (np_fin))))))) (y_load_el rfl Tryd.k9 rfl (by assumption) (by omega) (by assumption) (vs := [_]) rfl rfl rfl rfl) rfl ?_
            refine ra_y_on (i := 21) rfl rfl rfl (by kernel_rfl) (by kernel_rfl) (by kernel_rfl) (np_then (np_block (np_then (np_then (np_block (np_then (np_fin))))))) (y_str_neq rfl rfl rfl) rfl ?_
            rw [decide_eq_false (by rw [hyk]; simp)]
            refine ra_y (i := 22) rfl (by kernel_rfl) (by kernel_rfl) (by kernel_rfl) (np_then (np_block (np_then (np_then (np_block (np_then (np_fin))))))) (y_pick_f rfl rfl rfl) rfl ?_
            refine ra_end (by kernel_rfl) (ρ' := [(0, _), (3, _), (5, _), (6, _), (71, _)]) ⟨rfl, rfl, rfl, rfl, rfl, trivial⟩ ?_
            refine q_then ?_
            refine wc_cond_f rfl (rfl) ?_
            refine wc_skip ?_
            refine q_block ?_
            refine q_then ?_
            refine wc_region ?_
            refine rl_y (y_move rfl rfl) rfl ?_
            refine rl_y (y_add rfl rfl rfl (wrap64_id (by omega))) rfl ?_
            refine rl_y (y_assign rfl rfl) rfl ?_
            refine rl_end (ρ' := [(0, _), (3, _), (5, _), (6, _)]) ⟨rfl, rfl, rfl, rfl, trivial⟩ ?_
            refine q_thenK ?_
            refine ⟨mj - 1, [(0, _), (3, _), (5, _), (6, _)], [(3, _)], by omega, ⟨rfl, rfl, rfl, rfl, trivial⟩, ⟨rfl, trivial⟩, j + 1, by omega, (hle12.trans hleX), (by first | rfl | simp), (by first | rfl | (simp only [List.cons.injEq, Prod.mk.injEq, SV.v.injEq, Value.int.injEq, true_and, and_true]; omega) | simp), ?_⟩
            trivial
          ·
            refine wc_exit ?_
            refine q_then_exit ?_
            refine q_then_exit ?_
            refine q_block_hit ?_
            refine q_then ?_
            refine wc_seq ?_
            refine wc_region ?_
            refine rl_y (y_move rfl rfl) rfl ?_
            refine rl_y (y_load_p rfl Tryd.k25 rfl rfl rfl (vs := [_, _]) rfl rfl rfl) rfl ?_
            refine rl_do rfl rfl ?_
            refine do_call (caps := []) trivial rfl rfl Tryd.c13 rfl (FnP.mono (refNumbers_fn nilV _ (docL ls) u' (by omega) (hB.mono hle12)) ?_)
            rintro v uR hle0 hR hleR
            have hlo := numsOf_lines (docL ls)
            refine rl_do rfl rfl ?_
            refine do_call_f (caps := []) trivial rfl rfl Tryd.c11 rfl (FnP.mono (same_same _ _ (numsOf (docL ls)) (by omega) (fun x hx ↦ by have := len_szI x.line; have := hlo x hx; omega) uR ((hNum.mono hle12).mono hleR) hR) ?_)
            rintro v u1 hle1 rfl
            refine rl_y (y_move rfl rfl) rfl ?_
            refine rl_on rfl rfl ?_
            refine rl_do rfl rfl ?_
            refine do_call_f (caps := []) trivial rfl rfl Tryd.c10 rfl (FnP.mono (awake_fn uR ((hT.mono hle12).mono hleR)) ?_)
            rintro v u1 hle1 rfl
            refine rl_y (y_pick_t rfl rfl rfl) rfl ?_
            refine rl_y (y_assign rfl rfl) rfl ?_
            refine rl_end (ρ' := [(2, _)]) ⟨rfl, trivial⟩ ?_
            refine q_then ?_
            refine wc_ret ?_
            refine fin1 (.tmp rfl) ?_
            rfl
end Go.Proofs.Ythnboadnehbciaa
