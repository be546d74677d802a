/- Count: the reference's lists of texts. -/
import Derived.Test.YthnboadnehbciaaDoorCntD
import Derived.Test.YthnboadnehbciaaDoorDocL
namespace Go.Proofs.Ythnboadnehbciaa
open Go Go.Eng
set_option linter.unusedSimpArgs false
set_option linter.unusedVariables false
set_option maxRecDepth 4000

theorem in_fn (v : Value) (xs : List Bs) (s : Bs) (hx : xs.length ≤ 1000000) (u : View) (ha : StrS u v xs) :
    FnP Tryd.prog 40 [v, str s] u fun r _ => r = .bool (decide (s ∈ xs)) := by
  obtain ⟨ad, cap, rfl, h1⟩ := ha
  refine FnP.intro [.tmp 4] Tryd.func40 rfl rfl rfl ?_
  intro w0 D hw0
  refine wc_seq ?_
  refine wc_region ?_
  refine rl_y (y_assign rfl rfl) rfl ?_
  refine rl_end (ρ' := [(0, _), (1, _)]) ⟨rfl, rfl, trivial⟩ ?_
  refine q_then ?_
  refine wc_seq ?_
  refine wc_seq ?_
  refine wc_region ?_
  refine rl_y (y_assign rfl rfl) rfl ?_
  refine rl_end (ρ' := [(0, _), (1, _), (5, _)]) ⟨rfl, rfl, rfl, trivial⟩ ?_
  refine q_then ?_
  refine wc_block ?_
  refine wc_loop (fun m ρ σ u' => ∃ i : Nat, i + m = xs.length ∧ VLe u u' ∧ σ = [] ∧ ρ = [(0, .v (.slice ad xs.length cap)), (1, .v (str s)), (5, .v (.int .i64 i))] ∧ (u = u' ∧ s ∉ xs.take i)) (xs.length) ?_ ?_
  ·
    refine ⟨[(0, _), (1, _), (5, _)], [], ⟨rfl, rfl, rfl, trivial⟩, trivial, 0, by omega, VLe.refl _, (by first | rfl | simp), (by first | rfl | (simp only [List.cons.injEq, Prod.mk.injEq, SV.v.injEq, Value.int.injEq, true_and, and_true]; omega) | simp), ?_⟩
    exact ⟨rfl, by simp⟩
  ·
    rintro m ρ σ u' ⟨i, hi2, hle2, rfl, rfl, ⟨rfl, hinv⟩⟩
    refine wc_seq ?_
    refine wc_seq ?_
    refine wc_region ?_
    refine rl_y (y_move rfl rfl) rfl ?_
    refine rl_y (y_move rfl rfl) rfl ?_
    refine rl_y (y_len_v rfl rfl Tryd.s32 rfl) rfl ?_
    refine rl_y (y_lss rfl rfl rfl) rfl ?_
    refine rl_end (ρ' := [(0, _), (1, _), (5, _), (9, _)]) ⟨rfl, rfl, rfl, rfl, trivial⟩ ?_
    refine q_then ?_
    refine wc_cond rfl (fun hb2 => ?_) (fun hb2 => ?_)
    ·
      refine wc_skip ?_
      refine q_then ?_
      refine wc_seq ?_
      refine wc_block ?_
      refine wc_seq ?_
      have hlt : i < xs.length := by have := of_decide_eq_true hb2; omega
      have hg := List.getElem?_eq_getElem hlt
      have hc := cut_strsC hg
      refine wc_region ?_
      refine rl_y (y_move rfl rfl) rfl ?_
      refine rl_y (y_move rfl rfl) rfl ?_
      refine rl_y (y_index_e rfl Tryd.s32 rfl rfl (by assumption) (by first | rfl | omega) (by omega)) rfl ?_
      refine rl_y (y_load_el rfl Tryd.k9 rfl (by assumption) (by omega) (by assumption) (vs := [_]) rfl rfl rfl rfl) rfl ?_
      refine rl_y (y_move rfl rfl) rfl ?_
      refine rl_y (y_str_eql rfl rfl rfl) rfl ?_
      refine rl_end (ρ' := [(0, _), (1, _), (5, _), (17, _)]) ⟨rfl, rfl, rfl, rfl, trivial⟩ ?_
      refine q_then ?_
      refine wc_cond rfl (fun hb4 => ?_) (fun hb4 => ?_)
      ·
        refine wc_seq ?_
        refine wc_region ?_
        refine rl_y (y_assign rfl rfl) rfl ?_
        refine rl_end (ρ' := [(4, _)]) ⟨rfl, trivial⟩ ?_
        refine q_then ?_
        refine wc_ret ?_
        refine q_block_ret ?_
        refine q_then_ret ?_
        refine q_then_ret ?_
        refine q_block_ret ?_
        refine q_then_ret ?_
        refine fin1 (.tmp rfl) ?_
        have h4 := of_decide_eq_true hb4
        rw [decide_eq_true]
        rw [← h4]
        exact List.mem_of_getElem? hg
      ·
        refine wc_skip ?_
        refine q_block ?_
        refine q_then ?_
        refine wc_region ?_
        refine rl_y (y_move rfl rfl) rfl ?_
        refine rl_y (y_add rfl rfl rfl (wrap64_id (by omega))) rfl ?_
        refine rl_y (y_assign rfl rfl) rfl ?_
        refine rl_end (ρ' := [(0, _), (1, _), (5, _)]) ⟨rfl, rfl, rfl, trivial⟩ ?_
        refine q_thenK ?_
        refine ⟨m - 1, [(0, _), (1, _), (5, _)], [], by omega, ⟨rfl, rfl, rfl, trivial⟩, trivial, i + 1, by omega, hle2, (by first | rfl | simp), (by first | rfl | (simp only [List.cons.injEq, Prod.mk.injEq, SV.v.injEq, Value.int.injEq, true_and, and_true]; omega) | simp), ?_⟩
        have h4 := of_decide_eq_false hb4
        refine ⟨rfl, fun hm => ?_⟩
        rcases mem_take_succ hg hm with hm | hm
        · exact hinv hm
        · exact h4 hm.symm
    ·
      refine wc_exit ?_
      refine q_then_exit ?_
      refine q_then_exit ?_
      refine q_block_hit ?_
      refine q_then ?_
      refine wc_seq ?_
      refine wc_region ?_
      refine rl_y (y_assign rfl rfl) rfl ?_
      refine rl_end (ρ' := [(4, _)]) ⟨rfl, trivial⟩ ?_
      refine q_then ?_
      refine wc_ret ?_
      refine fin1 (.tmp rfl) ?_
      have hge := of_decide_eq_false hb2
      rw [List.take_of_length_le (by omega)] at hinv
      rw [decide_eq_false hinv]

def valuesOf (k : Bs) (xs : List DNum) : List Bs := xs.filterMap fun x => if x.kind = k then some x.value else none
theorem values_fn (v : Value) (xs : List DNum) (k : Bs) (hx : xs.length ≤ 1000000) (u : View) (ha : NumS u v xs) :
    FnP Tryd.prog 17 [v, str k] u fun r u' => StrS u' r (valuesOf k xs) := by
  obtain ⟨cs, ⟨ad, cap, rfl, h1⟩, hc1⟩ := ha
  refine FnP.intro [.tmp 4] Tryd.func17 rfl rfl rfl ?_
  intro w0 D hw0
  refine wc_seq ?_
  refine wc_region ?_
  refine rl_y (y_assign rfl rfl) rfl ?_
  refine rl_end (ρ' := [(0, _), (1, _)]) ⟨rfl, rfl, trivial⟩ ?_
  refine q_then ?_
  refine wc_seq ?_
  refine wc_region ?_
  refine rl_y (y_assign rfl rfl) rfl ?_
  refine rl_own_nil 5 505 9 1 rfl rfl rfl ?_
  refine rl_end (ρ' := [(0, _), (1, _), (5, _)]) ⟨rfl, rfl, rfl, trivial⟩ ?_
  refine q_then ?_
  refine wc_seq ?_
  refine wc_seq ?_
  refine wc_region ?_
  refine rl_y (y_assign rfl rfl) rfl ?_
  refine rl_end (ρ' := [(0, _), (1, _), (5, _), (6, _)]) ⟨rfl, rfl, rfl, rfl, trivial⟩ ?_
  refine q_then ?_
  refine wc_block ?_
  refine wc_loop (fun m ρ σ u' => ∃ i : Nat, i + m = xs.length ∧ VLe u u' ∧ σ = [(505, (none, .row 9 1 (valuesOf k (xs.take i)).length (strsC (valuesOf k (xs.take i)))))] ∧ ρ = [(0, .v (.slice ad xs.length cap)), (1, .v (str k)), (5, .s 505), (6, .v (.int .i64 i))] ∧ (u = u')) (xs.length) ?_ ?_
  ·
    refine ⟨[(0, _), (1, _), (5, _), (6, _)], [(505, _)], ⟨rfl, rfl, rfl, rfl, trivial⟩, ⟨rfl, trivial⟩, 0, by omega, VLe.refl _, (by first | rfl | simp), (by first | rfl | (simp only [List.cons.injEq, Prod.mk.injEq, SV.v.injEq, Value.int.injEq, true_and, and_true]; omega) | simp), ?_⟩
    rfl
  ·
    rintro m ρ σ u' ⟨i, hi3, hle3, rfl, rfl, rfl⟩
    refine wc_seq ?_
    refine wc_seq ?_
    refine wc_region ?_
    refine rl_y (y_move rfl rfl) rfl ?_
    refine rl_y (y_move rfl rfl) rfl ?_
    refine rl_y (y_len_v rfl rfl Tryd.s29 rfl) rfl ?_
    refine rl_y (y_lss rfl rfl rfl) rfl ?_
    refine rl_end (ρ' := [(0, _), (1, _), (5, _), (6, _), (10, _)]) ⟨rfl, rfl, rfl, rfl, rfl, trivial⟩ ?_
    refine q_then ?_
    refine wc_cond rfl (fun hb3 => ?_) (fun hb3 => ?_)
    ·
      refine wc_skip ?_
      refine q_then ?_
      refine wc_seq ?_
      refine wc_block ?_
      refine wc_seq ?_
      have hlt : i < xs.length := by have := of_decide_eq_true hb3; omega
      obtain ⟨x, vl, hg, hcut1, s1⟩ := hc1.at hlt
      have hft : valuesOf k (xs.take (i + 1)) = valuesOf k (xs.take i) ++ (if x.kind = k then some x.value else none).toList := filterMap_take _ hg
      have hfl : (valuesOf k (xs.take i)).length ≤ (xs.take i).length := filterMap_len _ _
      have htl : (xs.take i).length ≤ i := by simp; omega
      refine wc_region ?_
      refine rl_y (y_move rfl rfl) rfl ?_
      refine rl_y (y_move rfl rfl) rfl ?_
      refine rl_y (y_index_e rfl Tryd.s29 rfl rfl (by assumption) (by first | rfl | omega) (by omega)) rfl ?_
      refine rl_y (y_field_e rfl Tryd.f38' rfl (by decide) rfl) rfl ?_
      refine rl_y (y_load_el rfl Tryd.k9 rfl (by assumption) (by omega) (by assumption) (vs := [_]) rfl rfl rfl rfl) rfl ?_
      refine rl_y (y_move rfl rfl) rfl ?_
      refine rl_y (y_str_eql rfl rfl rfl) rfl ?_
      refine rl_end (ρ' := [(0, _), (1, _), (5, _), (6, _), (19, _)]) ⟨rfl, rfl, rfl, rfl, rfl, trivial⟩ ?_
      refine q_then ?_
      refine wc_cond rfl (fun hb5 => ?_) (fun hb5 => ?_)
      ·
        have h5 := of_decide_eq_true hb5; rw [if_pos h5] at hft
        refine wc_region ?_
        refine rl_y (y_move rfl rfl) rfl ?_
        refine rl_y (y_move rfl rfl) rfl ?_
        refine rl_y (y_move rfl rfl) rfl ?_
        refine rl_y (y_index_e rfl Tryd.s29 rfl rfl (by assumption) (by first | rfl | omega) (by omega)) rfl ?_
        refine rl_y (y_field_e rfl Tryd.f38' rfl (by decide) rfl) rfl ?_
        refine rl_y (y_load_el rfl Tryd.k9 rfl (by assumption) (by omega) (by assumption) (vs := [_]) rfl rfl rfl rfl) rfl ?_
        refine rl_do rfl rfl ?_
        refine do_buildSlice trivial Tryd.s32 Tryd.z9 (ps := [(_, _)]) rfl (xs := [_]) rfl rfl rfl rfl rfl rfl rfl ?_
        refine rl_do rfl rfl ?_
        refine do_append_s trivial rfl rfl Tryd.s32 Tryd.z9 rfl rfl rfl rfl rfl rfl (by first | rfl | exact oneAll | exact oneAll2 | simp [Value.oneCell', str]) (by omega) (by omega) (ρ' := [(0, _), (1, _), (6, _)]) ⟨rfl, rfl, rfl, trivial⟩ rfl rfl rfl ?_
        refine rl_y (y_assign rfl rfl) rfl ?_
        refine rl_ren 27 505 rfl rfl rfl ?_
        refine rl_end (ρ' := [(0, _), (1, _), (5, _), (6, _)]) ⟨rfl, rfl, rfl, rfl, trivial⟩ ?_
        refine q_block ?_
        refine q_then ?_
        refine wc_region ?_
        refine rl_y (y_move rfl rfl) rfl ?_
        refine rl_y (y_add rfl rfl rfl (wrap64_id (by omega))) rfl ?_
        refine rl_y (y_assign rfl rfl) rfl ?_
        refine rl_end (ρ' := [(0, _), (1, _), (5, _), (6, _)]) ⟨rfl, rfl, rfl, rfl, trivial⟩ ?_
        refine q_thenK ?_
        refine ⟨m - 1, [(0, _), (1, _), (5, _), (6, _)], [(505, _)], by omega, ⟨rfl, rfl, rfl, rfl, trivial⟩, ⟨rfl, trivial⟩, i + 1, by omega, hle3, (by simp only [hft]; try simp [strsC]), (by first | rfl | simp), ?_⟩
        rfl
      ·
        have h5 := of_decide_eq_false hb5; rw [if_neg h5] at hft
        refine wc_skip ?_
        refine q_block ?_
        refine q_then ?_
        refine wc_region ?_
        refine rl_y (y_move rfl rfl) rfl ?_
        refine rl_y (y_add rfl rfl rfl (wrap64_id (by omega))) rfl ?_
        refine rl_y (y_assign rfl rfl) rfl ?_
        refine rl_end (ρ' := [(0, _), (1, _), (5, _), (6, _)]) ⟨rfl, rfl, rfl, rfl, trivial⟩ ?_
        refine q_thenK ?_
        refine ⟨m - 1, [(0, _), (1, _), (5, _), (6, _)], [(505, _)], by omega, ⟨rfl, rfl, rfl, rfl, trivial⟩, ⟨rfl, trivial⟩, i + 1, by omega, hle3, (by simp only [hft]; try simp [strsC]), (by first | rfl | simp), ?_⟩
        rfl
    ·
      refine wc_exit ?_
      refine q_then_exit ?_
      refine q_then_exit ?_
      refine q_block_hit ?_
      refine q_then ?_
      refine wc_seq ?_
      refine wc_region ?_
      refine rl_y (y_move rfl rfl) rfl ?_
      refine rl_y (y_assign rfl rfl) rfl ?_
      refine rl_freeze 505 rfl ?_
      intro ad505 cap505 u505 hle505z hsl505
      refine rl_end (ρ' := [(4, _)]) ⟨rfl, trivial⟩ ?_
      refine q_then ?_
      refine wc_ret ?_
      refine fin1 (.tmp rfl) ?_
      have hge := of_decide_eq_false hb3
      rw [List.take_of_length_le (by omega)] at hsl505 ⊢
      exact strS_of rfl hsl505

/-! ### the notes -/
def noteStep (D : List Bs) (out : List Bs) : Inl → List Bs
  | .mk k t _ _ _ _ _ _ => if k = 12 ∧ t ∈ D ∧ t ∉ out then out ++ [t] else out
def notesIn (D : List Bs) (l : List Inl) : List Bs := l.foldl (noteStep D) []
def notesOf (bs : List Blk) : List Bs := notesIn (noteNames (listB bs)) (inls (listB bs))
theorem notesIn_take (D : List Bs) {xs : List Inl} {i : Nat} {x : Inl} (h : xs[i]? = some x) : notesIn D (xs.take (i + 1)) = noteStep D (notesIn D (xs.take i)) x := by
  obtain ⟨hlt, rfl⟩ := List.getElem?_eq_some_iff.1 h
  rw [List.take_succ_eq_append_getElem hlt]
  simp only [notesIn, List.foldl_append, List.foldl_cons, List.foldl_nil]
theorem noteStep_len (D out : List Bs) (x : Inl) : (noteStep D out x).length ≤ out.length + 1 := by
  cases x
  simp only [noteStep]
  split <;> simp
theorem notesIn_len (D : List Bs) (xs : List Inl) : (notesIn D xs).length ≤ xs.length := by
  have key : ∀ (xs : List Inl) (out : List Bs), (xs.foldl (noteStep D) out).length ≤ out.length + xs.length := by
    intro xs
    induction xs with
    | nil => intro out; simp
    | cons x xs ih =>
      intro out
      have := ih (noteStep D out x)
      have := noteStep_len D out x
      simp only [List.foldl_cons, List.length_cons]
      omega
  have := key xs []
  simpa [notesIn] using this

theorem refNotes_fn (vm vb : Value) (bs : List Blk) (u : View) (hbig : szB bs ≤ 100000) (ha : BlkS u vb bs) :
    FnP Tryd.prog 16 [.agg #[vm, vb]] u fun r u' => StrS u' r (notesOf bs) := by
  have hll := listB_len bs
  have hls := szL_listB bs
  have hli := inls_len (listB bs)
  refine FnP.intro [.tmp 2] Tryd.func16 rfl rfl rfl ?_
  intro w0 D hw0
  refine wc_seq ?_
  refine wc_region ?_
  refine rl_do rfl rfl ?_
  refine do_box trivial rfl (cs := [_, _]) rfl rfl rfl rfl ?_
  refine rl_y (y_assign rfl rfl) rfl ?_
  refine rl_end (ρ' := [(1, _)]) ⟨rfl, trivial⟩ ?_
  refine q_then ?_
  refine wc_seq ?_
  refine wc_region ?_
  refine rl_y (y_field_p rfl Tryd.f25' rfl (by decide) rfl) rfl ?_
  refine rl_y (y_load_p rfl Tryd.k23 rfl rfl rfl (vs := [_]) rfl rfl rfl) rfl ?_
  refine rl_do rfl rfl ?_
  refine do_call (caps := []) trivial rfl rfl Tryd.c38 rfl (FnP.mono (list_fn _ vb bs u (Nat.le_refl _) (by omega) ha) ?_)
  rintro v uL hle0 ⟨cs, ⟨ad, cap, rfl, h1⟩, hc1⟩ hleL
  refine rl_y (y_assign rfl rfl) rfl ?_
  refine rl_end (ρ' := [(1, _), (3, _)]) ⟨rfl, rfl, trivial⟩ ?_
  refine q_then ?_
  refine wc_seq ?_
  refine wc_region ?_
  refine rl_y (y_assign rfl rfl) rfl ?_
  refine rl_own_nil 4 504 9 1 rfl rfl rfl ?_
  refine rl_end (ρ' := [(1, _), (3, _), (4, _)]) ⟨rfl, rfl, rfl, trivial⟩ ?_
  refine q_then ?_
  refine wc_seq ?_
  refine wc_seq ?_
  refine wc_region ?_
  refine rl_y (y_assign rfl rfl) rfl ?_
  refine rl_end (ρ' := [(1, _), (3, _), (4, _), (5, _)]) ⟨rfl, rfl, rfl, rfl, trivial⟩ ?_
  refine q_then ?_
  refine wc_block ?_
  refine wc_loop (fun m ρ σ u' => ∃ i : Nat, i + m = (listB bs).length ∧ VLe uL u' ∧ σ = [(1, (none, .box [vm, vb])), (504, (none, .row 9 1 (noteNames ((listB bs).take i)).length (strsC (noteNames ((listB bs).take i)))))] ∧ ρ = [(1, .p 1 0), (3, .v (.slice ad (listB bs).length cap)), (4, .s 504), (5, .v (.int .i64 i))] ∧ (uL = u')) ((listB bs).length) ?_ ?_
  ·
    refine ⟨[(1, _), (3, _), (4, _), (5, _)], [(1, _), (504, _)], ⟨rfl, rfl, rfl, rfl, trivial⟩, ⟨rfl, rfl, trivial⟩, 0, by omega, VLe.refl _, (by first | rfl | simp), (by first | rfl | (simp only [List.cons.injEq, Prod.mk.injEq, SV.v.injEq, Value.int.injEq, true_and, and_true]; omega) | simp), ?_⟩
    rfl
  ·
    rintro m ρ σ u' ⟨i, hi4, hle4, rfl, rfl, rfl⟩
    refine wc_seq ?_
    refine wc_seq ?_
    refine wc_region ?_
    refine rl_y (y_move rfl rfl) rfl ?_
    refine rl_y (y_move rfl rfl) rfl ?_
    refine rl_y (y_len_v rfl rfl Tryd.s23 rfl) rfl ?_
    refine rl_y (y_lss rfl rfl rfl) rfl ?_
    refine rl_end (ρ' := [(1, _), (3, _), (4, _), (5, _), (16, _)]) ⟨rfl, rfl, rfl, rfl, rfl, trivial⟩ ?_
    refine q_then ?_
    refine wc_cond rfl (fun hb4 => ?_) (fun hb4 => ?_)
    ·
      refine wc_skip ?_
      refine q_then ?_
      refine wc_seq ?_
      refine wc_block ?_
      refine wc_seq ?_
      have hlt : i < (listB bs).length := by have := of_decide_eq_true hb4; omega
      obtain ⟨k, lv, inf, t, d, ti, a, line, kids, vc, vp, vl, vk, hg, hcut1, s1, s2, s3, s4, hok⟩ := hc1.at hlt
      have hft : noteNames ((listB bs).take (i + 1)) = noteNames ((listB bs).take i) ++ (if k = 14 then some inf else none).toList := filterMap_take _ hg
      have hfl : (noteNames ((listB bs).take i)).length ≤ ((listB bs).take i).length := filterMap_len _ _
      have htl : ((listB bs).take i).length ≤ i := by simp; omega
      refine wc_region ?_
      refine rl_y (y_move rfl rfl) rfl ?_
      refine rl_y (y_move rfl rfl) rfl ?_
      refine rl_y (y_index_e rfl Tryd.s23 rfl rfl (by assumption) (by first | rfl | omega) (by omega)) rfl ?_
      refine rl_y (y_field_e rfl Tryd.f42' rfl (by decide) rfl) rfl ?_
      refine rl_y (y_load_el rfl Tryd.k3 rfl (by assumption) (by omega) (by assumption) (vs := [_]) rfl rfl rfl rfl) rfl ?_
      refine rl_y (y_eql rfl rfl rfl) rfl ?_
      refine rl_end (ρ' := [(1, _), (3, _), (4, _), (5, _), (24, _)]) ⟨rfl, rfl, rfl, rfl, rfl, trivial⟩ ?_
      refine q_then ?_
      refine wc_cond rfl (fun hb6 => ?_) (fun hb6 => ?_)
      ·
        have h5 := of_decide_eq_true hb6; rw [if_pos h5] at hft
        refine wc_region ?_
        refine rl_y (y_move rfl rfl) rfl ?_
        refine rl_y (y_move rfl rfl) rfl ?_
        refine rl_y (y_move rfl rfl) rfl ?_
        refine rl_y (y_index_e rfl Tryd.s23 rfl rfl (by assumption) (by first | rfl | omega) (by omega)) rfl ?_
        refine rl_y (y_field_e rfl Tryd.f42' rfl (by decide) rfl) rfl ?_
        refine rl_y (y_load_el rfl Tryd.k9 rfl (by assumption) (by omega) (by assumption) (vs := [_]) rfl rfl rfl rfl) rfl ?_
        refine rl_do rfl rfl ?_
        refine do_buildSlice trivial Tryd.s32 Tryd.z9 (ps := [(_, _)]) rfl (xs := [_]) rfl rfl rfl rfl rfl rfl rfl ?_
        refine rl_do rfl rfl ?_
        refine do_append_s trivial rfl rfl Tryd.s32 Tryd.z9 rfl rfl rfl rfl rfl rfl (by first | rfl | exact oneAll | exact oneAll2 | simp [Value.oneCell', str]) (by omega) (by omega) (ρ' := [(1, _), (3, _), (5, _)]) ⟨rfl, rfl, rfl, trivial⟩ rfl rfl rfl ?_
        refine rl_y (y_assign rfl rfl) rfl ?_
        refine rl_ren 32 504 rfl rfl rfl ?_
        refine rl_end (ρ' := [(1, _), (3, _), (4, _), (5, _)]) ⟨rfl, rfl, rfl, rfl, trivial⟩ ?_
        refine q_block ?_
        refine q_then ?_
        refine wc_region ?_
        refine rl_y (y_move rfl rfl) rfl ?_
        refine rl_y (y_add rfl rfl rfl (wrap64_id (by omega))) rfl ?_
        refine rl_y (y_assign rfl rfl) rfl ?_
        refine rl_end (ρ' := [(1, _), (3, _), (4, _), (5, _)]) ⟨rfl, rfl, rfl, rfl, trivial⟩ ?_
        refine q_thenK ?_
        refine ⟨m - 1, [(1, _), (3, _), (4, _), (5, _)], [(1, _), (504, _)], by omega, ⟨rfl, rfl, rfl, rfl, trivial⟩, ⟨rfl, rfl, trivial⟩, i + 1, by omega, hle4, (by simp only [hft]; try simp [strsC]), (by first | rfl | simp), ?_⟩
        rfl
      ·
        have h5 := of_decide_eq_false hb6; rw [if_neg h5] at hft
        refine wc_skip ?_
        refine q_block ?_
        refine q_then ?_
        refine wc_region ?_
        refine rl_y (y_move rfl rfl) rfl ?_
        refine rl_y (y_add rfl rfl rfl (wrap64_id (by omega))) rfl ?_
        refine rl_y (y_assign rfl rfl) rfl ?_
        refine rl_end (ρ' := [(1, _), (3, _), (4, _), (5, _)]) ⟨rfl, rfl, rfl, rfl, trivial⟩ ?_
        refine q_thenK ?_
        refine ⟨m - 1, [(1, _), (3, _), (4, _), (5, _)], [(1, _), (504, _)], by omega, ⟨rfl, rfl, rfl, rfl, trivial⟩, ⟨rfl, rfl, trivial⟩, i + 1, by omega, hle4, (by simp only [hft]; try simp [strsC]), (by first | rfl | simp), ?_⟩
        rfl
    ·
      refine wc_exit ?_
      refine q_then_exit ?_
      refine q_then_exit ?_
      refine q_block_hit ?_
      refine q_then ?_
      refine wc_seq ?_
      have hge := of_decide_eq_false hb4
      rw [List.take_of_length_le (by omega)]
      refine wc_region ?_
      refine rl_y (y_field_p rfl Tryd.f25' rfl (by decide) rfl) rfl ?_
      refine rl_y (y_load_p rfl Tryd.k23 rfl rfl rfl (vs := [_]) rfl rfl rfl) rfl ?_
      refine rl_do rfl rfl ?_
      refine do_call (caps := []) trivial rfl rfl Tryd.c39 rfl (FnP.mono (inlines_fn vb bs uL (by omega) (ha.mono hleL)) ?_)
      rintro v uI hle0 ⟨is, ⟨adi, capi, rfl, hi1⟩, hic⟩ hleI
      refine rl_y (y_assign rfl rfl) rfl ?_
      refine rl_freeze 504 rfl ?_
      intro ad504 cap504 u504 hle504z hsl504
      have hD : StrS u504 (.slice ad504 (noteNames (listB bs)).length cap504) (noteNames (listB bs)) := strS_of rfl hsl504
      have hi1 := hi1.mono hle504z
      have hic := hic.mono hle504z
      have hDl : (noteNames (listB bs)).length ≤ (listB bs).length := filterMap_len _ _
      refine rl_end (ρ' := [(4, _), (6, _)]) ⟨rfl, rfl, trivial⟩ ?_
      refine q_then ?_
      refine wc_seq ?_
      refine wc_region ?_
      refine rl_y (y_assign rfl rfl) rfl ?_
      refine rl_own_nil 7 507 9 1 rfl rfl rfl ?_
      refine rl_end (ρ' := [(4, _), (6, _), (7, _)]) ⟨rfl, rfl, rfl, trivial⟩ ?_
      refine q_then ?_
      refine wc_seq ?_
      refine wc_seq ?_
      refine wc_region ?_
      refine rl_y (y_assign rfl rfl) rfl ?_
      refine rl_end (ρ' := [(4, _), (6, _), (7, _), (8, _)]) ⟨rfl, rfl, rfl, rfl, trivial⟩ ?_
      refine q_then ?_
      refine wc_block ?_
      refine wc_loop (fun m ρ σ u' => ∃ i : Nat, i + m = (inls (listB bs)).length ∧ VLe u504 u' ∧ σ = [(507, (none, .row 9 1 (notesIn (noteNames (listB bs)) ((inls (listB bs)).take i)).length (strsC (notesIn (noteNames (listB bs)) ((inls (listB bs)).take i)))))] ∧ ρ = [(4, .v (.slice ad504 (noteNames (listB bs)).length cap504)), (6, .v (.slice adi (inls (listB bs)).length capi)), (7, .s 507), (8, .v (.int .i64 i))] ∧ (u504 = u')) ((inls (listB bs)).length) ?_ ?_
      ·
        refine ⟨[(4, _), (6, _), (7, _), (8, _)], [(507, _)], ⟨rfl, rfl, rfl, rfl, trivial⟩, ⟨rfl, trivial⟩, 0, by omega, VLe.refl _, (by first | rfl | simp), (by first | rfl | (simp only [List.cons.injEq, Prod.mk.injEq, SV.v.injEq, Value.int.injEq, true_and, and_true]; omega) | simp), ?_⟩
        rfl
      ·
        rintro m ρ σ u' ⟨i, hi11, hle11, rfl, rfl, rfl⟩
        refine wc_seq ?_
        refine wc_seq ?_
        refine wc_region ?_
        refine rl_y (y_move rfl rfl) rfl ?_
        refine rl_y (y_move rfl rfl) rfl ?_
        refine rl_y (y_len_v rfl rfl Tryd.s36 rfl) rfl ?_
        refine rl_y (y_lss rfl rfl rfl) rfl ?_
        refine rl_end (ρ' := [(4, _), (6, _), (7, _), (8, _), (39, _)]) ⟨rfl, rfl, rfl, rfl, rfl, trivial⟩ ?_
        refine q_then ?_
        refine wc_cond rfl (fun hb11 => ?_) (fun hb11 => ?_)
        ·
          refine wc_skip ?_
          refine q_then ?_
          refine wc_seq ?_
          refine wc_block ?_
          refine wc_seq ?_
          have hlt : i < (inls (listB bs)).length := by have := of_decide_eq_true hb11; omega
          obtain ⟨k, t, d, ti, a, args, cites, kids, vc, vp, va, vt, vk, hg, hcut1, s1, s2, s3, s4, s5, hok⟩ := hic.at hlt
          have oneAll := (hic.get i _ hg).one
          rw [hcut1] at oneAll
          have hst := notesIn_take (noteNames (listB bs)) hg
          have hnl := notesIn_len (noteNames (listB bs)) ((inls (listB bs)).take i)
          have htl : ((inls (listB bs)).take i).length ≤ i := by simp; omega
          have hO : noteStep (noteNames (listB bs)) (notesIn (noteNames (listB bs)) ((inls (listB bs)).take i)) (.mk k t d ti a args cites kids) = if k = 12 ∧ t ∈ noteNames (listB bs) ∧ t ∉ notesIn (noteNames (listB bs)) ((inls (listB bs)).take i) then notesIn (noteNames (listB bs)) ((inls (listB bs)).take i) ++ [t] else notesIn (noteNames (listB bs)) ((inls (listB bs)).take i) := rfl
          rw [hO] at hst
          refine wc_region ?_
          refine rl_y (y_move rfl rfl) rfl ?_
          refine rl_y (y_move rfl rfl) rfl ?_
          refine rl_y (y_index_e rfl Tryd.s36 rfl rfl (by assumption) (by first | rfl | omega) (by omega)) rfl ?_
          refine rl_y (y_load_el rfl Tryd.k57 rfl (by assumption) (by omega) (by assumption) (vs := [_, _, _, _, _, _, _, _, _, _]) rfl rfl rfl rfl) rfl ?_
          refine rl_do rfl rfl ?_
          refine do_alloc trivial Tryd.z57 rfl rfl rfl ?_
          refine rl_do rfl rfl ?_
          refine do_store_p trivial rfl Tryd.k57 rfl rfl rfl (vs := [_, _, _, _, _, _, _, _, _, _]) rfl rfl (by first | rfl | exact oneAll | exact oneAll2 | simp [Value.oneCell', str]) (Nat.le_of_ble_eq_true rfl) rfl ?_
          refine rl_end (ρ' := [(4, _), (6, _), (7, _), (8, _), (9, _)]) ⟨rfl, rfl, rfl, rfl, rfl, trivial⟩ ?_
          refine q_then ?_
          refine wc_seq ?_
          refine wc_cutB 61 (decide (k = 12 ∧ t ∈ noteNames (listB bs) ∧ t ∉ notesIn (noteNames (listB bs)) ((inls (listB bs)).take i))) (ρk := [(4, _), (6, _), (7, _), (8, _), (9, _)]) ⟨rfl, rfl, rfl, rfl, rfl, trivial⟩ ?_ ?_
          ·
            refine wc_region ?_
            refine rl_y (y_field_p rfl Tryd.f57' rfl (by decide) rfl) rfl ?_
            refine rl_y (y_load_p rfl Tryd.k3 rfl rfl rfl (vs := [_]) rfl rfl rfl) rfl ?_
            refine rl_y (y_eql rfl rfl rfl) rfl ?_
            refine rl_y (y_move rfl rfl) rfl ?_
            rcases Bool.eq_false_or_eq_true (decide (k = 12)) with hg14_3 | hg14_3
            ·
              simp only [hg14_3]
              refine rl_on rfl rfl ?_
              refine rl_y (y_move rfl rfl) rfl ?_
              refine rl_on rfl rfl ?_
              refine rl_y (y_field_p rfl Tryd.f57' rfl (by decide) rfl) rfl ?_
              refine rl_on rfl rfl ?_
              refine rl_y (y_load_p rfl Tryd.k9 rfl rfl rfl (vs := [_]) rfl rfl rfl) rfl ?_
              refine rl_on rfl rfl ?_
              refine rl_do rfl rfl ?_
              refine do_call_f (caps := []) trivial rfl rfl Tryd.c40 rfl (FnP.mono (in_fn _ _ t (by omega) u504 hD) ?_)
              rintro v u1 hle1 rfl
              refine rl_y (y_pick_t rfl rfl rfl) rfl ?_
              refine rl_y (y_move rfl rfl) rfl ?_
              rcases Bool.eq_false_or_eq_true (decide (t ∈ noteNames (listB bs))) with hg14_9 | hg14_9
              ·
                simp only [hg14_9]
                refine rl_on rfl rfl ?_
                refine rl_y (y_move rfl rfl) rfl ?_
                refine rl_on rfl rfl ?_
                refine rl_y (y_field_p rfl Tryd.f57' rfl (by decide) rfl) rfl ?_
                refine rl_on rfl rfl ?_
                refine rl_y (y_load_p rfl Tryd.k9 rfl rfl rfl (vs := [_]) rfl rfl rfl) rfl ?_
                refine rl_on rfl rfl ?_
                refine rl_do rfl rfl ?_
                refine do_call_b (caps := []) 507 trivial rfl rfl Tryd.c40 rfl ?_
                intro adb capb ub hleb hslb
                refine ⟨_, rfl, FnP.mono (in_fn _ _ t (by omega) ub (strS_of rfl hslb)) ?_⟩
                rintro v u1 hle1 rfl
                refine rl_on rfl rfl ?_
                refine rl_y (y_not rfl rfl) rfl ?_
                refine rl_y (y_pick_t rfl rfl rfl) rfl ?_
                exact cutB_end rfl ⟨rfl, rfl, rfl, rfl, rfl, trivial⟩ (by simp_all)
              ·
                simp only [hg14_9]
                refine rl_off rfl rfl rfl rfl ?_
                refine rl_off rfl rfl rfl rfl ?_
                refine rl_off rfl rfl rfl rfl ?_
                refine rl_off rfl rfl rfl rfl ?_
                refine rl_off rfl rfl rfl rfl ?_
                refine rl_y (y_pick_f rfl rfl rfl) rfl ?_
                exact cutB_end rfl ⟨rfl, rfl, rfl, rfl, rfl, trivial⟩ (by simp_all)
            ·
              simp only [hg14_3]
              refine rl_off rfl rfl rfl rfl ?_
              refine rl_off rfl rfl rfl rfl ?_
              refine rl_off rfl rfl rfl rfl ?_
              refine rl_off rfl rfl rfl rfl ?_
              refine rl_y (y_pick_f rfl rfl rfl) rfl ?_
              refine rl_y (y_move rfl rfl) rfl ?_
              refine rl_off rfl rfl rfl rfl ?_
              refine rl_off rfl rfl rfl rfl ?_
              refine rl_off rfl rfl rfl rfl ?_
              refine rl_off rfl rfl rfl rfl ?_
              refine rl_off rfl rfl rfl rfl ?_
              refine rl_y (y_pick_f rfl rfl rfl) rfl ?_
              exact cutB_end rfl ⟨rfl, rfl, rfl, rfl, rfl, trivial⟩ (by simp_all)
          refine q_then ?_
          refine wc_cond rfl (fun hb14 => ?_) (fun hb14 => ?_)
          ·
            have h5 := of_decide_eq_true hb14; rw [if_pos h5] at hst
            refine wc_region ?_
            refine rl_y (y_move rfl rfl) rfl ?_
            refine rl_y (y_field_p rfl Tryd.f57' rfl (by decide) rfl) rfl ?_
            refine rl_y (y_load_p rfl Tryd.k9 rfl rfl rfl (vs := [_]) rfl rfl rfl) rfl ?_
            refine rl_do rfl rfl ?_
            refine do_buildSlice trivial Tryd.s32 Tryd.z9 (ps := [(_, _)]) rfl (xs := [_]) rfl rfl rfl rfl rfl rfl rfl ?_
            refine rl_do rfl rfl ?_
            refine do_append_s trivial rfl rfl Tryd.s32 Tryd.z9 rfl rfl rfl rfl rfl rfl (by first | rfl | exact oneAll | exact oneAll2 | simp [Value.oneCell', str]) (by omega) (by omega) (ρ' := [(4, _), (6, _), (8, _)]) ⟨rfl, rfl, rfl, trivial⟩ rfl rfl rfl ?_
            refine rl_y (y_assign rfl rfl) rfl ?_
            refine rl_ren 66 507 rfl rfl rfl ?_
            refine rl_end (ρ' := [(4, _), (6, _), (7, _), (8, _)]) ⟨rfl, rfl, rfl, rfl, trivial⟩ ?_
            refine q_block ?_
            refine q_then ?_
            refine wc_region ?_
            refine rl_y (y_move rfl rfl) rfl ?_
            refine rl_y (y_add rfl rfl rfl (wrap64_id (by omega))) rfl ?_
            refine rl_y (y_assign rfl rfl) rfl ?_
            refine rl_end (ρ' := [(4, _), (6, _), (7, _), (8, _)]) ⟨rfl, rfl, rfl, rfl, trivial⟩ ?_
            refine q_thenK ?_
            refine ⟨m - 1, [(4, _), (6, _), (7, _), (8, _)], [(507, _)], by omega, ⟨rfl, rfl, rfl, rfl, trivial⟩, ⟨rfl, trivial⟩, i + 1, by omega, hle11, (by simp only [hst]; try simp [strsC]), (by first | rfl | simp), ?_⟩
            rfl
          ·
            have h5 := of_decide_eq_false hb14; rw [if_neg h5] at hst
            refine wc_skip ?_
            refine q_block ?_
            refine q_then ?_
            refine wc_region ?_
            refine rl_y (y_move rfl rfl) rfl ?_
            refine rl_y (y_add rfl rfl rfl (wrap64_id (by omega))) rfl ?_
            refine rl_y (y_assign rfl rfl) rfl ?_
            refine rl_end (ρ' := [(4, _), (6, _), (7, _), (8, _)]) ⟨rfl, rfl, rfl, rfl, trivial⟩ ?_
            refine q_thenK ?_
            refine ⟨m - 1, [(4, _), (6, _), (7, _), (8, _)], [(507, _)], by omega, ⟨rfl, rfl, rfl, rfl, trivial⟩, ⟨rfl, trivial⟩, i + 1, by omega, hle11, (by simp only [hst]; try simp [strsC]), (by first | rfl | simp), ?_⟩
            rfl
        ·
          refine wc_exit ?_
          refine q_then_exit ?_
          refine q_then_exit ?_
          refine q_block_hit ?_
          refine q_then ?_
          refine wc_seq ?_
          refine wc_region ?_
          refine rl_y (y_move rfl rfl) rfl ?_
          refine rl_y (y_assign rfl rfl) rfl ?_
          refine rl_freeze 507 rfl ?_
          intro ad507 cap507 u507 hle507z hsl507
          refine rl_end (ρ' := [(2, _)]) ⟨rfl, trivial⟩ ?_
          refine q_then ?_
          refine wc_ret ?_
          refine fin1 (.tmp rfl) ?_
          have hge := of_decide_eq_false hb11
          rw [List.take_of_length_le (by omega)] at hsl507 ⊢
          exact strS_of rfl hsl507
end Go.Proofs.Ythnboadnehbciaa
