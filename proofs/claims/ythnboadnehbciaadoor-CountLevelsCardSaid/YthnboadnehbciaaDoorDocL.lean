/- All inlines of a line, all blocks of a document: one behind the other. -/
import Derived.Test.YthnboadnehbciaaDoorCntC
namespace Go.Proofs.Ythnboadnehbciaa
open Go Go.Eng
set_option linter.unusedSimpArgs false
set_option linter.unusedVariables false
set_option maxRecDepth 4000

mutual
def deep1 : Inl → List Inl
  | .mk k t d ti a args cites kids => .mk k t d ti a args cites kids :: deep kids
def deep : List Inl → List Inl
  | [] => []
  | x :: xs => deep1 x ++ deep xs
end
mutual
def listb : Blk → List Blk
  | .mk k lv inf t d ti a line kids => .mk k lv inf t d ti a line kids :: listB kids
def listB : List Blk → List Blk
  | [] => []
  | x :: xs => listb x ++ listB xs
end
theorem deep_append : ∀ (xs ys : List Inl), deep (xs ++ ys) = deep xs ++ deep ys
  | [], ys => by simp [deep]
  | x :: xs, ys => by
    rw [List.cons_append]
    simp only [deep, deep_append xs ys, List.append_assoc]
theorem listB_append : ∀ (xs ys : List Blk), listB (xs ++ ys) = listB xs ++ listB ys
  | [], ys => by simp [listB]
  | x :: xs, ys => by
    rw [List.cons_append]
    simp only [listB, listB_append xs ys, List.append_assoc]
theorem deep_take {xs : List Inl} {i : Nat} {x : Inl} (h : xs[i]? = some x) : deep (xs.take (i + 1)) = deep (xs.take i) ++ deep1 x := by
  obtain ⟨hlt, rfl⟩ := List.getElem?_eq_some_iff.1 h
  rw [List.take_succ_eq_append_getElem hlt, deep_append]
  simp [deep]
theorem listB_take {xs : List Blk} {i : Nat} {x : Blk} (h : xs[i]? = some x) : listB (xs.take (i + 1)) = listB (xs.take i) ++ listb x := by
  obtain ⟨hlt, rfl⟩ := List.getElem?_eq_some_iff.1 h
  rw [List.take_succ_eq_append_getElem hlt, listB_append]
  simp [listB]
mutual
theorem deep1_len : ∀ x : Inl, (deep1 x).length = sz1 x
  | .mk k t d ti a args cites kids => by simp only [deep1, sz1, List.length_cons, deep_len kids]; omega
theorem deep_len : ∀ xs : List Inl, (deep xs).length = szI xs
  | [] => rfl
  | x :: xs => by simp only [deep, szI, List.length_append, deep1_len x, deep_len xs]
end
mutual
theorem listb_len : ∀ x : Blk, (listb x).length ≤ szb x
  | .mk k lv inf t d ti a line kids => by have := listB_len kids; simp only [listb, szb, List.length_cons]; omega
theorem listB_len : ∀ xs : List Blk, (listB xs).length ≤ szB xs
  | [] => Nat.le_refl _
  | x :: xs => by have := listb_len x; have := listB_len xs; simp only [listB, szB, List.length_append]; omega
end
theorem szI_take_le : ∀ (xs : List Inl) (i : Nat), szI (xs.take i) ≤ szI xs
  | [], i => by simp
  | x :: xs, 0 => by simp [szI]
  | x :: xs, i + 1 => by have := szI_take_le xs i; simp only [List.take_succ_cons, szI]; omega
theorem szB_take_le : ∀ (xs : List Blk) (i : Nat), szB (xs.take i) ≤ szB xs
  | [], i => by simp
  | x :: xs, 0 => by simp [szB]
  | x :: xs, i + 1 => by have := szB_take_le xs i; simp only [List.take_succ_cons, szB]; omega
theorem inlS_of {u : View} {ad : Option Addr} {cap n : Nat} {xs : List Inl} {cs : List Value} (hn : n = xs.length) (h : SlC u ad n cap 10 cs) (hc : InlsC u xs cs) : InlS u (.slice ad n cap) xs := by
  subst hn
  exact ⟨cs, ⟨ad, cap, rfl, h⟩, hc⟩
theorem blkS_of {u : View} {ad : Option Addr} {cap n : Nat} {xs : List Blk} {cs : List Value} (hn : n = xs.length) (h : SlC u ad n cap 11 cs) (hc : BlksC u xs cs) : BlkS u (.slice ad n cap) xs := by
  subst hn
  exact ⟨cs, ⟨ad, cap, rfl, h⟩, hc⟩

theorem deep_fn (n : Nat) : ∀ (v : Value) (xs : List Inl) (u : View), szI xs ≤ n → szI xs ≤ 1000000 → InlS u v xs →
    FnP Tryd.prog 59 [v] u fun r u' => InlS u' r (deep xs) := by
  induction n using Nat.strongRecOn with
  | _ n ih =>
  intro v xs u hsz hbig ha
  have hlx := len_szI xs
  obtain ⟨cs, ⟨ad, cap, rfl, h1⟩, hc1⟩ := ha
  refine FnP.intro [.tmp 2] Tryd.func59 rfl rfl rfl ?_
  intro w0 D hw0
  refine wc_seq ?_
  refine wc_region ?_
  refine rl_y (y_assign rfl rfl) rfl ?_
  refine rl_end (ρ' := [(0, _)]) ⟨rfl, trivial⟩ ?_
  refine q_then ?_
  refine wc_seq ?_
  refine wc_region ?_
  refine rl_y (y_assign rfl rfl) rfl ?_
  refine rl_own_nil 3 503 57 10 rfl rfl rfl ?_
  refine rl_end (ρ' := [(0, _), (3, _)]) ⟨rfl, rfl, trivial⟩ ?_
  refine q_then ?_
  refine wc_seq ?_
  refine wc_seq ?_
  refine wc_region ?_
  refine rl_y (y_assign rfl rfl) rfl ?_
  refine rl_end (ρ' := [(0, _), (3, _), (4, _)]) ⟨rfl, rfl, rfl, trivial⟩ ?_
  refine q_then ?_
  refine wc_block ?_
  refine wc_loop (fun m ρ σ u' => ∃ i : Nat, i + m = xs.length ∧ VLe u u' ∧ ∃ (acc : List Value), σ = [(503, (none, .row 57 10 (deep (xs.take i)).length acc))] ∧ ρ = [(0, .v (.slice ad xs.length cap)), (3, .s 503), (4, .v (.int .i64 i))] ∧ (InlsC u' (deep (xs.take i)) acc)) (xs.length) ?_ ?_
  ·
    refine ⟨[(0, _), (3, _), (4, _)], [(503, _)], ⟨rfl, rfl, rfl, trivial⟩, ⟨rfl, trivial⟩, 0, by omega, VLe.refl _, [], (by first | rfl | simp), (by first | rfl | (simp only [List.cons.injEq, Prod.mk.injEq, SV.v.injEq, Value.int.injEq, true_and, and_true]; omega) | simp), ?_⟩
    exact InlsC.nil
  ·
    rintro m ρ σ u' ⟨i, hi3, hle3, acc, rfl, rfl, hacc⟩
    have h1' := h1.mono hle3
    have hc1' := hc1.mono hle3
    refine wc_seq ?_
    refine wc_seq ?_
    refine wc_region ?_
    refine rl_y (y_move rfl rfl) rfl ?_
    refine rl_y (y_move rfl rfl) rfl ?_
    refine rl_y (y_len_v rfl rfl Tryd.s36 rfl) rfl ?_
    refine rl_y (y_lss rfl rfl rfl) rfl ?_
    refine rl_end (ρ' := [(0, _), (3, _), (4, _), (8, _)]) ⟨rfl, rfl, rfl, rfl, trivial⟩ ?_
    refine q_then ?_
    refine wc_cond rfl (fun hb3 => ?_) (fun hb3 => ?_)
    ·
      refine wc_skip ?_
      refine q_then ?_
      refine wc_seq ?_
      refine wc_block ?_
      refine wc_seq ?_
      have hlt : i < xs.length := by have := of_decide_eq_true hb3; omega
      obtain ⟨k, t, d, ti, a, args, cites, kids, vc, vp, va, vt, vk, hg, hcut1, s1, s2, s3, s4, s5, hok⟩ := hc1'.at hlt
      have hx := hc1'.get i _ hg
      rw [hcut1] at hx
      have oneAll := hx.one
      have hkid := szI_kids hg
      have hst := szI_take hg
      have hs1 := szI_take_le xs i
      have hs2 := szI_take_le xs (i + 1)
      have hdl := deep_len (xs.take i)
      have hdk := deep_len kids
      simp only [sz1] at hst
      refine wc_region ?_
      refine rl_y (y_move rfl rfl) rfl ?_
      refine rl_y (y_move rfl rfl) rfl ?_
      refine rl_y (y_move rfl rfl) rfl ?_
      refine rl_y (y_index_e rfl Tryd.s36 rfl rfl (by assumption) (by first | rfl | omega) (by omega)) rfl ?_
      refine rl_y (y_load_el rfl Tryd.k57 rfl (by assumption) (by omega) (by assumption) (vs := [_, _, _, _, _, _, _, _, _, _]) rfl rfl rfl rfl) rfl ?_
      refine rl_do rfl rfl ?_
      refine do_buildSlice trivial Tryd.s36 Tryd.z57 (ps := [(_, _)]) rfl (xs := [_, _, _, _, _, _, _, _, _, _]) rfl rfl rfl rfl rfl rfl rfl ?_
      refine rl_do rfl rfl ?_
      refine do_append_s trivial rfl rfl Tryd.s36 Tryd.z57 rfl rfl rfl rfl rfl rfl (by first | rfl | exact oneAll | exact oneAll2 | simp [Value.oneCell', str]) (by omega) (by omega) (ρ' := [(0, _), (4, _)]) ⟨rfl, rfl, trivial⟩ rfl rfl rfl ?_
      refine rl_y (y_assign rfl rfl) rfl ?_
      refine rl_ren 17 503 rfl rfl rfl ?_
      refine rl_end (ρ' := [(0, _), (3, _), (4, _)]) ⟨rfl, rfl, rfl, trivial⟩ ?_
      refine q_then ?_
      refine wc_region ?_
      refine rl_y (y_move rfl rfl) rfl ?_
      refine rl_y (y_move rfl rfl) rfl ?_
      refine rl_y (y_move rfl rfl) rfl ?_
      refine rl_y (y_index_e rfl Tryd.s36 rfl rfl (by assumption) (by first | rfl | omega) (by omega)) rfl ?_
      refine rl_y (y_field_e rfl Tryd.f57' rfl (by decide) rfl) rfl ?_
      refine rl_y (y_load_el rfl Tryd.k36 rfl (by assumption) (by omega) (by assumption) (vs := [_]) rfl rfl rfl rfl) rfl ?_
      refine rl_do rfl rfl ?_
      refine do_call (caps := []) trivial rfl rfl Tryd.c59 rfl (FnP.mono (ih (szI kids) (by omega) vk kids u' (Nat.le_refl _) (by omega) s5) ?_)
      rintro v u1 hle0 ⟨ks, ⟨adk, capk, rfl, hk⟩, hkc⟩ hle1
      refine rl_do rfl rfl ?_
      refine do_append_v trivial rfl rfl Tryd.s36 Tryd.z57 rfl rfl rfl rfl rfl (by assumption) hkc.ones (by omega) (by omega) (ρ' := [(0, _), (4, _)]) ⟨rfl, rfl, trivial⟩ rfl rfl rfl ?_
      refine rl_y (y_assign rfl rfl) rfl ?_
      refine rl_ren 25 503 rfl rfl rfl ?_
      refine rl_end (ρ' := [(0, _), (3, _), (4, _)]) ⟨rfl, rfl, rfl, trivial⟩ ?_
      refine q_block ?_
      refine q_then ?_
      refine wc_region ?_
      refine rl_y (y_move rfl rfl) rfl ?_
      refine rl_y (y_add rfl rfl rfl (wrap64_id (by omega))) rfl ?_
      refine rl_y (y_assign rfl rfl) rfl ?_
      refine rl_end (ρ' := [(0, _), (3, _), (4, _)]) ⟨rfl, rfl, rfl, trivial⟩ ?_
      refine q_thenK ?_
      refine ⟨m - 1, [(0, _), (3, _), (4, _)], [(503, _)], by omega, ⟨rfl, rfl, rfl, trivial⟩, ⟨rfl, trivial⟩, i + 1, by omega, (hle3.trans hle1), _, (by rw [deep_take hg]; simp only [deep1, List.length_append, List.length_cons]; congr 4; omega), (by first | rfl | simp), ?_⟩
      rw [deep_take hg]
      simp only [deep1]
      rw [List.append_assoc]
      exact (hacc.mono hle1).append ((InlsC.one (hx.mono hle1)).append hkc)
    ·
      refine wc_exit ?_
      refine q_then_exit ?_
      refine q_then_exit ?_
      refine q_block_hit ?_
      refine q_then ?_
      refine wc_seq ?_
      refine wc_region ?_
      refine rl_y (y_move rfl rfl) rfl ?_
      refine rl_y (y_assign rfl rfl) rfl ?_
      refine rl_freeze 503 rfl ?_
      intro ad503 cap503 u503 hle503z hsl503
      refine rl_end (ρ' := [(2, _)]) ⟨rfl, trivial⟩ ?_
      refine q_then ?_
      refine wc_ret ?_
      refine fin1 (.tmp rfl) ?_
      have hge := of_decide_eq_false hb3
      rw [List.take_of_length_le (by omega)] at hacc hsl503 ⊢
      exact inlS_of rfl hsl503 (hacc.mono hle503z)

theorem list_fn (n : Nat) : ∀ (v : Value) (xs : List Blk) (u : View), szB xs ≤ n → szB xs ≤ 1000000 → BlkS u v xs →
    FnP Tryd.prog 38 [v] u fun r u' => BlkS u' r (listB xs) := by
  induction n using Nat.strongRecOn with
  | _ n ih =>
  intro v xs u hsz hbig ha
  have hlx := len_szB xs
  obtain ⟨cs, ⟨ad, cap, rfl, h1⟩, hc1⟩ := ha
  refine FnP.intro [.tmp 2] Tryd.func38 rfl rfl rfl ?_
  intro w0 D hw0
  refine wc_seq ?_
  refine wc_region ?_
  refine rl_y (y_assign rfl rfl) rfl ?_
  refine rl_end (ρ' := [(0, _)]) ⟨rfl, trivial⟩ ?_
  refine q_then ?_
  refine wc_seq ?_
  refine wc_region ?_
  refine rl_y (y_assign rfl rfl) rfl ?_
  refine rl_own_nil 3 503 42 11 rfl rfl rfl ?_
  refine rl_end (ρ' := [(0, _), (3, _)]) ⟨rfl, rfl, trivial⟩ ?_
  refine q_then ?_
  refine wc_seq ?_
  refine wc_seq ?_
  refine wc_region ?_
  refine rl_y (y_assign rfl rfl) rfl ?_
  refine rl_end (ρ' := [(0, _), (3, _), (4, _)]) ⟨rfl, rfl, rfl, trivial⟩ ?_
  refine q_then ?_
  refine wc_block ?_
  refine wc_loop (fun m ρ σ u' => ∃ i : Nat, i + m = xs.length ∧ VLe u u' ∧ ∃ (acc : List Value), σ = [(503, (none, .row 42 11 (listB (xs.take i)).length acc))] ∧ ρ = [(0, .v (.slice ad xs.length cap)), (3, .s 503), (4, .v (.int .i64 i))] ∧ (BlksC u' (listB (xs.take i)) acc)) (xs.length) ?_ ?_
  ·
    refine ⟨[(0, _), (3, _), (4, _)], [(503, _)], ⟨rfl, rfl, rfl, trivial⟩, ⟨rfl, trivial⟩, 0, by omega, VLe.refl _, [], (by first | rfl | simp), (by first | rfl | (simp only [List.cons.injEq, Prod.mk.injEq, SV.v.injEq, Value.int.injEq, true_and, and_true]; omega) | simp), ?_⟩
    exact BlksC.nil
  ·
    rintro m ρ σ u' ⟨i, hi3, hle3, acc, rfl, rfl, hacc⟩
    have h1' := h1.mono hle3
    have hc1' := hc1.mono hle3
    refine wc_seq ?_
    refine wc_seq ?_
    refine wc_region ?_
    refine rl_y (y_move rfl rfl) rfl ?_
    refine rl_y (y_move rfl rfl) rfl ?_
    refine rl_y (y_len_v rfl rfl Tryd.s23 rfl) rfl ?_
    refine rl_y (y_lss rfl rfl rfl) rfl ?_
    refine rl_end (ρ' := [(0, _), (3, _), (4, _), (8, _)]) ⟨rfl, rfl, rfl, rfl, trivial⟩ ?_
    refine q_then ?_
    refine wc_cond rfl (fun hb3 => ?_) (fun hb3 => ?_)
    ·
      refine wc_skip ?_
      refine q_then ?_
      refine wc_seq ?_
      refine wc_block ?_
      refine wc_seq ?_
      have hlt : i < xs.length := by have := of_decide_eq_true hb3; omega
      obtain ⟨k, lv, inf, t, d, ti, a, line, kids, vc, vp, vl, vk, hg, hcut1, s1, s2, s3, s4, hok⟩ := hc1'.at hlt
      have hx := hc1'.get i _ hg
      rw [hcut1] at hx
      have oneAll := hx.one
      have hkid := (szB_kids hg).1
      have hst := szB_take hg
      have hs1 := szB_take_le xs i
      have hs2 := szB_take_le xs (i + 1)
      have hdl := listB_len (xs.take i)
      have hdk := listB_len kids
      simp only [szb] at hst
      refine wc_region ?_
      refine rl_y (y_move rfl rfl) rfl ?_
      refine rl_y (y_move rfl rfl) rfl ?_
      refine rl_y (y_move rfl rfl) rfl ?_
      refine rl_y (y_index_e rfl Tryd.s23 rfl rfl (by assumption) (by first | rfl | omega) (by omega)) rfl ?_
      refine rl_y (y_load_el rfl Tryd.k42 rfl (by assumption) (by omega) (by assumption) (vs := [_, _, _, _, _, _, _, _, _, _, _]) rfl rfl rfl rfl) rfl ?_
      refine rl_do rfl rfl ?_
      refine do_buildSlice trivial Tryd.s23 Tryd.z42 (ps := [(_, _)]) rfl (xs := [_, _, _, _, _, _, _, _, _, _, _]) rfl rfl rfl rfl rfl rfl rfl ?_
      refine rl_do rfl rfl ?_
      refine do_append_s trivial rfl rfl Tryd.s23 Tryd.z42 rfl rfl rfl rfl rfl rfl (by first | rfl | exact oneAll | exact oneAll2 | simp [Value.oneCell', str]) (by omega) (by omega) (ρ' := [(0, _), (4, _)]) ⟨rfl, rfl, trivial⟩ rfl rfl rfl ?_
      refine rl_y (y_assign rfl rfl) rfl ?_
      refine rl_ren 17 503 rfl rfl rfl ?_
      refine rl_end (ρ' := [(0, _), (3, _), (4, _)]) ⟨rfl, rfl, rfl, trivial⟩ ?_
      refine q_then ?_
      refine wc_region ?_
      refine rl_y (y_move rfl rfl) rfl ?_
      refine rl_y (y_move rfl rfl) rfl ?_
      refine rl_y (y_move rfl rfl) rfl ?_
      refine rl_y (y_index_e rfl Tryd.s23 rfl rfl (by assumption) (by first | rfl | omega) (by omega)) rfl ?_
      refine rl_y (y_field_e rfl Tryd.f42' rfl (by decide) rfl) rfl ?_
      refine rl_y (y_load_el rfl Tryd.k23 rfl (by assumption) (by omega) (by assumption) (vs := [_]) rfl rfl rfl rfl) rfl ?_
      refine rl_do rfl rfl ?_
      refine do_call (caps := []) trivial rfl rfl Tryd.c38 rfl (FnP.mono (ih (szB kids) (by omega) vk kids u' (Nat.le_refl _) (by omega) s4) ?_)
      rintro v u1 hle0 ⟨ks, ⟨adk, capk, rfl, hk⟩, hkc⟩ hle1
      refine rl_do rfl rfl ?_
      refine do_append_v trivial rfl rfl Tryd.s23 Tryd.z42 rfl rfl rfl rfl rfl (by assumption) hkc.ones (by omega) (by omega) (ρ' := [(0, _), (4, _)]) ⟨rfl, rfl, trivial⟩ rfl rfl rfl ?_
      refine rl_y (y_assign rfl rfl) rfl ?_
      refine rl_ren 25 503 rfl rfl rfl ?_
      refine rl_end (ρ' := [(0, _), (3, _), (4, _)]) ⟨rfl, rfl, rfl, trivial⟩ ?_
      refine q_block ?_
      refine q_then ?_
      refine wc_region ?_
      refine rl_y (y_move rfl rfl) rfl ?_
      refine rl_y (y_add rfl rfl rfl (wrap64_id (by omega))) rfl ?_
      refine rl_y (y_assign rfl rfl) rfl ?_
      refine rl_end (ρ' := [(0, _), (3, _), (4, _)]) ⟨rfl, rfl, rfl, trivial⟩ ?_
      refine q_thenK ?_
      refine ⟨m - 1, [(0, _), (3, _), (4, _)], [(503, _)], by omega, ⟨rfl, rfl, rfl, trivial⟩, ⟨rfl, trivial⟩, i + 1, by omega, (hle3.trans hle1), _, (by rw [listB_take hg]; simp only [listb, List.length_append, List.length_cons]; congr 4; omega), (by first | rfl | simp), ?_⟩
      rw [listB_take hg]
      simp only [listb]
      rw [List.append_assoc]
      exact (hacc.mono hle1).append ((BlksC.one (hx.mono hle1)).append hkc)
    ·
      refine wc_exit ?_
      refine q_then_exit ?_
      refine q_then_exit ?_
      refine q_block_hit ?_
      refine q_then ?_
      refine wc_seq ?_
      refine wc_region ?_
      refine rl_y (y_move rfl rfl) rfl ?_
      refine rl_y (y_assign rfl rfl) rfl ?_
      refine rl_freeze 503 rfl ?_
      intro ad503 cap503 u503 hle503z hsl503
      refine rl_end (ρ' := [(2, _)]) ⟨rfl, trivial⟩ ?_
      refine q_then ?_
      refine wc_ret ?_
      refine fin1 (.tmp rfl) ?_
      have hge := of_decide_eq_false hb3
      rw [List.take_of_length_le (by omega)] at hacc hsl503 ⊢
      exact blkS_of rfl hsl503 (hacc.mono hle503z)

def lineOf : Blk → List Inl
  | .mk _ _ _ _ _ _ _ line _ => line
def szL (L : List Blk) : Nat := (L.map fun b => szI (lineOf b)).sum
def inls (L : List Blk) : List Inl := L.flatMap fun b => deep (lineOf b)
theorem szL_append (a b : List Blk) : szL (a ++ b) = szL a + szL b := by simp [szL]
theorem szL_cons (a : Blk) (b : List Blk) : szL (a :: b) = szI (lineOf a) + szL b := by simp [szL]
mutual
theorem szL_listb : ∀ x : Blk, szL (listb x) ≤ szb x
  | .mk k lv inf t d ti a line kids => by have := szL_listB kids; simp only [listb, szb, szL_cons, lineOf]; omega
theorem szL_listB : ∀ xs : List Blk, szL (listB xs) ≤ szB xs
  | [] => by simp [listB, szL]
  | x :: xs => by have := szL_listb x; have := szL_listB xs; simp only [listB, szB, szL_append]; omega
end
theorem inls_take {L : List Blk} {i : Nat} {x : Blk} (h : L[i]? = some x) : inls (L.take (i + 1)) = inls (L.take i) ++ deep (lineOf x) := by
  obtain ⟨hlt, rfl⟩ := List.getElem?_eq_some_iff.1 h
  rw [List.take_succ_eq_append_getElem hlt]
  simp only [inls, List.flatMap_append, List.flatMap_cons, List.flatMap_nil, List.append_nil]
theorem inls_len (L : List Blk) : (inls L).length = szL L := by
  unfold inls szL
  rw [List.length_flatMap]
  simp only [deep_len]
theorem szL_take {L : List Blk} {i : Nat} {x : Blk} (h : L[i]? = some x) : szL (L.take (i + 1)) = szL (L.take i) + szI (lineOf x) := sum_take _ h
theorem szL_take_le (L : List Blk) (i : Nat) : szL (L.take i) ≤ szL L := by
  have := szL_append (L.take i) (L.drop i)
  rw [List.take_append_drop] at this
  omega

theorem inlines_fn (v : Value) (xs : List Blk) (u : View) (hbig : szB xs ≤ 1000000) (ha : BlkS u v xs) :
    FnP Tryd.prog 39 [v] u fun r u' => InlS u' r (inls (listB xs)) := by
  have hll := listB_len xs
  have hls := szL_listB xs
  refine FnP.intro [.tmp 2] Tryd.func39 rfl rfl rfl ?_
  intro w0 D hw0
  refine wc_seq ?_
  refine wc_region ?_
  refine rl_y (y_assign rfl rfl) rfl ?_
  refine rl_end (ρ' := [(0, _)]) ⟨rfl, trivial⟩ ?_
  refine q_then ?_
  refine wc_seq ?_
  refine wc_region ?_
  refine rl_y (y_assign rfl rfl) rfl ?_
  refine rl_own_nil 3 503 57 10 rfl rfl rfl ?_
  refine rl_end (ρ' := [(0, _), (3, _)]) ⟨rfl, rfl, trivial⟩ ?_
  refine q_then ?_
  refine wc_seq ?_
  refine wc_region ?_
  refine rl_y (y_move rfl rfl) rfl ?_
  refine rl_do rfl rfl ?_
  refine do_call (caps := []) trivial rfl rfl Tryd.c38 rfl (FnP.mono (list_fn _ v xs u (Nat.le_refl _) hbig ha) ?_)
  rintro v uL hle0 ⟨cs, ⟨ad, cap, rfl, h1⟩, hc1⟩ hleL
  refine rl_y (y_assign rfl rfl) rfl ?_
  refine rl_end (ρ' := [(3, _), (4, _)]) ⟨rfl, rfl, trivial⟩ ?_
  refine q_then ?_
  refine wc_seq ?_
  refine wc_seq ?_
  refine wc_region ?_
  refine rl_y (y_assign rfl rfl) rfl ?_
  refine rl_end (ρ' := [(3, _), (4, _), (5, _)]) ⟨rfl, rfl, rfl, trivial⟩ ?_
  refine q_then ?_
  refine wc_block ?_
  refine wc_loop (fun m ρ σ u' => ∃ i : Nat, i + m = (listB xs).length ∧ VLe uL u' ∧ ∃ (acc : List Value), σ = [(503, (none, .row 57 10 (inls ((listB xs).take i)).length acc))] ∧ ρ = [(3, .s 503), (4, .v (.slice ad (listB xs).length cap)), (5, .v (.int .i64 i))] ∧ (InlsC u' (inls ((listB xs).take i)) acc)) ((listB xs).length) ?_ ?_
  ·
    refine ⟨[(3, _), (4, _), (5, _)], [(503, _)], ⟨rfl, rfl, rfl, trivial⟩, ⟨rfl, trivial⟩, 0, by omega, VLe.refl _, [], (by first | rfl | simp), (by first | rfl | (simp only [List.cons.injEq, Prod.mk.injEq, SV.v.injEq, Value.int.injEq, true_and, and_true]; omega) | simp), ?_⟩
    exact InlsC.nil
  ·
    rintro m ρ σ u' ⟨i, hi4, hle4, acc, rfl, rfl, hacc⟩
    have h1' := h1.mono hle4
    have hc1' := hc1.mono hle4
    refine wc_seq ?_
    refine wc_seq ?_
    refine wc_region ?_
    refine rl_y (y_move rfl rfl) rfl ?_
    refine rl_y (y_move rfl rfl) rfl ?_
    refine rl_y (y_len_v rfl rfl Tryd.s23 rfl) rfl ?_
    refine rl_y (y_lss rfl rfl rfl) rfl ?_
    refine rl_end (ρ' := [(3, _), (4, _), (5, _), (11, _)]) ⟨rfl, rfl, rfl, rfl, trivial⟩ ?_
    refine q_then ?_
    refine wc_cond rfl (fun hb4 => ?_) (fun hb4 => ?_)
    ·
      refine wc_skip ?_
      refine q_then ?_
      refine wc_seq ?_
      refine wc_block ?_
      have hlt : i < (listB xs).length := by have := of_decide_eq_true hb4; omega
      obtain ⟨k, lv, inf, t, d, ti, a, line, kids, vc, vp, vl, vk, hg, hcut1, s1, s2, s3, s4, hok⟩ := hc1'.at hlt
      have hst := szL_take hg
      have hs1 := szL_take_le (listB xs) i
      have hs2 := szL_take_le (listB xs) (i + 1)
      have hdl := inls_len ((listB xs).take i)
      have hdk := deep_len line
      simp only [lineOf] at hst
      refine wc_region ?_
      refine rl_y (y_move rfl rfl) rfl ?_
      refine rl_y (y_move rfl rfl) rfl ?_
      refine rl_y (y_move rfl rfl) rfl ?_
      refine rl_y (y_index_e rfl Tryd.s23 rfl rfl (by assumption) (by first | rfl | omega) (by omega)) rfl ?_
      refine rl_y (y_field_e rfl Tryd.f42' rfl (by decide) rfl) rfl ?_
      refine rl_y (y_load_el rfl Tryd.k36 rfl (by assumption) (by omega) (by assumption) (vs := [_]) rfl rfl rfl rfl) rfl ?_
      refine rl_do rfl rfl ?_
      refine do_call (caps := []) trivial rfl rfl Tryd.c59 rfl (FnP.mono (deep_fn _ vl line u' (Nat.le_refl _) (by omega) s3) ?_)
      rintro v u1 hle0 ⟨ks, ⟨adk, capk, rfl, hk⟩, hkc⟩ hle1
      refine rl_do rfl rfl ?_
      refine do_append_v trivial rfl rfl Tryd.s36 Tryd.z57 rfl rfl rfl rfl rfl (by assumption) hkc.ones (by omega) (by omega) (ρ' := [(4, _), (5, _)]) ⟨rfl, rfl, trivial⟩ rfl rfl rfl ?_
      refine rl_y (y_assign rfl rfl) rfl ?_
      refine rl_ren 21 503 rfl rfl rfl ?_
      refine rl_end (ρ' := [(3, _), (4, _), (5, _)]) ⟨rfl, rfl, rfl, trivial⟩ ?_
      refine q_block ?_
      refine q_then ?_
      refine wc_region ?_
      refine rl_y (y_move rfl rfl) rfl ?_
      refine rl_y (y_add rfl rfl rfl (wrap64_id (by omega))) rfl ?_
      refine rl_y (y_assign rfl rfl) rfl ?_
      refine rl_end (ρ' := [(3, _), (4, _), (5, _)]) ⟨rfl, rfl, rfl, trivial⟩ ?_
      refine q_thenK ?_
      refine ⟨m - 1, [(3, _), (4, _), (5, _)], [(503, _)], by omega, ⟨rfl, rfl, rfl, trivial⟩, ⟨rfl, trivial⟩, i + 1, by omega, (hle4.trans hle1), _, (by rw [inls_take hg, List.length_append]; rfl), (by first | rfl | simp), ?_⟩
      rw [inls_take hg]
      exact (hacc.mono hle1).append hkc
    ·
      refine wc_exit ?_
      refine q_then_exit ?_
      refine q_then_exit ?_
      refine q_block_hit ?_
      refine q_then ?_
      refine wc_seq ?_
      refine wc_region ?_
      refine rl_y (y_move rfl rfl) rfl ?_
      refine rl_y (y_assign rfl rfl) rfl ?_
      refine rl_freeze 503 rfl ?_
      intro ad503 cap503 u503 hle503z hsl503
      refine rl_end (ρ' := [(2, _)]) ⟨rfl, trivial⟩ ?_
      refine q_then ?_
      refine wc_ret ?_
      refine fin1 (.tmp rfl) ?_
      have hge := of_decide_eq_false hb4
      rw [List.take_of_length_le (by omega)] at hacc hsl503 ⊢
      exact inlS_of rfl hsl503 (hacc.mono hle503z)
theorem filterMap_take {α β : Type} (f : α → Option β) {xs : List α} {i : Nat} {x : α} (h : xs[i]? = some x) : (xs.take (i + 1)).filterMap f = (xs.take i).filterMap f ++ (f x).toList := by
  obtain ⟨hlt, rfl⟩ := List.getElem?_eq_some_iff.1 h
  rw [List.take_succ_eq_append_getElem hlt, List.filterMap_append]
  congr 1
theorem filterMap_len {α β : Type} (f : α → Option β) (xs : List α) : (xs.filterMap f).length ≤ xs.length := List.length_filterMap_le f xs

def noteName : Blk → Option Bs
  | .mk k _ inf _ _ _ _ _ _ => if k = 14 then some inf else none
def noteNames (L : List Blk) : List Bs := L.filterMap noteName
end Go.Proofs.Ythnboadnehbciaa
