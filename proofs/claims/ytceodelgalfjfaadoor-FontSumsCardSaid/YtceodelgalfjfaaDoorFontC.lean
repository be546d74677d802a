/- Font: the positions at which a word can be divided, in the program and in the reference; lists of integers compared. -/
import Derived.Test.YtceodelgalfjfaaDoorFontB
namespace Go.Proofs.Ytceodelgalfjfaa
open Go Go.Eng
set_option linter.unusedSimpArgs false
set_option linter.unusedVariables false

def ints (l : List Int) : List Value := l.map (Value.int .i64)
/-- v is a slice that holds these integers, and nobody writes it -/
def IsInts (u : View) (v : Value) (xs : List Int) : Prop := ∃ ad cap, v = .slice ad xs.length cap ∧ SlC u ad xs.length cap 1 (ints xs)
theorem IsInts.mono {u u' : View} {v : Value} {xs : List Int} (h : IsInts u v xs) (hu : VLe u u') : IsInts u' v xs := let ⟨ad, cap, h1, h2⟩ := h; ⟨ad, cap, h1, h2.mono hu⟩
theorem isInts_nil (u : View) : IsInts u (.slice none 0 0) [] := ⟨none, 0, rfl, rfl, Nat.le_refl _, by unfold maxLen; omega, fun h => absurd rfl h⟩
theorem cut_ints {xs : List Int} {i : Nat} {x : Int} (h : xs[i]? = some x) : cut (ints xs) (i * 1) 1 = [.int .i64 x] := by
  rw [Nat.mul_one]
  exact cut_one (by simp [ints, h])

theorem hyUp_end {l : List UInt8} {k : Nat} (h1 : k = 2 ∨ k + 2 ≤ l.length) (h2 : ¬ (k : Int) + 3 ≤ l.length) : hyUp l (l.length - 2) = hyUp l k := by
  rcases h1 with rfl | h1
  · have : l.length - 2 = 0 ∨ l.length - 2 = 1 ∨ l.length - 2 = 2 := by omega
    rcases this with h | h | h <;> rw [h] <;> simp [hyUp]
  · rw [show l.length - 2 = k by omega]
theorem hyUp_yes {l : List UInt8} {k : Nat} (h : 2 ≤ k) (h1 : (vow l k || !vow l (k + 1)) = false) (h2 : (vow l (k - 1) || vow l (k - 2)) = true) : hyUp l (k + 1) = hyUp l k ++ [(k : Int)] := by
  simp only [hyUp, okH, h1, h2]
  simp [h]
theorem hyUp_no1 {l : List UInt8} {k : Nat} (h1 : (vow l k || !vow l (k + 1)) = true) : hyUp l (k + 1) = hyUp l k := by
  simp only [hyUp, okH, h1]
  simp
theorem hyUp_no2 {l : List UInt8} {k : Nat} (h2 : (vow l (k - 1) || vow l (k - 2)) = false) : hyUp l (k + 1) = hyUp l k := by
  simp only [hyUp, okH, h2]
  simp

theorem hyphens_fn (l : List UInt8) (hl : l.length ≤ 1000) (u : View) : FnP Tryd.prog 14 [str l] u fun v u' => IsInts u' v (hyL l) := by
  refine FnP.intro [.tmp 2] Tryd.func14 rfl rfl rfl ?_
  intro w0 hw0
  refine wc_seq ?_
  refine wc_region ?_
  refine rl_box rfl (cs := [_]) rfl rfl rfl rfl ?_
  refine rl_reveal 1 rfl ?_
  intro b T u1 hle hu1
  refine rl_y (y_assign rfl rfl) rfl ?_
  refine rl_end (ρ' := [(1, _)]) ⟨rfl, trivial⟩ ?_
  refine q_then ?_
  refine wc_seq ?_
  refine wc_seq ?_
  refine wc_region ?_
  refine rl_y (y_load_v rfl Tryd.k9 rfl hu1 (vs := [_]) rfl rfl rfl) rfl ?_
  refine rl_y (y_len_str rfl rfl Tryd.str9 rfl) rfl ?_
  refine rl_y (y_move rfl rfl) rfl ?_
  refine rl_end (ρ' := [(1, _), (8, _), (9, _)]) ⟨rfl, rfl, rfl, trivial⟩ ?_
  refine q_then ?_
  refine wc_block ?_
  refine wc_loop (fun m ρ σ u' μ => ∃ i : Nat, i + m = l.length ∧ u1 = u' ∧ μ = [] ∧ σ = [] ∧ ρ = [(1, .v (.pointer (some ⟨b, 0, none⟩))), (8, .v (.int .i64 l.length)), (9, .v (.int .i64 i))] ∧ ∀ j : Nat, j < i → ∀ x, l[j]? = some x → LetP x.toNat) l.length ?_ ?_
  ·
    refine ⟨[(1, _), (8, _), (9, _)], [], ⟨rfl, rfl, rfl, trivial⟩, trivial, 0, by omega, rfl, rfl, rfl, rfl, by omega⟩
  ·
    rintro m ρ σ u' μ ⟨i, hi, rfl, rfl, rfl, rfl, hno⟩
    refine wc_seq ?_
    refine wc_region ?_
    refine rl_y (y_lss rfl rfl rfl) rfl ?_
    refine rl_end (ρ' := [(1, _), (8, _), (9, _), (10, _)]) ⟨rfl, rfl, rfl, rfl, trivial⟩ ?_
    refine q_then ?_
    refine wc_seq ?_
    refine wc_cond rfl (fun hb2 => ?_) (fun hb2 => ?_)
    ·
      refine wc_skip ?_
      refine q_then ?_
      refine wc_seq ?_
      refine wc_block ?_
      refine wc_seq ?_
      have hlt : i < l.length := by have := of_decide_eq_true hb2; omega
      obtain ⟨x, hx⟩ : ∃ x, l[i]? = some x := ⟨_, List.getElem?_eq_getElem hlt⟩
      refine wc_region ?_
      refine rl_y (y_move rfl rfl) rfl ?_
      refine rl_y (y_assign rfl rfl) rfl ?_
      refine rl_end (ρ' := [(1, _), (3, _), (8, _), (9, _)]) ⟨rfl, rfl, rfl, rfl, trivial⟩ ?_
      refine q_then ?_
      refine wc_seq ?_
      refine wc_region ?_
      refine rl_y (y_load_v rfl Tryd.k9 rfl hu1 (vs := [_]) rfl rfl rfl) rfl ?_
      refine rl_y (y_move rfl rfl) rfl ?_
      refine rl_y (y_index_str rfl Tryd.str9 rfl rfl (by first | rfl | omega) (by assumption)) rfl ?_
      refine rl_call_f (caps := []) rfl rfl Tryd.c25 rfl (FnP.mono (letter_fn x.toNat _) ?_)
      rintro v u1 hle1 rfl
      refine rl_y (y_not rfl rfl) rfl ?_
      refine rl_end (ρ' := [(1, _), (8, _), (9, _), (16, _)]) ⟨rfl, rfl, rfl, rfl, trivial⟩ ?_
      refine q_then ?_
      refine wc_cond rfl (fun hb4 => ?_) (fun hb4 => ?_)
      ·
        have hnl : ¬ LetP x.toNat := by simpa using hb4
        refine wc_seq ?_
        refine wc_region ?_
        refine rl_y (y_assign rfl rfl) rfl ?_
        refine rl_end (ρ' := [(2, _)]) ⟨rfl, trivial⟩ ?_
        refine q_then ?_
        refine wc_ret ?_
        refine q_block_ret ?_
        refine q_then_ret ?_
        refine q_then_ret ?_
        refine q_block_ret ?_
        refine q_then_ret ?_
        refine fin1 (.tmp rfl) ?_
        have hna : ¬ allLet l := fun h => hnl (h x (List.mem_of_getElem? hx))
        have he : hyL l = [] := by unfold hyL; rw [if_neg hna]
        rw [he]
        exact isInts_nil _
      ·
        have hyl : LetP x.toNat := by simpa using hb4
        refine wc_skip ?_
        refine q_block ?_
        refine q_then ?_
        refine wc_region ?_
        refine rl_y (y_add rfl rfl rfl (wrap64_id (by omega))) rfl ?_
        refine rl_y (y_move rfl rfl) rfl ?_
        refine rl_end (ρ' := [(1, _), (8, _), (9, _)]) ⟨rfl, rfl, rfl, trivial⟩ ?_
        refine q_thenK ?_
        refine ⟨m - 1, [(1, _), (8, _), (9, _)], [], by omega, ⟨rfl, rfl, rfl, trivial⟩, trivial, i + 1, by omega, rfl, rfl, rfl, rfl, ?_⟩
        intro j hj y hy
        by_cases hji : j = i
        · subst hji
          rw [hx] at hy
          cases hy
          exact hyl
        · exact hno j (by omega) y hy
    ·
      refine wc_exit ?_
      refine q_then_exit ?_
      refine q_then_exit ?_
      refine q_block_hit ?_
      refine q_then ?_
      refine wc_seq ?_
      have hge : ¬ ((i : Int) < l.length) := of_decide_eq_false hb2
      have hall : allLet l := by
        intro x hx
        obtain ⟨j, hj⟩ := List.getElem?_of_mem hx
        exact hno j (by have := (List.getElem?_eq_some_iff.1 hj).1; omega) x hj
      have hhy : hyL l = hyUp l (l.length - 2) := by unfold hyL; rw [if_pos hall]
      refine wc_region ?_
      refine rl_y (y_makeFunc rfl rfl rfl) rfl ?_
      refine rl_y (y_assign rfl rfl) rfl ?_
      refine rl_end (ρ' := [(1, _), (4, _)]) ⟨rfl, rfl, trivial⟩ ?_
      refine q_then ?_
      refine wc_seq ?_
      refine wc_region ?_
      refine rl_y (y_assign rfl rfl) rfl ?_
      refine rl_own_nil 5 5 3 1 rfl rfl rfl ?_
      refine rl_end (ρ' := [(1, _), (4, _), (5, _)]) ⟨rfl, rfl, rfl, trivial⟩ ?_
      refine q_then ?_
      refine wc_seq ?_
      refine wc_seq ?_
      refine wc_region ?_
      refine rl_y (y_assign rfl rfl) rfl ?_
      refine rl_end (ρ' := [(1, _), (4, _), (5, _), (6, _)]) ⟨rfl, rfl, rfl, rfl, trivial⟩ ?_
      refine q_then ?_
      refine wc_block ?_
      refine wc_loop (fun m ρ σ u' μ => ∃ k : Nat, k + m = l.length + 2 ∧ 2 ≤ k ∧ (k = 2 ∨ k + 2 ≤ l.length) ∧ u1 = u' ∧ μ = [] ∧ ρ = [(1, .v (.pointer (some ⟨b, 0, none⟩))), (4, .v (.func (.func 26) #[] #[.pointer (some ⟨b, 0, none⟩)])), (5, .s 5), (6, .v (.int .i64 k))] ∧
      σ = [(5, .row 3 1 (hyUp l k).length (ints (hyUp l k)))]) l.length ?_ ?_
      ·
        refine ⟨[(1, _), (4, _), (5, _), (6, _)], [(5, _)], ⟨rfl, rfl, rfl, rfl, trivial⟩, ⟨?_, trivial⟩, 2, by omega, by omega, .inl rfl, rfl, rfl, rfl, rfl⟩
        rw [hyUp_two]
        rfl
      ·
        rintro m ρ σ u' μ ⟨k, hk, hk2, hke, rfl, rfl, rfl, rfl⟩
        refine wc_seq ?_
        refine wc_seq ?_
        refine wc_region ?_
        refine rl_y (y_move rfl rfl) rfl ?_
        refine rl_y (y_add rfl rfl rfl (wrap64_id (by omega))) rfl ?_
        refine rl_y (y_load_v rfl Tryd.k9 rfl hu1 (vs := [_]) rfl rfl rfl) rfl ?_
        refine rl_y (y_len_str rfl rfl Tryd.str9 rfl) rfl ?_
        refine rl_y (y_leq rfl rfl rfl) rfl ?_
        refine rl_end (ρ' := [(1, _), (4, _), (5, _), (6, _), (23, _)]) ⟨rfl, rfl, rfl, rfl, rfl, trivial⟩ ?_
        refine q_then ?_
        refine wc_cond rfl (fun hb10 => ?_) (fun hb10 => ?_)
        ·
          have hk3 : (k : Int) + 3 ≤ l.length := of_decide_eq_true hb10
          refine wc_skip ?_
          refine q_then ?_
          refine wc_seq ?_
          refine wc_block ?_
          refine wc_seq ?_
          refine wc_seq ?_
          refine wc_cutB 35 (vow l k || !vow l (k + 1)) (ρk := [(1, _), (4, _), (5, _), (6, _)]) ⟨rfl, rfl, rfl, rfl, trivial⟩ ?_ ?_
          ·
            refine wc_region ?_
            refine rl_y (y_move rfl rfl) rfl ?_
            refine rl_y (y_move rfl rfl) rfl ?_
            refine rl_call_f (caps := [_]) rfl rfl Tryd.c26 rfl (FnP.mono (v_fn l k k rfl (by omega) b T _ hu1) ?_)
            rintro v u1 hle1 rfl
            refine rl_y (y_move rfl rfl) rfl ?_
            rcases Bool.eq_false_or_eq_true (vow l k) with hg12_3 | hg12_3
            ·
              simp only [hg12_3]
              refine rl_off rfl rfl rfl rfl ?_
              refine rl_off rfl rfl rfl rfl ?_
              refine rl_off rfl rfl rfl rfl ?_
              refine rl_off rfl rfl rfl rfl ?_
              refine rl_off rfl rfl rfl rfl ?_
              refine rl_y (y_pick_t rfl rfl rfl) rfl ?_
              exact cutB_end rfl ⟨rfl, rfl, rfl, rfl, trivial⟩ (by simp [*])
            ·
              simp only [hg12_3]
              refine rl_on rfl rfl ?_
              refine rl_y (y_move rfl rfl) rfl ?_
              refine rl_on rfl rfl ?_
              refine rl_y (y_move rfl rfl) rfl ?_
              refine rl_on rfl rfl ?_
              refine rl_y (y_add rfl rfl rfl (wrap64_id (by omega))) rfl ?_
              refine rl_on rfl rfl ?_
              refine rl_call_f (caps := [_]) rfl rfl Tryd.c26 rfl (FnP.mono (v_fn l (k + 1) (k + 1) (by omega) (by omega) b T _ hu1) ?_)
              rintro v u1 hle1 rfl
              refine rl_on rfl rfl ?_
              refine rl_y (y_not rfl rfl) rfl ?_
              refine rl_y (y_pick_f rfl rfl rfl) rfl ?_
              exact cutB_end rfl ⟨rfl, rfl, rfl, rfl, trivial⟩ (by simp [*])
          refine q_then ?_
          refine wc_cond rfl (fun hb12 => ?_) (fun hb12 => ?_)
          ·
            have hup := hyUp_no1 hb12
            refine wc_exit ?_
            refine q_then_exit ?_
            refine q_block_hit ?_
            refine q_then ?_
            refine wc_region ?_
            refine rl_y (y_move rfl rfl) rfl ?_
            refine rl_y (y_add rfl rfl rfl (wrap64_id (by omega))) rfl ?_
            refine rl_y (y_assign rfl rfl) rfl ?_
            refine rl_end (ρ' := [(1, _), (4, _), (5, _), (6, _)]) ⟨rfl, rfl, rfl, rfl, trivial⟩ ?_
            refine q_thenK ?_
            refine ⟨m - 1, [(1, _), (4, _), (5, _), (6, _)], [(5, _)], by omega, ⟨rfl, rfl, rfl, rfl, trivial⟩, ⟨?_, trivial⟩, k + 1, by omega, by omega, by omega, rfl, rfl, rfl, rfl⟩
            simp only [hup, ints, List.length_append, List.map_append]
            rfl
          ·
            skip
            refine wc_skip ?_
            refine q_then ?_
            refine wc_seq ?_
            refine wc_cutB 45 (vow l (k - 1) || vow l (k - 2)) (ρk := [(1, _), (4, _), (5, _), (6, _)]) ⟨rfl, rfl, rfl, rfl, trivial⟩ ?_ ?_
            ·
              refine wc_region ?_
              refine rl_y (y_move rfl rfl) rfl ?_
              refine rl_y (y_move rfl rfl) rfl ?_
              refine rl_y (y_sub rfl rfl rfl (wrap64_id (by omega))) rfl ?_
              refine rl_call_f (caps := [_]) rfl rfl Tryd.c26 rfl (FnP.mono (v_fn l (k - 1) (k - 1) (by omega) (by omega) b T _ hu1) ?_)
              rintro v u1 hle1 rfl
              refine rl_y (y_move rfl rfl) rfl ?_
              rcases Bool.eq_false_or_eq_true (vow l (k - 1)) with hg13_4 | hg13_4
              ·
                simp only [hg13_4]
                refine rl_off rfl rfl rfl rfl ?_
                refine rl_off rfl rfl rfl rfl ?_
                refine rl_off rfl rfl rfl rfl ?_
                refine rl_off rfl rfl rfl rfl ?_
                refine rl_y (y_pick_t rfl rfl rfl) rfl ?_
                exact cutB_end rfl ⟨rfl, rfl, rfl, rfl, trivial⟩ (by simp [*])
              ·
                simp only [hg13_4]
                refine rl_on rfl rfl ?_
                refine rl_y (y_move rfl rfl) rfl ?_
                refine rl_on rfl rfl ?_
                refine rl_y (y_move rfl rfl) rfl ?_
                refine rl_on rfl rfl ?_
                refine rl_y (y_sub rfl rfl rfl (wrap64_id (by omega))) rfl ?_
                refine rl_on rfl rfl ?_
                refine rl_call_f (caps := [_]) rfl rfl Tryd.c26 rfl (FnP.mono (v_fn l (k - 2) (k - 2) (by omega) (by omega) b T _ hu1) ?_)
                rintro v u1 hle1 rfl
                refine rl_y (y_pick_f rfl rfl rfl) rfl ?_
                exact cutB_end rfl ⟨rfl, rfl, rfl, rfl, trivial⟩ (by simp [*])
            refine q_then ?_
            refine wc_cond rfl (fun hb13 => ?_) (fun hb13 => ?_)
            ·
              have hup := hyUp_yes hk2 hb12 hb13; have hle2 := hyUp_len l k
              refine wc_region ?_
              refine rl_y (y_move rfl rfl) rfl ?_
              refine rl_y (y_move rfl rfl) rfl ?_
              refine rl_buildSlice Tryd.s28 Tryd.z3 (ps := [(_, _)]) rfl (xs := [_]) rfl rfl rfl rfl rfl rfl rfl ?_
              refine rl_append_s rfl Tryd.s28 Tryd.z3 rfl rfl rfl rfl rfl rfl (by first | rfl | simp [Value.oneCell', str]) (by omega) (by omega) (ρ' := [(1, _), (4, _), (6, _)]) ⟨rfl, rfl, rfl, trivial⟩ rfl rfl rfl ?_
              refine rl_y (y_assign rfl rfl) rfl ?_
              refine rl_ren 49 5 rfl rfl rfl ?_
              refine rl_end (ρ' := [(1, _), (4, _), (5, _), (6, _)]) ⟨rfl, rfl, rfl, rfl, trivial⟩ ?_
              refine q_block ?_
              refine q_then ?_
              refine wc_region ?_
              refine rl_y (y_move rfl rfl) rfl ?_
              refine rl_y (y_add rfl rfl rfl (wrap64_id (by omega))) rfl ?_
              refine rl_y (y_assign rfl rfl) rfl ?_
              refine rl_end (ρ' := [(1, _), (4, _), (5, _), (6, _)]) ⟨rfl, rfl, rfl, rfl, trivial⟩ ?_
              refine q_thenK ?_
              refine ⟨m - 1, [(1, _), (4, _), (5, _), (6, _)], [(5, _)], by omega, ⟨rfl, rfl, rfl, rfl, trivial⟩, ⟨?_, trivial⟩, k + 1, by omega, by omega, by omega, rfl, rfl, rfl, rfl⟩
              simp only [hup, ints, List.length_append, List.map_append]
              rfl
            ·
              have hup := hyUp_no2 hb13
              refine wc_skip ?_
              refine q_block ?_
              refine q_then ?_
              refine wc_region ?_
              refine rl_y (y_move rfl rfl) rfl ?_
              refine rl_y (y_add rfl rfl rfl (wrap64_id (by omega))) rfl ?_
              refine rl_y (y_assign rfl rfl) rfl ?_
              refine rl_end (ρ' := [(1, _), (4, _), (5, _), (6, _)]) ⟨rfl, rfl, rfl, rfl, trivial⟩ ?_
              refine q_thenK ?_
              refine ⟨m - 1, [(1, _), (4, _), (5, _), (6, _)], [(5, _)], by omega, ⟨rfl, rfl, rfl, rfl, trivial⟩, ⟨?_, trivial⟩, k + 1, by omega, by omega, by omega, rfl, rfl, rfl, rfl⟩
              simp only [hup, ints, List.length_append, List.map_append]
              rfl
        ·
          have hk3 : ¬ (k : Int) + 3 ≤ l.length := of_decide_eq_false hb10
          refine wc_exit ?_
          refine q_then_exit ?_
          refine q_then_exit ?_
          refine q_block_hit ?_
          refine q_then ?_
          refine wc_seq ?_
          refine wc_region ?_
          refine rl_freeze 5 rfl ?_
          intro ad cap u3 hle3 hsl
          refine rl_y (y_move rfl rfl) rfl ?_
          refine rl_y (y_assign rfl rfl) rfl ?_
          refine rl_end (ρ' := [(2, _)]) ⟨rfl, trivial⟩ ?_
          refine q_then ?_
          refine wc_ret ?_
          refine fin1 (.tmp rfl) ?_
          rw [hhy, hyUp_end hke hk3]
          exact ⟨ad, cap, rfl, hsl⟩
end Go.Proofs.Ytceodelgalfjfaa
