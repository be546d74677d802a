/- Font: clean texts; the statement on sums as a call. -/
import Derived.Test.YtceodelgalfjfaaDoorFontX
namespace Go.Proofs.Ytceodelgalfjfaa
open Go Go.Eng
set_option linter.unusedSimpArgs false
set_option linter.unusedVariables false

def cleanP (c : Int) : Prop := c = 10 ∨ (32 ≤ c ∧ c ≠ 127)
instance (c : Int) : Decidable (cleanP c) := by unfold cleanP; infer_instance
theorem clean_fn (c : Int) (u : View) : FnP Tryd.prog 24 [.int .i64 c] u fun v _ => v = .bool (decide (cleanP c)) := by
  refine FnP.intro [.tmp 2] Tryd.func24 rfl rfl rfl ?_
  intro w0 hw0
  refine wc_seq ?_
  refine wc_region ?_
  refine rl_y (y_assign rfl rfl) rfl ?_
  refine rl_end (ρ' := [(0, _)]) ⟨rfl, trivial⟩ ?_
  refine q_then ?_
  refine wc_seq ?_
  refine wc_region ?_
  refine rl_y (y_move rfl rfl) rfl ?_
  refine rl_y (y_eql rfl rfl rfl) rfl ?_
  refine rl_y (y_move rfl rfl) rfl ?_
  rcases Bool.eq_false_or_eq_true (decide (c = 10)) with hg1_2 | hg1_2
  ·
    simp only [hg1_2]
    refine rl_off rfl rfl rfl rfl ?_
    refine rl_off rfl rfl rfl rfl ?_
    refine rl_off rfl rfl rfl rfl ?_
    refine rl_off_u rfl rfl rfl ?_
    refine rl_off_u rfl rfl rfl ?_
    refine rl_off rfl rfl rfl rfl ?_
    refine rl_y (y_pick_t rfl rfl rfl) rfl ?_
    refine rl_y (y_assign rfl rfl) rfl ?_
    refine rl_end (ρ' := [(2, _)]) ⟨rfl, trivial⟩ ?_
    refine q_then ?_
    refine wc_ret ?_
    refine fin1 (.tmp rfl) ?_
    refine bool_val ?_
    (first | refine (decide_eq_true ?_).symm | refine (decide_eq_false ?_).symm | refine decide_eq_decide.2 ?_ | refine decide_eq_true ?_ | refine decide_eq_false ?_) <;> (try unfold cleanP) <;> (try simp only [decide_eq_true_eq, decide_eq_false_iff_not] at *) <;> omega
  ·
    simp only [hg1_2]
    refine rl_on rfl rfl ?_
    refine rl_y (y_move rfl rfl) rfl ?_
    refine rl_on rfl rfl ?_
    refine rl_y (y_geq rfl rfl rfl) rfl ?_
    refine rl_on rfl rfl ?_
    refine rl_y (y_move rfl rfl) rfl ?_
    rcases Bool.eq_false_or_eq_true (decide (32 ≤ c)) with hg1_5 | hg1_5
    ·
      simp only [hg1_5]
      refine rl_on rfl rfl ?_
      refine rl_y (y_move rfl rfl) rfl ?_
      refine rl_on rfl rfl ?_
      refine rl_y (y_neq rfl rfl rfl) rfl ?_
      refine rl_on rfl rfl ?_
      refine rl_y (y_pick_t rfl rfl rfl) rfl ?_
      refine rl_y (y_pick_f rfl rfl rfl) rfl ?_
      refine rl_y (y_assign rfl rfl) rfl ?_
      refine rl_end (ρ' := [(2, _)]) ⟨rfl, trivial⟩ ?_
      refine q_then ?_
      refine wc_ret ?_
      refine fin1 (.tmp rfl) ?_
      refine bool_val ?_
      (first | refine (decide_eq_true ?_).symm | refine (decide_eq_false ?_).symm | refine decide_eq_decide.2 ?_ | refine decide_eq_true ?_ | refine decide_eq_false ?_) <;> (try unfold cleanP) <;> (try simp only [decide_eq_true_eq, decide_eq_false_iff_not] at *) <;> omega
    ·
      simp only [hg1_5]
      refine rl_off rfl rfl rfl rfl ?_
      refine rl_off rfl rfl rfl rfl ?_
      refine rl_on rfl rfl ?_
      refine rl_y (y_pick_f rfl rfl rfl) rfl ?_
      refine rl_y (y_pick_f rfl rfl rfl) rfl ?_
      refine rl_y (y_assign rfl rfl) rfl ?_
      refine rl_end (ρ' := [(2, _)]) ⟨rfl, trivial⟩ ?_
      refine q_then ?_
      refine wc_ret ?_
      refine fin1 (.tmp rfl) ?_
      refine bool_val ?_
      (first | refine (decide_eq_true ?_).symm | refine (decide_eq_false ?_).symm | refine decide_eq_decide.2 ?_ | refine decide_eq_true ?_ | refine decide_eq_false ?_) <;> (try unfold cleanP) <;> (try simp only [decide_eq_true_eq, decide_eq_false_iff_not] at *) <;> omega

/-- the code points from p on, n of them at most -/
def ptsF (l : List UInt8) : Nat → Nat → List (Int × Int)
  | 0, _ => []
  | n + 1, p => if p < l.length then ((dec l p).1, ((dec l p).2 : Int)) :: ptsF l n (p + (dec l p).2) else []
def pcells (x : Int × Int) : List Value := [.int .i64 x.1, .int .i64 x.2]
def pall (xs : List (Int × Int)) : List Value := xs.flatMap pcells
theorem pall_len (xs : List (Int × Int)) : (pall xs).length = xs.length * 2 := by
  induction xs with
  | nil => rfl
  | cons x xs ih => simp only [pall, List.flatMap_cons, List.length_append, List.length_cons] at *; rw [ih]; simp [pcells]; omega
theorem pall_app (xs ys : List (Int × Int)) : pall (xs ++ ys) = pall xs ++ pall ys := by simp [pall]
theorem cut_pall {xs : List (Int × Int)} {i : Nat} {x : Int × Int} (h : xs[i]? = some x) : cut (pall xs) (i * 2) 2 = pcells x := by
  obtain ⟨hl, he⟩ := List.getElem?_eq_some_iff.1 h
  have hsplit : xs = xs.take i ++ x :: xs.drop (i + 1) := by
    rw [← he]; simp
  have hlen : (pall (xs.take i)).length = i * 2 := by rw [pall_len]; simp; omega
  rw [hsplit, pall_app]
  unfold cut
  rw [← hlen, List.drop_left]
  simp [pall, pcells]

theorem ptsF_len (l : List UInt8) : ∀ n p, (ptsF l n p).length ≤ n
  | 0, p => by simp [ptsF]
  | n + 1, p => by
    simp only [ptsF]
    split
    · have := ptsF_len l n (p + (dec l p).2); simp; omega
    · simp

theorem points_fn (l : List UInt8) (hl : l.length ≤ 1000) (u : View) : FnP Tryd.prog 23 [str l] u
    fun v u' => ∃ ad cap, v = .slice ad (ptsF l l.length 0).length cap ∧ SlC u' ad (ptsF l l.length 0).length cap 2 (pall (ptsF l l.length 0)) := by
  refine FnP.intro [.tmp 2] Tryd.func23 rfl rfl rfl ?_
  intro w0 hw0
  refine wc_seq ?_
  refine wc_region ?_
  refine rl_y (y_assign rfl rfl) rfl ?_
  refine rl_end (ρ' := [(0, _)]) ⟨rfl, trivial⟩ ?_
  refine q_then ?_
  refine wc_seq ?_
  refine wc_region ?_
  refine rl_y (y_assign rfl rfl) rfl ?_
  refine rl_own_nil 3 3 41 2 rfl rfl rfl ?_
  refine rl_end (ρ' := [(0, _), (3, _)]) ⟨rfl, rfl, trivial⟩ ?_
  refine q_then ?_
  refine wc_seq ?_
  refine wc_region ?_
  refine rl_y (y_assign rfl rfl) rfl ?_
  refine rl_end (ρ' := [(0, _), (3, _), (4, _)]) ⟨rfl, rfl, rfl, trivial⟩ ?_
  refine q_then ?_
  refine wc_seq ?_
  refine wc_block ?_
  refine wc_loop (fun m ρ σ u' μ => ∃ (p : Nat) (xs : List (Int × Int)), l.length ≤ p + m ∧ m ≤ l.length ∧ p ≤ l.length ∧ xs.length + m ≤ l.length ∧ xs ++ ptsF l m p = ptsF l l.length 0 ∧ u = u' ∧ μ = [] ∧ σ = [(3, .row 41 2 xs.length (pall xs))] ∧ ρ = [(0, .v (str l)), (3, .s 3), (4, .v (.int .i64 p))]) l.length ?_ ?_
  ·
    refine ⟨[(0, _), (3, _), (4, _)], [(3, _)], ⟨rfl, rfl, rfl, trivial⟩, ⟨rfl, trivial⟩, 0, [], by omega, by omega, by omega, by simp, rfl, rfl, rfl, rfl, rfl⟩
  ·
    rintro m ρ σ u' μ ⟨p, xs, hp, hm, hpl, hxl, hsum, rfl, rfl, rfl, rfl⟩
    refine wc_seq ?_
    refine wc_seq ?_
    refine wc_region ?_
    refine rl_y (y_move rfl rfl) rfl ?_
    refine rl_y (y_move rfl rfl) rfl ?_
    refine rl_y (y_len_str rfl rfl Tryd.str9 rfl) rfl ?_
    refine rl_y (y_lss rfl rfl rfl) rfl ?_
    refine rl_end (ρ' := [(0, _), (3, _), (4, _), (9, _)]) ⟨rfl, rfl, rfl, rfl, trivial⟩ ?_
    refine q_then ?_
    refine wc_cond rfl (fun hb3 => ?_) (fun hb3 => ?_)
    ·
      have hlt : p < l.length := by have := of_decide_eq_true hb3; omega
      refine wc_skip ?_
      refine q_then ?_
      refine wc_block ?_
      refine wc_seq ?_
      obtain ⟨m, rfl⟩ : ∃ k, m = k + 1 := ⟨m - 1, by omega⟩
      have hd := dec_pos l p hlt
      have hde := dec_end l p hlt
      simp only [ptsF] at hsum
      rw [if_pos hlt] at hsum
      obtain ⟨x, hx⟩ : ∃ x, l[p]? = some x := ⟨_, List.getElem?_eq_getElem hlt⟩
      have hpt := pt_dec l p x hx
      refine wc_region ?_
      refine rl_y (y_move rfl rfl) rfl ?_
      refine rl_y (y_move rfl rfl) rfl ?_
      refine rl_call_f (caps := []) rfl rfl Tryd.c30 rfl (FnP.mono (at_fn l p x hx hl _) ?_)
      rintro v u1 hle1 rfl
      rw [hpt]
      refine rl_alloc Tryd.z41 rfl rfl rfl ?_
      refine rl_store_p Tryd.k41 rfl rfl rfl (vs := [_, _]) rfl rfl (by first | rfl | simp [Value.oneCell', str]) rfl rfl ?_
      refine rl_end (ρ' := [(0, _), (3, _), (4, _), (5, _)]) ⟨rfl, rfl, rfl, rfl, trivial⟩ ?_
      refine q_then ?_
      refine wc_seq ?_
      refine wc_region ?_
      refine rl_y (y_move rfl rfl) rfl ?_
      refine rl_y (y_load_p rfl Tryd.k41 rfl rfl rfl (vs := [_, _]) rfl rfl rfl) rfl ?_
      refine rl_buildSlice Tryd.s38 Tryd.z41 (ps := [(_, _)]) rfl (xs := [_, _]) rfl rfl rfl rfl rfl rfl rfl ?_
      refine rl_append_s rfl Tryd.s38 Tryd.z41 rfl rfl rfl rfl rfl rfl (by first | rfl | simp [Value.oneCell', str]) (by omega) (by omega) (ρ' := [(0, _), (4, _), (5, _)]) ⟨rfl, rfl, rfl, trivial⟩ rfl rfl rfl ?_
      refine rl_y (y_assign rfl rfl) rfl ?_
      refine rl_ren 16 3 rfl rfl rfl ?_
      refine rl_end (ρ' := [(0, _), (3, _), (4, _), (5, _)]) ⟨rfl, rfl, rfl, rfl, trivial⟩ ?_
      refine q_then ?_
      refine wc_region ?_
      refine rl_y (y_move rfl rfl) rfl ?_
      refine rl_y (y_field_p rfl Tryd.f41' rfl (by decide) rfl) rfl ?_
      refine rl_y (y_load_p rfl Tryd.k3 rfl rfl rfl (vs := [_]) rfl rfl rfl) rfl ?_
      refine rl_y (y_add rfl rfl rfl (wrap64_id (by omega))) rfl ?_
      refine rl_y (y_assign rfl rfl) rfl ?_
      refine rl_end (ρ' := [(0, _), (3, _), (4, _)]) ⟨rfl, rfl, rfl, trivial⟩ ?_
      refine q_block ?_
      refine q_thenK ?_
      refine ⟨m, [(0, _), (3, _), (4, _)], [(3, _)], by omega, ⟨rfl, rfl, rfl, trivial⟩, ⟨?_, trivial⟩, p + (dec l p).2, xs ++ [((dec l p).1, ((dec l p).2 : Int))], by omega, by omega, by omega, by simp; omega, ?_, rfl, rfl, rfl, rfl⟩
      · rw [pall_app, List.length_append]
        rfl
      · rw [← hsum]; simp
    ·
      have hge : ¬ p < l.length := by have := of_decide_eq_false hb3; omega
      refine wc_exit ?_
      refine q_then_exit ?_
      refine q_then_exit ?_
      refine q_block_hit ?_
      refine q_then ?_
      refine wc_seq ?_
      refine wc_region ?_
      have hpe : ptsF l m p = [] := by
        cases m with
        | zero => rfl
        | succ m => simp only [ptsF]; rw [if_neg hge]
      rw [hpe, List.append_nil] at hsum
      refine rl_freeze 3 rfl ?_
      intro ad cap u3 hle3 hsl
      refine rl_y (y_move rfl rfl) rfl ?_
      refine rl_y (y_assign rfl rfl) rfl ?_
      refine rl_end (ρ' := [(2, _)]) ⟨rfl, trivial⟩ ?_
      refine q_then ?_
      refine wc_ret ?_
      refine fin1 (.tmp rfl) ?_
      rw [← hsum]
      exact ⟨ad, cap, rfl, hsl⟩

def okP (x : Int × Int) : Prop := cleanP x.1 ∧ ¬ (x.1 = 65533 ∧ x.2 = 1)
instance (x : Int × Int) : Decidable (okP x) := by unfold okP; infer_instance
theorem decide_ok (c n : Int) : decide (okP (c, n)) = (decide (cleanP c) && !(decide (c = 65533) && decide (n = 1))) := by
  rw [Bool.eq_iff_iff]
  simp [okP]
def ValP (l : List UInt8) : Prop := ∀ x ∈ ptsF l l.length 0, okP x
instance (l : List UInt8) : Decidable (ValP l) := by unfold ValP; infer_instance

theorem valid_fn (l : List UInt8) (hl : l.length ≤ 1000) (u : View) : FnP Tryd.prog 13 [str l] u fun v _ => v = .bool (decide (ValP l)) := by
  have hpl := ptsF_len l l.length 0
  refine FnP.intro [.tmp 2] Tryd.func13 rfl rfl rfl ?_
  intro w0 hw0
  refine wc_seq ?_
  refine wc_region ?_
  refine rl_y (y_assign rfl rfl) rfl ?_
  refine rl_end (ρ' := [(0, _)]) ⟨rfl, trivial⟩ ?_
  refine q_then ?_
  refine wc_seq ?_
  refine wc_seq ?_
  refine wc_region ?_
  refine rl_y (y_move rfl rfl) rfl ?_
  refine rl_call (caps := []) rfl rfl Tryd.c23 rfl (FnP.mono (points_fn l hl _) ?_)
  rintro v u1 hle0 ⟨ad, cap, rfl, hs⟩ hle1
  generalize hxs : ptsF l l.length 0 = xs at *
  refine rl_y (y_len_v rfl rfl Tryd.s38 rfl) rfl ?_
  refine rl_y (y_move rfl rfl) rfl ?_
  refine rl_end (ρ' := [(6, _), (7, _), (8, _)]) ⟨rfl, rfl, rfl, trivial⟩ ?_
  refine q_then ?_
  refine wc_block ?_
  refine wc_loop (fun m ρ σ u' μ => ∃ i : Nat, i + m = xs.length ∧ u1 = u' ∧ μ = [] ∧ σ = [] ∧ ρ = [(6, .v (.slice ad xs.length cap)), (7, .v (.int .i64 xs.length)), (8, .v (.int .i64 i))] ∧ ∀ j : Nat, j < i → ∀ x, xs[j]? = some x → okP x) xs.length ?_ ?_
  ·
    refine ⟨[(6, _), (7, _), (8, _)], [], ⟨rfl, rfl, rfl, trivial⟩, trivial, 0, by omega, rfl, rfl, rfl, rfl, by omega⟩
  ·
    rintro m ρ σ u' μ ⟨i, hi, rfl, rfl, rfl, rfl, hno⟩
    refine wc_seq ?_
    refine wc_region ?_
    refine rl_y (y_lss rfl rfl rfl) rfl ?_
    refine rl_end (ρ' := [(6, _), (7, _), (8, _), (9, _)]) ⟨rfl, rfl, rfl, rfl, trivial⟩ ?_
    refine q_then ?_
    refine wc_seq ?_
    refine wc_cond rfl (fun hb2 => ?_) (fun hb2 => ?_)
    ·
      refine wc_skip ?_
      refine q_then ?_
      refine wc_seq ?_
      refine wc_block ?_
      refine wc_seq ?_
      have hlt : i < xs.length := by have := of_decide_eq_true hb2; omega
      obtain ⟨⟨c, n⟩, hx⟩ : ∃ x, xs[i]? = some x := ⟨_, List.getElem?_eq_getElem hlt⟩
      have hcx := cut_pall hx
      simp only [pcells] at hcx
      refine wc_region ?_
      refine rl_y (y_index_e rfl Tryd.s38 rfl rfl hs (j := i) rfl (by omega)) rfl ?_
      refine rl_y (y_load_el rfl Tryd.k41 rfl hs (by omega) hcx (vs := [_, _]) rfl rfl rfl rfl) rfl ?_
      refine rl_alloc Tryd.z41 rfl rfl rfl ?_
      refine rl_store_p Tryd.k41 rfl rfl rfl (vs := [_, _]) rfl rfl (by first | rfl | simp [Value.oneCell', str]) rfl rfl ?_
      refine rl_end (ρ' := [(4, _), (6, _), (7, _), (8, _)]) ⟨rfl, rfl, rfl, rfl, trivial⟩ ?_
      refine q_then ?_
      refine wc_seq ?_
      refine wc_cutB 25 (!decide (okP (c, n))) (ρk := [(6, _), (7, _), (8, _)]) ⟨rfl, rfl, rfl, trivial⟩ ?_ ?_
      ·
        refine wc_region ?_
        refine rl_y (y_field_p rfl Tryd.f41' rfl (by decide) rfl) rfl ?_
        refine rl_y (y_load_p rfl Tryd.k3 rfl rfl rfl (vs := [_]) rfl rfl rfl) rfl ?_
        refine rl_call_f (caps := []) rfl rfl Tryd.c24 rfl (FnP.mono (clean_fn c _) ?_)
        rintro v u1 hle1 rfl
        refine rl_y (y_not rfl rfl) rfl ?_
        refine rl_y (y_move rfl rfl) rfl ?_
        rcases Bool.eq_false_or_eq_true (!decide (cleanP c)) with hg4_4 | hg4_4
        ·
          simp only [hg4_4]
          refine rl_off rfl rfl rfl rfl ?_
          refine rl_off rfl rfl rfl rfl ?_
          refine rl_off rfl rfl rfl rfl ?_
          refine rl_off rfl rfl rfl rfl ?_
          refine rl_off_u rfl rfl rfl ?_
          refine rl_off_u rfl rfl rfl ?_
          refine rl_off_u rfl rfl rfl ?_
          refine rl_off rfl rfl rfl rfl ?_
          refine rl_y (y_pick_t rfl rfl rfl) rfl ?_
          exact cutB_end rfl ⟨rfl, rfl, rfl, trivial⟩ (by rw [decide_ok]; (try generalize decide (cleanP c) = q1 at *); (try generalize decide (c = 65533) = q2 at *); (try generalize decide (n = 1) = q3 at *); cases q1 <;> cases q2 <;> cases q3 <;> simp_all)
        ·
          simp only [hg4_4]
          refine rl_on rfl rfl ?_
          refine rl_y (y_field_p rfl Tryd.f41' rfl (by decide) rfl) rfl ?_
          refine rl_on rfl rfl ?_
          refine rl_y (y_load_p rfl Tryd.k3 rfl rfl rfl (vs := [_]) rfl rfl rfl) rfl ?_
          refine rl_on rfl rfl ?_
          refine rl_y (y_eql rfl rfl rfl) rfl ?_
          refine rl_on rfl rfl ?_
          refine rl_y (y_move rfl rfl) rfl ?_
          rcases Bool.eq_false_or_eq_true (decide (c = 65533)) with hg4_8 | hg4_8
          ·
            simp only [hg4_8]
            refine rl_on rfl rfl ?_
            refine rl_y (y_field_p rfl Tryd.f41' rfl (by decide) rfl) rfl ?_
            refine rl_on rfl rfl ?_
            refine rl_y (y_load_p rfl Tryd.k3 rfl rfl rfl (vs := [_]) rfl rfl rfl) rfl ?_
            refine rl_on rfl rfl ?_
            refine rl_y (y_eql rfl rfl rfl) rfl ?_
            refine rl_on rfl rfl ?_
            refine rl_y (y_pick_t rfl rfl rfl) rfl ?_
            refine rl_y (y_pick_f rfl rfl rfl) rfl ?_
            exact cutB_end rfl ⟨rfl, rfl, rfl, trivial⟩ (by rw [decide_ok]; (try generalize decide (cleanP c) = q1 at *); (try generalize decide (c = 65533) = q2 at *); (try generalize decide (n = 1) = q3 at *); cases q1 <;> cases q2 <;> cases q3 <;> simp_all)
          ·
            simp only [hg4_8]
            refine rl_off rfl rfl rfl rfl ?_
            refine rl_off rfl rfl rfl rfl ?_
            refine rl_off rfl rfl rfl rfl ?_
            refine rl_on rfl rfl ?_
            refine rl_y (y_pick_f rfl rfl rfl) rfl ?_
            refine rl_y (y_pick_f rfl rfl rfl) rfl ?_
            exact cutB_end rfl ⟨rfl, rfl, rfl, trivial⟩ (by rw [decide_ok]; (try generalize decide (cleanP c) = q1 at *); (try generalize decide (c = 65533) = q2 at *); (try generalize decide (n = 1) = q3 at *); cases q1 <;> cases q2 <;> cases q3 <;> simp_all)
      refine q_then ?_
      refine wc_cond rfl (fun hb4 => ?_) (fun hb4 => ?_)
      ·
        have hbad : ¬ okP (c, n) := by simpa using hb4
        refine wc_seq ?_
        refine wc_region ?_
        refine rl_y (y_assign rfl rfl) rfl ?_
        refine rl_end (ρ' := [(2, _)]) ⟨rfl, trivial⟩ ?_
        refine q_then ?_
        refine wc_ret ?_
        refine q_block_ret ?_
        refine q_then_ret ?_
        refine q_then_ret ?_
        refine q_block_ret ?_
        refine q_then_ret ?_
        refine fin1 (.tmp rfl) ?_
        rw [decide_eq_false (show ¬ ValP l from fun h => hbad (h _ (by rw [hxs]; exact List.mem_of_getElem? hx)))]
      ·
        have hgood : okP (c, n) := by simpa using hb4
        refine wc_skip ?_
        refine q_block ?_
        refine q_then ?_
        refine wc_region ?_
        refine rl_y (y_add rfl rfl rfl (wrap64_id (by omega))) rfl ?_
        refine rl_y (y_move rfl rfl) rfl ?_
        refine rl_end (ρ' := [(6, _), (7, _), (8, _)]) ⟨rfl, rfl, rfl, trivial⟩ ?_
        refine q_thenK ?_
        refine ⟨m - 1, [(6, _), (7, _), (8, _)], [], by omega, ⟨rfl, rfl, rfl, trivial⟩, trivial, i + 1, by omega, rfl, rfl, rfl, rfl, ?_⟩
        intro j hj y hy
        by_cases hji : j = i
        · subst hji
          rw [hx] at hy
          cases hy
          exact hgood
        · exact hno j (by omega) y hy
    ·
      refine wc_exit ?_
      refine q_then_exit ?_
      refine q_then_exit ?_
      refine q_block_hit ?_
      refine q_then ?_
      refine wc_seq ?_
      refine wc_region ?_
      refine rl_y (y_assign rfl rfl) rfl ?_
      refine rl_end (ρ' := [(2, _)]) ⟨rfl, trivial⟩ ?_
      refine q_then ?_
      refine wc_ret ?_
      refine fin1 (.tmp rfl) ?_
      have hge : ¬ ((i : Int) < xs.length) := of_decide_eq_false hb2
      rw [decide_eq_true]
      unfold ValP
      rw [hxs]
      intro x hx
      obtain ⟨j, hj⟩ := List.getElem?_of_mem hx
      exact hno j (by have := (List.getElem?_eq_some_iff.1 hj).1; omega) x hj

theorem wsum_shift (a b : List UInt8) : ∀ n k q, b.length ≤ q + n → b.length ≤ q + k → wsum (a ++ b) k (a.length + q) = wsum b n q
  | n, 0, q, hn, hk => (show wsum (a ++ b) 0 _ = 0 from rfl).trans (wsum_over (by omega) n).symm
  | 0, k, q, hn, hk => (wsum_over (by simp; omega) k).trans rfl
  | n + 1, k + 1, q, hn, hk => by
    simp only [wsum]
    by_cases h : q < b.length
    · have hd := dec_pos b q h
      rw [if_pos (by simp; omega), if_pos h, dec_shift h, Nat.add_assoc, wsum_shift a b n k _ (by omega) (by omega)]
    · rw [if_neg (by simp; omega), if_neg h]
theorem wsum_app (a b : List UInt8) : ∀ n k p, (∀ x ∈ ptsF a n p, okP x) → a.length ≤ p + n → p ≤ a.length → a.length + b.length ≤ p + k → wsum (a ++ b) k p = wsum a n p + wideOf b := by
  intro n
  induction n with
  | zero =>
    intro k p hv hn hp hk
    obtain rfl : p = a.length := by omega
    have := wsum_shift a b b.length k 0 (by omega) (by omega)
    rw [Nat.add_zero] at this
    rw [this]
    simp [wsum, wideOf]
  | succ n ih =>
    intro k p hv hn hp hk
    by_cases h : p < a.length
    · obtain ⟨k, rfl⟩ : ∃ j, k = j + 1 := ⟨k - 1, by omega⟩
      have hd := dec_pos a p h
      have hde := dec_end a p h
      simp only [ptsF] at hv
      rw [if_pos h] at hv
      have hok := hv _ (List.mem_cons_self ..)
      have hne : dec a p ≠ (65533, 1) := fun e => hok.2 (by rw [e]; exact ⟨rfl, rfl⟩)
      simp only [wsum]
      rw [if_pos (by simp; omega), if_pos h, dec_app h hne, ih k (p + (dec a p).2) (fun x hx => hv x (List.mem_cons_of_mem _ hx)) (by omega) hde (by omega)]
      omega
    · obtain rfl : p = a.length := by omega
      have := wsum_shift a b b.length k 0 (by omega) (by omega)
      rw [Nat.add_zero] at this
      rw [this, wsum_over (Nat.le_refl _)]
      simp [wideOf]
theorem wideOf_app (a b : List UInt8) (h : ValP a) : wideOf (a ++ b) = wideOf a + wideOf b := by
  unfold wideOf
  rw [wsum_app a b a.length (a ++ b).length 0 h (by omega) (by omega) (by simp)]
  rfl

theorem law_sums (a b : List UInt8) (u : View) (hT : TabU u) : FnP Tryd.prog 5 [str a, str b] u fun v _ => v = .bool true := by
  have ha := wsum_range a a.length 0
  have hb := wsum_range b b.length 0
  refine FnP.intro [.tmp 4] Tryd.func5 rfl rfl rfl ?_
  intro w0 hw0
  refine wc_seq ?_
  refine wc_region ?_
  refine rl_y (y_assign rfl rfl) rfl ?_
  refine rl_end (ρ' := [(0, _), (1, _)]) ⟨rfl, rfl, trivial⟩ ?_
  refine q_then ?_
  refine wc_seq ?_
  refine wc_seq ?_
  refine wc_cutB 17 ((decide (400 < (a.length : Int)) || decide (400 < (b.length : Int))) || !decide (ValP a)) (ρk := [(0, _), (1, _)]) ⟨rfl, rfl, trivial⟩ ?_ ?_
  ·
    refine wc_region ?_
    refine rl_y (y_move rfl rfl) rfl ?_
    refine rl_y (y_len_str rfl rfl Tryd.str9 rfl) rfl ?_
    refine rl_y (y_gtr rfl rfl rfl) rfl ?_
    refine rl_y (y_move rfl rfl) rfl ?_
    rcases Bool.eq_false_or_eq_true (decide (400 < (a.length : Int))) with hg1_3 | hg1_3
    ·
      simp only [hg1_3]
      refine rl_off rfl rfl rfl rfl ?_
      refine rl_off rfl rfl rfl rfl ?_
      refine rl_off rfl rfl rfl rfl ?_
      refine rl_y (y_pick_t rfl rfl rfl) rfl ?_
      refine rl_y (y_move rfl rfl) rfl ?_
      refine rl_off rfl rfl rfl rfl ?_
      refine rl_off rfl rfl rfl rfl ?_
      refine rl_off rfl rfl rfl rfl ?_
      refine rl_y (y_pick_t rfl rfl rfl) rfl ?_
      exact cutB_end rfl ⟨rfl, rfl, trivial⟩ (by simp [*])
    ·
      simp only [hg1_3]
      refine rl_on rfl rfl ?_
      refine rl_y (y_move rfl rfl) rfl ?_
      refine rl_on rfl rfl ?_
      refine rl_y (y_len_str rfl rfl Tryd.str9 rfl) rfl ?_
      refine rl_on rfl rfl ?_
      refine rl_y (y_gtr rfl rfl rfl) rfl ?_
      refine rl_y (y_pick_f rfl rfl rfl) rfl ?_
      refine rl_y (y_move rfl rfl) rfl ?_
      rcases Bool.eq_false_or_eq_true (decide (400 < (b.length : Int))) with hg1_8 | hg1_8
      ·
        simp only [hg1_8]
        refine rl_off rfl rfl rfl rfl ?_
        refine rl_off rfl rfl rfl rfl ?_
        refine rl_off rfl rfl rfl rfl ?_
        refine rl_y (y_pick_t rfl rfl rfl) rfl ?_
        exact cutB_end rfl ⟨rfl, rfl, trivial⟩ (by simp [*])
      ·
        simp only [hg1_8]
        refine rl_on rfl rfl ?_
        refine rl_y (y_move rfl rfl) rfl ?_
        refine rl_on rfl rfl ?_
        refine rl_call_f (caps := []) rfl rfl Tryd.c13 rfl (FnP.mono (valid_fn a (by have := of_decide_eq_false hg1_3; omega) _) ?_)
        rintro v u1 hle1 rfl
        refine rl_on rfl rfl ?_
        refine rl_y (y_not rfl rfl) rfl ?_
        refine rl_y (y_pick_f rfl rfl rfl) rfl ?_
        exact cutB_end rfl ⟨rfl, rfl, trivial⟩ (by simp [*])
  refine q_then ?_
  refine wc_cond rfl (fun hb1 => ?_) (fun hb1 => ?_)
  ·
    skip
    refine wc_seq ?_
    refine wc_region ?_
    refine rl_call_f (caps := []) rfl rfl Tryd.c10 rfl (FnP.mono (awake_fn _ hT) ?_)
    rintro v u1 hle1 rfl
    refine rl_y (y_assign rfl rfl) rfl ?_
    refine rl_end (ρ' := [(4, _)]) ⟨rfl, trivial⟩ ?_
    refine q_then ?_
    refine wc_ret ?_
    refine q_then_ret ?_
    refine fin1 (.tmp rfl) ?_
    rfl
  ·
    have hall : a.length ≤ 400 ∧ b.length ≤ 400 ∧ ValP a := by simp at hb1; exact ⟨by omega, by omega, hb1.2⟩
    refine wc_skip ?_
    refine q_then ?_
    refine wc_seq ?_
    refine wc_region ?_
    refine rl_y (y_move rfl rfl) rfl ?_
    refine rl_y (y_move rfl rfl) rfl ?_
    refine rl_y (y_str_add rfl rfl rfl (by omega)) rfl ?_
    refine rl_call_f (caps := []) rfl rfl Tryd.c11 rfl (FnP.mono (wide_str_fn (a ++ b) (by simp; omega) _ hT) ?_)
    rintro v u1 hle1 rfl
    refine rl_y (y_move rfl rfl) rfl ?_
    refine rl_call_f (caps := []) rfl rfl Tryd.c11 rfl (FnP.mono (wide_str_fn a (by omega) _ hT) ?_)
    rintro v u1 hle1 rfl
    refine rl_y (y_move rfl rfl) rfl ?_
    refine rl_call_f (caps := []) rfl rfl Tryd.c11 rfl (FnP.mono (wide_str_fn b (by omega) _ hT) ?_)
    rintro v u1 hle1 rfl
    refine rl_y (y_add rfl rfl rfl (wrap64_id (by unfold wideOf; omega))) rfl ?_
    refine rl_y (y_eql rfl rfl rfl) rfl ?_
    rw [decide_eq_true (wideOf_app a b hall.2.2)]
    refine rl_y (y_move rfl rfl) rfl ?_
    refine rl_on rfl rfl ?_
    refine rl_call_f (caps := []) rfl rfl Tryd.c10 rfl (FnP.mono (awake_fn _ hT) ?_)
    rintro v u1 hle1 rfl
    refine rl_y (y_pick_t rfl rfl rfl) rfl ?_
    refine rl_y (y_assign rfl rfl) rfl ?_
    refine rl_end (ρ' := [(4, _)]) ⟨rfl, trivial⟩ ?_
    refine q_then ?_
    refine wc_ret ?_
    refine fin1 (.tmp rfl) ?_
    rfl
end Go.Proofs.Ytceodelgalfjfaa
