/- Count: the statements' own small functions. -/
import Derived.Test.YthnboadnehbciaaDoorCntE
namespace Go.Proofs.Ythnboadnehbciaa
open Go Go.Eng
set_option linter.unusedSimpArgs false
set_option linter.unusedVariables false
set_option maxRecDepth 4000

/-- lists of numbers from 0 on in a view -/
def natsC (xs : List Nat) : List Value := xs.map fun n : Nat => Value.int .i64 n
def NatS (u : View) (v : Value) (xs : List Nat) : Prop := IsSl u v xs.length 1 (natsC xs)
theorem cut_natsC {xs : List Nat} {i : Nat} {x : Nat} (h : xs[i]? = some x) : cut (natsC xs) (i * 1) 1 = [.int .i64 x] := by
  obtain ⟨hlt, rfl⟩ := List.getElem?_eq_some_iff.1 h
  unfold cut natsC
  rw [Nat.mul_one, List.drop_eq_getElem_cons (by simpa using hlt)]
  simp

/-- does a value come after another one? -/
def aft : List Nat → List Nat → Bool
  | [], _ => false
  | _ :: _, [] => true
  | x :: xs, y :: ys => if x = y then aft xs ys else decide (y < x)
theorem aft_len : ∀ {a b : List Nat}, a = [] ∨ b = [] → aft a b = decide (b.length < a.length)
  | [], b, _ => by simp [aft]
  | x :: a, [], _ => by simp [aft]
  | x :: a, y :: b, h => by simp at h
theorem aft_step {a b : List Nat} {i x y : Nat} (hx : a[i]? = some x) (hy : b[i]? = some y) : aft (a.drop i) (b.drop i) = if x = y then aft (a.drop (i + 1)) (b.drop (i + 1)) else decide (y < x) := by
  obtain ⟨h1, rfl⟩ := List.getElem?_eq_some_iff.1 hx
  obtain ⟨h2, rfl⟩ := List.getElem?_eq_some_iff.1 hy
  rw [List.drop_eq_getElem_cons h1, List.drop_eq_getElem_cons h2, aft]

theorem after_fn (va vb : Value) (a b : List Nat) (ha' : a.length ≤ 1000000) (hb' : b.length ≤ 1000000) (u : View) (ha : NatS u va a) (hb : NatS u vb b) :
    FnP Tryd.prog 22 [va, vb] u fun r _ => r = .bool (aft a b) := by
  obtain ⟨ad, cap, rfl, h1⟩ := ha
  obtain ⟨ad2, cap2, rfl, h2⟩ := hb
  refine FnP.intro [.tmp 4] Tryd.func22 rfl rfl rfl ?_
  intro w0 D hw0
  refine wc_seq ?_
  refine wc_region ?_
  refine rl_y (y_assign rfl rfl) rfl ?_
  refine rl_end (ρ' := [(0, _), (1, _)]) ⟨rfl, rfl, trivial⟩ ?_
  refine q_then ?_
  refine wc_seq ?_
  refine wc_seq ?_
  refine wc_region ?_
  refine rl_y (y_assign rfl rfl) rfl ?_
  refine rl_end (ρ' := [(0, _), (1, _), (5, _)]) ⟨rfl, rfl, rfl, trivial⟩ ?_
  refine q_then ?_
  refine wc_block ?_
  refine wc_loop (fun m ρ σ u' => ∃ i : Nat, i + m = min a.length b.length ∧ VLe u u' ∧ σ = [] ∧ ρ = [(0, .v (.slice ad a.length cap)), (1, .v (.slice ad2 b.length cap2)), (5, .v (.int .i64 i))] ∧ (u = u' ∧ aft a b = aft (a.drop i) (b.drop i))) (min a.length b.length) ?_ ?_
  ·
    refine ⟨[(0, _), (1, _), (5, _)], [], ⟨rfl, rfl, rfl, trivial⟩, trivial, 0, by omega, VLe.refl _, (by first | rfl | simp), (by first | rfl | (simp only [List.cons.injEq, Prod.mk.injEq, SV.v.injEq, Value.int.injEq, true_and, and_true]; omega) | simp), ?_⟩
    exact ⟨rfl, by simp⟩
  ·
    rintro m ρ σ u' ⟨i, hi2, hle2, rfl, rfl, ⟨rfl, hinv⟩⟩
    refine wc_seq ?_
    refine wc_seq ?_
    refine wc_cutB 15 (decide (i < a.length ∧ i < b.length)) (ρk := [(0, _), (1, _), (5, _)]) ⟨rfl, rfl, rfl, trivial⟩ ?_ ?_
    ·
      refine wc_region ?_
      refine rl_y (y_move rfl rfl) rfl ?_
      refine rl_y (y_move rfl rfl) rfl ?_
      refine rl_y (y_len_v rfl rfl Tryd.s46 rfl) rfl ?_
      refine rl_y (y_lss rfl rfl rfl) rfl ?_
      refine rl_y (y_move rfl rfl) rfl ?_
      rcases Bool.eq_false_or_eq_true (decide ((i : Int) < a.length)) with hg2_4 | hg2_4
      ·
        simp only [hg2_4]
        refine rl_on rfl rfl ?_
        refine rl_y (y_move rfl rfl) rfl ?_
        refine rl_on rfl rfl ?_
        refine rl_y (y_move rfl rfl) rfl ?_
        refine rl_on rfl rfl ?_
        refine rl_y (y_len_v rfl rfl Tryd.s46 rfl) rfl ?_
        refine rl_on rfl rfl ?_
        refine rl_y (y_lss rfl rfl rfl) rfl ?_
        refine rl_y (y_pick_t rfl rfl rfl) rfl ?_
        exact cutB_end rfl ⟨rfl, rfl, rfl, trivial⟩ (by (first | refine (decide_eq_true ?_).symm | refine (decide_eq_false ?_).symm | refine decide_eq_decide.2 ?_ | refine decide_eq_true ?_ | refine decide_eq_false ?_) <;> (try unfold aft) <;> (try simp only [decide_eq_true_eq, decide_eq_false_iff_not] at *) <;> omega)
      ·
        simp only [hg2_4]
        refine rl_off rfl rfl rfl rfl ?_
        refine rl_off rfl rfl rfl rfl ?_
        refine rl_off rfl rfl rfl rfl ?_
        refine rl_off rfl rfl rfl rfl ?_
        refine rl_y (y_pick_f rfl rfl rfl) rfl ?_
        exact cutB_end rfl ⟨rfl, rfl, rfl, trivial⟩ (by (first | refine (decide_eq_true ?_).symm | refine (decide_eq_false ?_).symm | refine decide_eq_decide.2 ?_ | refine decide_eq_true ?_ | refine decide_eq_false ?_) <;> (try unfold aft) <;> (try simp only [decide_eq_true_eq, decide_eq_false_iff_not] at *) <;> omega)
    refine q_then ?_
    refine wc_cond rfl (fun hb2 => ?_) (fun hb2 => ?_)
    ·
      refine wc_skip ?_
      refine q_then ?_
      refine wc_seq ?_
      refine wc_block ?_
      refine wc_seq ?_
      have hlt := of_decide_eq_true hb2
      have hga := List.getElem?_eq_getElem hlt.1
      have hgb := List.getElem?_eq_getElem hlt.2
      have hca := cut_natsC hga
      have hcb := cut_natsC hgb
      have hst := aft_step hga hgb
      refine wc_draw Tryd.mixed rfl [] trivial ?_
      refine ra_y (i := 0) rfl (by kernel_rfl) (by kernel_rfl) (by kernel_rfl) (np_then (np_block (np_then (np_then (np_block (np_then (np_fin))))))) (y_move rfl rfl) rfl ?_
      refine ra_y (i := 1) rfl (by kernel_rfl) (by kernel_rfl) (by kernel_rfl) (np_then (np_block (np_then (np_then (np_block (np_then (np_fin))))))) (y_move rfl rfl) rfl ?_
      refine ra_y (i := 2) rfl (by kernel_rfl) (by kernel_rfl) (by kernel_rfl) (np_then (np_block (np_then (np_then (np_block (np_then (np_fin))))))) (y_index_e rfl Tryd.s46 rfl rfl (by assumption) (by first | rfl | omega) (by omega)) rfl ?_
      refine ra_y (i := 3) rfl (by kernel_rfl) (by kernel_rfl) (by kernel_rfl) (np_then (np_block (np_then (np_then (np_block (np_then (np_fin))))))) (y_load_el rfl Tryd.k3 rfl (by assumption) (by omega) (by assumption) (vs := [_]) rfl rfl rfl rfl) rfl ?_
      refine ra_y (i := 4) rfl (by kernel_rfl) (by kernel_rfl) (by kernel_rfl) (np_then (np_block (np_then (np_then (np_block (np_then (np_fin))))))) (y_move rfl rfl) rfl ?_
      refine ra_y (i := 5) rfl (by kernel_rfl) (by kernel_rfl) (by kernel_rfl) (np_then (np_block (np_then (np_then (np_block (np_then (np_fin))))))) (y_move rfl rfl) rfl ?_
      refine ra_y (i := 6) rfl (by kernel_rfl) (by kernel_rfl) (by kernel_rfl) (np_then (np_block (np_then (np_then (np_block (np_then (np_fin))))))) (y_index_e rfl Tryd.s46 rfl rfl (by assumption) (by first | rfl | omega) (by omega)) rfl ?_
      refine ra_y (i := 7) rfl (by kernel_rfl) (by kernel_rfl) (by kernel_rfl) (np_then (np_block (np_then (np_then (np_block (np_then (np_fin))))))) (y_load_el rfl Tryd.k3 rfl (by assumption) (by omega) (by assumption) (vs := [_]) rfl rfl rfl rfl) rfl ?_
      refine ra_y (i := 8) rfl (by kernel_rfl) (by kernel_rfl) (by kernel_rfl) (np_then (np_block (np_then (np_then (np_block (np_then (np_fin))))))) (y_neq rfl rfl rfl) rfl ?_
      refine ra_end (by kernel_rfl) (ρ' := [(0, _), (1, _), (5, _), (26, _)]) ⟨rfl, rfl, rfl, rfl, trivial⟩ ?_
      refine q_then ?_
      refine wc_cond rfl (fun hb4 => ?_) (fun hb4 => ?_)
      ·
        refine wc_seq ?_
        refine wc_draw Tryd.mixed rfl [] trivial ?_
        refine ra_y (i := 0) rfl (by kernel_rfl) (by kernel_rfl) (by kernel_rfl) (np_then (np_block (np_then (np_then (np_block (np_then (np_fin))))))) (y_move rfl rfl) rfl ?_
        refine ra_y (i := 1) rfl (by kernel_rfl) (by kernel_rfl) (by kernel_rfl) (np_then (np_block (np_then (np_then (np_block (np_then (np_fin))))))) (y_move rfl rfl) rfl ?_
        refine ra_y (i := 2) rfl (by kernel_rfl) (by kernel_rfl) (by kernel_rfl) (np_then (np_block (np_then (np_then (np_block (np_then (np_fin))))))) (y_index_e rfl Tryd.s46 rfl rfl (by assumption) (by first | rfl | omega) (by omega)) rfl ?_
        refine ra_y (i := 3) rfl (by kernel_rfl) (by kernel_rfl) (by kernel_rfl) (np_then (np_block (np_then (np_then (np_block (np_then (np_fin))))))) (y_load_el rfl Tryd.k3 rfl (by assumption) (by omega) (by assumption) (vs := [_]) rfl rfl rfl rfl) rfl ?_
        refine ra_y (i := 4) rfl (by kernel_rfl) (by kernel_rfl) (by kernel_rfl) (np_then (np_block (np_then (np_then (np_block (np_then (np_fin))))))) (y_move rfl rfl) rfl ?_
        refine ra_y (i := 5) rfl (by kernel_rfl) (by kernel_rfl) (by kernel_rfl) (np_then (np_block (np_then (np_then (np_block (np_then (np_fin))))))) (y_move rfl rfl) rfl ?_
        refine ra_y (i := 6) rfl (by kernel_rfl) (by kernel_rfl) (by kernel_rfl) (np_then (np_block (np_then (np_then (np_block (np_then (np_fin))))))) (y_index_e rfl Tryd.s46 rfl rfl (by assumption) (by first | rfl | omega) (by omega)) rfl ?_
        refine ra_y (i := 7) rfl (by kernel_rfl) (by kernel_rfl) (by kernel_rfl) (np_then (np_block (np_then (np_then (np_block (np_then (np_fin))))))) (y_load_el rfl Tryd.k3 rfl (by assumption) (by omega) (by assumption) (vs := [_]) rfl rfl rfl rfl) rfl ?_
        refine ra_y (i := 8) rfl (by kernel_rfl) (by kernel_rfl) (by kernel_rfl) (np_then (np_block (np_then (np_then (np_block (np_then (np_fin))))))) (y_gtr rfl rfl rfl) rfl ?_
        refine ra_y (i := 9) rfl (by kernel_rfl) (by kernel_rfl) (by kernel_rfl) (np_then (np_block (np_then (np_then (np_block (np_then (np_fin))))))) (y_assign rfl rfl) rfl ?_
        refine ra_end (by kernel_rfl) (ρ' := [(4, _)]) ⟨rfl, trivial⟩ ?_
        refine q_then ?_
        refine wc_ret ?_
        refine q_block_ret ?_
        refine q_then_ret ?_
        refine q_then_ret ?_
        refine q_block_ret ?_
        refine q_then_ret ?_
        refine fin1 (.tmp rfl) ?_
        have h4 := of_decide_eq_true hb4
        rw [if_neg (by omega)] at hst
        rw [hinv, hst]
        simp
      ·
        refine wc_skip ?_
        refine q_block ?_
        refine q_then ?_
        refine wc_region ?_
        refine rl_y (y_move rfl rfl) rfl ?_
        refine rl_y (y_add rfl rfl rfl (wrap64_id (by omega))) rfl ?_
        refine rl_y (y_assign rfl rfl) rfl ?_
        refine rl_end (ρ' := [(0, _), (1, _), (5, _)]) ⟨rfl, rfl, rfl, trivial⟩ ?_
        refine q_thenK ?_
        refine ⟨m - 1, [(0, _), (1, _), (5, _)], [], by omega, ⟨rfl, rfl, rfl, trivial⟩, trivial, i + 1, by omega, hle2, (by first | rfl | simp), (by first | rfl | (simp only [List.cons.injEq, Prod.mk.injEq, SV.v.injEq, Value.int.injEq, true_and, and_true]; omega) | simp), ?_⟩
        have h4 := of_decide_eq_false hb4
        rw [if_pos (by omega)] at hst
        exact ⟨rfl, by rw [hinv, hst]⟩
    ·
      refine wc_exit ?_
      refine q_then_exit ?_
      refine q_then_exit ?_
      refine q_block_hit ?_
      refine q_then ?_
      refine wc_seq ?_
      refine wc_region ?_
      refine rl_y (y_move rfl rfl) rfl ?_
      refine rl_y (y_len_v rfl rfl Tryd.s46 rfl) rfl ?_
      refine rl_y (y_move rfl rfl) rfl ?_
      refine rl_y (y_len_v rfl rfl Tryd.s46 rfl) rfl ?_
      refine rl_y (y_gtr rfl rfl rfl) rfl ?_
      refine rl_y (y_assign rfl rfl) rfl ?_
      refine rl_end (ρ' := [(4, _)]) ⟨rfl, trivial⟩ ?_
      refine q_then ?_
      refine wc_ret ?_
      refine fin1 (.tmp rfl) ?_
      have hge := of_decide_eq_false hb2
      rw [hinv, aft_len (by simp only [List.drop_eq_nil_iff]; omega)]
      congr 1
      simp only [List.length_drop, decide_eq_decide]
      omega

/-- what 'counters' reads -/
def run : Bs → Nat → Nat → List Nat → List Nat
  | [], n, dg, out => if dg = 0 ∨ 6 < dg then [] else out ++ [n]
  | c :: s, n, dg, out =>
    if c.toNat = 46 then (if dg = 0 ∨ 6 < dg then [] else run s 0 0 (out ++ [n]))
    else if c.toNat < 48 ∨ 57 < c.toNat then []
    else if 6 < dg + 1 then [] else run s (10 * n + (c.toNat - 48)) (dg + 1) out
theorem run_end {s : Bs} {i n dg : Nat} {out : List Nat} (h : i = s.length) : run (s.drop i) n dg out = if dg = 0 ∨ 6 < dg then [] else out ++ [n] := by
  rw [List.drop_eq_nil_of_le (by omega), run]
theorem run_step {s : Bs} {i n dg : Nat} {out : List Nat} {c : UInt8} (h : s[i]? = some c) : run (s.drop i) n dg out = if c.toNat = 46 then (if dg = 0 ∨ 6 < dg then [] else run (s.drop (i + 1)) 0 0 (out ++ [n]))
    else if c.toNat < 48 ∨ 57 < c.toNat then []
    else if 6 < dg + 1 then [] else run (s.drop (i + 1)) (10 * n + (c.toNat - 48)) (dg + 1) out := by
  obtain ⟨h1, rfl⟩ := List.getElem?_eq_some_iff.1 h
  rw [List.drop_eq_getElem_cons h1, run]
theorem run_dot {s : Bs} {i n dg : Nat} {out : List Nat} (h : i = s.length ∨ ∃ c, s[i]? = some c ∧ c.toNat = 46) : (dg = 0 ∨ 6 < dg → run (s.drop i) n dg out = []) ∧ (¬ (dg = 0 ∨ 6 < dg) → i < s.length → run (s.drop i) n dg out = run (s.drop (i + 1)) 0 0 (out ++ [n])) ∧ (¬ (dg = 0 ∨ 6 < dg) → i = s.length → run (s.drop i) n dg out = out ++ [n]) := by
  rcases h with h | ⟨c, h, hc⟩
  · rw [run_end h]
    refine ⟨fun h => by rw [if_pos h], fun _ h => by omega, fun h _ => by rw [if_neg h]⟩
  · rw [run_step h, if_pos hc]
    have := (List.getElem?_eq_some_iff.1 h).1
    refine ⟨fun h => by rw [if_pos h], fun h _ => by rw [if_neg h], fun _ h => by omega⟩
theorem wrap_u8 {e : Int} (h : 0 ≤ e ∧ e ≤ 255) : IntKind.u8.wrap e = e := by
  have h1 : IntKind.u8.wrap e = e % 2 ^ 8 := by simp [IntKind.wrap, IntKind.signed, IntKind.bits]
  rw [h1]
  omega
theorem uint8_lt (c : UInt8) : c.toNat < 256 := c.toBitVec.isLt

theorem counters_fn (s : Bs) (hs : s.length ≤ 100000) (u : View) : FnP Tryd.prog 21 [str s] u fun r u' => NatS u' r (run s 0 0 []) := by
  refine FnP.intro [.tmp 2] Tryd.func21 rfl rfl rfl ?_
  intro w0 D hw0
  refine wc_seq ?_
  refine wc_region ?_
  refine rl_y (y_assign rfl rfl) rfl ?_
  refine rl_end (ρ' := [(0, _)]) ⟨rfl, trivial⟩ ?_
  refine q_then ?_
  refine wc_seq ?_
  refine wc_region ?_
  refine rl_y (y_assign rfl rfl) rfl ?_
  refine rl_own_nil 3 503 3 1 rfl rfl rfl ?_
  refine rl_end (ρ' := [(0, _), (3, _)]) ⟨rfl, rfl, trivial⟩ ?_
  refine q_then ?_
  refine wc_seq ?_
  refine wc_region ?_
  refine rl_y (y_assign rfl rfl) rfl ?_
  refine rl_y (y_assign rfl rfl) rfl ?_
  refine rl_end (ρ' := [(0, _), (3, _), (4, _), (5, _)]) ⟨rfl, rfl, rfl, rfl, trivial⟩ ?_
  refine q_then ?_
  refine wc_seq ?_
  refine wc_seq ?_
  refine wc_region ?_
  refine rl_y (y_assign rfl rfl) rfl ?_
  refine rl_end (ρ' := [(0, _), (3, _), (4, _), (5, _), (6, _)]) ⟨rfl, rfl, rfl, rfl, rfl, trivial⟩ ?_
  refine q_then ?_
  refine wc_block ?_
  refine wc_loop (fun m ρ σ u' => ∃ i : Nat, i + m = s.length + 1 ∧ VLe u u' ∧ ∃ (n : Nat) (dg : Nat) (out : List Nat), σ = [(503, (none, .row 3 1 out.length (natsC out)))] ∧ ρ = [(0, .v (str s)), (3, .s 503), (4, .v (.int .i64 n)), (5, .v (.int .i64 dg)), (6, .v (.int .i64 i))] ∧ (u = u' ∧ run s 0 0 [] = (if i ≤ s.length then run (s.drop i) n dg out else out) ∧ n < 10 ^ dg ∧ dg ≤ 6 ∧ out.length ≤ i)) (s.length + 1) ?_ ?_
  ·
    refine ⟨[(0, _), (3, _), (4, _), (5, _), (6, _)], [(503, _)], ⟨rfl, rfl, rfl, rfl, rfl, trivial⟩, ⟨rfl, trivial⟩, 0, by omega, VLe.refl _, 0, 0, [], (by first | rfl | simp), (by first | rfl | (simp only [List.cons.injEq, Prod.mk.injEq, SV.v.injEq, Value.int.injEq, true_and, and_true]; omega) | simp), ?_⟩
    exact ⟨rfl, by rw [if_pos (Nat.zero_le _)]; rfl, by decide, by decide, by decide⟩
  ·
    rintro m ρ σ u' ⟨i, hi4, hle4, n, dg, out, rfl, rfl, ⟨rfl, hinv, hn, hdg, hout⟩⟩
    have hn6 : n < 1000000 := Nat.lt_of_lt_of_le hn (Nat.le_trans (Nat.pow_le_pow_right (by decide) hdg) (by decide))
    refine wc_seq ?_
    refine wc_seq ?_
    refine wc_region ?_
    refine rl_y (y_move rfl rfl) rfl ?_
    refine rl_y (y_move rfl rfl) rfl ?_
    refine rl_y (y_len_str rfl rfl Tryd.str9 rfl) rfl ?_
    refine rl_y (y_leq rfl rfl rfl) rfl ?_
    refine rl_end (ρ' := [(0, _), (3, _), (4, _), (5, _), (6, _), (10, _)]) ⟨rfl, rfl, rfl, rfl, rfl, rfl, trivial⟩ ?_
    refine q_then ?_
    refine wc_cond rfl (fun hb4 => ?_) (fun hb4 => ?_)
    ·
      refine wc_skip ?_
      refine q_then ?_
      refine wc_seq ?_
      refine wc_block ?_
      refine wc_seq ?_
      refine wc_seq ?_
      have hle := of_decide_eq_true hb4
      rw [if_pos (by omega)] at hinv
      obtain ⟨c, hc⟩ : ∃ c, i < s.length → s[i]? = some c := ⟨s.getD i 0, fun h => by simp [h]⟩
      refine wc_cutB 22 (decide (i = s.length ∨ ∃ c, s[i]? = some c ∧ c.toNat = 46)) (ρk := [(0, _), (3, _), (4, _), (5, _), (6, _)]) ⟨rfl, rfl, rfl, rfl, rfl, trivial⟩ ?_ ?_
      ·
        refine wc_region ?_
        refine rl_y (y_move rfl rfl) rfl ?_
        refine rl_y (y_move rfl rfl) rfl ?_
        refine rl_y (y_len_str rfl rfl Tryd.str9 rfl) rfl ?_
        refine rl_y (y_eql rfl rfl rfl) rfl ?_
        refine rl_y (y_move rfl rfl) rfl ?_
        rcases Bool.eq_false_or_eq_true (decide ((i : Int) = (s.length : Int))) with hg6_4 | hg6_4
        ·
          simp only [hg6_4]
          refine rl_off rfl rfl rfl rfl ?_
          refine rl_off rfl rfl rfl rfl ?_
          refine rl_off rfl rfl rfl rfl ?_
          refine rl_off rfl rfl rfl rfl ?_
          refine rl_y (y_pick_t rfl rfl rfl) rfl ?_
          exact cutB_end rfl ⟨rfl, rfl, rfl, rfl, rfl, trivial⟩ (by first | (have h := of_decide_eq_true hg6_4; exact (decide_eq_true (Or.inl (by omega))).symm) | (have h := of_decide_eq_false hg6_4; exact decide_eq_decide.2 ⟨fun hh => .inr ⟨c, hc (by omega), by omega⟩, fun hh => hh.elim (fun hh => absurd hh (by omega)) fun ⟨c', h1, h2⟩ => by rw [hc (by omega)] at h1; cases h1; omega⟩))
        ·
          simp only [hg6_4]
          refine rl_on rfl rfl ?_
          refine rl_y (y_move rfl rfl) rfl ?_
          refine rl_on rfl rfl ?_
          refine rl_y (y_move rfl rfl) rfl ?_
          refine rl_on rfl rfl ?_
          refine rl_y (y_index_str rfl Tryd.str9 rfl rfl (by first | rfl | omega) (hc (by have := of_decide_eq_false hg6_4; omega))) rfl ?_
          refine rl_on rfl rfl ?_
          refine rl_y (y_eql rfl rfl rfl) rfl ?_
          refine rl_y (y_pick_f rfl rfl rfl) rfl ?_
          exact cutB_end rfl ⟨rfl, rfl, rfl, rfl, rfl, trivial⟩ (by first | (have h := of_decide_eq_true hg6_4; exact (decide_eq_true (Or.inl (by omega))).symm) | (have h := of_decide_eq_false hg6_4; exact decide_eq_decide.2 ⟨fun hh => .inr ⟨c, hc (by omega), by omega⟩, fun hh => hh.elim (fun hh => absurd hh (by omega)) fun ⟨c', h1, h2⟩ => by rw [hc (by omega)] at h1; cases h1; omega⟩))
      refine q_then ?_
      refine wc_cond rfl (fun hb6 => ?_) (fun hb6 => ?_)
      ·
        refine wc_seq ?_
        refine wc_seq ?_
        obtain ⟨hd1, hd2, hd3⟩ := run_dot (n := n) (dg := dg) (out := out) (of_decide_eq_true hb6)
        refine wc_cutB 28 (decide (dg = 0 ∨ 6 < dg)) (ρk := [(0, _), (3, _), (4, _), (6, _)]) ⟨rfl, rfl, rfl, rfl, trivial⟩ ?_ ?_
        ·
          refine wc_region ?_
          refine rl_y (y_move rfl rfl) rfl ?_
          refine rl_y (y_eql rfl rfl rfl) rfl ?_
          refine rl_y (y_move rfl rfl) rfl ?_
          rcases Bool.eq_false_or_eq_true (decide ((dg : Int) = 0)) with hg7_2 | hg7_2
          ·
            simp only [hg7_2]
            refine rl_off rfl rfl rfl rfl ?_
            refine rl_off rfl rfl rfl rfl ?_
            refine rl_y (y_pick_t rfl rfl rfl) rfl ?_
            exact cutB_end rfl ⟨rfl, rfl, rfl, rfl, trivial⟩ (by (first | refine (decide_eq_true ?_).symm | refine (decide_eq_false ?_).symm | refine decide_eq_decide.2 ?_ | refine decide_eq_true ?_ | refine decide_eq_false ?_) <;> (try unfold run) <;> (try simp only [decide_eq_true_eq, decide_eq_false_iff_not] at *) <;> omega)
          ·
            simp only [hg7_2]
            refine rl_on rfl rfl ?_
            refine rl_y (y_move rfl rfl) rfl ?_
            refine rl_on rfl rfl ?_
            refine rl_y (y_gtr rfl rfl rfl) rfl ?_
            refine rl_y (y_pick_f rfl rfl rfl) rfl ?_
            exact cutB_end rfl ⟨rfl, rfl, rfl, rfl, trivial⟩ (by (first | refine (decide_eq_true ?_).symm | refine (decide_eq_false ?_).symm | refine decide_eq_decide.2 ?_ | refine decide_eq_true ?_ | refine decide_eq_false ?_) <;> (try unfold run) <;> (try simp only [decide_eq_true_eq, decide_eq_false_iff_not] at *) <;> omega)
        refine q_then ?_
        refine wc_cond rfl (fun hb7 => ?_) (fun hb7 => ?_)
        ·
          refine wc_seq ?_
          refine wc_region ?_
          refine rl_y (y_assign rfl rfl) rfl ?_
          refine rl_end (ρ' := [(2, _)]) ⟨rfl, trivial⟩ ?_
          refine q_then ?_
          refine wc_ret ?_
          refine q_then_ret ?_
          refine q_then_ret ?_
          refine q_block_ret ?_
          refine q_then_ret ?_
          refine q_then_ret ?_
          refine q_block_ret ?_
          refine q_then_ret ?_
          refine fin1 (.tmp rfl) ?_
          rw [hinv, hd1 (of_decide_eq_true hb7)]
          exact ⟨none, 0, rfl, by decide, by decide, by decide, by simp⟩
        ·
          refine wc_skip ?_
          refine q_then ?_
          refine wc_seq ?_
          refine wc_region ?_
          refine rl_y (y_move rfl rfl) rfl ?_
          refine rl_y (y_move rfl rfl) rfl ?_
          refine rl_do rfl rfl ?_
          refine do_buildSlice trivial Tryd.s46 Tryd.z3 (ps := [(_, _)]) rfl (xs := [_]) rfl rfl rfl rfl rfl rfl rfl ?_
          refine rl_do rfl rfl ?_
          refine do_append_s trivial rfl rfl Tryd.s46 Tryd.z3 rfl rfl rfl rfl rfl rfl (by first | rfl | exact oneAll | exact oneAll2 | simp [Value.oneCell', str]) (by omega) (by omega) (ρ' := [(0, _), (6, _)]) ⟨rfl, rfl, trivial⟩ rfl rfl rfl ?_
          refine rl_y (y_assign rfl rfl) rfl ?_
          refine rl_ren 32 503 rfl rfl rfl ?_
          refine rl_end (ρ' := [(0, _), (3, _), (6, _)]) ⟨rfl, rfl, rfl, trivial⟩ ?_
          refine q_then ?_
          refine wc_seq ?_
          refine wc_region ?_
          refine rl_y (y_assign rfl rfl) rfl ?_
          refine rl_end (ρ' := [(0, _), (3, _), (4, _), (6, _)]) ⟨rfl, rfl, rfl, rfl, trivial⟩ ?_
          refine q_then ?_
          refine wc_seq ?_
          refine wc_region ?_
          refine rl_y (y_assign rfl rfl) rfl ?_
          refine rl_end (ρ' := [(0, _), (3, _), (4, _), (5, _), (6, _)]) ⟨rfl, rfl, rfl, rfl, rfl, trivial⟩ ?_
          refine q_then ?_
          refine wc_exit ?_
          refine q_then_exit ?_
          refine q_block_hit ?_
          refine q_then ?_
          refine wc_region ?_
          refine rl_y (y_move rfl rfl) rfl ?_
          refine rl_y (y_add rfl rfl rfl (wrap64_id (by omega))) rfl ?_
          refine rl_y (y_assign rfl rfl) rfl ?_
          refine rl_end (ρ' := [(0, _), (3, _), (4, _), (5, _), (6, _)]) ⟨rfl, rfl, rfl, rfl, rfl, trivial⟩ ?_
          refine q_thenK ?_
          first
            | (refine ⟨m - 1, [(0, _), (3, _), (4, _), (5, _), (6, _)], [(503, _)], by omega, ⟨rfl, rfl, rfl, rfl, rfl, trivial⟩, ⟨rfl, trivial⟩, i + 1, by omega, hle4, 0, 0, out ++ [n], (by simp [natsC]), (by first | rfl | (simp; done)), ?_⟩
               have h7 := of_decide_eq_false hb7
               refine ⟨rfl, ?_, by decide, by decide, by simp; omega⟩
               rcases Nat.lt_or_ge i s.length with hlt | hge
               · rw [hinv, hd2 h7 hlt, if_pos (by omega)]
               · rw [hinv, hd3 h7 (by omega), if_neg (by omega)])
            | (refine ⟨m - 1, [(0, _), (3, _), (4, _), (5, _), (6, _)], [(503, _)], by omega, ⟨rfl, rfl, rfl, rfl, rfl, trivial⟩, ⟨rfl, trivial⟩, i + 1, by omega, hle4, 10 * n + (c.toNat - 48), dg + 1, out, rfl, (by first | rfl | (simp; done)), ?_⟩
               have h16 := of_decide_eq_false hb16
               refine ⟨rfl, ?_, ?_, by omega, by omega⟩
               · rw [hinv, hst, if_neg (by omega), if_pos (by omega)]
               · rw [Nat.pow_succ]; omega)
      ·
        refine wc_skip ?_
        refine q_then ?_
        refine wc_seq ?_
        refine wc_seq ?_
        have h6 := of_decide_eq_false hb6
        have hlt : i < s.length := by have := fun h => h6 (Or.inl h); omega
        have hc := hc hlt
        have hst := run_step (n := n) (dg := dg) (out := out) hc
        rw [if_neg (fun h => h6 (.inr ⟨c, hc, h⟩))] at hst
        refine wc_cutB 42 (decide (c.toNat < 48 ∨ 57 < c.toNat)) (ρk := [(0, _), (3, _), (4, _), (5, _), (6, _)]) ⟨rfl, rfl, rfl, rfl, rfl, trivial⟩ ?_ ?_
        ·
          refine wc_region ?_
          refine rl_y (y_move rfl rfl) rfl ?_
          refine rl_y (y_move rfl rfl) rfl ?_
          refine rl_y (y_index_str rfl Tryd.str9 rfl rfl (by first | rfl | omega) (by assumption)) rfl ?_
          refine rl_y (y_lss rfl rfl rfl) rfl ?_
          refine rl_y (y_move rfl rfl) rfl ?_
          rcases Bool.eq_false_or_eq_true (decide ((c.toNat : Int) < 48)) with hg12_4 | hg12_4
          ·
            simp only [hg12_4]
            refine rl_off rfl rfl rfl rfl ?_
            refine rl_off rfl rfl rfl rfl ?_
            refine rl_off rfl rfl rfl rfl ?_
            refine rl_off rfl rfl rfl rfl ?_
            refine rl_y (y_pick_t rfl rfl rfl) rfl ?_
            exact cutB_end rfl ⟨rfl, rfl, rfl, rfl, rfl, trivial⟩ (by (first | refine (decide_eq_true ?_).symm | refine (decide_eq_false ?_).symm | refine decide_eq_decide.2 ?_ | refine decide_eq_true ?_ | refine decide_eq_false ?_) <;> (try unfold run) <;> (try simp only [decide_eq_true_eq, decide_eq_false_iff_not] at *) <;> omega)
          ·
            simp only [hg12_4]
            refine rl_on rfl rfl ?_
            refine rl_y (y_move rfl rfl) rfl ?_
            refine rl_on rfl rfl ?_
            refine rl_y (y_move rfl rfl) rfl ?_
            refine rl_on rfl rfl ?_
            refine rl_y (y_index_str rfl Tryd.str9 rfl rfl (by first | rfl | omega) (by assumption)) rfl ?_
            refine rl_on rfl rfl ?_
            refine rl_y (y_gtr rfl rfl rfl) rfl ?_
            refine rl_y (y_pick_f rfl rfl rfl) rfl ?_
            exact cutB_end rfl ⟨rfl, rfl, rfl, rfl, rfl, trivial⟩ (by (first | refine (decide_eq_true ?_).symm | refine (decide_eq_false ?_).symm | refine decide_eq_decide.2 ?_ | refine decide_eq_true ?_ | refine decide_eq_false ?_) <;> (try unfold run) <;> (try simp only [decide_eq_true_eq, decide_eq_false_iff_not] at *) <;> omega)
        refine q_then ?_
        refine wc_cond rfl (fun hb12 => ?_) (fun hb12 => ?_)
        ·
          refine wc_seq ?_
          refine wc_region ?_
          refine rl_y (y_assign rfl rfl) rfl ?_
          refine rl_end (ρ' := [(2, _)]) ⟨rfl, trivial⟩ ?_
          refine q_then ?_
          refine wc_ret ?_
          refine q_then_ret ?_
          refine q_block_ret ?_
          refine q_then_ret ?_
          refine q_then_ret ?_
          refine q_block_ret ?_
          refine q_then_ret ?_
          refine fin1 (.tmp rfl) ?_
          rw [hinv, hst, if_pos (of_decide_eq_true hb12)]
          exact ⟨none, 0, rfl, by decide, by decide, by decide, by simp⟩
        ·
          refine wc_skip ?_
          refine q_then ?_
          refine wc_seq ?_
          have h12 := of_decide_eq_false hb12
          have hcl := uint8_lt c
          rw [if_neg h12] at hst
          refine wc_region ?_
          refine rl_y (y_move rfl rfl) rfl ?_
          refine rl_y (y_mul rfl rfl rfl (wrap64_id (by omega))) rfl ?_
          refine rl_y (y_move rfl rfl) rfl ?_
          refine rl_y (y_move rfl rfl) rfl ?_
          refine rl_y (y_index_str rfl Tryd.str9 rfl rfl (by first | rfl | omega) (by assumption)) rfl ?_
          refine rl_y (y_sub (r := ((c.toNat - 48 : Nat) : Int)) rfl rfl rfl (by rw [wrap_u8 (by omega)]; omega)) rfl ?_
          refine rl_y (y_conv rfl Tryd.u5 Tryd.u3 rfl (wrap64_id (by omega))) rfl ?_
          refine rl_y (y_add rfl rfl rfl (wrap64_id (by omega))) rfl ?_
          refine rl_y (y_assign rfl rfl) rfl ?_
          refine rl_end (ρ' := [(0, _), (3, _), (4, _), (5, _), (6, _)]) ⟨rfl, rfl, rfl, rfl, rfl, trivial⟩ ?_
          refine q_then ?_
          refine wc_seq ?_
          refine wc_region ?_
          refine rl_y (y_move rfl rfl) rfl ?_
          refine rl_y (y_add rfl rfl rfl (wrap64_id (by omega))) rfl ?_
          refine rl_y (y_assign rfl rfl) rfl ?_
          refine rl_end (ρ' := [(0, _), (3, _), (4, _), (5, _), (6, _)]) ⟨rfl, rfl, rfl, rfl, rfl, trivial⟩ ?_
          refine q_then ?_
          refine wc_seq ?_
          refine wc_region ?_
          refine rl_y (y_move rfl rfl) rfl ?_
          refine rl_y (y_gtr rfl rfl rfl) rfl ?_
          refine rl_end (ρ' := [(0, _), (3, _), (4, _), (5, _), (6, _), (54, _)]) ⟨rfl, rfl, rfl, rfl, rfl, rfl, trivial⟩ ?_
          refine q_then ?_
          refine wc_cond rfl (fun hb16 => ?_) (fun hb16 => ?_)
          ·
            refine wc_seq ?_
            refine wc_region ?_
            refine rl_y (y_assign rfl rfl) rfl ?_
            refine rl_end (ρ' := [(2, _)]) ⟨rfl, trivial⟩ ?_
            refine q_then ?_
            refine wc_ret ?_
            refine q_block_ret ?_
            refine q_then_ret ?_
            refine q_then_ret ?_
            refine q_block_ret ?_
            refine q_then_ret ?_
            refine fin1 (.tmp rfl) ?_
            have h16 := of_decide_eq_true hb16
            rw [hinv, hst, if_pos (by omega)]
            exact ⟨none, 0, rfl, by decide, by decide, by decide, by simp⟩
          ·
            refine wc_skip ?_
            refine q_block ?_
            refine q_then ?_
            refine wc_region ?_
            refine rl_y (y_move rfl rfl) rfl ?_
            refine rl_y (y_add rfl rfl rfl (wrap64_id (by omega))) rfl ?_
            refine rl_y (y_assign rfl rfl) rfl ?_
            refine rl_end (ρ' := [(0, _), (3, _), (4, _), (5, _), (6, _)]) ⟨rfl, rfl, rfl, rfl, rfl, trivial⟩ ?_
            refine q_thenK ?_
            first
              | (refine ⟨m - 1, [(0, _), (3, _), (4, _), (5, _), (6, _)], [(503, _)], by omega, ⟨rfl, rfl, rfl, rfl, rfl, trivial⟩, ⟨rfl, trivial⟩, i + 1, by omega, hle4, 0, 0, out ++ [n], (by simp [natsC]), (by first | rfl | (simp; done)), ?_⟩
                 have h7 := of_decide_eq_false hb7
                 refine ⟨rfl, ?_, by decide, by decide, by simp; omega⟩
                 rcases Nat.lt_or_ge i s.length with hlt | hge
                 · rw [hinv, hd2 h7 hlt, if_pos (by omega)]
                 · rw [hinv, hd3 h7 (by omega), if_neg (by omega)])
              | (refine ⟨m - 1, [(0, _), (3, _), (4, _), (5, _), (6, _)], [(503, _)], by omega, ⟨rfl, rfl, rfl, rfl, rfl, trivial⟩, ⟨rfl, trivial⟩, i + 1, by omega, hle4, 10 * n + (c.toNat - 48), dg + 1, out, rfl, (by first | rfl | (simp; done)), ?_⟩
                 have h16 := of_decide_eq_false hb16
                 refine ⟨rfl, ?_, ?_, by omega, by omega⟩
                 · rw [hinv, hst, if_neg (by omega), if_pos (by omega)]
                 · rw [Nat.pow_succ]; omega)
    ·
      refine wc_exit ?_
      refine q_then_exit ?_
      refine q_then_exit ?_
      refine q_block_hit ?_
      refine q_then ?_
      refine wc_seq ?_
      refine wc_region ?_
      refine rl_y (y_move rfl rfl) rfl ?_
      refine rl_y (y_assign rfl rfl) rfl ?_
      refine rl_freeze 503 rfl ?_
      intro ad503 cap503 u503 hle503z hsl503
      refine rl_end (ρ' := [(2, _)]) ⟨rfl, trivial⟩ ?_
      refine q_then ?_
      refine wc_ret ?_
      refine fin1 (.tmp rfl) ?_
      have hge := of_decide_eq_false hb4
      rw [hinv, if_neg (by omega)]
      exact ⟨_, _, rfl, hsl503⟩

def attr0 : DAttr := ⟨[], [], []⟩
theorem attrOk0 : AttrOk attr0 := ⟨by decide, ⟨by decide, by simp [attr0]⟩, ⟨by decide, by simp [attr0]⟩⟩
theorem nilSl (u : View) (sz : Nat) : IsSl u (.slice none 0 0) 0 sz [] := ⟨none, 0, rfl, by simp, by decide, by decide, by simp⟩
theorem nilStr (u : View) : StrS u (.slice none 0 0) [] := nilSl u 1
theorem nilPr (u : View) : PrS u (.slice none 0 0) [] := nilSl u 2
theorem nilCi (u : View) : CiS u (.slice none 0 0) [] := nilSl u 4
theorem nilInl (u : View) : InlS u (.slice none 0 0) [] := ⟨[], nilSl u 10, InlsC.nil⟩
theorem nilBlk (u : View) : BlkS u (.slice none 0 0) [] := ⟨[], nilSl u 11, BlksC.nil⟩
theorem intOk_of {k : Int} (h : -1000 ≤ k ∧ k ≤ 1000) : IntOk k := by unfold IntOk; omega

def textT : Inl := .mk 1 [84] [] [] attr0 [] [] []
def headB (lv : Int) : Blk := .mk 2 lv [] [] [] [] attr0 [textT] []
theorem textT_C (u : View) : InlC u textT (inlV 1 [84] [] [] [] (.slice none 0 0) (.slice none 0 0) (.slice none 0 0) (.slice none 0 0) (.slice none 0 0)) :=
  InlC.mk' (nilStr u) (nilPr u) (nilStr u) (nilCi u) (nilInl u) ⟨intOk_of (by decide), by decide, by decide, by decide, attrOk0, ⟨by decide, by simp⟩, ⟨by decide, by simp⟩, by decide⟩
theorem head_fn (lv : Int) (hl : IntOk lv) (u : View) : FnP Tryd.prog 23 [.int .i64 lv] u fun r u' => ∃ cs, r = .agg cs.toArray ∧ BlkC u' (headB lv) cs := by
  refine FnP.intro [.cell 2 42] Tryd.func23 rfl rfl rfl ?_
  intro w0 D hw0
  refine wc_seq ?_
  refine wc_region ?_
  refine rl_do rfl rfl ?_
  refine do_alloc trivial Tryd.z42 rfl rfl rfl ?_
  refine rl_end (ρ' := [(0, _), (2, _)]) ⟨rfl, rfl, trivial⟩ ?_
  refine q_then ?_
  refine wc_seq ?_
  refine wc_region ?_
  refine rl_y (y_move rfl rfl) rfl ?_
  refine rl_y (y_build rfl Tryd.f57' Tryd.z57 (ps := [(_, _), (_, _)]) rfl (vs := [_, _, _, _, _, _, _, _, _, _]) rfl) rfl ?_
  refine rl_do rfl rfl ?_
  refine do_buildSlice trivial Tryd.s36 Tryd.z57 (ps := [(_, _)]) rfl (xs := [_, _, _, _, _, _, _, _, _, _]) rfl rfl rfl rfl rfl rfl rfl ?_
  refine rl_freeze 5 rfl ?_
  intro ad5 cap5 u5 hle5z hsl5
  refine rl_y (y_build rfl Tryd.f42' Tryd.z42 (ps := [(_, _), (_, _), (_, _)]) rfl (vs := [_, _, _, _, _, _, _, _, _, _, _]) rfl) rfl ?_
  refine rl_do rfl rfl ?_
  refine do_store_p trivial rfl Tryd.k42 rfl rfl rfl (vs := [_, _, _, _, _, _, _, _, _, _, _]) rfl rfl (by first | rfl | exact oneAll | exact oneAll2 | simp [Value.oneCell', str]) (Nat.le_of_ble_eq_true rfl) rfl ?_
  refine rl_end (ρ' := [(2, _)]) ⟨rfl, trivial⟩ ?_
  refine q_then ?_
  refine wc_ret ?_
  refine fin1 (.cell rfl rfl Tryd.k42 (cs := _) (vs := [_, _, _, _, _, _, _, _, _, _, _]) rfl rfl rfl) ?_
  refine ⟨_, rfl, BlkC.mk' (nilStr _) (nilPr _) ⟨_, ⟨_, _, rfl, hsl5⟩, InlsC.one (textT_C _)⟩ (nilBlk _) ⟨intOk_of (by decide), hl, by decide, by decide, by decide, by decide, attrOk0, by decide, by decide⟩⟩
def refI (s : Bs) : Inl := .mk 12 s [] [] attr0 [] [] []
theorem ref_fn (s : Bs) (hs : s.length ≤ 1000) (u : View) : FnP Tryd.prog 25 [str s] u fun r u' => ∃ cs, r = .agg cs.toArray ∧ InlC u' (refI s) cs := by
  refine FnP.intro [.cell 2 57] Tryd.func25 rfl rfl rfl ?_
  intro w0 D hw0
  refine wc_seq ?_
  refine wc_region ?_
  refine rl_do rfl rfl ?_
  refine do_alloc trivial Tryd.z57 rfl rfl rfl ?_
  refine rl_end (ρ' := [(0, _), (2, _)]) ⟨rfl, rfl, trivial⟩ ?_
  refine q_then ?_
  refine wc_seq ?_
  refine wc_region ?_
  refine rl_y (y_move rfl rfl) rfl ?_
  refine rl_y (y_build rfl Tryd.f57' Tryd.z57 (ps := [(_, _), (_, _)]) rfl (vs := [_, _, _, _, _, _, _, _, _, _]) rfl) rfl ?_
  refine rl_do rfl rfl ?_
  refine do_store_p trivial rfl Tryd.k57 rfl rfl rfl (vs := [_, _, _, _, _, _, _, _, _, _]) rfl rfl (by first | rfl | exact oneAll | exact oneAll2 | simp [Value.oneCell', str]) (Nat.le_of_ble_eq_true rfl) rfl ?_
  refine rl_end (ρ' := [(2, _)]) ⟨rfl, trivial⟩ ?_
  refine q_then ?_
  refine wc_ret ?_
  refine fin1 (.cell rfl rfl Tryd.k57 (cs := _) (vs := [_, _, _, _, _, _, _, _, _, _]) rfl rfl rfl) ?_
  exact ⟨_, rfl, InlC.mk' (nilStr _) (nilPr _) (nilStr _) (nilCi _) (nilInl _) ⟨intOk_of (by decide), by omega, by decide, by decide, attrOk0, ⟨by decide, by simp⟩, ⟨by decide, by simp⟩, by decide⟩⟩

/-! ### the values of sections -/
theorem dec_pos (n : Nat) : 1 ≤ (dec n).length := by rw [dec_hi]; simp
theorem dec_len10 (k : Nat) : ∀ n, n < 10 ^ (k + 1) → (dec n).length ≤ k + 1 := by
  induction k with
  | zero => intro n h; rw [dec_small (by simpa using h)]; simp
  | succ k ih =>
    intro n h
    by_cases h9 : n < 10
    · rw [dec_small h9]; simp
    · rw [dec_big h9]
      have := ih (n / 10) (by rw [Nat.pow_succ] at h; omega)
      simp only [List.length_append, List.length_cons, List.length_nil]; omega
theorem toNat_dig {k : Nat} (h : k < 10) : (UInt8.ofNat (48 + k)).toNat = 48 + k := by
  simp [UInt8.toNat_ofNat']; omega
theorem run_dec (n : Nat) : ∀ (rest : Bs) (out : List Nat), (dec n).length ≤ 6 → run (dec n ++ rest) 0 0 out = run rest n (dec n).length out := by
  induction n using Nat.strongRecOn with
  | _ n ih =>
  intro rest out hl
  by_cases h : n < 10
  · rw [dec_small h]
    simp only [List.cons_append, List.nil_append, run, toNat_dig h, List.length_cons, List.length_nil]
    rw [if_neg (by omega), if_neg (by omega), if_neg (by omega)]
    congr 1; omega
  · rw [dec_big h] at hl ⊢
    simp only [List.length_append, List.length_cons, List.length_nil] at hl
    rw [List.append_assoc, ih (n / 10) (by omega) _ _ (by omega)]
    simp only [List.cons_append, List.nil_append, run, toNat_dig (Nat.mod_lt n (by decide : 0 < 10)), List.length_append, List.length_cons, List.length_nil]
    rw [if_neg (by omega), if_neg (by omega), if_neg (by omega)]
    congr 1; omega
def dots (cs : List Nat) : Bs := Lib.join (cs.map dec) [46]
theorem dots_nil : dots [] = [] := rfl
theorem dots_one (x : Nat) : dots [x] = dec x := by simp [dots, Lib.join, List.intercalate, List.intersperse]
theorem dots_cons (x y : Nat) (cs : List Nat) : dots (x :: y :: cs) = dec x ++ [46] ++ dots (y :: cs) := by simp [dots, Lib.join, List.intercalate, List.intersperse]
theorem dots_snoc : ∀ (cs : List Nat) (x : Nat), cs ≠ [] → dots (cs ++ [x]) = dots cs ++ [46] ++ dec x
  | [], x, h => absurd rfl h
  | [y], x, _ => by rw [List.cons_append, List.nil_append, dots_cons, dots_one, dots_one]
  | y :: z :: cs, x, _ => by
    have ih := dots_snoc (z :: cs) x (by simp)
    rw [List.cons_append] at ih
    rw [List.cons_append, List.cons_append, dots_cons, dots_cons, ih]
    simp
theorem dots_len : ∀ (cs : List Nat) (k : Nat), (∀ c ∈ cs, (dec c).length ≤ k) → (dots cs).length ≤ cs.length * (k + 1)
  | [], k, _ => by simp [dots_nil]
  | [x], k, h => by have := h x (by simp); rw [dots_one]; simp; omega
  | x :: y :: cs, k, h => by
    have := h x (by simp)
    have := dots_len (y :: cs) k (fun c hc => h c (by simp [hc]))
    rw [dots_cons]
    simp only [List.length_append, List.length_cons, List.length_nil] at this ⊢
    rw [Nat.add_mul _ 1, Nat.one_mul]; omega
theorem run_dots : ∀ (cs : List Nat) (out : List Nat), cs ≠ [] → (∀ c ∈ cs, (dec c).length ≤ 6) → run (dots cs) 0 0 out = out ++ cs
  | [], out, h, _ => absurd rfl h
  | [x], out, _, h => by
    have h1 := h x (by simp)
    have h2 := dec_pos x
    have := run_dec x [] out h1
    rw [List.append_nil] at this
    rw [dots_one, this, run, if_neg (by omega)]
  | x :: y :: cs, out, _, h => by
    have h1 := h x (by simp)
    have h2 := dec_pos x
    rw [dots_cons, List.append_assoc, run_dec x _ out h1]
    simp only [List.cons_append, List.nil_append, run]
    rw [if_pos (by decide), if_neg (by omega), run_dots (y :: cs) _ (by simp) (fun c hc => h c (by simp [hc]))]
    simp
theorem join_fn (v : Value) (xs : List Bs) (sep : Bs) (u : View) (hx : StrS u v xs) (hn : xs.length ≤ 1000000) (hl : (Lib.join xs sep).length ≤ 1000000) :
    FnP Tryd.prog 47 [v, str sep] u fun r _ => r = str (Lib.join xs sep) := by
  obtain ⟨ad, cap, rfl, h1⟩ := hx
  refine FnP.of_calls fun w hA => ?_
  have hlen := h1.1
  by_cases h0 : xs.length = 0
  · obtain rfl := List.eq_nil_of_length_eq_zero h0
    refine (Tryd.strings_Join_none ad cap ⟨sep.toArray⟩ w).mono ?_
    rintro e w' ⟨rfl, rfl⟩
    exact ⟨_, rfl, rfl, RowKit.Below.refl _ _⟩
  · obtain ⟨b, off, c, T, fr, rfl, hub, hcut⟩ := h1.2.2.2 h0
    have hb := hA _ _ hub
    have e1 : (xs.map fun x : Bs => (⟨x.toArray⟩ : ByteArray)).map (·.data.toList) = xs := by simp [Function.comp_def]
    have := Tryd.strings_Join b off cap (xs.map fun x : Bs => (⟨x.toArray⟩ : ByteArray)) ⟨sep.toArray⟩ w ?_ ?_ (by simp; omega) (by simpa using h1.2.1) (by rw [e1]; simpa using (by omega : (Lib.join xs sep).length ≤ 140737488355328))
    · rw [List.length_map, e1] at this
      refine this.mono ?_
      rintro e w' ⟨rfl, hbel⟩
      exact ⟨_, rfl, rfl, hbel⟩
    · intro j x hj
      have hj2 : (cut c.toList off (xs.length * 1))[j]? = some (Value.string x) := by
        rw [hcut]
        simp only [List.getElem?_map, Option.map_eq_some_iff] at hj
        obtain ⟨y, hy, rfl⟩ := hj
        simp [strsC, hy, str]
      have hlt : j < xs.length * 1 := by
        have := (List.getElem?_eq_some_iff.1 hj).1
        simpa using this
      have := getElem?_cut rfl hj2
      simp only [World.cell?, hb]
      simpa using this
    · exact (Array.getElem?_eq_some_iff.1 hb).1
end Go.Proofs.Ythnboadnehbciaa
