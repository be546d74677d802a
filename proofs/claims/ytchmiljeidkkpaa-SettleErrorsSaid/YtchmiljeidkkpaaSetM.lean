/- Settle: lists of pairs: settling. -/
import Derived.Test.YtchmiljeidkkpaaSetL
import Derived.Test.YtchmiljeidkkpaaSetD
namespace Go.Proofs.Ytchmiljeidkkpaa
open Go Go.Eng
set_option linter.unusedSimpArgs false
set_option linter.unusedVariables false

def itP (nx : List Pr → List Pr) (xs : List Pr) : Nat → List Pr
  | 0 => xs
  | n + 1 => nx (itP nx xs n)
theorem itP_len {nx : List Pr → List Pr} (h : ∀ xs, (nx xs).length ≤ xs.length) (xs : List Pr) : ∀ n, (itP nx xs n).length ≤ xs.length
  | 0 => Nat.le_refl _
  | n + 1 => Nat.le_trans (h _) (itP_len h xs n)

/-- how it ends: (the list, the rounds, the period, the error) -/
def EndP (X : Nat → List Pr) (er : List Pr → Int) (most k : Nat) (y : List Pr) (per : Int) (e : Int) : Prop :=
  1 ≤ k ∧ k ≤ most ∧ (∀ i, i + 1 < k → er (X i) = 0) ∧ (∀ a b, a < b → b < k → X a ≠ X b) ∧
  ((y = [] ∧ per = 0 ∧ e ≠ 0 ∧ er (X (k - 1)) = e) ∨
   (er (X (k - 1)) = 0 ∧ ((y = X k ∧ per = 0 ∧ e = 0 ∧ X k = X (k - 1)) ∨
    (∃ j, j + 1 < k ∧ y = [] ∧ per = (k : Int) - j ∧ e = 10 ∧ X k = X j) ∨
    (y = [] ∧ per = 0 ∧ e = 18 ∧ k = most ∧ ∀ i, i < k → X k ≠ X i))))

theorem settleP_fn {g : FuncId} {nx : List Pr → List Pr} {er : List Pr → Int} (S : Step g nx er) (ad0 : Option Addr) (cap0 : Nat) (xs : List Pr) (hx : xs.length ≤ 1000) (most : Nat) (hm : 1 ≤ most) (hm2 : most ≤ 64) (p : Nat) (T : TypeId) (fr : Nat × Nat) (u : View)
    (h1 : SlC u ad0 xs.length cap0 2 (prs xs)) (hp : u p = some (.cells #[.func (.func g) #[] #[]] T fr)) :
    FnP Try.prog 26 [.slice ad0 xs.length cap0, .func (.func 24) #[] #[.pointer (some ⟨p, 0, none⟩)], .func (.func 27) #[] #[], .int .i64 most] u
      fun v u' => ∃ (w : Value) (k : Nat) (y : List Pr) (per e : Int), v = .tuple #[w, .int .i64 k, .int .i64 per, .int .i64 e] ∧ IsPrs u' w y ∧ EndP (itP nx xs) er most k y per e := by
  have hXl : ∀ n, (itP nx xs n).length ≤ 1000 := fun n => by have := itP_len S.len xs n; omega
  refine FnP.intro [.tmp 8, .tmp 9, .tmp 10, .tmp 11] Try.func26 rfl rfl rfl ?_
  intro w0 hw0
  refine wc_seq ?_
  refine wc_region ?_
  refine rl_y (y_assign rfl rfl) rfl ?_
  refine rl_y (y_assign rfl rfl) rfl ?_
  refine rl_y (y_assign rfl rfl) rfl ?_
  refine rl_y (y_assign rfl rfl) rfl ?_
  refine rl_end (ρ' := [(0, _), (1, _), (2, _), (3, _)]) ⟨rfl, rfl, rfl, rfl, trivial⟩ ?_
  refine q_then ?_
  refine wc_seq ?_
  refine wc_region ?_
  refine rl_y (y_assign rfl rfl) rfl ?_
  refine rl_end (ρ' := [(0, _), (1, _), (2, _), (3, _), (12, _)]) ⟨rfl, rfl, rfl, rfl, rfl, trivial⟩ ?_
  refine q_then ?_
  refine wc_seq ?_
  refine wc_region ?_
  refine rl_y (y_move rfl rfl) rfl ?_
  refine rl_buildSlice Try.s57 Try.z35 (ps := [(_, _)]) rfl (xs := [_]) rfl rfl rfl rfl rfl rfl rfl ?_
  refine rl_y (y_assign rfl rfl) rfl ?_
  refine rl_ren 19 13 rfl rfl rfl ?_
  refine rl_end (ρ' := [(1, _), (2, _), (3, _), (12, _), (13, _)]) ⟨rfl, rfl, rfl, rfl, rfl, trivial⟩ ?_
  refine q_then ?_
  refine wc_seq ?_
  refine wc_region ?_
  refine rl_y (y_assign rfl rfl) rfl ?_
  refine rl_end (ρ' := [(1, _), (2, _), (3, _), (12, _), (13, _), (14, _)]) ⟨rfl, rfl, rfl, rfl, rfl, rfl, trivial⟩ ?_
  refine q_then ?_
  refine wc_block ?_
  refine wc_loop (fun m ρ σ u' μ => ∃ (k : Nat) (vs : List Value), 1 ≤ k ∧ k + m = most ∧ vs.length = k ∧ (∀ i, i < k → ∃ v, vs[i]? = some v ∧ IsPrs u' v (itP nx xs i)) ∧ (∀ i, i + 1 < k → er (itP nx xs i) = 0) ∧ (∀ a b, a < b → b < k → itP nx xs a ≠ itP nx xs b) ∧ VLe u u' ∧ μ = [] ∧
  ρ = [(1, .v (.func (.func 24) #[] #[.pointer (some ⟨p, 0, none⟩)])), (2, .v (.func (.func 27) #[] #[])), (3, .v (.int .i64 most)), (12, .v (.slice none 0 0)), (13, .s 13), (14, .v (.int .i64 k))] ∧
  σ = [(13, .row 35 1 k vs)]) (most - 1) ?_ ?_
  ·
    refine ⟨[(1, _), (2, _), (3, _), (12, _), (13, _), (14, _)], [(13, _)], ⟨rfl, rfl, rfl, rfl, rfl, rfl, trivial⟩, ⟨rfl, trivial⟩, 1, [.slice ad0 xs.length cap0], by omega, by omega, rfl, ?_, fun i hi => by omega, fun a b _ _ => by omega, VLe.refl _, rfl, rfl, rfl⟩
    intro i hi
    obtain rfl : i = 0 := by omega
    exact ⟨_, rfl, ad0, cap0, rfl, h1⟩
  ·
    rintro m ρ σ u2 μ ⟨k, vs, hk1, hk2, hvl, hvs, herr, hdist, hle, rfl, rfl, rfl⟩
    refine wc_seq ?_
    refine wc_block ?_
    refine wc_seq ?_
    obtain ⟨vk, hvk, adk, capk, rfl, hsk⟩ := hvs (k - 1) (by omega)
    have hck : cut vs ((k - 1) * 1) 1 = [.slice adk (itP nx xs (k - 1)).length capk] := by rw [Nat.mul_one]; exact cut_one' hvk
    have hnext : nx (itP nx xs (k - 1)) = itP nx xs k := by
      obtain ⟨k', rfl⟩ : ∃ k', k = k' + 1 := ⟨k - 1, by omega⟩
      rfl
    refine wc_region ?_
    refine rl_y (y_move rfl rfl) rfl ?_
    refine rl_y (y_move rfl rfl) rfl ?_
    refine rl_y (y_move rfl rfl) rfl ?_
    refine rl_y (y_sub rfl rfl rfl (wrap64_id (by omega))) rfl ?_
    refine rl_y (y_index_s rfl Try.s57 rfl rfl rfl (j := k - 1) (by omega) (by omega)) rfl ?_
    refine rl_y (y_load_s rfl Try.k35 rfl rfl rfl hck rfl rfl (by rw [hvl]; omega)) rfl ?_
    refine rl_call (caps := [.pointer (some ⟨p, 0, none⟩)]) rfl rfl Try.c24 rfl (FnP.mono (apart_fn S adk capk (itP nx xs (k - 1)) (hXl _) p T fr _ hsk (hle _ _ hp)) ?_)
    rintro v u1 hle0 ⟨w, rfl, adn, capn, rfl, hsn⟩ hle1
    rw [hnext] at hsn ⊢
    have hvs1 : ∀ i, i < k → ∃ v, vs[i]? = some v ∧ IsPrs u1 v (itP nx xs i) := fun i hi => let ⟨v, h1, h2⟩ := hvs i hi; ⟨v, h1, h2.mono hle0⟩
    have hsk1 := hsk.mono hle0
    have hle2 : VLe u u1 := hle.trans hle0
    clear hvs
    refine rl_y (y_move rfl rfl) rfl ?_
    refine rl_y (y_extract rfl rfl rfl) rfl ?_
    refine rl_y (y_extract rfl rfl rfl) rfl ?_
    refine rl_y (y_assign rfl rfl) rfl ?_
    refine rl_y (y_assign rfl rfl) rfl ?_
    refine rl_end (ρ' := [(1, _), (2, _), (3, _), (12, _), (13, _), (14, _), (15, _), (16, _)]) ⟨rfl, rfl, rfl, rfl, rfl, rfl, rfl, rfl, trivial⟩ ?_
    refine q_then ?_
    refine wc_seq ?_
    refine wc_seq ?_
    obtain ⟨u1', hu1'⟩ : ∃ x, x = u1 := ⟨u1, rfl⟩
    refine wc_region ?_
    refine rl_y (y_move rfl rfl) rfl ?_
    refine rl_y (y_neq rfl rfl rfl) rfl ?_
    refine rl_end (ρ' := [(1, _), (2, _), (3, _), (12, _), (13, _), (14, _), (15, _), (16, _), (33, _)]) ⟨rfl, rfl, rfl, rfl, rfl, rfl, rfl, rfl, rfl, trivial⟩ ?_
    refine q_then ?_
    refine wc_cond rfl (fun hb6 => ?_) (fun hb6 => ?_)
    ·
      have he : er (itP nx xs (k - 1)) ≠ 0 := by simpa using hb6
      refine wc_seq ?_
      refine wc_region ?_
      refine rl_y (y_move rfl rfl) rfl ?_
      refine rl_y (y_move rfl rfl) rfl ?_
      refine rl_y (y_move rfl rfl) rfl ?_
      refine rl_y (y_assign rfl rfl) rfl ?_
      refine rl_y (y_assign rfl rfl) rfl ?_
      refine rl_y (y_assign rfl rfl) rfl ?_
      refine rl_y (y_assign rfl rfl) rfl ?_
      refine rl_end (ρ' := [(8, _), (9, _), (10, _), (11, _)]) ⟨rfl, rfl, rfl, rfl, trivial⟩ ?_
      refine q_then ?_
      refine wc_ret ?_
      refine q_then_ret ?_
      refine q_block_ret ?_
      refine q_then_ret ?_
      refine q_then_ret ?_
      refine q_block_ret ?_
      refine fin4 (.tmp rfl) (.tmp rfl) (.tmp rfl) (.tmp rfl) ?_
      exact ⟨_, k, [], 0, _, rfl, isPrs_nil _, hk1, by omega, herr, hdist, .inl ⟨rfl, rfl, he, rfl⟩⟩
    ·
      have he : er (itP nx xs (k - 1)) = 0 := by simpa using hb6
      refine wc_skip ?_
      refine q_then ?_
      refine wc_seq ?_
      refine wc_seq ?_
      refine wc_region ?_
      refine rl_y (y_move rfl rfl) rfl ?_
      refine rl_y (y_move rfl rfl) rfl ?_
      refine rl_y (y_move rfl rfl) rfl ?_
      refine rl_y (y_move rfl rfl) rfl ?_
      refine rl_y (y_sub rfl rfl rfl (wrap64_id (by omega))) rfl ?_
      refine rl_y (y_index_s rfl Try.s57 rfl rfl rfl (j := k - 1) (by omega) (by omega)) rfl ?_
      refine rl_y (y_load_s rfl Try.k35 rfl rfl rfl hck rfl rfl (by rw [hvl]; omega)) rfl ?_
      refine rl_call_f (caps := []) rfl rfl Try.c27 rfl (FnP.mono (samePairs_fn adn adk capn capk (itP nx xs k) (itP nx xs (k - 1)) (hXl _) _ hsn hsk1) ?_)
      rintro v u1 hle1 rfl
      refine rl_end (ρ' := [(1, _), (2, _), (3, _), (12, _), (13, _), (14, _), (15, _), (44, _)]) ⟨rfl, rfl, rfl, rfl, rfl, rfl, rfl, rfl, trivial⟩ ?_
      refine q_then ?_
      refine wc_cond rfl (fun hb8 => ?_) (fun hb8 => ?_)
      ·
        have hq : itP nx xs k = itP nx xs (k - 1) := by simpa using hb8
        refine wc_seq ?_
        refine wc_region ?_
        refine rl_y (y_move rfl rfl) rfl ?_
        refine rl_y (y_move rfl rfl) rfl ?_
        refine rl_y (y_assign rfl rfl) rfl ?_
        refine rl_y (y_assign rfl rfl) rfl ?_
        refine rl_y (y_assign rfl rfl) rfl ?_
        refine rl_y (y_assign rfl rfl) rfl ?_
        refine rl_end (ρ' := [(8, _), (9, _), (10, _), (11, _)]) ⟨rfl, rfl, rfl, rfl, trivial⟩ ?_
        refine q_then ?_
        refine wc_ret ?_
        refine q_then_ret ?_
        refine q_block_ret ?_
        refine q_then_ret ?_
        refine q_then_ret ?_
        refine q_block_ret ?_
        refine fin4 (.tmp rfl) (.tmp rfl) (.tmp rfl) (.tmp rfl) ?_
        exact ⟨_, k, _, 0, 0, rfl, ⟨adn, capn, rfl, hsn⟩, hk1, by omega, herr, hdist, .inr ⟨he, .inl ⟨rfl, rfl, rfl, hq⟩⟩⟩
      ·
        have hq : itP nx xs k ≠ itP nx xs (k - 1) := by simpa using hb8
        refine wc_skip ?_
        refine q_then ?_
        refine wc_seq ?_
        refine wc_seq ?_
        refine wc_region ?_
        refine rl_y (y_move rfl rfl) rfl ?_
        refine rl_y (y_sub rfl rfl rfl (wrap64_id (by omega))) rfl ?_
        refine rl_y (y_assign rfl rfl) rfl ?_
        refine rl_end (ρ' := [(1, _), (2, _), (3, _), (12, _), (13, _), (14, _), (15, _), (17, _)]) ⟨rfl, rfl, rfl, rfl, rfl, rfl, rfl, rfl, trivial⟩ ?_
        refine q_then ?_
        refine wc_block ?_
        refine wc_loop (fun m2 ρ σ u' μ => ∃ i : Int, i = (m2 : Int) - 1 ∧ m2 + 1 ≤ k ∧ (∀ j, m2 ≤ j → j < k → itP nx xs j ≠ itP nx xs k) ∧ u' = u1' ∧ μ = [] ∧
        ρ = [(1, .v (.func (.func 24) #[] #[.pointer (some ⟨p, 0, none⟩)])), (2, .v (.func (.func 27) #[] #[])), (3, .v (.int .i64 most)), (12, .v (.slice none 0 0)), (13, .s 13), (14, .v (.int .i64 k)), (15, .v (.slice adn (itP nx xs k).length capn)), (17, .v (.int .i64 i))] ∧
        σ = [(13, .row 35 1 k vs)]) (k - 1) ?_ ?_
        ·
          refine ⟨[(1, _), (2, _), (3, _), (12, _), (13, _), (14, _), (15, _), (17, _)], [(13, _)], ⟨rfl, rfl, rfl, rfl, rfl, rfl, rfl, rfl, trivial⟩, ⟨rfl, trivial⟩, (k : Int) - 2, by omega, by omega, ?_, hu1'.symm, rfl, rfl, rfl⟩
          intro j h1 h2
          obtain rfl : j = k - 1 := by omega
          exact Ne.symm hq
        ·
          rintro m2 ρ σ u3 μ ⟨i, hi, hm2k, hno, hu3, rfl, rfl, rfl⟩
          rw [← hu1'] at hvs1 hsn hle2
          rw [← hu3] at hvs1 hsn hle2
          refine wc_seq ?_
          refine wc_seq ?_
          refine wc_region ?_
          refine rl_y (y_move rfl rfl) rfl ?_
          refine rl_y (y_geq rfl rfl rfl) rfl ?_
          refine rl_end (ρ' := [(1, _), (2, _), (3, _), (12, _), (13, _), (14, _), (15, _), (17, _), (50, _)]) ⟨rfl, rfl, rfl, rfl, rfl, rfl, rfl, rfl, rfl, trivial⟩ ?_
          refine q_then ?_
          refine wc_cond rfl (fun hb11 => ?_) (fun hb11 => ?_)
          ·
            have hge : 1 ≤ m2 := by have := of_decide_eq_true hb11; omega
            refine wc_skip ?_
            refine q_then ?_
            refine wc_seq ?_
            refine wc_block ?_
            refine wc_seq ?_
            obtain ⟨vj, hvj, adj, capj, rfl, hsj⟩ := hvs1 (m2 - 1) (by omega)
            have hcj : cut vs ((m2 - 1) * 1) 1 = [.slice adj (itP nx xs (m2 - 1)).length capj] := by rw [Nat.mul_one]; exact cut_one' hvj
            refine wc_region ?_
            refine rl_y (y_move rfl rfl) rfl ?_
            refine rl_y (y_move rfl rfl) rfl ?_
            refine rl_y (y_move rfl rfl) rfl ?_
            refine rl_y (y_move rfl rfl) rfl ?_
            refine rl_y (y_index_s rfl Try.s57 rfl rfl rfl (j := m2 - 1) (by omega) (by omega)) rfl ?_
            refine rl_y (y_load_s rfl Try.k35 rfl rfl rfl hcj rfl rfl (by rw [hvl]; omega)) rfl ?_
            refine rl_call_f (caps := []) rfl rfl Try.c27 rfl (FnP.mono (samePairs_fn adn adj capn capj (itP nx xs k) (itP nx xs (m2 - 1)) (hXl _) _ hsn hsj) ?_)
            rintro v u1 hle1 rfl
            refine rl_end (ρ' := [(1, _), (2, _), (3, _), (12, _), (13, _), (14, _), (15, _), (17, _), (59, _)]) ⟨rfl, rfl, rfl, rfl, rfl, rfl, rfl, rfl, rfl, trivial⟩ ?_
            refine q_then ?_
            refine wc_cond rfl (fun hb13 => ?_) (fun hb13 => ?_)
            ·
              have hq2 : itP nx xs k = itP nx xs (m2 - 1) := by simpa using hb13
              refine wc_seq ?_
              refine wc_region ?_
              refine rl_y (y_move rfl rfl) rfl ?_
              refine rl_y (y_move rfl rfl) rfl ?_
              refine rl_y (y_move rfl rfl) rfl ?_
              refine rl_y (y_move rfl rfl) rfl ?_
              refine rl_y (y_sub rfl rfl rfl (wrap64_id (by omega))) rfl ?_
              refine rl_y (y_assign rfl rfl) rfl ?_
              refine rl_y (y_assign rfl rfl) rfl ?_
              refine rl_y (y_assign rfl rfl) rfl ?_
              refine rl_y (y_assign rfl rfl) rfl ?_
              refine rl_end (ρ' := [(8, _), (9, _), (10, _), (11, _)]) ⟨rfl, rfl, rfl, rfl, trivial⟩ ?_
              refine q_then ?_
              refine wc_ret ?_
              refine q_block_ret ?_
              refine q_then_ret ?_
              refine q_then_ret ?_
              refine q_block_ret ?_
              refine q_then_ret ?_
              refine q_block_ret ?_
              refine q_then_ret ?_
              refine q_then_ret ?_
              refine q_block_ret ?_
              refine fin4 (.tmp rfl) (.tmp rfl) (.tmp rfl) (.tmp rfl) ?_
              rw [show i = ((m2 - 1 : Nat) : Int) by omega]
              exact ⟨_, k, [], _, 10, rfl, isPrs_nil _, hk1, by omega, herr, hdist, .inr ⟨he, .inr (.inl ⟨m2 - 1, by omega, rfl, rfl, rfl, hq2⟩)⟩⟩
            ·
              have hq2 : itP nx xs k ≠ itP nx xs (m2 - 1) := by simpa using hb13
              refine wc_skip ?_
              refine q_block ?_
              refine q_then ?_
              refine wc_region ?_
              refine rl_y (y_move rfl rfl) rfl ?_
              refine rl_y (y_sub rfl rfl rfl (wrap64_id (by omega))) rfl ?_
              refine rl_y (y_assign rfl rfl) rfl ?_
              refine rl_end (ρ' := [(1, _), (2, _), (3, _), (12, _), (13, _), (14, _), (15, _), (17, _)]) ⟨rfl, rfl, rfl, rfl, rfl, rfl, rfl, rfl, trivial⟩ ?_
              refine q_thenK ?_
              refine ⟨m2 - 1, [(1, _), (2, _), (3, _), (12, _), (13, _), (14, _), (15, _), (17, _)], [(13, _)], by omega, ⟨rfl, rfl, rfl, rfl, rfl, rfl, rfl, rfl, trivial⟩, ⟨rfl, trivial⟩, i - 1, by omega, by omega, ?_, hu3, rfl, rfl, rfl⟩
              intro j h1 h2
              by_cases e : j = m2 - 1
              · subst e; exact Ne.symm hq2
              · exact hno j (by omega) h2
          ·
            have hlt : m2 = 0 := by have := of_decide_eq_false hb11; omega
            refine wc_exit ?_
            refine q_then_exit ?_
            refine q_then_exit ?_
            refine q_block_hit ?_
            refine q_then ?_
            refine wc_seq ?_
            refine wc_seq ?_
            refine wc_region ?_
            refine rl_y (y_move rfl rfl) rfl ?_
            refine rl_y (y_move rfl rfl) rfl ?_
            refine rl_y (y_eql rfl rfl rfl) rfl ?_
            refine rl_end (ρ' := [(1, _), (2, _), (3, _), (12, _), (13, _), (14, _), (15, _), (67, _)]) ⟨rfl, rfl, rfl, rfl, rfl, rfl, rfl, rfl, trivial⟩ ?_
            refine q_then ?_
            refine wc_cond rfl (fun hb15 => ?_) (fun hb15 => ?_)
            ·
              have hkm : k = most := by have := of_decide_eq_true hb15; omega
              refine wc_seq ?_
              refine wc_region ?_
              refine rl_y (y_move rfl rfl) rfl ?_
              refine rl_y (y_move rfl rfl) rfl ?_
              refine rl_y (y_assign rfl rfl) rfl ?_
              refine rl_y (y_assign rfl rfl) rfl ?_
              refine rl_y (y_assign rfl rfl) rfl ?_
              refine rl_y (y_assign rfl rfl) rfl ?_
              refine rl_end (ρ' := [(8, _), (9, _), (10, _), (11, _)]) ⟨rfl, rfl, rfl, rfl, trivial⟩ ?_
              refine q_then ?_
              refine wc_ret ?_
              refine q_then_ret ?_
              refine q_block_ret ?_
              refine q_then_ret ?_
              refine q_then_ret ?_
              refine q_block_ret ?_
              refine fin4 (.tmp rfl) (.tmp rfl) (.tmp rfl) (.tmp rfl) ?_
              exact ⟨_, k, [], 0, 18, rfl, isPrs_nil _, hk1, by omega, herr, hdist, .inr ⟨he, .inr (.inr ⟨rfl, rfl, rfl, hkm, fun i hi => Ne.symm (hno i (by omega) hi)⟩)⟩⟩
            ·
              have hkm : k ≠ most := by have := of_decide_eq_false hb15; omega
              refine wc_skip ?_
              refine q_then ?_
              refine wc_region ?_
              refine rl_y (y_move rfl rfl) rfl ?_
              refine rl_y (y_move rfl rfl) rfl ?_
              refine rl_buildSlice Try.s57 Try.z35 (ps := [(_, _)]) rfl (xs := [_]) rfl rfl rfl rfl rfl rfl rfl ?_
              refine rl_append_s rfl Try.s57 Try.z35 rfl rfl rfl rfl rfl rfl (by first | rfl | simp [Value.oneCell', str]) (by omega) (by omega) (ρ' := [(1, _), (2, _), (3, _), (12, _), (14, _)]) ⟨rfl, rfl, rfl, rfl, rfl, trivial⟩ rfl rfl rfl ?_
              refine rl_y (y_assign rfl rfl) rfl ?_
              refine rl_ren 73 13 rfl rfl rfl ?_
              refine rl_end (ρ' := [(1, _), (2, _), (3, _), (12, _), (13, _), (14, _)]) ⟨rfl, rfl, rfl, rfl, rfl, rfl, trivial⟩ ?_
              refine q_block ?_
              refine q_then ?_
              refine wc_region ?_
              refine rl_y (y_move rfl rfl) rfl ?_
              refine rl_y (y_add rfl rfl rfl (wrap64_id (by omega))) rfl ?_
              refine rl_y (y_assign rfl rfl) rfl ?_
              refine rl_end (ρ' := [(1, _), (2, _), (3, _), (12, _), (13, _), (14, _)]) ⟨rfl, rfl, rfl, rfl, rfl, rfl, trivial⟩ ?_
              refine q_thenK ?_
              refine ⟨m - 1, [(1, _), (2, _), (3, _), (12, _), (13, _), (14, _)], [(13, _)], by omega, ⟨rfl, rfl, rfl, rfl, rfl, rfl, trivial⟩, ⟨rfl, trivial⟩, k + 1, vs ++ [.slice adn (itP nx xs k).length capn], by omega, by omega, by simp [hvl], ?_, ?_, ?_, hle2, rfl, rfl, rfl⟩
              · intro i hi
                by_cases e : i = k
                · subst e
                  exact ⟨_, by rw [List.getElem?_append_right (by omega), hvl, Nat.sub_self]; rfl, adn, capn, rfl, hsn⟩
                · obtain ⟨v, h1, h2⟩ := hvs1 i (by omega)
                  exact ⟨v, by rw [List.getElem?_append_left (by omega)]; exact h1, h2⟩
              · intro i hi
                by_cases e : i = k - 1
                · subst e; exact he
                · exact herr i (by omega)
              · intro x y h1 h2
                by_cases e : y = k
                · subst e; exact hno x (by omega) (by omega)
                · exact hdist x y h1 (by omega)

theorem pairsRun_fn {g : FuncId} {nx : List Pr → List Pr} {er : List Pr → Int} (S : Step g nx er) (ad0 : Option Addr) (cap0 : Nat) (xs : List Pr) (hx : xs.length ≤ 1000) (most : Int) (u : View) (h1 : SlC u ad0 xs.length cap0 2 (prs xs)) :
    FnP Try.prog 14 [.slice ad0 xs.length cap0, .func (.func g) #[] #[], .int .i64 most] u
      fun v u' => if 1 ≤ most ∧ most ≤ 64 then ∃ (w : Value) (k : Nat) (y : List Pr) (per e : Int), v = .tuple #[w, .int .i64 k, .int .i64 per, .int .i64 e] ∧ IsPrs u' w y ∧ EndP (itP nx xs) er most.toNat k y per e
        else v = .tuple #[.slice none 0 0, .int .i64 0, .int .i64 0, .int .i64 2] := by
  refine FnP.intro [.tmp 6, .tmp 7, .tmp 8, .tmp 9] Try.func14 rfl rfl rfl ?_
  intro w0 hw0
  refine wc_seq ?_
  refine wc_region ?_
  refine rl_box rfl (cs := [_]) rfl rfl rfl rfl ?_
  refine rl_y (y_assign rfl rfl) rfl ?_
  refine rl_y (y_assign rfl rfl) rfl ?_
  refine rl_y (y_assign rfl rfl) rfl ?_
  refine rl_y (y_assign rfl rfl) rfl ?_
  refine rl_end (ρ' := [(0, _), (2, _), (4, _)]) ⟨rfl, rfl, rfl, trivial⟩ ?_
  refine q_then ?_
  refine wc_seq ?_
  refine wc_seq ?_
  refine wc_cutB 20 (decide (most < 1) || decide (64 < most)) (ρk := [(0, _), (2, _), (4, _)]) ⟨rfl, rfl, rfl, trivial⟩ ?_ ?_
  ·
    refine wc_region ?_
    refine rl_y (y_load_p rfl Try.k38 rfl rfl rfl (vs := [_]) rfl rfl rfl) rfl ?_
    refine rl_y (y_run (z := .bool false) fun a h w => by have h10 := h (.tmp 11) _ rfl; simp only [execOp, h10]; rw [Sem.run_bind]; erw [func_nil (P := Try.prog) (t := 38) (ps := #[35]) (rs := #[35, 27]) (v := false) (by kernel_rfl)]; rfl) rfl ?_
    refine rl_y (y_move rfl rfl) rfl ?_
    refine rl_on rfl rfl ?_
    refine rl_y (y_move rfl rfl) rfl ?_
    refine rl_on rfl rfl ?_
    refine rl_y (y_lss rfl rfl rfl) rfl ?_
    refine rl_y (y_pick_f rfl rfl rfl) rfl ?_
    refine rl_y (y_move rfl rfl) rfl ?_
    rcases Bool.eq_false_or_eq_true (decide (most < 1)) with hg1_6 | hg1_6
    ·
      simp only [hg1_6]
      refine rl_off rfl rfl rfl rfl ?_
      refine rl_off rfl rfl rfl rfl ?_
      refine rl_y (y_pick_t rfl rfl rfl) rfl ?_
      exact cutB_end rfl ⟨rfl, rfl, rfl, trivial⟩ (by simp)
    ·
      simp only [hg1_6]
      refine rl_on rfl rfl ?_
      refine rl_y (y_move rfl rfl) rfl ?_
      refine rl_on rfl rfl ?_
      refine rl_y (y_gtr rfl rfl rfl) rfl ?_
      refine rl_y (y_pick_f rfl rfl rfl) rfl ?_
      exact cutB_end rfl ⟨rfl, rfl, rfl, trivial⟩ (by simp)
  refine q_then ?_
  refine wc_cond rfl (fun hb1 => ?_) (fun hb1 => ?_)
  ·
    have hno : ¬ (1 ≤ most ∧ most ≤ 64) := by simp at hb1; omega
    refine wc_seq ?_
    refine wc_region ?_
    refine rl_y (y_assign rfl rfl) rfl ?_
    refine rl_y (y_assign rfl rfl) rfl ?_
    refine rl_y (y_assign rfl rfl) rfl ?_
    refine rl_y (y_assign rfl rfl) rfl ?_
    refine rl_end (ρ' := [(6, _), (7, _), (8, _), (9, _)]) ⟨rfl, rfl, rfl, rfl, trivial⟩ ?_
    refine q_then ?_
    refine wc_ret ?_
    refine q_then_ret ?_
    refine fin4 (.tmp rfl) (.tmp rfl) (.tmp rfl) (.tmp rfl) ?_
    rw [if_neg hno]
  ·
    have hyes : 1 ≤ most ∧ most ≤ 64 := by simp at hb1; omega
    refine wc_skip ?_
    refine q_then ?_
    refine wc_seq ?_
    refine wc_region ?_
    refine rl_reveal 4 rfl ?_
    intro b T u2 hle hub
    obtain ⟨m, rfl⟩ : ∃ m : Nat, most = m := ⟨most.toNat, by omega⟩
    refine rl_y (y_makeFunc rfl rfl rfl) rfl ?_
    refine rl_y (y_assign rfl rfl) rfl ?_
    refine rl_end (ρ' := [(0, _), (2, _), (10, _)]) ⟨rfl, rfl, rfl, trivial⟩ ?_
    refine q_then ?_
    refine wc_seq ?_
    refine wc_region ?_
    refine rl_y (y_move rfl rfl) rfl ?_
    refine rl_call (caps := []) rfl rfl Try.c25 rfl (FnP.mono (clone_fn ad0 cap0 xs hx _ (h1.mono hle)) ?_)
    rintro v u1 hle0 ⟨ad1, cap1, rfl, hs1⟩ hle1
    refine rl_y (y_move rfl rfl) rfl ?_
    refine rl_y (y_move rfl rfl) rfl ?_
    refine rl_call (caps := []) rfl rfl Try.c26 rfl (FnP.mono (settleP_fn S ad1 cap1 xs hx m (by omega) (by omega) b T _ _ hs1 (hle0 _ _ hub)) ?_)
    rintro v u1 hle0 ⟨w, k, y, per, e, rfl, hw, hE⟩ hle1
    refine rl_y (y_extract rfl rfl rfl) rfl ?_
    refine rl_y (y_extract rfl rfl rfl) rfl ?_
    refine rl_y (y_extract rfl rfl rfl) rfl ?_
    refine rl_y (y_extract rfl rfl rfl) rfl ?_
    refine rl_y (y_assign rfl rfl) rfl ?_
    refine rl_y (y_assign rfl rfl) rfl ?_
    refine rl_y (y_assign rfl rfl) rfl ?_
    refine rl_y (y_assign rfl rfl) rfl ?_
    refine rl_end (ρ' := [(6, _), (7, _), (8, _), (9, _)]) ⟨rfl, rfl, rfl, rfl, trivial⟩ ?_
    refine q_then ?_
    refine wc_ret ?_
    refine fin4 (.tmp rfl) (.tmp rfl) (.tmp rfl) (.tmp rfl) ?_
    rw [if_pos hyes]
    exact ⟨w, k, y, per, e, rfl, hw, hE⟩
end Go.Proofs.Ytchmiljeidkkpaa
