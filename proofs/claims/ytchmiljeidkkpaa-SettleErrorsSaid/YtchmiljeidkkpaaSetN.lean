/- Settle: the two statements on pairs, as calls. -/
import Derived.Test.YtchmiljeidkkpaaSetM
import Derived.Test.YtchmiljeidkkpaaSetH
namespace Go.Proofs.Ytchmiljeidkkpaa
open Go Go.Eng
set_option linter.unusedSimpArgs false
set_option linter.unusedVariables false

theorem pairsRun2_fn {g : FuncId} {nx : List Pr → List Pr} {er : List Pr → Int} (S : Step g nx er) (ad0 : Option Addr) (cap0 : Nat) (xs : List Pr) (hx : xs.length ≤ 1000) (most : Int) (u : View) (h1 : SlC u ad0 xs.length cap0 2 (prs xs)) :
    FnP Try.prog 14 [.slice ad0 xs.length cap0, .func (.func g) #[] #[], .int .i64 most] u
      fun v u' => ∃ (w : Value) (k : Nat) (y : List Pr) (per e : Int), v = .tuple #[w, .int .i64 k, .int .i64 per, .int .i64 e] ∧ IsPrs u' w y ∧ ((1 ≤ most ∧ most ≤ 64 ∧ EndP (itP nx xs) er most.toNat k y per e) ∨ (¬ (1 ≤ most ∧ most ≤ 64) ∧ y = [] ∧ k = 0 ∧ per = 0 ∧ e = 2)) := by
  refine FnP.mono (pairsRun_fn S ad0 cap0 xs hx most u h1) ?_
  intro v u' hle h
  split at h
  · rename_i hc
    obtain ⟨w, k, y, per, e, h2, h3, h4⟩ := h
    exact ⟨w, k, y, per, e, h2, h3, .inl ⟨hc.1, hc.2, h4⟩⟩
  · rename_i hc
    exact ⟨_, 0, [], 0, 2, h, isPrs_nil _, .inr ⟨hc, rfl, rfl, rfl, rfl⟩⟩

/-! ### turned -/
theorem trn_inj {xs ys : List Pr} (h : trn xs = trn ys) : xs = ys := by
  have hl : xs.length = ys.length := by
    have := congrArg List.length h
    simp [trn] at this
    omega
  cases xs with
  | nil => cases ys with
    | nil => rfl
    | cons b m => simp at hl
  | cons a l => cases ys with
    | nil => simp at hl
    | cons b m =>
      simp only [trn, List.drop_succ_cons, List.drop_zero, List.take_succ_cons, List.take_zero] at h
      have := List.append_inj h (by simpa using hl)
      rw [this.1]
      simpa using this.2
theorem itP_back {xs : List Pr} : ∀ (i d : Nat), itP trn xs (i + d) = itP trn xs i → itP trn xs d = xs
  | 0, d, h => by simpa [itP] using h
  | i + 1, d, h => by
    rw [show i + 1 + d = (i + d) + 1 by omega] at h
    exact itP_back i d (trn_inj h)
theorem itP_trn {xs : List Pr} : ∀ i, i ≤ xs.length → itP trn xs i = xs.drop i ++ xs.take i
  | 0, _ => by simp [itP]
  | i + 1, h => by
    rw [itP, itP_trn i (by omega)]
    unfold trn
    have hi : i < xs.length := by omega
    rw [List.drop_eq_getElem_cons hi, List.cons_append, List.drop_succ_cons, List.drop_zero, List.take_succ_cons, List.take_zero, List.append_assoc]
    congr 1
    rw [List.take_add_one (l := xs), List.getElem?_eq_getElem hi]
    rfl
theorem itP_full (xs : List Pr) : ∃ n, 1 ≤ n ∧ n ≤ max 1 xs.length ∧ itP trn xs n = xs := by
  by_cases h : xs.length = 0
  · obtain rfl := List.eq_nil_of_length_eq_zero h
    exact ⟨1, by omega, by omega, rfl⟩
  · exact ⟨xs.length, by omega, by omega, by rw [itP_trn _ (Nat.le_refl _)]; simp⟩

/-- what the settling answers, n the first number of turns that bring all back -/
theorem endP_turn {xs : List Pr} {most k n : Nat} {y : List Pr} {per e : Int} (h : EndP (itP trn xs) (fun _ => 0) most k y per e) (hn1 : 1 ≤ n) (hn : itP trn xs n = xs) (hmin : ∀ i, 1 ≤ i → i < n → itP trn xs i ≠ xs) :
    (n = 1 → e = 0 ∧ y = xs ∧ k = 1 ∧ per = 0) ∧ (n ≠ 1 → most < n → e = 18 ∧ y = [] ∧ k = most ∧ per = 0) ∧ (n ≠ 1 → ¬ most < n → e = 10 ∧ y = [] ∧ k = n ∧ per = n) := by
  obtain ⟨hk1, hkm, herr, hdist, hcase⟩ := h
  have hkn : k ≤ n := Nat.le_of_not_lt fun hlt => hdist 0 n hn1 hlt hn.symm
  have hback : ∀ i j, i < j → itP trn xs j = itP trn xs i → n ≤ j - i := by
    intro i j hij he
    have := itP_back i (j - i) (by rw [show i + (j - i) = j by omega]; exact he)
    exact Nat.le_of_not_lt fun hlt => hmin (j - i) (by omega) hlt this
  rcases hcase with ⟨_, _, h1, h2⟩ | ⟨_, hcase⟩
  · exact absurd h2.symm h1
  rcases hcase with ⟨rfl, rfl, rfl, hq⟩ | ⟨j, hj, rfl, rfl, rfl, hq⟩ | ⟨rfl, rfl, rfl, hkm2, hno⟩
  · have := hback (k - 1) k (by omega) hq
    obtain rfl : n = 1 := by omega
    obtain rfl : k = 1 := by omega
    exact ⟨fun _ => ⟨rfl, hn, rfl, rfl⟩, fun h => absurd rfl h, fun h => absurd rfl h⟩
  · have := hback j k (by omega) hq
    obtain rfl : j = 0 := by omega
    obtain rfl : k = n := by omega
    exact ⟨fun h => by omega, fun h1 h2 => by omega, fun _ _ => ⟨rfl, rfl, rfl, by omega⟩⟩
  · have hne : k ≠ n := fun e => hno 0 (by omega) (by rw [e, hn]; rfl)
    exact ⟨fun h => by omega, fun _ _ => ⟨rfl, rfl, hkm2, rfl⟩, fun _ h => by omega⟩

/-! ### shortened -/
theorem itP_drop (xs : List Pr) : ∀ i, itP (fun xs => xs.drop 1) xs i = xs.drop i
  | 0 => by simp [itP]
  | i + 1 => by rw [itP, itP_drop xs i]; simp
theorem itP_keep (xs : List Pr) : ∀ i, itP (fun xs => if 3 < xs.length then xs.drop 1 else xs) xs i = xs.drop (min i (xs.length - 3))
  | 0 => by simp [itP]
  | i + 1 => by
    rw [itP, itP_keep xs i]
    by_cases h : i < xs.length - 3
    · rw [if_pos (by simp; omega), List.drop_drop, show min i (xs.length - 3) = i by omega, show min (i + 1) (xs.length - 3) = i + 1 by omega]
    · rw [if_neg (by simp; omega), show min i (xs.length - 3) = min (i + 1) (xs.length - 3) by omega]
theorem drop_ne {xs : List Pr} {i j : Nat} (hi : i ≤ xs.length) (hj : j ≤ xs.length) (h : i ≠ j) : xs.drop i ≠ xs.drop j := fun e => by
  have := congrArg List.length e
  simp at this
  omega

theorem endP_drop {xs : List Pr} {most k : Nat} {y : List Pr} {per e : Int} (h : EndP (itP (fun xs => xs.drop 1) xs) (fun xs => if xs = [] then 13 else 0) most k y per e) :
    y = [] ∧ per = 0 ∧ (most < xs.length + 1 → e = 18 ∧ k = most) ∧ (¬ most < xs.length + 1 → e = 13 ∧ k = xs.length + 1) := by
  obtain ⟨hk1, hkm, herr, hdist, hcase⟩ := h
  have hemp : ∀ i, (xs.drop i = []) ↔ xs.length ≤ i := fun i => by simp
  have hk : k ≤ xs.length + 1 := Nat.le_of_not_lt fun hlt => by
    have := herr xs.length (by omega)
    rw [itP_drop] at this
    dsimp only at this
    rw [if_pos ((hemp _).2 (Nat.le_refl _))] at this
    omega
  simp only [itP_drop] at hcase
  rcases hcase with ⟨rfl, rfl, h1, h2⟩ | ⟨h0, hcase⟩
  · split at h2
    · rename_i he
      have := (hemp _).1 he
      exact ⟨rfl, rfl, fun h => by omega, fun h => ⟨h2.symm, by omega⟩⟩
    · exact absurd h2.symm h1
  · have hlt : k - 1 < xs.length := Nat.lt_of_not_le fun hle => by
      rw [if_pos ((hemp _).2 hle)] at h0
      omega
    rcases hcase with ⟨rfl, rfl, rfl, hq⟩ | ⟨j, hj, rfl, rfl, rfl, hq⟩ | ⟨rfl, rfl, rfl, hkm2, hno⟩
    · exact absurd hq (drop_ne (by omega) (by omega) (by omega))
    · exact absurd hq (drop_ne (by omega) (by omega) (by omega))
    · exact ⟨rfl, rfl, fun _ => ⟨rfl, hkm2⟩, fun h => by omega⟩

theorem endP_keep {xs : List Pr} {most k : Nat} {y : List Pr} {per e : Int} (h : EndP (itP (fun xs => if 3 < xs.length then xs.drop 1 else xs) xs) (fun _ => 0) most k y per e) :
    per = 0 ∧ (most < xs.length - 3 + 1 → e = 18 ∧ k = most ∧ y = []) ∧ (¬ most < xs.length - 3 + 1 → e = 0 ∧ k = xs.length - 3 + 1 ∧ y = xs.drop (xs.length - 3)) := by
  obtain ⟨hk1, hkm, herr, hdist, hcase⟩ := h
  simp only [itP_keep] at hdist hcase
  have hk : k ≤ xs.length - 3 + 1 := Nat.le_of_not_lt fun hlt => by
    refine hdist (k - 2) (k - 1) (by omega) (by omega) ?_
    rw [show min (k - 2) (xs.length - 3) = min (k - 1) (xs.length - 3) by omega]
  rcases hcase with ⟨_, _, h1, h2⟩ | ⟨_, hcase⟩
  · exact absurd h2.symm h1
  rcases hcase with ⟨rfl, rfl, rfl, hq⟩ | ⟨j, hj, rfl, rfl, rfl, hq⟩ | ⟨rfl, rfl, rfl, hkm2, hno⟩
  · by_cases hlt : k - 1 < xs.length - 3
    · exact absurd hq (drop_ne (by omega) (by omega) (by omega))
    · refine ⟨rfl, fun h => by omega, fun h => ⟨rfl, by omega, ?_⟩⟩
      rw [show min k (xs.length - 3) = xs.length - 3 by omega]
  · exact absurd hq (drop_ne (by omega) (by omega) (by omega))
  · have hlt : k - 1 < xs.length - 3 := Nat.lt_of_not_le fun hle => by
      refine hno (k - 1) (by omega) ?_
      rw [show min k (xs.length - 3) = min (k - 1) (xs.length - 3) by omega]
    exact ⟨rfl, fun _ => ⟨rfl, hkm2, rfl⟩, fun h => by omega⟩
end Go.Proofs.Ytchmiljeidkkpaa
