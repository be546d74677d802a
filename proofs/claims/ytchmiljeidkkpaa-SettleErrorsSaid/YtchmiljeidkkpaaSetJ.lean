/- Settle: lists of pairs; the small functions on them. -/
import Derived.Test.YtchmiljeidkkpaaSetB
import Derived.Test.YtchmiljeidkkpaaEngSl
namespace Go.Proofs.Ytchmiljeidkkpaa
open Go Go.Eng
set_option linter.unusedSimpArgs false
set_option linter.unusedVariables false

theorem cut_one' {c : List Value} {j : Nat} {x : Value} (h : c[j]? = some x) : cut c j 1 = [x] := by
  obtain ⟨hlt, he⟩ := List.getElem?_eq_some_iff.1 h
  unfold cut
  rw [List.drop_eq_getElem_cons hlt, he]
  rfl
abbrev Pr := List UInt8 × List UInt8
def prc (x : Pr) : List Value := [str x.1, str x.2]
def prs (xs : List Pr) : List Value := xs.flatMap prc
theorem prs_len (xs : List Pr) : (prs xs).length = xs.length * 2 := by
  induction xs with
  | nil => rfl
  | cons x xs ih => simp only [prs, List.flatMap_cons, List.length_append, List.length_cons] at *; rw [ih]; simp [prc]; omega
theorem prs_app (xs ys : List Pr) : prs (xs ++ ys) = prs xs ++ prs ys := by simp [prs]
theorem prs_one (xs : List Pr) : (prs xs).all Value.oneCell' = true := by
  induction xs with
  | nil => rfl
  | cons x xs ih =>
    simp only [prs, List.flatMap_cons, List.all_append] at *
    rw [ih]; rfl
theorem cut_prs {xs : List Pr} {i : Nat} {x : Pr} (h : xs[i]? = some x) : cut (prs xs) (i * 2) 2 = [str x.1, str x.2] := by
  obtain ⟨hl, he⟩ := List.getElem?_eq_some_iff.1 h
  have hsplit : xs = xs.take i ++ x :: xs.drop (i + 1) := by
    rw [← he]; simp
  have hlen : (prs (xs.take i)).length = i * 2 := by rw [prs_len]; simp; omega
  rw [hsplit, prs_app]
  unfold cut
  rw [← hlen, List.drop_left]
  simp [prs, prc]
theorem prs_drop (xs : List Pr) : ∀ i, (prs xs).drop (i * 2) = prs (xs.drop i) := by
  induction xs with
  | nil => intro i; simp [prs]
  | cons x xs ih =>
    intro i
    cases i with
    | zero => simp
    | succ i =>
      have := ih i
      simp only [prs, List.flatMap_cons, prc, List.drop_succ_cons] at *
      rw [show (i + 1) * 2 = i * 2 + 2 by omega, ← this]
      simp

/-- v is a slice that holds these pairs, and nobody writes it -/
def IsPrs (u : View) (v : Value) (xs : List Pr) : Prop := ∃ ad cap, v = .slice ad xs.length cap ∧ SlC u ad xs.length cap 2 (prs xs)
theorem IsPrs.mono {u u' : View} {v : Value} {xs : List Pr} (h : IsPrs u v xs) (hu : VLe u u') : IsPrs u' v xs := let ⟨ad, cap, h1, h2⟩ := h; ⟨ad, cap, h1, h2.mono hu⟩
theorem isPrs_nil (u : View) : IsPrs u (.slice none 0 0) [] := ⟨none, 0, rfl, rfl, Nat.le_refl _, by unfold maxLen; omega, fun h => absurd rfl h⟩

theorem y_neq_pr {F : Fx} {ρ : Env} {σ : Own} {u : View} {μ : Mem} {σS : Own} {uS : View} {μS : Mem} {o : Oper} {x y : Operand} {t' : TypeId} {a b c d : List UInt8} (hP : F.P = Try.prog) (ho : o.op = .binOp .neq 50 x y t')
    (hx : opv ρ x = some (.v (.agg #[str a, str b]))) (hy : opv ρ y = some (.v (.agg #[str c, str d]))) : Yld F σS uS μS ρ σ u μ o (.v (.bool (!decide ((a, b) = (c, d))))) := by
  refine y_run fun ac h w => ?_
  have h1 := h _ _ hx
  have h2 := h _ _ hy
  have hg : (eqGuard .neq 50 x y (.agg #[str a, str b]) (.agg #[str c, str d])).run Try.prog w = .ok () w := run_eqGuard_agg (P := Try.prog) w _ _ _ _ _ _ (by kernel_rfl)
  have hu : Try.prog.underlying 50 = some (.struct (Try.prog.fieldsOf 50)) := by kernel_rfl
  have hst : Try.prog.stoodInHeld 50 = false := by kernel_rfl
  have hs : Try.prog.underlying 9 = some .string := by kernel_rfl
  have hpart : ∀ (xs : Array Value) (i : Nat) (v : Value) (w : World), xs[i]? = some v → (part 9 xs i).run Try.prog w = .ok v w := by
    intro xs i v w hv
    unfold part
    rw [Sem.run_bind, run_isAgg Try.k9]
    simp [hv]
  have he : ∀ (d : Nat) (p q : List UInt8) (w : World), (Op.equalIn (d + 1) 9 (str p) (str q)).run Try.prog w = .ok (decide (p = q)) w := by
    intro d p q w
    have := run_equalIn_string (P := Try.prog) w d 9 ⟨p.toArray⟩ ⟨q.toArray⟩ hs
    rw [show str p = .string ⟨p.toArray⟩ from rfl, show str q = .string ⟨q.toArray⟩ from rfl, this]
    have ht : ∀ l : List UInt8, (⟨l.toArray⟩ : ByteArray).toList = l := fun l => by
      first | simp | rfl
    rw [ht, ht, list_beq]
  have hfs : (Try.prog.fieldsOf 50).toList = [{ name := "Key", type := 9, offset := 0, embedded := false, tag := "", pkgPath := "", byteOffset := 0 }, { name := "Value", type := 9, offset := 1, embedded := false, tag := "", pkgPath := "", byteOffset := 16 }] := by kernel_rfl
  have hb : (binOp .neq 50 (.agg #[str a, str b]) (.agg #[str c, str d])).run Try.prog w = .ok (.bool (!decide ((a, b) = (c, d)))) w := by
    rw [run_neq_struct (P := Try.prog), show (10000 : Nat) = 9998 + 1 + 1 from rfl, run_equalIn_struct (P := Try.prog) w (9998 + 1) _ _ _ hu hst, hfs]
    simp only [Op.eqFields, ne_eq, Sem.run_bind]
    rw [if_pos (by decide), if_pos (by decide)]
    simp only [Sem.run_bind]
    rw [hpart #[str a, str b] 0 (str a) w rfl, Result.andThen_ok, hpart #[str c, str d] 0 (str c) w rfl, Result.andThen_ok, he, Result.andThen_ok]
    by_cases h0 : a = c
    · rw [decide_eq_true h0]
      simp only [Bool.not_true, Bool.false_eq_true, if_false, Sem.run_bind]
      rw [hpart #[str a, str b] 1 (str b) w rfl, Result.andThen_ok, hpart #[str c, str d] 1 (str d) w rfl, Result.andThen_ok, he, Result.andThen_ok]
      by_cases h1 : b = d
      · simp [h0, h1]
      · simp [h0, h1]
    · rw [decide_eq_false h0]
      simp [h0]
  simp only [execOp, ho, h1, h2, hP]
  rw [Sem.run_bind, Sem.run_bind, hg]
  simp only [Result.andThen_ok]
  rw [hb]
  rfl
end Go.Proofs.Ytchmiljeidkkpaa
