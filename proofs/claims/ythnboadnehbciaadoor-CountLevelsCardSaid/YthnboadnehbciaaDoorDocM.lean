/- Maps with strings as keys. -/
import Derived.Test.YthnboadnehbciaaDoorEngMap
namespace Go.Eng
open Go Go.RowKit
set_option linter.unusedSimpArgs false
set_option linter.unusedVariables false

theorem keyB_str (a b : List UInt8) : keyB (str a) (str b) = decide (a = b) := by
  have h : keyB (str a) (str b) = ((⟨a.toArray⟩ : ByteArray) == ⟨b.toArray⟩) := rfl
  have h2 : ((⟨a.toArray⟩ : ByteArray) == ⟨b.toArray⟩) = (a.toArray == b.toArray) := rfl
  rw [h, h2]
  by_cases e : a = b
  · subst e; simp
  · rw [decide_eq_false e]; simpa using e
theorem fnd_shift (k : Value) : ∀ (l : List (Value × Value)) (i j : Nat), (fnd k l i).map (·.2) = (fnd k l j).map (·.2)
  | [], i, j => rfl
  | p :: r, i, j => by
    simp only [fnd]
    cases keyB k p.1 with
    | true => rfl
    | false => exact fnd_shift k r (i + 1) (j + 1)
theorem mget_nil (k : Value) : mget [] k = none := rfl
theorem mget_cons (p : Value × Value) (r : List (Value × Value)) (k : Value) : mget (p :: r) k = if keyB k p.1 = true then some p.2 else mget r k := by
  unfold mget
  simp only [fnd]
  cases keyB k p.1 with
  | true => simp
  | false => simpa using fnd_shift k r 1 0
/-- all keys are strings -/
def SKeys (kvs : List (Value × Value)) : Prop := kvs.all (fun p => isKey .string p.1) = true
theorem isKey_str {v : Value} (h : isKey .string v = true) : ∃ s, v = str s := by
  cases v with
  | string b => exact ⟨b.data.toList, by cases b; simp [str]⟩
  | _ => simp [isKey] at h
theorem mget_mset : ∀ (kvs : List (Value × Value)) (a b : List UInt8) (v : Value), SKeys kvs → mget (mset kvs (str a) v) (str b) = if b = a then some v else mget kvs (str b)
  | [], a, b, v, _ => by
    simp only [mset, mget_cons, mget_nil, keyB_str]
    by_cases h : b = a <;> simp [h]
  | p :: r, a, b, v, h => by
    have h0 : isKey .string p.1 = true := by have := List.all_eq_true.1 h p (by simp); exact this
    have hr : SKeys r := List.all_eq_true.2 fun x hx => List.all_eq_true.1 h x (by simp [hx])
    obtain ⟨s, hs⟩ := isKey_str h0
    obtain ⟨p1, p2⟩ := p
    simp only at hs
    subst hs
    simp only [mset, keyB_str]
    by_cases hs : a = s
    · subst hs
      simp only [decide_true, mget_cons, keyB_str]
      by_cases h : b = a <;> simp [h]
    · rw [decide_eq_false hs]
      simp only [mget_cons, keyB_str, mget_mset r a b v hr]
      by_cases h : b = a
      · subst h; simp [hs]
      · simp [h]
theorem SKeys.mset {a : List UInt8} {v : Value} : ∀ {kvs : List (Value × Value)}, SKeys kvs → SKeys (Eng.mset kvs (str a) v)
  | [], _ => by simp [Eng.mset, SKeys, isKey, str]
  | p :: r, h => by
    have h0 : isKey .string p.1 = true := by have := List.all_eq_true.1 h p (by simp); exact this
    have hr : SKeys r := List.all_eq_true.2 fun x hx => List.all_eq_true.1 h x (by simp [hx])
    simp only [Eng.mset]
    cases keyB (str a) p.1 with
    | true =>
      refine List.all_eq_true.2 fun x hx => ?_
      rcases List.mem_cons.1 hx with rfl | hx
      · simp [isKey, str]
      · exact List.all_eq_true.1 hr x hx
    | false =>
      refine List.all_eq_true.2 fun x hx => ?_
      rcases List.mem_cons.1 hx with rfl | hx
      · exact h0
      · exact List.all_eq_true.1 (SKeys.mset (a := a) (v := v) hr) x hx
end Go.Eng
