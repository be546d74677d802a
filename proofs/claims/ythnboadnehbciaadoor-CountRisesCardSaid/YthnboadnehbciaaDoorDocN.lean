/- Numbers (api.Number) that lie in a view. -/
import Derived.Test.YthnboadnehbciaaDoorFacts
import Derived.Test.YthnboadnehbciaaDoorEngDoc
namespace Go.Eng
open Go Go.RowKit
set_option linter.unusedSimpArgs false
set_option linter.unusedVariables false
structure DNum where
  id : Bs
  kind : Bs
  value : Bs
  line : List Inl
def NumC (u : View) (x : DNum) (cs : List Value) : Prop := ∃ vl, cs = [str x.id, str x.kind, str x.value, vl] ∧ InlS u vl x.line
def NumsC (u : View) : List DNum → List Value → Prop
  | [], cs => cs = []
  | x :: xs, cs => ∃ c r, cs = c ++ r ∧ NumC u x c ∧ NumsC u xs r
def NumS (u : View) (v : Value) (xs : List DNum) : Prop := ∃ cs, IsSl u v xs.length 4 cs ∧ NumsC u xs cs
theorem NumC.mono {u u' : View} {x : DNum} {cs : List Value} (h : NumC u x cs) (hu : VLe u u') : NumC u' x cs := let ⟨vl, h1, h2⟩ := h; ⟨vl, h1, h2.mono hu⟩
theorem NumsC.mono {u u' : View} (hu : VLe u u') : ∀ {xs : List DNum} {cs : List Value}, NumsC u xs cs → NumsC u' xs cs
  | [], cs, h => h
  | x :: xs, cs, h => let ⟨c, r, h1, h2, h3⟩ := h; ⟨c, r, h1, h2.mono hu, NumsC.mono hu h3⟩
theorem NumS.mono {u u' : View} {v : Value} {xs : List DNum} (h : NumS u v xs) (hu : VLe u u') : NumS u' v xs := let ⟨cs, h1, h2⟩ := h; ⟨cs, h1.mono hu, h2.mono hu⟩
theorem NumC.len {u : View} {x : DNum} {cs : List Value} (h : NumC u x cs) : cs.length = 4 := by obtain ⟨_, rfl, _⟩ := h; rfl
theorem NumsC.len {u : View} : ∀ {xs : List DNum} {cs : List Value}, NumsC u xs cs → cs.length = xs.length * 4
  | [], cs, h => by simp only [NumsC] at h; subst h; rfl
  | x :: xs, cs, h => by
    obtain ⟨c, r, rfl, h2, h3⟩ := h
    simp [h2.len, h3.len, Nat.add_mul]; omega
theorem NumsC.append {u : View} : ∀ {xs ys : List DNum} {cs ds : List Value}, NumsC u xs cs → NumsC u ys ds → NumsC u (xs ++ ys) (cs ++ ds)
  | [], ys, cs, ds, h, k => by simp only [NumsC] at h; subst h; simpa using k
  | x :: xs, ys, cs, ds, h, k => by
    obtain ⟨c, r, rfl, h2, h3⟩ := h
    exact ⟨c, r ++ ds, by simp, h2, h3.append k⟩
theorem NumsC.get {u : View} : ∀ {xs : List DNum} {cs : List Value} (i : Nat) (x : DNum), NumsC u xs cs → xs[i]? = some x → NumC u x (cut cs (i * 4) 4)
  | [], cs, i, x, _, hi => by simp at hi
  | y :: ys, cs, i, x, h, hi => by
    obtain ⟨c, r, rfl, h2, h3⟩ := h
    have hl := h2.len
    cases i with
    | zero =>
      simp at hi
      subst hi
      have : cut (c ++ r) (0 * 4) 4 = c := by unfold cut; simp [← hl]
      rw [this]; exact h2
    | succ i =>
      have ih := NumsC.get i x h3 (by simpa using hi)
      have : cut (c ++ r) ((i + 1) * 4) 4 = cut r (i * 4) 4 := by
        unfold cut
        rw [show (i + 1) * 4 = c.length + i * 4 by omega, List.drop_append, List.drop_eq_nil_of_le (by omega), List.nil_append, Nat.add_sub_cancel_left]
      rw [this]; exact ih
theorem NumsC.at {u : View} {xs : List DNum} {cs : List Value} (h : NumsC u xs cs) {i : Nat} (hi : i < xs.length) :
    ∃ x vl, xs[i]? = some x ∧ cut cs (i * 4) 4 = [str x.id, str x.kind, str x.value, vl] ∧ InlS u vl x.line := by
  obtain ⟨vl, h1, h2⟩ := h.get i _ (List.getElem?_eq_getElem hi)
  exact ⟨_, vl, List.getElem?_eq_getElem hi, h1, h2⟩
theorem NumC.one {u : View} {x : DNum} {cs : List Value} (h : NumC u x cs) : cs.all Value.oneCell' = true := by
  obtain ⟨vl, rfl, ⟨ks, h5, _⟩⟩ := h
  simp [IsSl.one h5]
  simp [str, Value.oneCell']
theorem NumsC.ones {u : View} : ∀ {xs : List DNum} {cs : List Value}, NumsC u xs cs → cs.all Value.oneCell' = true
  | [], cs, h => by simp only [NumsC] at h; subst h; rfl
  | x :: xs, cs, h => by
    obtain ⟨c, r, rfl, h2, h3⟩ := h
    rw [List.all_append, h2.one, h3.ones]; rfl
theorem NumsC.one {u : View} {x : DNum} {c : List Value} (h : NumC u x c) : NumsC u [x] c := ⟨c, [], by simp, h, rfl⟩
end Go.Eng
