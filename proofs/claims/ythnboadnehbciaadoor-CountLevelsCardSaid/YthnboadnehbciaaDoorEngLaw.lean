/- The engine: from a law's contract to the run of a row. -/
import Derived.Test.YthnboadnehbciaaDoorEngDoc
import Derived.ProofKit
import Derived.OpenShut
import Derived.ShutString
import Derived.ChangeOld
import Derived.Below
import Derived.Carry
namespace Go.Eng
open Go Go.RowKit
set_option linter.unusedSimpArgs false
set_option linter.unusedVariables false

/-- all that lies in the world -/
def wview (W : World) : View := fun k => W.heap[k]?
theorem agree_wview (W : World) : Agree (wview W) W := fun _ _ h => h

theorem FnP.calls {P : Program} {f : FuncId} {args : List Value} {W : World} (h : FnP P f args (wview W) fun v _ => v = .bool true) :
    Calls P f args.toArray W fun e W' => e = .returned (.bool true) ∧ Below W.heap.size W W' := by
  refine (h W _ _ (agree_wview W) (ownsL_nil _ _)).mono ?_
  rintro e W' ⟨v, u', l', bk', hd', rfl, ⟨_, rfl⟩, _, _, hF, _⟩
  exact ⟨rfl, hF.1, hF.2.1, hF.2.2.1, hF.2.2.2.1, fun k hk => hF.2.2.2.2 k hk (fun ⟨i, p, hi, _⟩ => by simp at hi)⟩

section
open Go.ChangeShapes Go.WideShapes
/-- an array of integers that came in -/
theorem open_int_array {H : Type} {enc : TypeId × Value → H} {P : Program} {w : World} {base b0 : Nat} {spare : Nat → Bool} {held : Bool} {r : Reach} {t e : TypeId} {n : Nat} {k : IntKind} {v : Value} {d : DataW H} {ps : List MemPlace}
    (ht : P.underlying t = some (.array n e)) (he : P.underlying e = some (.int k)) (hc : P.cellsOf e = 1) (hct : P.cellsOf t = n) (hval : Value.okWide P w r b0 t v) (hd : DataW.Trod enc P w base spare held t v d ps) :
    ∃ l : List Int, v = .agg (l.map (Value.int k)).toArray ∧ l.length = n ∧ ∀ x ∈ l, (Lit.int k x).wf = true := by
  unfold Value.okWide at hval
  rw [ht] at hval
  obtain ⟨cs, rfl, hsz, _⟩ := hval
  obtain ⟨fuel, hf⟩ := hd
  obtain ⟨xs, m, rfl, _, hlen, hxs, hall⟩ := DataW.trod_array ht hf
  have key : ∀ i, i < n → ∃ x : Int, cs.toList[i]? = some (.int k x) ∧ (Lit.int k x).wf = true := by
    intro i hi
    have h1 := hall i hi
    rw [hc] at h1
    have hlt : i < xs.length := by omega
    rw [List.getElem?_eq_getElem hlt] at h1
    obtain ⟨x, hx, _, hw⟩ := DataW.trod_int he h1
    refine ⟨x, ?_, hw⟩
    have h2 : ((Value.agg cs).cells.toList.drop (i * 1)).take 1 = [.int k x] := hx
    have h3 : (cs.toList.drop i).take 1 = [.int k x] := by simpa [Value.cells] using h2
    have h4 : ((cs.toList.drop i).take 1)[0]? = some (.int k x) := by rw [h3]; rfl
    simpa using h4
  have hcl : cs.toList.length = n := by simpa [hct] using hsz
  have build : ∀ (m : Nat) (l : List Value), l.length = m → (∀ i, i < m → ∃ x : Int, l[i]? = some (.int k x) ∧ (Lit.int k x).wf = true) → ∃ zs : List Int, l = zs.map (Value.int k) ∧ ∀ x ∈ zs, (Lit.int k x).wf = true := by
    intro m
    induction m with
    | zero => intro l hl _; exact ⟨[], by simpa using hl, by simp⟩
    | succ m ih =>
      intro l hl h
      match l, hl with
      | y :: l, hl =>
        obtain ⟨x, hx, hw⟩ := h 0 (by omega)
        simp only [List.getElem?_cons_zero, Option.some.injEq] at hx
        obtain ⟨zs, hz, hz2⟩ := ih l (by simpa using hl) (fun i hi => by have := h (i + 1) (by omega); simpa using this)
        exact ⟨x :: zs, by simp [hx, hz], by simpa using ⟨hw, hz2⟩⟩
  obtain ⟨zs, hz, hz2⟩ := build n cs.toList hcl key
  refine ⟨zs, ?_, by rw [← hcl, hz]; simp, hz2⟩
  rw [← hz]
end
end Go.Eng
