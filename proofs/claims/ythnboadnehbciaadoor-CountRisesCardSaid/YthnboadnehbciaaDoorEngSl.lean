/- The engine: slices that are sliced, or compared with nil; structs of two strings compared. -/
import Derived.Test.YthnboadnehbciaaDoorEngMap
import Derived.Laws.StructEq
import Derived.Lib.SliceRun
namespace Go.Eng
open Go Go.RowKit
set_option linter.unusedSimpArgs false
set_option linter.unusedVariables false

/-- x[i:] -/
def slV (sz : Nat) (ad : Option Addr) (n cap i : Nat) : Value := .slice (if cap = i then ad else ad.map (·.add (i * sz))) (n - i) (cap - i)

theorem SlC.from {u : View} {ad : Option Addr} {n cap sz i : Nat} {xs : List Value} (h : SlC u ad n cap sz xs) (hi : i ≤ n) : SlC u (if cap = i then ad else ad.map (·.add (i * sz))) (n - i) (cap - i) sz (xs.drop (i * sz)) := by
  obtain ⟨h1, h2, h3, h4⟩ := h
  refine ⟨by rw [List.length_drop, h1, Nat.sub_mul], by omega, by omega, fun hn => ?_⟩
  obtain ⟨b, off, c, T, fr, rfl, hu, hc⟩ := h4 (by omega)
  rw [if_neg (by omega)]
  refine ⟨b, off + i * sz, c, T, fr, by simp [add_eq], hu, ?_⟩
  rw [← hc]
  unfold cut
  rw [List.drop_take, List.drop_drop, Nat.sub_mul]

section
variable {F : Fx} {ρ : Env} {σ : Own} {u : View} {Q : Post} {σS : Own} {uS : View} {o : Oper}
theorem y_slice_v {x lo : Operand} {t e : TypeId} {sz by' n cap i : Nat} {ad : Option Addr} {k : IntKind} {z : Int} (ho : o.op = .slice t x (some lo) none none) (hS : tyS F.P t = some (e, sz, by')) (hx : opv ρ x = some (.v (.slice ad n cap)))
    (hlo : opv ρ lo = some (.v (.int k z))) (hz : z = (i : Int)) (hi : i ≤ n) : Yld F σS uS ρ σ u o (.v (slV sz ad n cap i)) := by
  intro bk hd a w hR
  subst hz
  refine ⟨_, rfl, fun w' _ => ?_⟩
  obtain ⟨inf, hu, hinf, rfl, _⟩ := tyS_some hS
  have hb : (Instr.sliceBounds true n cap (some (.int k (i : Int))) none none).run F.P w' = .ok (i, n, cap) w' := by
    simp [Instr.sliceBounds, Instr.sliceBound, asIntOf, hi]
  simp [execOp, ho, hR.op hx, hR.op hlo, Instr.sliceAt, run_underlying hu, Instr.slice, hb, sizeOf, typeInfo, hinf, slV]
theorem y_eql_nil {x y : Operand} {t t' e : TypeId} {sz by' n cap : Nat} {ad : Option Addr} (ho : o.op = .binOp .eql t x y t') (hS : tyS F.P t = some (e, sz, by')) (hx : opv ρ x = some (.v (.slice ad n cap))) (hy : opv ρ y = some (.v (.slice none 0 0))) :
    Yld F σS uS ρ σ u o (.v (.bool ad.isNone)) := by
  intro bk hd a w hR
  refine ⟨_, rfl, fun w' _ => ?_⟩
  obtain ⟨inf, hu, _⟩ := tyS_some hS
  have h1 := Lib.run_eql_slice_nil (P := F.P) w' t e ad n cap 0 0 hu
  simp [execOp, ho, hR.op hx, hR.op hy, eqGuard, h1]
end
end Go.Eng
