/- The engine: structs of strings, numbers and truth values, compared. -/
import Derived.Test.YthnboadnehbciaaDoorEngSl
namespace Go.Eng
open Go Go.RowKit
set_option linter.unusedSimpArgs false
set_option linter.unusedVariables false

inductive CK where
  | s
  | i (k : IntKind)
  | b
def ckOf (P : Program) (t : TypeId) : Option CK :=
  match P.underlying t with
  | some .string => some .s
  | some (.int k) => some (.i k)
  | some .bool => some .b
  | _ => none
def flatFs (P : Program) : List Field → Option (List (Nat × CK))
  | [] => some []
  | f :: r => match f.name != "_", ckOf P f.type, flatFs P r with
    | true, some k, some l => some ((f.offset, k) :: l)
    | _, _, _ => none
/-- the fields of such a struct -/
def flatOf (P : Program) (t : TypeId) : Option (List (Nat × CK)) :=
  match P.stoodInHeld t, P.eqGuardType P.depth t, P.underlying t with
  | false, false, some (.struct fs) => flatFs P fs.toList
  | _, _, _ => none
def cellOk : CK → Option Value → Bool
  | .s, some (.string _) => true
  | .i k, some (.int k' _) => k == k'
  | .b, some (.bool _) => true
  | _, _ => false
def okCells : List (Nat × CK) → List Value → Bool
  | [], _ => true
  | (o, k) :: r, xs => match cellOk k (nth xs o) with
    | true => okCells r xs
    | false => false
def cellB : Option Value → Option Value → Bool
  | some (.string a), some (.string b) => a.toList == b.toList
  | some (.int _ a), some (.int _ b) => a == b
  | some (.bool a), some (.bool b) => a == b
  | _, _ => false
def cmpB : List (Nat × CK) → List Value → List Value → Bool
  | [], _, _ => true
  | (o, _) :: r, xs, ys => cellB (nth xs o) (nth ys o) && cmpB r xs ys

theorem cellB_refl {k : CK} {v : Option Value} (h : cellOk k v = true) : cellB v v = true := by
  cases v with
  | none => cases k <;> cases h
  | some v => cases k <;> cases v <;> simp_all [cellOk, cellB]
theorem cmpB_refl : ∀ {fl : List (Nat × CK)} {xs : List Value}, okCells fl xs = true → cmpB fl xs xs = true
  | [], xs, _ => rfl
  | (o, k) :: r, xs, h => by
    simp only [okCells] at h
    split at h
    · rename_i hc
      simp only [cmpB, cellB_refl hc, cmpB_refl h, Bool.and_self]
    · cases h

theorem run_eqFields_flat {P : Program} {d : Nat} {xs ys : List Value} : ∀ (fs : List Field) (fl : List (Nat × CK)) (w : World), flatFs P fs = some fl → okCells fl xs = true → okCells fl ys = true → (Op.eqFields (d + 1) xs.toArray ys.toArray fs).run P w = .ok (cmpB fl xs ys) w
  | [], fl, w, h, _, _ => by
    simp only [flatFs, Option.some.injEq] at h
    subst h
    simp [Op.eqFields, cmpB]
  | f :: r, fl, w, h, hx, hy => by
    simp only [flatFs] at h
    split at h
    · rename_i k l hn hk hl
      cases h
      simp only [okCells] at hx hy
      split at hx
      · rename_i hcx
        split at hy
        · rename_i hcy
          have ih := run_eqFields_flat (d := d) r l w hl hx hy
          have hname : f.name ≠ "_" := by simpa using hn
          have hagg : (isAgg f.type).run P w = .ok false w := by
            unfold ckOf at hk
            unfold isAgg
            split at hk <;> rename_i hu <;> first | (cases hk; done) | (rw [Sem.run_bind, run_underlying hu]; rfl)
          have hpart : ∀ (zs : List Value) (v : Value), nth zs f.offset = some v → (part f.type zs.toArray f.offset).run P w = .ok v w := by
            intro zs v hv
            rw [nth_eq] at hv
            unfold part
            rw [Sem.run_bind, hagg]
            simp [hv]
          simp only [Op.eqFields, if_pos hname, cmpB]
          cases hvx : nth xs f.offset with
          | none => rw [hvx] at hcx; cases k <;> cases hcx
          | some vx =>
            cases hvy : nth ys f.offset with
            | none => rw [hvy] at hcy; cases k <;> cases hcy
            | some vy =>
              rw [hvx] at hcx
              rw [hvy] at hcy
              have he : (Op.equalIn (d + 1) f.type vx vy).run P w = .ok (cellB (some vx) (some vy)) w := by
                unfold ckOf at hk
                split at hk
                · rename_i hu
                  cases hk
                  cases vx <;> simp [cellOk] at hcx
                  cases vy <;> simp [cellOk] at hcy
                  rw [run_equalIn_string w d _ _ _ hu]; rfl
                · rename_i hu
                  cases hk
                  cases vx <;> simp [cellOk] at hcx
                  cases vy <;> simp [cellOk] at hcy
                  subst hcx; subst hcy
                  simp [Op.equalIn, run_underlying hu, cellB]
                · rename_i hu
                  cases hk
                  cases vx <;> simp [cellOk] at hcx
                  cases vy <;> simp [cellOk] at hcy
                  rw [run_equalIn_bool' w d _ _ _ hu]; rfl
                · cases hk
              simp only [Sem.run_bind, hpart xs vx hvx, hpart ys vy hvy, Result.andThen_ok, he]
              cases hb : cellB (some vx) (some vy) with
              | true => simp [ih]
              | false => simp
        · cases hy
      · cases hx
    · cases h

section
variable {F : Fx} {ρ : Env} {σ : Own} {u : View} {Q : Post} {σS : Own} {uS : View} {o : Oper} {x y : Operand} {t t' : TypeId} {fl : List (Nat × CK)} {xs ys : List Value}
theorem flat_run {P : Program} {w : World} (hf : flatOf P t = some fl) (hx : okCells fl xs = true) (hy : okCells fl ys = true) : (Op.equalIn 10000 t (.agg xs.toArray) (.agg ys.toArray)).run P w = .ok (cmpB fl xs ys) w ∧ P.eqGuardType P.depth t = false := by
  unfold flatOf at hf
  split at hf
  · rename_i fs hs hg hu
    refine ⟨?_, hg⟩
    have hfo : P.fieldsOf t = fs := by unfold Program.fieldsOf; rw [hu]
    rw [show (10000 : Nat) = 9998 + 1 + 1 from rfl, run_equalIn_struct w (9998 + 1) _ _ _ (by rw [hfo]; exact hu) hs, hfo]
    exact run_eqFields_flat _ _ _ hf hx hy
  · cases hf
theorem y_eql_flat (hf : flatOf F.P t = some fl) (ho : o.op = .binOp .eql t x y t') (hx : opv ρ x = some (.v (.agg xs.toArray))) (hy : opv ρ y = some (.v (.agg ys.toArray))) (h1 : okCells fl xs = true) (h2 : okCells fl ys = true) : Yld F σS uS ρ σ u o (.v (.bool (cmpB fl xs ys))) := by
  refine y_run fun ac h w => ?_
  obtain ⟨hr, hg⟩ := flat_run (w := w) hf h1 h2
  simp only [execOp, ho, h _ _ hx, h _ _ hy]
  rw [Sem.run_bind, Sem.run_bind, run_eqGuard_agg w _ _ _ _ _ _ hg]
  simp only [Result.andThen_ok]
  rw [run_eql_struct, hr]
  simp
theorem y_neq_flat (hf : flatOf F.P t = some fl) (ho : o.op = .binOp .neq t x y t') (hx : opv ρ x = some (.v (.agg xs.toArray))) (hy : opv ρ y = some (.v (.agg ys.toArray))) (h1 : okCells fl xs = true) (h2 : okCells fl ys = true) : Yld F σS uS ρ σ u o (.v (.bool (!cmpB fl xs ys))) := by
  refine y_run fun ac h w => ?_
  obtain ⟨hr, hg⟩ := flat_run (w := w) hf h1 h2
  simp only [execOp, ho, h _ _ hx, h _ _ hy]
  rw [Sem.run_bind, Sem.run_bind, run_eqGuard_agg w _ _ _ _ _ _ hg]
  simp only [Result.andThen_ok]
  rw [run_neq_struct, hr]
  simp
theorem y_neq_flat_refl (hf : flatOf F.P t = some fl) (ho : o.op = .binOp .neq t x y t') (hx : opv ρ x = some (.v (.agg xs.toArray))) (hy : opv ρ y = some (.v (.agg xs.toArray))) (h1 : okCells fl xs = true) : Yld F σS uS ρ σ u o (.v (.bool false)) := by
  have := y_neq_flat (F := F) (ρ := ρ) (σS := σS) (uS := uS) (u := u) (σ := σ) hf ho hx hy h1 h1
  rwa [cmpB_refl h1] at this
end
end Go.Eng
