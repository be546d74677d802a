/- The engine's rules for literals, for slices that grow, and for blocks that change hands. -/
import Derived.Test.YthnboadnehbciaaDoorEngCall
namespace Go.Eng
open Go Go.RowKit
set_option linter.unusedSimpArgs false
set_option linter.unusedVariables false

/-! ### literals -/
theorem setAt_cons : ∀ (cs : List Value) (o : Nat) (v : Value) (vs : List Value), o < cs.length → setAt cs o (v :: vs) = setAt (cs.set o v) (o + 1) vs
  | [], _, _, _, h => by simp at h
  | c :: cs, 0, v, [], _ => by simp [setAt]
  | c :: cs, 0, v, u :: us, _ => by simp [setAt]
  | c :: cs, o + 1, v, vs, h => by
    have ih := setAt_cons cs o v vs (by simpa using h)
    simp only [setAt, ih, List.set_cons_succ]
    cases vs with
    | nil => simp [setAt]
    | cons u us => simp [setAt]

theorem foldl_setAt (off : Nat) : ∀ (l : List Value) (i : Nat) (cells : Array Value), off + i + l.length ≤ cells.size →
    ((l.zipIdx i).foldl (fun cs (p : Value × Nat) => cs.setIfInBounds (off + p.2) p.1) cells).toList = setAt cells.toList (off + i) l
  | [], i, cells, _ => by simp [setAt]
  | v :: l, i, cells, h => by
    have hl : off + i + (l.length + 1) ≤ cells.size := by simpa using h
    have ih := foldl_setAt off l (i + 1) (cells.setIfInBounds (off + i) v) (by simp; omega)
    rw [setAt_cons _ _ _ _ (by simp; omega)]
    simp only [List.zipIdx_cons, List.foldl_cons]
    rw [ih]
    simp [Array.toList_setIfInBounds, Nat.add_assoc]

def fillL (place : Nat → Option (Nat × Nat)) : List Value → List (Nat × List Value) → Option (List Value)
  | cs, [] => some cs
  | cs, (i, v) :: r => match place i with
    | none => none
    | some (off, size) => match Nat.beq v.length size, Nat.ble (off + v.length) cs.length with
      | true, true => fillL place (setAt cs off v) r
      | _, _ => none

theorem fill_of (place : Nat → Option (Nat × Nat)) : ∀ (parts : List (Nat × Value)) (cells : Array Value) (r : List Value), fillL place cells.toList (parts.map fun p => (p.1, p.2.cells.toList)) = some r → Instr.fill place cells parts = some r.toArray
  | [], cells, r, h => by simp [fillL] at h; subst h; simp [Instr.fill]
  | (i, v) :: rest, cells, r, h => by
    simp only [List.map_cons, fillL] at h
    unfold Instr.fill
    split at h
    · cases h
    · rename_i off size hp
      simp only [hp]
      split at h
      · rename_i h1 h2
        have e1 : v.cells.size = size := by simpa using Nat.eq_of_beq_eq_true h1
        have e2 : off + v.cells.size ≤ cells.size := by simpa using Nat.le_of_ble_eq_true h2
        have hf : (v.cells.zipIdx.foldl (fun cs (p : Value × Nat) => cs.setIfInBounds (off + p.2) p.1) cells).toList = setAt cells.toList off v.cells.toList := by
          have := foldl_setAt off v.cells.toList 0 cells (by simpa using e2)
          rw [Nat.add_zero] at this
          rw [← this]
          congr 1
          rw [← Array.foldl_toList]
          simp
        rw [if_neg (by simp only [ne_eq, Bool.or_eq_true, decide_eq_true_eq, not_or, Decidable.not_not]; omega)]
        refine fill_of place rest _ r ?_
        rw [← h, ← hf]
      · cases h

/-- the cells of the parts of a literal -/
def opCells (ρ : Env) (σ : Own) : List (Nat × Operand) → Option (List (Nat × List Value))
  | [] => some []
  | (i, x) :: r => match (opv ρ x).bind (svV σ) with
    | some y => match opCells ρ σ r with
      | some l => some ((i, y.cells.toList) :: l)
      | none => none
    | none => none

section
variable {F : Fx} {ρ : Env} {σ : Own} {u : View} {Q : Post} {bk : Nat → Option Nat} {hd : Nat → Value} {a : Act} {w : World} {σS : Own} {uS : View} {o : Oper}

theorem RepAt.cells (h : RepAt F bk hd ρ σ u a w) : ∀ {xs : List (Nat × Operand)} {vs : List (Nat × List Value)}, opCells ρ σ xs = some vs → (xs.map fun p => (p.1, (a.eval p.2).cells.toList)) = vs
  | [], vs, he => by simp only [opCells, Option.some.injEq] at he; subst he; rfl
  | (i, x) :: r, vs, he => by
    simp only [opCells] at he
    split at he
    · rename_i y hy
      split at he
      · rename_i l hl
        cases he
        obtain ⟨sv, h1, h2⟩ := Option.bind_eq_some_iff.1 hy
        simp [h.svV (h.opS h1) h2, h.cells hl]
      · cases he
    · cases he

/-- a struct literal -/
theorem y_build {t : TypeId} {parts : List (Nat × Operand)} {fs : List (Nat × Nat)} {zs vs : List Value} {ps : List (Nat × List Value)} (ho : o.op = .build t parts.toArray) (hf : tyF F.P t = some fs) (hz : tyZ F.P t = some zs)
    (hp : opCells ρ σ parts = some ps) (hv : fillL (fun i => fs[i]?) zs ps = some vs) : Yld F σS uS ρ σ u o (.v (.agg vs.toArray)) := by
  intro bk hd a w hR
  refine ⟨_, rfl, fun w' _ => ?_⟩
  obtain ⟨fields, hu, hm⟩ := tyF_some hf
  unfold tyZ at hz
  cases hi : F.P.info? t with
  | none => simp [hi] at hz
  | some it =>
    cases hzz : it.zero with
    | none => simp [hi, hzz] at hz
    | some z =>
      simp [hi, hzz] at hz
      have hb : F.P.built t (parts.map fun p => (p.1, a.eval p.2)) = some vs.toArray := by
        unfold Program.built
        simp only [hi, hu, hzz, hm]
        refine fill_of _ _ _ _ ?_
        rw [List.map_map]
        have hc : (parts.map ((fun p : Nat × Value => (p.1, p.2.cells.toList)) ∘ fun p => (p.1, a.eval p.2))) = ps := hR.cells hp
        rw [hc, hz, ← hv]
        congr 1
        funext i
        simp
      have hrun := run_build (P := F.P) w' t ((parts.map fun p => (p.1, a.eval p.2)).toArray) vs.toArray (by simpa using hb)
      simp [execOp, ho, hrun]

/-- the parts of a slice literal, one behind the other -/
def flat (sz : Nat) : Nat → List (Nat × List Value) → Option (List Value)
  | _, [] => some []
  | k, (i, c) :: r => match Nat.beq i k, Nat.beq c.length sz with
    | true, true => match flat sz (k + 1) r with
      | some l => some (c ++ l)
      | none => none
    | _, _ => none

theorem flat_len {sz : Nat} : ∀ {ps : List (Nat × List Value)} {k : Nat} {xs : List Value}, flat sz k ps = some xs → xs.length = ps.length * sz
  | [], k, xs, h => by simp [flat] at h; subst h; simp
  | (i, c) :: r, k, xs, h => by
    simp only [flat] at h
    split at h
    · rename_i h1 h2
      split at h
      · rename_i l hl
        cases h
        have := flat_len hl
        have := Nat.eq_of_beq_eq_true h2
        simp [*, Nat.add_mul]
        omega
      · cases h
    · cases h

theorem fill_flat {sz : Nat} : ∀ {ps : List (Nat × List Value)} {k : Nat} {xs cs : List Value}, flat sz k ps = some xs → cs.length = (k + ps.length) * sz → fillL (fun i => some (i * sz, sz)) cs ps = some (cs.take (k * sz) ++ xs)
  | [], k, xs, cs, h, hl => by
    simp [flat] at h; subst h
    simp [fillL]
    exact (List.take_of_length_le (by simp at hl; omega)).symm
  | (i, c) :: r, k, xs, cs, h, hl => by
    simp only [flat] at h
    split at h
    · rename_i h1 h2
      split at h
      · rename_i l hl2
        cases h
        have e1 := Nat.eq_of_beq_eq_true h1
        have e2 := Nat.eq_of_beq_eq_true h2
        subst e1
        simp only [List.length_cons] at hl
        have hsz : i * sz + sz ≤ cs.length := by
          rw [hl, show i + (r.length + 1) = (i + 1) + r.length by omega, Nat.add_mul, Nat.add_mul]; omega
        have h3 : Nat.ble (i * sz + c.length) cs.length = true := Nat.ble_eq_true_of_le (by omega)
        simp only [fillL, h2, h3]
        have ih := fill_flat (cs := setAt cs (i * sz) c) hl2 (by rw [length_setAt _ _ _ (by omega), hl]; congr 1; omega)
        rw [ih, setAt_eq _ _ _ (by omega)]
        have e3 : (i + 1) * sz = i * sz + c.length := by rw [Nat.add_mul]; omega
        rw [e3, List.append_assoc, List.take_append, List.length_take]
        rw [show min (i * sz) cs.length = i * sz by omega, List.take_take, show min (i * sz + c.length) (i * sz) = i * sz by omega, Nat.add_sub_cancel_left, List.take_append, List.take_of_length_le (Nat.le_refl _)]
        simp
      · cases h
    · cases h

theorem RepAt.cellsLen (_h : RepAt F bk hd ρ σ u a w) : ∀ {xs : List (Nat × Operand)} {vs : List (Nat × List Value)}, opCells ρ σ xs = some vs → vs.length = xs.length
  | [], vs, he => by simp only [opCells, Option.some.injEq] at he; subst he; rfl
  | (i, x) :: r, vs, he => by
    simp only [opCells] at he
    split at he
    · split at he
      · rename_i l hl
        cases he
        simp [_h.cellsLen hl]
      · cases he
    · cases he

/-- a slice literal: a row of the call's own -/
theorem do_buildSlice {σS : Own} {K : Env → Own → View → Prop} {d : Nat} {T E ty : TypeId} {n sz by' : Nat} {parts : List (Nat × Operand)} {pos : String} {aft : Array Edge} {ps : List (Nat × List Value)} {xs zs : List Value} (hS : subO σS σ) (ht : tyS F.P T = some (E, sz, by')) (hz : tyZ F.P E = some zs)
    (hp : opCells ρ σ parts = some ps) (hx : flat sz 0 ps = some xs) (hl : parts.length = n) (hb : Nat.ble (n * sz) 65536 = true) (hb2 : Nat.ble n 65536 = true) (hr : noref d ρ = true) (hσ : gv σ d = none) (hn : Nat.blt d F.n = true)
    (h : K ((d, .s d) :: ρ) ((d, (none, .row E sz n xs)) :: σ) u) : Does F σS ⟨some d, .buildSlice T n parts.toArray, ty, pos, aft, none⟩ ρ σ u K := by
  intro bk hd a w Q hR N hN
  obtain ⟨inf, hu, hinf, hsz, hby⟩ := tyS_some ht
  obtain ⟨z, hzr, rfl⟩ := tyZ_some hz
  have hpl : ps.length = n := (hR.cellsLen hp).trans hl
  have hxl := flat_len hx
  rw [hpl] at hxl
  have hble : n * sz ≤ 65536 := Nat.le_of_ble_eq_true hb
  have hrun : (execOp a.eval ⟨some d, .buildSlice T n parts.toArray, ty, pos, aft, none⟩).run F.P w = .ok (.value (.slice (some ⟨w.heap.size, 0, none⟩) n n)) (w.alloc (.cells xs.toArray E)) := by
    have hsize : (sizeOf E).run F.P w = .ok sz w := by simp [sizeOf, typeInfo, hinf, hsz]
    have hfill : ∀ cells : Array Value, cells.size = n * sz → Instr.fill (fun i => some (i * sz, sz)) cells (parts.map fun p => (p.1, a.eval p.2)) = some xs.toArray := by
      intro cells hc
      refine fill_of _ _ _ _ ?_
      rw [List.map_map]
      have hc2 : (parts.map ((fun p : Nat × Value => (p.1, p.2.cells.toList)) ∘ fun p => (p.1, a.eval p.2))) = ps := hR.cells hp
      rw [hc2, fill_flat hx (by simp [hc, hpl])]
      simp
    have hnot : ¬ (n * sz > 2 ^ 24) := by omega
    simp only [execOp, Instr.buildSlice, Sem.run_bind, run_underlying hu, Result.andThen_ok, hsize, if_neg hnot, List.map_toArray, List.toList_toArray]
    by_cases h0 : n * sz = 0
    · have h1 := hfill ((Array.range (n * sz)).map (fun x => (#[] : Array Value)[x % (#[] : Array Value).size]!)) (by simp)
      rw [if_pos h0]
      simp only [Sem.run_bind, Sem.run_pure, Result.andThen_ok]
      erw [h1]
      simp [run_newRow]
    · have h1 := hfill ((Array.range (n * sz)).map (z.cells[· % z.cells.size]!)) (by simp)
      rw [if_neg h0]
      simp only [Sem.run_bind, hzr, Sem.run_pure, Result.andThen_ok]
      erw [h1]
      simp [run_newRow]
  unfold Oper.wp
  rw [hrun]
  have hs0 : n ≤ maxLen := Nat.le_trans (Nat.le_of_ble_eq_true hb2) (by unfold maxLen; omega)
  refine hN _ _ _ _ _ _ _ h ((hR.alloc (hv := .slice (some ⟨w.heap.size, 0, none⟩) n n) hr hσ (o := .row E sz n xs) ⟨⟨hxl, .inr ⟨w.heap.size, n, xs.toArray, rfl, Nat.zero_le _, heap_alloc_new w _, Nat.le_refl _, hs0, by simpa using hxl, by simp [← hxl]⟩⟩, rfl⟩ (fun b hb => by cases hb; rfl)).put (blt_lt hn) ?_) (fun x hx => same_alloc hR hS hσ hx)
  simp [SVal]
end
end Go.Eng
