/- The engine's rules for memory: reading, boxes and rows of the call's own. -/
import Derived.Test.YthnboadnehbciaaDoorEngOps
import Derived.Laws.Tables
import Derived.Laws.Rows
import Derived.Laws.AppendOwn
namespace Go.Eng
open Go Go.RowKit
set_option linter.unusedSimpArgs false
set_option linter.unusedVariables false

/-! ### what a type is, as closed facts -/
def isAggD : TypeDesc → Bool
  | .struct _ | .array _ _ => true
  | _ => false
/-- (is it a struct or an array, its cells) -/
def tyK (P : Program) (t : TypeId) : Option (Bool × Nat) :=
  match P.underlying t, P.info? t with
  | some d, some i => some (isAggD d, i.size)
  | _, _ => none
def tyZ (P : Program) (t : TypeId) : Option (List Value) := ((P.info? t).bind (·.zero)).map (·.cells.toList)
/-- a slice type: (its elements' type, their cells, their bytes) -/
def tyS (P : Program) (t : TypeId) : Option (TypeId × Nat × Nat) :=
  match P.underlying t with
  | some (.slice e) => (P.info? e).map fun i => (e, i.size, i.bytes)
  | _ => none
/-- an array type: (its length, its elements' type, their cells) -/
def tyA (P : Program) (t : TypeId) : Option (Nat × TypeId × Nat) :=
  match P.underlying t with
  | some (.array n e) => (P.info? e).map fun i => (n, e, i.size)
  | _ => none
/-- a struct's fields: (offset, cells) of each -/
def tyF (P : Program) (t : TypeId) : Option (List (Nat × Nat)) :=
  match P.underlying t with
  | some (.struct fs) => fs.toList.mapM fun f => (P.info? f.type).map fun i => (f.offset, i.size)
  | _ => none

/-- the value of a variable with these cells -/
def packV (agg : Bool) (cs : List Value) : Option Value :=
  match agg, cs with
  | true, cs => some (.agg cs.toArray)
  | false, [x] => some x
  | false, _ => none

theorem tyK_some {P : Program} {t : TypeId} {b : Bool} {n : Nat} (h : tyK P t = some (b, n)) : ∃ d i, P.underlying t = some d ∧ P.info? t = some i ∧ isAggD d = b ∧ i.size = n := by
  unfold tyK at h
  split at h
  · rename_i d i h1 h2
    simp only [Option.some.injEq, Prod.mk.injEq] at h
    exact ⟨d, i, h1, h2, h.1, h.2⟩
  · cases h

theorem run_isAgg {P : Program} {t : TypeId} {b : Bool} {n : Nat} (h : tyK P t = some (b, n)) (w : World) : (isAgg t).run P w = .ok b w := by
  obtain ⟨d, i, h1, h2, rfl, h4⟩ := tyK_some h
  unfold isAgg
  rw [Sem.run_bind, run_underlying h1 w]
  cases d <;> rfl

theorem run_sizeOf {P : Program} {t : TypeId} {b : Bool} {n : Nat} (h : tyK P t = some (b, n)) (w : World) : (sizeOf t).run P w = .ok n w := by
  obtain ⟨d, i, h1, h2, h3, rfl⟩ := tyK_some h
  simp [sizeOf, typeInfo, h2]

theorem add_eq (b o j : Nat) : (⟨b, o, none⟩ : Addr).add j = ⟨b, o + j, none⟩ := by unfold Addr.add; split <;> simp_all

/-- n cells from o on -/
def cut (cs : List Value) (o n : Nat) : List Value := (cs.drop o).take n

theorem getElem?_cut {cs vs : List Value} {o n : Nat} (h : cut cs o n = vs) {j : Nat} {x : Value} (hj : vs[j]? = some x) : cs[o + j]? = some x := by
  subst h
  unfold cut at hj
  rw [List.getElem?_take] at hj
  split at hj
  · simpa using hj
  · cases hj

/-- a variable read out of a block -/
theorem run_loadVar_cut {P : Program} {t : TypeId} {g : Bool} {n b o : Nat} {c : Array Value} {T : TypeId} {fr : Nat × Nat} {w : World} {vs : List Value} {z : Value}
    (hk : tyK P t = some (g, n)) (hb : w.heap[b]? = some (.cells c T fr)) (hc : cut c.toList o n = vs) (hl : vs.length = n) (hz : packV g vs = some z) : (loadVar t ⟨b, o, none⟩).run P w = .ok z w := by
  have hcell : ∀ j x, vs[j]? = some x → w.cell? ((⟨b, o, none⟩ : Addr).add j) = some x := by
    intro j x hj
    rw [add_eq]
    simp only [World.cell?, hb]
    have := getElem?_cut hc hj
    simpa using this
  unfold loadVar
  rw [Sem.run_bind, run_isAgg hk w]
  simp only [Result.andThen_ok]
  cases g with
  | true =>
    have hrun := run_loadCells_list (P := P) w ⟨b, o, none⟩ vs hcell
    simp only [packV, Option.some.injEq] at hz
    subst hz
    simp [Sem.run_bind, run_sizeOf hk w, ← hl, hrun]
  | false =>
    match vs, hz with
    | [x], hz =>
      simp only [packV, Option.some.injEq] at hz
      subst hz
      have := hcell 0 x rfl
      rw [add_eq] at this
      simp only [Nat.add_zero] at this
      simp [load, Sem.run, this]

section
variable {F : Fx} {ρ : Env} {σ : Own} {u : View} {Q : Post} {bk : Nat → Option Nat} {hd : Nat → Value} {a : Act} {w : World} {σS : Own} {uS : View} {o : Oper}

/-- a load out of a box of the call's own -/
theorem y_load_p {t : TypeId} {x : Operand} {id off n : Nat} {g : Bool} {cs cs' vs : List Value} {z : Value} {pn pn' : Option Nat} (ho : o.op = .load t x) (hk : tyK F.P t = some (g, n)) (hx : opv ρ x = some (.p id off))
    (hs : gv σ id = some (pn, .box cs)) (hS : gv σS id = some (pn', .box cs')) (hc : cut cs off n = vs) (hl : vs.length = n) (hz : packV g vs = some z) : Yld F σS uS ρ σ u o (.v z) := by
  intro bk hd a w hR
  obtain ⟨b, hb, hx'⟩ := hR.opS hx
  obtain ⟨⟨b', T, hb', hh⟩, _⟩ := hR.own id _ hs
  rw [hb] at hb'
  cases hb'
  refine ⟨z, rfl, fun w' hw => ?_⟩
  have hh' := (hw.2 id _ b hS hb).trans hh
  simp [execOp, ho, hx', Instr.loadAt, Instr.sureAddr, run_loadVar_cut hk hh' (by simpa using hc) hl hz]

/-- immutable slices: n elements of sz cells each, whose cells are xs -/
def SlC (u : View) (a : Option Addr) (n cap sz : Nat) (xs : List Value) : Prop :=
  xs.length = n * sz ∧ n ≤ cap ∧ cap ≤ maxLen ∧ (n ≠ 0 → ∃ b off c T fr, a = some ⟨b, off, none⟩ ∧ u b = some (.cells c T fr) ∧ cut c.toList off (n * sz) = xs)

theorem SlC.mono {u u' : View} {a : Option Addr} {n cap sz : Nat} {xs : List Value} (h : SlC u a n cap sz xs) (hu : VLe u u') : SlC u' a n cap sz xs :=
  ⟨h.1, h.2.1, h.2.2.1, fun hn => let ⟨b, off, c, T, fr, h1, h2, h3⟩ := h.2.2.2 hn; ⟨b, off, c, T, fr, h1, hu _ _ h2, h3⟩⟩

theorem cut_cut {c : List Value} {o m i n : Nat} (h : i + n ≤ m) : cut (cut c o m) i n = cut c (o + i) n := by
  unfold cut
  rw [List.drop_take, List.take_take, List.drop_drop]
  congr 1
  omega

/-- a load of cells of element i of an immutable slice -/
theorem y_load_e {t : TypeId} {x : Operand} {ad : Option Addr} {len cap sz i off n : Nat} {g : Bool} {xs vs : List Value} {z : Value} (ho : o.op = .load t x) (hk : tyK F.P t = some (g, n))
    (hx : opv ρ x = some (.e (.slice ad len cap) sz i off)) (hs : SlC uS ad len cap sz xs) (hi : i < len) (hc : cut xs (i * sz + off) n = vs) (hl : vs.length = n) (hz : packV g vs = some z) (hle : off + n ≤ sz) : Yld F σS uS ρ σ u o (.v z) := by
  intro bk hd a w hR
  obtain ⟨b, o', n', c', hsl, hx'⟩ := hR.opS hx
  obtain ⟨hxl, _, _, hrest⟩ := hs
  obtain ⟨b2, off2, c, T, fr, had, hub, hcut⟩ := hrest (by omega)
  subst had
  cases hsl
  refine ⟨z, rfl, fun w' hw => ?_⟩
  have hh := hw.1 _ _ hub
  have hle2 : i * sz + off + n ≤ len * sz := by
    have : (i + 1) * sz ≤ len * sz := Nat.mul_le_mul_right _ hi
    rw [Nat.add_mul] at this
    omega
  have hc2 : cut c.toList (o' + i * sz + off) n = vs := by
    rw [← hc, ← hcut, cut_cut hle2, Nat.add_assoc]
  simp [execOp, ho, hx', Instr.loadAt, Instr.sureAddr, run_loadVar_cut hk hh hc2 hl hz]

/-- the same, by the element's own cells -/
theorem y_load_el {t : TypeId} {x : Operand} {ad : Option Addr} {len cap sz i off n : Nat} {g : Bool} {xs c vs : List Value} {z : Value} (ho : o.op = .load t x) (hk : tyK F.P t = some (g, n))
    (hx : opv ρ x = some (.e (.slice ad len cap) sz i off)) (hs : SlC uS ad len cap sz xs) (hi : i < len) (hel : cut xs (i * sz) sz = c) (hc : cut c off n = vs) (hl : vs.length = n) (hz : packV g vs = some z) (hle : Nat.ble (off + n) sz = true) : Yld F σS uS ρ σ u o (.v z) := by
  have hle' := Nat.le_of_ble_eq_true hle
  refine y_load_e ho hk hx hs hi ?_ hl hz hle'
  rw [← hc, ← hel, cut_cut hle']

/-- a load through a pointer value into what nobody writes -/
theorem y_load_v {t : TypeId} {x : Operand} {b off n : Nat} {g : Bool} {c : Array Value} {T : TypeId} {fr : Nat × Nat} {vs : List Value} {z : Value} (ho : o.op = .load t x) (hk : tyK F.P t = some (g, n))
    (hx : opv ρ x = some (.v (.pointer (some ⟨b, off, none⟩)))) (hu : uS b = some (.cells c T fr)) (hc : cut c.toList off n = vs) (hl : vs.length = n) (hz : packV g vs = some z) : Yld F σS uS ρ σ u o (.v z) := by
  intro bk hd a w hR
  refine ⟨z, rfl, fun w' hw => ?_⟩
  simp [execOp, ho, hR.op hx, Instr.loadAt, Instr.sureAddr, run_loadVar_cut hk (hw.1 _ _ hu) hc hl hz]

/-! ### addresses -/
theorem tyF_some {P : Program} {t : TypeId} {fs : List (Nat × Nat)} (h : tyF P t = some fs) : ∃ fields, P.underlying t = some (.struct fields) ∧ fields.toList.mapM (fun f => (P.info? f.type).map fun i => (f.offset, i.size)) = some fs := by
  unfold tyF at h
  split at h
  · rename_i fields hu; exact ⟨fields, hu, h⟩
  · cases h

theorem mapM_some_get {α β : Type} {f : α → Option β} : ∀ {l : List α} {r : List β}, l.mapM f = some r → ∀ (i : Nat) (y : β), r[i]? = some y → ∃ x, l[i]? = some x ∧ f x = some y
  | [], r, h, i, y, hy => by simp at h; subst h; simp at hy
  | x :: l, r, h, i, y, hy => by
    simp only [List.mapM_cons, Option.bind_eq_bind, Option.pure_def] at h
    cases hx : f x with
    | none => simp [hx] at h
    | some z =>
      cases hr : l.mapM f with
      | none => simp [hx, hr] at h
      | some s =>
        simp [hx, hr] at h
        subst h
        cases i with
        | zero => simp at hy; subst hy; exact ⟨x, rfl, hx⟩
        | succ i => simp at hy; simpa using mapM_some_get hr i y hy

theorem tyF_get {P : Program} {t : TypeId} {fs : List (Nat × Nat)} (h : tyF P t = some fs) {i off n : Nat} (hi : fs[i]? = some (off, n)) : ∃ fields f inf, P.underlying t = some (.struct fields) ∧ fields[i]? = some f ∧ f.offset = off ∧ P.info? f.type = some inf ∧ inf.size = n := by
  obtain ⟨fields, hu, hm⟩ := tyF_some h
  obtain ⟨f, hf, hy⟩ := mapM_some_get hm i _ hi
  cases hinf : P.info? f.type with
  | none => simp [hinf] at hy
  | some inf =>
    simp [hinf] at hy
    exact ⟨fields, f, inf, hu, by simpa using hf, hy.1, hinf, hy.2⟩

theorem run_fieldAt {P : Program} {w : World} {t : TypeId} {fs : List (Nat × Nat)} {i off n b o : Nat} (h : tyF P t = some fs) (hi : fs[i]? = some (off, n)) (hn : n ≠ 0) :
    (Instr.fieldAt t (.pointer (some ⟨b, o, none⟩)) i).run P w = .ok (.pointer (some ⟨b, o + off, none⟩)) w := by
  obtain ⟨fields, f, inf, hu, hf, rfl, hinf, rfl⟩ := tyF_get h hi
  unfold Instr.fieldAt
  rw [Sem.run_bind, run_underlying hu w]
  simp [hf, Instr.sureAddr, fieldPlace, add_eq, sizeOf, typeInfo, hinf, hn]

theorem y_field_p {t : TypeId} {x : Operand} {i id off fo n : Nat} {fs : List (Nat × Nat)} (ho : o.op = .fieldAddr t x i) (hf : tyF F.P t = some fs) (hi : fs[i]? = some (fo, n)) (hn : n ≠ 0)
    (hx : opv ρ x = some (.p id off)) : Yld F σS uS ρ σ u o (.p id (off + fo)) := by
  intro bk hd a w hR
  obtain ⟨b, hb, hx'⟩ := hR.opS hx
  exact ⟨_, ⟨b, hb, rfl⟩, fun w' _ => by simp [execOp, ho, hx', run_fieldAt hf hi hn]⟩
theorem y_field_e {t : TypeId} {x : Operand} {y : Value} {sz i j off fo n : Nat} {fs : List (Nat × Nat)} (ho : o.op = .fieldAddr t x i) (hf : tyF F.P t = some fs) (hi : fs[i]? = some (fo, n)) (hn : n ≠ 0)
    (hx : opv ρ x = some (.e y sz j off)) : Yld F σS uS ρ σ u o (.e y sz j (off + fo)) := by
  intro bk hd a w hR
  obtain ⟨b, o', n', c', hsl, hx'⟩ := hR.opS hx
  exact ⟨_, ⟨b, o', n', c', hsl, rfl⟩, fun w' _ => by simp [execOp, ho, hx', run_fieldAt hf hi hn, Nat.add_assoc]⟩
theorem y_field_v {t : TypeId} {x : Operand} {b i off fo n : Nat} {fs : List (Nat × Nat)} (ho : o.op = .fieldAddr t x i) (hf : tyF F.P t = some fs) (hi : fs[i]? = some (fo, n)) (hn : n ≠ 0)
    (hx : opv ρ x = some (.v (.pointer (some ⟨b, off, none⟩)))) : Yld F σS uS ρ σ u o (.v (.pointer (some ⟨b, off + fo, none⟩))) :=
  fun bk hd a w hR => ⟨_, rfl, fun w' _ => by simp [execOp, ho, hR.op hx, run_fieldAt hf hi hn]⟩

theorem tyS_some {P : Program} {t e : TypeId} {sz by' : Nat} (h : tyS P t = some (e, sz, by')) : ∃ i, P.underlying t = some (.slice e) ∧ P.info? e = some i ∧ i.size = sz ∧ i.bytes = by' := by
  unfold tyS at h
  split at h
  · rename_i e' hu
    cases hi : P.info? e' with
    | none => simp [hi] at h
    | some i =>
      simp [hi] at h
      obtain ⟨rfl, h2, h3⟩ := h
      exact ⟨i, hu, hi, h2, h3⟩
  · cases h
theorem tyA_some {P : Program} {t e : TypeId} {n sz : Nat} (h : tyA P t = some (n, e, sz)) : ∃ i, P.underlying t = some (.array n e) ∧ P.info? e = some i ∧ i.size = sz := by
  unfold tyA at h
  split at h
  · rename_i m e' hu
    cases hi : P.info? e' with
    | none => simp [hi] at h
    | some i =>
      simp [hi] at h
      obtain ⟨rfl, rfl, h3⟩ := h
      exact ⟨i, hu, hi, h3⟩
  · cases h

theorem run_indexAt_slice {P : Program} {w : World} {t e : TypeId} {sz by' b o len cap : Nat} {k : IntKind} {i : Int} (h : tyS P t = some (e, sz, by')) (h0 : 0 ≤ i) (h1 : i < len) :
    (Instr.indexAt t (.slice (some ⟨b, o, none⟩) len cap) (.int k i)).run P w = .ok (.pointer (some ⟨b, o + i.toNat * sz, none⟩)) w := by
  obtain ⟨inf, hu, hinf, rfl, _⟩ := tyS_some h
  unfold Instr.indexAt
  simp [asIntOf, run_underlying hu, h0, h1, sizeOf, typeInfo, hinf, add_eq]

theorem run_indexAt_array {P : Program} {w : World} {t e : TypeId} {n sz b o : Nat} {k : IntKind} {i : Int} (h : tyA P t = some (n, e, sz)) (h0 : 0 ≤ i) (h1 : i < n) :
    (Instr.indexAt t (.pointer (some ⟨b, o, none⟩)) (.int k i)).run P w = .ok (.pointer (some ⟨b, o + i.toNat * sz, none⟩)) w := by
  obtain ⟨inf, hu, hinf, rfl⟩ := tyA_some h
  unfold Instr.indexAt
  simp [asIntOf, run_underlying hu, Instr.sureAddr, h0, h1, sizeOf, typeInfo, hinf, add_eq]

/-- element i of an immutable slice: its address -/
theorem y_index_e {t e : TypeId} {x y : Operand} {ad : Option Addr} {len cap sz by' : Nat} {xs : List Value} {k : IntKind} {i : Int} {j : Nat} (ho : o.op = .indexAddr t x y) (ht : tyS F.P t = some (e, sz, by'))
    (hx : opv ρ x = some (.v (.slice ad len cap))) (hy : opv ρ y = some (.v (.int k i))) (hs : SlC uS ad len cap sz xs) (hj : i = (j : Int)) (h1 : j < len) : Yld F σS uS ρ σ u o (.e (.slice ad len cap) sz j 0) := by
  intro bk hd a w hR
  subst hj
  obtain ⟨hxl, _, _, hrest⟩ := hs
  obtain ⟨b2, off2, c, T, fr, rfl, hub, hcut⟩ := hrest (by omega)
  refine ⟨_, ⟨b2, off2, len, cap, rfl, rfl⟩, fun w' _ => ?_⟩
  simp [execOp, ho, hR.op hx, hR.op hy, run_indexAt_slice ht (Int.natCast_nonneg j) (Int.ofNat_lt.2 h1)]

/-- element i of an array in a box: its address -/
theorem y_index_p {t e : TypeId} {x y : Operand} {id off n sz : Nat} {k : IntKind} {i : Int} {j : Nat} (ho : o.op = .indexAddr t x y) (ht : tyA F.P t = some (n, e, sz))
    (hx : opv ρ x = some (.p id off)) (hy : opv ρ y = some (.v (.int k i))) (hj : i = (j : Int)) (h1 : j < n) : Yld F σS uS ρ σ u o (.p id (off + j * sz)) := by
  intro bk hd a w hR
  subst hj
  obtain ⟨b, hb, hx'⟩ := hR.opS hx
  refine ⟨_, ⟨b, hb, rfl⟩, fun w' _ => ?_⟩
  simp [execOp, ho, hx', hR.op hy, run_indexAt_array ht (Int.natCast_nonneg j) (Int.ofNat_lt.2 h1)]
theorem y_index_av {t e : TypeId} {x y : Operand} {b off n sz : Nat} {k : IntKind} {i : Int} {j : Nat} (ho : o.op = .indexAddr t x y) (ht : tyA F.P t = some (n, e, sz))
    (hx : opv ρ x = some (.v (.pointer (some ⟨b, off, none⟩)))) (hy : opv ρ y = some (.v (.int k i))) (hj : i = (j : Int)) (h1 : j < n) : Yld F σS uS ρ σ u o (.v (.pointer (some ⟨b, off + j * sz, none⟩))) := by
  intro bk hd a w hR
  subst hj
  refine ⟨_, rfl, fun w' _ => ?_⟩
  simp [execOp, ho, hR.op hx, hR.op hy, run_indexAt_array ht (Int.natCast_nonneg j) (Int.ofNat_lt.2 h1)]

/-- element i of a row of the call's own: its address -/
theorem y_index_s {t e T : TypeId} {x y : Operand} {id len sz by' : Nat} {pn : Option Nat} {xs : List Value} {k : IntKind} {i : Int} {j : Nat} (ho : o.op = .indexAddr t x y) (ht : tyS F.P t = some (e, sz, by'))
    (hx : opv ρ x = some (.s id)) (hs : gv σ id = some (pn, .row T sz len xs)) (hy : opv ρ y = some (.v (.int k i))) (hj : i = (j : Int)) (h1 : j < len) : Yld F σS uS ρ σ u o (.p id (j * sz)) := by
  intro bk hd a w hR
  subst hj
  have hx' := hR.opS hx
  obtain ⟨⟨hown, hbk⟩, _⟩ := hR.own id _ hs
  rcases hown.2 with ⟨hv, hn⟩ | ⟨g, cap, cur, hv, hg, hh, hnc, hcm, hcs, htake⟩
  · omega
  · refine ⟨_, ⟨g, by rw [hbk, hv]; rfl, rfl⟩, fun w' _ => ?_⟩
    have hx2 : a.eval x = hd id := hx'
    simp [execOp, ho, hx2, hv, hR.op hy, run_indexAt_slice ht (Int.natCast_nonneg j) (Int.ofNat_lt.2 h1)]

/-- a load out of a row of the call's own -/
theorem y_load_s {t T : TypeId} {x : Operand} {id off n len sz len' : Nat} {g : Bool} {xs xs' vs : List Value} {z : Value} {pn pn' : Option Nat} (ho : o.op = .load t x) (hk : tyK F.P t = some (g, n)) (hx : opv ρ x = some (.p id off))
    (hs : gv σ id = some (pn, .row T sz len xs)) (hS : gv σS id = some (pn', .row T sz len' xs')) (hc : cut xs off n = vs) (hl : vs.length = n) (hz : packV g vs = some z) (hle : off + n ≤ xs.length) : Yld F σS uS ρ σ u o (.v z) := by
  intro bk hd a w hR
  obtain ⟨b, hb, hx'⟩ := hR.opS hx
  obtain ⟨⟨hown, hbk⟩, _⟩ := hR.own id _ hs
  refine ⟨z, rfl, fun w' hw => ?_⟩
  rcases hown.2 with ⟨hv, hn⟩ | ⟨b', cap, cur, hv, hg, hh, hnc, hcm, hcs, htake⟩
  · rw [hbk, hv] at hb; cases hb
  · have hbb : b' = b := by rw [hbk, hv] at hb; simpa [Value.ownBlock] using hb
    subst hbb
    have hh' := (hw.2 id _ b' hS hb).trans hh
    have hc2 : cut cur.toList off n = vs := by
      rw [← hc, ← htake]
      have := hown.1
      unfold cut
      rw [List.drop_take, List.take_take]
      congr 1
      omega
    simp [execOp, ho, hx', Instr.loadAt, Instr.sureAddr, run_loadVar_cut hk hh' hc2 hl hz]

theorem y_bool_eql {t t' : TypeId} {x y : Operand} {p q : Bool} (ho : o.op = .binOp .eql t x y t') (hx : opv ρ x = some (.v (.bool p))) (hy : opv ρ y = some (.v (.bool q))) (ht : F.P.underlying t = some .bool) : Yld F σS uS ρ σ u o (.v (.bool (p == q))) := by
  refine fun bk hd a w hR => ⟨_, rfl, fun w' _ => ?_⟩
  have h1 : (Op.equal t (.bool p) (.bool q)).run F.P w' = .ok (p == q) w' := by
    unfold Op.equal Op.maxDepth Op.equalIn
    simp [run_underlying ht]
  simp [execOp, ho, hR.op hx, hR.op hy, eqGuard, binOp, h1]

/-! ### strings and lengths -/
def str (l : List UInt8) : Value := .string ⟨l.toArray⟩

theorem y_len_v {x : Operand} {t : TypeId} {ts : Array TypeId} {ad : Option Addr} {n c : Nat} (ho : o.op = .call { callee := .builtin .len, args := #[x], argTypes := ts }) (ht : ts[0]? = some t) {e sz by'} (hS : tyS F.P t = some (e, sz, by'))
    (hx : opv ρ x = some (.v (.slice ad n c))) : Yld F σS uS ρ σ u o (.v (.int .i64 n)) := by
  intro bk hd a w hR
  obtain ⟨inf, hu, _⟩ := tyS_some hS
  refine ⟨_, rfl, fun w' _ => ?_⟩
  simp [execOp, ho, resolve, invoke, builtin, Builtin.len_, ht, hR.op hx, run_underlying hu, goInt]
theorem y_len_s {x : Operand} {t T : TypeId} {ts : Array TypeId} {id n sz' : Nat} {pn : Option Nat} {xs : List Value} (ho : o.op = .call { callee := .builtin .len, args := #[x], argTypes := ts }) (ht : ts[0]? = some t) {e sz by'} (hS : tyS F.P t = some (e, sz, by'))
    (hx : opv ρ x = some (.s id)) (hs : gv σ id = some (pn, .row T sz' n xs)) : Yld F σS uS ρ σ u o (.v (.int .i64 n)) := by
  intro bk hd a w hR
  obtain ⟨inf, hu, _⟩ := tyS_some hS
  obtain ⟨⟨hown, hbk⟩, _⟩ := hR.own id _ hs
  have hx2 : a.eval x = hd id := hR.opS hx
  refine ⟨_, rfl, fun w' _ => ?_⟩
  rcases hown.2 with ⟨hv, hn⟩ | ⟨b', cap, cur, hv, hg, hh, hnc, hcm, hcs, htake⟩
  · subst hn; simp [execOp, ho, resolve, invoke, builtin, Builtin.len_, ht, hx2, hv, run_underlying hu, goInt]
  · simp [execOp, ho, resolve, invoke, builtin, Builtin.len_, ht, hx2, hv, run_underlying hu, goInt]
theorem y_len_str {x : Operand} {t : TypeId} {ts : Array TypeId} {l : List UInt8} (ho : o.op = .call { callee := .builtin .len, args := #[x], argTypes := ts }) (ht : ts[0]? = some t) (hS : F.P.underlying t = some .string)
    (hx : opv ρ x = some (.v (str l))) : Yld F σS uS ρ σ u o (.v (.int .i64 l.length)) := by
  intro bk hd a w hR
  refine ⟨_, rfl, fun w' _ => ?_⟩
  have hx2 : a.eval x = .string ⟨l.toArray⟩ := hR.op hx
  have hsz : (⟨l.toArray⟩ : ByteArray).size = l.length := rfl
  simp [execOp, ho, resolve, invoke, builtin, Builtin.len_, ht, hx2, run_underlying hS, goInt, hsz]

theorem y_index_str {x y : Operand} {t : TypeId} {l : List UInt8} {k : IntKind} {i : Int} {j : Nat} {c : UInt8} (ho : o.op = .index t x y) (hS : F.P.underlying t = some .string)
    (hx : opv ρ x = some (.v (str l))) (hy : opv ρ y = some (.v (.int k i))) (hj : i = (j : Int)) (hc : l[j]? = some c) : Yld F σS uS ρ σ u o (.v (.int .u8 c.toNat)) := by
  intro bk hd a w hR
  subst hj
  refine ⟨_, rfl, fun w' _ => ?_⟩
  have hx2 : a.eval x = .string ⟨l.toArray⟩ := hR.op hx
  obtain ⟨hlt, hc'⟩ := List.getElem?_eq_some_iff.1 hc
  have hget : (⟨l.toArray⟩ : ByteArray)[j]? = some c := by
    have hlt' : j < (⟨l.toArray⟩ : ByteArray).size := by simpa [ByteArray.size] using hlt
    rw [getElem?_pos (⟨l.toArray⟩ : ByteArray) j hlt']
    simp [ByteArray.getElem_eq_getElem_data, hc']
  simp [execOp, ho, hx2, hR.op hy, Instr.index, asIntOf, run_underlying hS, hget]

theorem y_slice_str {x : Operand} {t : TypeId} {lo hi : Option Operand} {l : List UInt8} {i j : Nat} {k k' : IntKind} (ho : o.op = .slice t x lo hi none) (hS : F.P.underlying t = some .string)
    (hx : opv ρ x = some (.v (str l))) (hlo : match lo with | none => i = 0 | some y => opv ρ y = some (.v (.int k (i : Int)))) (hhi : match hi with | none => j = l.length | some y => opv ρ y = some (.v (.int k' (j : Int))))
    (h1 : i ≤ j) (h2 : j ≤ l.length) : Yld F σS uS ρ σ u o (.v (str ((l.drop i).take (j - i)))) := by
  intro bk hd a w hR
  refine ⟨_, rfl, fun w' _ => ?_⟩
  have hx2 : a.eval x = .string ⟨l.toArray⟩ := hR.op hx
  have hsz : (⟨l.toArray⟩ : ByteArray).size = l.length := by simp [ByteArray.size]
  have hext : (⟨l.toArray⟩ : ByteArray).extract i j = ⟨((l.drop i).take (j - i)).toArray⟩ := by
    apply ByteArray.ext
    simp [ByteArray.data_extract, List.extract_toArray, List.extract]
  have hb : (Instr.sliceBounds false l.length l.length (lo.map a.eval) (hi.map a.eval) none).run F.P w' = .ok (i, j, l.length) w' := by
    cases lo with
    | none =>
      simp only at hlo; subst hlo
      cases hi with
      | none => simp only at hhi; subst hhi; simp [Instr.sliceBounds]
      | some y =>
        have := hR.op hhi
        simp [Instr.sliceBounds, this, Instr.sliceBound, asIntOf, h2]
    | some y0 =>
      have h0 := hR.op hlo
      cases hi with
      | none => simp only at hhi; subst hhi; simp [Instr.sliceBounds, h0, Instr.sliceBound, asIntOf, h1]
      | some y =>
        have := hR.op hhi
        simp [Instr.sliceBounds, this, h0, Instr.sliceBound, asIntOf, h1, h2]
  simp [execOp, ho, hx2, Instr.sliceAt, run_underlying hS, Instr.slice, hsz, hb, hext, str]

theorem list_beq (l m : List UInt8) : (l == m) = decide (l = m) := by by_cases h : l = m <;> simp [h]

theorem y_str_eql {x y : Operand} {t t' : TypeId} {l m : List UInt8} (ho : o.op = .binOp .eql t x y t') (hx : opv ρ x = some (.v (str l))) (hy : opv ρ y = some (.v (str m))) : Yld F σS uS ρ σ u o (.v (.bool (decide (l = m)))) := by
  intro bk hd a w hR
  refine ⟨_, rfl, fun w' _ => ?_⟩
  have hx2 : a.eval x = .string ⟨l.toArray⟩ := hR.op hx
  have hy2 : a.eval y = .string ⟨m.toArray⟩ := hR.op hy
  simp [execOp, ho, hx2, hy2, eqGuard, binOp, Op.stringOp, list_beq]
theorem y_str_neq {x y : Operand} {t t' : TypeId} {l m : List UInt8} (ho : o.op = .binOp .neq t x y t') (hx : opv ρ x = some (.v (str l))) (hy : opv ρ y = some (.v (str m))) : Yld F σS uS ρ σ u o (.v (.bool (decide (l ≠ m)))) := by
  intro bk hd a w hR
  refine ⟨_, rfl, fun w' _ => ?_⟩
  have hx2 : a.eval x = .string ⟨l.toArray⟩ := hR.op hx
  have hy2 : a.eval y = .string ⟨m.toArray⟩ := hR.op hy
  simp [execOp, ho, hx2, hy2, eqGuard, binOp, Op.stringOp, list_beq]
theorem y_str_neq_refl {x y : Operand} {t t' : TypeId} {l : List UInt8} (ho : o.op = .binOp .neq t x y t') (hx : opv ρ x = some (.v (str l))) (hy : opv ρ y = some (.v (str l))) : Yld F σS uS ρ σ u o (.v (.bool false)) := by
  have := y_str_neq (F := F) (σS := σS) (uS := uS) (u := u) (σ := σ) ho hx hy
  simpa using this
theorem y_str_eql_refl {x y : Operand} {t t' : TypeId} {l : List UInt8} (ho : o.op = .binOp .eql t x y t') (hx : opv ρ x = some (.v (str l))) (hy : opv ρ y = some (.v (str l))) : Yld F σS uS ρ σ u o (.v (.bool true)) := by
  have := y_str_eql (F := F) (σS := σS) (uS := uS) (u := u) (σ := σ) ho hx hy
  simpa using this
theorem y_str_add {x y : Operand} {t t' : TypeId} {l m : List UInt8} (ho : o.op = .binOp .add t x y t') (hx : opv ρ x = some (.v (str l))) (hy : opv ρ y = some (.v (str m))) (hl : l.length + m.length ≤ 9223372036854775807) : Yld F σS uS ρ σ u o (.v (str (l ++ m))) := by
  intro bk hd a w hR
  refine ⟨_, rfl, fun w' _ => ?_⟩
  have hx2 : a.eval x = .string ⟨l.toArray⟩ := hR.op hx
  have hy2 : a.eval y = .string ⟨m.toArray⟩ := hR.op hy
  have hcat : (⟨l.toArray⟩ : ByteArray) ++ ⟨m.toArray⟩ = ⟨(l ++ m).toArray⟩ := by
    apply ByteArray.ext
    simp [ByteArray.data_append]
  have hs : ∀ l : List UInt8, (⟨l.toArray⟩ : ByteArray).size = l.length := fun l => by simp [ByteArray.size]
  have hmax : IntKind.i64.max = 9223372036854775807 := rfl
  have : ¬ (((l.length + m.length : Nat) : Int) > IntKind.i64.max) := by rw [hmax]; omega
  simp [execOp, ho, hx2, hy2, eqGuard, binOp, Op.stringOp, hs, hcat, str]
  omega
end
end Go.Eng
