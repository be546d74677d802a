/- The engine's rules for what makes or writes memory, and for calls. -/
import Derived.Test.YthnboadnehbciaaDoorEngMem
namespace Go.Eng
open Go Go.RowKit
set_option linter.unusedSimpArgs false
set_option linter.unusedVariables false

def refs (id : Nat) : SV → Bool
  | .p i _ => Nat.beq i id
  | .s i => Nat.beq i id
  | .m i => Nat.beq i id
  | _ => false
def noref (id : Nat) : Env → Bool
  | [] => true
  | (_, x) :: r => match refs id x with
    | true => false
    | false => noref id r

theorem noref_gv {id : Nat} : ∀ {ρ : Env}, noref id ρ = true → ∀ k sv, gv ρ k = some sv → refs id sv = false
  | [], _, k, sv, h => by simp [gv] at h
  | (j, x) :: r, hn, k, sv, h => by
    simp only [noref] at hn
    split at hn
    · cases hn
    · rename_i hx
      simp only [gv] at h
      split at h
      · cases h; exact hx
      · exact noref_gv hn k sv h

theorem SVal_congr {bk bk' : Nat → Option Nat} {hd hd' : Nat → Value} {id : Nat} (hb : ∀ j, j ≠ id → bk' j = bk j) (hh : ∀ j, j ≠ id → hd' j = hd j) {sv : SV} {x : Value} (hr : refs id sv = false) (h : SVal bk hd sv x) : SVal bk' hd' sv x := by
  cases sv with
  | v y => exact h
  | p i off =>
    have hne : i ≠ id := fun e => by simp [refs, e] at hr
    simp only [SVal, hb i hne] at h ⊢
    exact h
  | s i =>
    have hne : i ≠ id := fun e => by simp [refs, e] at hr
    simp only [SVal, hh i hne] at h ⊢
    exact h
  | e y sz i off => exact h
  | m i =>
    have hne : i ≠ id := fun e => by simp [refs, e] at hr
    simp only [SVal, hb i hne] at h ⊢
    exact h
  | q => trivial

/-- the value that a slot holds, where it is known -/
def svV (σ : Own) : SV → Option Value
  | .v y => some y
  | .p id off => match gv σ id with
    | some (some b, _) => some (.pointer (some ⟨b, off, none⟩))
    | _ => none
  | .m id => match gv σ id with
    | some (some b, _) => some (.map (some b))
    | _ => none
  | _ => none

section
variable {F : Fx} {ρ : Env} {σ : Own} {u : View} {Q : Post} {bk : Nat → Option Nat} {hd : Nat → Value} {a : Act} {w : World}

theorem RepAt.svV (h : RepAt F bk hd ρ σ u a w) {sv : SV} {x y : Value} (hs : SVal bk hd sv x) (hv : Eng.svV σ sv = some y) : x = y := by
  cases sv with
  | v z => simp only [Eng.svV, Option.some.injEq] at hv; subst hv; exact hs
  | p id off =>
    simp only [Eng.svV] at hv
    split at hv
    · rename_i b o hg
      cases hv
      obtain ⟨b', hb', rfl⟩ := hs
      have := (h.own id _ hg).2 b rfl
      rw [this] at hb'; cases hb'
      rfl
    · cases hv
  | m id =>
    simp only [Eng.svV] at hv
    split at hv
    · rename_i b o hg
      cases hv
      obtain ⟨b', hb', rfl⟩ := hs
      have := (h.own id _ hg).2 b rfl
      rw [this] at hb'; cases hb'
      rfl
    · cases hv
  | _ => cases hv

theorem Frame0.trans {w0 w1 w2 : World} {D : Nat → Prop} (h : Frame0 w0 D w1) (k : Frame0 w1 noD w2) : Frame0 w0 D w2 := by
  obtain ⟨a1, a2, a3, a4, a5⟩ := h
  obtain ⟨b1, b2, b3, b4, b5⟩ := k
  exact ⟨b1.trans a1, b2.trans a2, b3.trans a3, Nat.le_trans a4 b4, fun i hi hD => (b5 i (by omega) (fun h => h)).trans (a5 i hi hD)⟩

theorem row_lt {w : World} {base : Nat} {T : TypeId} {sz n b : Nat} {hv : Value} {xs : List Value} (h : w.ownsRow base T sz hv n xs) (hb : hv.ownBlock = some b) : b < w.heap.size := (h.lt b hb).2

theorem ownO.lt {w : World} {o : OO} {b : Nat} {bo : Option Nat} {hv : Value} (h : ownO w bo hv o) (hb : o.holds bo hv b) : b < w.heap.size := by
  cases o with
  | box cs =>
    obtain ⟨b', T, hb', hh⟩ := h
    simp only [OO.holds] at hb
    rw [hb] at hb'; cases hb'
    exact (Array.getElem?_eq_some_iff.1 hh).1
  | row T sz n xs =>
    obtain ⟨hown, hbk⟩ := h
    exact row_lt hown (hbk ▸ hb)
  | it l pos =>
    obtain ⟨b', hb', hh⟩ := h
    simp only [OO.holds] at hb
    rw [hb] at hb'; cases hb'
    exact (Array.getElem?_eq_some_iff.1 hh).1
  | rb T sz n xs =>
    obtain ⟨hown, b', Tb, hb', hh, _⟩ := h
    rcases hb with hb | hb
    · rw [hb] at hb'; cases hb'
      exact (Array.getElem?_eq_some_iff.1 hh).1
    · exact row_lt hown hb
  | wild =>
    obtain ⟨b', T, x, hb', hh⟩ := h
    simp only [OO.holds] at hb
    rw [hb] at hb'; cases hb'
    exact (Array.getElem?_eq_some_iff.1 hh).1
  | mp kvs =>
    obtain ⟨b', es, c, hb', hh, _⟩ := h
    simp only [OO.holds] at hb
    rw [hb] at hb'; cases hb'
    exact (Array.getElem?_eq_some_iff.1 hh).1
  | rwv v T sz n xs =>
    obtain ⟨rfl, hown, hbk⟩ := h
    exact row_lt hown (hbk ▸ hb)
  | fg H I => exact h.2 b hb
  | bt T cs =>
    obtain ⟨b', hb', hh⟩ := h
    simp only [OO.holds] at hb
    rw [hb] at hb'; cases hb'
    exact (Array.getElem?_eq_some_iff.1 hh).1
theorem ownOk.lt {w : World} {p : PO} {b : Nat} {bo : Option Nat} {hv : Value} (h : ownOk w bo hv p) (hb : p.2.holds bo hv b) : b < w.heap.size := h.1.lt hb

theorem row_grow {w w' : World} {base : Nat} {T : TypeId} {sz n : Nat} {hv : Value} {xs : List Value} (h : w.ownsRow base T sz hv n xs) (hw : ∀ k, hv.ownBlock = some k → w'.heap[k]? = w.heap[k]?) : w'.ownsRow base T sz hv n xs := by
  refine ⟨h.1, ?_⟩
  rcases h.2 with hn | ⟨g, cap, cur, rfl, hb, hgg, rest⟩
  · exact .inl hn
  · exact .inr ⟨g, cap, cur, rfl, hb, (hw g rfl).trans hgg, rest⟩

theorem ownO.grow {w : World} {o : OO} {bo : Option Nat} {hv : Value} {w' : World} (h : ownO w bo hv o) (hw : ∀ k, o.holds bo hv k → w'.heap[k]? = w.heap[k]?) : ownO w' bo hv o := by
  cases o with
  | box cs =>
    obtain ⟨b', T, hb', hh⟩ := h
    exact ⟨b', T, hb', (hw _ hb').trans hh⟩
  | row T sz n xs =>
    obtain ⟨hown, hbk⟩ := h
    exact ⟨row_grow hown fun k hk => hw k (hbk.trans hk), hbk⟩
  | it l pos =>
    obtain ⟨b', hb', hh⟩ := h
    exact ⟨b', hb', (hw _ hb').trans hh⟩
  | rb T sz n xs =>
    obtain ⟨hown, b', Tb, hb', hh, hne⟩ := h
    exact ⟨row_grow hown fun k hk => hw k (.inr hk), b', Tb, hb', (hw _ (.inl hb')).trans hh, hne⟩
  | wild =>
    obtain ⟨b', T, x, hb', hh⟩ := h
    exact ⟨b', T, x, hb', (hw _ hb').trans hh⟩
  | mp kvs =>
    obtain ⟨b', es, c, hb', hh, he⟩ := h
    exact ⟨b', es, c, hb', (hw _ hb').trans hh, he⟩
  | rwv v T sz n xs =>
    obtain ⟨rfl, hown, hbk⟩ := h
    exact ⟨rfl, row_grow hown fun k hk => hw k (hbk.trans hk), hbk⟩
  | fg H I =>
    obtain ⟨h1, h2⟩ := h
    refine ⟨fun w2 h => h1 w2 fun k hk => (h k hk).trans (hw k hk), fun k hk => ?_⟩
    have := hw k hk
    rw [Array.getElem?_eq_getElem (h2 k hk)] at this
    exact (Array.getElem?_eq_some_iff.1 this).1
  | bt T cs =>
    obtain ⟨b', hb', hh⟩ := h
    exact ⟨b', hb', (hw _ hb').trans hh⟩
theorem ownOk.grow {w : World} {p : PO} {bo : Option Nat} {hv : Value} {w' : World} (h : ownOk w bo hv p) (hw : ∀ k, p.2.holds bo hv k → w'.heap[k]? = w.heap[k]?) : ownOk w' bo hv p := ⟨h.1.grow hw, h.2⟩

theorem RepAt.grow {w' : World} (h : RepAt F bk hd ρ σ u a w) (hw : Frame0 w noD w') : RepAt F bk hd ρ σ u a w' := by
  have hb : ∀ k, k < w.heap.size → w'.heap[k]? = w.heap[k]? := fun k hk => hw.2.2.2.2 k hk (fun h => h)
  refine ⟨h.size, h.defers, h.frame.trans hw, fun k o hk => ?_, h.uold, h.slot, fun id o ho => ?_, h.fresh, h.inj⟩
  · rw [hb k (h.agree.lt hk)]; exact h.agree k o hk
  · have := h.own id o ho
    exact this.grow fun k hk => hb k (this.lt hk)

theorem Frame0.alloc (w : World) (o : Obj) : Frame0 w noD (w.alloc o) :=
  ⟨rfl, rfl, rfl, by simp, fun k hk _ => Below.heap_alloc w o k hk⟩

/-- one own block more -/
theorem RepAt.addOwn (h : RepAt F bk hd ρ σ u a w) {d : Nat} {p : PO} {bo : Option Nat} {hv : Value} (hr : noref d ρ = true) (hσ : gv σ d = none) (hok : ownOk w bo hv p)
    (hf : ∀ b, p.2.holds bo hv b → (F.D b ∨ F.w0.heap.size ≤ b) ∧ u b = none ∧ ∀ id q, gv σ id = some q → ¬ q.2.holds (bk id) (hd id) b) :
    RepAt F (fun j => if j = d then bo else bk j) (fun j => if j = d then hv else hd j) ρ ((d, p) :: σ) u a w := by
  have e1 : ∀ j, j ≠ d → (fun j => if j = d then bo else bk j) j = bk j := fun j hj => by simp [hj]
  have e2 : ∀ j, j ≠ d → (fun j => if j = d then hv else hd j) j = hd j := fun j hj => by simp [hj]
  have hne : ∀ id q, gv σ id = some q → id ≠ d := fun id q hi e => by rw [e, hσ] at hi; cases hi
  have hcase : ∀ id q, gv ((d, p) :: σ) id = some q → (id = d ∧ q = p) ∨ (id ≠ d ∧ gv σ id = some q) := by
    intro id oo hi
    simp only [gv] at hi
    split at hi
    · rename_i hb
      cases hi
      exact .inl ⟨(Nat.eq_of_beq_eq_true hb).symm, rfl⟩
    · exact .inr ⟨hne _ _ hi, hi⟩
  refine ⟨h.size, h.defers, h.frame, h.agree, h.uold, ?_, ?_, ?_, ?_⟩
  · intro k sv hk
    obtain ⟨x, hx, hs⟩ := h.slot k sv hk
    exact ⟨x, hx, SVal_congr e1 e2 (noref_gv hr k sv hk) hs⟩
  · intro id oo hi
    rcases hcase id oo hi with ⟨rfl, rfl⟩ | ⟨hne, hi⟩
    · simpa using hok
    · simpa [hne] using h.own id oo hi
  · intro id oo b hi hb
    rcases hcase id oo hi with ⟨rfl, rfl⟩ | ⟨hne, hi⟩
    · obtain ⟨h1, h2, _⟩ := hf b (by simpa using hb)
      exact ⟨h1, h2⟩
    · exact h.fresh id oo b hi (by simpa [hne] using hb)
  · intro id id' oo oo' b hi hi' hb hb'
    have c1 := hcase id oo hi
    have c2 := hcase id' oo' hi'
    clear hi hi'
    rcases c1 with ⟨e1, f1⟩ | ⟨n1, i1⟩
    · rcases c2 with ⟨e2, _⟩ | ⟨n2, i2⟩
      · exact e1.trans e2.symm
      · exact absurd (by simpa [n2] using hb') ((hf b (by simpa [e1, f1] using hb)).2.2 id' oo' i2)
    · rcases c2 with ⟨e2, f2⟩ | ⟨n2, i2⟩
      · exact absurd (by simpa [n1] using hb) ((hf b (by simpa [e2, f2] using hb')).2.2 id oo i1)
      · exact h.inj id id' oo oo' b i1 i2 (by simpa [n1] using hb) (by simpa [n2] using hb')

/-- a new block -/
theorem RepAt.alloc (h : RepAt F bk hd ρ σ u a w) {d : Nat} {o : OO} {ob : Obj} {hv : Value} (hr : noref d ρ = true) (hσ : gv σ d = none) (hok : ownO (w.alloc ob) (some w.heap.size) hv o)
    (hone : ∀ b, o.holds (some w.heap.size) hv b → b = w.heap.size) :
    RepAt F (fun j => if j = d then some w.heap.size else bk j) (fun j => if j = d then hv else hd j) ρ ((d, (none, o)) :: σ) u a (w.alloc ob) := by
  refine (h.grow (Frame0.alloc w ob)).addOwn hr hσ ⟨hok, by simp⟩ ?_
  intro b hb
  have := hone b hb
  subst this
  refine ⟨.inr h.frame.2.2.2.1, ?_, ?_⟩
  · cases hu : u w.heap.size with
    | none => rfl
    | some o => exact absurd (h.agree.lt hu) (Nat.lt_irrefl _)
  · intro id oo hi hb
    exact absurd ((h.own id oo hi).lt hb) (Nat.lt_irrefl _)

theorem run_newRow {P : Program} (T : TypeId) (cs : Array Value) : (newRow T cs).run P w = .ok ⟨w.heap.size, 0, none⟩ (w.alloc (.cells cs T)) := by
  simp [newRow]

/-- what a new block does to the blocks of σS -/
theorem same_alloc (hR : RepAt F bk hd ρ σ u a w) {σS : Own} (hS : subO σS σ) {d : Nat} (hσ : gv σ d = none) {bo : Option Nat} {hv : Value} {ob : Obj} {x : World}
    (h : Same (fun j => if j = d then bo else bk j) (fun j => if j = d then hv else hd j) σS u (w.alloc ob) x) : Same bk hd σS u w x := by
  refine same_of (VLe.refl u) (fun id p hi => ?_) (fun id p b hi hb => ?_) h
  · have : id ≠ d := fun e => by rw [e, gv_subO_none hS hσ] at hi; cases hi
    simp [this]
  · exact Below.heap_alloc w ob b ((hR.own id p (gv_subO hS id p hi)).lt hb)

/-- a struct parameter, boxed -/
theorem do_box {σS : Own} {K : Env → Own → View → Prop} {d : Nat} {T ty : TypeId} {y : Operand} {pos : String} {aft : Array Edge} {x : Value} {cs : List Value} (hS : subO σS σ) (hy : opv ρ y = some (.v x)) (hc : x.cells.toList = cs)
    (hr : noref d ρ = true) (hσ : gv σ d = none) (hn : Nat.blt d F.n = true) (h : K ((d, .p d 0) :: ρ) ((d, (none, .box cs)) :: σ) u) : Does F σS ⟨some d, .box T y, ty, pos, aft, none⟩ ρ σ u K := by
  intro bk hd a w Q hR N hN
  have hx := hR.op hy
  have hrun : (execOp a.eval ⟨some d, .box T y, ty, pos, aft, none⟩).run F.P w = .ok (.value (.pointer (some ⟨w.heap.size, 0, none⟩))) (w.alloc (.cells cs.toArray T)) := by
    subst hc
    simp [execOp, Instr.box, newVar, run_newRow, hx]
  unfold Oper.wp
  rw [hrun]
  refine hN _ _ _ _ _ _ _ h ((hR.alloc (hv := undef) hr hσ (o := .box cs) ⟨w.heap.size, T, rfl, heap_alloc_new w _⟩ (fun b hb => by cases hb; rfl)).put (blt_lt hn) ?_) (fun x hx => same_alloc hR hS hσ hx)
  exact ⟨w.heap.size, by simp, rfl⟩

theorem tyZ_some {P : Program} {t : TypeId} {zs : List Value} (h : tyZ P t = some zs) : ∃ z, (∀ w, (zeroValue t).run P w = .ok z w) ∧ z.cells.toList = zs := by
  unfold tyZ at h
  cases hi : P.info? t with
  | none => simp [hi] at h
  | some i =>
    cases hz : i.zero with
    | none => simp [hi, hz] at h
    | some z =>
      simp [hi, hz] at h
      exact ⟨z, fun w => by simp [zeroValue, typeInfo, hi, hz], h⟩

/-- a new variable, at zero -/
theorem do_alloc {σS : Own} {K : Env → Own → View → Prop} {d : Nat} {T ty : TypeId} {pos : String} {aft : Array Edge} {zs : List Value} (hS : subO σS σ) (hz : tyZ F.P T = some zs)
    (hr : noref d ρ = true) (hσ : gv σ d = none) (hn : Nat.blt d F.n = true) (h : K ((d, .p d 0) :: ρ) ((d, (none, .box zs)) :: σ) u) : Does F σS ⟨some d, .alloc T, ty, pos, aft, none⟩ ρ σ u K := by
  intro bk hd a w Q hR N hN
  obtain ⟨z, hzr, rfl⟩ := tyZ_some hz
  have hrun : (execOp a.eval ⟨some d, .alloc T, ty, pos, aft, none⟩).run F.P w = .ok (.value (.pointer (some ⟨w.heap.size, 0, none⟩))) (w.alloc (.cells z.cells.toList.toArray T)) := by
    simp [execOp, Instr.alloc, newVar, run_newRow, hzr]
  unfold Oper.wp
  rw [hrun]
  refine hN _ _ _ _ _ _ _ h ((hR.alloc (hv := undef) hr hσ (o := .box z.cells.toList) ⟨w.heap.size, T, rfl, heap_alloc_new w _⟩ (fun b hb => by cases hb; rfl)).put (blt_lt hn) ?_) (fun x hx => same_alloc hR hS hσ hx)
  exact ⟨w.heap.size, by simp, rfl⟩

/-- a variable that will hold a slice that grows: a box, and the row of its own -/
theorem do_alloc_rb {σS : Own} {K : Env → Own → View → Prop} {d : Nat} {T ty : TypeId} {pos : String} {aft : Array Edge} (E : TypeId) (sz : Nat) (hS : subO σS σ) (hz : tyZ F.P T = some [.slice none 0 0])
    (hr : noref d ρ = true) (hσ : gv σ d = none) (hn : Nat.blt d F.n = true) (h : K ((d, .p d 0) :: ρ) ((d, (none, .rb E sz 0 [])) :: σ) u) : Does F σS ⟨some d, .alloc T, ty, pos, aft, none⟩ ρ σ u K := by
  intro bk hd a w Q hR N hN
  obtain ⟨z, hzr, hzc⟩ := tyZ_some hz
  have hrun : (execOp a.eval ⟨some d, .alloc T, ty, pos, aft, none⟩).run F.P w = .ok (.value (.pointer (some ⟨w.heap.size, 0, none⟩))) (w.alloc (.cells #[.slice none 0 0] T)) := by
    have : z.cells = #[.slice none 0 0] := by rw [← hzc]
    simp [execOp, Instr.alloc, newVar, run_newRow, hzr, this]
  unfold Oper.wp
  rw [hrun]
  refine hN _ _ _ _ _ _ _ h ((hR.alloc (hv := .slice none 0 0) hr hσ (o := .rb E sz 0 []) ⟨World.ownsRow_nil _ _ _ _, w.heap.size, T, rfl, heap_alloc_new w _, by simp [Value.ownBlock]⟩ (fun b hb => by
    rcases hb with hb | hb
    · cases hb; rfl
    · simp [Value.ownBlock] at hb)).put (blt_lt hn) ?_) (fun x hx => same_alloc hR hS hσ hx)
  exact ⟨w.heap.size, by simp, rfl⟩

/-! ### writing -/
/-- vs laid over cs from o on -/
def setAt : List Value → Nat → List Value → List Value
  | cs, _, [] => cs
  | [], _, _ => []
  | c :: cs, o + 1, vs => c :: setAt cs o vs
  | _ :: cs, 0, v :: vs => v :: setAt cs 0 vs

theorem setAt_eq : ∀ (cs : List Value) (o : Nat) (vs : List Value), o + vs.length ≤ cs.length → setAt cs o vs = cs.take o ++ vs ++ cs.drop (o + vs.length)
  | cs, o, [], _ => by simp [setAt]
  | [], o, v :: vs, h => by simp at h
  | c :: cs, o + 1, v :: vs, h => by
    have ih := setAt_eq cs o (v :: vs) (by simp at h ⊢; omega)
    simp only [setAt, ih, List.take_succ_cons, List.cons_append]
    rw [show o + 1 + (v :: vs).length = (o + (v :: vs).length) + 1 by omega, List.drop_succ_cons]
  | c :: cs, 0, v :: vs, h => by
    have ih := setAt_eq cs 0 vs (by simp at h ⊢; omega)
    simp only [setAt, ih]
    simp [Nat.add_comm]

theorem length_setAt (cs : List Value) (o : Nat) (vs : List Value) (h : o + vs.length ≤ cs.length) : (setAt cs o vs).length = cs.length := by
  rw [setAt_eq cs o vs h]
  simp
  omega

theorem run_storeVar_at {P : Program} {t : TypeId} {g : Bool} {n b off : Nat} {T : TypeId} {cur : Array Value} {x : Value} {vs : List Value} (hk : tyK P t = some (g, n)) (hb : w.heap[b]? = some (.cells cur T (0, 0)))
    (hx : x.cells.toList = vs) (hl : vs.length = n) (h1 : vs.all Value.oneCell' = true) (hle : off + n ≤ cur.size) :
    (storeVar t ⟨b, off, none⟩ x).run P w = .ok () (w.setRow b (setAt cur.toList off vs).toArray) := by
  have hst := run_storeCells_at P b off T vs 0 cur w hb (by simp; omega) (fun v hv => by simpa using List.all_eq_true.1 h1 v hv)
  have hsz : x.cells.size = n := by rw [← hl, ← hx]; simp
  rw [setAt_eq _ _ _ (by simp; omega)]
  simp only [Nat.add_zero] at hst
  unfold storeVar
  rw [Sem.run_bind, run_sizeOf hk w]
  simp [hsz, hx, hst]

/-- the blocks of one own thing are written; it now is p' -/
theorem RepAt.turn {w' : World} (h : RepAt F bk hd ρ σ u a w) {id : Nat} {p p' : PO} {bo : Option Nat} {hv : Value} (hs : gv σ id = some p) (hok : ownOk w' bo hv p')
    (hw : w'.os = w.os ∧ w'.tape = w.tape ∧ w'.output = w.output ∧ w.heap.size ≤ w'.heap.size) (ho : ∀ k, k < w.heap.size → ¬ p.2.holds (bk id) (hd id) k → w'.heap[k]? = w.heap[k]?)
    (hn : ∀ b, p'.2.holds bo hv b → p.2.holds (bk id) (hd id) b ∨ w.heap.size ≤ b)
    (hsl : ∀ k sv x, gv ρ k = some sv → SVal bk hd sv x → SVal (fun j => if j = id then bo else bk j) (fun j => if j = id then hv else hd j) sv x) :
    RepAt F (fun j => if j = id then bo else bk j) (fun j => if j = id then hv else hd j) ρ ((id, p') :: σ) u a w' := by
  have hcase : ∀ id' q, gv ((id, p') :: σ) id' = some q → (id' = id ∧ q = p') ∨ (id' ≠ id ∧ gv σ id' = some q) := by
    intro id' o' hi
    simp only [gv] at hi
    split at hi
    · rename_i hb
      cases hi
      exact .inl ⟨(Nat.eq_of_beq_eq_true hb).symm, rfl⟩
    · rename_i hb
      exact .inr ⟨fun e => by simp [e] at hb, hi⟩
  have hun : ∀ b, p'.2.holds bo hv b → u b = none := fun b hb => by
    rcases hn b hb with hb | hb
    · exact (h.fresh id p b hs hb).2
    · cases hu : u b with
      | none => rfl
      | some o => exact absurd (h.agree.lt hu) (by omega)
  refine ⟨h.size, h.defers, ?_, ?_, h.uold, ?_, ?_, ?_, ?_⟩
  · obtain ⟨a1, a2, a3, a4, a5⟩ := h.frame
    refine ⟨hw.1.trans a1, hw.2.1.trans a2, hw.2.2.1.trans a3, Nat.le_trans a4 hw.2.2.2, fun k hk hD => ?_⟩
    exact (ho k (by omega) (fun e => by rcases (h.fresh id p k hs e).1 with x | x; exact hD x; omega)).trans (a5 k hk hD)
  · intro k o' hk
    exact (ho k (h.agree.lt hk) (fun e => by rw [(h.fresh id p k hs e).2] at hk; cases hk)).trans (h.agree k o' hk)
  · intro k sv hk
    obtain ⟨x, hx, hv⟩ := h.slot k sv hk
    exact ⟨x, hx, hsl k sv x hk hv⟩
  · intro id' o' hi
    rcases hcase id' o' hi with ⟨rfl, rfl⟩ | ⟨hne, hi⟩
    · simpa using hok
    · have := h.own id' o' hi
      simpa [hne] using this.grow fun k hk => ho k (this.lt hk) fun e => hne (h.inj id' id o' p k hi hs hk e)
  · intro id' o' b' hi hb'
    rcases hcase id' o' hi with ⟨rfl, rfl⟩ | ⟨hne, hi⟩
    · have hb2 : o'.2.holds bo hv b' := by simpa using hb'
      refine ⟨?_, hun b' hb2⟩
      rcases hn b' hb2 with hb | hb
      · exact (h.fresh _ p b' hs hb).1
      · exact .inr (Nat.le_trans h.frame.2.2.2.1 hb)
    · exact h.fresh id' o' b' hi (by simpa [hne] using hb')
  · have key : ∀ id2 q2 b, id2 ≠ id → gv σ id2 = some q2 → q2.2.holds (bk id2) (hd id2) b → p'.2.holds bo hv b → False := by
      intro id2 q2 b hne hi hb hb'
      rcases hn b hb' with hx | hx
      · exact hne (h.inj id2 id q2 p b hi hs hb hx)
      · exact absurd ((h.own id2 q2 hi).lt hb) (by omega)
    intro id1 id2 o1 o2 b' h1 h2 hb1 hb2
    rcases hcase id1 o1 h1 with ⟨e1, f1⟩ | ⟨n1, i1⟩
    · rcases hcase id2 o2 h2 with ⟨e2, f2⟩ | ⟨n2, i2⟩
      · exact e1.trans e2.symm
      · exact (key id2 o2 b' n2 i2 (by simpa [n2] using hb2) (by simpa [e1, f1] using hb1)).elim
    · rcases hcase id2 o2 h2 with ⟨e2, f2⟩ | ⟨n2, i2⟩
      · exact (key id1 o1 b' n1 i1 (by simpa [n1] using hb1) (by simpa [e2, f2] using hb2)).elim
      · exact h.inj id1 id2 o1 o2 b' i1 i2 (by simpa [n1] using hb1) (by simpa [n2] using hb2)

theorem RepAt.same_bk {id : Nat} (h : RepAt F (fun j => if j = id then bk id else bk j) (fun j => if j = id then hd id else hd j) ρ σ u a w) : RepAt F bk hd ρ σ u a w := by
  have e1 : (fun j => if j = id then bk id else bk j) = bk := by funext j; split <;> simp_all
  have e2 : (fun j => if j = id then hd id else hd j) = hd := by funext j; split <;> simp_all
  rwa [e1, e2] at h

theorem RepAt.setOwn (h : RepAt F bk hd ρ σ u a w) {id b : Nat} {p p' : PO} {cs : Array Value} (hs : gv σ id = some p) (hb : ∀ k, k = b → p.2.holds (bk id) (hd id) k)
    (hok : ownOk (w.setRow b cs) (bk id) (hd id) p') (hn : ∀ k, p'.2.holds (bk id) (hd id) k → p.2.holds (bk id) (hd id) k) : RepAt F bk hd ρ ((id, p') :: σ) u a (w.setRow b cs) := by
  refine (h.turn hs hok ⟨rfl, rfl, rfl, by simp⟩ (fun k _ hk => setRow_other w b k cs fun e => hk (hb k e)) (fun k hk => .inl (hn k hk)) ?_).same_bk
  intro k sv x hk hv
  have e1 : (fun j => if j = id then bk id else bk j) = bk := by funext j; split <;> simp_all
  have e2 : (fun j => if j = id then hd id else hd j) = hd := by funext j; split <;> simp_all
  rwa [e1, e2]

/-- what a write into one own thing does to the blocks of σS -/
theorem same_turn {w' : World} (hR : RepAt F bk hd ρ σ u a w) {σS : Own} (hS : subO σS σ) {id : Nat} {p : PO} (hs : gv σ id = some p) (hid : gv σS id = none) {bo : Option Nat} {hv : Value}
    (ho : ∀ k, k < w.heap.size → ¬ p.2.holds (bk id) (hd id) k → w'.heap[k]? = w.heap[k]?) {x : World}
    (h : Same (fun j => if j = id then bo else bk j) (fun j => if j = id then hv else hd j) σS u w' x) : Same bk hd σS u w x := by
  have hne : ∀ i q, gv σS i = some q → i ≠ id := fun i q hi e => by rw [e, hid] at hi; cases hi
  refine same_of (VLe.refl u) (fun i q hi => by simp [hne i q hi]) (fun i q b hi hb => ?_) h
  have hq := gv_subO hS i q hi
  exact ho b ((hR.own i q hq).lt hb) fun e => hne i q hi (hR.inj i id q p b hq hs hb e)
theorem same_row (hR : RepAt F bk hd ρ σ u a w) {σS : Own} (hS : subO σS σ) {id b : Nat} {cs : Array Value} {p : PO} (hs : gv σ id = some p) (hid : gv σS id = none) (hb : ∀ k, k = b → p.2.holds (bk id) (hd id) k) {x : World}
    (h : Same bk hd σS u (w.setRow b cs) x) : Same bk hd σS u w x := by
  have e1 : (fun j => if j = id then bk id else bk j) = bk := by funext j; split <;> simp_all
  have e2 : (fun j => if j = id then hd id else hd j) = hd := by funext j; split <;> simp_all
  refine same_turn hR hS hs hid (bo := bk id) (hv := hd id) (fun k _ hk => setRow_other w b k cs fun e => hk (hb k e)) ?_
  rw [e1, e2]
  exact h

/-- a store into a box of the call's own -/
theorem do_store_p {σS : Own} {K : Env → Own → View → Prop} {T ty : TypeId} {x y : Operand} {pos : String} {aft : Array Edge} {id off n : Nat} {g : Bool} {pn : Option Nat} {cs vs cs' : List Value} {z : Value} (hS : subO σS σ) (hid : gv σS id = none) (hk : tyK F.P T = some (g, n))
    (hx : opv ρ x = some (.p id off)) (hy : (opv ρ y).bind (svV σ) = some z) (hs : gv σ id = some (pn, .box cs)) (hz : z.cells.toList = vs) (hl : vs.length = n) (h1 : vs.all Value.oneCell' = true) (hle : off + n ≤ cs.length) (hc : setAt cs off vs = cs')
    (h : K ρ ((id, (pn, .box cs')) :: σ) u) : Does F σS ⟨none, .store T x y, ty, pos, aft, none⟩ ρ σ u K := by
  intro bk hd a w Q hR N hN
  obtain ⟨b, hb, hx'⟩ := hR.opS hx
  obtain ⟨⟨b', T', hb', hh⟩, hpn⟩ := hR.own id _ hs
  rw [hb] at hb'; cases hb'
  have hy' : a.eval y = z := by
    obtain ⟨sv, h1, h2⟩ := Option.bind_eq_some_iff.1 hy
    exact hR.svV (hR.opS h1) h2
  have hrun : (execOp a.eval ⟨none, .store T x y, ty, pos, aft, none⟩).run F.P w = .ok .skip (w.setRow b cs'.toArray) := by
    have := run_storeVar_at (P := F.P) hk hh hz hl h1 (by simpa using hle)
    simp only [hc] at this
    simp [execOp, hx', hy', Instr.storeAt, Instr.sureAddr, this]
  unfold Oper.wp
  rw [hrun]
  exact hN _ _ _ _ _ _ _ h (hR.setOwn hs (fun k e => e ▸ hb) ⟨⟨b, T', hb, setRow_heap w b _ _ T' _ hh⟩, hpn⟩ (fun k hk => hk)) (fun x hx => same_row hR hS hs hid (fun k e => e ▸ hb) hx)

/-- a store into an element of a row of the call's own -/
theorem do_store_s {σS : Own} {K : Env → Own → View → Prop} {T ty E : TypeId} {x y : Operand} {pos : String} {aft : Array Edge} {id off n sz len : Nat} {g : Bool} {pn : Option Nat} {xs vs xs' : List Value} {z : Value} (hS : subO σS σ) (hid : gv σS id = none) (hk : tyK F.P T = some (g, n))
    (hx : opv ρ x = some (.p id off)) (hy : opv ρ y = some (.v z)) (hs : gv σ id = some (pn, .row E sz len xs)) (hz : z.cells.toList = vs) (hl : vs.length = n) (h1 : vs.all Value.oneCell' = true) (hle : off + n ≤ xs.length) (hc : setAt xs off vs = xs')
    (h : K ρ ((id, (pn, .row E sz len xs')) :: σ) u) : Does F σS ⟨none, .store T x y, ty, pos, aft, none⟩ ρ σ u K := by
  intro bk hd a w Q hR N hN
  obtain ⟨b, hb, hx'⟩ := hR.opS hx
  obtain ⟨⟨hown, hbk⟩, hpn⟩ := hR.own id _ hs
  rcases hown.2 with ⟨hv, hn⟩ | ⟨b', cap, cur, hv, hg, hh, hnc, hcm, hcs, htake⟩
  · rw [hbk, hv] at hb; cases hb
  have hbb : b' = b := by rw [hbk, hv] at hb; simpa [Value.ownBlock] using hb
  subst hbb
  have hxl : xs.length ≤ cur.size := by rw [← htake]; simp; omega
  have hrun : (execOp a.eval ⟨none, .store T x y, ty, pos, aft, none⟩).run F.P w = .ok .skip (w.setRow b' (setAt cur.toList off vs).toArray) := by
    have := run_storeVar_at (P := F.P) (off := off) hk hh hz hl h1 (by omega)
    simp [execOp, hx', hR.op hy, Instr.storeAt, Instr.sureAddr, this]
  unfold Oper.wp
  rw [hrun]
  refine hN _ _ _ _ _ _ _ h (hR.setOwn hs (fun k e => e ▸ hb) ⟨⟨⟨?_, .inr ⟨b', cap, _, hv, hg, setRow_heap w b' _ _ E _ hh, hnc, hcm, ?_, ?_⟩⟩, hbk⟩, hpn⟩ (fun k hk => hk)) (fun x hx => same_row hR hS hs hid (fun k e => e ▸ hb) hx)
  · rw [← hc, length_setAt _ _ _ (by omega)]; exact hown.1
  · simp [length_setAt _ _ _ (show off + vs.length ≤ cur.toList.length by simp; omega), hcs]
  · have hxs := hown.1
    have hcl : cur.toList.length = cap * sz := by simpa using hcs
    have hm : len * sz ≤ cap * sz := Nat.mul_le_mul_right _ hnc
    rw [← hc, setAt_eq cur.toList off vs (by rw [hcl]; omega), setAt_eq xs off vs (by omega), ← htake]
    simp only [List.take_append, List.take_take, List.drop_take, List.length_append, List.length_take, hcl]
    rw [show min (len * sz) off = off by omega, show min off (len * sz) = off by omega, show min off (cap * sz) = off by omega, List.take_of_length_le (l := vs) (by omega)]
end
end Go.Eng
