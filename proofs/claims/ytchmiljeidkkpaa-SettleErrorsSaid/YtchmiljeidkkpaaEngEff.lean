/- The engine's rules for what makes or writes memory, and for calls. -/
import Derived.Test.YtchmiljeidkkpaaEngMem
namespace Go.Eng
open Go Go.RowKit

def refs (id : Nat) : SV → Bool
  | .p i _ => Nat.beq i id
  | .s i => Nat.beq i id
  | _ => false
def noref (id : Nat) : Env → Bool
  | [] => true
  | (_, x) :: r => match refs id x with
    | true => false
    | false => noref id r

theorem noref_gv {id : Nat} : ∀ {ρ : Env}, noref id ρ = true → ∀ k sv, gv ρ k = some sv → refs id sv = false
  | [], _, k, sv, h => by simp [gv] at h
  | (j, x) :: r, hn, k, sv, h => by
    simp only [noref] at hn
    split at hn
    · cases hn
    · rename_i hx
      simp only [gv] at h
      split at h
      · cases h; exact hx
      · exact noref_gv hn k sv h

theorem SVal_congr {bk bk' : Nat → Option Nat} {hd hd' : Nat → Value} {id : Nat} (hb : ∀ j, j ≠ id → bk' j = bk j) (hh : ∀ j, j ≠ id → hd' j = hd j) {sv : SV} {x : Value} (hr : refs id sv = false) (h : SVal bk hd sv x) : SVal bk' hd' sv x := by
  cases sv with
  | v y => exact h
  | p i off =>
    have hne : i ≠ id := fun e => by simp [refs, e] at hr
    simp only [SVal, hb i hne] at h ⊢
    exact h
  | s i =>
    have hne : i ≠ id := fun e => by simp [refs, e] at hr
    simp only [SVal, hh i hne] at h ⊢
    exact h
  | e y sz i off => exact h
  | q => trivial

section
variable {F : Fx} {ρ : Env} {σ : Own} {u : View} {μ : Mem} {Q : Post} {bk : Nat → Option Nat} {hd : Nat → Value} {a : Act} {w : World}

theorem Frame0.trans {w0 w1 w2 : World} {D : List Nat} (h : Frame0 w0 D w1) (k : Frame0 w1 [] w2) : Frame0 w0 D w2 := by
  obtain ⟨a1, a2, a3, a4, a5⟩ := h
  obtain ⟨b1, b2, b3, b4, b5⟩ := k
  exact ⟨b1.trans a1, b2.trans a2, b3.trans a3, Nat.le_trans a4 b4, fun i hi hD => (b5 i (by omega) (by simp)).trans (a5 i hi hD)⟩

theorem ownOk.lt {o : OO} {b : Nat} {bo : Option Nat} {hv : Value} (h : ownOk F w bo hv o) (hb : bo = some b) : b < w.heap.size := by
  cases o with
  | box cs =>
    obtain ⟨b', T, hb', hh⟩ := h
    rw [hb] at hb'; cases hb'
    exact (Array.getElem?_eq_some_iff.1 hh).1
  | row T sz n xs =>
    obtain ⟨hown, hbk⟩ := h
    exact (hown.lt b (hbk ▸ hb)).2
  | it l pos =>
    obtain ⟨b', hb', hh⟩ := h
    rw [hb] at hb'; cases hb'
    exact (Array.getElem?_eq_some_iff.1 hh).1

theorem ownOk.grow {o : OO} {bo : Option Nat} {hv : Value} {w' : World} (h : ownOk F w bo hv o) (hw : ∀ k, bo = some k → w'.heap[k]? = w.heap[k]?) : ownOk F w' bo hv o := by
  cases o with
  | box cs =>
    obtain ⟨b', T, hb', hh⟩ := h
    exact ⟨b', T, hb', (hw _ hb').trans hh⟩
  | row T sz n xs =>
    obtain ⟨hown, hbk⟩ := h
    refine ⟨⟨hown.1, ?_⟩, hbk⟩
    rcases hown.2 with hn | ⟨g, cap, cur, rfl, hb, hgg, rest⟩
    · exact .inl hn
    · exact .inr ⟨g, cap, cur, rfl, hb, (hw g hbk).trans hgg, rest⟩
  | it l pos =>
    obtain ⟨b', hb', hh⟩ := h
    exact ⟨b', hb', (hw _ hb').trans hh⟩

theorem RepAt.grow {w' : World} (h : RepAt F bk hd ρ σ u μ a w) (hw : Frame0 w [] w') : RepAt F bk hd ρ σ u μ a w' := by
  have hb : ∀ k, k < w.heap.size → w'.heap[k]? = w.heap[k]? := fun k hk => hw.2.2.2.2 k hk (by simp)
  refine ⟨h.size, h.defers, h.frame.trans hw, fun k o hk => ?_, h.uold, fun b o hbo => ?_, h.slot, fun id o ho => ?_, h.fresh, h.inj⟩
  · rw [hb k (h.agree.lt hk)]; exact h.agree k o hk
  · obtain ⟨h1, h2⟩ := h.mem b o hbo
    exact ⟨(hb b (Array.getElem?_eq_some_iff.1 h1).1).trans h1, h2⟩
  · have := h.own id o ho
    exact this.grow fun k hk => hb k (this.lt hk)

theorem Frame0.alloc (w : World) (o : Obj) : Frame0 w [] (w.alloc o) :=
  ⟨rfl, rfl, rfl, by simp, fun k hk _ => Below.heap_alloc w o k hk⟩

/-- one block more of the call's own -/
theorem RepAt.addOwn (h : RepAt F bk hd ρ σ u μ a w) {d : Nat} {o : OO} {bo : Option Nat} {hv : Value} (hr : noref d ρ = true) (hσ : gv σ d = none) (hok : ownOk F w bo hv o)
    (hf : ∀ b, bo = some b → F.w0.heap.size ≤ b ∧ u b = none ∧ (∀ o', (b, o') ∉ μ) ∧ ∀ id oo, gv σ id = some oo → bk id ≠ some b) :
    RepAt F (fun j => if j = d then bo else bk j) (fun j => if j = d then hv else hd j) ρ ((d, o) :: σ) u μ a w := by
  have e1 : ∀ j, j ≠ d → (fun j => if j = d then bo else bk j) j = bk j := fun j hj => by simp [hj]
  have e2 : ∀ j, j ≠ d → (fun j => if j = d then hv else hd j) j = hd j := fun j hj => by simp [hj]
  have hne : ∀ id oo, gv σ id = some oo → id ≠ d := fun id oo hi e => by rw [e, hσ] at hi; cases hi
  have hcase : ∀ id oo, gv ((d, o) :: σ) id = some oo → (id = d ∧ oo = o) ∨ (id ≠ d ∧ gv σ id = some oo) := by
    intro id oo hi
    simp only [gv] at hi
    split at hi
    · rename_i hb
      cases hi
      exact .inl ⟨(Nat.eq_of_beq_eq_true hb).symm, rfl⟩
    · exact .inr ⟨hne _ _ hi, hi⟩
  refine ⟨h.size, h.defers, h.frame, h.agree, h.uold, h.mem, ?_, ?_, ?_, ?_⟩
  · intro k sv hk
    obtain ⟨x, hx, hs⟩ := h.slot k sv hk
    exact ⟨x, hx, SVal_congr e1 e2 (noref_gv hr k sv hk) hs⟩
  · intro id oo hi
    rcases hcase id oo hi with ⟨rfl, rfl⟩ | ⟨hne, hi⟩
    · simpa using hok
    · simpa [hne] using h.own id oo hi
  · intro id oo b hi hb
    rcases hcase id oo hi with ⟨rfl, rfl⟩ | ⟨hne, hi⟩
    · obtain ⟨h1, h2, h3, _⟩ := hf b (by simpa using hb)
      exact ⟨h1, h2, h3⟩
    · exact h.fresh id oo b hi (by simpa [hne] using hb)
  · intro id id' oo oo' b hi hi' hb hb'
    have c1 := hcase id oo hi
    have c2 := hcase id' oo' hi'
    clear hi hi'
    rcases c1 with ⟨e1, _⟩ | ⟨n1, i1⟩
    · rcases c2 with ⟨e2, _⟩ | ⟨n2, i2⟩
      · exact e1.trans e2.symm
      · exact absurd (by simpa [n2] using hb') ((hf b (by simpa [e1] using hb)).2.2.2 id' oo' i2)
    · rcases c2 with ⟨e2, _⟩ | ⟨n2, i2⟩
      · exact absurd (by simpa [n1] using hb) ((hf b (by simpa [e2] using hb')).2.2.2 id oo i1)
      · exact h.inj id id' oo oo' b i1 i2 (by simpa [n1] using hb) (by simpa [n2] using hb')

/-- a new block -/
theorem RepAt.alloc (h : RepAt F bk hd ρ σ u μ a w) {d : Nat} {o : OO} {ob : Obj} {hv : Value} (hr : noref d ρ = true) (hσ : gv σ d = none) (hok : ownOk F (w.alloc ob) (some w.heap.size) hv o) :
    RepAt F (fun j => if j = d then some w.heap.size else bk j) (fun j => if j = d then hv else hd j) ρ ((d, o) :: σ) u μ a (w.alloc ob) := by
  refine (h.grow (Frame0.alloc w ob)).addOwn hr hσ hok ?_
  intro b hb
  cases hb
  refine ⟨h.frame.2.2.2.1, ?_, ?_, ?_⟩
  · cases hu : u w.heap.size with
    | none => rfl
    | some o => exact absurd (h.agree.lt hu) (Nat.lt_irrefl _)
  · intro o' ho'
    exact absurd (Array.getElem?_eq_some_iff.1 (h.mem _ _ ho').1).1 (Nat.lt_irrefl _)
  · intro id oo hi hb
    exact absurd ((h.own id oo hi).lt hb) (Nat.lt_irrefl _)

theorem run_newRow {P : Program} (T : TypeId) (cs : Array Value) : (newRow T cs).run P w = .ok ⟨w.heap.size, 0, none⟩ (w.alloc (.cells cs T)) := by
  simp [newRow]

/-- a struct parameter, boxed -/
theorem rl_box {ops : Array Oper} {rest : List Oper} {d : Nat} {T ty : TypeId} {y : Operand} {pos : String} {aft : Array Edge} {x : Value} {cs : List Value} (hy : opv ρ y = some (.v x)) (hc : x.cells.toList = cs)
    (hr : noref d ρ = true) (hσ : gv σ d = none) (hn : Nat.blt d F.n = true) (h : RL F ops rest ((d, .p d 0) :: ρ) ((d, .box cs) :: σ) u μ Q) : RL F ops (⟨some d, .box T y, ty, pos, aft, none⟩ :: rest) ρ σ u μ Q := by
  rintro a w ⟨bk, hd, hR⟩
  refine wpList_plain rfl fun K hK => ?_
  have hx := hR.op hy
  have hrun : (execOp a.eval ⟨some d, .box T y, ty, pos, aft, none⟩).run F.P w = .ok (.value (.pointer (some ⟨w.heap.size, 0, none⟩))) (w.alloc (.cells cs.toArray T)) := by
    subst hc
    simp [execOp, Instr.box, newVar, run_newRow, hx]
  unfold Oper.wp
  rw [hrun]
  refine hK _ _ (h _ _ ⟨_, _, (hR.alloc (hv := undef) hr hσ (o := .box cs) ⟨w.heap.size, T, rfl, heap_alloc_new w _⟩).put (blt_lt hn) ?_⟩)
  exact ⟨w.heap.size, by simp, rfl⟩

theorem tyZ_some {P : Program} {t : TypeId} {zs : List Value} (h : tyZ P t = some zs) : ∃ z, (∀ w, (zeroValue t).run P w = .ok z w) ∧ z.cells.toList = zs := by
  unfold tyZ at h
  cases hi : P.info? t with
  | none => simp [hi] at h
  | some i =>
    cases hz : i.zero with
    | none => simp [hi, hz] at h
    | some z =>
      simp [hi, hz] at h
      exact ⟨z, fun w => by simp [zeroValue, typeInfo, hi, hz], h⟩

/-- a new variable, at zero -/
theorem rl_alloc {ops : Array Oper} {rest : List Oper} {d : Nat} {T ty : TypeId} {pos : String} {aft : Array Edge} {zs : List Value} (hz : tyZ F.P T = some zs)
    (hr : noref d ρ = true) (hσ : gv σ d = none) (hn : Nat.blt d F.n = true) (h : RL F ops rest ((d, .p d 0) :: ρ) ((d, .box zs) :: σ) u μ Q) : RL F ops (⟨some d, .alloc T, ty, pos, aft, none⟩ :: rest) ρ σ u μ Q := by
  rintro a w ⟨bk, hd, hR⟩
  refine wpList_plain rfl fun K hK => ?_
  obtain ⟨z, hzr, rfl⟩ := tyZ_some hz
  have hrun : (execOp a.eval ⟨some d, .alloc T, ty, pos, aft, none⟩).run F.P w = .ok (.value (.pointer (some ⟨w.heap.size, 0, none⟩))) (w.alloc (.cells z.cells.toList.toArray T)) := by
    simp [execOp, Instr.alloc, newVar, run_newRow, hzr]
  unfold Oper.wp
  rw [hrun]
  refine hK _ _ (h _ _ ⟨_, _, (hR.alloc (hv := undef) hr hσ (o := .box z.cells.toList) ⟨w.heap.size, T, rfl, heap_alloc_new w _⟩).put (blt_lt hn) ?_⟩)
  exact ⟨w.heap.size, by simp, rfl⟩

/-! ### writing -/
/-- vs laid over cs from o on -/
def setAt : List Value → Nat → List Value → List Value
  | cs, _, [] => cs
  | [], _, _ => []
  | c :: cs, o + 1, vs => c :: setAt cs o vs
  | _ :: cs, 0, v :: vs => v :: setAt cs 0 vs

theorem setAt_eq : ∀ (cs : List Value) (o : Nat) (vs : List Value), o + vs.length ≤ cs.length → setAt cs o vs = cs.take o ++ vs ++ cs.drop (o + vs.length)
  | cs, o, [], _ => by simp [setAt]
  | [], o, v :: vs, h => by simp at h
  | c :: cs, o + 1, v :: vs, h => by
    have ih := setAt_eq cs o (v :: vs) (by simp at h ⊢; omega)
    simp only [setAt, ih, List.take_succ_cons, List.cons_append]
    rw [show o + 1 + (v :: vs).length = (o + (v :: vs).length) + 1 by omega, List.drop_succ_cons]
  | c :: cs, 0, v :: vs, h => by
    have ih := setAt_eq cs 0 vs (by simp at h ⊢; omega)
    simp only [setAt, ih]
    simp [Nat.add_comm]

theorem length_setAt (cs : List Value) (o : Nat) (vs : List Value) (h : o + vs.length ≤ cs.length) : (setAt cs o vs).length = cs.length := by
  rw [setAt_eq cs o vs h]
  simp
  omega

theorem run_storeVar_at {P : Program} {t : TypeId} {g : Bool} {n b off : Nat} {T : TypeId} {cur : Array Value} {x : Value} {vs : List Value} (hk : tyK P t = some (g, n)) (hb : w.heap[b]? = some (.cells cur T (0, 0)))
    (hx : x.cells.toList = vs) (hl : vs.length = n) (h1 : vs.all Value.oneCell' = true) (hle : off + n ≤ cur.size) :
    (storeVar t ⟨b, off, none⟩ x).run P w = .ok () (w.setRow b (setAt cur.toList off vs).toArray) := by
  have hst := run_storeCells_at P b off T vs 0 cur w hb (by simp; omega) (fun v hv => by simpa using List.all_eq_true.1 h1 v hv)
  have hsz : x.cells.size = n := by rw [← hl, ← hx]; simp
  rw [setAt_eq _ _ _ (by simp; omega)]
  simp only [Nat.add_zero] at hst
  unfold storeVar
  rw [Sem.run_bind, run_sizeOf hk w]
  simp [hsz, hx, hst]

theorem RepAt.setOwn (h : RepAt F bk hd ρ σ u μ a w) {id b : Nat} {oo o : OO} {cs : Array Value} (hs : gv σ id = some oo) (hb : bk id = some b)
    (hok : ownOk F (w.setRow b cs) (bk id) (hd id) o) : RepAt F bk hd ρ ((id, o) :: σ) u μ a (w.setRow b cs) := by
  obtain ⟨f1, f2, f3⟩ := h.fresh id oo b hs hb
  have ho : ∀ k, k ≠ b → (w.setRow b cs).heap[k]? = w.heap[k]? := fun k hk => setRow_other w b k cs hk
  have hcase : ∀ id' o', gv ((id, o) :: σ) id' = some o' → (id' = id ∧ o' = o) ∨ (id' ≠ id ∧ gv σ id' = some o') := by
    intro id' o' hi
    simp only [gv] at hi
    split at hi
    · rename_i hb
      cases hi
      exact .inl ⟨(Nat.eq_of_beq_eq_true hb).symm, rfl⟩
    · rename_i hb
      exact .inr ⟨fun e => by simp [e] at hb, hi⟩
  have hcase2 : ∀ id' o', gv ((id, o) :: σ) id' = some o' → ∃ o2, gv σ id' = some o2 := fun id' o' hi => by
    rcases hcase id' o' hi with ⟨rfl, rfl⟩ | ⟨_, hi⟩
    · exact ⟨_, hs⟩
    · exact ⟨_, hi⟩
  refine ⟨h.size, h.defers, ?_, ?_, h.uold, ?_, h.slot, ?_, ?_, ?_⟩
  · obtain ⟨a1, a2, a3, a4, a5⟩ := h.frame
    refine ⟨a1, a2, a3, by simpa using a4, fun k hk hD => ?_⟩
    rw [ho k (by omega)]
    exact a5 k hk hD
  · intro k o' hk
    rw [ho k (fun e => by rw [e, f2] at hk; cases hk)]
    exact h.agree k o' hk
  · intro b' o' hbo
    obtain ⟨m1, m2⟩ := h.mem b' o' hbo
    exact ⟨(ho b' (fun e => f3 o' (e ▸ hbo))).trans m1, m2⟩
  · intro id' o' hi
    rcases hcase id' o' hi with ⟨rfl, rfl⟩ | ⟨hne, hi⟩
    · exact hok
    · exact (h.own id' o' hi).grow fun k hk => ho k fun e => hne (h.inj id' id o' oo b hi hs (e ▸ hk) hb)
  · intro id' o' b' hi hb'
    obtain ⟨o2, ho2⟩ := hcase2 id' o' hi
    exact h.fresh id' o2 b' ho2 hb'
  · intro id1 id2 o1 o2 b' h1 h2 hb1 hb2
    obtain ⟨_, h1⟩ := hcase2 id1 o1 h1
    obtain ⟨_, h2⟩ := hcase2 id2 o2 h2
    exact h.inj id1 id2 _ _ b' h1 h2 hb1 hb2

/-- a store into a box of the call's own -/
theorem rl_store_p {ops : Array Oper} {rest : List Oper} {T ty : TypeId} {x y : Operand} {pos : String} {aft : Array Edge} {id off n : Nat} {g : Bool} {cs vs cs' : List Value} {z : Value} (hk : tyK F.P T = some (g, n))
    (hx : opv ρ x = some (.p id off)) (hy : opv ρ y = some (.v z)) (hs : gv σ id = some (.box cs)) (hz : z.cells.toList = vs) (hl : vs.length = n) (h1 : vs.all Value.oneCell' = true) (hle : Nat.ble (off + n) cs.length = true) (hc : setAt cs off vs = cs')
    (h : RL F ops rest ρ ((id, .box cs') :: σ) u μ Q) : RL F ops (⟨none, .store T x y, ty, pos, aft, none⟩ :: rest) ρ σ u μ Q := by
  rintro a w ⟨bk, hd, hR⟩
  refine wpList_plain rfl fun K hK => ?_
  obtain ⟨b, hb, hx'⟩ := hR.opS hx
  obtain ⟨b', T', hb', hh⟩ := hR.own id _ hs
  rw [hb] at hb'; cases hb'
  have hle' : off + n ≤ cs.length := Nat.le_of_ble_eq_true hle
  have hrun : (execOp a.eval ⟨none, .store T x y, ty, pos, aft, none⟩).run F.P w = .ok .skip (w.setRow b cs'.toArray) := by
    have := run_storeVar_at (P := F.P) hk hh hz hl h1 (by simpa using hle')
    simp only [hc] at this
    simp [execOp, hx', hR.op hy, Instr.storeAt, Instr.sureAddr, this]
  unfold Oper.wp
  rw [hrun]
  exact hK _ _ (h _ _ ⟨bk, hd, hR.setOwn hs hb ⟨b, T', hb, setRow_heap w b _ _ T' _ hh⟩⟩)

/-- a store into an element of a row of the call's own -/
theorem rl_store_s {ops : Array Oper} {rest : List Oper} {T ty E : TypeId} {x y : Operand} {pos : String} {aft : Array Edge} {id off n sz len : Nat} {g : Bool} {xs vs xs' : List Value} {z : Value} (hk : tyK F.P T = some (g, n))
    (hx : opv ρ x = some (.p id off)) (hy : opv ρ y = some (.v z)) (hs : gv σ id = some (.row E sz len xs)) (hz : z.cells.toList = vs) (hl : vs.length = n) (h1 : vs.all Value.oneCell' = true) (hle : off + n ≤ xs.length) (hc : setAt xs off vs = xs')
    (h : RL F ops rest ρ ((id, .row E sz len xs') :: σ) u μ Q) : RL F ops (⟨none, .store T x y, ty, pos, aft, none⟩ :: rest) ρ σ u μ Q := by
  rintro a w ⟨bk, hd, hR⟩
  refine wpList_plain rfl fun K hK => ?_
  obtain ⟨b, hb, hx'⟩ := hR.opS hx
  obtain ⟨hown, hbk⟩ := hR.own id _ hs
  rcases hown.2 with ⟨hv, hn⟩ | ⟨b', cap, cur, hv, hg, hh, hnc, hcm, hcs, htake⟩
  · rw [hbk, hv] at hb; cases hb
  have hbb : b' = b := by rw [hbk, hv] at hb; simpa [Value.ownBlock] using hb
  subst hbb
  have hxl : xs.length ≤ cur.size := by rw [← htake]; simp; omega
  have hrun : (execOp a.eval ⟨none, .store T x y, ty, pos, aft, none⟩).run F.P w = .ok .skip (w.setRow b' (setAt cur.toList off vs).toArray) := by
    have := run_storeVar_at (P := F.P) (off := off) hk hh hz hl h1 (by omega)
    simp [execOp, hx', hR.op hy, Instr.storeAt, Instr.sureAddr, this]
  unfold Oper.wp
  rw [hrun]
  refine hK _ _ (h _ _ ⟨bk, hd, hR.setOwn hs hb ⟨⟨?_, .inr ⟨b', cap, _, hv, hg, setRow_heap w b' _ _ E _ hh, hnc, hcm, ?_, ?_⟩⟩, hbk⟩⟩)
  · rw [← hc, length_setAt _ _ _ (by omega)]; exact hown.1
  · simp [length_setAt _ _ _ (show off + vs.length ≤ cur.toList.length by simp; omega), hcs]
  · have hxs := hown.1
    have hcl : cur.toList.length = cap * sz := by simpa using hcs
    have hm : len * sz ≤ cap * sz := Nat.mul_le_mul_right _ hnc
    rw [← hc, setAt_eq cur.toList off vs (by rw [hcl]; omega), setAt_eq xs off vs (by omega), ← htake]
    simp only [List.take_append, List.take_take, List.drop_take, List.length_append, List.length_take, hcl]
    rw [show min (len * sz) off = off by omega, show min off (len * sz) = off by omega, show min off (cap * sz) = off by omega, List.take_of_length_le (l := vs) (by omega)]
end
end Go.Eng
