/- The engine: 'for .. range' over a string. -/
import Derived.Test.YtchmiljeidkkpaaEngHand
import Derived.Laws.RangeAny
namespace Go.Eng
open Go Go.RowKit

/-- the code point at pos, and how many bytes it takes -/
def dec (l : List UInt8) (pos : Nat) : Int × Nat := ((Utf8.decode ⟨l.toArray⟩ pos).1, (Utf8.decode ⟨l.toArray⟩ pos).2)
/-- what one step of the range yields, and where it then stands -/
def nxV (l : List UInt8) (pos : Nat) : Value := if pos < l.length then .tuple #[.bool true, .int .i64 pos, .int .i32 (dec l pos).1] else .tuple #[.bool false]
def nxP (l : List UInt8) (pos : Nat) : Nat := if pos < l.length then pos + (dec l pos).2 else pos

section
variable {F : Fx} {ρ : Env} {σ : Own} {u : View} {μ : Mem} {Q : Post} {bk : Nat → Option Nat} {hd : Nat → Value} {a : Act} {w : World} {σS : Own} {uS : View} {μS : Mem} {o : Oper}

theorem rl_range {ops : Array Oper} {rest : List Oper} {d : Nat} {T ty : TypeId} {y : Operand} {pos : String} {aft : Array Edge} {l : List UInt8} (ht : F.P.underlying T = some .string) (hy : opv ρ y = some (.v (str l)))
    (hr : noref d ρ = true) (hσ : gv σ d = none) (hn : Nat.blt d F.n = true) (h : RL F ops rest ((d, .p d 0) :: ρ) ((d, .it l 0) :: σ) u μ Q) : RL F ops (⟨some d, .range T y, ty, pos, aft, none⟩ :: rest) ρ σ u μ Q := by
  rintro a w ⟨bk, hd, hR⟩
  refine wpList_plain rfl fun K hK => ?_
  have hx : a.eval y = .string ⟨l.toArray⟩ := hR.op hy
  have hrun : (execOp a.eval ⟨some d, .range T y, ty, pos, aft, none⟩).run F.P w = .ok (.value (.pointer (some ⟨w.heap.size, 0, none⟩))) (w.alloc (.stringIter ⟨l.toArray⟩ 0)) := by
    have := run_range_string (P := F.P) w T ⟨l.toArray⟩ ht
    simp only [World.iter] at this
    simp [execOp, hx, this]
  unfold Oper.wp
  rw [hrun]
  refine hK _ _ (h _ _ ⟨_, _, (hR.alloc (hv := undef) hr hσ (o := .it l 0) ⟨w.heap.size, rfl, heap_alloc_new w _⟩).put (blt_lt hn) ?_⟩)
  exact ⟨w.heap.size, by simp, rfl⟩

theorem RepAt.setObj (h : RepAt F bk hd ρ σ u μ a w) {id b : Nat} {oo o : OO} {ob : Obj} (hs : gv σ id = some oo) (hb : bk id = some b)
    (hok : ownOk F { w with heap := w.heap.setIfInBounds b ob } (bk id) (hd id) o) : RepAt F bk hd ρ ((id, o) :: σ) u μ a { w with heap := w.heap.setIfInBounds b ob } := by
  obtain ⟨f1, f2, f3⟩ := h.fresh id oo b hs hb
  have ho : ∀ k, k ≠ b → (w.heap.setIfInBounds b ob)[k]? = w.heap[k]? := fun k hk => Array.getElem?_setIfInBounds_ne (Ne.symm hk)
  have hcase : ∀ id' o', gv ((id, o) :: σ) id' = some o' → (id' = id ∧ o' = o) ∨ (id' ≠ id ∧ gv σ id' = some o') := by
    intro id' o' hi
    simp only [gv] at hi
    split at hi
    · rename_i hb
      cases hi
      exact .inl ⟨(Nat.eq_of_beq_eq_true hb).symm, rfl⟩
    · rename_i hb
      exact .inr ⟨fun e => by simp [e] at hb, hi⟩
  have hcase2 : ∀ id' o', gv ((id, o) :: σ) id' = some o' → ∃ o2, gv σ id' = some o2 := fun id' o' hi => by
    rcases hcase id' o' hi with ⟨rfl, rfl⟩ | ⟨_, hi⟩
    · exact ⟨_, hs⟩
    · exact ⟨_, hi⟩
  refine ⟨h.size, h.defers, ?_, ?_, h.uold, ?_, h.slot, ?_, ?_, ?_⟩
  · obtain ⟨a1, a2, a3, a4, a5⟩ := h.frame
    refine ⟨a1, a2, a3, by simpa using a4, fun k hk hD => ?_⟩
    exact (ho k (by omega)).trans (a5 k hk hD)
  · intro k o' hk
    exact (ho k (fun e => by rw [e, f2] at hk; cases hk)).trans (h.agree k o' hk)
  · intro b' o' hbo
    obtain ⟨m1, m2⟩ := h.mem b' o' hbo
    exact ⟨(ho b' (fun e => f3 o' (e ▸ hbo))).trans m1, m2⟩
  · intro id' o' hi
    rcases hcase id' o' hi with ⟨rfl, rfl⟩ | ⟨hne, hi⟩
    · exact hok
    · exact (h.own id' o' hi).grow fun k hk => ho k fun e => hne (h.inj id' id o' oo b hi hs (e ▸ hk) hb)
  · intro id' o' b' hi hb'
    obtain ⟨o2, ho2⟩ := hcase2 id' o' hi
    exact h.fresh id' o2 b' ho2 hb'
  · intro id1 id2 o1 o2 b' h1 h2 hb1 hb2
    obtain ⟨_, h1⟩ := hcase2 id1 o1 h1
    obtain ⟨_, h2⟩ := hcase2 id2 o2 h2
    exact h.inj id1 id2 _ _ b' h1 h2 hb1 hb2

theorem rl_next {ops : Array Oper} {rest : List Oper} {d : Nat} {ty : TypeId} {x : Operand} {pos : String} {aft : Array Edge} {id p : Nat} {l : List UInt8} (hx : opv ρ x = some (.p id 0)) (hs : gv σ id = some (.it l p)) (hn : Nat.blt d F.n = true)
    (h : RL F ops rest ((d, .v (nxV l p)) :: ρ) ((id, .it l (nxP l p)) :: σ) u μ Q) : RL F ops (⟨some d, .next x true, ty, pos, aft, none⟩ :: rest) ρ σ u μ Q := by
  rintro a w ⟨bk, hd, hR⟩
  refine wpList_plain rfl fun K hK => ?_
  obtain ⟨b, hb, hx'⟩ := hR.opS hx
  obtain ⟨b', hb', hh⟩ := hR.own id _ hs
  rw [hb] at hb'; cases hb'
  have hlt : b < w.heap.size := (Array.getElem?_eq_some_iff.1 hh).1
  have hsz : (⟨l.toArray⟩ : ByteArray).size = l.length := rfl
  have hset : ∀ ob : Obj, ({ w with heap := w.heap.setIfInBounds b ob } : World).heap[b]? = some ob := fun ob => by simp [hlt]
  by_cases hp : p < l.length
  · have hrun : (execOp a.eval ⟨some d, .next x true, ty, pos, aft, none⟩).run F.P w = .ok (.value (nxV l p)) { w with heap := w.heap.setIfInBounds b (.stringIter ⟨l.toArray⟩ (nxP l p)) } := by
      simp only [execOp, hx', Instr.next, getObj, setObj, Sem.run_bind, Sem.run, hh, Result.andThen, hsz, hp, if_true]
      simp [goInt, nxV, nxP, hp, dec]
    unfold Oper.wp
    rw [hrun]
    exact hK _ _ (h _ _ ⟨bk, hd, (hR.setObj hs hb (o := .it l (nxP l p)) ⟨b, hb, hset _⟩).put (blt_lt hn) rfl⟩)
  · have hrun : (execOp a.eval ⟨some d, .next x true, ty, pos, aft, none⟩).run F.P w = .ok (.value (nxV l p)) w := by
      simp only [execOp, hx', Instr.next, getObj, Sem.run_bind, Sem.run, hh, Result.andThen, hsz, hp, if_false]
      simp [nxV, hp]
    unfold Oper.wp
    rw [hrun]
    have he : nxP l p = p := by simp [nxP, hp]
    have hw : w = { w with heap := w.heap.setIfInBounds b (.stringIter ⟨l.toArray⟩ (nxP l p)) } := by
      rw [he]
      have : w.heap.setIfInBounds b (.stringIter ⟨l.toArray⟩ p) = w.heap := by
        apply Array.ext_getElem?
        intro i
        rw [Array.getElem?_setIfInBounds]
        split
        · rename_i e; subst e; exact hh.symm
        · rfl
      rw [this]
    have := (hR.setObj hs hb (o := .it l (nxP l p)) (ob := .stringIter ⟨l.toArray⟩ (nxP l p)) ⟨b, hb, hset _⟩).put (d := d) (x := nxV l p) (sv := .v (nxV l p)) (blt_lt hn) rfl
    rw [← hw] at this
    exact hK _ _ (h _ _ ⟨bk, hd, this⟩)

/-- an integer into another kind of integer -/
theorem y_conv {s d : TypeId} {x : Operand} {k0 k k' : IntKind} {n r : Int} (ho : o.op = .convert s d x) (hs : F.P.underlying s = some (.int k0)) (hd' : F.P.underlying d = some (.int k')) (hx : opv ρ x = some (.v (.int k n))) (hz : k'.wrap n = r) : Yld F σS uS μS ρ σ u μ o (.v (.int k' r)) := by
  intro bk hd a w hR
  refine ⟨_, rfl, fun w' _ => ?_⟩
  simp [execOp, ho, hR.op hx, convert, run_underlying hs, run_underlying hd', Conv.intToInt, hz]

theorem y_nx0 {x : Operand} {l : List UInt8} {p : Nat} (ho : o.op = .extract x 0) (hx : opv ρ x = some (.v (nxV l p))) : Yld F σS uS μS ρ σ u μ o (.v (.bool (decide (p < l.length)))) := by
  intro bk hd a w hR
  refine ⟨_, rfl, fun w' _ => ?_⟩
  by_cases hp : p < l.length
  · simp [execOp, ho, hR.op hx, nxV, hp, Instr.extract]
  · simp [execOp, ho, hR.op hx, nxV, hp, Instr.extract]
theorem y_nx1 {x : Operand} {l : List UInt8} {p : Nat} (ho : o.op = .extract x 1) (hx : opv ρ x = some (.v (nxV l p))) (hp : p < l.length) : Yld F σS uS μS ρ σ u μ o (.v (.int .i64 p)) := by
  intro bk hd a w hR
  refine ⟨_, rfl, fun w' _ => ?_⟩
  simp [execOp, ho, hR.op hx, nxV, hp, Instr.extract]
theorem y_nx2 {x : Operand} {l : List UInt8} {p : Nat} (ho : o.op = .extract x 2) (hx : opv ρ x = some (.v (nxV l p))) (hp : p < l.length) : Yld F σS uS μS ρ σ u μ o (.v (.int .i32 (dec l p).1)) := by
  intro bk hd a w hR
  refine ⟨_, rfl, fun w' _ => ?_⟩
  simp [execOp, ho, hR.op hx, nxV, hp, Instr.extract]
end
end Go.Eng
