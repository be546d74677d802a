/- The engine's rules for single operations. -/
import Derived.Test.YthnboadnehbciaaDoorEng
import Derived.IntWalk
namespace Go.Eng
open Go Go.RowKit
set_option linter.unusedSimpArgs false
set_option linter.unusedVariables false

/-- what an operation that only reads may lean on: u, the own blocks of σS -/
def Same (bk : Nat → Option Nat) (hd : Nat → Value) (σS : Own) (u : View) (w w' : World) : Prop :=
  Agree u w' ∧ (∀ id p b, gv σS id = some p → p.2.holds (bk id) (hd id) b → w'.heap[b]? = w.heap[b]?)

def Yld (F : Fx) (σS : Own) (uS : View) (ρ : Env) (σ : Own) (u : View) (o : Oper) (sv : SV) : Prop :=
  ∀ bk hd a w, RepAt F bk hd ρ σ u a w → ∃ x, SVal bk hd sv x ∧ ∀ w', Same bk hd σS uS w w' → (execOp a.eval o).run F.P w' = .ok (.value x) w'

/-- what carrying out one operation does, in whatever state (for the operations that make or write memory, or call) -/
def Does (F : Fx) (σS : Own) (o : Oper) (ρ : Env) (σ : Own) (u : View) (K : Env → Own → View → Prop) : Prop :=
  ∀ bk hd a w Q, RepAt F bk hd ρ σ u a w → ∀ N : Act → World → Prop,
    (∀ bk' hd' ρ' σ' u' a' w', K ρ' σ' u' → RepAt F bk' hd' ρ' σ' u' a' w' → (∀ x, Same bk' hd' σS u' w' x → Same bk hd σS u w x) → N a' w') → o.wp F.P a w N Q

theorem gv_subO_none {σS σ : Own} (h : subO σS σ) {d : Nat} (hd : gv σ d = none) : gv σS d = none := by
  cases h2 : gv σS d with
  | none => rfl
  | some p => rw [gv_subO h d p h2] at hd; cases hd

/-- what was done leaves the blocks of σS alone -/
theorem same_of {bk bk' : Nat → Option Nat} {hd hd' : Nat → Value} {σS : Own} {u u' : View} {w w' x : World} (hu : VLe u u') (hb : ∀ id p, gv σS id = some p → bk' id = bk id ∧ hd' id = hd id)
    (hw : ∀ id p b, gv σS id = some p → p.2.holds (bk id) (hd id) b → w'.heap[b]? = w.heap[b]?) (h : Same bk' hd' σS u' w' x) : Same bk hd σS u w x := by
  refine ⟨fun k o hk => h.1 k o (hu k o hk), fun id p b hi hp => ?_⟩
  obtain ⟨e1, e2⟩ := hb id p hi
  exact (h.2 id p b hi (by rw [e1, e2]; exact hp)).trans (hw id p b hi hp)

/-- an operation that yields a value is no defer statement -/
theorem not_defer {P : Program} {ρ : Operand → Value} {o : Oper} {w w' : World} {x : Value} (h : (execOp ρ o).run P w = .ok (.value x) w') : ∀ c, o.op ≠ .defer c := by
  intro c hc
  unfold execOp at h
  rw [hc] at h
  simp only [Sem.run_bind] at h
  cases hr : (resolve ρ c o.type).run P w with
  | ok d w1 => simp [hr] at h
  | halt e w1 => simp [hr, Result.andThen] at h

theorem wl_skip {P : Program} {r : Option Nat} {n : Nat} {ops : Array Oper} {Q : Exit → Act → World → Prop} {a : Act} {w : World} {rest : List Oper} {o : Oper} (hw : Region.wanted o (yielded ops a.tmps) = false)
    (h : wpListIn (fw r) n P ops Q rest (a.put o.dst undef) w) : wpListIn (fw r) n P ops Q (o :: rest) a w := by
  simp only [wpListIn, hw]
  exact ⟨fun _ _ => trivial, h⟩

section
variable {F : Fx} {ρ : Env} {σ : Own} {u : View} {Q : Post} {bk : Nat → Option Nat} {hd : Nat → Value} {a : Act} {w : World}

theorem RepAt.same (h : RepAt F bk hd ρ σ u a w) : Same bk hd σ u w w := ⟨h.agree, fun _ _ _ _ _ => rfl⟩

theorem RepAt.put (h : RepAt F bk hd ρ σ u a w) {d : Nat} {sv : SV} {x : Value} (hd' : d < F.n) (hs : SVal bk hd sv x) : RepAt F bk hd ((d, sv) :: ρ) σ u (a.put (some d) x) w := by
  refine ⟨by simp [Act.put, h.size], h.defers, h.frame, h.agree, h.uold, ?_, h.own, h.fresh, h.inj⟩
  intro k sv' hk
  simp only [gv] at hk
  split at hk
  · rename_i hb
    have : d = k := Nat.eq_of_beq_eq_true hb
    subst this
    cases hk
    exact ⟨x, by simp [Act.put, h.size, hd'], hs⟩
  · rename_i hb
    have hne : d ≠ k := fun e => by simp [e] at hb
    obtain ⟨y, hy, hs'⟩ := h.slot k sv' hk
    exact ⟨y, by simp [Act.put, Array.getElem?_setIfInBounds_ne hne, hy], hs'⟩

/-- A slot that is written and that nobody asks for. -/
theorem RepAt.putNone (h : RepAt F bk hd ρ σ u a w) {x : Value} : RepAt F bk hd ρ σ u (a.put none x) w := h

theorem blt_lt {d n : Nat} (h : Nat.blt d n = true) : d < n := Nat.lt_of_succ_le (by simpa [Nat.blt, Nat.ble_eq] using h)

/-- an operation that only reads, in the order of the text -/
theorem rl_y {ops : Array Oper} {rest : List Oper} {d : Nat} {op : Op} {ty : TypeId} {pos : String} {aft : Array Edge} {sv : SV}
    (hy : Yld F σ u ρ σ u ⟨some d, op, ty, pos, aft, none⟩ sv) (hn : Nat.blt d F.n = true) (h : RL F ops rest ((d, sv) :: ρ) σ u Q) : RL F ops (⟨some d, op, ty, pos, aft, none⟩ :: rest) ρ σ u Q := by
  rintro a w ⟨bk, hd, hR⟩
  obtain ⟨x, hs, hrun⟩ := hy bk hd a w hR
  refine wpListIn_plain rfl fun K hK => ?_
  have hrun := hrun w hR.same
  refine owp_of_run (not_defer hrun) hrun ?_
  exact hK _ _ (h _ _ ⟨bk, hd, hR.put (blt_lt hn) hs⟩)

def isDefer : Op → Bool
  | .defer _ => true
  | _ => false
/-- an operation that makes or writes memory, or calls, in the order of the text -/
theorem rl_do {ops : Array Oper} {rest : List Oper} {o : Oper} (hg : o.guard = none) (hd : isDefer o.op = false) (h : Does F [] o ρ σ u fun ρ' σ' u' => RL F ops rest ρ' σ' u' Q) : RL F ops (o :: rest) ρ σ u Q := by
  rintro a w ⟨bk, hd', hR⟩
  refine wpListIn_plain hg fun K hK => ?_
  have := h bk hd' a w (lift F Q) hR K (fun bk' hd' ρ' σ' u' a' w' hk hR' _ => hK _ _ (hk _ _ ⟨bk', hd', hR'⟩))
  exact owp_of_run (fun c hc => by rw [hc] at hd; cases hd) rfl this

/-- the guard says yes -/
theorem rl_on {ops : Array Oper} {rest : List Oper} {d : Option Nat} {op : Op} {ty : TypeId} {pos : String} {aft : Array Edge} {j : Nat} {t : Nat} {b : Bool}
    (hj : (ops[j]?).bind (·.dst) = some t) (hg : opv ρ (.tmp t) = some (.v (.bool b))) (h : RL F ops (⟨d, op, ty, pos, aft, none⟩ :: rest) ρ σ u Q) : RL F ops (⟨d, op, ty, pos, aft, some (j, b)⟩ :: rest) ρ σ u Q := by
  rintro a w hR
  have h' := h a w hR
  obtain ⟨bk, hd, hR⟩ := hR
  have hy : yielded ops a.tmps j = some b := by
    obtain ⟨x, hx, hs⟩ := hR.slot t _ hg
    cases hs
    simp [yielded, hj, hx]
  unfold wpListIn at h' ⊢
  rw [if_pos (by simp [Region.wanted])] at h'
  rw [if_pos (by simp [Region.wanted, hy])]
  exact h'

/-- the guard says no -/
theorem rl_off {ops : Array Oper} {rest : List Oper} {d : Nat} {op : Op} {ty : TypeId} {pos : String} {aft : Array Edge} {j : Nat} {t : Nat} {b b' : Bool}
    (hj : (ops[j]?).bind (·.dst) = some t) (hg : opv ρ (.tmp t) = some (.v (.bool b))) (hb : (b == b') = false) (hn : Nat.blt d F.n = true) (h : RL F ops rest ((d, .v undef) :: ρ) σ u Q) : RL F ops (⟨some d, op, ty, pos, aft, some (j, b')⟩ :: rest) ρ σ u Q := by
  rintro a w ⟨bk, hd, hR⟩
  have hy : yielded ops a.tmps j = some b := by
    obtain ⟨x, hx, hs⟩ := hR.slot t _ hg
    cases hs
    simp [yielded, hj, hx]
  refine wl_skip (by simpa [Region.wanted, hy] using hb) (h _ _ ⟨bk, hd, hR.put (blt_lt hn) rfl⟩)

/-! ### operations that only read -/
theorem y_move {σS : Own} {uS : View} {o : Oper} {x : Operand} {sv : SV} (ho : o.op = .move x) (hx : opv ρ x = some sv) : Yld F σS uS ρ σ u o sv :=
  fun _ _ a _ hR => ⟨a.eval x, hR.opS hx, fun w' _ => by simp [execOp, ho]⟩
theorem y_assign {σS : Own} {uS : View} {o : Oper} {x : Operand} {sv : SV} (ho : o.op = .assign x) (hx : opv ρ x = some sv) : Yld F σS uS ρ σ u o sv :=
  fun _ _ a _ hR => ⟨a.eval x, hR.opS hx, fun w' _ => by simp [execOp, ho]⟩

theorem y_pick {σS : Own} {uS : View} {o : Oper} {c x y : Operand} {b : Bool} {z : Value} (ho : o.op = .pick c x y) (hc : opv ρ c = some (.v (.bool b)))
    (ht : b = true → opv ρ x = some (.v z)) (hf : b = false → opv ρ y = some (.v z)) : Yld F σS uS ρ σ u o (.v z) := by
  intro bk hd a w hR
  refine ⟨z, rfl, fun w' _ => ?_⟩
  cases b with
  | true => simp [execOp, ho, hR.op hc, hR.op (ht rfl), asBool]
  | false => simp [execOp, ho, hR.op hc, hR.op (hf rfl), asBool]
/-- 'a && b', 'a || b': the pick behind the guard, the outcome of the guard known or not -/
theorem y_pick_t {σS : Own} {uS : View} {o : Oper} {c x y : Operand} {sv : SV} (ho : o.op = .pick c x y) (hc : opv ρ c = some (.v (.bool true))) (ht : opv ρ x = some sv) : Yld F σS uS ρ σ u o sv :=
  fun _ _ a _ hR => ⟨a.eval x, hR.opS ht, fun w' _ => by simp [execOp, ho, hR.op hc, asBool]⟩
theorem y_pick_f {σS : Own} {uS : View} {o : Oper} {c x y : Operand} {sv : SV} (ho : o.op = .pick c x y) (hc : opv ρ c = some (.v (.bool false))) (ht : opv ρ y = some sv) : Yld F σS uS ρ σ u o sv :=
  fun _ _ a _ hR => ⟨a.eval y, hR.opS ht, fun w' _ => by simp [execOp, ho, hR.op hc, asBool]⟩

theorem wrap64_id {e : Int} (h : -9223372036854775808 ≤ e ∧ e ≤ 9223372036854775807) : IntKind.i64.wrap e = e := by
  have := IntWalk.i64_in e (by omega)
  exact this

theorem y_int {σS : Own} {uS : View} {o : Oper} {op : BinOp} {t t' : TypeId} {x y : Operand} {k : IntKind} {p q : Int} {z : Value} (ho : o.op = .binOp op t x y t')
    (hx : opv ρ x = some (.v (.int k p))) (hy : opv ρ y = some (.v (.int k q))) (hz : ∀ (P : Program) (w : World), (binOp op t (.int k p) (.int k q)).run P w = .ok z w) : Yld F σS uS ρ σ u o (.v z) := by
  intro bk hd a w hR
  refine ⟨z, rfl, fun w' _ => ?_⟩
  have hgd : (eqGuard op t x y (.int k p) (.int k q)).run F.P w' = .ok () w' := by
    unfold eqGuard
    split <;> simp
  simp [execOp, ho, hR.op hx, hR.op hy, hz, hgd]

section ints
variable {σS : Own} {uS : View} {o : Oper} {t t' : TypeId} {x y : Operand} {k : IntKind} {p q r : Int}
theorem y_add (ho : o.op = .binOp .add t x y t') (hx : opv ρ x = some (.v (.int k p))) (hy : opv ρ y = some (.v (.int k q))) (hz : k.wrap (p + q) = r) : Yld F σS uS ρ σ u o (.v (.int k r)) :=
  y_int ho hx hy fun P w => by simp [binOp, Op.intArith, hz]
theorem y_sub (ho : o.op = .binOp .sub t x y t') (hx : opv ρ x = some (.v (.int k p))) (hy : opv ρ y = some (.v (.int k q))) (hz : k.wrap (p - q) = r) : Yld F σS uS ρ σ u o (.v (.int k r)) :=
  y_int ho hx hy fun P w => by simp [binOp, Op.intArith, hz]
theorem y_mul (ho : o.op = .binOp .mul t x y t') (hx : opv ρ x = some (.v (.int k p))) (hy : opv ρ y = some (.v (.int k q))) (hz : k.wrap (p * q) = r) : Yld F σS uS ρ σ u o (.v (.int k r)) :=
  y_int ho hx hy fun P w => by simp [binOp, Op.intArith, hz]
theorem y_quo (ho : o.op = .binOp .quo t x y t') (hx : opv ρ x = some (.v (.int k p))) (hy : opv ρ y = some (.v (.int k q))) (hq : q ≠ 0) (hz : k.wrap (p.tdiv q) = r) : Yld F σS uS ρ σ u o (.v (.int k r)) :=
  y_int ho hx hy fun P w => by simp [binOp, Op.intDiv, hz, hq]
theorem y_rem (ho : o.op = .binOp .rem t x y t') (hx : opv ρ x = some (.v (.int k p))) (hy : opv ρ y = some (.v (.int k q))) (hq : q ≠ 0) (hz : p.tmod q = r) : Yld F σS uS ρ σ u o (.v (.int k r)) :=
  y_int ho hx hy fun P w => by simp [binOp, Op.intDiv, hz, hq]
theorem y_and (ho : o.op = .binOp .and t x y t') (hx : opv ρ x = some (.v (.int k p))) (hy : opv ρ y = some (.v (.int k q))) (hz : k.wrap (BitVec.ofInt k.bits p &&& BitVec.ofInt k.bits q).toNat = r) : Yld F σS uS ρ σ u o (.v (.int k r)) :=
  y_int ho hx hy fun P w => by simp [binOp, Op.intBits, ← hz]
theorem y_lss (ho : o.op = .binOp .lss t x y t') (hx : opv ρ x = some (.v (.int k p))) (hy : opv ρ y = some (.v (.int k q))) : Yld F σS uS ρ σ u o (.v (.bool (decide (p < q)))) :=
  y_int ho hx hy fun P w => by simp [binOp, Op.intCmp]
theorem y_leq (ho : o.op = .binOp .leq t x y t') (hx : opv ρ x = some (.v (.int k p))) (hy : opv ρ y = some (.v (.int k q))) : Yld F σS uS ρ σ u o (.v (.bool (decide (p ≤ q)))) :=
  y_int ho hx hy fun P w => by simp [binOp, Op.intCmp]
theorem y_gtr (ho : o.op = .binOp .gtr t x y t') (hx : opv ρ x = some (.v (.int k p))) (hy : opv ρ y = some (.v (.int k q))) : Yld F σS uS ρ σ u o (.v (.bool (decide (q < p)))) :=
  y_int ho hx hy fun P w => by simp [binOp, Op.intCmp]
theorem y_geq (ho : o.op = .binOp .geq t x y t') (hx : opv ρ x = some (.v (.int k p))) (hy : opv ρ y = some (.v (.int k q))) : Yld F σS uS ρ σ u o (.v (.bool (decide (q ≤ p)))) :=
  y_int ho hx hy fun P w => by simp [binOp, Op.intCmp]
theorem y_eql (ho : o.op = .binOp .eql t x y t') (hx : opv ρ x = some (.v (.int k p))) (hy : opv ρ y = some (.v (.int k q))) : Yld F σS uS ρ σ u o (.v (.bool (decide (p = q)))) :=
  y_int ho hx hy fun P w => by simp [binOp, Op.intCmp]; rfl
theorem y_neq (ho : o.op = .binOp .neq t x y t') (hx : opv ρ x = some (.v (.int k p))) (hy : opv ρ y = some (.v (.int k q))) : Yld F σS uS ρ σ u o (.v (.bool (decide (p ≠ q)))) :=
  y_int ho hx hy fun P w => by simp [binOp, Op.intCmp]; rfl
/-- division and remainder of what is not negative -/
theorem y_quoE (ho : o.op = .binOp .quo t x y t') (hx : opv ρ x = some (.v (.int .i64 p))) (hy : opv ρ y = some (.v (.int .i64 q))) (hq : 0 < q) (hp : 0 ≤ p) (hp2 : p ≤ 9223372036854775807) : Yld F σS uS ρ σ u o (.v (.int .i64 (p / q))) := by
  refine y_quo ho hx hy (by omega) ?_
  rw [Int.tdiv_eq_ediv_of_nonneg hp]
  have h1 := Int.ediv_nonneg hp (Int.le_of_lt hq)
  have h2 := Int.ediv_le_self q hp
  exact wrap64_id (by omega)
theorem y_remE {k : IntKind} (ho : o.op = .binOp .rem t x y t') (hx : opv ρ x = some (.v (.int k p))) (hy : opv ρ y = some (.v (.int k q))) (hq : 0 < q) (hp : 0 ≤ p) : Yld F σS uS ρ σ u o (.v (.int k (p % q))) :=
  y_rem ho hx hy (by omega) (Int.tmod_eq_emod_of_nonneg hp)
theorem y_neq_refl (ho : o.op = .binOp .neq t x y t') (hx : opv ρ x = some (.v (.int k p))) (hy : opv ρ y = some (.v (.int k p))) : Yld F σS uS ρ σ u o (.v (.bool false)) :=
  y_int ho hx hy fun P w => by simp [binOp, Op.intCmp]
theorem y_eql_refl (ho : o.op = .binOp .eql t x y t') (hx : opv ρ x = some (.v (.int k p))) (hy : opv ρ y = some (.v (.int k p))) : Yld F σS uS ρ σ u o (.v (.bool true)) :=
  y_int ho hx hy fun P w => by simp [binOp, Op.intCmp]
theorem and7 (p : Int) : IntKind.i64.wrap (BitVec.ofInt IntKind.i64.bits p &&& BitVec.ofInt IntKind.i64.bits 7).toNat = p % 8 := by
  have h1 : (BitVec.ofInt IntKind.i64.bits p &&& BitVec.ofInt IntKind.i64.bits 7).toNat = (p % 8).toNat := by
    have hb : IntKind.i64.bits = 64 := rfl
    rw [hb, BitVec.toNat_and, BitVec.toNat_ofInt, BitVec.toNat_ofInt]
    have h7 : ((7 : Int) % ((2 ^ 64 : Nat) : Int)).toNat = 2 ^ 3 - 1 := by decide
    rw [h7, Nat.and_two_pow_sub_one_eq_mod]
    omega
  rw [h1]
  have : ((p % 8).toNat : Int) = p % 8 := by omega
  rw [this]
  exact wrap64_id (by omega)
theorem y_and7 (ho : o.op = .binOp .and t x y t') (hx : opv ρ x = some (.v (.int .i64 p))) (hy : opv ρ y = some (.v (.int .i64 7))) : Yld F σS uS ρ σ u o (.v (.int .i64 (p % 8))) :=
  y_and ho hx hy (and7 p)
end ints

theorem y_not {σS : Own} {uS : View} {o : Oper} {t : TypeId} {x : Operand} {b : Bool} (ho : o.op = .unOp .not t x) (hx : opv ρ x = some (.v (.bool b))) : Yld F σS uS ρ σ u o (.v (.bool !b)) :=
  fun bk hd a w hR => ⟨_, rfl, fun w' _ => by simp [execOp, ho, hR.op hx, Op.unary]⟩

def nth {α : Type} : List α → Nat → Option α
  | [], _ => none
  | x :: _, 0 => some x
  | _ :: r, i + 1 => nth r i
theorem nth_eq {α : Type} : ∀ (l : List α) (i : Nat), nth l i = l[i]?
  | [], _ => by simp [nth]
  | _ :: _, 0 => by simp [nth]
  | _ :: r, i + 1 => by simp [nth, nth_eq r i]

theorem y_extract {σS : Own} {uS : View} {o : Oper} {x : Operand} {i : Nat} {vs : List Value} {z : Value} (ho : o.op = .extract x i) (hx : opv ρ x = some (.v (.tuple vs.toArray))) (hz : nth vs i = some z) : Yld F σS uS ρ σ u o (.v z) :=
  fun bk hd a w hR => ⟨_, rfl, fun w' _ => by
    rw [nth_eq] at hz
    simp [execOp, ho, hR.op hx, Instr.extract, hz]⟩

/-- anything that runs to a value in whatever world -/
theorem y_run {σS : Own} {uS : View} {o : Oper} {z : Value} (h : ∀ a : Act, (∀ x y, opv ρ x = some (.v y) → a.eval x = y) → ∀ w, (execOp a.eval o).run F.P w = .ok (.value z) w) : Yld F σS uS ρ σ u o (.v z) :=
  fun _ _ a _ hR => ⟨z, rfl, fun w' _ => h a (fun _ _ hx => hR.op hx) w'⟩
end
end Go.Eng
