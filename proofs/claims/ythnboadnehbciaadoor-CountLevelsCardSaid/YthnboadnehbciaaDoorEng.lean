/- An engine for walks: the frame as a short list of live slots, blocks of the call's own kept out of sight, blocks that nobody writes any more as a heap of their own. Nothing here names a program. -/
import Derived.WalkKit
import Derived.WalkSpells
import Derived.WalkLawsBesides
import Derived.OrdersHeld
import Derived.KernelRfl
import Derived.TacticsIn
namespace Go.Eng
open Go Go.RowKit
set_option linter.unusedSimpArgs false
set_option linter.unusedVariables false

/-- What a slot holds: a value; a pointer into block 'id' of the call's own; a slice over a row of the call's own; a pointer to element i, cell off, of the slice value x whose elements have sz cells; a map of the call's own; whatever. -/
inductive SV where
  | v (x : Value)
  | p (id off : Nat)
  | s (id : Nat)
  | e (x : Value) (sz i off : Nat)
  | m (id : Nat)
  | q

/-- What a block of the call's own holds: cells; a row that a slice lies over; an iterator; a slice in a box, with its row; one cell, whatever; a map; a row whose slice value is known; what others write (H: its blocks; I: what is known of them); cells of a type that is known. -/
inductive OO where
  | box (cs : List Value)
  | row (T : TypeId) (sz n : Nat) (xs : List Value)
  | it (l : List UInt8) (pos : Nat)
  | rb (T : TypeId) (sz n : Nat) (xs : List Value)
  | wild
  | mp (kvs : List (Value × Value))
  | rwv (v : Value) (T : TypeId) (sz n : Nat) (xs : List Value)
  | fg (H : Nat → Prop) (I : World → Prop)
  | bt (T : TypeId) (cs : List Value)

/-- with its block's number, where that is known -/
abbrev PO := Option Nat × OO
abbrev Env := List (Nat × SV)
abbrev Own := List (Nat × PO)
abbrev View := Nat → Option Obj

def gv {α : Type} : List (Nat × α) → Nat → Option α
  | [], _ => none
  | (k, x) :: r, i => match Nat.beq k i with
    | true => some x
    | false => gv r i

def opv (ρ : Env) : Operand → Option SV
  | .tmp t => gv ρ t
  | .const x => some (.v x)
  | .global g => some (.v (.pointer (some ⟨g, 0, none⟩)))
  | .func f => some (.v (.func (.func f) #[] #[]))

def Frame0 (w0 : World) (D : Nat → Prop) (w : World) : Prop :=
  w.os = w0.os ∧ w.tape = w0.tape ∧ w.output = w0.output ∧ w0.heap.size ≤ w.heap.size ∧ ∀ k, k < w0.heap.size → ¬ D k → w.heap[k]? = w0.heap[k]?
/-- nothing old may be written -/
def noD : Nat → Prop := fun _ => False

theorem Frame0.refl (w : World) (D : Nat → Prop) : Frame0 w D w := ⟨rfl, rfl, rfl, Nat.le_refl _, fun _ _ _ => rfl⟩

def Agree (u : View) (w : World) : Prop := ∀ k o, u k = some o → w.heap[k]? = some o

theorem Agree.lt {u : View} {w : World} (h : Agree u w) {k : Nat} {o : Obj} (hk : u k = some o) : k < w.heap.size :=
  (Array.getElem?_eq_some_iff.1 (h k o hk)).1

/-- u' knows all that u knows. -/
def VLe (u u' : View) : Prop := ∀ k o, u k = some o → u' k = some o
theorem VLe.refl (u : View) : VLe u u := fun _ _ h => h
theorem VLe.trans {a b c : View} (h : VLe a b) (k : VLe b c) : VLe a c := fun i o x => k i o (h i o x)

/-- what is fixed for one call: the program, how many slots, the world at the start, which old blocks may be written, what nobody writes, deferred calls, whether the code is a round's of a range over a function -/
structure Fx where
  P : Program
  n : Nat
  w0 : World
  D : Nat → Prop
  u0 : View
  df : List Deferred
  r : Option Nat

/-- does the block b belong to what lies at (bo, hv)? -/
def OO.holds : OO → Option Nat → Value → Nat → Prop
  | .rb _ _ _ _, bo, hv, b => bo = some b ∨ hv.ownBlock = some b
  | .fg H _, _, _, b => H b
  | _, bo, _, b => bo = some b

def ownO (w : World) (bo : Option Nat) (hv : Value) : OO → Prop
  | .box cs => ∃ b T, bo = some b ∧ w.heap[b]? = some (.cells cs.toArray T (0, 0))
  | .row T sz n xs => w.ownsRow 0 T sz hv n xs ∧ bo = hv.ownBlock
  | .it l pos => ∃ b, bo = some b ∧ w.heap[b]? = some (.stringIter ⟨l.toArray⟩ pos)
  | .rb T sz n xs => w.ownsRow 0 T sz hv n xs ∧ ∃ b Tb, bo = some b ∧ w.heap[b]? = some (.cells #[hv] Tb (0, 0)) ∧ hv.ownBlock ≠ some b
  | .wild => ∃ b T x, bo = some b ∧ w.heap[b]? = some (.cells #[x] T (0, 0))
  | .mp kvs => ∃ b es c, bo = some b ∧ w.heap[b]? = some (.map es c) ∧ es.toList.map (fun e => (e.key, e.val)) = kvs
  | .rwv v T sz n xs => hv = v ∧ w.ownsRow 0 T sz v n xs ∧ bo = v.ownBlock
  | .fg H I => (∀ w' : World, (∀ k, H k → w'.heap[k]? = w.heap[k]?) → I w') ∧ ∀ k, H k → k < w.heap.size
  | .bt T cs => ∃ b, bo = some b ∧ w.heap[b]? = some (.cells cs.toArray T (0, 0))

def ownOk (w : World) (bo : Option Nat) (hv : Value) (p : PO) : Prop := ownO w bo hv p.2 ∧ ∀ b, p.1 = some b → bo = some b

/-- x is what sv tells of -/
def SVal (bk : Nat → Option Nat) (hd : Nat → Value) : SV → Value → Prop
  | .v y, x => x = y
  | .p id off, x => ∃ b, bk id = some b ∧ x = .pointer (some ⟨b, off, none⟩)
  | .s id, x => x = hd id
  | .e y sz i off, x => ∃ b o n c, y = .slice (some ⟨b, o, none⟩) n c ∧ x = .pointer (some ⟨b, o + i * sz + off, none⟩)
  | .m id, x => ∃ b, bk id = some b ∧ x = .map (some b)
  | .q, _ => True

structure RepAt (F : Fx) (bk : Nat → Option Nat) (hd : Nat → Value) (ρ : Env) (σ : Own) (u : View) (a : Act) (w : World) : Prop where
  size : a.tmps.size = F.n
  defers : a.defers = F.df
  frame : Frame0 F.w0 F.D w
  agree : Agree u w
  uold : ∀ k, k < F.w0.heap.size → ¬ F.D k → u k = F.u0 k
  slot : ∀ k sv, gv ρ k = some sv → ∃ x, a.tmps[k]? = some x ∧ SVal bk hd sv x
  own : ∀ id p, gv σ id = some p → ownOk w (bk id) (hd id) p
  fresh : ∀ id p b, gv σ id = some p → p.2.holds (bk id) (hd id) b → (F.D b ∨ F.w0.heap.size ≤ b) ∧ u b = none
  inj : ∀ id id' p p' b, gv σ id = some p → gv σ id' = some p' → p.2.holds (bk id) (hd id) b → p'.2.holds (bk id') (hd id') b → id = id'

def Rep (F : Fx) (ρ : Env) (σ : Own) (u : View) (a : Act) (w : World) : Prop := ∃ bk hd, RepAt F bk hd ρ σ u a w

abbrev Post := Exit → Env → Own → View → Prop

def lift (F : Fx) (Q : Post) : Exit → Act → World → Prop := fun e a w => ∃ ρ σ u, Rep F ρ σ u a w ∧ Q e ρ σ u

/-- the fence that bars nothing; r: the code of a round -/
def fw (r : Option Nat) : Fence := { Fence.wide with round := r }
theorem fw_room (r : Option Nat) (n : Nat) : (fw r).room n := fun _ h => by simp [fw, Fence.wide] at h
theorem fenced_fw (P : Program) (r : Option Nat) : Machine.fenced P (fw r) = Machine.fenced P Fence.wide := rfl
theorem callsIn_fw {P : Program} {f : FuncId} {args : Array Value} {w : World} {R : Ending → World → Prop} (r : Option Nat) (n : Nat) (h : Calls P f args w R) : CallsIn (fw r) n P f args w R :=
  ⟨trivial, fun cs _ => let ⟨e, w', fr, hr, s, x⟩ := h cs; ⟨e, w', fr, hr, comesIn_wide.2 s, x⟩⟩

def WC (F : Fx) (c : Code) (ρ : Env) (σ : Own) (u : View) (Q : Post) : Prop := ∀ a w, Rep F ρ σ u a w → c.wpIn (fw F.r) 0 F.P (lift F Q) a w

/-- a list of operations in the order of the text -/
def RL (F : Fx) (ops : Array Oper) (l : List Oper) (ρ : Env) (σ : Own) (u : View) (Q : Post) : Prop :=
  ∀ a w, Rep F ρ σ u a w → wpListIn (fw F.r) 0 F.P ops (lift F Q) l a w

/-- an operation that is no defer statement, in whatever frame -/
theorem owp_of_run {P : Program} {r : Option Nat} {n : Nat} {o : Oper} {a : Act} {w : World} {K : Act → World → Prop} {Q : Exit → Act → World → Prop} {res : Result Next} (hnd : ∀ c, o.op ≠ .defer c)
    (hrun : (execOp a.eval o).run P w = res) (h : o.upon P a K Q res) : o.wpIn (fw r) n P a w K Q := by
  refine ⟨fun _ _ => trivial, ?_⟩
  rw [Oper.semAt_eq _ _ _ hnd, hrun]
  cases res with
  | ok n' w' =>
    cases n' with
    | value v => exact h
    | skip => exact h
    | defer d => exact h
    | enter f args =>
      refine ⟨fun hs => by simp [fw, Fence.wide] at hs, callsIn_fw _ _ (Calls.mono h fun e w'' he => ?_)⟩
      cases e <;> exact he
    | row row args =>
      refine ⟨fun hs => by simp [fw, Fence.wide] at hs, fun c cs _ => ?_⟩
      obtain ⟨v, w'', hr, hs⟩ := h c cs
      exact ⟨v, w'', hr, stepsIn_wide.2 hs⟩
    | _ => exact h.elim
  | halt x w' =>
    cases x <;> first | exact h | exact h.elim

/-! ### keeping fewer slots -/
def subE : Env → Env → Prop
  | [], _ => True
  | (k, x) :: r, ρ => gv ρ k = some x ∧ subE r ρ
def subO : Own → Own → Prop
  | [], _ => True
  | (k, x) :: r, σ => gv σ k = some x ∧ subO r σ

theorem gv_subE {ρ' ρ : Env} (h : subE ρ' ρ) : ∀ k x, gv ρ' k = some x → gv ρ k = some x := by
  induction ρ' with
  | nil => intro k x hx; simp [gv] at hx
  | cons y r ih =>
    obtain ⟨j, z⟩ := y
    intro k x hx
    simp only [gv] at hx
    split at hx
    · rename_i hb
      have : j = k := Nat.eq_of_beq_eq_true hb
      subst this
      cases hx
      exact h.1
    · exact ih h.2 k x hx
theorem gv_subO {ρ' ρ : Own} (h : subO ρ' ρ) : ∀ k x, gv ρ' k = some x → gv ρ k = some x := by
  induction ρ' with
  | nil => intro k x hx; simp [gv] at hx
  | cons y r ih =>
    obtain ⟨j, z⟩ := y
    intro k x hx
    simp only [gv] at hx
    split at hx
    · rename_i hb
      have : j = k := Nat.eq_of_beq_eq_true hb
      subst this
      cases hx
      exact h.1
    · exact ih h.2 k x hx

theorem gv_cons_ne {α : Type} {k i : Nat} {x : α} {r : List (Nat × α)} (h : k ≠ i) : gv ((k, x) :: r) i = gv r i := by
  have : Nat.beq k i = false := by
    cases hb : Nat.beq k i with
    | false => rfl
    | true => exact absurd (Nat.eq_of_beq_eq_true hb) h
  simp only [gv, this]
/-- every entry of σ is looked up as itself, or as a newer one -/
theorem Rep.subEnv {F : Fx} {ρ ρ' : Env} {σ : Own} {u : View} {a : Act} {w : World} (hr : subE ρ' ρ) (h : Rep F ρ σ u a w) : Rep F ρ' σ u a w := by
  obtain ⟨bk, hd, h⟩ := h
  exact ⟨bk, hd, h.size, h.defers, h.frame, h.agree, h.uold, fun k x hx => h.slot k x (gv_subE hr _ _ hx), h.own, h.fresh, h.inj⟩

theorem Rep.sub {F : Fx} {ρ ρ' : Env} {σ σ' : Own} {u : View} {a : Act} {w : World} (hr : subE ρ' ρ) (ho : subO σ' σ) (h : Rep F ρ σ u a w) : Rep F ρ' σ' u a w := by
  obtain ⟨bk, hd, h⟩ := h
  have r := gv_subE hr
  have o := gv_subO ho
  exact ⟨bk, hd, h.size, h.defers, h.frame, h.agree, h.uold, fun k x hx => h.slot k x (r _ _ hx), fun id x hx => h.own id x (o _ _ hx), fun id x b hx => h.fresh id x b (o _ _ hx),
    fun id id' x x' b hx hx' => h.inj id id' x x' b (o _ _ hx) (o _ _ hx')⟩

theorem RL.sub {F : Fx} {ops : Array Oper} {l : List Oper} {ρ ρ' : Env} {σ σ' : Own} {u : View} {Q : Post} (hr : subE ρ' ρ) (ho : subO σ' σ) (h : RL F ops l ρ' σ' u Q) : RL F ops l ρ σ u Q :=
  fun a w hR => h a w (hR.sub hr ho)
theorem WC.sub {F : Fx} {c : Code} {ρ ρ' : Env} {σ σ' : Own} {u : View} {Q : Post} (hr : subE ρ' ρ) (ho : subO σ' σ) (h : WC F c ρ' σ' u Q) : WC F c ρ σ u Q :=
  fun a w hR => h a w (hR.sub hr ho)

/-! ### code -/
def thenQ (K : Env → Own → View → Prop) (Q : Post) : Post
  | .normal, ρ, σ, u => K ρ σ u
  | e, ρ, σ, u => Q e ρ σ u
def blockQ (id : Nat) (Q : Post) : Post
  | .exit id', ρ, σ, u => if id' = id then Q .normal ρ σ u else Q (.exit id') ρ σ u
  | e, ρ, σ, u => Q e ρ σ u

section code
variable {F : Fx} {ρ : Env} {σ : Own} {u : View} {Q : Post}

theorem WC.mono {c : Code} {Q' : Post} (h : WC F c ρ σ u Q') (hq : ∀ e ρ σ u, Q' e ρ σ u → Q e ρ σ u) : WC F c ρ σ u Q :=
  fun a w hR => Go.wpIn_mono (h a w hR) fun _ _ _ ⟨ρ, σ, u, hr, hq'⟩ => ⟨ρ, σ, u, hr, hq _ _ _ _ hq'⟩

def WCk (F : Fx) (c : Code) (Q : Post) : Env → Own → View → Prop := fun ρ σ u => WC F c ρ σ u Q

theorem wc_seq {c1 c2 : Code} (h : WC F c1 ρ σ u (thenQ (WCk F c2 Q) Q)) : WC F (.seq c1 c2) ρ σ u Q := by
  intro a w hR
  refine wpIn_seq (Go.wpIn_mono (h a w hR) ?_)
  rintro e a w ⟨ρ, σ, u, hr, hq⟩
  cases e with
  | normal => exact hq a w hr
  | _ => exact ⟨ρ, σ, u, hr, hq⟩

theorem wc_skip (h : Q .normal ρ σ u) : WC F .skip ρ σ u Q := fun _ _ hR => wpIn_skip ⟨_, _, _, hR, h⟩
theorem wc_ret (h : Q .ret ρ σ u) : WC F .ret ρ σ u Q := fun _ _ hR => wpIn_ret ⟨_, _, _, hR, h⟩
theorem wc_exit {id : Nat} (h : Q (.exit id) ρ σ u) : WC F (.exit id) ρ σ u Q := fun _ _ hR => wpIn_exit ⟨_, _, _, hR, h⟩
theorem wc_label {id : Nat} (h : Q .normal ρ σ u) : WC F (.label id) ρ σ u Q := fun _ _ hR => wpIn_label ⟨_, _, _, hR, h⟩

theorem wc_block {id : Nat} {c : Code} (h : WC F c ρ σ u (blockQ id Q)) : WC F (.block id c) ρ σ u Q := by
  intro a w hR
  refine wpIn_block (Go.wpIn_mono (h a w hR) ?_)
  rintro e a w ⟨ρ, σ, u, hr, hq⟩
  cases e with
  | exit id' =>
    simp only [Exit.inBlock, blockQ] at hq ⊢
    split at hq
    · rename_i he; simp only [he, if_true]; exact ⟨ρ, σ, u, hr, hq⟩
    · rename_i he; simp only [he, if_false]; exact ⟨ρ, σ, u, hr, hq⟩
  | _ => exact ⟨ρ, σ, u, hr, hq⟩

theorem wc_region {id : Nat} {l : List Oper} (h : RL F l.toArray l ρ σ u Q) : WC F (.region id l.toArray false) ρ σ u Q :=
  fun a w hR => wpIn_region_lit (h a w hR)

theorem Act.eval_of {a : Act} {k : Nat} {x : Value} (h : a.tmps[k]? = some x) : a.eval (.tmp k) = x := by
  simp [Act.eval, Array.getD]
  rw [Array.getElem?_eq_some_iff] at h
  obtain ⟨hk, hx⟩ := h
  simp [hk, hx]

theorem RepAt.opS {bk : Nat → Option Nat} {hd : Nat → Value} {a : Act} {w : World} (h : RepAt F bk hd ρ σ u a w) {o : Operand} {sv : SV} (ho : opv ρ o = some sv) : SVal bk hd sv (a.eval o) := by
  cases o with
  | tmp t =>
    obtain ⟨x, hx, hs⟩ := h.slot t sv ho
    rw [Act.eval_of hx]
    exact hs
  | const y => simp only [opv, Option.some.injEq] at ho; subst ho; rfl
  | global g => simp only [opv, Option.some.injEq] at ho; subst ho; rfl
  | func f => simp only [opv, Option.some.injEq] at ho; subst ho; rfl
theorem RepAt.op {bk : Nat → Option Nat} {hd : Nat → Value} {a : Act} {w : World} (h : RepAt F bk hd ρ σ u a w) {o : Operand} {x : Value} (ho : opv ρ o = some (.v x)) : a.eval o = x := h.opS ho

theorem wc_cond {c : Operand} {x y : Code} {t : Bool} (hc : opv ρ c = some (.v (.bool t))) (ht : t = true → WC F x ρ σ u Q) (hf : t = false → WC F y ρ σ u Q) : WC F (.cond c x y) ρ σ u Q := by
  intro a w hR
  have hR' := hR
  obtain ⟨bk, hd, hr⟩ := hR
  exact wpIn_cond_split (hr.op hc) (fun h => ht h a w hR') (fun h => hf h a w hR')

/-- the invariant has a number that goes down -/
theorem wc_loop {c : Code} (I : Nat → Env → Own → View → Prop) (n : Nat) (h0 : ∃ ρ0 σ0, subE ρ0 ρ ∧ subO σ0 σ ∧ I n ρ0 σ0 u)
    (h : ∀ m ρ σ u, I m ρ σ u → WC F c ρ σ u (thenQ (fun ρ σ u => ∃ m' ρ' σ', m' < m ∧ subE ρ' ρ ∧ subO σ' σ ∧ I m' ρ' σ' u) Q)) : WC F (.loop c) ρ σ u Q := by
  intro a w hR b k cs hro hb hr
  have key : ∀ m, ∀ ρ σ u a w, I m ρ σ u → Rep F ρ σ u a w →
      ∃ e a' w', lift F Q e a' w' ∧ ArrivesIn (Machine.fenced F.P (fw F.r)) F.P (lone (b.atR a (.code c :: .inLoop c :: k)) cs w) b k cs e a' w' := by
    intro m
    induction m using Nat.strongRecOn with
    | _ m ih =>
      intro ρ σ u a w hI hR
      obtain ⟨e, a1, w1, ⟨ρ1, σ1, u1, hr1, hq⟩, harr⟩ := h m ρ σ u hI a w hR b (.inLoop c :: k) cs hro hb hr
      cases e with
      | normal =>
        obtain ⟨m', ρ', σ', hlt, hs, hs', hI'⟩ := hq
        obtain ⟨e2, a2, w2, hq2, harr2⟩ := ih m' hlt _ _ _ _ _ hI' (hr1.sub hs hs')
        exact ⟨e2, a2, w2, hq2, .of_steps (StepsIn.trans harr (.one (fenced_calm hb hr rfl) stepR_inLoop)) harr2⟩
      | exit id => exact ⟨_, a1, w1, ⟨ρ1, σ1, u1, hr1, hq⟩, .pass (x := .inLoop c) rfl (fun _ _ => .inl (by simp)) harr⟩
      | goto l => exact ⟨_, a1, w1, ⟨ρ1, σ1, u1, hr1, hq⟩, .pass (x := .inLoop c) rfl (fun _ _ => .inl (by simp)) harr⟩
      | ret => exact ⟨_, a1, w1, ⟨ρ1, σ1, u1, hr1, hq⟩, .pass (x := .inLoop c) rfl (fun _ _ => .inl (by simp)) harr⟩
      | panic ch => exact ⟨_, a1, w1, ⟨ρ1, σ1, u1, hr1, hq⟩, .pass (x := .inLoop c) rfl (fun _ _ => .inl (by simp)) harr⟩
      | outgrown => exact ⟨_, a1, w1, ⟨ρ1, σ1, u1, hr1, hq⟩, .pass (x := .inLoop c) rfl (fun _ _ => .inl (by simp)) harr⟩
  obtain ⟨ρ0, σ0, hs0, ho0, h0⟩ := h0
  obtain ⟨e, a', w', hq, harr⟩ := key n ρ0 σ0 u a w h0 (hR.sub hs0 ho0)
  exact ⟨e, a', w', hq, .of_steps (.one (fenced_calm hb hr rfl) stepR_loop) harr⟩

theorem rl_nil {ops : Array Oper} (h : Q .normal ρ σ u) : RL F ops [] ρ σ u Q := fun _ _ hR => wpListIn_nil ⟨_, _, _, hR, h⟩
/-- a statement's end: only the slots of ρ' are kept -/
theorem rl_end {ops : Array Oper} {ρ' : Env} (hs : subE ρ' ρ) (h : Q .normal ρ' σ u) : RL F ops [] ρ σ u Q := fun _ _ hR => wpListIn_nil ⟨_, _, _, hR.subEnv hs, h⟩

theorem q_then {c : Code} (h : WC F c ρ σ u Q) : thenQ (WCk F c Q) Q .normal ρ σ u := h
theorem q_thenK {K : Env → Own → View → Prop} (h : K ρ σ u) : thenQ K Q .normal ρ σ u := h
theorem q_then_exit {K : Env → Own → View → Prop} {id : Nat} (h : Q (.exit id) ρ σ u) : thenQ K Q (.exit id) ρ σ u := h
theorem q_then_ret {K : Env → Own → View → Prop} (h : Q .ret ρ σ u) : thenQ K Q .ret ρ σ u := h
theorem q_block {id : Nat} (h : Q .normal ρ σ u) : blockQ id Q .normal ρ σ u := h
theorem q_block_hit {id : Nat} (h : Q .normal ρ σ u) : blockQ id Q (.exit id) ρ σ u := by simp only [blockQ, if_true]; exact h
theorem q_block_miss {id id' : Nat} (hn : Nat.beq id' id = false) (h : Q (.exit id') ρ σ u) : blockQ id Q (.exit id') ρ σ u := by
  have : id' ≠ id := fun e => by simp [e] at hn
  simp only [blockQ, this, if_false]; exact h
theorem q_block_ret {id : Nat} (h : Q .ret ρ σ u) : blockQ id Q .ret ρ σ u := h

def noPanic (Q : Post) : Prop := ∀ c ρ σ u, ¬ Q (.panic c) ρ σ u
theorem np_then {K : Env → Own → View → Prop} (h : noPanic Q) : noPanic (thenQ K Q) := h
theorem np_block {id : Nat} (h : noPanic Q) : noPanic (blockQ id Q) := h

theorem wc_cond_t {c : Operand} {x y : Code} {t : Bool} (hc : opv ρ c = some (.v (.bool t))) (ht : t = true) (h : WC F x ρ σ u Q) : WC F (.cond c x y) ρ σ u Q :=
  wc_cond hc (fun _ => h) (fun hf => by rw [ht] at hf; cases hf)
theorem wc_cond_f {c : Operand} {x y : Code} {t : Bool} (hc : opv ρ c = some (.v (.bool t))) (hf : t = false) (h : WC F y ρ σ u Q) : WC F (.cond c x y) ρ σ u Q :=
  wc_cond hc (fun ht => by rw [hf] at ht; cases ht) (fun _ => h)
/-- two ways meet again in J -/
theorem wc_cut {c1 c2 : Code} (J : Env → Own → View → Prop) (h1 : WC F c1 ρ σ u (thenQ (fun ρ σ u => ∃ ρ' σ', subE ρ' ρ ∧ subO σ' σ ∧ J ρ' σ' u) Q)) (h2 : ∀ ρ σ u, J ρ σ u → WC F c2 ρ σ u Q) : WC F (.seq c1 c2) ρ σ u Q := by
  refine wc_seq (h1.mono ?_)
  intro e ρ σ u hq
  cases e with
  | normal => obtain ⟨ρ', σ', hs, ho, hj⟩ := hq; exact (h2 ρ' σ' u hj).sub hs ho
  | _ => exact hq
end code
end Go.Eng
