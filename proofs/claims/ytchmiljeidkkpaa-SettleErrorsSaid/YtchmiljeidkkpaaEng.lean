/- An engine for walks: the frame as a short list of live slots, blocks of the call's own kept out of sight, blocks that nobody writes any more as a heap of their own. Nothing here names a program. -/
import Derived.WalkKit
import Derived.WalkSpells
import Derived.WalkLawsBesides
import Derived.OrdersHeld
import Derived.KernelRfl
namespace Go.Eng
open Go Go.RowKit

/-- What a slot holds: a value; a pointer into block 'id' of the call's own; a slice over a row of the call's own; a pointer to element i, cell off, of the slice value x whose elements have sz cells. -/
inductive SV where
  | v (x : Value)
  | p (id off : Nat)
  | s (id : Nat)
  | e (x : Value) (sz i off : Nat)
  | q

inductive OO where
  | box (cs : List Value)
  | row (T : TypeId) (sz n : Nat) (xs : List Value)
  | it (l : List UInt8) (pos : Nat)

abbrev Env := List (Nat × SV)
abbrev Own := List (Nat × OO)
abbrev View := Nat → Option Obj
abbrev Mem := List (Nat × Obj)

def gv {α : Type} : List (Nat × α) → Nat → Option α
  | [], _ => none
  | (k, x) :: r, i => match Nat.beq k i with
    | true => some x
    | false => gv r i

def opv (ρ : Env) : Operand → Option SV
  | .tmp t => gv ρ t
  | .const x => some (.v x)
  | .global g => some (.v (.pointer (some ⟨g, 0, none⟩)))
  | .func f => some (.v (.func (.func f) #[] #[]))

def Frame0 (w0 : World) (D : List Nat) (w : World) : Prop :=
  w.os = w0.os ∧ w.tape = w0.tape ∧ w.output = w0.output ∧ w0.heap.size ≤ w.heap.size ∧ ∀ k, k < w0.heap.size → k ∉ D → w.heap[k]? = w0.heap[k]?

theorem Frame0.refl (w : World) (D : List Nat) : Frame0 w D w := ⟨rfl, rfl, rfl, Nat.le_refl _, fun _ _ _ => rfl⟩

def Agree (u : View) (w : World) : Prop := ∀ k o, u k = some o → w.heap[k]? = some o

theorem Agree.lt {u : View} {w : World} (h : Agree u w) {k : Nat} {o : Obj} (hk : u k = some o) : k < w.heap.size :=
  (Array.getElem?_eq_some_iff.1 (h k o hk)).1

/-- u' knows all that u knows. -/
def VLe (u u' : View) : Prop := ∀ k o, u k = some o → u' k = some o
theorem VLe.refl (u : View) : VLe u u := fun _ _ h => h
theorem VLe.trans {a b c : View} (h : VLe a b) (k : VLe b c) : VLe a c := fun i o x => k i o (h i o x)

/-- what is fixed for one call -/
structure Fx where
  P : Program
  n : Nat
  w0 : World
  D : List Nat
  u0 : View
  df : List Deferred

def ownOk (F : Fx) (w : World) (bk : Option Nat) (hd : Value) : OO → Prop
  | .box cs => ∃ b T, bk = some b ∧ w.heap[b]? = some (.cells cs.toArray T (0, 0))
  | .row T sz n xs => w.ownsRow F.w0.heap.size T sz hd n xs ∧ bk = hd.ownBlock
  | .it l pos => ∃ b, bk = some b ∧ w.heap[b]? = some (.stringIter ⟨l.toArray⟩ pos)

/-- x is what sv tells of -/
def SVal (bk : Nat → Option Nat) (hd : Nat → Value) : SV → Value → Prop
  | .v y, x => x = y
  | .p id off, x => ∃ b, bk id = some b ∧ x = .pointer (some ⟨b, off, none⟩)
  | .s id, x => x = hd id
  | .e y sz i off, x => ∃ b o n c, y = .slice (some ⟨b, o, none⟩) n c ∧ x = .pointer (some ⟨b, o + i * sz + off, none⟩)
  | .q, _ => True

structure RepAt (F : Fx) (bk : Nat → Option Nat) (hd : Nat → Value) (ρ : Env) (σ : Own) (u : View) (μ : Mem) (a : Act) (w : World) : Prop where
  size : a.tmps.size = F.n
  defers : a.defers = F.df
  frame : Frame0 F.w0 F.D w
  agree : Agree u w
  uold : ∀ k, k < F.w0.heap.size → u k = F.u0 k
  mem : ∀ b o, (b, o) ∈ μ → w.heap[b]? = some o ∧ u b = none ∧ (b ∈ F.D ∨ F.w0.heap.size ≤ b)
  slot : ∀ k sv, gv ρ k = some sv → ∃ x, a.tmps[k]? = some x ∧ SVal bk hd sv x
  own : ∀ id o, gv σ id = some o → ownOk F w (bk id) (hd id) o
  fresh : ∀ id o b, gv σ id = some o → bk id = some b → F.w0.heap.size ≤ b ∧ u b = none ∧ ∀ o', (b, o') ∉ μ
  inj : ∀ id id' o o' b, gv σ id = some o → gv σ id' = some o' → bk id = some b → bk id' = some b → id = id'

def Rep (F : Fx) (ρ : Env) (σ : Own) (u : View) (μ : Mem) (a : Act) (w : World) : Prop := ∃ bk hd, RepAt F bk hd ρ σ u μ a w

abbrev Post := Exit → Env → Own → View → Mem → Prop

def lift (F : Fx) (Q : Post) : Exit → Act → World → Prop := fun e a w => ∃ ρ σ u μ, Rep F ρ σ u μ a w ∧ Q e ρ σ u μ

def WC (F : Fx) (c : Code) (ρ : Env) (σ : Own) (u : View) (μ : Mem) (Q : Post) : Prop := ∀ a w, Rep F ρ σ u μ a w → c.wp F.P (lift F Q) a w

/-- a list of operations in the order of the text -/
def RL (F : Fx) (ops : Array Oper) (l : List Oper) (ρ : Env) (σ : Own) (u : View) (μ : Mem) (Q : Post) : Prop :=
  ∀ a w, Rep F ρ σ u μ a w → wpList F.P ops (lift F Q) l a w

/-! ### keeping fewer slots -/
def subE : Env → Env → Prop
  | [], _ => True
  | (k, x) :: r, ρ => gv ρ k = some x ∧ subE r ρ
def subO : Own → Own → Prop
  | [], _ => True
  | (k, x) :: r, σ => gv σ k = some x ∧ subO r σ

theorem gv_subE {ρ' ρ : Env} (h : subE ρ' ρ) : ∀ k x, gv ρ' k = some x → gv ρ k = some x := by
  induction ρ' with
  | nil => intro k x hx; simp [gv] at hx
  | cons y r ih =>
    obtain ⟨j, z⟩ := y
    intro k x hx
    simp only [gv] at hx
    split at hx
    · rename_i hb
      have : j = k := Nat.eq_of_beq_eq_true hb
      subst this
      cases hx
      exact h.1
    · exact ih h.2 k x hx
theorem gv_subO {ρ' ρ : Own} (h : subO ρ' ρ) : ∀ k x, gv ρ' k = some x → gv ρ k = some x := by
  induction ρ' with
  | nil => intro k x hx; simp [gv] at hx
  | cons y r ih =>
    obtain ⟨j, z⟩ := y
    intro k x hx
    simp only [gv] at hx
    split at hx
    · rename_i hb
      have : j = k := Nat.eq_of_beq_eq_true hb
      subst this
      cases hx
      exact h.1
    · exact ih h.2 k x hx

theorem gv_cons_ne {α : Type} {k i : Nat} {x : α} {r : List (Nat × α)} (h : k ≠ i) : gv ((k, x) :: r) i = gv r i := by
  have : Nat.beq k i = false := by
    cases hb : Nat.beq k i with
    | false => rfl
    | true => exact absurd (Nat.eq_of_beq_eq_true hb) h
  simp only [gv, this]
/-- every entry of σ is looked up as itself, or as a newer one -/
theorem Rep.subEnv {F : Fx} {ρ ρ' : Env} {σ : Own} {u : View} {μ : Mem} {a : Act} {w : World} (hr : subE ρ' ρ) (h : Rep F ρ σ u μ a w) : Rep F ρ' σ u μ a w := by
  obtain ⟨bk, hd, h⟩ := h
  exact ⟨bk, hd, h.size, h.defers, h.frame, h.agree, h.uold, h.mem, fun k x hx => h.slot k x (gv_subE hr _ _ hx), h.own, h.fresh, h.inj⟩

theorem Rep.sub {F : Fx} {ρ ρ' : Env} {σ σ' : Own} {u : View} {μ : Mem} {a : Act} {w : World} (hr : subE ρ' ρ) (ho : subO σ' σ) (h : Rep F ρ σ u μ a w) : Rep F ρ' σ' u μ a w := by
  obtain ⟨bk, hd, h⟩ := h
  have r := gv_subE hr
  have o := gv_subO ho
  exact ⟨bk, hd, h.size, h.defers, h.frame, h.agree, h.uold, h.mem, fun k x hx => h.slot k x (r _ _ hx), fun id x hx => h.own id x (o _ _ hx), fun id x b hx => h.fresh id x b (o _ _ hx),
    fun id id' x x' b hx hx' => h.inj id id' x x' b (o _ _ hx) (o _ _ hx')⟩

theorem RL.sub {F : Fx} {ops : Array Oper} {l : List Oper} {ρ ρ' : Env} {σ σ' : Own} {u : View} {μ : Mem} {Q : Post} (hr : subE ρ' ρ) (ho : subO σ' σ) (h : RL F ops l ρ' σ' u μ Q) : RL F ops l ρ σ u μ Q :=
  fun a w hR => h a w (hR.sub hr ho)
theorem WC.sub {F : Fx} {c : Code} {ρ ρ' : Env} {σ σ' : Own} {u : View} {μ : Mem} {Q : Post} (hr : subE ρ' ρ) (ho : subO σ' σ) (h : WC F c ρ' σ' u μ Q) : WC F c ρ σ u μ Q :=
  fun a w hR => h a w (hR.sub hr ho)

/-! ### code -/
def thenQ (K : Env → Own → View → Mem → Prop) (Q : Post) : Post
  | .normal, ρ, σ, u, μ => K ρ σ u μ
  | e, ρ, σ, u, μ => Q e ρ σ u μ
def blockQ (id : Nat) (Q : Post) : Post
  | .exit id', ρ, σ, u, μ => if id' = id then Q .normal ρ σ u μ else Q (.exit id') ρ σ u μ
  | e, ρ, σ, u, μ => Q e ρ σ u μ

section code
variable {F : Fx} {ρ : Env} {σ : Own} {u : View} {μ : Mem} {Q : Post}

theorem WC.mono {c : Code} {Q' : Post} (h : WC F c ρ σ u μ Q') (hq : ∀ e ρ σ u μ, Q' e ρ σ u μ → Q e ρ σ u μ) : WC F c ρ σ u μ Q :=
  fun a w hR => Go.wp_mono (h a w hR) fun _ _ _ ⟨ρ, σ, u, μ, hr, hq'⟩ => ⟨ρ, σ, u, μ, hr, hq _ _ _ _ _ hq'⟩

def WCk (F : Fx) (c : Code) (Q : Post) : Env → Own → View → Mem → Prop := fun ρ σ u μ => WC F c ρ σ u μ Q

theorem wc_seq {c1 c2 : Code} (h : WC F c1 ρ σ u μ (thenQ (WCk F c2 Q) Q)) : WC F (.seq c1 c2) ρ σ u μ Q := by
  intro a w hR
  refine wp_seq (Go.wp_mono (h a w hR) ?_)
  rintro e a w ⟨ρ, σ, u, μ, hr, hq⟩
  cases e with
  | normal => exact hq a w hr
  | _ => exact ⟨ρ, σ, u, μ, hr, hq⟩

theorem wc_skip (h : Q .normal ρ σ u μ) : WC F .skip ρ σ u μ Q := fun _ _ hR => wp_skip ⟨_, _, _, _, hR, h⟩
theorem wc_ret (h : Q .ret ρ σ u μ) : WC F .ret ρ σ u μ Q := fun _ _ hR => wp_ret ⟨_, _, _, _, hR, h⟩
theorem wc_exit {id : Nat} (h : Q (.exit id) ρ σ u μ) : WC F (.exit id) ρ σ u μ Q := fun _ _ hR => wp_exit ⟨_, _, _, _, hR, h⟩
theorem wc_label {id : Nat} (h : Q .normal ρ σ u μ) : WC F (.label id) ρ σ u μ Q := fun _ _ hR => wp_label ⟨_, _, _, _, hR, h⟩

theorem wc_block {id : Nat} {c : Code} (h : WC F c ρ σ u μ (blockQ id Q)) : WC F (.block id c) ρ σ u μ Q := by
  intro a w hR
  refine wp_block (Go.wp_mono (h a w hR) ?_)
  rintro e a w ⟨ρ, σ, u, μ, hr, hq⟩
  cases e with
  | exit id' =>
    simp only [Exit.inBlock, blockQ] at hq ⊢
    split at hq
    · rename_i he; simp only [he, if_true]; exact ⟨ρ, σ, u, μ, hr, hq⟩
    · rename_i he; simp only [he, if_false]; exact ⟨ρ, σ, u, μ, hr, hq⟩
  | _ => exact ⟨ρ, σ, u, μ, hr, hq⟩

theorem wc_region {id : Nat} {l : List Oper} (h : RL F l.toArray l ρ σ u μ Q) : WC F (.region id l.toArray false) ρ σ u μ Q :=
  fun a w hR => wp_region_lit (h a w hR)

theorem Act.eval_of {a : Act} {k : Nat} {x : Value} (h : a.tmps[k]? = some x) : a.eval (.tmp k) = x := by
  simp [Act.eval, Array.getD]
  rw [Array.getElem?_eq_some_iff] at h
  obtain ⟨hk, hx⟩ := h
  simp [hk, hx]

theorem RepAt.opS {bk : Nat → Option Nat} {hd : Nat → Value} {a : Act} {w : World} (h : RepAt F bk hd ρ σ u μ a w) {o : Operand} {sv : SV} (ho : opv ρ o = some sv) : SVal bk hd sv (a.eval o) := by
  cases o with
  | tmp t =>
    obtain ⟨x, hx, hs⟩ := h.slot t sv ho
    rw [Act.eval_of hx]
    exact hs
  | const y => simp only [opv, Option.some.injEq] at ho; subst ho; rfl
  | global g => simp only [opv, Option.some.injEq] at ho; subst ho; rfl
  | func f => simp only [opv, Option.some.injEq] at ho; subst ho; rfl
theorem RepAt.op {bk : Nat → Option Nat} {hd : Nat → Value} {a : Act} {w : World} (h : RepAt F bk hd ρ σ u μ a w) {o : Operand} {x : Value} (ho : opv ρ o = some (.v x)) : a.eval o = x := h.opS ho

theorem wc_cond {c : Operand} {x y : Code} {t : Bool} (hc : opv ρ c = some (.v (.bool t))) (ht : t = true → WC F x ρ σ u μ Q) (hf : t = false → WC F y ρ σ u μ Q) : WC F (.cond c x y) ρ σ u μ Q := by
  intro a w hR
  have hR' := hR
  obtain ⟨bk, hd, hr⟩ := hR
  exact wp_cond_split (hr.op hc) (fun h => ht h a w hR') (fun h => hf h a w hR')

/-- the invariant has a number that goes down -/
theorem wc_loop {c : Code} (I : Nat → Env → Own → View → Mem → Prop) (n : Nat) (h0 : ∃ ρ0 σ0, subE ρ0 ρ ∧ subO σ0 σ ∧ I n ρ0 σ0 u μ)
    (h : ∀ m ρ σ u μ, I m ρ σ u μ → WC F c ρ σ u μ (thenQ (fun ρ σ u μ => ∃ m' ρ' σ', m' < m ∧ subE ρ' ρ ∧ subO σ' σ ∧ I m' ρ' σ' u μ) Q)) : WC F (.loop c) ρ σ u μ Q := by
  intro a w hR b k cs
  have key : ∀ m, ∀ ρ σ u μ a w, I m ρ σ u μ → Rep F ρ σ u μ a w →
      ∃ e a' w', lift F Q e a' w' ∧ Arrives F.P (lone (b.at a (.code c :: .inLoop c :: k)) cs w) b k cs e a' w' := by
    intro m
    induction m using Nat.strongRecOn with
    | _ m ih =>
      intro ρ σ u μ a w hI hR
      obtain ⟨e, a1, w1, ⟨ρ1, σ1, u1, μ1, hr1, hq⟩, harr⟩ := h m ρ σ u μ hI a w hR b (.inLoop c :: k) cs
      cases e with
      | normal =>
        obtain ⟨m', ρ', σ', hlt, hs, hs', hI'⟩ := hq
        obtain ⟨e2, a2, w2, hq2, harr2⟩ := ih m' hlt _ _ _ _ _ _ hI' (hr1.sub hs hs')
        exact ⟨e2, a2, w2, hq2, .of_steps (Steps.trans harr (.one step_inLoop)) harr2⟩
      | exit id => exact ⟨_, a1, w1, ⟨ρ1, σ1, u1, μ1, hr1, hq⟩, .pass (x := .inLoop c) rfl (fun _ _ => .inl (by simp)) harr⟩
      | goto l => exact ⟨_, a1, w1, ⟨ρ1, σ1, u1, μ1, hr1, hq⟩, .pass (x := .inLoop c) rfl (fun _ _ => .inl (by simp)) harr⟩
      | ret => exact ⟨_, a1, w1, ⟨ρ1, σ1, u1, μ1, hr1, hq⟩, .pass (x := .inLoop c) rfl (fun _ _ => .inl (by simp)) harr⟩
      | panic ch => exact ⟨_, a1, w1, ⟨ρ1, σ1, u1, μ1, hr1, hq⟩, .pass (x := .inLoop c) rfl (fun _ _ => .inl (by simp)) harr⟩
      | outgrown => exact ⟨_, a1, w1, ⟨ρ1, σ1, u1, μ1, hr1, hq⟩, .pass (x := .inLoop c) rfl (fun _ _ => .inl (by simp)) harr⟩
  obtain ⟨ρ0, σ0, hs0, ho0, h0⟩ := h0
  obtain ⟨e, a', w', hq, harr⟩ := key n ρ0 σ0 u μ a w h0 (hR.sub hs0 ho0)
  exact ⟨e, a', w', hq, .of_steps (.one step_loop) harr⟩

theorem rl_nil {ops : Array Oper} (h : Q .normal ρ σ u μ) : RL F ops [] ρ σ u μ Q := fun _ _ hR => wpList_nil ⟨_, _, _, _, hR, h⟩
/-- a statement's end: only the slots of ρ' are kept -/
theorem rl_end {ops : Array Oper} {ρ' : Env} (hs : subE ρ' ρ) (h : Q .normal ρ' σ u μ) : RL F ops [] ρ σ u μ Q := fun _ _ hR => wpList_nil ⟨_, _, _, _, hR.subEnv hs, h⟩

theorem q_then {c : Code} (h : WC F c ρ σ u μ Q) : thenQ (WCk F c Q) Q .normal ρ σ u μ := h
theorem q_thenK {K : Env → Own → View → Mem → Prop} (h : K ρ σ u μ) : thenQ K Q .normal ρ σ u μ := h
theorem q_then_exit {K : Env → Own → View → Mem → Prop} {id : Nat} (h : Q (.exit id) ρ σ u μ) : thenQ K Q (.exit id) ρ σ u μ := h
theorem q_then_ret {K : Env → Own → View → Mem → Prop} (h : Q .ret ρ σ u μ) : thenQ K Q .ret ρ σ u μ := h
theorem q_block {id : Nat} (h : Q .normal ρ σ u μ) : blockQ id Q .normal ρ σ u μ := h
theorem q_block_hit {id : Nat} (h : Q .normal ρ σ u μ) : blockQ id Q (.exit id) ρ σ u μ := by simp only [blockQ, if_true]; exact h
theorem q_block_miss {id id' : Nat} (hn : Nat.beq id' id = false) (h : Q (.exit id') ρ σ u μ) : blockQ id Q (.exit id') ρ σ u μ := by
  have : id' ≠ id := fun e => by simp [e] at hn
  simp only [blockQ, this, if_false]; exact h
theorem q_block_ret {id : Nat} (h : Q .ret ρ σ u μ) : blockQ id Q .ret ρ σ u μ := h

def noPanic (Q : Post) : Prop := ∀ c ρ σ u μ, ¬ Q (.panic c) ρ σ u μ
theorem np_then {K : Env → Own → View → Mem → Prop} (h : noPanic Q) : noPanic (thenQ K Q) := h
theorem np_block {id : Nat} (h : noPanic Q) : noPanic (blockQ id Q) := h

theorem wc_cond_t {c : Operand} {x y : Code} {t : Bool} (hc : opv ρ c = some (.v (.bool t))) (ht : t = true) (h : WC F x ρ σ u μ Q) : WC F (.cond c x y) ρ σ u μ Q :=
  wc_cond hc (fun _ => h) (fun hf => by rw [ht] at hf; cases hf)
theorem wc_cond_f {c : Operand} {x y : Code} {t : Bool} (hc : opv ρ c = some (.v (.bool t))) (hf : t = false) (h : WC F y ρ σ u μ Q) : WC F (.cond c x y) ρ σ u μ Q :=
  wc_cond hc (fun ht => by rw [hf] at ht; cases ht) (fun _ => h)
/-- two ways meet again in J -/
theorem wc_cut {c1 c2 : Code} (J : Env → Own → View → Mem → Prop) (h1 : WC F c1 ρ σ u μ (thenQ (fun ρ σ u μ => ∃ ρ' σ', subE ρ' ρ ∧ subO σ' σ ∧ J ρ' σ' u μ) Q)) (h2 : ∀ ρ σ u μ, J ρ σ u μ → WC F c2 ρ σ u μ Q) : WC F (.seq c1 c2) ρ σ u μ Q := by
  refine wc_seq (h1.mono ?_)
  intro e ρ σ u μ hq
  cases e with
  | normal => obtain ⟨ρ', σ', hs, ho, hj⟩ := hq; exact (h2 ρ' σ' u μ hj).sub hs ho
  | _ => exact hq
end code
end Go.Eng
