/- The engine's rules for calls: what a function is handed to write, and what it hands back. -/
import Derived.Test.YthnboadnehbciaaDoorEngEff
namespace Go.Eng
open Go Go.RowKit
set_option linter.unusedSimpArgs false
set_option linter.unusedVariables false

/-- b belongs to one of the things of l -/
def HoldsL (bk : Nat → Option Nat) (hd : Nat → Value) (l : List PO) (b : Nat) : Prop := ∃ (i : Nat) (p : PO), l[i]? = some p ∧ p.2.holds (bk i) (hd i) b
/-- the things of l lie in w, apart from each other and from what nobody writes -/
structure OwnsL (w : World) (u : View) (bk : Nat → Option Nat) (hd : Nat → Value) (l : List PO) : Prop where
  own : ∀ (i : Nat) (p : PO), l[i]? = some p → ownOk w (bk i) (hd i) p
  free : ∀ (i : Nat) (p : PO) (b : Nat), l[i]? = some p → p.2.holds (bk i) (hd i) b → u b = none
  inj : ∀ (i j : Nat) (p q : PO) (b : Nat), l[i]? = some p → l[j]? = some q → p.2.holds (bk i) (hd i) b → q.2.holds (bk j) (hd j) b → i = j

theorem OwnsL.vle {w : World} {u u' : View} {bk : Nat → Option Nat} {hd : Nat → Value} {l : List PO} (h : OwnsL w u bk hd l) (hA : Agree u w) (hu : ∀ k, k < w.heap.size → ¬ HoldsL bk hd l k → u' k = u k) : VLe u u' := by
  intro k o hk
  refine (hu k (hA.lt hk) ?_).trans hk
  rintro ⟨i, p, hi, hb⟩
  rw [h.free i p k hi hb] at hk; cases hk

/-- 'f called with these values returns, and R holds of what it returns': u is what nobody writes, l is what f may write -/
def FnO (P : Program) (f : FuncId) (args : List Value) (u : View) (l : List PO) (R : Value → View → List PO → Prop) : Prop :=
  ∀ w bk hd, Agree u w → OwnsL w u bk hd l →
    Calls P f args.toArray w fun e w' => ∃ v u' l' bk' hd', e = .returned v ∧ R v u' l' ∧ Agree u' w' ∧ (∀ k, k < w.heap.size → ¬ HoldsL bk hd l k → u' k = u k) ∧
      Frame0 w (HoldsL bk hd l) w' ∧ OwnsL w' u' bk' hd' l' ∧ ∀ b, HoldsL bk' hd' l' b → HoldsL bk hd l b ∨ w.heap.size ≤ b

/-- a call that writes nothing that was there -/
def FnP (P : Program) (f : FuncId) (args : List Value) (u : View) (R : Value → View → Prop) : Prop :=
  FnO P f args u [] fun v u' l' => l' = [] ∧ R v u'

theorem FnO.mono {P : Program} {f : FuncId} {args : List Value} {u : View} {l : List PO} {R R' : Value → View → List PO → Prop} (h : FnO P f args u l R) (hr : ∀ v u' l', VLe u u' → R v u' l' → R' v u' l') : FnO P f args u l R' :=
  fun w bk hd hA hO => (h w bk hd hA hO).mono fun _ _ ⟨v, u', l', bk', hd', he, hR, hA', hu, rest⟩ => ⟨v, u', l', bk', hd', he, hr _ _ _ (hO.vle hA hu) hR, hA', hu, rest⟩
theorem FnP.mono {P : Program} {f : FuncId} {args : List Value} {u : View} {R R' : Value → View → Prop} (h : FnP P f args u R') (hr : ∀ v u', VLe u u' → R' v u' → R v u') : FnP P f args u R :=
  FnO.mono h fun _ _ _ hle ⟨h1, h2⟩ => ⟨h1, hr _ _ hle h2⟩

def canCall (P : Program) (f : FuncId) : Bool :=
  match P.funcs[f]? with
  | some fn => !(fn.name == "runtime.NumGoroutine") && !fn.body.isNone
  | none => false

theorem run_callFunc {P : Program} {f : FuncId} (h : canCall P f = true) (args : Array Value) (w : World) : (callFunc f args).run P w = .ok (.enter f args) w := by
  unfold canCall at h
  split at h
  · rename_i fn hf
    simp only [Bool.and_eq_true, Bool.not_eq_true', beq_eq_false_iff_ne, ne_eq] at h
    obtain ⟨h1, h2⟩ := h
    simp only [callFunc, Sem.run_bind, run_program, Result.andThen_ok, hf]
    simp only [h1, h2, beq_iff_eq, if_false, Bool.false_eq_true]
    rfl
  · cases h


def opvs (ρ : Env) (σ : Own) : List Operand → Option (List Value)
  | [] => some []
  | x :: r => match (opv ρ x).bind (svV σ) with
    | some y => match opvs ρ σ r with
      | some l => some (y :: l)
      | none => none
    | none => none

def gvs {α : Type} (σ : List (Nat × α)) : List Nat → Option (List α)
  | [] => some []
  | i :: r => match gv σ i with
    | some p => match gvs σ r with
      | some l => some (p :: l)
      | none => none
    | none => none
theorem gvs_get {α : Type} {σ : List (Nat × α)} : ∀ {ids : List Nat} {l : List α}, gvs σ ids = some l → ∀ (i : Nat) (p : α), l[i]? = some p → ∃ id, ids[i]? = some id ∧ gv σ id = some p
  | [], l, h, i, p, hi => by simp only [gvs, Option.some.injEq] at h; subst h; simp at hi
  | k :: r, l, h, i, p, hi => by
    simp only [gvs] at h
    split at h
    · rename_i q hq
      split at h
      · rename_i l' hl
        cases h
        cases i with
        | zero => simp at hi; subst hi; exact ⟨k, by simp, hq⟩
        | succ i => simpa using gvs_get hl i p (by simpa using hi)
      · cases h
    · cases h
theorem gvs_of {α : Type} {σ : List (Nat × α)} : ∀ {ids : List Nat} {l : List α}, gvs σ ids = some l → ∀ (i : Nat) (id : Nat), ids[i]? = some id → ∃ p, l[i]? = some p ∧ gv σ id = some p
  | [], l, h, i, p, hi => by simp at hi
  | k :: r, l, h, i, id, hi => by
    simp only [gvs] at h
    split at h
    · rename_i q hq
      split at h
      · rename_i l' hl
        cases h
        cases i with
        | zero => simp at hi; subst hi; exact ⟨q, by simp, hq⟩
        | succ i => simpa using gvs_of hl i id (by simpa using hi)
      · cases h
    · cases h

/-- where i stands in the list -/
def posOf : List Nat → Nat → Option Nat
  | [], _ => none
  | k :: r, i => match Nat.beq k i with
    | true => some 0
    | false => match posOf r i with
      | some n => some (n + 1)
      | none => none
theorem posOf_get : ∀ {ids : List Nat} {id i : Nat}, posOf ids id = some i → ids[i]? = some id
  | [], id, i, h => by simp [posOf] at h
  | k :: r, id, i, h => by
    simp only [posOf] at h
    split at h
    · rename_i hb
      cases h
      simp [Nat.eq_of_beq_eq_true hb]
    · split at h
      · rename_i n hn
        cases h
        simpa using posOf_get hn
      · cases h
def nodupb : List Nat → Bool
  | [] => true
  | k :: r => match posOf r k with
    | some _ => false
    | none => nodupb r
theorem posOf_mem : ∀ {ids : List Nat} {id i : Nat}, ids[i]? = some id → posOf ids id ≠ none
  | [], id, i, h => by simp at h
  | k :: r, id, i, h => by
    simp only [posOf]
    split
    · simp
    · rename_i hb
      cases i with
      | zero => simp at h; subst h; simp at hb
      | succ i =>
        have := posOf_mem (ids := r) (id := id) (i := i) (by simpa using h)
        split
        · simp
        · rename_i hn; exact absurd hn this
theorem nodupb_get : ∀ {ids : List Nat} {id i j : Nat}, nodupb ids = true → ids[i]? = some id → ids[j]? = some id → i = j
  | [], id, i, j, _, h, _ => by simp at h
  | k :: r, id, i, j, hn, hi, hj => by
    simp only [nodupb] at hn
    split at hn
    · cases hn
    · rename_i hp
      cases i with
      | zero =>
        cases j with
        | zero => rfl
        | succ j =>
          simp at hi; subst hi
          exact absurd hp (posOf_mem (by simpa using hj))
      | succ i =>
        cases j with
        | zero =>
          simp at hj; subst hj
          exact absurd hp (posOf_mem (by simpa using hi))
        | succ j => exact congrArg (· + 1) (nodupb_get hn (by simpa using hi) (by simpa using hj))

def zipO : List Nat → List PO → Own
  | i :: r, p :: l => (i, p) :: zipO r l
  | _, _ => []
theorem gv_zipO : ∀ {ids : List Nat} {l : List PO} {id : Nat} {p : PO}, gv (zipO ids l) id = some p → ∃ i, posOf ids id = some i ∧ l[i]? = some p
  | [], l, id, p, h => by cases l <;> simp [zipO, gv] at h
  | k :: r, [], id, p, h => by simp [zipO, gv] at h
  | k :: r, q :: l, id, p, h => by
    simp only [zipO, gv] at h
    simp only [posOf]
    split at h
    · rename_i hb
      cases h
      exact ⟨0, by simp [hb], rfl⟩
    · rename_i hb
      obtain ⟨i, h1, h2⟩ := gv_zipO h
      exact ⟨i + 1, by simp [hb, h1], by simpa using h2⟩
def rms (ids : List Nat) : Own → Own
  | [] => []
  | (k, x) :: r => match posOf ids k with
    | some _ => rms ids r
    | none => (k, x) :: rms ids r
theorem gv_rms {ids : List Nat} : ∀ {σ : Own} {k : Nat} {p : PO}, gv (rms ids σ) k = some p → posOf ids k = none ∧ gv σ k = some p
  | [], k, o, h => by simp [rms, gv] at h
  | (j, x) :: r, k, o, h => by
    simp only [rms] at h
    split at h
    · rename_i m hm
      obtain ⟨h1, h2⟩ := gv_rms h
      refine ⟨h1, ?_⟩
      have : Nat.beq j k = false := by
        cases hjk : Nat.beq j k with
        | false => rfl
        | true => rw [← Nat.eq_of_beq_eq_true hjk] at h1; rw [hm] at h1; cases h1
      simp only [gv, this]
      exact h2
    · rename_i hm
      simp only [gv] at h ⊢
      split at h
      · rename_i hjk
        have hj := Nat.eq_of_beq_eq_true hjk
        subst hj
        exact ⟨hm, h⟩
      · exact gv_rms h
theorem gv_append {α : Type} : ∀ {σ τ : List (Nat × α)} {k : Nat} {p : α}, gv (σ ++ τ) k = some p → gv σ k = some p ∨ gv τ k = some p
  | [], τ, k, p, h => .inr h
  | (j, x) :: r, τ, k, p, h => by
    simp only [List.cons_append, gv] at h ⊢
    split at h
    · exact .inl h
    · exact gv_append h

/-- no slot that is kept leads to one of the things, but by a number that is known -/
def okRef (ids : List Nat) (σ : Own) : SV → Bool
  | .s i => match posOf ids i with
    | some _ => false
    | none => true
  | .p i _ => match posOf ids i with
    | some _ => match gv σ i with
      | some (some _, _) => true
      | _ => false
    | none => true
  | .m i => match posOf ids i with
    | some _ => match gv σ i with
      | some (some _, _) => true
      | _ => false
    | none => true
  | _ => true
def okRefs (ids : List Nat) (σ : Own) : Env → Bool
  | [] => true
  | (_, x) :: r => match okRef ids σ x with
    | true => okRefs ids σ r
    | false => false
theorem okRefs_gv {ids : List Nat} {σ : Own} : ∀ {ρ : Env}, okRefs ids σ ρ = true → ∀ k sv, gv ρ k = some sv → okRef ids σ sv = true
  | [], _, k, sv, h => by simp [gv] at h
  | (j, x) :: r, hn, k, sv, h => by
    simp only [okRefs] at hn
    split at hn
    · rename_i hx
      simp only [gv] at h
      split at h
      · cases h; exact hx
      · exact okRefs_gv hn k sv h
    · cases hn
/-- the numbers that are known stay the same -/
def keepPins : List PO → List PO → Prop
  | [], _ => True
  | p :: l, q :: l' => (∀ b, p.1 = some b → q.1 = some b) ∧ keepPins l l'
  | _ :: _, [] => False
theorem keepPins_get : ∀ {l l' : List PO}, keepPins l l' → ∀ (i : Nat) (p : PO), l[i]? = some p → ∃ q, l'[i]? = some q ∧ ∀ b, p.1 = some b → q.1 = some b
  | [], l', _, i, p, h => by simp at h
  | p :: l, [], h, i, q, hi => h.elim
  | p :: l, q :: l', h, i, p', hi => by
    cases i with
    | zero => simp at hi; subst hi; exact ⟨q, by simp, h.1⟩
    | succ i => simpa using keepPins_get h.2 i p' (by simpa using hi)

section
variable {F : Fx} {ρ : Env} {σ : Own} {u : View} {Q : Post} {bk : Nat → Option Nat} {hd : Nat → Value} {a : Act} {w : World}

theorem RepAt.ops (h : RepAt F bk hd ρ σ u a w) : ∀ {xs : List Operand} {vs : List Value}, opvs ρ σ xs = some vs → xs.map a.eval = vs
  | [], vs, he => by simp only [opvs, Option.some.injEq] at he; subst he; rfl
  | x :: r, vs, he => by
    simp only [opvs] at he
    split at he
    · rename_i y hy
      split at he
      · rename_i l hl
        cases he
        obtain ⟨sv, h1, h2⟩ := Option.bind_eq_some_iff.1 hy
        simp [h.svV (h.opS h1) h2, h.ops hl]
      · cases he
    · cases he

/-- the things of l, taken out of the frame -/
theorem RepAt.ownsL (h : RepAt F bk hd ρ σ u a w) {ids : List Nat} {l : List PO} (hl : gvs σ ids = some l) (hnd : nodupb ids = true) :
    OwnsL w u (fun i => ((ids[i]?).bind bk)) (fun i => ((ids[i]?).map hd).getD undef) l := by
  refine ⟨?_, ?_, ?_⟩
  · intro i p hi
    obtain ⟨id, h1, h2⟩ := gvs_get hl i p hi
    simpa [h1] using h.own id p h2
  · intro i p b hi hb
    obtain ⟨id, h1, h2⟩ := gvs_get hl i p hi
    exact (h.fresh id p b h2 (by simpa [h1] using hb)).2
  · intro i j p q b hi hj hb hb'
    obtain ⟨id, h1, h2⟩ := gvs_get hl i p hi
    obtain ⟨id', h1', h2'⟩ := gvs_get hl j q hj
    have := h.inj id id' p q b h2 h2' (by simpa [h1] using hb) (by simpa [h1'] using hb')
    subst this
    exact nodupb_get hnd h1 h1'

theorem RepAt.called {u' : View} {w' : World} {l l' : List PO} {ids ids' : List Nat} {ρ' : Env} {bk' : Nat → Option Nat} {hd' : Nat → Value} (h : RepAt F bk hd ρ σ u a w) (hl : gvs σ ids = some l) (hnd : nodupb ids = true) (hnd' : nodupb ids' = true)
    (hnew : ∀ i, posOf ids' i ≠ none → posOf ids i = none → gv σ i = none ∧ noref i ρ' = true) (hpos : ∀ j i, posOf ids j = some i → posOf ids' j = some i) (hkp : keepPins l l') (hp : subE ρ' ρ) (hr : okRefs ids σ ρ' = true)
    (hA : Agree u' w') (hu : ∀ k, k < w.heap.size → ¬ HoldsL (fun i => ((ids[i]?).bind bk)) (fun i => ((ids[i]?).map hd).getD undef) l k → u' k = u k) (hw : Frame0 w (HoldsL (fun i => ((ids[i]?).bind bk)) (fun i => ((ids[i]?).map hd).getD undef) l) w') (hO : OwnsL w' u' bk' hd' l')
    (hN : ∀ b, HoldsL bk' hd' l' b → HoldsL (fun i => ((ids[i]?).bind bk)) (fun i => ((ids[i]?).map hd).getD undef) l b ∨ w.heap.size ≤ b) :
    ∃ bk2 hd2, RepAt F bk2 hd2 ρ' (zipO ids' l' ++ rms ids' σ) u' a w' ∧ (∀ j, posOf ids' j = none → bk2 j = bk j ∧ hd2 j = hd j) ∧ ∀ id p b, gv σ id = some p → posOf ids' id = none → p.2.holds (bk id) (hd id) b → w'.heap[b]? = w.heap[b]? := by
  obtain ⟨f1, f2, f3, f4, f5⟩ := h.frame
  obtain ⟨g1, g2, g3, g4, g5⟩ := hw
  have hin : ∀ b, HoldsL (fun i => ((ids[i]?).bind bk)) (fun i => ((ids[i]?).map hd).getD undef) l b → ∃ id p, gv σ id = some p ∧ p.2.holds (bk id) (hd id) b ∧ posOf ids id ≠ none := by
    rintro b ⟨i, p, hi, hb⟩
    obtain ⟨id, h1, h2⟩ := gvs_get hl i p hi
    exact ⟨id, p, h2, by simpa [h1] using hb, posOf_mem h1⟩
  have hnot : ∀ id p b, gv σ id = some p → posOf ids' id = none → p.2.holds (bk id) (hd id) b → ¬ HoldsL (fun i => ((ids[i]?).bind bk)) (fun i => ((ids[i]?).map hd).getD undef) l b := by
    intro id p b hi hpo hb hh
    obtain ⟨id2, p2, h1, h2, h3⟩ := hin b hh
    have := h.inj id id2 p p2 b hi h1 hb h2
    subst this
    obtain ⟨i, hi2⟩ := Option.ne_none_iff_exists'.1 h3
    rw [hpos _ _ hi2] at hpo; cases hpo
  have hcase : ∀ id p, gv (zipO ids' l' ++ rms ids' σ) id = some p → (∃ i, posOf ids' id = some i ∧ l'[i]? = some p) ∨ (posOf ids' id = none ∧ gv σ id = some p) := by
    intro id p hi
    rcases gv_append hi with hi | hi
    · exact .inl (gv_zipO hi)
    · exact .inr (gv_rms hi)
  refine ⟨fun j => match posOf ids' j with | some i => bk' i | none => bk j, fun j => match posOf ids' j with | some i => hd' i | none => hd j,
    ⟨h.size, h.defers, ⟨g1.trans f1, g2.trans f2, g3.trans f3, Nat.le_trans f4 g4, fun k hk hD => ?_⟩, hA, fun k hk hD => (hu k (by omega) (fun hh => by
      obtain ⟨id, p, h1, h2, _⟩ := hin k hh
      rcases (h.fresh id p k h1 h2).1 with x | x
      · exact hD x
      · omega)).trans (h.uold k hk hD), ?_, ?_, ?_, ?_⟩, fun j hj => by simp [hj], fun id p b hi hpo hb => g5 b ((h.own id p hi).lt hb) (hnot id p b hi hpo hb)⟩
  · refine (g5 k (by omega) ?_).trans (f5 k hk hD)
    intro hh
    obtain ⟨id, p, h1, h2, _⟩ := hin k hh
    rcases (h.fresh id p k h1 h2).1 with x | x
    · exact hD x
    · omega
  · intro k sv hk
    have hk0 := gv_subE hp k sv hk
    obtain ⟨x, hx, hs⟩ := h.slot k sv hk0
    refine ⟨x, hx, ?_⟩
    have hok := okRefs_gv hr k sv hk
    have key : ∀ id, (posOf ids id = none ∨ ∃ b o, gv σ id = some (some b, o)) → refs id sv = true → (match posOf ids' id with | some i => bk' i | none => bk id) = bk id := by
      intro id hid href
      cases hpo : posOf ids' id with
      | none => rfl
      | some i =>
        simp only
        cases hpo2 : posOf ids id with
        | none =>
          have := (hnew id (by rw [hpo]; simp) hpo2).2
          have := noref_gv this k sv hk
          rw [this] at href; cases href
        | some i2 =>
          have := hpos _ _ hpo2
          rw [hpo] at this; cases this
          rcases hid with hid | ⟨b, o, hid⟩
          · rw [hpo2] at hid; cases hid
          · obtain ⟨p, hp1, hp2⟩ := gvs_of hl i id (posOf_get hpo2)
            rw [hid] at hp2; cases hp2
            obtain ⟨q, hq1, hq2⟩ := keepPins_get hkp i _ hp1
            rw [(hO.own i q hq1).2 b (hq2 b rfl), (h.own id _ hid).2 b rfl]
    cases sv with
    | v y => exact hs
    | e y sz i off => exact hs
    | q => trivial
    | p id off =>
      have := key id (by
        simp only [okRef] at hok
        split at hok
        · split at hok
          · rename_i b o hg; exact .inr ⟨b, o, hg⟩
          · cases hok
        · rename_i hn; exact .inl hn) (by simp [refs])
      simp only [SVal] at hs ⊢
      rw [this]; exact hs
    | m id =>
      have := key id (by
        simp only [okRef] at hok
        split at hok
        · split at hok
          · rename_i b o hg; exact .inr ⟨b, o, hg⟩
          · cases hok
        · rename_i hn; exact .inl hn) (by simp [refs])
      simp only [SVal] at hs ⊢
      rw [this]; exact hs
    | s id =>
      simp only [okRef] at hok
      split at hok
      · cases hok
      · rename_i hn
        have : posOf ids' id = none := by
          cases hpo : posOf ids' id with
          | none => rfl
          | some i =>
            have := (hnew id (by rw [hpo]; simp) hn).2
            have := noref_gv this k _ hk
            simp [refs] at this
        simp only [SVal, this] at hs ⊢
        exact hs
  · intro id p hi
    rcases hcase id p hi with ⟨i, h1, h2⟩ | ⟨h1, h2⟩
    · simpa [h1] using hO.own i p h2
    · have := h.own id p h2
      simpa [h1] using this.grow fun k hk => g5 k (this.lt hk) (hnot id p k h2 h1 hk)
  · intro id p b hi hb
    rcases hcase id p hi with ⟨i, h1, h2⟩ | ⟨h1, h2⟩
    · simp only [h1] at hb
      refine ⟨?_, hO.free i p b h2 hb⟩
      rcases hN b ⟨i, p, h2, hb⟩ with hh | hh
      · obtain ⟨id2, p2, e1, e2, _⟩ := hin b hh
        exact (h.fresh id2 p2 b e1 e2).1
      · exact .inr (Nat.le_trans f4 hh)
    · simp only [h1] at hb
      have hlt := (h.own id p h2).lt hb
      exact ⟨(h.fresh id p b h2 hb).1, (hu b hlt (hnot id p b h2 h1 hb)).trans (h.fresh id p b h2 hb).2⟩
  · have cross : ∀ (id : Nat) (p : PO) (i : Nat) (q : PO) (b : Nat), gv σ id = some p → posOf ids' id = none → p.2.holds (bk id) (hd id) b → l'[i]? = some q → q.2.holds (bk' i) (hd' i) b → False := by
      intro id p i q b hi hpo hb hq hb'
      rcases hN b ⟨i, q, hq, hb'⟩ with hh | hh
      · exact hnot id p b hi hpo hb hh
      · exact absurd ((h.own id p hi).lt hb) (by omega)
    intro id id' p p' b hi hi' hb hb'
    rcases hcase id p hi with ⟨i, h1, h2⟩ | ⟨h1, h2⟩
    · rcases hcase id' p' hi' with ⟨i', h1', h2'⟩ | ⟨h1', h2'⟩
      · simp only [h1] at hb
        simp only [h1'] at hb'
        have := hO.inj i i' p p' b h2 h2' hb hb'
        subst this
        have e1 := posOf_get h1
        have e2 := posOf_get h1'
        rw [e1] at e2; cases e2; rfl
      · simp only [h1] at hb
        simp only [h1'] at hb'
        exact (cross id' p' i p b h2' h1' hb' h2 hb).elim
    · rcases hcase id' p' hi' with ⟨i', h1', h2'⟩ | ⟨h1', h2'⟩
      · simp only [h1] at hb
        simp only [h1'] at hb'
        exact (cross id p i' p' b h2 h1 hb h2' hb').elim
      · simp only [h1] at hb
        simp only [h1'] at hb'
        exact h.inj id id' p p' b h2 h2' hb hb'

/-- the ids behind a call: those of before, and new ones -/
def newIds (ids extra : List Nat) (σ : Own) (ρ : Env) : Bool :=
  nodupb (ids ++ extra) && extra.all fun i => (gv σ i).isNone && noref i ρ
theorem posOf_append : ∀ {ids extra : List Nat} {j i : Nat}, posOf ids j = some i → posOf (ids ++ extra) j = some i
  | [], extra, j, i, h => by simp [posOf] at h
  | k :: r, extra, j, i, h => by
    simp only [List.cons_append, posOf] at h ⊢
    split at h
    · rename_i hb; simp [← h]
    · rename_i hb
      split at h
      · rename_i n hn
        simp [posOf_append hn, ← h]
      · cases h
theorem posOf_extra : ∀ {ids extra : List Nat} {j : Nat}, posOf (ids ++ extra) j ≠ none → posOf ids j = none → j ∈ extra
  | [], extra, j, h, _ => by
    obtain ⟨i, hi⟩ := Option.ne_none_iff_exists'.1 h
    exact List.mem_of_getElem? (posOf_get hi)
  | k :: r, extra, j, h, hn => by
    simp only [List.cons_append, posOf] at h hn
    split at hn
    · cases hn
    · rename_i hb
      split at hn
      · cases hn
      · rename_i hn2
        refine posOf_extra (ids := r) ?_ hn2
        intro e
        simp [e, hb] at h

def noneOf (ids : List Nat) (σS : Own) : Bool := ids.all fun i => (gv σS i).isNone
/-- a call of a Go function, the things 'ids' handed over; 'extra': new ones that it hands back -/
theorem do_call_o {σS : Own} {K : Env → Own → View → Prop} {d : Nat} {ty : TypeId} {fo : Operand} {xs : List Operand} {ts : Array TypeId} {pos : String} {aft : Array Edge} {f : FuncId} {caps : List Value} {vs : List Value} {ρ' : Env} (ids extra : List Nat) {l : List PO} (hS : subO σS σ) (hid : noneOf ids σS = true)
    (hf : opv ρ fo = some (.v (.func (.func f) #[] caps.toArray))) (hvs : opvs ρ σ xs = some vs) (hc : canCall F.P f = true) (hn : Nat.blt d F.n = true) (hl : gvs σ ids = some l) (hp : subE ρ' ρ) (hnew : newIds ids extra σ ρ' = true) (hnd : nodupb ids = true) (hr : okRefs ids σ ρ' = true)
    (h : FnO F.P f (vs ++ caps) u l fun v u' l' => VLe u u' → keepPins l l' ∧ K ((d, .v v) :: ρ') (zipO (ids ++ extra) l' ++ rms (ids ++ extra) σ) u') :
    Does F σS ⟨some d, .call { callee := .value fo, args := xs.toArray, argTypes := ts }, ty, pos, aft, none⟩ ρ σ u K := by
  intro bk hd a w Q hR N hN
  have hrun : (execOp a.eval ⟨some d, .call { callee := .value fo, args := xs.toArray, argTypes := ts }, ty, pos, aft, none⟩).run F.P w = .ok (.enter f (vs ++ caps).toArray) w := by
    simp [execOp, resolve, hR.op hf, Deferred.ofValue, invoke, run_callFunc hc, hR.ops hvs]
  unfold Oper.wp
  rw [hrun]
  refine (h w _ _ hR.agree (hR.ownsL hl hnd)).mono ?_
  rintro e w' ⟨v, u', l', bk', hd', rfl, hk, hA, hu, hw, hO, hN'⟩
  have hle : VLe u u' := (hR.ownsL hl hnd).vle hR.agree hu
  obtain ⟨hk1, hk2⟩ := hk hle
  simp only [newIds, Bool.and_eq_true, List.all_eq_true] at hnew
  obtain ⟨bk2, hd2, hR2, hb2, hw2⟩ := hR.called (ρ' := ρ') hl hnd hnew.1 (fun i hi hi2 => by
    have := hnew.2 i (posOf_extra hi hi2)
    simpa using this) (fun j i hj => posOf_append hj) hk1 hp hr hA hu hw hO hN'
  have hno : ∀ id p, gv σS id = some p → posOf (ids ++ extra) id = none := by
    intro id p hi
    cases hpo : posOf (ids ++ extra) id with
    | none => rfl
    | some i =>
      cases hpo2 : posOf ids id with
      | none =>
        have := hnew.2 id (posOf_extra (by rw [hpo]; simp) hpo2)
        simp only [Bool.and_eq_true, Option.isNone_iff_eq_none] at this
        rw [gv_subO hS id p hi] at this; cases this.1
      | some i2 =>
        have := List.all_eq_true.1 hid id (List.mem_of_getElem? (posOf_get hpo2))
        rw [hi] at this; cases this
  refine hN _ _ _ _ _ _ _ hk2 (hR2.put (blt_lt hn) rfl) (fun x hx => same_of hle (fun id p hi => hb2 id (hno id p hi)) (fun id p b hi hb => hw2 id p b (gv_subO hS id p hi) (hno id p hi) hb) hx)

theorem RepAt.calledP {u' : View} {w' : World} {bk' : Nat → Option Nat} {hd' : Nat → Value} (h : RepAt F bk hd ρ σ u a w) (hA : Agree u' w') (hu : ∀ k, k < w.heap.size → ¬ HoldsL bk' hd' [] k → u' k = u k) (hw : Frame0 w (HoldsL bk' hd' []) w') : RepAt F bk hd ρ σ u' a w' := by
  have hw2 : Frame0 w noD w' := ⟨hw.1, hw.2.1, hw.2.2.1, hw.2.2.2.1, fun k hk _ => hw.2.2.2.2 k hk (fun ⟨i, p, hi, _⟩ => by simp at hi)⟩
  have h2 := h.grow hw2
  have hno : ∀ k, ¬ HoldsL bk' hd' [] k := fun k ⟨i, p, hi, _⟩ => by simp at hi
  exact ⟨h2.size, h2.defers, h2.frame, hA, fun k hk hD => (hu k (by have := h.frame.2.2.2.1; omega) (hno k)).trans (h.uold k hk hD), h2.slot, h2.own, fun id p b hi hb => ⟨(h2.fresh id p b hi hb).1, (hu b ((h.own id p hi).lt hb) (hno b)).trans (h2.fresh id p b hi hb).2⟩, h2.inj⟩
theorem ownsL_nil (w : World) (u : View) : OwnsL w u (fun _ => none) (fun _ => undef) [] := ⟨by simp, by simp, by simp⟩

/-- a call that writes nothing that was there -/
theorem do_call {σS : Own} {K : Env → Own → View → Prop} {d : Nat} {ty : TypeId} {fo : Operand} {xs : List Operand} {ts : Array TypeId} {pos : String} {aft : Array Edge} {f : FuncId} {caps : List Value} {vs : List Value} (hS : subO σS σ)
    (hf : opv ρ fo = some (.v (.func (.func f) #[] caps.toArray))) (hvs : opvs ρ σ xs = some vs) (hc : canCall F.P f = true) (hn : Nat.blt d F.n = true)
    (h : FnP F.P f (vs ++ caps) u fun v u' => VLe u u' → K ((d, .v v) :: ρ) σ u') :
    Does F σS ⟨some d, .call { callee := .value fo, args := xs.toArray, argTypes := ts }, ty, pos, aft, none⟩ ρ σ u K := by
  intro bk hd a w Q hR N hN
  have hrun : (execOp a.eval ⟨some d, .call { callee := .value fo, args := xs.toArray, argTypes := ts }, ty, pos, aft, none⟩).run F.P w = .ok (.enter f (vs ++ caps).toArray) w := by
    simp [execOp, resolve, hR.op hf, Deferred.ofValue, invoke, run_callFunc hc, hR.ops hvs]
  unfold Oper.wp
  rw [hrun]
  refine (h w _ _ hR.agree (ownsL_nil w u)).mono ?_
  rintro e w' ⟨v, u', l', bk', hd', rfl, ⟨_, hk⟩, hA, hu, hw, _⟩
  have hle : VLe u u' := (ownsL_nil w u).vle hR.agree hu
  refine hN _ _ _ _ _ _ _ (hk hle) ((hR.calledP hA hu hw).put (blt_lt hn) rfl) (fun x hx => same_of hle (fun _ _ _ => ⟨rfl, rfl⟩) (fun id p b hi hb => hw.2.2.2.2 b ((hR.own id p (gv_subO hS id p hi)).lt hb) (fun ⟨i, p, hi, _⟩ => by simp at hi)) hx)

/-- the same, what it made forgotten -/
theorem do_call_f {σS : Own} {K : Env → Own → View → Prop} {d : Nat} {ty : TypeId} {fo : Operand} {xs : List Operand} {ts : Array TypeId} {pos : String} {aft : Array Edge} {f : FuncId} {caps : List Value} {vs : List Value} (hS : subO σS σ)
    (hf : opv ρ fo = some (.v (.func (.func f) #[] caps.toArray))) (hvs : opvs ρ σ xs = some vs) (hc : canCall F.P f = true) (hn : Nat.blt d F.n = true)
    (h : FnP F.P f (vs ++ caps) u fun v _ => K ((d, .v v) :: ρ) σ u) :
    Does F σS ⟨some d, .call { callee := .value fo, args := xs.toArray, argTypes := ts }, ty, pos, aft, none⟩ ρ σ u K := by
  intro bk hd a w Q hR N hN
  have hrun : (execOp a.eval ⟨some d, .call { callee := .value fo, args := xs.toArray, argTypes := ts }, ty, pos, aft, none⟩).run F.P w = .ok (.enter f (vs ++ caps).toArray) w := by
    simp [execOp, resolve, hR.op hf, Deferred.ofValue, invoke, run_callFunc hc, hR.ops hvs]
  unfold Oper.wp
  rw [hrun]
  refine (h w _ _ hR.agree (ownsL_nil w u)).mono ?_
  rintro e w' ⟨v, u', l', bk', hd', rfl, ⟨_, hk⟩, hA, hu, hw, _⟩
  have hw2 : Frame0 w noD w' := ⟨hw.1, hw.2.1, hw.2.2.1, hw.2.2.2.1, fun k hk _ => hw.2.2.2.2 k hk (fun ⟨i, p, hi, _⟩ => by simp at hi)⟩
  refine hN _ _ _ _ _ _ _ hk ((hR.grow hw2).put (blt_lt hn) rfl) (fun x hx => same_of (VLe.refl u) (fun _ _ _ => ⟨rfl, rfl⟩) (fun id p b hi hb => hw2.2.2.2.2 b ((hR.own id p (gv_subO hS id p hi)).lt hb) (fun h => h)) hx)

/-! ### entering and leaving a function -/
def initE : Nat → List Value → Env
  | _, [] => []
  | i, x :: r => (i, .v x) :: initE (i + 1) r

theorem gv_initE : ∀ (args : List Value) (i k : Nat) (sv : SV), gv (initE i args) k = some sv → ∃ x j, sv = .v x ∧ k = i + j ∧ args[j]? = some x
  | [], i, k, sv, h => by simp [initE, gv] at h
  | x :: r, i, k, sv, h => by
    simp only [initE, gv] at h
    split at h
    · rename_i hb
      cases h
      exact ⟨x, 0, rfl, (Nat.eq_of_beq_eq_true hb).symm, rfl⟩
    · obtain ⟨y, j, h1, h2, h3⟩ := gv_initE r (i + 1) k sv h
      exact ⟨y, j + 1, h1, by omega, by simpa using h3⟩

/-- a slot that holds the address of a thing whose block is known -/
theorem RepAt.pin (h : RepAt F bk hd ρ σ u a w) {k id b off : Nat} {o : OO} (hk : gv ρ k = some (.v (.pointer (some ⟨b, off, none⟩)))) (hs : gv σ id = some (some b, o)) : RepAt F bk hd ((k, .p id off) :: ρ) σ u a w := by
  refine ⟨h.size, h.defers, h.frame, h.agree, h.uold, ?_, h.own, h.fresh, h.inj⟩
  intro j sv hj
  simp only [gv] at hj
  split at hj
  · rename_i hb
    have : k = j := Nat.eq_of_beq_eq_true hb
    subst this
    cases hj
    obtain ⟨x, hx, hv⟩ := h.slot k _ hk
    exact ⟨x, hx, b, (h.own id _ hs).2 b rfl, hv⟩
  · exact h.slot j sv hj
theorem RepAt.pinM (h : RepAt F bk hd ρ σ u a w) {k id b : Nat} {o : OO} (hk : gv ρ k = some (.v (.map (some b)))) (hs : gv σ id = some (some b, o)) : RepAt F bk hd ((k, .m id) :: ρ) σ u a w := by
  refine ⟨h.size, h.defers, h.frame, h.agree, h.uold, ?_, h.own, h.fresh, h.inj⟩
  intro j sv hj
  simp only [gv] at hj
  split at hj
  · rename_i hb
    have : k = j := Nat.eq_of_beq_eq_true hb
    subst this
    cases hj
    obtain ⟨x, hx, hv⟩ := h.slot k _ hk
    exact ⟨x, hx, b, (h.own id _ hs).2 b rfl, hv⟩
  · exact h.slot j sv hj
theorem wc_pin {c : Code} (k id b off : Nat) {o : OO} (hk : gv ρ k = some (.v (.pointer (some ⟨b, off, none⟩)))) (hs : gv σ id = some (some b, o)) (h : WC F c ((k, .p id off) :: ρ) σ u Q) : WC F c ρ σ u Q :=
  fun a w ⟨bk, hd, hR⟩ => h a w ⟨bk, hd, hR.pin hk hs⟩
theorem wc_pinM {c : Code} (k id b : Nat) {o : OO} (hk : gv ρ k = some (.v (.map (some b)))) (hs : gv σ id = some (some b, o)) (h : WC F c ((k, .m id) :: ρ) σ u Q) : WC F c ρ σ u Q :=
  fun a w ⟨bk, hd, hR⟩ => h a w ⟨bk, hd, hR.pinM hk hs⟩
theorem rl_pinS {ops : Array Oper} {l : List Oper} (k id b off : Nat) {o : OO} (hk : gv ρ k = some (.v (.pointer (some ⟨b, off, none⟩)))) (hs : gv σ id = some (some b, o)) (h : RL F ops l ((k, .p id off) :: ρ) σ u Q) : RL F ops l ρ σ u Q :=
  fun a w ⟨bk, hd, hR⟩ => h a w ⟨bk, hd, hR.pin hk hs⟩
theorem rl_pinSM {ops : Array Oper} {l : List Oper} (k id b : Nat) {o : OO} (hk : gv ρ k = some (.v (.map (some b)))) (hs : gv σ id = some (some b, o)) (h : RL F ops l ((k, .m id) :: ρ) σ u Q) : RL F ops l ρ σ u Q :=
  fun a w ⟨bk, hd, hR⟩ => h a w ⟨bk, hd, hR.pinM hk hs⟩

/-- the block's number is given a name -/
theorem RepAt.name (h : RepAt F bk hd ρ σ u a w) {id b : Nat} {p : PO} (hs : gv σ id = some p) (hb : bk id = some b) : RepAt F bk hd ρ ((id, (some b, p.2)) :: σ) u a w := by
  have hcase : ∀ id' q, gv ((id, (some b, p.2)) :: σ) id' = some q → ∃ q', gv σ id' = some q' ∧ q'.2 = q.2 ∧ (∀ c, q.1 = some c → q'.1 = some c ∨ (id' = id ∧ c = b)) := by
    intro id' q hi
    simp only [gv] at hi
    split at hi
    · rename_i hbq
      cases hi
      have := Nat.eq_of_beq_eq_true hbq
      subst this
      exact ⟨p, hs, rfl, fun c hc => .inr ⟨rfl, by cases hc; rfl⟩⟩
    · exact ⟨q, hi, rfl, fun c hc => .inl hc⟩
  refine ⟨h.size, h.defers, h.frame, h.agree, h.uold, h.slot, ?_, ?_, ?_⟩
  · intro id' q hi
    obtain ⟨q', h1, h2, h3⟩ := hcase id' q hi
    have := h.own id' q' h1
    refine ⟨h2 ▸ this.1, fun c hc => ?_⟩
    rcases h3 c hc with hc | ⟨rfl, rfl⟩
    · exact this.2 c hc
    · exact hb
  · intro id' q c hi hc
    obtain ⟨q', h1, h2, h3⟩ := hcase id' q hi
    exact h.fresh id' q' c h1 (h2 ▸ hc)
  · intro i j p q c hi hj hc hc'
    obtain ⟨q', h1, h2, _⟩ := hcase i p hi
    obtain ⟨q2, h1', h2', _⟩ := hcase j q hj
    exact h.inj i j q' q2 c h1 h1' (h2 ▸ hc) (h2' ▸ hc')
theorem rl_name {ops : Array Oper} {l : List Oper} (id : Nat) {pn : Option Nat} {o : OO} (hs : gv σ id = some (pn, o)) (ho : ∃ k off, gv ρ k = some (.p id off) ∨ gv ρ k = some (.m id)) (h : ∀ b, RL F ops l ρ ((id, (some b, o)) :: σ) u Q) : RL F ops l ρ σ u Q := by
  rintro a w ⟨bk, hd, hR⟩
  obtain ⟨k, off, ho⟩ := ho
  have : ∃ b, bk id = some b := by
    rcases ho with ho | ho
    · obtain ⟨x, _, b, hb, _⟩ := hR.slot k _ ho; exact ⟨b, hb⟩
    · obtain ⟨x, _, b, hb, _⟩ := hR.slot k _ ho; exact ⟨b, hb⟩
  obtain ⟨b, hb⟩ := this
  exact h b a w ⟨bk, hd, hR.name hs hb⟩

/-- what a result variable holds -/
inductive ResV (P : Program) (ρ : Env) (σ : Own) : ResultVar → Value → Prop
  | tmp {t : Tmp} {x : Value} (h : (gv ρ t).bind (svV σ) = some x) : ResV P ρ σ (.tmp t) x
  | cell {t : Tmp} {T : TypeId} {id : Nat} {cs vs : List Value} {g : Bool} {n : Nat} {z : Value} {pn : Option Nat} (h : gv ρ t = some (.p id 0)) (ho : gv σ id = some (pn, .box cs)) (hk : tyK P T = some (g, n)) (hc : cut cs 0 n = vs) (hl : vs.length = n) (hz : packV g vs = some z) : ResV P ρ σ (.cell t T) z

theorem RepAt.res (h : RepAt F bk hd ρ σ u a w) {r : ResultVar} {x : Value} (hr : ResV F.P ρ σ r x) :
    (match r with | .tmp t => pure (a.tmps.getD t undef) | .cell t T => do loadVar T (← asAddr (a.tmps.getD t undef)) : Sem Value).run F.P w = .ok x w := by
  cases hr with
  | tmp h1 =>
    obtain ⟨sv, h1, h2⟩ := Option.bind_eq_some_iff.1 h1
    obtain ⟨y, hy, hs⟩ := h.slot _ _ h1
    have := h.svV hs h2
    subst this
    simp [Array.getD_eq_getD_getElem?, hy]
  | cell h1 ho hk hc hl hz =>
    obtain ⟨y, hy, b, hb, rfl⟩ := h.slot _ _ h1
    obtain ⟨⟨b', T', hb', hh⟩, _⟩ := h.own _ _ ho
    rw [hb] at hb'; cases hb'
    simp [Array.getD_eq_getD_getElem?, hy, asAddr, run_loadVar_cut hk hh (by simpa using hc) hl hz]

inductive ResAll (P : Program) (ρ : Env) (σ : Own) : List ResultVar → List Value → Prop
  | nil : ResAll P ρ σ [] []
  | cons {r : ResultVar} {x : Value} {rs : List ResultVar} {xs : List Value} (h : ResV P ρ σ r x) (t : ResAll P ρ σ rs xs) : ResAll P ρ σ (r :: rs) (x :: xs)

/-- what comes back: one value as it is, otherwise a tuple -/
def retV : List Value → Value
  | [x] => x
  | xs => .tuple xs.toArray

theorem RepAt.resAll (h : RepAt F bk hd ρ σ u a w) : ∀ {rs : List ResultVar} {xs : List Value}, ResAll F.P ρ σ rs xs →
    (rs.mapM fun | .tmp t => pure (a.tmps.getD t undef) | .cell p t => do loadVar t (← asAddr (a.tmps.getD p undef)) : Sem (List Value)).run F.P w = .ok xs w
  | _, _, .nil => rfl
  | _, _, .cons hr ht => by
    have h1 := h.res hr
    have h2 := h.resAll ht
    rw [List.mapM_cons, Sem.run_bind]
    split at h1 <;> simp_all

theorem run_results {fn : Func} {rs : List ResultVar} {xs : List Value} (h : RepAt F bk hd ρ σ u a w) (hrs : fn.results = rs.toArray) (hx : ResAll F.P ρ σ rs xs) : (results fn a.tmps).run F.P w = .ok (retV xs) w := by
  have := h.resAll hx
  unfold results
  rw [Sem.run_bind, hrs, List.mapM_toArray, Sem.run_map]
  refine Eq.trans (congrArg (fun Y : Result (List Value) => (Y.andThen fun a w' => Result.ok a.toArray w').andThen fun a w' => Sem.run F.P (pure (if h : a.size = 1 then a[0] else Value.tuple a)) w') this) ?_
  simp only [Result.andThen_ok, Sem.run_pure]
  match xs with
  | [] => rfl
  | [x] => rfl
  | x :: y :: r => rfl

theorem retAux {P : Program} {fn : Func} {R : Ending → World → Prop} {a : Act} {w : World} {e : Exit} {v : Value} (he : e = .normal ∨ e = .ret) (hd : a.defers = []) (hr : (results fn a.tmps).run P w = .ok v w) (hR : R (.returned v) w) : bodyPost P fn R e a w := by
  rcases he with rfl | rfl <;> exact ⟨hd, v, hr, hR⟩

/-- the names of what came in: from 1000 on -/
def inIds : Nat → List PO → List Nat
  | _, [] => []
  | i, _ :: r => i :: inIds (i + 1) r
theorem inIds_get : ∀ {l : List PO} {k i : Nat} {p : PO}, l[i]? = some p → (inIds k l)[i]? = some (k + i)
  | [], k, i, p, h => by simp at h
  | q :: l, k, i, p, h => by
    cases i with
    | zero => simp [inIds]
    | succ i =>
      have := inIds_get (k := k + 1) (i := i) (l := l) (p := p) (by simpa using h)
      simp only [inIds, List.getElem?_cons_succ]
      rw [this]; congr 1; omega
theorem posOf_inIds : ∀ {l : List PO} {k j i : Nat}, posOf (inIds k l) j = some i → j = k + i
  | [], k, j, i, h => by simp [inIds, posOf] at h
  | q :: l, k, j, i, h => by
    simp only [inIds, posOf] at h
    split at h
    · rename_i hb; cases h; exact (Nat.eq_of_beq_eq_true hb).symm
    · split at h
      · rename_i n hn
        cases h
        have := posOf_inIds hn
        omega
      · cases h

/-- how a body ends -/
def FinO (P : Program) (rs : List ResultVar) (l : List PO) (R : Value → View → List PO → Prop) : Post :=
  fun e ρ σ u => (e = .normal ∨ e = .ret) ∧ ∃ xs ids l', ResAll P ρ σ rs xs ∧ gvs σ ids = some l' ∧ nodupb ids = true ∧ R (retV xs) u l'
theorem np_finO {P : Program} {rs : List ResultVar} {l : List PO} {R : Value → View → List PO → Prop} : noPanic (FinO P rs l R) := fun c ρ σ u h => by rcases h.1 with h | h <;> cases h

/-- **A function's body.** -/
theorem FnO.intro {P : Program} {f : FuncId} {fn : Func} {c : Code} {args : List Value} {u : View} {l : List PO} {R : Value → View → List PO → Prop} (rs : List ResultVar) (hf : P.funcs[f]? = some fn) (hb : fn.body = some c) (hrs : fn.results = rs.toArray) (hn : Nat.ble args.length fn.ntmps = true)
    (h : ∀ (w0 : World) (D : Nat → Prop), (∀ k o, u k = some o → k < w0.heap.size) → WC ⟨P, fn.ntmps, w0, D, u, [], none⟩ c (initE 0 args) (zipO (inIds 1000 l) l) u (FinO P rs l R)) : FnO P f args u l R := by
  intro w bk0 hd0 hA hO
  refine calls_of_wp hf hb ((wpIn_wide (n := 0)).1 (Go.wpIn_mono (h w (HoldsL bk0 hd0 l) (fun k o hk => hA.lt hk) _ w ⟨fun j => bk0 (j - 1000), fun j => hd0 (j - 1000), ?_⟩) ?_))
  · have hz : ∀ id p, gv (zipO (inIds 1000 l) l) id = some p → l[id - 1000]? = some p ∧ 1000 ≤ id := by
      intro id p hi
      obtain ⟨i, h1, h2⟩ := gv_zipO hi
      have := posOf_inIds h1
      subst this
      exact ⟨by rw [Nat.add_sub_cancel_left]; exact h2, by omega⟩
    refine ⟨by have := Nat.le_of_ble_eq_true hn; simp; omega, rfl, Frame0.refl _ _, hA, fun _ _ _ => rfl, ?_, ?_, ?_, ?_⟩
    · intro k sv hk
      obtain ⟨x, j, rfl, rfl, hj⟩ := gv_initE args 0 k sv hk
      refine ⟨x, ?_, rfl⟩
      have hlt : j < args.length := (List.getElem?_eq_some_iff.1 hj).1
      simp [Array.getElem?_append, hlt]; exact (List.getElem?_eq_some_iff.1 hj).2
    · intro id p hi
      exact hO.own _ p (hz id p hi).1
    · intro id p b hi hb
      obtain ⟨h1, _⟩ := hz id p hi
      exact ⟨.inl ⟨_, p, h1, hb⟩, hO.free _ p b h1 hb⟩
    · intro id id' p p' b hi hi' hb hb'
      obtain ⟨h1, h2⟩ := hz id p hi
      obtain ⟨h1', h2'⟩ := hz id' p' hi'
      have := hO.inj _ _ p p' b h1 h1' hb hb'
      omega
  · rintro e a w' ⟨ρ, σ, u', ⟨bk, hd, hR⟩, he, xs, ids, l', hx, hl, hnd, hr⟩
    have hown := hR.ownsL hl hnd
    refine retAux he hR.defers (run_results (F := ⟨P, fn.ntmps, w, HoldsL bk0 hd0 l, u, [], none⟩) hR hrs hx) ⟨retV xs, u', l', _, _, rfl, hr, hR.agree, hR.uold, hR.frame, hown, ?_⟩
    rintro b ⟨i, p, hi, hb⟩
    obtain ⟨id, h1, h2⟩ := gvs_get hl i p hi
    exact (hR.fresh id p b h2 (by simpa [h1] using hb)).1

def Fin (P : Program) (rs : List ResultVar) (R : Value → View → Prop) : Post := FinO P rs [] fun v u l' => l' = [] ∧ R v u
theorem np_fin {P : Program} {rs : List ResultVar} {R : Value → View → Prop} : noPanic (Fin P rs R) := np_finO

theorem FnP.intro {P : Program} {f : FuncId} {fn : Func} {c : Code} {args : List Value} {u : View} {R : Value → View → Prop} (rs : List ResultVar) (hf : P.funcs[f]? = some fn) (hb : fn.body = some c) (hrs : fn.results = rs.toArray) (hn : Nat.ble args.length fn.ntmps = true)
    (h : ∀ (w0 : World) (D : Nat → Prop), (∀ k o, u k = some o → k < w0.heap.size) → WC ⟨P, fn.ntmps, w0, D, u, [], none⟩ c (initE 0 args) [] u (Fin P rs R)) : FnP P f args u R :=
  FnO.intro rs hf hb hrs hn h

section
variable {P : Program} {ρ : Env} {σ : Own} {u : View} {R : Value → View → Prop}
theorem fin0 (h : R (.tuple #[]) u) : Fin P [] R .ret ρ σ u := ⟨.inr rfl, [], [], [], .nil, rfl, rfl, rfl, h⟩
theorem fin0n (h : R (.tuple #[]) u) : Fin P [] R .normal ρ σ u := ⟨.inl rfl, [], [], [], .nil, rfl, rfl, rfl, h⟩
theorem fin1 {r : ResultVar} {x : Value} (h : ResV P ρ σ r x) (hr : R x u) : Fin P [r] R .ret ρ σ u := ⟨.inr rfl, [x], [], [], .cons h .nil, rfl, rfl, rfl, hr⟩
theorem fin2 {r r2 : ResultVar} {x x2 : Value} (h : ResV P ρ σ r x) (h2 : ResV P ρ σ r2 x2) (hr : R (.tuple #[x, x2]) u) : Fin P [r, r2] R .ret ρ σ u := ⟨.inr rfl, [x, x2], [], [], .cons h (.cons h2 .nil), rfl, rfl, rfl, hr⟩
theorem fin3 {r r2 r3 : ResultVar} {x x2 x3 : Value} (h : ResV P ρ σ r x) (h2 : ResV P ρ σ r2 x2) (h3 : ResV P ρ σ r3 x3) (hr : R (.tuple #[x, x2, x3]) u) : Fin P [r, r2, r3] R .ret ρ σ u := ⟨.inr rfl, [x, x2, x3], [], [], .cons h (.cons h2 (.cons h3 .nil)), rfl, rfl, rfl, hr⟩
end
section
variable {P : Program} {ρ : Env} {σ : Own} {u : View} {l l' : List PO} {R : Value → View → List PO → Prop}
/-- ids: the names of what is handed back -/
theorem finO0 (ids : List Nat) (hl : gvs σ ids = some l') (hnd : nodupb ids = true) (h : R (.tuple #[]) u l') : FinO P [] l R .ret ρ σ u := ⟨.inr rfl, [], ids, l', .nil, hl, hnd, h⟩
theorem finO0n (ids : List Nat) (hl : gvs σ ids = some l') (hnd : nodupb ids = true) (h : R (.tuple #[]) u l') : FinO P [] l R .normal ρ σ u := ⟨.inl rfl, [], ids, l', .nil, hl, hnd, h⟩
theorem finO1 (ids : List Nat) {r : ResultVar} {x : Value} (hx : ResV P ρ σ r x) (hl : gvs σ ids = some l') (hnd : nodupb ids = true) (h : R x u l') : FinO P [r] l R .ret ρ σ u := ⟨.inr rfl, [x], ids, l', .cons hx .nil, hl, hnd, h⟩
theorem finO2 (ids : List Nat) {r r2 : ResultVar} {x x2 : Value} (hx : ResV P ρ σ r x) (h2 : ResV P ρ σ r2 x2) (hl : gvs σ ids = some l') (hnd : nodupb ids = true) (h : R (.tuple #[x, x2]) u l') : FinO P [r, r2] l R .ret ρ σ u := ⟨.inr rfl, [x, x2], ids, l', .cons hx (.cons h2 .nil), hl, hnd, h⟩
end
end
end Go.Eng
