/- The engine's rules for calls, for slices that grow, and for blocks that change hands. -/
import Derived.Test.YtchmiljeidkkpaaEngEff
namespace Go.Eng
open Go Go.RowKit

/-- 'f called with these values returns, and R holds of what it returns': u is what nobody writes, μ is memory that f may write -/
def Fn (P : Program) (f : FuncId) (args : List Value) (u : View) (μ : Mem) (R : Value → View → Mem → Prop) : Prop :=
  ∀ w, Agree u w → (∀ b o, (b, o) ∈ μ → w.heap[b]? = some o ∧ u b = none) →
    Calls P f args.toArray w fun e w' => ∃ v u' μ', e = .returned v ∧ R v u' μ' ∧ Agree u' w' ∧ (∀ k, k < w.heap.size → u' k = u k) ∧
      Frame0 w (μ.map (·.1)) w' ∧ (∀ b o, (b, o) ∈ μ' → w'.heap[b]? = some o ∧ u' b = none ∧ (b ∈ μ.map (·.1) ∨ w.heap.size ≤ b))

/-- a call that writes nothing that was there -/
def FnP (P : Program) (f : FuncId) (args : List Value) (u : View) (R : Value → View → Prop) : Prop :=
  Fn P f args u [] fun v u' _ => R v u' ∧ VLe u u'

theorem Fn.mono {P : Program} {f : FuncId} {args : List Value} {u : View} {μ : Mem} {R R' : Value → View → Mem → Prop} (h : Fn P f args u μ R') (hr : ∀ v u' μ', R' v u' μ' → R v u' μ') : Fn P f args u μ R :=
  fun w hA hM => (h w hA hM).mono fun _ _ ⟨v, u', μ', he, hR, rest⟩ => ⟨v, u', μ', he, hr _ _ _ hR, rest⟩
theorem FnP.mono {P : Program} {f : FuncId} {args : List Value} {u : View} {R R' : Value → View → Prop} (h : FnP P f args u R') (hr : ∀ v u', VLe u u' → R' v u' → R v u') : FnP P f args u R :=
  Fn.mono h fun _ _ _ ⟨h1, h2⟩ => ⟨hr _ _ h2 h1, h2⟩

def canCall (P : Program) (f : FuncId) : Bool :=
  match P.funcs[f]? with
  | some fn => !(fn.name == "runtime.NumGoroutine") && !fn.body.isNone
  | none => false

theorem run_callFunc {P : Program} {f : FuncId} (h : canCall P f = true) (args : Array Value) (w : World) : (callFunc f args).run P w = .ok (.enter f args) w := by
  unfold canCall at h
  split at h
  · rename_i fn hf
    simp only [Bool.and_eq_true, Bool.not_eq_true', beq_eq_false_iff_ne, ne_eq] at h
    obtain ⟨h1, h2⟩ := h
    simp only [callFunc, Sem.run_bind, run_program, Result.andThen_ok, hf]
    simp only [h1, h2, beq_iff_eq, if_false, Bool.false_eq_true]
    rfl
  · cases h

def opvs (ρ : Env) : List Operand → Option (List Value)
  | [] => some []
  | x :: r => match opv ρ x with
    | some (.v y) => match opvs ρ r with
      | some l => some (y :: l)
      | none => none
    | _ => none

section
variable {F : Fx} {ρ : Env} {σ : Own} {u : View} {μ : Mem} {Q : Post} {bk : Nat → Option Nat} {hd : Nat → Value} {a : Act} {w : World}

theorem RepAt.ops (h : RepAt F bk hd ρ σ u μ a w) : ∀ {xs : List Operand} {vs : List Value}, opvs ρ xs = some vs → xs.map a.eval = vs
  | [], vs, he => by simp only [opvs, Option.some.injEq] at he; subst he; rfl
  | x :: r, vs, he => by
    simp only [opvs] at he
    split at he
    · rename_i y hy
      split at he
      · rename_i l hl
        cases he
        simp [h.op hy, h.ops hl]
      · cases he
    · cases he

theorem RepAt.called {u' : View} {μ1 μ2 μ' : Mem} {w' : World} (h : RepAt F bk hd ρ σ u μ a w) (h1 : ∀ x ∈ μ1, x ∈ μ) (h2 : ∀ x ∈ μ2, x ∈ μ ∧ x.1 ∉ μ1.map (·.1))
    (hA : Agree u' w') (hu : ∀ k, k < w.heap.size → u' k = u k) (hw : Frame0 w (μ1.map (·.1)) w') (hM : ∀ b o, (b, o) ∈ μ' → w'.heap[b]? = some o ∧ u' b = none ∧ (b ∈ μ1.map (·.1) ∨ w.heap.size ≤ b)) :
    RepAt F bk hd ρ σ u' (μ' ++ μ2) a w' := by
  obtain ⟨f1, f2, f3, f4, f5⟩ := h.frame
  obtain ⟨g1, g2, g3, g4, g5⟩ := hw
  have hin : ∀ b, b ∈ μ1.map (·.1) → ∃ o, (b, o) ∈ μ := fun b hb => by
    obtain ⟨x, hx, rfl⟩ := List.mem_map.1 hb
    exact ⟨x.2, h1 x hx⟩
  have hlt : ∀ b o, (b, o) ∈ μ → b < w.heap.size := fun b o hb => (Array.getElem?_eq_some_iff.1 (h.mem b o hb).1).1
  have hown : ∀ id o b, gv σ id = some o → bk id = some b → b < w.heap.size ∧ b ∉ μ1.map (·.1) := fun id o b hi hb =>
    ⟨(h.own id o hi).lt hb, fun hm => let ⟨o', ho'⟩ := hin b hm; (h.fresh id o b hi hb).2.2 o' ho'⟩
  refine ⟨h.size, h.defers, ⟨g1.trans f1, g2.trans f2, g3.trans f3, Nat.le_trans f4 g4, fun k hk hD => ?_⟩, hA, fun k hk => (hu k (by omega)).trans (h.uold k hk), ?_, h.slot, ?_, ?_, h.inj⟩
  · by_cases hm : k ∈ μ1.map (·.1)
    · obtain ⟨o, ho⟩ := hin k hm
      exact ((h.mem k o ho).2.2.elim (fun hd => absurd hd hD) (fun hge => absurd hge (by omega)))
    · exact (g5 k (by omega) hm).trans (f5 k hk hD)
  · intro b o hb
    rcases List.mem_append.1 hb with hb | hb
    · obtain ⟨m1, m2, m3⟩ := hM b o hb
      refine ⟨m1, m2, ?_⟩
      rcases m3 with m3 | m3
      · obtain ⟨o', ho'⟩ := hin b m3
        exact (h.mem b o' ho').2.2
      · exact .inr (by omega)
    · obtain ⟨hb1, hb2⟩ := h2 _ hb
      obtain ⟨m1, m2, m3⟩ := h.mem b o hb1
      exact ⟨(g5 b (hlt b o hb1) hb2).trans m1, (hu b (hlt b o hb1)).trans m2, m3⟩
  · intro id o hi
    exact (h.own id o hi).grow fun k hk => g5 k (hown id o k hi hk).1 (hown id o k hi hk).2
  · intro id o b hi hb
    obtain ⟨x1, x2, x3⟩ := h.fresh id o b hi hb
    obtain ⟨y1, y2⟩ := hown id o b hi hb
    refine ⟨x1, (hu b y1).trans x2, fun o' ho' => ?_⟩
    rcases List.mem_append.1 ho' with ho' | ho'
    · exact (hM b o' ho').2.2.elim y2 (fun hge => absurd hge (by omega))
    · exact x3 o' (h2 _ ho').1

/-- a call of a Go function; it may write the blocks of μ1 -/
theorem rl_call_m {ops : Array Oper} {rest : List Oper} {d : Nat} {ty : TypeId} {fo : Operand} {xs : List Operand} {ts : Array TypeId} {pos : String} {aft : Array Edge} {f : FuncId} {caps : List Value} {vs : List Value} (μ1 μ2 : Mem)
    (hf : opv ρ fo = some (.v (.func (.func f) #[] caps.toArray))) (hvs : opvs ρ xs = some vs) (hc : canCall F.P f = true) (hn : Nat.blt d F.n = true)
    (h1 : ∀ x ∈ μ1, x ∈ μ) (h2 : ∀ x ∈ μ2, x ∈ μ ∧ x.1 ∉ μ1.map (·.1))
    (h : Fn F.P f (vs ++ caps) u μ1 fun v u' μ' => VLe u u' → RL F ops rest ((d, .v v) :: ρ) σ u' (μ' ++ μ2) Q) :
    RL F ops (⟨some d, .call { callee := .value fo, args := xs.toArray, argTypes := ts }, ty, pos, aft, none⟩ :: rest) ρ σ u μ Q := by
  rintro a w ⟨bk, hd, hR⟩
  refine wpList_plain rfl fun K hK => ?_
  have hrun : (execOp a.eval ⟨some d, .call { callee := .value fo, args := xs.toArray, argTypes := ts }, ty, pos, aft, none⟩).run F.P w = .ok (.enter f (vs ++ caps).toArray) w := by
    simp [execOp, resolve, hR.op hf, Deferred.ofValue, invoke, run_callFunc hc, hR.ops hvs]
  unfold Oper.wp
  rw [hrun]
  refine (h w hR.agree (fun b o hb => let ⟨m1, m2, _⟩ := hR.mem b o (h1 _ hb); ⟨m1, m2⟩)).mono ?_
  rintro e w' ⟨v, u', μ', rfl, hk, hA, hu, hw, hM⟩
  have hle : VLe u u' := fun k o hko => (hu k (hR.agree.lt hko)).trans hko
  exact hK _ _ (hk hle _ _ ⟨bk, hd, (hR.called h1 h2 hA hu hw hM).put (blt_lt hn) rfl⟩)

/-- a call that writes nothing that was there -/
theorem rl_call {ops : Array Oper} {rest : List Oper} {d : Nat} {ty : TypeId} {fo : Operand} {xs : List Operand} {ts : Array TypeId} {pos : String} {aft : Array Edge} {f : FuncId} {caps : List Value} {vs : List Value}
    (hf : opv ρ fo = some (.v (.func (.func f) #[] caps.toArray))) (hvs : opvs ρ xs = some vs) (hc : canCall F.P f = true) (hn : Nat.blt d F.n = true)
    (h : FnP F.P f (vs ++ caps) u fun v u' => VLe u u' → RL F ops rest ((d, .v v) :: ρ) σ u' μ Q) :
    RL F ops (⟨some d, .call { callee := .value fo, args := xs.toArray, argTypes := ts }, ty, pos, aft, none⟩ :: rest) ρ σ u μ Q :=
  rl_call_m [] μ hf hvs hc hn (by simp) (fun x hx => ⟨hx, by simp⟩) (Fn.mono h fun v u' μ' ⟨hr, _⟩ hle => fun a w hR => hr hle a w (by
    obtain ⟨bk, hd, hR⟩ := hR
    exact ⟨bk, hd, hR.size, hR.defers, hR.frame, hR.agree, hR.uold, fun b o hb => hR.mem b o (List.mem_append_right _ hb), hR.slot, hR.own, fun id o b hi hb => let ⟨x1, x2, x3⟩ := hR.fresh id o b hi hb; ⟨x1, x2, fun o' ho' => x3 o' (List.mem_append_right _ ho')⟩, hR.inj⟩))

/-! ### entering and leaving a function -/
def initE : Nat → List Value → Env
  | _, [] => []
  | i, x :: r => (i, .v x) :: initE (i + 1) r

theorem gv_initE : ∀ (args : List Value) (i k : Nat) (sv : SV), gv (initE i args) k = some sv → ∃ x j, sv = .v x ∧ k = i + j ∧ args[j]? = some x
  | [], i, k, sv, h => by simp [initE, gv] at h
  | x :: r, i, k, sv, h => by
    simp only [initE, gv] at h
    split at h
    · rename_i hb
      cases h
      exact ⟨x, 0, rfl, (Nat.eq_of_beq_eq_true hb).symm, rfl⟩
    · obtain ⟨y, j, h1, h2, h3⟩ := gv_initE r (i + 1) k sv h
      exact ⟨y, j + 1, h1, by omega, by simpa using h3⟩

/-- what a result variable holds -/
inductive ResV (P : Program) (ρ : Env) (σ : Own) : ResultVar → Value → Prop
  | tmp {t : Tmp} {x : Value} (h : gv ρ t = some (.v x)) : ResV P ρ σ (.tmp t) x
  | cell {t : Tmp} {T : TypeId} {id : Nat} {cs vs : List Value} {g : Bool} {n : Nat} {z : Value} (h : gv ρ t = some (.p id 0)) (ho : gv σ id = some (.box cs)) (hk : tyK P T = some (g, n)) (hc : cut cs 0 n = vs) (hl : vs.length = n) (hz : packV g vs = some z) : ResV P ρ σ (.cell t T) z

theorem RepAt.res (h : RepAt F bk hd ρ σ u μ a w) {r : ResultVar} {x : Value} (hr : ResV F.P ρ σ r x) :
    (match r with | .tmp t => pure (a.tmps.getD t undef) | .cell t T => do loadVar T (← asAddr (a.tmps.getD t undef)) : Sem Value).run F.P w = .ok x w := by
  cases hr with
  | tmp h1 =>
    obtain ⟨y, hy, hs⟩ := h.slot _ _ h1
    cases hs
    simp [Array.getD_eq_getD_getElem?, hy]
  | cell h1 ho hk hc hl hz =>
    obtain ⟨y, hy, b, hb, rfl⟩ := h.slot _ _ h1
    obtain ⟨b', T', hb', hh⟩ := h.own _ _ ho
    rw [hb] at hb'; cases hb'
    simp [Array.getD_eq_getD_getElem?, hy, asAddr, run_loadVar_cut hk hh (by simpa using hc) hl hz]

inductive ResAll (P : Program) (ρ : Env) (σ : Own) : List ResultVar → List Value → Prop
  | nil : ResAll P ρ σ [] []
  | cons {r : ResultVar} {x : Value} {rs : List ResultVar} {xs : List Value} (h : ResV P ρ σ r x) (t : ResAll P ρ σ rs xs) : ResAll P ρ σ (r :: rs) (x :: xs)

/-- what comes back: one value as it is, otherwise a tuple -/
def retV : List Value → Value
  | [x] => x
  | xs => .tuple xs.toArray

theorem RepAt.resAll (h : RepAt F bk hd ρ σ u μ a w) : ∀ {rs : List ResultVar} {xs : List Value}, ResAll F.P ρ σ rs xs →
    (rs.mapM fun | .tmp t => pure (a.tmps.getD t undef) | .cell p t => do loadVar t (← asAddr (a.tmps.getD p undef)) : Sem (List Value)).run F.P w = .ok xs w
  | _, _, .nil => rfl
  | _, _, .cons hr ht => by
    have h1 := h.res hr
    have h2 := h.resAll ht
    rw [List.mapM_cons, Sem.run_bind]
    split at h1 <;> simp_all

theorem run_results {fn : Func} {rs : List ResultVar} {xs : List Value} (h : RepAt F bk hd ρ σ u μ a w) (hrs : fn.results = rs.toArray) (hx : ResAll F.P ρ σ rs xs) : (results fn a.tmps).run F.P w = .ok (retV xs) w := by
  have := h.resAll hx
  unfold results
  rw [Sem.run_bind, hrs, List.mapM_toArray, Sem.run_map]
  refine Eq.trans (congrArg (fun Y : Result (List Value) => (Y.andThen fun a w' => Result.ok a.toArray w').andThen fun a w' => Sem.run F.P (pure (if h : a.size = 1 then a[0] else Value.tuple a)) w') this) ?_
  simp only [Result.andThen_ok, Sem.run_pure]
  match xs with
  | [] => rfl
  | [x] => rfl
  | x :: y :: r => rfl

theorem retAux {P : Program} {fn : Func} {R : Ending → World → Prop} {a : Act} {w : World} {e : Exit} {v : Value} (he : e = .normal ∨ e = .ret) (hd : a.defers = []) (hr : (results fn a.tmps).run P w = .ok v w) (hR : R (.returned v) w) : bodyPost P fn R e a w := by
  rcases he with rfl | rfl <;> exact ⟨hd, v, hr, hR⟩

/-- **A function's body.** -/
theorem Fn.intro {P : Program} {f : FuncId} {fn : Func} {c : Code} {args : List Value} {u : View} {μ : Mem} {R : Value → View → Mem → Prop} (rs : List ResultVar) (hf : P.funcs[f]? = some fn) (hb : fn.body = some c) (hrs : fn.results = rs.toArray) (hn : args.length ≤ fn.ntmps)
    (h : ∀ w0 : World, (∀ k o, u k = some o → k < w0.heap.size) → (∀ b o, (b, o) ∈ μ → b < w0.heap.size) → WC ⟨P, fn.ntmps, w0, μ.map (·.1), u, []⟩ c (initE 0 args) [] u μ (fun e ρ σ u' μ' => (e = .normal ∨ e = .ret) ∧ ∃ xs μ'', ResAll P ρ σ rs xs ∧ (∀ x ∈ μ'', x ∈ μ') ∧ R (retV xs) u' μ'')) : Fn P f args u μ R := by
  intro w hA hM
  refine calls_of_wp hf hb (Go.wp_mono (h w (fun k o hk => hA.lt hk) (fun b o hb => (Array.getElem?_eq_some_iff.1 (hM b o hb).1).1) _ w ⟨fun _ => none, fun _ => undef, ?_⟩) ?_)
  · refine ⟨by simp; omega, rfl, Frame0.refl _ _, hA, fun _ _ => rfl, ?_, ?_, by simp [gv], by simp [gv], by simp [gv]⟩
    · intro b o hb
      obtain ⟨m1, m2⟩ := hM b o hb
      exact ⟨m1, m2, .inl (List.mem_map.2 ⟨(b, o), hb, rfl⟩)⟩
    · intro k sv hk
      obtain ⟨x, j, rfl, rfl, hj⟩ := gv_initE args 0 k sv hk
      refine ⟨x, ?_, rfl⟩
      have hlt : j < args.length := (List.getElem?_eq_some_iff.1 hj).1
      simp [Array.getElem?_append, hlt]; exact (List.getElem?_eq_some_iff.1 hj).2
  · rintro e a w' ⟨ρ, σ, u', μ', ⟨bk, hd, hR⟩, he, xs, μ'', hx, hsub, hr⟩
    refine retAux he hR.defers (run_results (F := ⟨P, fn.ntmps, w, μ.map (·.1), u, []⟩) hR hrs hx) ⟨retV xs, u', μ'', rfl, hr, hR.agree, hR.uold, hR.frame, fun b o hb => hR.mem b o (hsub _ hb)⟩

/-- how a body ends -/
def Fin (P : Program) (rs : List ResultVar) (R : Value → View → Prop) : Post :=
  fun e ρ σ u _ => (e = .normal ∨ e = .ret) ∧ ∃ xs, ResAll P ρ σ rs xs ∧ R (retV xs) u
theorem np_fin {P : Program} {rs : List ResultVar} {R : Value → View → Prop} : noPanic (Fin P rs R) := fun c ρ σ u μ h => by rcases h.1 with h | h <;> cases h

theorem FnP.intro {P : Program} {f : FuncId} {fn : Func} {c : Code} {args : List Value} {u : View} {R : Value → View → Prop} (rs : List ResultVar) (hf : P.funcs[f]? = some fn) (hb : fn.body = some c) (hrs : fn.results = rs.toArray) (hn : Nat.ble args.length fn.ntmps = true)
    (h : ∀ w0 : World, (∀ k o, u k = some o → k < w0.heap.size) → WC ⟨P, fn.ntmps, w0, [], u, []⟩ c (initE 0 args) [] u [] (Fin P rs R)) : FnP P f args u R := by
  intro w hA hM
  refine calls_of_wp hf hb (Go.wp_mono (h w (fun k o hk => hA.lt hk) _ w ⟨fun _ => none, fun _ => undef, ?_⟩) ?_)
  · refine ⟨by have := Nat.le_of_ble_eq_true hn; simp; omega, rfl, Frame0.refl _ _, hA, fun _ _ => rfl, by simp, ?_, by simp [gv], by simp [gv], by simp [gv]⟩
    intro k sv hk
    obtain ⟨x, j, rfl, rfl, hj⟩ := gv_initE args 0 k sv hk
    refine ⟨x, ?_, rfl⟩
    have hlt : j < args.length := (List.getElem?_eq_some_iff.1 hj).1
    simp [Array.getElem?_append, hlt]; exact (List.getElem?_eq_some_iff.1 hj).2
  · rintro e a w' ⟨ρ, σ, u', μ', ⟨bk, hd, hR⟩, he, xs, hx, hr⟩
    exact retAux he hR.defers (run_results (F := ⟨P, fn.ntmps, w, [], u, []⟩) hR hrs hx) ⟨retV xs, u', [], rfl, ⟨hr, fun k o hk => (hR.uold k (hA.lt hk)).trans hk⟩, hR.agree, hR.uold, hR.frame, by simp⟩

section
variable {P : Program} {ρ : Env} {σ : Own} {u : View} {μ : Mem} {R : Value → View → Prop}
theorem fin0 (h : R (.tuple #[]) u) : Fin P [] R .ret ρ σ u μ := ⟨.inr rfl, [], .nil, h⟩
theorem fin0n (h : R (.tuple #[]) u) : Fin P [] R .normal ρ σ u μ := ⟨.inl rfl, [], .nil, h⟩
theorem fin1 {r : ResultVar} {x : Value} (h : ResV P ρ σ r x) (hr : R x u) : Fin P [r] R .ret ρ σ u μ := ⟨.inr rfl, [x], .cons h .nil, hr⟩
theorem fin2 {r r2 : ResultVar} {x x2 : Value} (h : ResV P ρ σ r x) (h2 : ResV P ρ σ r2 x2) (hr : R (.tuple #[x, x2]) u) : Fin P [r, r2] R .ret ρ σ u μ := ⟨.inr rfl, [x, x2], .cons h (.cons h2 .nil), hr⟩
theorem fin3 {r r2 r3 : ResultVar} {x x2 x3 : Value} (h : ResV P ρ σ r x) (h2 : ResV P ρ σ r2 x2) (h3 : ResV P ρ σ r3 x3) (hr : R (.tuple #[x, x2, x3]) u) : Fin P [r, r2, r3] R .ret ρ σ u μ := ⟨.inr rfl, [x, x2, x3], .cons h (.cons h2 (.cons h3 .nil)), hr⟩
theorem fin4 {r r2 r3 r4 : ResultVar} {x x2 x3 x4 : Value} (h : ResV P ρ σ r x) (h2 : ResV P ρ σ r2 x2) (h3 : ResV P ρ σ r3 x3) (h4 : ResV P ρ σ r4 x4) (hr : R (.tuple #[x, x2, x3, x4]) u) : Fin P [r, r2, r3, r4] R .ret ρ σ u μ := ⟨.inr rfl, [x, x2, x3, x4], .cons h (.cons h2 (.cons h3 (.cons h4 .nil))), hr⟩
end
end
end Go.Eng
