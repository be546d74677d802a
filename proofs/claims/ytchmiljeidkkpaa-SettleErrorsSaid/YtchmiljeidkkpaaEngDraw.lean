/- The engine's rules for a statement whose operations Go may carry out in more than one order. -/
import Derived.Test.YtchmiljeidkkpaaEngIter
namespace Go.Eng
open Go Go.RowKit

section
variable {P : Program} {md : Region.Mode} {ops : Array Oper} {Q : Exit → Act → World → Prop}

theorem wpAnyH_mono {S S' : World → Prop} (hS : ∀ w, S' w → S w) : ∀ (fuel : Nat) (listed : Array Bool) (a : Act) (w : World), wpAnyH P md ops Q S' fuel listed a w → wpAnyH P md ops Q S fuel listed a w
  | 0, _, _, _, h => h
  | fuel + 1, _, _, _, h => ⟨h.1, fun i hi => wpOp_mono (fun a' w' ⟨h1, h2⟩ => ⟨hS _ h1, wpAnyH_mono hS fuel _ a' w' h2⟩) (h.2 i hi)⟩
end

def domO : Own → Own → Bool
  | [], _ => true
  | (k, _) :: r, σ => match gv σ k with
    | some _ => domO r σ
    | none => false
theorem domO_gv : ∀ {σS σ : Own} {id : Nat} {o : OO}, domO σS σ = true → gv σS id = some o → ∃ o', gv σ id = some o'
  | [], σ, id, o, _, h => by simp [gv] at h
  | (k, x) :: r, σ, id, o, hd, h => by
    simp only [domO] at hd
    split at hd
    · rename_i y hy
      simp only [gv] at h
      split at h
      · rename_i hb
        exact ⟨y, (Nat.eq_of_beq_eq_true hb) ▸ hy⟩
      · exact domO_gv hd h
    · cases hd

/-- a region that draws: those of 'listed' have come up; σS: the own blocks that nothing in the region writes -/
def RA (F : Fx) (ops : Array Oper) (σS : Own) (fuel : Nat) (listed : Array Bool) (ρ : Env) (σ : Own) (u : View) (μ : Mem) (Q : Post) : Prop :=
  ∀ bk hd a w, RepAt F bk hd ρ σ u μ a w → wpAnyH F.P .any ops (lift F Q) (Same bk σS u [] w) fuel listed a w

section
variable {F : Fx} {ρ : Env} {σ σS : Own} {u : View} {μ : Mem} {Q : Post} {bk : Nat → Option Nat} {hd : Nat → Value} {a : Act} {w : World} {ops : Array Oper} {fuel : Nat} {listed : Array Bool}

theorem RepAt.sameS (h : RepAt F bk hd ρ σ u μ a w) : Same bk σS u [] w w := ⟨h.agree, fun _ _ _ _ _ => rfl, by simp⟩

theorem RepAt.drew (h : RepAt F bk hd ρ σ u μ a w) : RepAt F bk hd ρ σ u μ a { w with drawn := w.drawn + 1 } :=
  h.grow ⟨rfl, rfl, rfl, Nat.le_refl _, fun _ _ _ => rfl⟩

theorem wc_draw {id : Nat} {l : List Oper} (hm : F.P.follows .mixedOrders = true) (σS : Own) (h : RA F l.toArray σS l.toArray.size (Array.replicate l.toArray.size false) ρ σ u μ Q) : WC F (.region id l.toArray true) ρ σ u μ Q := by
  rintro a w ⟨bk, hd, hR⟩
  exact wp_region_held hm (h bk hd a _ hR.drew)

theorem ra_done (hr : Region.ready .any ops listed = []) (h : Q .normal ρ σ u μ) : RA F ops σS fuel listed ρ σ u μ Q :=
  fun bk hd _ _ hR => wpAnyH_done hr ⟨_, _, _, _, ⟨bk, hd, hR⟩, h⟩ fuel

theorem ra_end {ρ' : Env} (hr : Region.ready .any ops listed = []) (hs : subE ρ' ρ) (h : Q .normal ρ' σ u μ) : RA F ops σS fuel listed ρ σ u μ Q :=
  fun bk hd _ _ hR => wpAnyH_done hr ⟨_, _, _, _, ⟨bk, hd, hR.subE hs⟩, h⟩ fuel
theorem RA.sub {ρ' : Env} (hs : subE ρ' ρ) (h : RA F ops σS fuel listed ρ' σ u μ Q) : RA F ops σS fuel listed ρ σ u μ Q :=
  fun bk hd a w hR => h bk hd a w (hR.subE hs)

theorem ra_takeX {i : Nat} {d : Nat} {sv : SV} {o : Oper} (hi : ops[i]? = some o) (hd' : o.dst = some d) (hs : Region.noSelect ops = true) (hf : Region.free .any ops listed i = true) (hr : (Region.ready .any ops listed).contains i = true) (hp : noPanic Q) (hn : Nat.blt d F.n = true)
    (hy : ∀ bk hd a w, RepAt F bk hd ρ σ u μ a w → ∃ x, SVal bk hd sv x ∧ YieldsIf F.P ops (Same bk σS u [] w) o x a)
    (h : RA F ops σS fuel (listed.setIfInBounds i true) ((d, sv) :: ρ) σ u μ Q) : RA F ops σS (fuel + 1) listed ρ σ u μ Q := by
  intro bk hd a w hR
  obtain ⟨x, hx, hy⟩ := hy bk hd a w hR
  refine wpAnyH_take hi hs hf hr (fun c a w hq => ?_) hy hR.sameS ?_
  · obtain ⟨ρ, σ, u, μ, _, hq⟩ := hq
    exact absurd hq (hp _ _ _ _ _)
  · rw [hd']
    exact h bk hd _ w (hR.put (blt_lt hn) hx)

/-- take number i first: it only reads -/
theorem ra_y {i d : Nat} {op : Op} {ty : TypeId} {pos : String} {aft : Array Edge} {sv : SV} (hi : ops[i]? = some ⟨some d, op, ty, pos, aft, none⟩) (hs : Region.noSelect ops = true) (hf : Region.free .any ops listed i = true) (hr : (Region.ready .any ops listed).contains i = true) (hp : noPanic Q)
    (hy : Yld F σS u [] ρ σ u μ ⟨some d, op, ty, pos, aft, none⟩ sv) (hn : Nat.blt d F.n = true)
    (h : RA F ops σS fuel (listed.setIfInBounds i true) ((d, sv) :: ρ) σ u μ Q) : RA F ops σS (fuel + 1) listed ρ σ u μ Q :=
  ra_takeX hi rfl hs hf hr hp hn (fun bk hd a w hR => let ⟨x, hx, hrun⟩ := hy bk hd a w hR; ⟨x, hx, .inl ⟨rfl, hrun⟩⟩) h

theorem RepAt.yielded (hR : RepAt F bk hd ρ σ u μ a w) {j t : Nat} {b : Bool} (hj : (ops[j]?).bind (·.dst) = some t) (hg : opv ρ (.tmp t) = some (.v (.bool b))) : yielded ops a.tmps j = some b := by
  obtain ⟨x, hx, hs⟩ := hR.slot t _ hg
  cases hs
  simp [Go.yielded, hj, hx]

theorem ra_y_on {i d j t : Nat} {b : Bool} {op : Op} {ty : TypeId} {pos : String} {aft : Array Edge} {sv : SV} (hi : ops[i]? = some ⟨some d, op, ty, pos, aft, some (j, b)⟩) (hj : (ops[j]?).bind (·.dst) = some t) (hg : opv ρ (.tmp t) = some (.v (.bool b)))
    (hs : Region.noSelect ops = true) (hf : Region.free .any ops listed i = true) (hr : (Region.ready .any ops listed).contains i = true) (hp : noPanic Q)
    (hy : Yld F σS u [] ρ σ u μ ⟨some d, op, ty, pos, aft, none⟩ sv) (hn : Nat.blt d F.n = true)
    (h : RA F ops σS fuel (listed.setIfInBounds i true) ((d, sv) :: ρ) σ u μ Q) : RA F ops σS (fuel + 1) listed ρ σ u μ Q :=
  ra_takeX hi rfl hs hf hr hp hn (fun bk hd a w hR => let ⟨x, hx, hrun⟩ := hy bk hd a w hR; ⟨x, hx, .inl ⟨by simp [Region.wanted, hR.yielded hj hg], hrun⟩⟩) h

theorem ra_off {i d j t : Nat} {b b' : Bool} {op : Op} {ty : TypeId} {pos : String} {aft : Array Edge} (hi : ops[i]? = some ⟨some d, op, ty, pos, aft, some (j, b')⟩) (hj : (ops[j]?).bind (·.dst) = some t) (hg : opv ρ (.tmp t) = some (.v (.bool b))) (hb : (b == b') = false)
    (hs : Region.noSelect ops = true) (hf : Region.free .any ops listed i = true) (hr : (Region.ready .any ops listed).contains i = true) (hp : noPanic Q) (hn : Nat.blt d F.n = true)
    (h : RA F ops σS fuel (listed.setIfInBounds i true) ((d, .v undef) :: ρ) σ u μ Q) : RA F ops σS (fuel + 1) listed ρ σ u μ Q :=
  ra_takeX hi rfl hs hf hr hp hn (fun bk hd a w hR => ⟨undef, (show SVal bk hd (.v undef) undef from rfl), .inr ⟨by simpa [Region.wanted, hR.yielded hj hg] using hb, rfl⟩⟩) h

/-- the guard's own operation was skipped -/
theorem ra_off_u {i d j t : Nat} {b' : Bool} {op : Op} {ty : TypeId} {pos : String} {aft : Array Edge} (hi : ops[i]? = some ⟨some d, op, ty, pos, aft, some (j, b')⟩) (hj : (ops[j]?).bind (·.dst) = some t) (hg : opv ρ (.tmp t) = some (.v undef))
    (hs : Region.noSelect ops = true) (hf : Region.free .any ops listed i = true) (hr : (Region.ready .any ops listed).contains i = true) (hp : noPanic Q) (hn : Nat.blt d F.n = true)
    (h : RA F ops σS fuel (listed.setIfInBounds i true) ((d, .v undef) :: ρ) σ u μ Q) : RA F ops σS (fuel + 1) listed ρ σ u μ Q :=
  ra_takeX hi rfl hs hf hr hp hn (fun bk hd a w hR => ⟨undef, (show SVal bk hd (.v undef) undef from rfl), .inr ⟨by
    obtain ⟨x, hx, hs⟩ := hR.slot t _ hg
    cases hs
    simp [Region.wanted, Go.yielded, hj, hx, undef], rfl⟩⟩) h
theorem rl_off_u {ops : Array Oper} {rest : List Oper} {d : Nat} {op : Op} {ty : TypeId} {pos : String} {aft : Array Edge} {j : Nat} {t : Nat} {b' : Bool} {ρ : Env} {σ : Own} {u : View} {μ : Mem}
    (hj : (ops[j]?).bind (·.dst) = some t) (hg : opv ρ (.tmp t) = some (.v undef)) (hn : Nat.blt d F.n = true) (h : RL F ops rest ((d, .v undef) :: ρ) σ u μ Q) : RL F ops (⟨some d, op, ty, pos, aft, some (j, b')⟩ :: rest) ρ σ u μ Q := by
  rintro a w ⟨bk, hd, hR⟩
  have hy : Go.yielded ops a.tmps j = none := by
    obtain ⟨x, hx, hs⟩ := hR.slot t _ hg
    cases hs
    simp [Go.yielded, hj, hx, undef]
  exact wpList_skip (by simp [Region.wanted, hy]) (h _ _ ⟨bk, hd, hR.put (blt_lt hn) rfl⟩)

/-- what carrying out one operation does, in whatever state (for the operations that make or write memory, or call) -/
def Does (F : Fx) (σS : Own) (o : Oper) (ρ : Env) (σ : Own) (u : View) (μ : Mem) (K : Env → Own → View → Mem → Prop) : Prop :=
  ∀ bk hd a w Q, RepAt F bk hd ρ σ u μ a w → ∀ N : Act → World → Prop,
    (∀ bk' hd' ρ' σ' u' μ' a' w', K ρ' σ' u' μ' → RepAt F bk' hd' ρ' σ' u' μ' a' w' → (∀ x, Same bk' σS u' [] w' x → Same bk σS u [] w x) → N a' w') → o.wp F.P a w N Q

/-- number i is the only one that may come up now -/
theorem ra_do {i : Nat} {o : Oper} (hi : ops[i]? = some o) (hg : o.guard = none) (hr : Region.ready .any ops listed = [i])
    (h : Does F σS o ρ σ u μ fun ρ' σ' u' μ' => RA F ops σS fuel (listed.setIfInBounds i true) ρ' σ' u' μ' Q) : RA F ops σS (fuel + 1) listed ρ σ u μ Q := by
  intro bk hd a w hR
  refine wpAnyH_all hr (by simp) fun j hj => ?_
  have : j = i := by simpa using hj
  subst this
  unfold wpOp
  simp only [hi]
  rw [if_pos (by simp [Region.wanted, hg])]
  refine .inl (h bk hd a w _ hR _ ?_)
  intro bk' hd' ρ' σ' u' μ' a' w' hK hR' hsame
  exact ⟨hsame _ hR'.sameS, wpAnyH_mono hsame _ _ _ _ (hK bk' hd' a' w' hR')⟩

theorem ra_do_on {i j t : Nat} {b : Bool} {d : Option Nat} {op : Op} {ty : TypeId} {pos : String} {aft : Array Edge} (hi : ops[i]? = some ⟨d, op, ty, pos, aft, some (j, b)⟩) (hj : (ops[j]?).bind (·.dst) = some t) (hg : opv ρ (.tmp t) = some (.v (.bool b))) (hr : Region.ready .any ops listed = [i])
    (h : Does F σS ⟨d, op, ty, pos, aft, none⟩ ρ σ u μ fun ρ' σ' u' μ' => RA F ops σS fuel (listed.setIfInBounds i true) ρ' σ' u' μ' Q) : RA F ops σS (fuel + 1) listed ρ σ u μ Q := by
  intro bk hd a w hR
  refine wpAnyH_all hr (by simp) fun j' hj' => ?_
  have : j' = i := by simpa using hj'
  subst this
  unfold wpOp
  simp only [hi]
  rw [if_pos (by simp [Region.wanted, hR.yielded hj hg])]
  have key := h bk hd a w (lift F Q) hR (fun a' w' => Same bk σS u [] w w' ∧ wpAnyH F.P .any ops (lift F Q) (Same bk σS u [] w) fuel (listed.setIfInBounds j' true) a' w')
    (fun bk' hd' ρ' σ' u' μ' a' w' hK hR' hsame => ⟨hsame _ hR'.sameS, wpAnyH_mono hsame _ _ _ _ (hK bk' hd' a' w' hR')⟩)
  have e : (execOp a.eval ⟨d, op, ty, pos, aft, some (j, b)⟩) = execOp a.eval ⟨d, op, ty, pos, aft, none⟩ := by cases op <;> rfl
  refine .inl ?_
  unfold Oper.wp at key ⊢
  rw [e]
  exact key

/-- a call that writes nothing that was there -/
theorem do_call {K : Env → Own → View → Mem → Prop} {d : Nat} {ty : TypeId} {fo : Operand} {xs : List Operand} {ts : Array TypeId} {pos : String} {aft : Array Edge} {f : FuncId} {caps : List Value} {vs : List Value}
    (hf : opv ρ fo = some (.v (.func (.func f) #[] caps.toArray))) (hvs : opvs ρ xs = some vs) (hc : canCall F.P f = true) (hn : Nat.blt d F.n = true) (hS : domO σS σ = true)
    (h : FnP F.P f (vs ++ caps) u fun v u' => VLe u u' → K ((d, .v v) :: ρ) σ u' μ) :
    Does F σS ⟨some d, .call { callee := .value fo, args := xs.toArray, argTypes := ts }, ty, pos, aft, none⟩ ρ σ u μ K := by
  intro bk hd a w Q hR N hN
  have hrun : (execOp a.eval ⟨some d, .call { callee := .value fo, args := xs.toArray, argTypes := ts }, ty, pos, aft, none⟩).run F.P w = .ok (.enter f (vs ++ caps).toArray) w := by
    simp [execOp, resolve, hR.op hf, Deferred.ofValue, invoke, run_callFunc hc, hR.ops hvs]
  unfold Oper.wp
  rw [hrun]
  refine (h w hR.agree (by simp)).mono ?_
  rintro e w' ⟨v, u', μ', rfl, ⟨hk, hle⟩, hA, hu, hw, hM⟩
  have hcal := hR.called (μ1 := []) (μ2 := μ) (by simp) (fun x hx => ⟨hx, by simp⟩) hA hu hw hM
  refine hN bk hd _ σ u' μ _ w' (hk hle) (RepAt.put ⟨hcal.size, hcal.defers, hcal.frame, hcal.agree, hcal.uold, fun b o hb => hcal.mem b o (List.mem_append_right _ hb), hcal.slot, hcal.own, fun id o b hi hb => let ⟨x1, x2, x3⟩ := hcal.fresh id o b hi hb; ⟨x1, x2, fun o' ho' => x3 o' (List.mem_append_right _ ho')⟩, hcal.inj⟩ (blt_lt hn) rfl) ?_
  rintro x ⟨s1, s2, s3⟩
  refine ⟨fun k o hk => s1 k o (hle k o hk), fun id o b hi hb => (s2 id o b hi hb).trans ?_, by simp⟩
  obtain ⟨o', hi'⟩ := domO_gv hS hi
  exact hw.2.2.2.2 b ((hR.own id o' hi').lt hb) (by simp)

/-- the same, what it made forgotten -/
theorem do_call_f {K : Env → Own → View → Mem → Prop} {d : Nat} {ty : TypeId} {fo : Operand} {xs : List Operand} {ts : Array TypeId} {pos : String} {aft : Array Edge} {f : FuncId} {caps : List Value} {vs : List Value}
    (hf : opv ρ fo = some (.v (.func (.func f) #[] caps.toArray))) (hvs : opvs ρ xs = some vs) (hc : canCall F.P f = true) (hn : Nat.blt d F.n = true) (hS : domO σS σ = true)
    (h : FnP F.P f (vs ++ caps) u fun v _ => K ((d, .v v) :: ρ) σ u μ) :
    Does F σS ⟨some d, .call { callee := .value fo, args := xs.toArray, argTypes := ts }, ty, pos, aft, none⟩ ρ σ u μ K := by
  intro bk hd a w Q hR N hN
  have hrun : (execOp a.eval ⟨some d, .call { callee := .value fo, args := xs.toArray, argTypes := ts }, ty, pos, aft, none⟩).run F.P w = .ok (.enter f (vs ++ caps).toArray) w := by
    simp [execOp, resolve, hR.op hf, Deferred.ofValue, invoke, run_callFunc hc, hR.ops hvs]
  unfold Oper.wp
  rw [hrun]
  refine (h w hR.agree (by simp)).mono ?_
  rintro e w' ⟨v, u', μ', rfl, ⟨hk, hle⟩, hA, hu, hw, hM⟩
  have hg : Frame0 w [] w' := hw
  refine hN bk hd _ σ u μ _ w' hk ((hR.grow hg).put (blt_lt hn) rfl) ?_
  rintro x ⟨s1, s2, s3⟩
  exact ⟨s1, fun id o b hi hb => (s2 id o b hi hb).trans (let ⟨o', hi'⟩ := domO_gv hS hi; hw.2.2.2.2 b ((hR.own id o' hi').lt hb) (by simp)), by simp⟩

/-! ### a test's region, its ways brought together again -/
theorem LetsOut.mono {Q Q' : Exit → Act → World → Prop} (hq : ∀ e a w, Q' e a w → Q e a w) (h : LetsOut Q') : LetsOut Q := let ⟨a, w, h⟩ := h; ⟨a, w, hq _ _ _ h⟩

theorem operwp_monoQ {P : Program} {o : Oper} {a : Act} {w : World} {K K' : Act → World → Prop} {Q Q' : Exit → Act → World → Prop} (hK : ∀ a w, K' a w → K a w) (hq : ∀ e a w, Q' e a w → Q e a w) (h : o.wp P a w K' Q') : o.wp P a w K Q := by
  unfold Oper.wp at *
  generalize (execOp a.eval o).run P w = r at *
  cases r with
  | ok n w' =>
    cases n <;> simp only [Oper.upon] at h ⊢ <;>
      first
        | exact hK _ _ h
        | exact Calls.mono h (fun e w'' he => by cases e <;> first | exact hK _ _ he | exact hq _ _ _ he | exact LetsOut.mono hq he)
        | exact Rows.mono h (fun _ _ he => hK _ _ he)
  | halt x w' => cases x <;> simp only [Oper.upon] at h ⊢ <;> exact hq _ _ _ h

theorem wpList_monoQ {P : Program} {ops : Array Oper} {Q Q' : Exit → Act → World → Prop} (hq : ∀ e a w, Q' e a w → Q e a w) : ∀ (l : List Oper) (a : Act) (w : World), wpList P ops Q' l a w → wpList P ops Q l a w
  | [], _, _, h => hq _ _ _ h
  | o :: rest, a, w, h => by
    unfold wpList at h ⊢
    split at h
    · rename_i hw
      rw [if_pos hw]
      rcases h with h | ⟨h1, h2⟩
      · exact .inl (operwp_monoQ (fun a w h => wpList_monoQ hq rest a w h) hq h)
      · exact .inr ⟨h1, LetsOut.mono hq h2⟩
    · rename_i hw
      rw [if_neg hw]
      exact wpList_monoQ hq rest _ _ h

def cutBQ (t : Nat) (b : Bool) (ρk : Env) (σ : Own) (u : View) (μ : Mem) : Post :=
  fun e ρ' σ' u' μ' => e = .normal ∧ gv ρ' t = some (.v (.bool b)) ∧ subE ρk ρ' ∧ σ' = σ ∧ u' = u ∧ μ' = μ

theorem np_cutB {t : Nat} {b : Bool} {ρk : Env} {σ : Own} {u : View} {μ : Mem} : noPanic (cutBQ t b ρk σ u μ) := fun c ρ σ u μ h => by cases h.1

theorem cutB_to {t : Nat} {b : Bool} {ρk : Env} (h2 : Q .normal ((t, .v (.bool b)) :: ρk) σ u μ) : ∀ e a w, lift F (cutBQ t b ρk σ u μ) e a w → lift F Q e a w := by
  rintro e a w ⟨ρ', σ', u', μ', hR, rfl, h3, h4, rfl, rfl, rfl⟩
  exact ⟨_, _, _, _, hR.subEnv (show subE ((t, .v (.bool b)) :: ρk) ρ' from ⟨h3, h4⟩), h2⟩

theorem cutB_sub {t : Nat} {b : Bool} {ρk ρ' : Env} (h3 : gv ρ' t = some (.v (.bool b))) (h4 : subE ρk ρ') : subE ((t, .v (.bool b)) :: ρk) ρ' := ⟨h3, h4⟩

theorem rl_cutB {l : List Oper} {ρk : Env} (t : Nat) (b : Bool) (_h0 : subE ρk ρ) (h1 : RL F ops l ρ σ u μ (cutBQ t b ρk σ u μ)) (h2 : Q .normal ((t, .v (.bool b)) :: ρk) σ u μ) : RL F ops l ρ σ u μ Q :=
  fun a w hR => wpList_monoQ (cutB_to h2) _ _ _ (h1 a w hR)
theorem cutB_end {l : Array Oper} {t : Nat} {b x : Bool} {ρk : Env} {σ : Own} {u : View} {μ : Mem} (h : gv ρ t = some (.v (.bool x))) (hk : subE ρk ρ) (hx : x = b) : RL F l [] ρ σ u μ (cutBQ t b ρk σ u μ) :=
  rl_nil ⟨rfl, hx ▸ h, hk, rfl, rfl, rfl⟩
theorem wc_cutB {c : Code} {ρk : Env} (t : Nat) (b : Bool) (_h0 : subE ρk ρ) (h1 : WC F c ρ σ u μ (cutBQ t b ρk σ u μ)) (h2 : Q .normal ((t, .v (.bool b)) :: ρk) σ u μ) : WC F c ρ σ u μ Q :=
  fun a w hR => Go.wp_mono (h1 a w hR) (cutB_to h2)
theorem cutB_endA {t : Nat} {b x : Bool} {ρk : Env} {σ : Own} {u : View} {μ : Mem} (hr : Region.ready .any ops listed = []) (h : gv ρ t = some (.v (.bool x))) (hk : subE ρk ρ) (hx : x = b) : RA F ops σS fuel listed ρ σ u μ (cutBQ t b ρk σ u μ) :=
  ra_done hr ⟨rfl, hx ▸ h, hk, rfl, rfl, rfl⟩
end
end Go.Eng
