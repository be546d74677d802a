/- The engine's rules for a statement whose operations Go may carry out in more than one order. -/
import Derived.Test.YthnboadnehbciaaDoorEngHand
namespace Go.Eng
open Go Go.RowKit
set_option linter.unusedSimpArgs false
set_option linter.unusedVariables false

section
variable {P : Program} {md : Region.Mode} {ops : Array Oper} {Q : Exit → Act → World → Prop}

theorem wpAnyH_mono {S S' : World → Prop} (hS : ∀ w, S' w → S w) : ∀ (fuel : Nat) (listed : Array Bool) (a : Act) (w : World), wpAnyH P md ops Q S' fuel listed a w → wpAnyH P md ops Q S fuel listed a w
  | 0, _, _, _, h => h
  | fuel + 1, _, _, _, h => ⟨h.1, fun i hi => wpOp_mono (fun a' w' ⟨h1, h2⟩ => ⟨hS _ h1, wpAnyH_mono hS fuel _ a' w' h2⟩) (h.2 i hi)⟩
end

/-- a region that draws: those of 'listed' have come up; σS: the own blocks that nothing in the region writes -/
def RA (F : Fx) (ops : Array Oper) (σS : Own) (fuel : Nat) (listed : Array Bool) (ρ : Env) (σ : Own) (u : View) (Q : Post) : Prop :=
  ∀ bk hd a w, RepAt F bk hd ρ σ u a w → wpAnyH F.P .any ops (lift F Q) (Same bk hd σS u w) fuel listed a w

section
variable {F : Fx} {ρ : Env} {σ σS : Own} {u : View} {Q : Post} {bk : Nat → Option Nat} {hd : Nat → Value} {a : Act} {w : World} {ops : Array Oper} {fuel : Nat} {listed : Array Bool}

theorem RepAt.sameS (h : RepAt F bk hd ρ σ u a w) : Same bk hd σS u w w := ⟨h.agree, fun _ _ _ _ _ => rfl⟩

theorem RepAt.drew (h : RepAt F bk hd ρ σ u a w) : RepAt F bk hd ρ σ u a { w with drawn := w.drawn + 1 } :=
  h.grow ⟨rfl, rfl, rfl, Nat.le_refl _, fun _ _ _ => rfl⟩

theorem wc_draw {id : Nat} {l : List Oper} (hm : F.P.follows .mixedOrders = true) (hfr : F.r = none) (σS : Own) (_hS : subO σS σ) (h : RA F l.toArray σS l.toArray.size (Array.replicate l.toArray.size false) ρ σ u Q) : WC F (.region id l.toArray true) ρ σ u Q := by
  rintro a w ⟨bk, hd, hR⟩
  rw [hfr]
  exact (wpIn_wide (n := 0)).2 (wp_region_held hm (h bk hd a _ hR.drew))

theorem ra_done (hr : Region.ready .any ops listed = []) (h : Q .normal ρ σ u) : RA F ops σS fuel listed ρ σ u Q :=
  fun bk hd _ _ hR => wpAnyH_done hr ⟨_, _, _, ⟨bk, hd, hR⟩, h⟩ fuel

theorem ra_end {ρ' : Env} (hr : Region.ready .any ops listed = []) (hs : subE ρ' ρ) (h : Q .normal ρ' σ u) : RA F ops σS fuel listed ρ σ u Q :=
  fun bk hd _ _ hR => wpAnyH_done hr ⟨_, _, _, ⟨bk, hd, hR.subE hs⟩, h⟩ fuel
theorem RA.sub {ρ' : Env} (hs : subE ρ' ρ) (h : RA F ops σS fuel listed ρ' σ u Q) : RA F ops σS fuel listed ρ σ u Q :=
  fun bk hd a w hR => h bk hd a w (hR.subE hs)

theorem ra_takeX {i : Nat} {d : Nat} {sv : SV} {o : Oper} (hi : ops[i]? = some o) (hd' : o.dst = some d) (hs : Region.noSelect ops = true) (hf : Region.free .any ops listed i = true) (hr : (Region.ready .any ops listed).contains i = true) (hp : noPanic Q) (hn : Nat.blt d F.n = true)
    (hy : ∀ bk hd a w, RepAt F bk hd ρ σ u a w → ∃ x, SVal bk hd sv x ∧ YieldsIf F.P ops (Same bk hd σS u w) o x a)
    (h : RA F ops σS fuel (listed.setIfInBounds i true) ((d, sv) :: ρ) σ u Q) : RA F ops σS (fuel + 1) listed ρ σ u Q := by
  intro bk hd a w hR
  obtain ⟨x, hx, hy⟩ := hy bk hd a w hR
  refine wpAnyH_take hi hs hf hr (fun c a w hq => ?_) hy hR.sameS ?_
  · obtain ⟨ρ, σ, u, _, hq⟩ := hq
    exact absurd hq (hp _ _ _ _)
  · rw [hd']
    exact h bk hd _ w (hR.put (blt_lt hn) hx)

/-- take number i first: it only reads -/
theorem ra_y {i d : Nat} {op : Op} {ty : TypeId} {pos : String} {aft : Array Edge} {sv : SV} (hi : ops[i]? = some ⟨some d, op, ty, pos, aft, none⟩) (hs : Region.noSelect ops = true) (hf : Region.free .any ops listed i = true) (hr : (Region.ready .any ops listed).contains i = true) (hp : noPanic Q)
    (hy : Yld F σS u ρ σ u ⟨some d, op, ty, pos, aft, none⟩ sv) (hn : Nat.blt d F.n = true)
    (h : RA F ops σS fuel (listed.setIfInBounds i true) ((d, sv) :: ρ) σ u Q) : RA F ops σS (fuel + 1) listed ρ σ u Q :=
  ra_takeX hi rfl hs hf hr hp hn (fun bk hd a w hR => let ⟨x, hx, hrun⟩ := hy bk hd a w hR; ⟨x, hx, .inl ⟨rfl, hrun⟩⟩) h

theorem RepAt.yielded (hR : RepAt F bk hd ρ σ u a w) {j t : Nat} {b : Bool} (hj : (ops[j]?).bind (·.dst) = some t) (hg : opv ρ (.tmp t) = some (.v (.bool b))) : yielded ops a.tmps j = some b := by
  obtain ⟨x, hx, hs⟩ := hR.slot t _ hg
  cases hs
  simp [Go.yielded, hj, hx]

theorem ra_y_on {i d j t : Nat} {b : Bool} {op : Op} {ty : TypeId} {pos : String} {aft : Array Edge} {sv : SV} (hi : ops[i]? = some ⟨some d, op, ty, pos, aft, some (j, b)⟩) (hj : (ops[j]?).bind (·.dst) = some t) (hg : opv ρ (.tmp t) = some (.v (.bool b)))
    (hs : Region.noSelect ops = true) (hf : Region.free .any ops listed i = true) (hr : (Region.ready .any ops listed).contains i = true) (hp : noPanic Q)
    (hy : Yld F σS u ρ σ u ⟨some d, op, ty, pos, aft, none⟩ sv) (hn : Nat.blt d F.n = true)
    (h : RA F ops σS fuel (listed.setIfInBounds i true) ((d, sv) :: ρ) σ u Q) : RA F ops σS (fuel + 1) listed ρ σ u Q :=
  ra_takeX hi rfl hs hf hr hp hn (fun bk hd a w hR => let ⟨x, hx, hrun⟩ := hy bk hd a w hR; ⟨x, hx, .inl ⟨by simp [Region.wanted, hR.yielded hj hg], hrun⟩⟩) h

theorem ra_off {i d j t : Nat} {b b' : Bool} {op : Op} {ty : TypeId} {pos : String} {aft : Array Edge} (hi : ops[i]? = some ⟨some d, op, ty, pos, aft, some (j, b')⟩) (hj : (ops[j]?).bind (·.dst) = some t) (hg : opv ρ (.tmp t) = some (.v (.bool b))) (hb : (b == b') = false)
    (hs : Region.noSelect ops = true) (hf : Region.free .any ops listed i = true) (hr : (Region.ready .any ops listed).contains i = true) (hp : noPanic Q) (hn : Nat.blt d F.n = true)
    (h : RA F ops σS fuel (listed.setIfInBounds i true) ((d, .v undef) :: ρ) σ u Q) : RA F ops σS (fuel + 1) listed ρ σ u Q :=
  ra_takeX hi rfl hs hf hr hp hn (fun bk hd a w hR => ⟨undef, (show SVal bk hd (.v undef) undef from rfl), .inr ⟨by simpa [Region.wanted, hR.yielded hj hg] using hb, rfl⟩⟩) h

/-- the guard's own operation was skipped -/
theorem ra_off_u {i d j t : Nat} {b' : Bool} {op : Op} {ty : TypeId} {pos : String} {aft : Array Edge} (hi : ops[i]? = some ⟨some d, op, ty, pos, aft, some (j, b')⟩) (hj : (ops[j]?).bind (·.dst) = some t) (hg : opv ρ (.tmp t) = some (.v undef))
    (hs : Region.noSelect ops = true) (hf : Region.free .any ops listed i = true) (hr : (Region.ready .any ops listed).contains i = true) (hp : noPanic Q) (hn : Nat.blt d F.n = true)
    (h : RA F ops σS fuel (listed.setIfInBounds i true) ((d, .v undef) :: ρ) σ u Q) : RA F ops σS (fuel + 1) listed ρ σ u Q :=
  ra_takeX hi rfl hs hf hr hp hn (fun bk hd a w hR => ⟨undef, (show SVal bk hd (.v undef) undef from rfl), .inr ⟨by
    obtain ⟨x, hx, hs⟩ := hR.slot t _ hg
    cases hs
    simp [Region.wanted, Go.yielded, hj, hx, undef], rfl⟩⟩) h
theorem rl_off_u {ops : Array Oper} {rest : List Oper} {d : Nat} {op : Op} {ty : TypeId} {pos : String} {aft : Array Edge} {j : Nat} {t : Nat} {b' : Bool} {ρ : Env} {σ : Own} {u : View}
    (hj : (ops[j]?).bind (·.dst) = some t) (hg : opv ρ (.tmp t) = some (.v undef)) (hn : Nat.blt d F.n = true) (h : RL F ops rest ((d, .v undef) :: ρ) σ u Q) : RL F ops (⟨some d, op, ty, pos, aft, some (j, b')⟩ :: rest) ρ σ u Q := by
  rintro a w ⟨bk, hd, hR⟩
  have hy : Go.yielded ops a.tmps j = none := by
    obtain ⟨x, hx, hs⟩ := hR.slot t _ hg
    cases hs
    simp [Go.yielded, hj, hx, undef]
  exact wl_skip (by simp [Region.wanted, hy]) (h _ _ ⟨bk, hd, hR.put (blt_lt hn) rfl⟩)

/-- an operation that only reads, carried out at its turn -/
theorem do_y {K : Env → Own → View → Prop} {d : Nat} {op : Op} {ty : TypeId} {pos : String} {aft : Array Edge} {sv : SV} (hy : Yld F σ u ρ σ u ⟨some d, op, ty, pos, aft, none⟩ sv) (hn : Nat.blt d F.n = true) (h : K ((d, sv) :: ρ) σ u) : Does F σS ⟨some d, op, ty, pos, aft, none⟩ ρ σ u K := by
  intro bk hd a w Q hR N hN
  obtain ⟨x, hx, hrun⟩ := hy bk hd a w hR
  unfold Oper.wp
  rw [hrun w hR.sameS]
  exact hN _ _ _ _ _ _ _ h (hR.put (blt_lt hn) hx) fun x hx => hx

/-- number i is the only one that may come up now -/
theorem ra_do {i : Nat} {o : Oper} (hi : ops[i]? = some o) (hg : o.guard = none) (hr : Region.ready .any ops listed = [i])
    (h : Does F σS o ρ σ u fun ρ' σ' u' => RA F ops σS fuel (listed.setIfInBounds i true) ρ' σ' u' Q) : RA F ops σS (fuel + 1) listed ρ σ u Q := by
  intro bk hd a w hR
  refine wpAnyH_all hr (by simp) fun j hj => ?_
  have : j = i := by simpa using hj
  subst this
  unfold wpOp
  simp only [hi]
  rw [if_pos (by simp [Region.wanted, hg])]
  refine .inl (h bk hd a w _ hR _ ?_)
  intro bk' hd' ρ' σ' u' a' w' hK hR' hsame
  exact ⟨hsame _ hR'.sameS, wpAnyH_mono hsame _ _ _ _ (hK bk' hd' a' w' hR')⟩

theorem ra_do_on {i j t : Nat} {b : Bool} {d : Option Nat} {op : Op} {ty : TypeId} {pos : String} {aft : Array Edge} (hi : ops[i]? = some ⟨d, op, ty, pos, aft, some (j, b)⟩) (hj : (ops[j]?).bind (·.dst) = some t) (hg : opv ρ (.tmp t) = some (.v (.bool b))) (hr : Region.ready .any ops listed = [i])
    (h : Does F σS ⟨d, op, ty, pos, aft, none⟩ ρ σ u fun ρ' σ' u' => RA F ops σS fuel (listed.setIfInBounds i true) ρ' σ' u' Q) : RA F ops σS (fuel + 1) listed ρ σ u Q := by
  intro bk hd a w hR
  refine wpAnyH_all hr (by simp) fun j' hj' => ?_
  have : j' = i := by simpa using hj'
  subst this
  unfold wpOp
  simp only [hi]
  rw [if_pos (by simp [Region.wanted, hR.yielded hj hg])]
  have key := h bk hd a w (lift F Q) hR (fun a' w' => Same bk hd σS u w w' ∧ wpAnyH F.P .any ops (lift F Q) (Same bk hd σS u w) fuel (listed.setIfInBounds j' true) a' w')
    (fun bk' hd' ρ' σ' u' a' w' hK hR' hsame => ⟨hsame _ hR'.sameS, wpAnyH_mono hsame _ _ _ _ (hK bk' hd' a' w' hR')⟩)
  have e : (execOp a.eval ⟨d, op, ty, pos, aft, some (j, b)⟩) = execOp a.eval ⟨d, op, ty, pos, aft, none⟩ := by cases op <;> rfl
  refine .inl ?_
  unfold Oper.wp at key ⊢
  rw [e]
  exact key

/-- whichever of those of 'is' comes up -/
def RAall (F : Fx) (ops : Array Oper) (σS : Own) (fuel : Nat) (listed : Array Bool) (ρ : Env) (σ : Own) (u : View) (Q : Post) (is : List Nat) : Prop :=
  ∀ i ∈ is, ∀ bk hd a w, RepAt F bk hd ρ σ u a w → wpOp F.P ops (lift F Q) i (fun a' w' => Same bk hd σS u w w' ∧ wpAnyH F.P .any ops (lift F Q) (Same bk hd σS u w) fuel (listed.setIfInBounds i true) a' w') a w
theorem ra_all {is : List Nat} (hr : Region.ready .any ops listed = is) (hne : is.isEmpty = false) (h : RAall F ops σS fuel listed ρ σ u Q is) : RA F ops σS (fuel + 1) listed ρ σ u Q := by
  intro bk hd a w hR
  refine wpAnyH_all hr (by intro e; rw [e] at hne; cases hne) fun i hi => h i hi bk hd a w hR
theorem raall_nil : RAall F ops σS fuel listed ρ σ u Q [] := fun i hi => by cases hi
theorem raall_cons {i : Nat} {is : List Nat} {o : Oper} (hi : ops[i]? = some o) (hg : o.guard = none)
    (h : Does F σS o ρ σ u fun ρ' σ' u' => RA F ops σS fuel (listed.setIfInBounds i true) ρ' σ' u' Q) (hr : RAall F ops σS fuel listed ρ σ u Q is) : RAall F ops σS fuel listed ρ σ u Q (i :: is) := by
  intro j hj bk hd a w hR
  rcases List.mem_cons.1 hj with e | hj
  · subst e
    unfold wpOp
    simp only [hi]
    rw [if_pos (by simp [Region.wanted, hg])]
    refine .inl (h bk hd a w _ hR _ ?_)
    intro bk' hd' ρ' σ' u' a' w' hK hR' hsame
    exact ⟨hsame _ hR'.sameS, wpAnyH_mono hsame _ _ _ _ (hK bk' hd' a' w' hR')⟩
  · exact hr j hj bk hd a w hR

/-! ### the ways of a region meet again -/
def cutSQ (ρk : Env) (σk : Own) (u : View) : Post := fun e ρ' σ' u' => e = .normal ∧ subE ρk ρ' ∧ subO σk σ' ∧ u' = u
theorem np_cutS {ρk : Env} {σk : Own} {u : View} : noPanic (cutSQ ρk σk u) := fun c ρ σ u h => by cases h.1
theorem wc_cutS {c : Code} (ρn : Env) (σn : Own) {ρa : Env} {σa : Own} (_h0 : subE ρa ρ) (_h00 : subO σa σ) (h1 : WC F c ρ σ u (cutSQ (ρn ++ ρa) (σn ++ σa) u)) (h2 : Q .normal (ρn ++ ρa) (σn ++ σa) u) : WC F c ρ σ u Q := by
  refine fun a w hR => Go.wpIn_mono (h1 a w hR) ?_
  rintro e a2 w2 ⟨ρ', σ', u', hR2, rfl, h3, h4, rfl⟩
  exact ⟨_, _, _, hR2.sub h3 h4, h2⟩
theorem cutS_endA {ρk : Env} {σk : Own} (hr : Region.ready .any ops listed = []) (h : subE ρk ρ) (h2 : subO σk σ) : RA F ops σS fuel listed ρ σ u (cutSQ ρk σk u) :=
  ra_done hr ⟨rfl, h, h2, rfl⟩
theorem cutS_end {l : Array Oper} {ρk : Env} {σk : Own} (h : subE ρk ρ) (h2 : subO σk σ) : RL F l [] ρ σ u (cutSQ ρk σk u) :=
  rl_nil ⟨rfl, h, h2, rfl⟩

/-- a row of the call's own is finished, within a region that draws -/
theorem ra_freeze (id : Nat) {pn : Option Nat} {T : TypeId} {sz n : Nat} {xs : List Value} (hs : gv σ id = some (pn, .row T sz n xs))
    (h : ∀ ad cap u', VLe u u' → SlC u' ad n cap sz xs → RA F ops σS fuel listed (frz id (.slice ad n cap) ρ) (Eng.rm id σ) u' Q) : RA F ops σS fuel listed ρ σ u Q := by
  intro bk hd a w hR
  obtain ⟨ad, cap, u', h1, h2, h3⟩ := hR.freeze hs
  exact wpAnyH_mono (fun x hx => ⟨fun k o hk => hx.1 k o (h1 k o hk), hx.2⟩) _ _ _ _ (h ad cap u' h1 h2 bk hd a w h3)
theorem ra_pinS (k id b off : Nat) {o : OO} (hk : gv ρ k = some (.v (.pointer (some ⟨b, off, none⟩)))) (hs : gv σ id = some (some b, o)) (h : RA F ops σS fuel listed ((k, .p id off) :: ρ) σ u Q) : RA F ops σS fuel listed ρ σ u Q :=
  fun bk hd a w hR => h bk hd a w (hR.pin hk hs)
theorem ra_pinSM (k id b : Nat) {o : OO} (hk : gv ρ k = some (.v (.map (some b)))) (hs : gv σ id = some (some b, o)) (h : RA F ops σS fuel listed ((k, .m id) :: ρ) σ u Q) : RA F ops σS fuel listed ρ σ u Q :=
  fun bk hd a w hR => h bk hd a w (hR.pinM hk hs)
theorem ra_name (id : Nat) {pn : Option Nat} {o : OO} (hs : gv σ id = some (pn, o)) (ho : ∃ k off, gv ρ k = some (.p id off) ∨ gv ρ k = some (.m id)) (h : ∀ b, RA F ops σS fuel listed ρ ((id, (some b, o)) :: σ) u Q) : RA F ops σS fuel listed ρ σ u Q := by
  intro bk hd a w hR
  obtain ⟨k, off, ho⟩ := ho
  have : ∃ b, bk id = some b := by
    rcases ho with ho | ho
    · obtain ⟨x, _, b, hb, _⟩ := hR.slot k _ ho; exact ⟨b, hb⟩
    · obtain ⟨x, _, b, hb, _⟩ := hR.slot k _ ho; exact ⟨b, hb⟩
  obtain ⟨b, hb⟩ := this
  exact h b bk hd a w (hR.name hs hb)
theorem RA.mono {Q' : Post} (h : RA F ops σS fuel listed ρ σ u Q) (hq : Q = Q') : RA F ops σS fuel listed ρ σ u Q' := hq ▸ h

/-! ### a test's region, its ways brought together again -/
theorem wpListIn_monoQ {P : Program} {ops : Array Oper} {r : Option Nat} {Q Q' : Exit → Act → World → Prop} (hq : ∀ e a w, Q' e a w → Q e a w) : ∀ (l : List Oper) (a : Act) (w : World), wpListIn (fw r) 0 P ops Q' l a w → wpListIn (fw r) 0 P ops Q l a w
  | [], _, _, h => hq _ _ _ h
  | o :: rest, a, w, h => by
    unfold wpListIn at h ⊢
    split at h
    · rename_i hw
      rw [if_pos hw]
      refine ⟨h.1, ?_⟩
      have h := h.2
      generalize (o.semAt (fw r).round a.eval).run P w = res at *
      have hk : ∀ a w, wpListIn (fw r) 0 P ops Q' rest a w → wpListIn (fw r) 0 P ops Q rest a w := wpListIn_monoQ hq rest
      have hl : LetsOut Q' → LetsOut Q := fun ⟨a, w, h⟩ => ⟨a, w, hq _ _ _ h⟩
      cases res with
      | ok x w' =>
        cases x <;> simp only [Oper.uponIn] at h ⊢ <;>
          first
            | exact hk _ _ h
            | exact ⟨h.1, CallsIn.mono h.2 (fun e w'' he => by cases e <;> first | exact hk _ _ he | exact hq _ _ _ he | exact hl he)⟩
            | exact ⟨h.1, RowsIn.mono h.2 (fun _ _ he => hk _ _ he)⟩
            | exact ⟨h.1, RoundIn.mono h.2 (fun e w'' he => by cases e <;> first | exact hk _ _ he | exact hq _ _ _ he | exact hl he)⟩
      | halt x w' => cases x <;> simp only [Oper.uponIn] at h ⊢ <;> exact hq _ _ _ h
    · rename_i hw
      rw [if_neg hw]
      exact ⟨h.1, wpListIn_monoQ hq rest _ _ h.2⟩

def cutBQ (t : Nat) (b : Bool) (ρk : Env) (σ : Own) (u : View) : Post :=
  fun e ρ' σ' u' => e = .normal ∧ gv ρ' t = some (.v (.bool b)) ∧ subE ρk ρ' ∧ σ' = σ ∧ u' = u

theorem np_cutB {t : Nat} {b : Bool} {ρk : Env} {σ : Own} {u : View} : noPanic (cutBQ t b ρk σ u) := fun c ρ σ u h => by cases h.1

theorem cutB_to {t : Nat} {b : Bool} {ρk : Env} (h2 : Q .normal ((t, .v (.bool b)) :: ρk) σ u) : ∀ e a w, lift F (cutBQ t b ρk σ u) e a w → lift F Q e a w := by
  rintro e a w ⟨ρ', σ', u', hR, rfl, h3, h4, rfl, rfl⟩
  exact ⟨_, _, _, hR.subEnv (show subE ((t, .v (.bool b)) :: ρk) ρ' from ⟨h3, h4⟩), h2⟩

theorem cutB_sub {t : Nat} {b : Bool} {ρk ρ' : Env} (h3 : gv ρ' t = some (.v (.bool b))) (h4 : subE ρk ρ') : subE ((t, .v (.bool b)) :: ρk) ρ' := ⟨h3, h4⟩

theorem rl_cutB {l : List Oper} {ρk : Env} (t : Nat) (b : Bool) (_h0 : subE ρk ρ) (h1 : RL F ops l ρ σ u (cutBQ t b ρk σ u)) (h2 : Q .normal ((t, .v (.bool b)) :: ρk) σ u) : RL F ops l ρ σ u Q :=
  fun a w hR => wpListIn_monoQ (cutB_to h2) _ _ _ (h1 a w hR)
theorem cutB_end {l : Array Oper} {t : Nat} {b x : Bool} {ρk : Env} {σ : Own} {u : View} (h : gv ρ t = some (.v (.bool x))) (hk : subE ρk ρ) (hx : x = b) : RL F l [] ρ σ u (cutBQ t b ρk σ u) :=
  rl_nil ⟨rfl, hx ▸ h, hk, rfl, rfl⟩
theorem wc_cutB {c : Code} {ρk : Env} (t : Nat) (b : Bool) (_h0 : subE ρk ρ) (h1 : WC F c ρ σ u (cutBQ t b ρk σ u)) (h2 : Q .normal ((t, .v (.bool b)) :: ρk) σ u) : WC F c ρ σ u Q :=
  fun a w hR => Go.wpIn_mono (h1 a w hR) (cutB_to h2)
theorem cutB_endA {t : Nat} {b x : Bool} {ρk : Env} {σ : Own} {u : View} (hr : Region.ready .any ops listed = []) (h : gv ρ t = some (.v (.bool x))) (hk : subE ρk ρ) (hx : x = b) : RA F ops σS fuel listed ρ σ u (cutBQ t b ρk σ u) :=
  ra_done hr ⟨rfl, hx ▸ h, hk, rfl, rfl⟩
end
end Go.Eng
