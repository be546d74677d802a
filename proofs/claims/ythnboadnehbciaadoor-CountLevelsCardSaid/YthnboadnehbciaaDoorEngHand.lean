/- The engine: blocks that change hands. -/
import Derived.Test.YthnboadnehbciaaDoorEngGrow
namespace Go.Eng
open Go Go.RowKit
set_option linter.unusedSimpArgs false
set_option linter.unusedVariables false

def mapE (f : SV → SV) : Env → Env
  | [] => []
  | (k, sv) :: r => (k, f sv) :: mapE f r
theorem gv_mapE {f : SV → SV} : ∀ {ρ : Env} {k : Nat} {sv : SV}, gv (mapE f ρ) k = some sv → ∃ sv0, gv ρ k = some sv0 ∧ f sv0 = sv
  | [], k, sv, h => by simp [mapE, gv] at h
  | (j, x) :: r, k, sv, h => by
    simp only [mapE, gv] at h ⊢
    split at h
    · rename_i hb
      cases h
      simp
    · rename_i hb
      simpa using gv_mapE h

/-- a row of the call's own becomes the slice value x -/
def frzF (id : Nat) (x : Value) : SV → SV
  | .s i => match Nat.beq i id with
    | true => .v x
    | false => .s i
  | .p i off => match Nat.beq i id with
    | true => .q
    | false => .p i off
  | sv => sv
def frz (id : Nat) (x : Value) : Env → Env := mapE (frzF id x)
/-- a box of the call's own becomes block b -/
def revF (id b : Nat) : SV → SV
  | .p i off => match Nat.beq i id with
    | true => .v (.pointer (some ⟨b, off, none⟩))
    | false => .p i off
  | .s i => match Nat.beq i id with
    | true => .q
    | false => .s i
  | sv => sv
def rev (id b : Nat) : Env → Env := mapE (revF id b)
/-- another number for an own block -/
def renF (id id' : Nat) : SV → SV
  | .p i off => match Nat.beq i id with
    | true => .p id' off
    | false => .p i off
  | .s i => match Nat.beq i id with
    | true => .s id'
    | false => .s i
  | .m i => match Nat.beq i id with
    | true => .m id'
    | false => .m i
  | sv => sv
def ren (id id' : Nat) : Env → Env := mapE (renF id id')

section
variable {F : Fx} {ρ : Env} {σ : Own} {u : View} {Q : Post} {bk : Nat → Option Nat} {hd : Nat → Value} {a : Act} {w : World}

/-- a block of the call's own goes over to what nobody writes -/
theorem RepAt.toView (h : RepAt F bk hd ρ σ u a w) {id b : Nat} {p : PO} {ob : Obj} (hs : gv σ id = some p) (hb : p.2.holds (bk id) (hd id) b) (hh : w.heap[b]? = some ob) : RepAt F bk hd ρ (Eng.rm id σ) (vput u b ob) a w := by
  obtain ⟨f1, f2⟩ := h.fresh id p b hs hb
  have hne : ∀ k, k ≠ b → vput u b ob k = u k := fun k hk => by simp [vput, hk]
  refine ⟨h.size, h.defers, h.frame, ?_, ?_, h.slot, fun i o hi => h.own i o (gv_rm hi).2, fun i o b' hi hb' => ?_, fun i j o o' b hi hj => h.inj i j o o' b (gv_rm hi).2 (gv_rm hj).2⟩
  · intro k o hk
    by_cases e : k = b
    · subst e; simp [vput] at hk; subst hk; exact hh
    · exact h.agree k o ((hne k e).symm.trans hk)
  · intro k hk hD
    refine (hne k (fun e => ?_)).trans (h.uold k hk hD)
    rcases f1 with f1 | f1
    · exact hD (e ▸ f1)
    · omega
  · obtain ⟨hn, hi⟩ := gv_rm hi
    obtain ⟨x1, x2⟩ := h.fresh i o b' hi hb'
    exact ⟨x1, (hne b' (fun e => hn (h.inj i id o p b' hi hs hb' (e ▸ hb)))).trans x2⟩

theorem RepAt.mapE {f : SV → SV} (h : RepAt F bk hd ρ σ u a w) (hf : ∀ sv x, SVal bk hd sv x → SVal bk hd (f sv) x) : RepAt F bk hd (Eng.mapE f ρ) σ u a w :=
  ⟨h.size, h.defers, h.frame, h.agree, h.uold, fun k sv hk => by
    obtain ⟨sv0, h0, rfl⟩ := gv_mapE hk
    obtain ⟨x, hx, hs⟩ := h.slot k sv0 h0
    exact ⟨x, hx, hf _ _ hs⟩, h.own, h.fresh, h.inj⟩

theorem frz_ok {id : Nat} {x : Value} (hx : hd id = x) : ∀ sv y, SVal bk hd sv y → SVal bk hd (frzF id x sv) y := by
  intro sv y hy
  cases sv with
  | s i =>
    simp only [frzF]
    split
    · rename_i hb
      have : i = id := Nat.eq_of_beq_eq_true hb
      subst this
      simp only [SVal] at hy ⊢
      exact hy.trans hx
    · exact hy
  | p i off =>
    simp only [frzF]
    split
    · trivial
    · exact hy
  | _ => exact hy

theorem RepAt.freezeG (h : RepAt F bk hd ρ σ u a w) {id : Nat} {p : PO} {T : TypeId} {sz n : Nat} {xs : List Value} (hs : gv σ id = some p) (hown : w.ownsRow 0 T sz (hd id) n xs) (hh : ∀ b, (hd id).ownBlock = some b → p.2.holds (bk id) (hd id) b) :
    ∃ ad cap u', VLe u u' ∧ SlC u' ad n cap sz xs ∧ RepAt F bk hd (frz id (.slice ad n cap) ρ) (Eng.rm id σ) u' a w := by
  rcases hown.2 with ⟨hv, hn⟩ | ⟨g, cap, cur, hv, hbg, hg, hnc, hcm, hcs, htake⟩
  · refine ⟨none, 0, u, VLe.refl u, ⟨hown.1, by omega, by unfold maxLen; omega, fun hne => absurd hn hne⟩, ?_⟩
    rw [hn]
    exact (h.rm id).mapE (frz_ok hv)
  · have hbid := hh g (by rw [hv]; rfl)
    have hun : u g = none := (h.fresh id p g hs hbid).2
    exact ⟨some ⟨g, 0, none⟩, cap, vput u g (.cells cur T), VLe.put hun, ⟨hown.1, hnc, hcm, fun _ => ⟨g, 0, cur, T, (0, 0), rfl, by simp [vput], by simpa [cut] using htake⟩⟩, (h.toView hs hbid hg).mapE (frz_ok hv)⟩
theorem RepAt.freeze (h : RepAt F bk hd ρ σ u a w) {id : Nat} {pn : Option Nat} {T : TypeId} {sz n : Nat} {xs : List Value} (hs : gv σ id = some (pn, .row T sz n xs)) :
    ∃ ad cap u', VLe u u' ∧ SlC u' ad n cap sz xs ∧ RepAt F bk hd (frz id (.slice ad n cap) ρ) (Eng.rm id σ) u' a w := by
  obtain ⟨⟨hown, hbk⟩, _⟩ := h.own id _ hs
  exact h.freezeG hs hown fun b hb => hbk.trans hb
theorem RepAt.freeze_rb (h : RepAt F bk hd ρ σ u a w) {id : Nat} {pn : Option Nat} {T : TypeId} {sz n : Nat} {xs : List Value} (hs : gv σ id = some (pn, .rb T sz n xs)) :
    ∃ ad cap u', VLe u u' ∧ SlC u' ad n cap sz xs ∧ RepAt F bk hd (frz id (.slice ad n cap) ρ) (Eng.rm id σ) u' a w := by
  obtain ⟨⟨hown, _⟩, _⟩ := h.own id _ hs
  exact h.freezeG hs hown fun b hb => .inr hb

/-- a row of the call's own is finished: from here on nobody writes it -/
theorem rl_freeze {ops : Array Oper} {l : List Oper} (id : Nat) {pn : Option Nat} {T : TypeId} {sz n : Nat} {xs : List Value} (hs : gv σ id = some (pn, .row T sz n xs))
    (h : ∀ ad cap u', VLe u u' → SlC u' ad n cap sz xs → RL F ops l (frz id (.slice ad n cap) ρ) (Eng.rm id σ) u' Q) : RL F ops l ρ σ u Q := by
  rintro a w ⟨bk, hd, hR⟩
  obtain ⟨ad, cap, u', h1, h2, h3⟩ := hR.freeze hs
  exact h ad cap u' h1 h2 a w ⟨bk, hd, h3⟩
theorem rl_freeze_rb {ops : Array Oper} {l : List Oper} (id : Nat) {pn : Option Nat} {T : TypeId} {sz n : Nat} {xs : List Value} (hs : gv σ id = some (pn, .rb T sz n xs))
    (h : ∀ ad cap u', VLe u u' → SlC u' ad n cap sz xs → RL F ops l (frz id (.slice ad n cap) ρ) (Eng.rm id σ) u' Q) : RL F ops l ρ σ u Q := by
  rintro a w ⟨bk, hd, hR⟩
  obtain ⟨ad, cap, u', h1, h2, h3⟩ := hR.freeze_rb hs
  exact h ad cap u' h1 h2 a w ⟨bk, hd, h3⟩
theorem wc_freeze {c : Code} (id : Nat) {pn : Option Nat} {T : TypeId} {sz n : Nat} {xs : List Value} (hs : gv σ id = some (pn, .row T sz n xs))
    (h : ∀ ad cap u', VLe u u' → SlC u' ad n cap sz xs → WC F c (frz id (.slice ad n cap) ρ) (Eng.rm id σ) u' Q) : WC F c ρ σ u Q := by
  rintro a w ⟨bk, hd, hR⟩
  obtain ⟨ad, cap, u', h1, h2, h3⟩ := hR.freeze hs
  exact h ad cap u' h1 h2 a w ⟨bk, hd, h3⟩

theorem RepAt.reveal (h : RepAt F bk hd ρ σ u a w) {id b : Nat} (hb : bk id = some b) : RepAt F bk hd (rev id b ρ) σ u a w := by
  refine h.mapE ?_
  intro sv y hy
  cases sv with
  | s i =>
    simp only [revF]
    split
    · trivial
    · exact hy
  | p i off =>
    simp only [revF]
    split
    · rename_i hbq
      have : i = id := Nat.eq_of_beq_eq_true hbq
      subst this
      obtain ⟨b', hb', rfl⟩ := hy
      rw [hb] at hb'; cases hb'
      rfl
    · exact hy
  | _ => exact hy

/-- a box of the call's own that nobody writes any more; its address goes about -/
theorem rl_reveal {ops : Array Oper} {l : List Oper} (id : Nat) {pn : Option Nat} {cs : List Value} (hs : gv σ id = some (pn, .box cs))
    (h : ∀ b T u', VLe u u' → u' b = some (.cells cs.toArray T (0, 0)) → (∀ c, pn = some c → c = b) → RL F ops l (rev id b ρ) (Eng.rm id σ) u' Q) : RL F ops l ρ σ u Q := by
  rintro a w ⟨bk, hd, hR⟩
  obtain ⟨⟨b, T, hb, hh⟩, hpn⟩ := hR.own id _ hs
  exact h b T (vput u b (.cells cs.toArray T (0, 0))) (VLe.put (hR.fresh id _ b hs hb).2) (by simp [vput]) (fun c hc => by have := hpn c hc; rw [hb] at this; cases this; rfl) a w ⟨bk, hd, (hR.reveal hb).toView hs hb hh⟩

/-- another number for a thing of the call's own -/
theorem RepAt.rename (h : RepAt F bk hd ρ σ u a w) {id id' : Nat} {p : PO} (hs : gv σ id = some p) (hr : noref id' ρ = true) (hσ : gv (Eng.rm id σ) id' = none) :
    ∃ bk' hd', RepAt F bk' hd' (ren id id' ρ) ((id', p) :: Eng.rm id σ) u a w := by
  have h2 := (h.rm id).addOwn hr hσ (h.own id p hs) (fun b hb => by
    obtain ⟨x1, x2⟩ := h.fresh id p b hs hb
    exact ⟨x1, x2, fun i o hi e => (gv_rm hi).1 (h.inj i id o p b (gv_rm hi).2 hs e hb)⟩)
  refine ⟨_, _, ⟨h2.size, h2.defers, h2.frame, h2.agree, h2.uold, ?_, h2.own, h2.fresh, h2.inj⟩⟩
  intro k sv hk
  obtain ⟨sv0, h0, rfl⟩ := gv_mapE hk
  obtain ⟨x, hx, hv⟩ := h.slot k sv0 h0
  have hnr := noref_gv hr k sv0 h0
  refine ⟨x, hx, ?_⟩
  cases sv0 with
  | s i =>
    simp only [renF]
    split
    · rename_i hb
      have : i = id := Nat.eq_of_beq_eq_true hb
      subst this
      simp only [SVal] at hv ⊢
      simp [hv]
    · have hne : i ≠ id' := fun e => by simp [refs, e] at hnr
      simp only [SVal] at hv ⊢
      simp [hne, hv]
  | p i off =>
    simp only [renF]
    split
    · rename_i hb
      have : i = id := Nat.eq_of_beq_eq_true hb
      subst this
      simp only [SVal] at hv ⊢
      simpa using hv
    · have hne : i ≠ id' := fun e => by simp [refs, e] at hnr
      simp only [SVal] at hv ⊢
      simpa [hne] using hv
  | m i =>
    simp only [renF]
    split
    · rename_i hb
      have : i = id := Nat.eq_of_beq_eq_true hb
      subst this
      simp only [SVal] at hv ⊢
      simpa using hv
    · have hne : i ≠ id' := fun e => by simp [refs, e] at hnr
      simp only [SVal] at hv ⊢
      simpa [hne] using hv
  | v y => exact hv
  | e y sz i off => exact hv
  | q => trivial
theorem rl_ren {ops : Array Oper} {l : List Oper} (id id' : Nat) {p : PO} (hs : gv σ id = some p) (hr : noref id' ρ = true) (hσ : gv (Eng.rm id σ) id' = none)
    (h : RL F ops l (ren id id' ρ) ((id', p) :: Eng.rm id σ) u Q) : RL F ops l ρ σ u Q := by
  rintro a w ⟨bk, hd, hR⟩
  obtain ⟨bk', hd', h2⟩ := hR.rename hs hr hσ
  exact h a w ⟨bk', hd', h2⟩

/-- a call that only reads a row of the call's own, and hands back no memory -/
theorem do_call_b {σS : Own} {K : Env → Own → View → Prop} {d : Nat} {ty : TypeId} {fo : Operand} {xs : List Operand} {ts : Array TypeId} {pos : String} {aft : Array Edge} {f : FuncId} {caps : List Value} (id : Nat) {pn : Option Nat} {T : TypeId} {sz n : Nat} {ys : List Value} (hS : subO σS σ)
    (hf : opv ρ fo = some (.v (.func (.func f) #[] caps.toArray))) (hs : gv σ id = some (pn, .row T sz n ys)) (hc : canCall F.P f = true) (hn : Nat.blt d F.n = true)
    (h : ∀ ad cap u', VLe u u' → SlC u' ad n cap sz ys → ∃ vs, opvs (frz id (.slice ad n cap) ρ) (Eng.rm id σ) xs = some vs ∧ FnP F.P f (vs ++ caps) u' fun v _ => K ((d, .v v) :: ρ) σ u) :
    Does F σS ⟨some d, .call { callee := .value fo, args := xs.toArray, argTypes := ts }, ty, pos, aft, none⟩ ρ σ u K := by
  intro bk hd a w Q hR N hN
  obtain ⟨ad, cap, u', h1, h2, h3⟩ := hR.freeze hs
  obtain ⟨vs, hvs, hcall⟩ := h ad cap u' h1 h2
  have hrun : (execOp a.eval ⟨some d, .call { callee := .value fo, args := xs.toArray, argTypes := ts }, ty, pos, aft, none⟩).run F.P w = .ok (.enter f (vs ++ caps).toArray) w := by
    simp [execOp, resolve, hR.op hf, Deferred.ofValue, invoke, run_callFunc hc, h3.ops hvs]
  unfold Oper.wp
  rw [hrun]
  refine (hcall w _ _ h3.agree (ownsL_nil w u')).mono ?_
  rintro e w' ⟨v, u1, l', bk', hd', rfl, ⟨_, hk⟩, hA, hu, hw, _⟩
  have hw2 : Frame0 w noD w' := ⟨hw.1, hw.2.1, hw.2.2.1, hw.2.2.2.1, fun k hk _ => hw.2.2.2.2 k hk (fun ⟨i, p, hi, _⟩ => by simp at hi)⟩
  refine hN _ _ _ _ _ _ _ hk ((hR.grow hw2).put (blt_lt hn) rfl) (fun x hx => same_of (VLe.refl u) (fun _ _ _ => ⟨rfl, rfl⟩) (fun id p b hi hb => hw2.2.2.2.2 b ((hR.own id p (gv_subO hS id p hi)).lt hb) (fun h => h)) hx)

/-! ### function values -/
theorem y_makeFunc {σS : Own} {uS : View} {o : Oper} {fn : _root_.Go.Fn} {first caps : List Operand} {fv cv : List Value} (ho : o.op = .makeFunc fn first.toArray caps.toArray) (h1 : opvs ρ σ first = some fv) (h2 : opvs ρ σ caps = some cv) : Yld F σS uS ρ σ u o (.v (.func fn fv.toArray cv.toArray)) := by
  intro bk hd a w hR
  refine ⟨_, rfl, fun w' _ => ?_⟩
  simp [execOp, ho, Instr.makeFunc, hR.ops h1, hR.ops h2]
end

/-! ### rows, element by element -/
def rowsN (f : Nat → List Value) (k : Nat) : List Value := ((List.range k).map f).flatten
theorem rowsN_succ (f : Nat → List Value) (k : Nat) : rowsN f (k + 1) = rowsN f k ++ f k := by simp [rowsN, List.range_succ]
theorem length_rowsN {f : Nat → List Value} {sz : Nat} (hf : ∀ i, (f i).length = sz) : ∀ k, (rowsN f k).length = k * sz
  | 0 => by simp [rowsN]
  | k + 1 => by rw [rowsN_succ, List.length_append, length_rowsN hf k, hf, Nat.add_mul]; simp
theorem cut_append_left {a b : List Value} {o n : Nat} (h : o + n ≤ a.length) : cut (a ++ b) o n = cut a o n := by
  unfold cut
  rw [List.drop_append_of_le_length (by omega), List.take_append_of_le_length (by simp; omega)]
theorem cut_rowsN {f : Nat → List Value} {sz : Nat} (hf : ∀ i, (f i).length = sz) {i : Nat} : ∀ {k : Nat}, i < k → cut (rowsN f k) (i * sz) sz = f i
  | k + 1, h => by
    rw [rowsN_succ]
    by_cases hi : i < k
    · rw [cut_append_left, cut_rowsN hf hi]
      rw [length_rowsN hf]
      have : (i + 1) * sz ≤ k * sz := Nat.mul_le_mul_right _ hi
      rw [Nat.add_mul] at this
      omega
    · have : i = k := by omega
      subst this
      unfold cut
      rw [← length_rowsN hf i, List.drop_left, List.take_of_length_le (by rw [hf]; exact Nat.le_refl _)]
end Go.Eng
