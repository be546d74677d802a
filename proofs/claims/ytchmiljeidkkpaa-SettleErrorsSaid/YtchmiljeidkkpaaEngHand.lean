/- The engine: blocks that change hands. -/
import Derived.Test.YtchmiljeidkkpaaEngGrow
namespace Go.Eng
open Go Go.RowKit

def mapE (f : SV → SV) : Env → Env
  | [] => []
  | (k, sv) :: r => (k, f sv) :: mapE f r
theorem gv_mapE {f : SV → SV} : ∀ {ρ : Env} {k : Nat} {sv : SV}, gv (mapE f ρ) k = some sv → ∃ sv0, gv ρ k = some sv0 ∧ f sv0 = sv
  | [], k, sv, h => by simp [mapE, gv] at h
  | (j, x) :: r, k, sv, h => by
    simp only [mapE, gv] at h ⊢
    split at h
    · rename_i hb
      cases h
      simp
    · rename_i hb
      simpa using gv_mapE h

/-- a row of the call's own becomes the slice value x -/
def frzF (id : Nat) (x : Value) : SV → SV
  | .s i => match Nat.beq i id with
    | true => .v x
    | false => .s i
  | .p i off => match Nat.beq i id with
    | true => .q
    | false => .p i off
  | sv => sv
def frz (id : Nat) (x : Value) : Env → Env := mapE (frzF id x)
/-- a box of the call's own becomes block b -/
def revF (id b : Nat) : SV → SV
  | .p i off => match Nat.beq i id with
    | true => .v (.pointer (some ⟨b, off, none⟩))
    | false => .p i off
  | .s i => match Nat.beq i id with
    | true => .q
    | false => .s i
  | sv => sv
def rev (id b : Nat) : Env → Env := mapE (revF id b)
/-- another number for an own block -/
def renF (id id' : Nat) : SV → SV
  | .p i off => match Nat.beq i id with
    | true => .p id' off
    | false => .p i off
  | .s i => match Nat.beq i id with
    | true => .s id'
    | false => .s i
  | sv => sv
def ren (id id' : Nat) : Env → Env := mapE (renF id id')

section
variable {F : Fx} {ρ : Env} {σ : Own} {u : View} {μ : Mem} {Q : Post} {bk : Nat → Option Nat} {hd : Nat → Value} {a : Act} {w : World}

/-- a block of the call's own goes over to what nobody writes -/
theorem RepAt.toView (h : RepAt F bk hd ρ σ u μ a w) {id b : Nat} {oo : OO} {ob : Obj} (hs : gv σ id = some oo) (hb : bk id = some b) (hh : w.heap[b]? = some ob) : RepAt F bk hd ρ (Eng.rm id σ) (vput u b ob) μ a w := by
  obtain ⟨f1, f2, f3⟩ := h.fresh id oo b hs hb
  have hne : ∀ k, k ≠ b → vput u b ob k = u k := fun k hk => by simp [vput, hk]
  refine ⟨h.size, h.defers, h.frame, ?_, fun k hk => (hne k (by omega)).trans (h.uold k hk), fun b' o hbo => ?_, h.slot, fun i o hi => h.own i o (gv_rm hi).2, fun i o b' hi hb' => ?_, fun i j o o' b hi hj => h.inj i j o o' b (gv_rm hi).2 (gv_rm hj).2⟩
  · intro k o hk
    by_cases e : k = b
    · subst e; simp [vput] at hk; subst hk; exact hh
    · exact h.agree k o ((hne k e).symm.trans hk)
  · obtain ⟨m1, m2, m3⟩ := h.mem b' o hbo
    exact ⟨m1, (hne b' (fun e => f3 o (e ▸ hbo))).trans m2, m3⟩
  · obtain ⟨hn, hi⟩ := gv_rm hi
    obtain ⟨x1, x2, x3⟩ := h.fresh i o b' hi hb'
    exact ⟨x1, (hne b' (fun e => hn (h.inj i id o oo b' hi hs hb' (e ▸ hb)))).trans x2, x3⟩

theorem RepAt.mapE {f : SV → SV} (h : RepAt F bk hd ρ σ u μ a w) (hf : ∀ sv x, SVal bk hd sv x → SVal bk hd (f sv) x) : RepAt F bk hd (Eng.mapE f ρ) σ u μ a w :=
  ⟨h.size, h.defers, h.frame, h.agree, h.uold, h.mem, fun k sv hk => by
    obtain ⟨sv0, h0, rfl⟩ := gv_mapE hk
    obtain ⟨x, hx, hs⟩ := h.slot k sv0 h0
    exact ⟨x, hx, hf _ _ hs⟩, h.own, h.fresh, h.inj⟩

theorem RepAt.freeze (h : RepAt F bk hd ρ σ u μ a w) {id : Nat} {T : TypeId} {sz n : Nat} {xs : List Value} (hs : gv σ id = some (.row T sz n xs)) :
    ∃ ad cap u', VLe u u' ∧ SlC u' ad n cap sz xs ∧ (∀ k, u' k = u k ∨ (F.w0.heap.size ≤ k ∧ u k = none)) ∧ RepAt F bk hd (frz id (.slice ad n cap) ρ) (Eng.rm id σ) u' μ a w := by
  obtain ⟨hown, hbk⟩ := h.own id _ hs
  have hmap : ∀ (x : Value), hd id = x → ∀ sv y, SVal bk hd sv y → SVal bk hd (frzF id x sv) y := by
    intro x hx sv y hy
    cases sv with
    | s i =>
      simp only [frzF]
      split
      · rename_i hb
        have : i = id := Nat.eq_of_beq_eq_true hb
        subst this
        simp only [SVal] at hy ⊢
        exact hy.trans hx
      · exact hy
    | p i off =>
      simp only [frzF]
      split
      · trivial
      · exact hy
    | _ => exact hy
  rcases hown.2 with ⟨hv, hn⟩ | ⟨g, cap, cur, hv, hbg, hg, hnc, hcm, hcs, htake⟩
  · refine ⟨none, 0, u, VLe.refl u, ⟨hown.1, by omega, by unfold maxLen; omega, fun hne => absurd hn hne⟩, fun k => .inl rfl, ?_⟩
    rw [hn]
    exact (h.rm id).mapE (hmap _ hv)
  · have hbid : bk id = some g := by rw [hbk, hv]; rfl
    have hun : u g = none := (h.fresh id _ g hs hbid).2.1
    refine ⟨some ⟨g, 0, none⟩, cap, vput u g (.cells cur T), VLe.put hun, ⟨hown.1, hnc, hcm, fun _ => ⟨g, 0, cur, T, (0, 0), rfl, by simp [vput], by simpa [cut] using htake⟩⟩, fun k => ?_, (h.toView hs hbid hg).mapE (hmap _ hv)⟩
    by_cases e : k = g
    · subst e; exact .inr ⟨hbg, hun⟩
    · exact .inl (by simp [vput, e])

/-- a row of the call's own is finished: from here on nobody writes it -/
theorem rl_freeze {ops : Array Oper} {l : List Oper} (id : Nat) {T : TypeId} {sz n : Nat} {xs : List Value} (hs : gv σ id = some (.row T sz n xs))
    (h : ∀ ad cap u', VLe u u' → SlC u' ad n cap sz xs → RL F ops l (frz id (.slice ad n cap) ρ) (Eng.rm id σ) u' μ Q) : RL F ops l ρ σ u μ Q := by
  rintro a w ⟨bk, hd, hR⟩
  obtain ⟨ad, cap, u', h1, h2, _, h3⟩ := hR.freeze hs
  exact h ad cap u' h1 h2 a w ⟨bk, hd, h3⟩
theorem wc_freeze {c : Code} (id : Nat) {T : TypeId} {sz n : Nat} {xs : List Value} (hs : gv σ id = some (.row T sz n xs))
    (h : ∀ ad cap u', VLe u u' → SlC u' ad n cap sz xs → WC F c (frz id (.slice ad n cap) ρ) (Eng.rm id σ) u' μ Q) : WC F c ρ σ u μ Q := by
  rintro a w ⟨bk, hd, hR⟩
  obtain ⟨ad, cap, u', h1, h2, _, h3⟩ := hR.freeze hs
  exact h ad cap u' h1 h2 a w ⟨bk, hd, h3⟩

theorem RepAt.reveal (h : RepAt F bk hd ρ σ u μ a w) {id : Nat} {cs : List Value} (hs : gv σ id = some (.box cs)) : ∃ b T, bk id = some b ∧ w.heap[b]? = some (.cells cs.toArray T (0, 0)) ∧ RepAt F bk hd (rev id b ρ) σ u μ a w := by
  obtain ⟨b, T, hb, hh⟩ := h.own id _ hs
  refine ⟨b, T, hb, hh, h.mapE ?_⟩
  intro sv y hy
  cases sv with
  | s i =>
    simp only [revF]
    split
    · trivial
    · exact hy
  | p i off =>
    simp only [revF]
    split
    · rename_i hbq
      have : i = id := Nat.eq_of_beq_eq_true hbq
      subst this
      obtain ⟨b', hb', rfl⟩ := hy
      rw [hb] at hb'; cases hb'
      rfl
    · exact hy
  | _ => exact hy

/-- a box of the call's own that nobody writes any more; its address goes about -/
theorem rl_reveal {ops : Array Oper} {l : List Oper} (id : Nat) {cs : List Value} (hs : gv σ id = some (.box cs))
    (h : ∀ b T u', VLe u u' → u' b = some (.cells cs.toArray T (0, 0)) → RL F ops l (rev id b ρ) (Eng.rm id σ) u' μ Q) : RL F ops l ρ σ u μ Q := by
  rintro a w ⟨bk, hd, hR⟩
  obtain ⟨b, T, hb, hh, hR2⟩ := hR.reveal hs
  exact h b T (vput u b (.cells cs.toArray T (0, 0))) (VLe.put (hR.fresh id _ b hs hb).2.1) (by simp [vput]) a w ⟨bk, hd, hR2.toView hs hb hh⟩

/-- a box of the call's own whose address goes about and that is still written -/
theorem RepAt.toMem (h : RepAt F bk hd ρ σ u μ a w) {id b : Nat} {oo : OO} {ob : Obj} (hs : gv σ id = some oo) (hb : bk id = some b) (hh : w.heap[b]? = some ob) : RepAt F bk hd ρ (Eng.rm id σ) u ((b, ob) :: μ) a w := by
  obtain ⟨f1, f2, f3⟩ := h.fresh id oo b hs hb
  refine ⟨h.size, h.defers, h.frame, h.agree, h.uold, fun b' o hbo => ?_, h.slot, fun i o hi => h.own i o (gv_rm hi).2, fun i o b' hi hb' => ?_, fun i j o o' b hi hj => h.inj i j o o' b (gv_rm hi).2 (gv_rm hj).2⟩
  · rcases List.mem_cons.1 hbo with e | hbo
    · cases e; exact ⟨hh, f2, .inr f1⟩
    · exact h.mem b' o hbo
  · obtain ⟨hn, hi⟩ := gv_rm hi
    obtain ⟨x1, x2, x3⟩ := h.fresh i o b' hi hb'
    refine ⟨x1, x2, fun o' ho' => ?_⟩
    rcases List.mem_cons.1 ho' with e | ho'
    · cases e; exact hn (h.inj i id o oo _ hi hs hb' hb)
    · exact x3 o' ho'
theorem rl_give {ops : Array Oper} {l : List Oper} (id : Nat) {cs : List Value} (hs : gv σ id = some (.box cs))
    (h : ∀ b T, u b = none → (∀ o', (b, o') ∉ μ) → F.w0.heap.size ≤ b → RL F ops l (rev id b ρ) (Eng.rm id σ) u ((b, .cells cs.toArray T (0, 0)) :: μ) Q) : RL F ops l ρ σ u μ Q := by
  rintro a w ⟨bk, hd, hR⟩
  obtain ⟨b, T, hb, hh, hR2⟩ := hR.reveal hs
  obtain ⟨f1, f2, f3⟩ := hR.fresh id _ b hs hb
  exact h b T f2 f3 f1 a w ⟨bk, hd, hR2.toMem hs hb hh⟩

/-- another number for a row of the call's own -/
theorem RepAt.rename (h : RepAt F bk hd ρ σ u μ a w) {id id' : Nat} {oo : OO} (hs : gv σ id = some oo) (hr : noref id' ρ = true) (hσ : gv (Eng.rm id σ) id' = none) :
    ∃ bk' hd', RepAt F bk' hd' (ren id id' ρ) ((id', oo) :: Eng.rm id σ) u μ a w := by
  have h2 := (h.rm id).addOwn hr hσ (h.own id oo hs) (fun b hb => by
    obtain ⟨x1, x2, x3⟩ := h.fresh id oo b hs hb
    exact ⟨x1, x2, x3, fun i o hi e => (gv_rm hi).1 (h.inj i id o oo b (gv_rm hi).2 hs e hb)⟩)
  refine ⟨_, _, ⟨h2.size, h2.defers, h2.frame, h2.agree, h2.uold, h2.mem, ?_, h2.own, h2.fresh, h2.inj⟩⟩
  intro k sv hk
  obtain ⟨sv0, h0, rfl⟩ := gv_mapE hk
  obtain ⟨x, hx, hv⟩ := h.slot k sv0 h0
  have hnr := noref_gv hr k sv0 h0
  refine ⟨x, hx, ?_⟩
  cases sv0 with
  | s i =>
    simp only [renF]
    split
    · rename_i hb
      have : i = id := Nat.eq_of_beq_eq_true hb
      subst this
      simp only [SVal] at hv ⊢
      simp [hv]
    · have hne : i ≠ id' := fun e => by simp [refs, e] at hnr
      simp only [SVal] at hv ⊢
      simp [hne, hv]
  | p i off =>
    simp only [renF]
    split
    · rename_i hb
      have : i = id := Nat.eq_of_beq_eq_true hb
      subst this
      simp only [SVal] at hv ⊢
      simpa using hv
    · have hne : i ≠ id' := fun e => by simp [refs, e] at hnr
      simp only [SVal] at hv ⊢
      simpa [hne] using hv
  | v y => exact hv
  | e y sz i off => exact hv
  | q => trivial
theorem rl_ren {ops : Array Oper} {l : List Oper} (id id' : Nat) {oo : OO} (hs : gv σ id = some oo) (hr : noref id' ρ = true) (hσ : gv (Eng.rm id σ) id' = none)
    (h : RL F ops l (ren id id' ρ) ((id', oo) :: Eng.rm id σ) u μ Q) : RL F ops l ρ σ u μ Q := by
  rintro a w ⟨bk, hd, hR⟩
  obtain ⟨bk', hd', h2⟩ := hR.rename hs hr hσ
  exact h a w ⟨bk', hd', h2⟩
theorem wc_ren {c : Code} (id id' : Nat) {oo : OO} (hs : gv σ id = some oo) (hr : noref id' ρ = true) (hσ : gv (Eng.rm id σ) id' = none)
    (h : WC F c (ren id id' ρ) ((id', oo) :: Eng.rm id σ) u μ Q) : WC F c ρ σ u μ Q := by
  rintro a w ⟨bk, hd, hR⟩
  obtain ⟨bk', hd', h2⟩ := hR.rename hs hr hσ
  exact h a w ⟨bk', hd', h2⟩

/-- a smaller view serves too -/
theorem RepAt.back (h : RepAt F bk hd ρ σ u μ a w) {u' : View} (h1 : VLe u' u) (h2 : ∀ k, k < F.w0.heap.size → u' k = u k) : RepAt F bk hd ρ σ u' μ a w := by
  have hn : ∀ k, u k = none → u' k = none := fun k hk => by
    cases hu : u' k with
    | none => rfl
    | some o => exact absurd (h1 k o hu) (by simp [hk])
  exact ⟨h.size, h.defers, h.frame, fun k o hk => h.agree k o (h1 k o hk), fun k hk => (h2 k hk).trans (h.uold k hk), fun b o hb => let ⟨m1, m2, m3⟩ := h.mem b o hb; ⟨m1, hn b m2, m3⟩, h.slot, h.own, fun i o b hi hb => let ⟨x1, x2, x3⟩ := h.fresh i o b hi hb; ⟨x1, hn b x2, x3⟩, h.inj⟩

/-- a call that only reads a row of the call's own, and hands back no memory -/
theorem rl_call_b {ops : Array Oper} {rest : List Oper} {d : Nat} {ty : TypeId} {fo : Operand} {xs : List Operand} {ts : Array TypeId} {pos : String} {aft : Array Edge} {f : FuncId} {caps : List Value} (id : Nat) {T : TypeId} {sz n : Nat} {ys : List Value}
    (hf : opv ρ fo = some (.v (.func (.func f) #[] caps.toArray))) (hs : gv σ id = some (.row T sz n ys)) (hc : canCall F.P f = true) (hn : Nat.blt d F.n = true)
    (h : ∀ ad cap u', VLe u u' → SlC u' ad n cap sz ys → ∃ vs, opvs (frz id (.slice ad n cap) ρ) xs = some vs ∧ FnP F.P f (vs ++ caps) u' fun v _ => RL F ops rest ((d, .v v) :: ρ) σ u μ Q) :
    RL F ops (⟨some d, .call { callee := .value fo, args := xs.toArray, argTypes := ts }, ty, pos, aft, none⟩ :: rest) ρ σ u μ Q := by
  rintro a w ⟨bk, hd, hR⟩
  refine wpList_plain rfl fun K hK => ?_
  obtain ⟨ad, cap, u', h1, h2, hdiff, h3⟩ := hR.freeze hs
  obtain ⟨vs, hvs, hcall⟩ := h ad cap u' h1 h2
  have hrun : (execOp a.eval ⟨some d, .call { callee := .value fo, args := xs.toArray, argTypes := ts }, ty, pos, aft, none⟩).run F.P w = .ok (.enter f (vs ++ caps).toArray) w := by
    simp [execOp, resolve, hR.op hf, Deferred.ofValue, invoke, run_callFunc hc, h3.ops hvs]
  unfold Oper.wp
  rw [hrun]
  refine (hcall w h3.agree (by simp)).mono ?_
  rintro e w' ⟨v, u1, μ', rfl, ⟨hk, hle⟩, hA, hu, hw, hM⟩
  refine hK _ _ (hk _ _ ⟨bk, hd, RepAt.put ?_ (blt_lt hn) rfl⟩)
  exact hR.grow ⟨hw.1, hw.2.1, hw.2.2.1, hw.2.2.2.1, fun k hk _ => hw.2.2.2.2 k hk (by simp)⟩

/-- a call that hands back no memory: what it made is forgotten -/
theorem rl_call_f {ops : Array Oper} {rest : List Oper} {d : Nat} {ty : TypeId} {fo : Operand} {xs : List Operand} {ts : Array TypeId} {pos : String} {aft : Array Edge} {f : FuncId} {caps : List Value} {vs : List Value}
    (hf : opv ρ fo = some (.v (.func (.func f) #[] caps.toArray))) (hvs : opvs ρ xs = some vs) (hc : canCall F.P f = true) (hn : Nat.blt d F.n = true)
    (h : FnP F.P f (vs ++ caps) u fun v _ => RL F ops rest ((d, .v v) :: ρ) σ u μ Q) :
    RL F ops (⟨some d, .call { callee := .value fo, args := xs.toArray, argTypes := ts }, ty, pos, aft, none⟩ :: rest) ρ σ u μ Q := by
  rintro a w ⟨bk, hd, hR⟩
  refine wpList_plain rfl fun K hK => ?_
  have hrun : (execOp a.eval ⟨some d, .call { callee := .value fo, args := xs.toArray, argTypes := ts }, ty, pos, aft, none⟩).run F.P w = .ok (.enter f (vs ++ caps).toArray) w := by
    simp [execOp, resolve, hR.op hf, Deferred.ofValue, invoke, run_callFunc hc, hR.ops hvs]
  unfold Oper.wp
  rw [hrun]
  refine (h w hR.agree (by simp)).mono ?_
  rintro e w' ⟨v, u1, μ', rfl, ⟨hk, hle⟩, hA, hu, hw, hM⟩
  refine hK _ _ (hk _ _ ⟨bk, hd, RepAt.put ?_ (blt_lt hn) rfl⟩)
  exact hR.grow ⟨hw.1, hw.2.1, hw.2.2.1, hw.2.2.2.1, fun k hk _ => hw.2.2.2.2 k hk (by simp)⟩

/-! ### memory that was handed in -/
theorem rl_store_m {ops : Array Oper} {rest : List Oper} {T ty : TypeId} {x y : Operand} {pos : String} {aft : Array Edge} {b off n : Nat} {g : Bool} {c : Array Value} {Tb : TypeId} {vs cs' : List Value} {z : Value} (μ2 : Mem) (hk : tyK F.P T = some (g, n))
    (hx : opv ρ x = some (.v (.pointer (some ⟨b, off, none⟩)))) (hy : opv ρ y = some (.v z)) (hs : (b, Obj.cells c Tb (0, 0)) ∈ μ) (hz : z.cells.toList = vs) (hl : vs.length = n) (h1 : vs.all Value.oneCell' = true) (hle : off + n ≤ c.size) (hc : setAt c.toList off vs = cs')
    (hsub : ∀ x ∈ μ2, x ∈ μ ∧ x.1 ≠ b) (h : RL F ops rest ρ σ u ((b, .cells cs'.toArray Tb (0, 0)) :: μ2) Q) : RL F ops (⟨none, .store T x y, ty, pos, aft, none⟩ :: rest) ρ σ u μ Q := by
  rintro a w ⟨bk, hd, hR⟩
  refine wpList_plain rfl fun K hK => ?_
  obtain ⟨m1, m2, m3⟩ := hR.mem b _ hs
  have hrun : (execOp a.eval ⟨none, .store T x y, ty, pos, aft, none⟩).run F.P w = .ok .skip (w.setRow b cs'.toArray) := by
    have := run_storeVar_at (P := F.P) hk m1 hz hl h1 hle
    simp only [hc] at this
    simp [execOp, hR.op hx, hR.op hy, Instr.storeAt, Instr.sureAddr, this]
  unfold Oper.wp
  rw [hrun]
  have ho : ∀ k, k ≠ b → (w.setRow b cs'.toArray).heap[k]? = w.heap[k]? := fun k hk => setRow_other w b k _ hk
  refine hK _ _ (h _ _ ⟨bk, hd, ⟨hR.size, hR.defers, ?_, ?_, hR.uold, ?_, hR.slot, ?_, ?_, hR.inj⟩⟩)
  · obtain ⟨a1, a2, a3, a4, a5⟩ := hR.frame
    refine ⟨a1, a2, a3, by simpa using a4, fun k hk hD => ?_⟩
    rw [ho k (fun e => by subst e; exact m3.elim hD (fun hge => absurd hge (by omega)))]
    exact a5 k hk hD
  · intro k o' hk
    rw [ho k (fun e => by rw [e, m2] at hk; cases hk)]
    exact hR.agree k o' hk
  · intro b' o' hbo
    rcases List.mem_cons.1 hbo with e | hbo
    · cases e; exact ⟨setRow_heap w b _ _ Tb _ m1, m2, m3⟩
    · obtain ⟨hb1, hb2⟩ := hsub _ hbo
      obtain ⟨n1, n2, n3⟩ := hR.mem b' o' hb1
      exact ⟨(ho b' hb2).trans n1, n2, n3⟩
  · intro i o hi
    exact (hR.own i o hi).grow fun k hk => ho k fun e => (hR.fresh i o k hi hk).2.2 _ (e ▸ hs)
  · intro i o b' hi hb'
    obtain ⟨x1, x2, x3⟩ := hR.fresh i o b' hi hb'
    refine ⟨x1, x2, fun o' ho' => ?_⟩
    rcases List.mem_cons.1 ho' with e | ho'
    · cases e; exact x3 _ hs
    · exact x3 o' (hsub _ ho').1

/-! ### function values -/
theorem y_makeFunc {σS : Own} {uS : View} {μS : Mem} {o : Oper} {fn : _root_.Go.Fn} {first caps : List Operand} {fv cv : List Value} (ho : o.op = .makeFunc fn first.toArray caps.toArray) (h1 : opvs ρ first = some fv) (h2 : opvs ρ caps = some cv) : Yld F σS uS μS ρ σ u μ o (.v (.func fn fv.toArray cv.toArray)) := by
  intro bk hd a w hR
  refine ⟨_, rfl, fun w' _ => ?_⟩
  simp [execOp, ho, Instr.makeFunc, hR.ops h1, hR.ops h2]

/-- dropping memory that was handed in is always allowed -/
theorem RL.dropμ {ops : Array Oper} {l : List Oper} {μ' : Mem} (hs : ∀ x ∈ μ', x ∈ μ) (h : RL F ops l ρ σ u μ' Q) : RL F ops l ρ σ u μ Q := by
  rintro a w ⟨bk, hd, hR⟩
  exact h a w ⟨bk, hd, hR.size, hR.defers, hR.frame, hR.agree, hR.uold, fun b o hb => hR.mem b o (hs _ hb), hR.slot, hR.own, fun i o b hi hb => let ⟨x1, x2, x3⟩ := hR.fresh i o b hi hb; ⟨x1, x2, fun o' ho' => x3 o' (hs _ ho')⟩, hR.inj⟩
end

/-! ### rows, element by element -/
def rowsN (f : Nat → List Value) (k : Nat) : List Value := ((List.range k).map f).flatten
theorem rowsN_succ (f : Nat → List Value) (k : Nat) : rowsN f (k + 1) = rowsN f k ++ f k := by simp [rowsN, List.range_succ]
theorem length_rowsN {f : Nat → List Value} {sz : Nat} (hf : ∀ i, (f i).length = sz) : ∀ k, (rowsN f k).length = k * sz
  | 0 => by simp [rowsN]
  | k + 1 => by rw [rowsN_succ, List.length_append, length_rowsN hf k, hf, Nat.add_mul]; simp
theorem cut_append_left {a b : List Value} {o n : Nat} (h : o + n ≤ a.length) : cut (a ++ b) o n = cut a o n := by
  unfold cut
  rw [List.drop_append_of_le_length (by omega), List.take_append_of_le_length (by simp; omega)]
theorem cut_rowsN {f : Nat → List Value} {sz : Nat} (hf : ∀ i, (f i).length = sz) {i : Nat} : ∀ {k : Nat}, i < k → cut (rowsN f k) (i * sz) sz = f i
  | k + 1, h => by
    rw [rowsN_succ]
    by_cases hi : i < k
    · rw [cut_append_left, cut_rowsN hf hi]
      rw [length_rowsN hf]
      have : (i + 1) * sz ≤ k * sz := Nat.mul_le_mul_right _ hi
      rw [Nat.add_mul] at this
      omega
    · have : i = k := by omega
      subst this
      unfold cut
      rw [← length_rowsN hf i, List.drop_left, List.take_of_length_le (by rw [hf]; exact Nat.le_refl _)]
end Go.Eng
