/- The engine's rules for append, and for blocks that change hands. -/
import Derived.Test.YtchmiljeidkkpaaEngMore
namespace Go.Eng
open Go Go.RowKit

theorem tyZ_info {P : Program} {t : TypeId} {zs : List Value} (h : tyZ P t = some zs) : ∃ i z, P.info? t = some i ∧ i.zero = some z ∧ z.cells.toList = zs := by
  unfold tyZ at h
  cases hi : P.info? t with
  | none => simp [hi] at h
  | some i =>
    cases hz : i.zero with
    | none => simp [hi, hz] at h
    | some z =>
      simp [hi, hz] at h
      exact ⟨i, z, rfl, hz, h⟩

/-- the cells that a second operand of append hands over -/
def Gives (w : World) (x : Value) (m sz : Nat) (news : List Value) : Prop :=
  news.length = m * sz ∧ ∃ ad c, x = .slice ad m c ∧ (m ≠ 0 → ∃ a, ad = some a ∧ ∀ j y, news[j]? = some y → w.cell? (a.add j) = some y)

theorem append_run {P : Program} {w : World} {t ty e : TypeId} {sz by' : Nat} {zs : List Value} (ht : tyS P t = some (e, sz, by')) (hz : tyZ P e = some zs) (hzl : zs.length = sz) (hsz : 0 < sz)
    {base : Nat} {v : Value} {n : Nat} {xs : List Value} (hown : w.ownsRow base e sz v n xs) {x : Value} {m : Nat} {news : List Value} (hx : Gives w x m sz news) (h1 : ∀ y ∈ news, y.oneCell' = true)
    (h63 : n + m ≤ maxLen) (hbytes : (n + m) * by' ≤ 140737488355328) (hbase : base ≤ w.heap.size) :
    ∃ v' w', (Builtin.append_ #[t, t] ty #[v, x]).run P w = .ok v' w' ∧ w'.ownsRow base e sz v' (n + m) (xs ++ news) ∧ w.grownBy w' v.ownBlock ∧ (∀ b, v'.ownBlock = some b → v.ownBlock = some b ∨ w.heap.size ≤ b) := by
  obtain ⟨i, hu, hi, hisz, hiby⟩ := tyS_some ht
  obtain ⟨i2, z, hi2, hz2, hzc⟩ := tyZ_info hz
  rw [hi] at hi2; cases hi2
  obtain ⟨hnl, ad, c, rfl, hm⟩ := hx
  have hzs : z.cells.size = sz := by rw [← hzl, ← hzc]; simp
  by_cases hm0 : m = 0
  · subst hm0
    have hn0 : news = [] := List.eq_nil_of_length_eq_zero (by simpa using hnl)
    subst hn0
    refine ⟨v, w, ?_, by simpa using hown, ⟨rfl, rfl, rfl, Nat.le_refl _, fun _ _ _ => rfl⟩, fun b hb => .inl hb⟩
    have hf : (Builtin.firstCells i.size 0 (.slice ad 0 c)).run P w = .ok #[] w := by
      cases ad <;> simp [Builtin.firstCells, loadCells, loadCellsFrom]
    rcases hown.2 with ⟨rfl, rfl⟩ | ⟨g, cap, cur, rfl, hbg, hg, hnc, hcm, hcs, htake⟩
    · simp [Builtin.append_, run_underlying hu, sizeOf, typeInfo, hi, Builtin.lenOf, hf]
    · simp [Builtin.append_, run_underlying hu, sizeOf, typeInfo, hi, Builtin.lenOf, hf, hnc, storeCells]
  obtain ⟨a, rfl, hnews⟩ := hm hm0
  rcases hown.2 with ⟨rfl, rfl⟩ | ⟨g, cap, cur, rfl, hbg, hg, hnc, hcm, hcs, htake⟩
  · obtain ⟨v', w', hrun, ho, hgr, hiff⟩ := run_append_own (P := P) w base t ty e i z sz by' hu hi hz2 hisz hiby hzs hsz _ _ _ hown a m c news hnl hnews h1 h63 hbytes hbase
    refine ⟨v', w', hrun, ho, hgr, fun b hb => .inr ?_⟩
    have hr2 := run_append_nil (P := P) w t ty e i z hu hi hz2 a m c news (by rw [hisz]; exact hnl) hnews (by omega) (by simp only [maxLen] at h63; omega) (by rw [hiby]; simp only [Nat.zero_add] at hbytes; omega)
    rw [hr2] at hrun
    cases hrun
    simp [Value.ownBlock] at hb
    omega
  · obtain ⟨v', w', hrun, ho, hgr, hiff⟩ := run_append_own (P := P) w base t ty e i z sz by' hu hi hz2 hisz hiby hzs hsz _ _ _ hown a m c news hnl hnews h1 h63 hbytes hbase
    refine ⟨v', w', hrun, ho, hgr, fun b hb => ?_⟩
    by_cases hroom : n + m ≤ cap
    · have hfit : n * i.size + news.length ≤ cur.size := by rw [hisz, hnl, hcs, ← Nat.add_mul]; exact Nat.mul_le_mul_right _ hroom
      have hr2 := run_append_room (P := P) w t ty e i hu hi g n cap cur hg a m c news (by rw [hisz]; exact hnl) hnews h1 hroom hfit
      rw [hr2] at hrun
      cases hrun
      exact .inl hb
    · have hr2 := run_append_grow (P := P) w t ty e i z hu hi hz2 ⟨g, 0, none⟩ n cap xs (by rw [hisz]; exact hown.1) (hown.cells (g := g) rfl) a m c news (by rw [hisz]; exact hnl) hnews (by omega) (by simp only [maxLen] at h63; omega) (growslice_fits (by omega) (by rw [hiby]; exact hbytes))
      rw [hr2] at hrun
      cases hrun
      simp [Value.ownBlock] at hb
      exact .inr (by omega)

def rm (id : Nat) : Own → Own
  | [] => []
  | (k, x) :: r => match Nat.beq k id with
    | true => rm id r
    | false => (k, x) :: rm id r

theorem gv_rm {id : Nat} : ∀ {σ : Own} {k : Nat} {o : OO}, gv (rm id σ) k = some o → k ≠ id ∧ gv σ k = some o
  | [], k, o, h => by simp [rm, gv] at h
  | (j, x) :: r, k, o, h => by
    simp only [rm] at h
    split at h
    · rename_i hb
      obtain ⟨h1, h2⟩ := gv_rm h
      refine ⟨h1, ?_⟩
      have hj : j = id := Nat.eq_of_beq_eq_true hb
      have : Nat.beq j k = false := by
        cases hjk : Nat.beq j k with
        | false => rfl
        | true => exact absurd ((Nat.eq_of_beq_eq_true hjk).symm.trans hj) h1
      simp only [gv, this]
      exact h2
    · rename_i hb
      simp only [gv] at h ⊢
      split at h
      · rename_i hjk
        refine ⟨fun e => ?_, h⟩
        have hj := Nat.eq_of_beq_eq_true hjk
        rw [hj, e] at hb
        simp at hb
      · exact gv_rm h

section
variable {F : Fx} {ρ : Env} {σ : Own} {u : View} {μ : Mem} {Q : Post} {bk : Nat → Option Nat} {hd : Nat → Value} {a : Act} {w : World}

theorem RepAt.rm (h : RepAt F bk hd ρ σ u μ a w) (id : Nat) : RepAt F bk hd ρ (rm id σ) u μ a w :=
  ⟨h.size, h.defers, h.frame, h.agree, h.uold, h.mem, h.slot, fun i o hi => h.own i o (gv_rm hi).2, fun i o b hi => h.fresh i o b (gv_rm hi).2, fun i j o o' b hi hj => h.inj i j o o' b (gv_rm hi).2 (gv_rm hj).2⟩

theorem RepAt.subE {ρ' : Env} (h : RepAt F bk hd ρ σ u μ a w) (hs : Eng.subE ρ' ρ) : RepAt F bk hd ρ' σ u μ a w :=
  ⟨h.size, h.defers, h.frame, h.agree, h.uold, h.mem, fun k sv hk => h.slot k sv (gv_subE hs k sv hk), h.own, h.fresh, h.inj⟩

/-- what append does to all else -/
theorem RepAt.appended (h : RepAt F bk hd ρ σ u μ a w) {id : Nat} {E : TypeId} {sz n : Nat} {xs : List Value} {w' : World} (hs : gv σ id = some (.row E sz n xs)) (hg : w.grownBy w' (hd id).ownBlock) : RepAt F bk hd ρ (Eng.rm id σ) u μ a w' := by
  have hbk : bk id = (hd id).ownBlock := (h.own id _ hs).2
  have hb : ∀ k, k < w.heap.size → bk id ≠ some k → w'.heap[k]? = w.heap[k]? := fun k hk hne => hg.block k hk (fun e => hne (hbk.trans e.symm))
  refine ⟨h.size, h.defers, ?_, ?_, h.uold, ?_, h.slot, ?_, fun i o b hi => h.fresh i o b (gv_rm hi).2, fun i j o o' b hi hj => h.inj i j o o' b (gv_rm hi).2 (gv_rm hj).2⟩
  · obtain ⟨f1, f2, f3, f4, f5⟩ := h.frame
    refine ⟨hg.os.trans f1, hg.tape.trans f2, hg.output.trans f3, Nat.le_trans f4 hg.size, fun k hk hD => ?_⟩
    exact (hb k (by omega) (fun e => absurd (h.fresh id _ k hs e).1 (by omega))).trans (f5 k hk hD)
  · intro k o hk
    rw [hb k (h.agree.lt hk) (fun e => by rw [(h.fresh id _ k hs e).2.1] at hk; cases hk)]
    exact h.agree k o hk
  · intro b o hbo
    obtain ⟨m1, m2⟩ := h.mem b o hbo
    exact ⟨(hb b (Array.getElem?_eq_some_iff.1 m1).1 (fun e => (h.fresh id _ b hs e).2.2 o hbo)).trans m1, m2⟩
  · intro i o hi
    obtain ⟨hne, hi⟩ := gv_rm hi
    exact (h.own i o hi).grow fun k hk => hb k ((h.own i o hi).lt hk) fun e => hne (h.inj i id o _ k hi hs hk e)

theorem rl_append_core {ops : Array Oper} {rest : List Oper} {d : Nat} {t ty E : TypeId} {x y : Operand} {ts : Array TypeId} {pos : String} {aft : Array Edge} {id sz by' n m : Nat} {xs ys zs : List Value} {ρ' : Env} (hts : ts = #[t, t]) (ht : tyS F.P t = some (E, sz, by')) (hz : tyZ F.P E = some zs)
    (hzl : Nat.beq zs.length sz = true) (hsz : Nat.blt 0 sz = true) (hx : opv ρ x = some (.s id)) (hs : gv σ id = some (.row E sz n xs)) (hp : Eng.subE ρ' ρ) (hr : noref d ρ' = true) (hσ : gv (rm id σ) d = none) (hn : Nat.blt d F.n = true)
    (hy : ∀ bk hd a w, RepAt F bk hd ρ σ u μ a w → Gives w (a.eval y) m sz ys) (h1 : ys.all Value.oneCell' = true) (h63 : n + m ≤ 1099511627776) (hby : (n + m) * by' ≤ 140737488355328)
    (h : RL F ops rest ((d, .s d) :: ρ') ((d, .row E sz (n + m) (xs ++ ys)) :: rm id σ) u μ Q) :
    RL F ops (⟨some d, .call { callee := .builtin .append, args := #[x, y], argTypes := ts }, ty, pos, aft, none⟩ :: rest) ρ σ u μ Q := by
  subst hts
  rintro a w ⟨bk, hd, hR⟩
  refine wpList_plain rfl fun K hK => ?_
  obtain ⟨hown, hbk⟩ := hR.own id _ hs
  have hev : a.eval x = hd id := hR.opS hx
  obtain ⟨v', w', hrun, ho', hgr, hblk⟩ := append_run (ty := ty) ht hz (Nat.eq_of_beq_eq_true hzl) (blt_lt hsz) hown (hy _ _ _ _ hR) (fun y hy => List.all_eq_true.1 h1 y hy) (by unfold maxLen; omega) hby hR.frame.2.2.2.1
  have hrun' : (execOp a.eval ⟨some d, .call { callee := .builtin .append, args := #[x, y], argTypes := #[t, t] }, ty, pos, aft, none⟩).run F.P w = .ok (.value v') w' := by
    simp [execOp, resolve, invoke, builtin, hev, hrun]
  unfold Oper.wp
  rw [hrun']
  refine hK _ _ (h _ _ ⟨_, _, (((hR.appended hs hgr).subE hp).addOwn hr hσ (o := .row E sz (n + m) (xs ++ ys)) (bo := v'.ownBlock) (hv := v') ⟨ho', rfl⟩ ?_).put (blt_lt hn) (by simp [SVal])⟩)
  intro b hb
  have hlt := ho'.lt b hb
  refine ⟨hlt.1, ?_⟩
  rcases hblk b hb with hb2 | hb2
  · have hbid : bk id = some b := hbk.trans hb2
    obtain ⟨f1, f2, f3⟩ := hR.fresh id _ b hs hbid
    refine ⟨f2, f3, fun i oo hi e => ?_⟩
    obtain ⟨hne, hi⟩ := gv_rm hi
    exact hne (hR.inj i id oo _ b hi hs e hbid)
  · refine ⟨?_, ?_, ?_⟩
    · cases hu : u b with
      | none => rfl
      | some o => exact absurd (hR.agree.lt hu) (by omega)
    · intro o' ho'
      exact absurd (Array.getElem?_eq_some_iff.1 (hR.mem _ _ ho').1).1 (by omega)
    · intro i oo hi e
      obtain ⟨hne, hi⟩ := gv_rm hi
      exact absurd ((hR.own i oo hi).lt e) (by omega)

/-- append(x, y...), x and y rows of the call's own (y: the row that 'append(x, e)' makes) -/
theorem rl_append_s {ops : Array Oper} {rest : List Oper} {d : Nat} {t ty E E' : TypeId} {x y : Operand} {ts : Array TypeId} {pos : String} {aft : Array Edge} {id id2 sz by' n m : Nat} {xs ys zs : List Value} {ρ' : Env} (hts : ts = #[t, t]) (ht : tyS F.P t = some (E, sz, by')) (hz : tyZ F.P E = some zs)
    (hzl : Nat.beq zs.length sz = true) (hsz : Nat.blt 0 sz = true) (hx : opv ρ x = some (.s id)) (hs : gv σ id = some (.row E sz n xs)) (hy : opv ρ y = some (.s id2)) (hs2 : gv σ id2 = some (.row E' sz m ys)) (h1 : ys.all Value.oneCell' = true) (h63 : n + m ≤ 1099511627776) (hby : (n + m) * by' ≤ 140737488355328)
    (hp : Eng.subE ρ' ρ) (hr : noref d ρ' = true) (hσ : gv (rm id σ) d = none) (hn : Nat.blt d F.n = true)
    (h : RL F ops rest ((d, .s d) :: ρ') ((d, .row E sz (n + m) (xs ++ ys)) :: rm id σ) u μ Q) :
    RL F ops (⟨some d, .call { callee := .builtin .append, args := #[x, y], argTypes := ts }, ty, pos, aft, none⟩ :: rest) ρ σ u μ Q := by
  refine rl_append_core hts ht hz hzl hsz hx hs hp hr hσ hn ?_ h1 h63 hby h
  intro bk hd a w hR
  obtain ⟨hown2, hbk2⟩ := hR.own id2 _ hs2
  have hev : a.eval y = hd id2 := hR.opS hy
  refine ⟨hown2.1, ?_⟩
  rcases hown2.2 with ⟨hv, hn⟩ | ⟨g, cap, cur, hv, hbg, hg, hnc, hcm, hcs, htake⟩
  · exact ⟨none, 0, by rw [hev, hv, hn], fun hm => absurd hn hm⟩
  · exact ⟨_, _, by rw [hev, hv], fun _ => ⟨_, rfl, hown2.cells (by rw [hv]; rfl)⟩⟩

/-- append(x, y...), y a slice that nobody writes -/
theorem rl_append_v {ops : Array Oper} {rest : List Oper} {d : Nat} {t ty E : TypeId} {x y : Operand} {ts : Array TypeId} {pos : String} {aft : Array Edge} {id sz by' n m cap : Nat} {ad : Option Addr} {xs ys zs : List Value} {ρ' : Env} (hts : ts = #[t, t]) (ht : tyS F.P t = some (E, sz, by')) (hz : tyZ F.P E = some zs)
    (hzl : Nat.beq zs.length sz = true) (hsz : Nat.blt 0 sz = true) (hx : opv ρ x = some (.s id)) (hs : gv σ id = some (.row E sz n xs)) (hy : opv ρ y = some (.v (.slice ad m cap))) (hs2 : SlC u ad m cap sz ys) (h1 : ys.all Value.oneCell' = true) (h63 : n + m ≤ 1099511627776) (hby : (n + m) * by' ≤ 140737488355328)
    (hp : Eng.subE ρ' ρ) (hr : noref d ρ' = true) (hσ : gv (rm id σ) d = none) (hn : Nat.blt d F.n = true)
    (h : RL F ops rest ((d, .s d) :: ρ') ((d, .row E sz (n + m) (xs ++ ys)) :: rm id σ) u μ Q) :
    RL F ops (⟨some d, .call { callee := .builtin .append, args := #[x, y], argTypes := ts }, ty, pos, aft, none⟩ :: rest) ρ σ u μ Q := by
  refine rl_append_core hts ht hz hzl hsz hx hs hp hr hσ hn ?_ h1 h63 hby h
  intro bk hd a w hR
  refine ⟨hs2.1, ad, cap, hR.op hy, fun hm => ?_⟩
  obtain ⟨b, off, c, T, fr, rfl, hub, hcut⟩ := hs2.2.2.2 hm
  refine ⟨_, rfl, fun j x hj => ?_⟩
  rw [add_eq]
  simp only [World.cell?, hR.agree _ _ hub]
  simpa using getElem?_cut hcut hj

/-! ### blocks that change hands -/
/-- a nil slice is a row of the call's own, empty -/
theorem RepAt.ownNil (h : RepAt F bk hd ρ σ u μ a w) {k id : Nat} (T : TypeId) (sz : Nat) (hk : gv ρ k = some (.v (.slice none 0 0))) (hr : noref id ρ = true) (hσ : gv σ id = none) :
    RepAt F (fun j => if j = id then none else bk j) (fun j => if j = id then .slice none 0 0 else hd j) ((k, .s id) :: ρ) ((id, .row T sz 0 []) :: σ) u μ a w := by
  have h2 := h.addOwn (o := .row T sz 0 []) (bo := none) (hv := .slice none 0 0) hr hσ ⟨World.ownsRow_nil _ _ _ _, rfl⟩ (by simp)
  refine ⟨h2.size, h2.defers, h2.frame, h2.agree, h2.uold, h2.mem, ?_, h2.own, h2.fresh, h2.inj⟩
  intro j sv hj
  simp only [gv] at hj
  split at hj
  · rename_i hb
    have : k = j := Nat.eq_of_beq_eq_true hb
    subst this
    cases hj
    obtain ⟨x, hx, hs⟩ := h.slot k _ hk
    exact ⟨x, hx, by simp only [SVal] at hs ⊢; simp [hs]⟩
  · exact h2.slot j sv hj

theorem wc_own_nil {c : Code} (k id : Nat) (T : TypeId) (sz : Nat) (hk : gv ρ k = some (.v (.slice none 0 0))) (hr : noref id ρ = true) (hσ : gv σ id = none) (h : WC F c ((k, .s id) :: ρ) ((id, .row T sz 0 []) :: σ) u μ Q) : WC F c ρ σ u μ Q :=
  fun a w ⟨_, _, hR⟩ => h a w ⟨_, _, hR.ownNil T sz hk hr hσ⟩
theorem rl_own_nil {ops : Array Oper} {l : List Oper} (k id : Nat) (T : TypeId) (sz : Nat) (hk : gv ρ k = some (.v (.slice none 0 0))) (hr : noref id ρ = true) (hσ : gv σ id = none) (h : RL F ops l ((k, .s id) :: ρ) ((id, .row T sz 0 []) :: σ) u μ Q) : RL F ops l ρ σ u μ Q :=
  fun a w ⟨_, _, hR⟩ => h a w ⟨_, _, hR.ownNil T sz hk hr hσ⟩

/-- the view with one block more -/
def vput (u : View) (b : Nat) (o : Obj) : View := fun k => if k = b then some o else u k
theorem VLe.put {u : View} {b : Nat} {o : Obj} (h : u b = none) : VLe u (vput u b o) := by
  intro k o' hk
  unfold vput
  split
  · rename_i e; rw [e, h] at hk; cases hk
  · exact hk

end
end Go.Eng
