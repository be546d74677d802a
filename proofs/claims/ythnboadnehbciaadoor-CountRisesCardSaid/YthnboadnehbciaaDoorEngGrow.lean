/- The engine's rules for append, and for blocks that change hands. -/
import Derived.Test.YthnboadnehbciaaDoorEngMore
namespace Go.Eng
open Go Go.RowKit
set_option linter.unusedSimpArgs false
set_option linter.unusedVariables false

theorem tyZ_info {P : Program} {t : TypeId} {zs : List Value} (h : tyZ P t = some zs) : ∃ i z, P.info? t = some i ∧ i.zero = some z ∧ z.cells.toList = zs := by
  unfold tyZ at h
  cases hi : P.info? t with
  | none => simp [hi] at h
  | some i =>
    cases hz : i.zero with
    | none => simp [hi, hz] at h
    | some z =>
      simp [hi, hz] at h
      exact ⟨i, z, rfl, hz, h⟩

/-- the cells that a second operand of append hands over -/
def Gives (w : World) (x : Value) (m sz : Nat) (news : List Value) : Prop :=
  news.length = m * sz ∧ ∃ ad c, x = .slice ad m c ∧ (m ≠ 0 → ∃ a, ad = some a ∧ ∀ j y, news[j]? = some y → w.cell? (a.add j) = some y)

theorem append_run {P : Program} {w : World} {t ty e : TypeId} {sz by' : Nat} {zs : List Value} (ht : tyS P t = some (e, sz, by')) (hz : tyZ P e = some zs) (hzl : zs.length = sz) (hsz : 0 < sz)
    {base : Nat} {v : Value} {n : Nat} {xs : List Value} (hown : w.ownsRow base e sz v n xs) {x : Value} {m : Nat} {news : List Value} (hx : Gives w x m sz news) (h1 : ∀ y ∈ news, y.oneCell' = true)
    (h63 : n + m ≤ maxLen) (hbytes : (n + m) * by' ≤ 140737488355328) (hbase : base ≤ w.heap.size) :
    ∃ v' w', (Builtin.append_ #[t, t] ty #[v, x]).run P w = .ok v' w' ∧ w'.ownsRow base e sz v' (n + m) (xs ++ news) ∧ w.grownBy w' v.ownBlock ∧ (∀ b, v'.ownBlock = some b → v.ownBlock = some b ∨ w.heap.size ≤ b) := by
  obtain ⟨i, hu, hi, hisz, hiby⟩ := tyS_some ht
  obtain ⟨i2, z, hi2, hz2, hzc⟩ := tyZ_info hz
  rw [hi] at hi2; cases hi2
  obtain ⟨hnl, ad, c, rfl, hm⟩ := hx
  have hzs : z.cells.size = sz := by rw [← hzl, ← hzc]; simp
  by_cases hm0 : m = 0
  · subst hm0
    have hn0 : news = [] := List.eq_nil_of_length_eq_zero (by simpa using hnl)
    subst hn0
    refine ⟨v, w, ?_, by simpa using hown, ⟨rfl, rfl, rfl, Nat.le_refl _, fun _ _ _ => rfl⟩, fun b hb => .inl hb⟩
    have hf : (Builtin.firstCells i.size 0 (.slice ad 0 c)).run P w = .ok #[] w := by
      cases ad <;> simp [Builtin.firstCells, loadCells, loadCellsFrom]
    rcases hown.2 with ⟨rfl, rfl⟩ | ⟨g, cap, cur, rfl, hbg, hg, hnc, hcm, hcs, htake⟩
    · simp [Builtin.append_, run_underlying hu, sizeOf, typeInfo, hi, Builtin.lenOf, hf]
    · simp [Builtin.append_, run_underlying hu, sizeOf, typeInfo, hi, Builtin.lenOf, hf, hnc, storeCells]
  obtain ⟨a, rfl, hnews⟩ := hm hm0
  rcases hown.2 with ⟨rfl, rfl⟩ | ⟨g, cap, cur, rfl, hbg, hg, hnc, hcm, hcs, htake⟩
  · obtain ⟨v', w', hrun, ho, hgr, hiff⟩ := run_append_own (P := P) w base t ty e i z sz by' hu hi hz2 hisz hiby hzs hsz _ _ _ hown a m c news hnl hnews h1 h63 hbytes hbase
    refine ⟨v', w', hrun, ho, hgr, fun b hb => .inr ?_⟩
    have hr2 := run_append_nil (P := P) w t ty e i z hu hi hz2 a m c news (by rw [hisz]; exact hnl) hnews (by omega) (by simp only [maxLen] at h63; omega) (by rw [hiby]; simp only [Nat.zero_add] at hbytes; omega)
    rw [hr2] at hrun
    cases hrun
    simp [Value.ownBlock] at hb
    omega
  · obtain ⟨v', w', hrun, ho, hgr, hiff⟩ := run_append_own (P := P) w base t ty e i z sz by' hu hi hz2 hisz hiby hzs hsz _ _ _ hown a m c news hnl hnews h1 h63 hbytes hbase
    refine ⟨v', w', hrun, ho, hgr, fun b hb => ?_⟩
    by_cases hroom : n + m ≤ cap
    · have hfit : n * i.size + news.length ≤ cur.size := by rw [hisz, hnl, hcs, ← Nat.add_mul]; exact Nat.mul_le_mul_right _ hroom
      have hr2 := run_append_room (P := P) w t ty e i hu hi g n cap cur hg a m c news (by rw [hisz]; exact hnl) hnews h1 hroom hfit
      rw [hr2] at hrun
      cases hrun
      exact .inl hb
    · have hr2 := run_append_grow (P := P) w t ty e i z hu hi hz2 ⟨g, 0, none⟩ n cap xs (by rw [hisz]; exact hown.1) (hown.cells (g := g) rfl) a m c news (by rw [hisz]; exact hnl) hnews (by omega) (by simp only [maxLen] at h63; omega) (growslice_fits (by omega) (by rw [hiby]; exact hbytes))
      rw [hr2] at hrun
      cases hrun
      simp [Value.ownBlock] at hb
      exact .inr (by omega)

def rm (id : Nat) : Own → Own
  | [] => []
  | (k, x) :: r => match Nat.beq k id with
    | true => rm id r
    | false => (k, x) :: rm id r

theorem gv_rm {id : Nat} : ∀ {σ : Own} {k : Nat} {o : PO}, gv (rm id σ) k = some o → k ≠ id ∧ gv σ k = some o
  | [], k, o, h => by simp [rm, gv] at h
  | (j, x) :: r, k, o, h => by
    simp only [rm] at h
    split at h
    · rename_i hb
      obtain ⟨h1, h2⟩ := gv_rm h
      refine ⟨h1, ?_⟩
      have hj : j = id := Nat.eq_of_beq_eq_true hb
      have : Nat.beq j k = false := by
        cases hjk : Nat.beq j k with
        | false => rfl
        | true => exact absurd ((Nat.eq_of_beq_eq_true hjk).symm.trans hj) h1
      simp only [gv, this]
      exact h2
    · rename_i hb
      simp only [gv] at h ⊢
      split at h
      · rename_i hjk
        refine ⟨fun e => ?_, h⟩
        have hj := Nat.eq_of_beq_eq_true hjk
        rw [hj, e] at hb
        simp at hb
      · exact gv_rm h

theorem gv_rm_ne {id : Nat} : ∀ {σ : Own} {k : Nat} {p : PO}, k ≠ id → gv σ k = some p → gv (rm id σ) k = some p
  | [], k, p, _, h => by simp [gv] at h
  | (j, x) :: r, k, p, hne, h => by
    simp only [gv] at h
    simp only [rm]
    split at h
    · rename_i hb
      have := Nat.eq_of_beq_eq_true hb
      subst this
      cases h
      have : Nat.beq j id = false := by
        cases hj : Nat.beq j id with
        | false => rfl
        | true => exact absurd (Nat.eq_of_beq_eq_true hj) hne
      simp [this, gv]
    · rename_i hb
      split
      · exact gv_rm_ne hne h
      · simp only [gv, hb]
        exact gv_rm_ne hne h
/-- no slot holds the slice of id -/
def noS (id : Nat) : Env → Bool
  | [] => true
  | (_, .s i) :: r => match Nat.beq i id with
    | true => false
    | false => noS id r
  | _ :: r => noS id r
theorem noS_gv {id : Nat} : ∀ {ρ : Env}, noS id ρ = true → ∀ k sv, gv ρ k = some sv → sv ≠ .s id
  | [], _, k, sv, h => by simp [gv] at h
  | (j, x) :: r, hn, k, sv, h => by
    have hr : noS id r = true ∧ x ≠ .s id := by
      cases x with
      | s i =>
        simp only [noS] at hn
        split at hn
        · cases hn
        · rename_i hb
          exact ⟨hn, fun e => by cases e; simp at hb⟩
      | _ => exact ⟨by simpa [noS] using hn, by simp⟩
    simp only [gv] at h
    split at h
    · cases h; exact hr.2
    · exact noS_gv hr.1 k sv h
theorem off_cut (x : Value) : cut (#[x] : Array Value).toList 0 1 = [x] := rfl

section
variable {F : Fx} {ρ : Env} {σ : Own} {u : View} {Q : Post} {bk : Nat → Option Nat} {hd : Nat → Value} {a : Act} {w : World}

theorem RepAt.rm (h : RepAt F bk hd ρ σ u a w) (id : Nat) : RepAt F bk hd ρ (rm id σ) u a w :=
  ⟨h.size, h.defers, h.frame, h.agree, h.uold, h.slot, fun i o hi => h.own i o (gv_rm hi).2, fun i o b hi => h.fresh i o b (gv_rm hi).2, fun i j o o' b hi hj => h.inj i j o o' b (gv_rm hi).2 (gv_rm hj).2⟩

theorem RepAt.subE {ρ' : Env} (h : RepAt F bk hd ρ σ u a w) (hs : Eng.subE ρ' ρ) : RepAt F bk hd ρ' σ u a w :=
  ⟨h.size, h.defers, h.frame, h.agree, h.uold, fun k sv hk => h.slot k sv (gv_subE hs k sv hk), h.own, h.fresh, h.inj⟩

/-- what append does to all else -/
theorem RepAt.appended (h : RepAt F bk hd ρ σ u a w) {id : Nat} {p : PO} {w' : World} (hs : gv σ id = some p) (hg : w.grownBy w' (hd id).ownBlock) (hh : ∀ b, (hd id).ownBlock = some b → p.2.holds (bk id) (hd id) b) : RepAt F bk hd ρ (Eng.rm id σ) u a w' := by
  have hb : ∀ k, k < w.heap.size → ¬ p.2.holds (bk id) (hd id) k → w'.heap[k]? = w.heap[k]? := fun k hk hne => hg.block k hk (fun e => hne (hh k e.symm))
  refine ⟨h.size, h.defers, ?_, ?_, h.uold, h.slot, ?_, fun i o b hi => h.fresh i o b (gv_rm hi).2, fun i j o o' b hi hj => h.inj i j o o' b (gv_rm hi).2 (gv_rm hj).2⟩
  · obtain ⟨f1, f2, f3, f4, f5⟩ := h.frame
    refine ⟨hg.os.trans f1, hg.tape.trans f2, hg.output.trans f3, Nat.le_trans f4 hg.size, fun k hk hD => ?_⟩
    exact (hb k (by omega) (fun e => by rcases (h.fresh id p k hs e).1 with x | x; exact hD x; omega)).trans (f5 k hk hD)
  · intro k o hk
    rw [hb k (h.agree.lt hk) (fun e => by rw [(h.fresh id p k hs e).2] at hk; cases hk)]
    exact h.agree k o hk
  · intro i o hi
    obtain ⟨hne, hi⟩ := gv_rm hi
    exact (h.own i o hi).grow fun k hk => hb k ((h.own i o hi).lt hk) fun e => hne (h.inj i id o p k hi hs hk e)

/-- the row behind an append: v' its slice -/
theorem RepAt.appendedRow {w' : World} (hR : RepAt F bk hd ρ σ u a w) {id d : Nat} {p : PO} {E : TypeId} {sz n : Nat} {xs : List Value} {v' : Value} {ρ' : Env} (hs : gv σ id = some p) (hh : ∀ b, (hd id).ownBlock = some b → p.2.holds (bk id) (hd id) b)
    (hown : w'.ownsRow 0 E sz v' n xs) (hgr : w.grownBy w' (hd id).ownBlock) (hblk : ∀ b, v'.ownBlock = some b → (hd id).ownBlock = some b ∨ w.heap.size ≤ b) (hp : Eng.subE ρ' ρ) (hr : noref d ρ' = true) (hσ : gv (Eng.rm id σ) d = none) :
    RepAt F (fun j => if j = d then v'.ownBlock else bk j) (fun j => if j = d then v' else hd j) ρ' ((d, (none, .row E sz n xs)) :: Eng.rm id σ) u a w' := by
  refine ((hR.appended hs hgr hh).subE hp).addOwn hr hσ (p := (none, .row E sz n xs)) (bo := v'.ownBlock) (hv := v') ⟨⟨hown, rfl⟩, by simp⟩ ?_
  intro b hb
  rcases hblk b hb with hb2 | hb2
  · have hbid := hh b hb2
    obtain ⟨f1, f2⟩ := hR.fresh id p b hs hbid
    refine ⟨f1, f2, fun i oo hi e => ?_⟩
    obtain ⟨hne, hi⟩ := gv_rm hi
    exact hne (hR.inj i id oo p b hi hs e hbid)
  · refine ⟨.inr (Nat.le_trans hR.frame.2.2.2.1 hb2), ?_, ?_⟩
    · cases hu : u b with
      | none => rfl
      | some o => exact absurd (hR.agree.lt hu) (by omega)
    · intro i oo hi e
      obtain ⟨hne, hi⟩ := gv_rm hi
      exact absurd ((hR.own i oo hi).lt e) (by omega)

theorem do_append_core {σS : Own} {K : Env → Own → View → Prop} {d : Nat} {t ty E : TypeId} {x y : Operand} {ts : Array TypeId} {pos : String} {aft : Array Edge} {id sz by' n m : Nat} {pn : Option Nat} {xs ys zs : List Value} {ρ' : Env} (hS : subO σS σ) (hid : gv σS id = none) (hts : ts = #[t, t]) (ht : tyS F.P t = some (E, sz, by')) (hz : tyZ F.P E = some zs)
    (hzl : Nat.beq zs.length sz = true) (hsz : Nat.blt 0 sz = true) (hx : opv ρ x = some (.s id)) (hs : gv σ id = some (pn, .row E sz n xs)) (hp : Eng.subE ρ' ρ) (hr : noref d ρ' = true) (hσ : gv (rm id σ) d = none) (hn : Nat.blt d F.n = true)
    (hy : ∀ bk hd a w, RepAt F bk hd ρ σ u a w → Gives w (a.eval y) m sz ys) (h1 : ys.all Value.oneCell' = true) (h63 : n + m ≤ 1099511627776) (hby : (n + m) * by' ≤ 140737488355328)
    (h : K ((d, .s d) :: ρ') ((d, (none, .row E sz (n + m) (xs ++ ys))) :: rm id σ) u) :
    Does F σS ⟨some d, .call { callee := .builtin .append, args := #[x, y], argTypes := ts }, ty, pos, aft, none⟩ ρ σ u K := by
  subst hts
  intro bk hd a w Q hR N hN
  obtain ⟨⟨hown, hbk⟩, _⟩ := hR.own id _ hs
  have hev : a.eval x = hd id := hR.opS hx
  obtain ⟨v', w', hrun, ho', hgr, hblk⟩ := append_run (ty := ty) ht hz (Nat.eq_of_beq_eq_true hzl) (blt_lt hsz) hown (hy _ _ _ _ hR) (fun y hy => List.all_eq_true.1 h1 y hy) (by unfold maxLen; omega) hby (Nat.zero_le _)
  have hrun' : (execOp a.eval ⟨some d, .call { callee := .builtin .append, args := #[x, y], argTypes := #[t, t] }, ty, pos, aft, none⟩).run F.P w = .ok (.value v') w' := by
    simp [execOp, resolve, invoke, builtin, hev, hrun]
  unfold Oper.wp
  rw [hrun']
  have hh : ∀ b, (hd id).ownBlock = some b → bk id = some b := fun b hb => hbk.trans hb
  refine hN _ _ _ _ _ _ _ h ((hR.appendedRow hs hh ho' hgr hblk hp hr hσ).put (blt_lt hn) (by simp [SVal])) (fun x hx => ?_)
  refine same_of (VLe.refl u) (fun i q hi => ?_) (fun i q b hi hb => ?_) hx
  · by_cases hid2 : i = id
    · rw [hid2, hid] at hi; cases hi
    · have : i ≠ d := fun e => by
        have h1 := gv_subO hS i q hi
        have : gv (rm id σ) i = some q := gv_rm_ne hid2 h1
        rw [e, hσ] at this; cases this
      simp [this]
  · have hq := gv_subO hS i q hi
    exact hgr.block b ((hR.own i q hq).lt hb) fun e => by
      have := hR.inj i id q _ b hq hs hb (hh b e.symm)
      rw [this, hid] at hi; cases hi

/-- append(x, y...), x and y rows of the call's own (y: the row that 'append(x, e)' makes) -/
theorem do_append_s {σS : Own} {K : Env → Own → View → Prop} {d : Nat} {t ty E E' : TypeId} {x y : Operand} {ts : Array TypeId} {pos : String} {aft : Array Edge} {id id2 sz by' n m : Nat} {pn pn2 : Option Nat} {xs ys zs : List Value} {ρ' : Env} (hS : subO σS σ) (hid : gv σS id = none) (hts : ts = #[t, t]) (ht : tyS F.P t = some (E, sz, by')) (hz : tyZ F.P E = some zs)
    (hzl : Nat.beq zs.length sz = true) (hsz : Nat.blt 0 sz = true) (hx : opv ρ x = some (.s id)) (hs : gv σ id = some (pn, .row E sz n xs)) (hy : opv ρ y = some (.s id2)) (hs2 : gv σ id2 = some (pn2, .row E' sz m ys)) (h1 : ys.all Value.oneCell' = true) (h63 : n + m ≤ 1099511627776) (hby : (n + m) * by' ≤ 140737488355328)
    (hp : Eng.subE ρ' ρ) (hr : noref d ρ' = true) (hσ : gv (rm id σ) d = none) (hn : Nat.blt d F.n = true)
    (h : K ((d, .s d) :: ρ') ((d, (none, .row E sz (n + m) (xs ++ ys))) :: rm id σ) u) :
    Does F σS ⟨some d, .call { callee := .builtin .append, args := #[x, y], argTypes := ts }, ty, pos, aft, none⟩ ρ σ u K := by
  refine do_append_core hS hid hts ht hz hzl hsz hx hs hp hr hσ hn ?_ h1 h63 hby h
  intro bk hd a w hR
  obtain ⟨⟨hown2, hbk2⟩, _⟩ := hR.own id2 _ hs2
  have hev : a.eval y = hd id2 := hR.opS hy
  refine ⟨hown2.1, ?_⟩
  rcases hown2.2 with ⟨hv, hn⟩ | ⟨g, cap, cur, hv, hbg, hg, hnc, hcm, hcs, htake⟩
  · exact ⟨none, 0, by rw [hev, hv, hn], fun hm => absurd hn hm⟩
  · exact ⟨_, _, by rw [hev, hv], fun _ => ⟨_, rfl, hown2.cells (by rw [hv]; rfl)⟩⟩

/-- append(x, y...), y a slice that nobody writes -/
theorem do_append_v {σS : Own} {K : Env → Own → View → Prop} {d : Nat} {t ty E : TypeId} {x y : Operand} {ts : Array TypeId} {pos : String} {aft : Array Edge} {id sz by' n m cap : Nat} {pn : Option Nat} {ad : Option Addr} {xs ys zs : List Value} {ρ' : Env} (hS : subO σS σ) (hid : gv σS id = none) (hts : ts = #[t, t]) (ht : tyS F.P t = some (E, sz, by')) (hz : tyZ F.P E = some zs)
    (hzl : Nat.beq zs.length sz = true) (hsz : Nat.blt 0 sz = true) (hx : opv ρ x = some (.s id)) (hs : gv σ id = some (pn, .row E sz n xs)) (hy : opv ρ y = some (.v (.slice ad m cap))) (hs2 : SlC u ad m cap sz ys) (h1 : ys.all Value.oneCell' = true) (h63 : n + m ≤ 1099511627776) (hby : (n + m) * by' ≤ 140737488355328)
    (hp : Eng.subE ρ' ρ) (hr : noref d ρ' = true) (hσ : gv (rm id σ) d = none) (hn : Nat.blt d F.n = true)
    (h : K ((d, .s d) :: ρ') ((d, (none, .row E sz (n + m) (xs ++ ys))) :: rm id σ) u) :
    Does F σS ⟨some d, .call { callee := .builtin .append, args := #[x, y], argTypes := ts }, ty, pos, aft, none⟩ ρ σ u K := by
  refine do_append_core hS hid hts ht hz hzl hsz hx hs hp hr hσ hn ?_ h1 h63 hby h
  intro bk hd a w hR
  refine ⟨hs2.1, ad, cap, hR.op hy, fun hm => ?_⟩
  obtain ⟨b, off, c, T, fr, rfl, hub, hcut⟩ := hs2.2.2.2 hm
  refine ⟨_, rfl, fun j x hj => ?_⟩
  rw [add_eq]
  simp only [World.cell?, hR.agree _ _ hub]
  simpa using getElem?_cut hcut hj

/-- append(nil, y...) -/
theorem do_append_nil {σS : Own} {K : Env → Own → View → Prop} {d : Nat} {t ty E : TypeId} {x y : Operand} {ts : Array TypeId} {pos : String} {aft : Array Edge} {sz by' m : Nat} {ys zs : List Value} (hS : subO σS σ) (hts : ts = #[t, t]) (ht : tyS F.P t = some (E, sz, by')) (hz : tyZ F.P E = some zs)
    (hzl : Nat.beq zs.length sz = true) (hsz : Nat.blt 0 sz = true) (hx : opv ρ x = some (.v (.slice none 0 0))) (hr : noref d ρ = true) (hσ : gv σ d = none) (hn : Nat.blt d F.n = true)
    (hy : ∀ bk hd a w, RepAt F bk hd ρ σ u a w → Gives w (a.eval y) m sz ys) (h1 : ys.all Value.oneCell' = true) (h63 : m ≤ 1099511627776) (hby : m * by' ≤ 140737488355328)
    (h : K ((d, .s d) :: ρ) ((d, (none, .row E sz m ys)) :: σ) u) :
    Does F σS ⟨some d, .call { callee := .builtin .append, args := #[x, y], argTypes := ts }, ty, pos, aft, none⟩ ρ σ u K := by
  subst hts
  intro bk hd a w Q hR N hN
  have hev : a.eval x = .slice none 0 0 := hR.op hx
  obtain ⟨v', w', hrun, ho', hgr, hblk⟩ := append_run (ty := ty) (base := 0) (v := .slice none 0 0) (n := 0) (xs := []) ht hz (Nat.eq_of_beq_eq_true hzl) (blt_lt hsz) (World.ownsRow_nil _ _ _ _) (hy _ _ _ _ hR) (fun y hy => List.all_eq_true.1 h1 y hy) (by unfold maxLen; omega) (by simpa using hby) (Nat.zero_le _)
  have hrun' : (execOp a.eval ⟨some d, .call { callee := .builtin .append, args := #[x, y], argTypes := #[t, t] }, ty, pos, aft, none⟩).run F.P w = .ok (.value v') w' := by
    simp [execOp, resolve, invoke, builtin, hev, hrun]
  unfold Oper.wp
  rw [hrun']
  simp only [Nat.zero_add, List.nil_append] at ho'
  have hg0 : Frame0 w noD w' := ⟨hgr.os, hgr.tape, hgr.output, hgr.size, fun k hk _ => hgr.block k hk (by simp [Value.ownBlock])⟩
  refine hN _ _ _ _ _ _ _ h (((hR.grow hg0).addOwn hr hσ (p := (none, .row E sz m ys)) (bo := v'.ownBlock) (hv := v') ⟨⟨ho', rfl⟩, by simp⟩ ?_).put (blt_lt hn) (by simp [SVal])) (fun x hx => ?_)
  · intro b hb
    have hb2 : w.heap.size ≤ b := by
      rcases hblk b hb with h | h
      · simp [Value.ownBlock] at h
      · exact h
    refine ⟨.inr (Nat.le_trans hR.frame.2.2.2.1 hb2), ?_, fun id oo hi hb => absurd ((hR.own id oo hi).lt hb) (by omega)⟩
    cases hu : u b with
    | none => rfl
    | some o => exact absurd (hR.agree.lt hu) (by omega)
  · refine same_of (VLe.refl u) (fun id p hi => ?_) (fun id p b hi hb => ?_) hx
    · have : id ≠ d := fun e => by rw [e, gv_subO_none hS hσ] at hi; cases hi
      simp [this]
    · exact hg0.2.2.2.2 b ((hR.own id p (gv_subO hS id p hi)).lt hb) (fun h => h)
theorem do_append_nil_v {σS : Own} {K : Env → Own → View → Prop} {d : Nat} {t ty E : TypeId} {x y : Operand} {ts : Array TypeId} {pos : String} {aft : Array Edge} {sz by' m cap : Nat} {ad : Option Addr} {ys zs : List Value} (hS : subO σS σ) (hts : ts = #[t, t]) (ht : tyS F.P t = some (E, sz, by')) (hz : tyZ F.P E = some zs)
    (hzl : Nat.beq zs.length sz = true) (hsz : Nat.blt 0 sz = true) (hx : opv ρ x = some (.v (.slice none 0 0))) (hy : opv ρ y = some (.v (.slice ad m cap))) (hs2 : SlC u ad m cap sz ys) (h1 : ys.all Value.oneCell' = true) (h63 : m ≤ 1099511627776) (hby : m * by' ≤ 140737488355328) (hr : noref d ρ = true) (hσ : gv σ d = none) (hn : Nat.blt d F.n = true)
    (h : K ((d, .s d) :: ρ) ((d, (none, .row E sz m ys)) :: σ) u) :
    Does F σS ⟨some d, .call { callee := .builtin .append, args := #[x, y], argTypes := ts }, ty, pos, aft, none⟩ ρ σ u K := by
  refine do_append_nil hS hts ht hz hzl hsz hx hr hσ hn ?_ h1 h63 hby h
  intro bk hd a w hR
  refine ⟨hs2.1, ad, cap, hR.op hy, fun hm => ?_⟩
  obtain ⟨b, off, c, T, fr, rfl, hub, hcut⟩ := hs2.2.2.2 hm
  refine ⟨_, rfl, fun j x hj => ?_⟩
  rw [add_eq]
  simp only [World.cell?, hR.agree _ _ hub]
  simpa using getElem?_cut hcut hj

/-! ### a slice in a box, with its row -/
/-- the slice that the box holds -/
theorem y_load_rb {σS : Own} {uS : View} {o : Oper} {t : TypeId} {x : Operand} {id : Nat} {T : TypeId} {sz n sz' n' : Nat} {T' : TypeId} {xs xs' : List Value} {pn pn' : Option Nat} (ho : o.op = .load t x) (hk : tyK F.P t = some (false, 1)) (hx : opv ρ x = some (.p id 0))
    (hs : gv σ id = some (pn, .rb T sz n xs)) (hS : gv σS id = some (pn', .rb T' sz' n' xs')) : Yld F σS uS ρ σ u o (.s id) := by
  intro bk hd a w hR
  obtain ⟨b, hb, hx'⟩ := hR.opS hx
  obtain ⟨⟨hown, b', Tb, hb', hh, _⟩, _⟩ := hR.own id _ hs
  rw [hb] at hb'; cases hb'
  refine ⟨hd id, rfl, fun w' hw => ?_⟩
  have hh' := (hw.2 id _ b hS (.inl hb)).trans hh
  have := run_loadVar_cut (P := F.P) (w := w') (vs := [hd id]) hk hh' (off_cut _) rfl rfl
  simp [execOp, ho, hx', Instr.loadAt, Instr.sureAddr, this]
theorem y_len_rb {σS : Own} {uS : View} {o : Oper} {x : Operand} {t T : TypeId} {ts : Array TypeId} {id n sz' : Nat} {pn : Option Nat} {xs : List Value} (ho : o.op = .call { callee := .builtin .len, args := #[x], argTypes := ts }) (ht : ts[0]? = some t) {e sz by'} (hS : tyS F.P t = some (e, sz, by'))
    (hx : opv ρ x = some (.s id)) (hs : gv σ id = some (pn, .rb T sz' n xs)) : Yld F σS uS ρ σ u o (.v (.int .i64 n)) := by
  intro bk hd a w hR
  obtain ⟨inf, hu, _⟩ := tyS_some hS
  obtain ⟨⟨hown, _⟩, _⟩ := hR.own id _ hs
  have hx2 : a.eval x = hd id := hR.opS hx
  refine ⟨_, rfl, fun w' _ => ?_⟩
  rcases hown.2 with ⟨hv, hn⟩ | ⟨b', cap, cur, hv, hg, hh, hnc, hcm, hcs, htake⟩
  · subst hn; simp [execOp, ho, resolve, invoke, builtin, Builtin.len_, ht, hx2, hv, run_underlying hu, goInt]
  · simp [execOp, ho, resolve, invoke, builtin, Builtin.len_, ht, hx2, hv, run_underlying hu, goInt]

theorem do_append_rb_core {σS : Own} {K : Env → Own → View → Prop} {d : Nat} {t ty E : TypeId} {x y : Operand} {ts : Array TypeId} {pos : String} {aft : Array Edge} {id sz by' n m : Nat} {pn : Option Nat} {xs ys zs : List Value} {ρ' : Env} (hS : subO σS σ) (hid : gv σS id = none) (hts : ts = #[t, t]) (ht : tyS F.P t = some (E, sz, by')) (hz : tyZ F.P E = some zs)
    (hzl : Nat.beq zs.length sz = true) (hsz : Nat.blt 0 sz = true) (hx : opv ρ x = some (.s id)) (hs : gv σ id = some (pn, .rb E sz n xs)) (hp : Eng.subE ρ' ρ) (hr : noref d ρ' = true) (hr2 : noS id ρ' = true) (hσ : gv σ d = none) (hn : Nat.blt d F.n = true)
    (hy : ∀ bk hd a w, RepAt F bk hd ρ σ u a w → Gives w (a.eval y) m sz ys) (h1 : ys.all Value.oneCell' = true) (h63 : n + m ≤ 1099511627776) (hby : (n + m) * by' ≤ 140737488355328)
    (h : K ((d, .s d) :: ρ') ((d, (none, .row E sz (n + m) (xs ++ ys))) :: (id, (pn, .wild)) :: rm id σ) u) :
    Does F σS ⟨some d, .call { callee := .builtin .append, args := #[x, y], argTypes := ts }, ty, pos, aft, none⟩ ρ σ u K := by
  subst hts
  intro bk hd a w Q hR N hN
  obtain ⟨⟨hown, b0, Tb, hb0, hh0, hne0⟩, hpn⟩ := hR.own id _ hs
  have hev : a.eval x = hd id := hR.opS hx
  obtain ⟨v', w', hrun, ho', hgr, hblk⟩ := append_run (ty := ty) ht hz (Nat.eq_of_beq_eq_true hzl) (blt_lt hsz) hown (hy _ _ _ _ hR) (fun y hy => List.all_eq_true.1 h1 y hy) (by unfold maxLen; omega) hby (Nat.zero_le _)
  have hrun' : (execOp a.eval ⟨some d, .call { callee := .builtin .append, args := #[x, y], argTypes := #[t, t] }, ty, pos, aft, none⟩).run F.P w = .ok (.value v') w' := by
    simp [execOp, resolve, invoke, builtin, hev, hrun]
  unfold Oper.wp
  rw [hrun']
  have hh : ∀ b, (hd id).ownBlock = some b → (OO.rb E sz n xs).holds (bk id) (hd id) b := fun b hb => .inr hb
  have hlt0 : b0 < w.heap.size := (Array.getElem?_eq_some_iff.1 hh0).1
  have hdne : d ≠ id := fun e => by rw [e, hs] at hσ; cases hσ
  have hrm : gv (rm id σ) d = none := by
    cases hg : gv (rm id σ) d with
    | none => rfl
    | some q => rw [(gv_rm hg).2] at hσ; cases hσ
  have hR2 := hR.appendedRow hs hh ho' hgr hblk hp hr hrm
  -- the box is laid back, as 'wild'
  have hb0w : w'.heap[b0]? = some (.cells #[hd id] Tb (0, 0)) := (hgr.block b0 hlt0 (fun e => hne0 e.symm)).trans hh0
  have hidσ : gv ((d, (none, OO.row E sz (n + m) (xs ++ ys))) :: rm id σ) id = none := by
    rw [gv_cons_ne hdne]
    cases hg : gv (rm id σ) id with
    | none => rfl
    | some q => exact absurd rfl (gv_rm hg).1
  have hR3 : RepAt F (fun j => if j = d then v'.ownBlock else bk j) (fun j => if j = d then v' else hd j) ρ' ((d, (none, .row E sz (n + m) (xs ++ ys))) :: (id, (pn, .wild)) :: rm id σ) u a w' := by
    have hcase : ∀ j q, gv ((d, (none, OO.row E sz (n + m) (xs ++ ys))) :: (id, (pn, OO.wild)) :: rm id σ) j = some q → (j = id ∧ q = (pn, .wild)) ∨ (j ≠ id ∧ gv ((d, (none, OO.row E sz (n + m) (xs ++ ys))) :: rm id σ) j = some q) := by
      intro j q hj
      by_cases e : j = id
      · subst e
        rw [gv_cons_ne hdne] at hj
        simp [gv] at hj
        exact .inl ⟨rfl, hj.symm⟩
      · refine .inr ⟨e, ?_⟩
        simp only [gv] at hj ⊢
        split at hj
        · rename_i hb; simpa [hb] using hj
        · rename_i hb
          rw [show Nat.beq id j = false from by cases hbb : Nat.beq id j with | false => rfl | true => exact absurd (Nat.eq_of_beq_eq_true hbb).symm e] at hj
          simpa [hb] using hj
    have hidd : (if id = d then v'.ownBlock else bk id) = some b0 := by rw [if_neg (Ne.symm hdne)]; exact hb0
    have hother : ∀ j q, j ≠ id → gv ((d, (none, OO.row E sz (n + m) (xs ++ ys))) :: rm id σ) j = some q → ¬ q.2.holds ((fun j => if j = d then v'.ownBlock else bk j) j) ((fun j => if j = d then v' else hd j) j) b0 := by
      intro j q hj hq hb
      by_cases e : j = d
      · subst e
        simp [gv] at hq
        subst hq
        simp [OO.holds] at hb
        rcases hblk b0 hb with hx | hx
        · exact hne0 hx
        · omega
      · rw [gv_cons_ne (Ne.symm e)] at hq
        simp only [if_neg e] at hb
        exact hj (hR.inj j id q _ b0 (gv_rm hq).2 hs hb (.inl hb0))
    refine ⟨hR2.size, hR2.defers, hR2.frame, hR2.agree, hR2.uold, hR2.slot, ?_, ?_, ?_⟩
    · intro j q hj
      rcases hcase j q hj with ⟨rfl, rfl⟩ | ⟨_, hj⟩
      · exact ⟨⟨b0, Tb, _, hidd, hb0w⟩, fun c hc => by rw [show (if j = d then v'.ownBlock else bk j) = bk j from if_neg (Ne.symm hdne)]; exact hpn c hc⟩
      · exact hR2.own j q hj
    · intro j q b hj hb
      rcases hcase j q hj with ⟨rfl, rfl⟩ | ⟨_, hj⟩
      · simp only [OO.holds] at hb
        rw [hidd] at hb; cases hb
        exact hR.fresh j _ b0 hs (.inl hb0)
      · exact hR2.fresh j q b hj hb
    · intro i j q q' b hi hj hb hb'
      rcases hcase i q hi with ⟨e1, f1⟩ | ⟨n1, hi⟩
      · rcases hcase j q' hj with ⟨e2, f2⟩ | ⟨n2, hj⟩
        · exact e1.trans e2.symm
        · subst e1; subst f1
          simp only [OO.holds] at hb
          rw [hidd] at hb; cases hb
          exact absurd hb' (hother j q' n2 hj)
      · rcases hcase j q' hj with ⟨e2, f2⟩ | ⟨n2, hj⟩
        · subst e2; subst f2
          simp only [OO.holds] at hb'
          rw [hidd] at hb'; cases hb'
          exact absurd hb (hother i q n1 hi)
        · exact hR2.inj i j q q' b hi hj hb hb'
  refine hN _ _ _ _ _ _ _ h (hR3.put (blt_lt hn) (by simp [SVal])) (fun x hx => ?_)
  refine same_of (VLe.refl u) (fun i q hi => ?_) (fun i q b hi hb => ?_) hx
  · have : i ≠ d := fun e => by
      have h1 := gv_subO hS i q hi
      rw [e, hσ] at h1; cases h1
    simp [this]
  · have hq := gv_subO hS i q hi
    exact hgr.block b ((hR.own i q hq).lt hb) fun e => by
      have := hR.inj i id q _ b hq hs hb (hh b e.symm)
      rw [this, hid] at hi; cases hi

theorem do_append_rb_s {σS : Own} {K : Env → Own → View → Prop} {d : Nat} {t ty E E' : TypeId} {x y : Operand} {ts : Array TypeId} {pos : String} {aft : Array Edge} {id id2 sz by' n m : Nat} {pn pn2 : Option Nat} {xs ys zs : List Value} {ρ' : Env} (hS : subO σS σ) (hid : gv σS id = none) (hts : ts = #[t, t]) (ht : tyS F.P t = some (E, sz, by')) (hz : tyZ F.P E = some zs)
    (hzl : Nat.beq zs.length sz = true) (hsz : Nat.blt 0 sz = true) (hx : opv ρ x = some (.s id)) (hs : gv σ id = some (pn, .rb E sz n xs)) (hy : opv ρ y = some (.s id2)) (hs2 : gv σ id2 = some (pn2, .row E' sz m ys)) (h1 : ys.all Value.oneCell' = true) (h63 : n + m ≤ 1099511627776) (hby : (n + m) * by' ≤ 140737488355328)
    (hp : Eng.subE ρ' ρ) (hr : noref d ρ' = true) (hr2 : noS id ρ' = true) (hσ : gv σ d = none) (hn : Nat.blt d F.n = true)
    (h : K ((d, .s d) :: ρ') ((d, (none, .row E sz (n + m) (xs ++ ys))) :: (id, (pn, .wild)) :: rm id σ) u) :
    Does F σS ⟨some d, .call { callee := .builtin .append, args := #[x, y], argTypes := ts }, ty, pos, aft, none⟩ ρ σ u K := by
  refine do_append_rb_core hS hid hts ht hz hzl hsz hx hs hp hr hr2 hσ hn ?_ h1 h63 hby h
  intro bk hd a w hR
  obtain ⟨⟨hown2, hbk2⟩, _⟩ := hR.own id2 _ hs2
  have hev : a.eval y = hd id2 := hR.opS hy
  refine ⟨hown2.1, ?_⟩
  rcases hown2.2 with ⟨hv, hn⟩ | ⟨g, cap, cur, hv, hbg, hg, hnc, hcm, hcs, htake⟩
  · exact ⟨none, 0, by rw [hev, hv, hn], fun hm => absurd hn hm⟩
  · exact ⟨_, _, by rw [hev, hv], fun _ => ⟨_, rfl, hown2.cells (by rw [hv]; rfl)⟩⟩

/-- the slice is laid back into its box -/
theorem do_store_rb {σS : Own} {K : Env → Own → View → Prop} {T ty E : TypeId} {x y : Operand} {pos : String} {aft : Array Edge} {id id2 sz n : Nat} {pn pn2 : Option Nat} {xs : List Value} {ρ' : Env} (hS : subO σS σ) (hid : noneOf [id, id2] σS = true) (hk : tyK F.P T = some (false, 1)) (hx : opv ρ x = some (.p id 0)) (hy : opv ρ y = some (.s id2)) (hs : gv σ id = some (pn, .wild)) (hs2 : gv σ id2 = some (pn2, .row E sz n xs))
    (hp : Eng.subE ρ' ρ) (hr : noref id2 ρ' = true) (hr2 : noS id ρ' = true) (hne : Nat.beq id id2 = false)
    (h : K ρ' ((id, (pn, .rb E sz n xs)) :: rm id2 (rm id σ)) u) : Does F σS ⟨none, .store T x y, ty, pos, aft, none⟩ ρ σ u K := by
  intro bk hd a w Q hR N hN
  obtain ⟨b, hb, hx'⟩ := hR.opS hx
  obtain ⟨⟨b', Tb, x0, hb', hh⟩, hpn⟩ := hR.own id _ hs
  rw [hb] at hb'; cases hb'
  obtain ⟨⟨hown, hbk⟩, _⟩ := hR.own id2 _ hs2
  have hev : a.eval y = hd id2 := hR.opS hy
  have hidne : id ≠ id2 := fun e => by simp [e] at hne
  have hcell : (hd id2).cells.toList = [hd id2] ∧ Value.oneCell' (hd id2) = true := by
    rcases hown.2 with ⟨hv, _⟩ | ⟨g, cap, cur, hv, _⟩ <;> rw [hv] <;> exact ⟨rfl, rfl⟩
  have hrun : (execOp a.eval ⟨none, .store T x y, ty, pos, aft, none⟩).run F.P w = .ok .skip (w.setRow b #[hd id2]) := by
    have := run_storeVar_at (P := F.P) (off := 0) hk hh hcell.1 rfl (by simp [hcell.2]) (by simp)
    simp only [setAt] at this
    simp [execOp, hx', hev, Instr.storeAt, Instr.sureAddr, this]
  unfold Oper.wp
  rw [hrun]
  have hdis : (hd id2).ownBlock ≠ some b := fun e => hidne (hR.inj id id2 _ _ b hs hs2 hb (hbk.trans e))
  have hoth : ∀ k, k ≠ b → (w.setRow b #[hd id2]).heap[k]? = w.heap[k]? := fun k hk => setRow_other w b k _ hk
  have hcase : ∀ j q, gv ((id, (pn, OO.rb E sz n xs)) :: rm id2 (rm id σ)) j = some q → (j = id ∧ q = (pn, .rb E sz n xs)) ∨ (j ≠ id ∧ j ≠ id2 ∧ gv σ j = some q) := by
    intro j q hj
    simp only [gv] at hj
    split at hj
    · rename_i hbq; cases hj; exact .inl ⟨(Nat.eq_of_beq_eq_true hbq).symm, rfl⟩
    · obtain ⟨h1, h2⟩ := gv_rm hj
      obtain ⟨h3, h4⟩ := gv_rm h2
      exact .inr ⟨h3, h1, h4⟩
  have hrb : ∀ c, (OO.rb E sz n xs).holds (bk id) (hd id2) c → (OO.wild).holds (bk id) (hd id) c ∨ (OO.row E sz n xs).holds (bk id2) (hd id2) c := fun c hc => hc.imp (fun e => e) (fun e => hbk.trans e)
  have hR2 : RepAt F bk (fun j => if j = id then hd id2 else hd j) ρ' ((id, (pn, .rb E sz n xs)) :: rm id2 (rm id σ)) u a (w.setRow b #[hd id2]) := by
    refine ⟨hR.size, hR.defers, ?_, ?_, hR.uold, ?_, ?_, ?_, ?_⟩
    · obtain ⟨a1, a2, a3, a4, a5⟩ := hR.frame
      refine ⟨a1, a2, a3, by simpa using a4, fun k hk hD => ?_⟩
      rw [hoth k (fun e => by
        subst e
        rcases (hR.fresh id _ k hs hb).1 with x | x
        · exact hD x
        · omega)]
      exact a5 k hk hD
    · intro k o' hk
      rw [hoth k (fun e => by rw [e, (hR.fresh id _ b hs hb).2] at hk; cases hk)]
      exact hR.agree k o' hk
    · intro k sv hk
      obtain ⟨x, hx, hv⟩ := hR.slot k sv (gv_subE hp k sv hk)
      refine ⟨x, hx, ?_⟩
      cases sv with
      | s i =>
        have : i ≠ id := fun e => by
          have := noS_gv hr2 k _ hk
          simp [e] at this
        simp only [SVal, if_neg this] at hv ⊢
        exact hv
      | _ => exact hv
    · intro j q hj
      rcases hcase j q hj with ⟨rfl, rfl⟩ | ⟨n1, n2, hj⟩
      · refine ⟨⟨?_, b, Tb, hb, ?_, ?_⟩, hpn⟩
        · simp only [if_true]
          exact row_grow hown fun k hk => hoth k fun e => hdis (e ▸ hk)
        · simpa using setRow_heap w b _ _ Tb _ hh
        · simpa using hdis
      · have := hR.own j q hj
        simp only [if_neg n1]
        exact this.grow fun k hk => hoth k fun e => n1 (hR.inj j id q _ b hj hs (e ▸ hk) hb)
    · intro j q c hj hc
      rcases hcase j q hj with ⟨rfl, rfl⟩ | ⟨n1, n2, hj⟩
      · simp only [if_true] at hc
        rcases hrb c hc with hc | hc
        · exact hR.fresh j _ c hs hc
        · exact hR.fresh id2 _ c hs2 hc
      · simp only [if_neg n1] at hc
        exact hR.fresh j q c hj hc
    · have key : ∀ j q c, j ≠ id → j ≠ id2 → gv σ j = some q → q.2.holds (bk j) (hd j) c → (OO.rb E sz n xs).holds (bk id) (hd id2) c → False := by
        intro j q c n1 n2 hj hc hc'
        rcases hrb c hc' with h | h
        · exact n1 (hR.inj j id q _ c hj hs hc h)
        · exact n2 (hR.inj j id2 q _ c hj hs2 hc h)
      intro i j q q' c hi hj hc hc'
      have hi0 := hcase i q hi
      have hj0 := hcase j q' hj
      clear hi hj
      rcases hi0 with ⟨e1, f1⟩ | ⟨n1, m1, hi⟩
      · rcases hj0 with ⟨e2, f2⟩ | ⟨n2, m2, hj⟩
        · exact e1.trans e2.symm
        · subst e1; subst f1
          simp only [if_true] at hc
          simp only [if_neg n2] at hc'
          exact (key j q' c n2 m2 hj hc' hc).elim
      · rcases hj0 with ⟨e2, f2⟩ | ⟨n2, m2, hj⟩
        · subst e2; subst f2
          simp only [if_true] at hc'
          simp only [if_neg n1] at hc
          exact (key i q c n1 m1 hi hc hc').elim
        · simp only [if_neg n1] at hc
          simp only [if_neg n2] at hc'
          exact hR.inj i j q q' c hi hj hc hc'
  have hno : ∀ i q, gv σS i = some q → i ≠ id ∧ i ≠ id2 := by
    intro i q hi
    simp only [noneOf, List.all_cons, List.all_nil, Bool.and_true, Bool.and_eq_true, Option.isNone_iff_eq_none] at hid
    refine ⟨fun e => ?_, fun e => ?_⟩
    · rw [e, hid.1] at hi; cases hi
    · rw [e, hid.2] at hi; cases hi
  refine hN _ _ _ _ _ _ _ h (hR2.putNone (x := undef)) (fun x hx => ?_)
  refine same_of (VLe.refl u) (fun i q hi => ⟨rfl, if_neg (hno i q hi).1⟩) (fun i q c hi hc => ?_) hx
  exact hoth c fun e => (hno i q hi).1 (hR.inj i id q _ b (gv_subO hS i q hi) hs (e ▸ hc) hb)

/-! ### blocks that change hands -/
/-- a nil slice is a row of the call's own, empty -/
theorem RepAt.ownNil (h : RepAt F bk hd ρ σ u a w) {k id : Nat} (T : TypeId) (sz : Nat) (hk : gv ρ k = some (.v (.slice none 0 0))) (hr : noref id ρ = true) (hσ : gv σ id = none) :
    RepAt F (fun j => if j = id then none else bk j) (fun j => if j = id then .slice none 0 0 else hd j) ((k, .s id) :: ρ) ((id, (none, .row T sz 0 [])) :: σ) u a w := by
  have h2 := h.addOwn (p := (none, .row T sz 0 [])) (bo := none) (hv := .slice none 0 0) hr hσ ⟨⟨World.ownsRow_nil _ _ _ _, rfl⟩, by simp⟩ (by simp [OO.holds])
  refine ⟨h2.size, h2.defers, h2.frame, h2.agree, h2.uold, ?_, h2.own, h2.fresh, h2.inj⟩
  intro j sv hj
  simp only [gv] at hj
  split at hj
  · rename_i hb
    have : k = j := Nat.eq_of_beq_eq_true hb
    subst this
    cases hj
    obtain ⟨x, hx, hs⟩ := h.slot k _ hk
    exact ⟨x, hx, by simp only [SVal] at hs ⊢; simp [hs]⟩
  · exact h2.slot j sv hj

theorem wc_own_nil {c : Code} (k id : Nat) (T : TypeId) (sz : Nat) (hk : gv ρ k = some (.v (.slice none 0 0))) (hr : noref id ρ = true) (hσ : gv σ id = none) (h : WC F c ((k, .s id) :: ρ) ((id, (none, .row T sz 0 [])) :: σ) u Q) : WC F c ρ σ u Q :=
  fun a w ⟨_, _, hR⟩ => h a w ⟨_, _, hR.ownNil T sz hk hr hσ⟩
theorem rl_own_nil {ops : Array Oper} {l : List Oper} (k id : Nat) (T : TypeId) (sz : Nat) (hk : gv ρ k = some (.v (.slice none 0 0))) (hr : noref id ρ = true) (hσ : gv σ id = none) (h : RL F ops l ((k, .s id) :: ρ) ((id, (none, .row T sz 0 [])) :: σ) u Q) : RL F ops l ρ σ u Q :=
  fun a w ⟨_, _, hR⟩ => h a w ⟨_, _, hR.ownNil T sz hk hr hσ⟩

/-- the view with one block more -/
def vput (u : View) (b : Nat) (o : Obj) : View := fun k => if k = b then some o else u k
theorem VLe.put {u : View} {b : Nat} {o : Obj} (h : u b = none) : VLe u (vput u b o) := by
  intro k o' hk
  unfold vput
  split
  · rename_i e; rw [e, h] at hk; cases hk
  · exact hk

end
end Go.Eng
