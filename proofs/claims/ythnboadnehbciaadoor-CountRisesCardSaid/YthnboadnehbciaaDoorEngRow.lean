/- The engine: rows whose slice value is known by name. -/
import Derived.Test.YthnboadnehbciaaDoorEngDoc
namespace Go.Eng
open Go Go.RowKit
set_option linter.unusedSimpArgs false
set_option linter.unusedVariables false

section
variable {F : Fx} {ρ : Env} {σ : Own} {u : View} {Q : Post} {bk : Nat → Option Nat} {hd : Nat → Value} {a : Act} {w : World}

theorem do_append_w_core {σS : Own} {K : Env → Own → View → Prop} {d : Nat} {t ty E : TypeId} {x y : Operand} {ts : Array TypeId} {pos : String} {aft : Array Edge} (id : Nat) {sz by' n m : Nat} {pn : Option Nat} {vx : Value} {xs ys zs : List Value} (hS : subO σS σ) (hid : gv σS id = none) (hts : ts = #[t, t]) (ht : tyS F.P t = some (E, sz, by')) (hz : tyZ F.P E = some zs)
    (hzl : Nat.beq zs.length sz = true) (hsz : Nat.blt 0 sz = true) (hx : opv ρ x = some (.v vx)) (hs : gv σ id = some (pn, .rwv vx E sz n xs)) (hr : noref id ρ = true) (hn : Nat.blt d F.n = true)
    (hy : ∀ bk hd a w, RepAt F bk hd ρ σ u a w → Gives w (a.eval y) m sz ys) (h1 : ys.all Value.oneCell' = true) (h63 : n + m ≤ 1099511627776) (hby : (n + m) * by' ≤ 140737488355328)
    (h : ∀ (ad' : Option Addr) (cap' : Nat), K ((d, .v (.slice ad' (n + m) cap')) :: ρ) ((id, (none, .rwv (.slice ad' (n + m) cap') E sz (n + m) (xs ++ ys))) :: rm id σ) u) :
    Does F σS ⟨some d, .call { callee := .builtin .append, args := #[x, y], argTypes := ts }, ty, pos, aft, none⟩ ρ σ u K := by
  subst hts
  intro bk hd a w Q hR N hN
  obtain ⟨⟨hdv, hown, hbk⟩, _⟩ := hR.own id _ hs
  have hev : a.eval x = vx := hR.op hx
  obtain ⟨v', w', hrun, ho', hgr, hblk⟩ := append_run (ty := ty) ht hz (Nat.eq_of_beq_eq_true hzl) (blt_lt hsz) hown (hy _ _ _ _ hR) (fun y hy => List.all_eq_true.1 h1 y hy) (by unfold maxLen; omega) hby (Nat.zero_le _)
  have hrun' : (execOp a.eval ⟨some d, .call { callee := .builtin .append, args := #[x, y], argTypes := #[t, t] }, ty, pos, aft, none⟩).run F.P w = .ok (.value v') w' := by
    simp [execOp, resolve, invoke, builtin, hev, hrun]
  unfold Oper.wp
  rw [hrun']
  have hh : ∀ b, (hd id).ownBlock = some b → bk id = some b := fun b hb => by rw [hdv] at hb; exact hbk.trans hb
  have hrm : gv (rm id σ) id = none := by
    cases hg : gv (rm id σ) id with
    | none => rfl
    | some q => exact absurd rfl (gv_rm hg).1
  have hgr' : w.grownBy w' (hd id).ownBlock := by rw [hdv]; exact hgr
  have hblk' : ∀ b, v'.ownBlock = some b → (hd id).ownBlock = some b ∨ w.heap.size ≤ b := by rw [hdv]; exact hblk
  have hsub : Eng.subE ρ ρ ∨ True := .inr trivial
  have hR2 : RepAt F (fun j => if j = id then v'.ownBlock else bk j) (fun j => if j = id then v' else hd j) ρ ((id, (none, .rwv v' E sz (n + m) (xs ++ ys))) :: rm id σ) u a w' := by
    refine (hR.appended hs hgr' hh).addOwn hr hrm (p := (none, .rwv v' E sz (n + m) (xs ++ ys))) (bo := v'.ownBlock) (hv := v') ⟨⟨rfl, ho', rfl⟩, by simp⟩ ?_
    intro b hb
    rcases hblk' b hb with hb2 | hb2
    · have hbid := hh b hb2
      obtain ⟨f1, f2⟩ := hR.fresh id _ b hs hbid
      refine ⟨f1, f2, fun i oo hi e => ?_⟩
      obtain ⟨hne, hi⟩ := gv_rm hi
      exact hne (hR.inj i id oo _ b hi hs e hbid)
    · refine ⟨.inr (Nat.le_trans hR.frame.2.2.2.1 hb2), ?_, ?_⟩
      · cases hu : u b with
        | none => rfl
        | some o => exact absurd (hR.agree.lt hu) (by omega)
      · intro i oo hi e
        obtain ⟨hne, hi⟩ := gv_rm hi
        exact absurd ((hR.own i oo hi).lt e) (by omega)
  obtain ⟨ad', cap', rfl⟩ : ∃ ad' cap', v' = .slice ad' (n + m) cap' := by
    rcases ho'.2 with ⟨hv, hn⟩ | ⟨g, cap, cur, hv, _⟩
    · exact ⟨none, 0, by rw [hv, hn]⟩
    · exact ⟨_, _, hv⟩
  refine hN _ _ _ _ _ _ _ (h ad' cap') (hR2.put (blt_lt hn) rfl) (fun x hx => ?_)
  refine same_of (VLe.refl u) (fun i q hi => ?_) (fun i q b hi hb => ?_) hx
  · have : i ≠ id := fun e => by rw [e, hid] at hi; cases hi
    simp [this]
  · have hq := gv_subO hS i q hi
    exact hgr'.block b ((hR.own i q hq).lt hb) fun e => by
      have := hR.inj i id q _ b hq hs hb (hh b e.symm)
      rw [this, hid] at hi; cases hi

theorem do_append_w_s {σS : Own} {K : Env → Own → View → Prop} {d : Nat} {t ty E E' : TypeId} {x y : Operand} {ts : Array TypeId} {pos : String} {aft : Array Edge} (id : Nat) {id2 sz by' n m : Nat} {pn pn2 : Option Nat} {vx : Value} {xs ys zs : List Value} (hS : subO σS σ) (hid : gv σS id = none) (hts : ts = #[t, t]) (ht : tyS F.P t = some (E, sz, by')) (hz : tyZ F.P E = some zs)
    (hzl : Nat.beq zs.length sz = true) (hsz : Nat.blt 0 sz = true) (hx : opv ρ x = some (.v vx)) (hs : gv σ id = some (pn, .rwv vx E sz n xs)) (hy : opv ρ y = some (.s id2)) (hs2 : gv σ id2 = some (pn2, .row E' sz m ys)) (h1 : ys.all Value.oneCell' = true) (h63 : n + m ≤ 1099511627776) (hby : (n + m) * by' ≤ 140737488355328) (hr : noref id ρ = true) (hn : Nat.blt d F.n = true)
    (h : ∀ (ad' : Option Addr) (cap' : Nat), K ((d, .v (.slice ad' (n + m) cap')) :: ρ) ((id, (none, .rwv (.slice ad' (n + m) cap') E sz (n + m) (xs ++ ys))) :: rm id σ) u) :
    Does F σS ⟨some d, .call { callee := .builtin .append, args := #[x, y], argTypes := ts }, ty, pos, aft, none⟩ ρ σ u K := by
  refine do_append_w_core id hS hid hts ht hz hzl hsz hx hs hr hn ?_ h1 h63 hby h
  intro bk hd a w hR
  obtain ⟨⟨hown2, hbk2⟩, _⟩ := hR.own id2 _ hs2
  have hev : a.eval y = hd id2 := hR.opS hy
  refine ⟨hown2.1, ?_⟩
  rcases hown2.2 with ⟨hv, hn⟩ | ⟨g, cap, cur, hv, hbg, hg, hnc, hcm, hcs, htake⟩
  · exact ⟨none, 0, by rw [hev, hv, hn], fun hm => absurd hn hm⟩
  · exact ⟨_, _, by rw [hev, hv], fun _ => ⟨_, rfl, hown2.cells (by rw [hv]; rfl)⟩⟩

theorem do_append_w_v {σS : Own} {K : Env → Own → View → Prop} {d : Nat} {t ty E : TypeId} {x y : Operand} {ts : Array TypeId} {pos : String} {aft : Array Edge} (id : Nat) {sz by' n m cap : Nat} {pn : Option Nat} {vx : Value} {ad : Option Addr} {xs ys zs : List Value} (hS : subO σS σ) (hid : gv σS id = none) (hts : ts = #[t, t]) (ht : tyS F.P t = some (E, sz, by')) (hz : tyZ F.P E = some zs)
    (hzl : Nat.beq zs.length sz = true) (hsz : Nat.blt 0 sz = true) (hx : opv ρ x = some (.v vx)) (hs : gv σ id = some (pn, .rwv vx E sz n xs)) (hy : opv ρ y = some (.v (.slice ad m cap))) (hs2 : SlC u ad m cap sz ys) (h1 : ys.all Value.oneCell' = true) (h63 : n + m ≤ 1099511627776) (hby : (n + m) * by' ≤ 140737488355328) (hr : noref id ρ = true) (hn : Nat.blt d F.n = true)
    (h : ∀ (ad' : Option Addr) (cap' : Nat), K ((d, .v (.slice ad' (n + m) cap')) :: ρ) ((id, (none, .rwv (.slice ad' (n + m) cap') E sz (n + m) (xs ++ ys))) :: rm id σ) u) :
    Does F σS ⟨some d, .call { callee := .builtin .append, args := #[x, y], argTypes := ts }, ty, pos, aft, none⟩ ρ σ u K := by
  refine do_append_w_core id hS hid hts ht hz hzl hsz hx hs hr hn ?_ h1 h63 hby h
  intro bk hd a w hR
  refine ⟨hs2.1, ad, cap, hR.op hy, fun hm => ?_⟩
  obtain ⟨b, off, c, T, fr, rfl, hub, hcut⟩ := hs2.2.2.2 hm
  refine ⟨_, rfl, fun j x hj => ?_⟩
  rw [add_eq]
  simp only [World.cell?, hR.agree _ _ hub]
  simpa using getElem?_cut hcut hj

/-- a nil slice: a row of the call's own, empty -/
theorem RepAt.nilW (h : RepAt F bk hd ρ σ u a w) {id : Nat} (T : TypeId) (sz : Nat) (hr : noref id ρ = true) (hσ : gv σ id = none) :
    RepAt F (fun j => if j = id then none else bk j) (fun j => if j = id then .slice none 0 0 else hd j) ρ ((id, (none, .rwv (.slice none 0 0) T sz 0 [])) :: σ) u a w :=
  h.addOwn (p := (none, .rwv (.slice none 0 0) T sz 0 [])) (bo := none) (hv := .slice none 0 0) hr hσ ⟨⟨rfl, World.ownsRow_nil _ _ _ _, rfl⟩, by simp⟩ (by simp [OO.holds])
theorem rl_nilW {ops : Array Oper} {l : List Oper} (id : Nat) (T : TypeId) (sz : Nat) (hr : noref id ρ = true) (hσ : gv σ id = none) (h : RL F ops l ρ ((id, (none, .rwv (.slice none 0 0) T sz 0 [])) :: σ) u Q) : RL F ops l ρ σ u Q :=
  fun a w ⟨_, _, hR⟩ => h a w ⟨_, _, hR.nilW T sz hr hσ⟩
theorem wc_nilW {c : Code} (id : Nat) (T : TypeId) (sz : Nat) (hr : noref id ρ = true) (hσ : gv σ id = none) (h : WC F c ρ ((id, (none, .rwv (.slice none 0 0) T sz 0 [])) :: σ) u Q) : WC F c ρ σ u Q :=
  fun a w ⟨_, _, hR⟩ => h a w ⟨_, _, hR.nilW T sz hr hσ⟩

/-- a row's slice gets a name -/
def expF (id : Nat) (x : Value) : SV → SV
  | .s i => match Nat.beq i id with
    | true => .v x
    | false => .s i
  | .p i off => match Nat.beq i id with
    | true => .q
    | false => .p i off
  | sv => sv
theorem RepAt.expose (h : RepAt F bk hd ρ σ u a w) {id : Nat} {pn : Option Nat} {T : TypeId} {sz n : Nat} {xs : List Value} (hs : gv σ id = some (pn, .row T sz n xs)) :
    RepAt F bk hd (frz id (hd id) ρ) ((id, (pn, .rwv (hd id) T sz n xs)) :: σ) u a w := by
  have h2 := h.mapE (frz_ok (bk := bk) (id := id) (x := hd id) rfl)
  have hcase : ∀ i q, gv ((id, (pn, OO.rwv (hd id) T sz n xs)) :: σ) i = some q → ∃ q', gv σ i = some q' ∧ (∀ b, q.2.holds (bk i) (hd i) b → q'.2.holds (bk i) (hd i) b) ∧ (ownOk w (bk i) (hd i) q' → ownOk w (bk i) (hd i) q) := by
    intro i q hi
    simp only [gv] at hi
    split at hi
    · rename_i hb
      cases hi
      have := Nat.eq_of_beq_eq_true hb
      subst this
      exact ⟨_, hs, fun b hb => hb, fun ⟨⟨ho, hbk⟩, hp⟩ => ⟨⟨rfl, ho, hbk⟩, hp⟩⟩
    · exact ⟨q, hi, fun b hb => hb, fun h => h⟩
  refine ⟨h2.size, h2.defers, h2.frame, h2.agree, h2.uold, h2.slot, ?_, ?_, ?_⟩
  · intro i q hi
    obtain ⟨q', h1, _, h3⟩ := hcase i q hi
    exact h3 (h.own i q' h1)
  · intro i q b hi hb
    obtain ⟨q', h1, h4, _⟩ := hcase i q hi
    exact h.fresh i q' b h1 (h4 b hb)
  · intro i j p q b hi hj hb hb'
    obtain ⟨p', h1, h4, _⟩ := hcase i p hi
    obtain ⟨q', h1', h4', _⟩ := hcase j q hj
    exact h.inj i j p' q' b h1 h1' (h4 b hb) (h4' b hb')
theorem rl_expose {ops : Array Oper} {l : List Oper} (id : Nat) {pn : Option Nat} {T : TypeId} {sz n : Nat} {xs : List Value} (hs : gv σ id = some (pn, .row T sz n xs)) (h : ∀ v : Value, RL F ops l (frz id v ρ) ((id, (pn, .rwv v T sz n xs)) :: σ) u Q) : RL F ops l ρ σ u Q :=
  fun a w ⟨bk, hd, hR⟩ => h _ a w ⟨bk, hd, hR.expose hs⟩

/-- it is finished -/
theorem RepAt.freezeW (h : RepAt F bk hd ρ σ u a w) {id : Nat} {pn : Option Nat} {v : Value} {T : TypeId} {sz n : Nat} {xs : List Value} (hs : gv σ id = some (pn, .rwv v T sz n xs)) :
    ∃ u', VLe u u' ∧ IsSl u' v n sz xs ∧ RepAt F bk hd ρ (Eng.rm id σ) u' a w := by
  obtain ⟨⟨hdv, hown, hbk⟩, _⟩ := h.own id _ hs
  rcases hown.2 with ⟨hv, hn⟩ | ⟨g, cap, cur, hv, hbg, hg, hnc, hcm, hcs, htake⟩
  · refine ⟨u, VLe.refl u, ⟨none, 0, by rw [hv, hn], ⟨hown.1, by omega, by unfold maxLen; omega, fun hne => absurd hn hne⟩⟩, h.rm id⟩
  · have hbid : (OO.rwv v T sz n xs).holds (bk id) (hd id) g := by
      show bk id = some g
      rw [hbk, hv]; rfl
    have hun : u g = none := (h.fresh id (pn, .rwv v T sz n xs) g hs hbid).2
    exact ⟨vput u g (.cells cur T), VLe.put hun, ⟨some ⟨g, 0, none⟩, cap, hv, ⟨hown.1, hnc, hcm, fun _ => ⟨g, 0, cur, T, (0, 0), rfl, by simp [vput], by simpa [cut] using htake⟩⟩⟩, h.toView hs hbid hg⟩
theorem rl_freezeW {ops : Array Oper} {l : List Oper} (id : Nat) {pn : Option Nat} {v : Value} {T : TypeId} {sz n : Nat} {xs : List Value} (hs : gv σ id = some (pn, .rwv v T sz n xs)) (h : ∀ u', VLe u u' → IsSl u' v n sz xs → RL F ops l ρ (Eng.rm id σ) u' Q) : RL F ops l ρ σ u Q := by
  rintro a w ⟨bk, hd, hR⟩
  obtain ⟨u', h1, h2, h3⟩ := hR.freezeW hs
  exact h u' h1 h2 a w ⟨bk, hd, h3⟩
theorem ra_freezeW {ops : Array Oper} {σS : Own} {fuel : Nat} {listed : Array Bool} (id : Nat) {pn : Option Nat} {v : Value} {T : TypeId} {sz n : Nat} {xs : List Value} (hs : gv σ id = some (pn, .rwv v T sz n xs)) (h : ∀ u', VLe u u' → IsSl u' v n sz xs → RA F ops σS fuel listed ρ (Eng.rm id σ) u' Q) : RA F ops σS fuel listed ρ σ u Q := by
  intro bk hd a w hR
  obtain ⟨u', h1, h2, h3⟩ := hR.freezeW hs
  exact wpAnyH_mono (fun x hx => ⟨fun k o hk => hx.1 k o (h1 k o hk), hx.2⟩) _ _ _ _ (h u' h1 h2 bk hd a w h3)
theorem wc_freezeW {c : Code} (id : Nat) {pn : Option Nat} {v : Value} {T : TypeId} {sz n : Nat} {xs : List Value} (hs : gv σ id = some (pn, .rwv v T sz n xs)) (h : ∀ u', VLe u u' → IsSl u' v n sz xs → WC F c ρ (Eng.rm id σ) u' Q) : WC F c ρ σ u Q := by
  rintro a w ⟨bk, hd, hR⟩
  obtain ⟨u', h1, h2, h3⟩ := hR.freezeW hs
  exact h u' h1 h2 a w ⟨bk, hd, h3⟩

/-- element i of a row whose slice is known: its address -/
theorem y_index_w {σS : Own} {uS : View} {o : Oper} {t e T : TypeId} {x y : Operand} (id : Nat) {len sz by' : Nat} {vx : Value} {pn : Option Nat} {xs : List Value} {k : IntKind} {i : Int} {j : Nat} (ho : o.op = .indexAddr t x y) (ht : tyS F.P t = some (e, sz, by'))
    (hx : opv ρ x = some (.v vx)) (hs : gv σ id = some (pn, .rwv vx T sz len xs)) (hy : opv ρ y = some (.v (.int k i))) (hj : i = (j : Int)) (h1 : j < len) : Yld F σS uS ρ σ u o (.p id (j * sz)) := by
  intro bk hd a w hR
  subst hj
  have hx2 : a.eval x = vx := hR.op hx
  obtain ⟨⟨hdv, hown, hbk⟩, _⟩ := hR.own id _ hs
  rcases hown.2 with ⟨hv, hn⟩ | ⟨g, cap, cur, hv, hg, hh, hnc, hcm, hcs, htake⟩
  · omega
  · refine ⟨_, ⟨g, by rw [hbk, hv]; rfl, rfl⟩, fun w' _ => ?_⟩
    simp [execOp, ho, hx2, hv, hR.op hy, run_indexAt_slice ht (Int.natCast_nonneg j) (Int.ofNat_lt.2 h1)]

theorem do_store_w {σS : Own} {K : Env → Own → View → Prop} {T ty E : TypeId} {x y : Operand} {pos : String} {aft : Array Edge} {id off n sz len : Nat} {g : Bool} {pn : Option Nat} {vx : Value} {xs vs xs' : List Value} {z : Value} (hS : subO σS σ) (hid : gv σS id = none) (hk : tyK F.P T = some (g, n))
    (hx : opv ρ x = some (.p id off)) (hy : opv ρ y = some (.v z)) (hs : gv σ id = some (pn, .rwv vx E sz len xs)) (hz : z.cells.toList = vs) (hl : vs.length = n) (h1 : vs.all Value.oneCell' = true) (hle : off + n ≤ xs.length) (hc : setAt xs off vs = xs')
    (h : K ρ ((id, (pn, .rwv vx E sz len xs')) :: σ) u) : Does F σS ⟨none, .store T x y, ty, pos, aft, none⟩ ρ σ u K := by
  intro bk hd a w Q hR N hN
  obtain ⟨b, hb, hx'⟩ := hR.opS hx
  obtain ⟨⟨hdv, hown, hbk⟩, hpn⟩ := hR.own id _ hs
  rcases hown.2 with ⟨hv, hn⟩ | ⟨b', cap, cur, hv, hg, hh, hnc, hcm, hcs, htake⟩
  · rw [hbk, hv] at hb; cases hb
  have hbb : b' = b := by rw [hbk, hv] at hb; simpa [Value.ownBlock] using hb
  subst hbb
  have hxl : xs.length ≤ cur.size := by rw [← htake]; simp; omega
  have hrun : (execOp a.eval ⟨none, .store T x y, ty, pos, aft, none⟩).run F.P w = .ok .skip (w.setRow b' (setAt cur.toList off vs).toArray) := by
    have := run_storeVar_at (P := F.P) (off := off) hk hh hz hl h1 (by omega)
    simp [execOp, hx', hR.op hy, Instr.storeAt, Instr.sureAddr, this]
  unfold Oper.wp
  rw [hrun]
  have hhold : ∀ k, (OO.rwv vx E sz len xs).holds (bk id) (hd id) k → k = b' := fun k e => by
    have e2 : bk id = some k := e
    rw [hb] at e2; cases e2; rfl
  refine hN _ _ _ _ _ _ _ h (hR.setOwn hs (fun k e => by cases e; exact hb) ⟨⟨hdv, ⟨?_, .inr ⟨b', cap, _, hv, hg, setRow_heap w b' _ _ E _ hh, hnc, hcm, ?_, ?_⟩⟩, hbk⟩, hpn⟩ (fun k hk => hk)) (fun x hx => same_row hR hS hs hid (fun k e => by cases e; exact hb) hx)
  · rw [← hc, length_setAt _ _ _ (by omega)]; exact hown.1
  · simp [length_setAt _ _ _ (show off + vs.length ≤ cur.toList.length by simp; omega), hcs]
  · have hxs := hown.1
    have hcl : cur.toList.length = cap * sz := by simpa using hcs
    have hm : len * sz ≤ cap * sz := Nat.mul_le_mul_right _ hnc
    rw [← hc, setAt_eq cur.toList off vs (by rw [hcl]; omega), setAt_eq xs off vs (by omega), ← htake]
    simp only [List.take_append, List.take_take, List.drop_take, List.length_append, List.length_take, hcl]
    rw [show min (len * sz) off = off by omega, show min off (len * sz) = off by omega, show min off (cap * sz) = off by omega, List.take_of_length_le (l := vs) (by omega)]
end
end Go.Eng
