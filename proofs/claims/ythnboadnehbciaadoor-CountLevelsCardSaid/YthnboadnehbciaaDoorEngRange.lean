/- The engine: a range over a function. -/
import Derived.Test.YthnboadnehbciaaDoorEngIn
namespace Go.Eng
open Go Go.RowKit
set_option linter.unusedSimpArgs false
set_option linter.unusedVariables false

/-- what a loop's rounds keep: the things that they write, the loop's record, the block for deferred calls -/
def LoopY {α : Type} (J : List α → List PO) (L Dd : Nat) (rec : Loop) (pre : List α) (H : Nat → Prop) (I : World → Prop) : Prop :=
  ∃ bk hd, H = (fun k => HoldsL bk hd (J pre) k ∨ k = L ∨ k = Dd) ∧
    I = (fun w : World => (∀ (i : Nat) (p : PO), (J pre)[i]? = some p → ownOk w (bk i) (hd i) p) ∧ w.heap[L]? = some (.loop rec) ∧ w.heap[Dd]? = some (.deferred (some []))) ∧
    (∀ (i j : Nat) (p q : PO) (b : Nat), (J pre)[i]? = some p → (J pre)[j]? = some q → p.2.holds (bk i) (hd i) b → q.2.holds (bk j) (hd j) b → i = j) ∧ (∀ b, HoldsL bk hd (J pre) b → b ≠ L ∧ b ≠ Dd)

abbrev envV (ρb : List (Nat × Value)) : Env := ρb.map fun q => (q.1, SV.v q.2)
theorem gv_envV : ∀ {ρb : List (Nat × Value)} {k : Nat} {sv : SV}, gv (envV ρb) k = some sv → ∃ x, sv = .v x ∧ gv ρb k = some x
  | [], k, sv, h => by simp [envV, gv] at h
  | (j, y) :: r, k, sv, h => by
    simp only [envV, List.map_cons, gv] at h ⊢
    split at h
    · rename_i hb
      cases h
      exact ⟨y, rfl, rfl⟩
    · rename_i hb
      exact gv_envV (ρb := r) h

theorem putObj_size (w : World) (l : Nat) (o : Obj) : (w.putObj l o).heap.size = w.heap.size := by simp [World.putObj]

theorem round_of {α : Type} {P : Program} {n p : Nat} {J : List α → List PO} {L Dd : Nat} {rec : Loop} {asg body : Code} {pre : List α} {x : α} {v : Value} {u' : View} {H : Nat → Prop} {I : World → Prop} {ρb : List (Nat × Value)} (M : Env → Own → View → Prop)
    (hps : rec.params = #[p]) (has : rec.assign = asg) (hbo : rec.body = body) (hst : rec.state = .ready) (hpe : rec.pending = none) (hsz : rec.tmps.size = n) (hpn : p < n) (hLD : L ≠ Dd) (htm : ∀ k x, gv ρb k = some x → rec.tmps[k]? = some x)
    (hasg : ∀ (w0 : World) (D : Nat → Prop), (∀ k o, u' k = some o → k < w0.heap.size) → WC ⟨P, n, w0, D, u', [], some L⟩ asg ((p, .v v) :: envV ρb) (zipO (inIds 1000 (J pre)) (J pre)) u' fun e ρ σ u'' => e = .normal ∧ ∃ ρ' σ', subE ρ' ρ ∧ subO σ' σ ∧ M ρ' σ' u'')
    (hbody : ∀ (ρ : Env) (σ : Own) (u'' : View) (w0 : World) (D : Nat → Prop), M ρ σ u'' → WC ⟨P, n, w0, D, u'', [], some L⟩ body ρ σ u'' fun e ρ σ u3 => e = .normal ∧ ∃ ids, gvs σ ids = some (J (pre ++ [x])) ∧ nodupb ids = true)
    (hY : LoopY J L Dd rec pre H I) :
    YldO P L [v] u' [(none, .fg H I)] fun r u'' l' => r = .bool true ∧ ∃ H' I', l' = [(none, .fg H' I')] ∧ LoopY J L Dd rec (pre ++ [x]) H' I' := by
  intro w bkx hdx hA hO
  obtain ⟨bk, hd, rfl, rfl, hinj, hnot⟩ := hY
  obtain ⟨hI1, hI2⟩ := (hO.own 0 _ rfl).1
  obtain ⟨hown, hL, hDd⟩ := hI1 w (fun _ _ => rfl)
  have hfree : ∀ b, (HoldsL bk hd (J pre) b ∨ b = L ∨ b = Dd) → u' b = none := fun b hb => hO.free 0 _ b rfl hb
  have hLlt : L < w.heap.size := hI2 L (.inr (.inl rfl))
  have hDlt : Dd < w.heap.size := hI2 Dd (.inr (.inr rfl))
  have hnL : ¬ HoldsL bk hd (J pre) L := fun h => (hnot L h).1 rfl
  have hnD : ¬ HoldsL bk hd (J pre) Dd := fun h => (hnot Dd h).2 rfl
  have hy := run_yield (P := P) (args := #[v]) hL (by simp [hps])
  rw [has, hbo] at hy
  refine ⟨_, _, _, _, hy, roundIn_of_wpIn trivial ?_⟩
  obtain ⟨tm, htm'⟩ : ∃ tm, (rec.params.zip #[v]).foldl (fun tmps (x : Tmp × Value) => tmps.setIfInBounds x.1 x.2) rec.tmps = tm := ⟨_, rfl⟩
  have htm2 : tm = rec.tmps.setIfInBounds p v := by rw [← htm', hps]; simp
  have hz : ∀ id q, gv (zipO (inIds 1000 (J pre)) (J pre)) id = some q → (J pre)[id - 1000]? = some q ∧ 1000 ≤ id := by
    intro id q hi
    obtain ⟨i, h1, h2⟩ := gv_zipO hi
    have := posOf_inIds h1
    subst this
    exact ⟨by rw [Nat.add_sub_cancel_left]; exact h2, by omega⟩
  have hRep : RepAt ⟨P, n, w, HoldsL bk hd (J pre), u', [], some L⟩ (fun j => bk (j - 1000)) (fun j => hd (j - 1000)) ((p, .v v) :: envV ρb) (zipO (inIds 1000 (J pre)) (J pre)) u' { tmps := tm, defers := [] } w := by
    refine ⟨by rw [htm2]; simpa using hsz, rfl, Frame0.refl _ _, hA, fun _ _ _ => rfl, ?_, ?_, ?_, ?_⟩
    · intro k sv hk
      simp only [gv] at hk
      split at hk
      · rename_i hb
        cases hk
        have := Nat.eq_of_beq_eq_true hb
        subst this
        refine ⟨v, ?_, rfl⟩
        rw [htm2]
        simp [hsz, hpn]
      · rename_i hb
        obtain ⟨y, rfl, hg⟩ := gv_envV hk
        refine ⟨y, ?_, rfl⟩
        have hne : p ≠ k := fun e => by simp [e] at hb
        rw [htm2, Array.getElem?_setIfInBounds_ne hne]
        exact htm k y hg
    · intro id q hi
      exact hown _ q (hz id q hi).1
    · intro id q b hi hb
      have h1 := (hz id q hi).1
      exact ⟨.inl ⟨_, q, h1, hb⟩, hfree b (.inl ⟨_, q, h1, hb⟩)⟩
    · intro id id' q q' b hi hi' hb hb'
      obtain ⟨h1, _⟩ := hz id q hi
      obtain ⟨h1', _⟩ := hz id' q' hi'
      have := hinj _ _ q q' b h1 h1' hb hb'
      omega
  have hgo := hasg w (HoldsL bk hd (J pre)) (fun k o hk => hA.lt hk) { tmps := tm, defers := [] } w ⟨_, _, hRep⟩
  rw [← htm'] at hgo
  refine Go.wpIn_mono hgo ?_
  rintro e a1 w1 ⟨ρ1, σ1, u1, hR1', rfl, ρ', σ', hs, ho, hM⟩
  obtain ⟨bk1, hd1, hR1⟩ := hR1'.sub hs ho
  have hf1 := hR1.frame
  have hsz1 : w.heap.size ≤ w1.heap.size := hf1.2.2.2.1
  have hL1 : w1.heap[L]? = some (.loop rec) := (hf1.2.2.2.2 L hLlt hnL).trans hL
  have hD1 : w1.heap[Dd]? = some (.deferred (some [])) := (hf1.2.2.2.2 Dd hDlt hnD).trans hDd
  have hu1L : u1 L = none := (hR1.uold L hLlt hnL).trans (hfree L (.inr (.inl rfl)))
  have hu1D : u1 Dd = none := (hR1.uold Dd hDlt hnD).trans (hfree Dd (.inr (.inr rfl)))
  have hhold1 : ∀ id q b, gv σ' id = some q → q.2.holds (bk1 id) (hd1 id) b → HoldsL bk hd (J pre) b ∨ w.heap.size ≤ b := fun id q b hi hb => (hR1.fresh id q b hi hb).1
  refine ⟨_, run_beginRound hL1 hst, ?_⟩
  obtain ⟨w2, hw2⟩ : ∃ w2, w1.putObj L (.loop { rec with state := .busy }) = w2 := ⟨_, rfl⟩
  rw [hw2]
  have hs2 : w2.heap.size = w1.heap.size := by rw [← hw2]; exact putObj_size _ _ _
  have hw2o : ∀ k, k ≠ L → w2.heap[k]? = w1.heap[k]? := fun k hk => by rw [← hw2]; exact World.putObj_heap_other hk
  have hw2L : w2.heap[L]? = some (.loop { rec with state := .busy }) := by rw [← hw2]; exact World.putObj_heap_same (Nat.lt_of_lt_of_le hLlt hf1.2.2.2.1)
  have hR2 : RepAt ⟨P, n, w2, fun b => ∃ id q, gv σ' id = some q ∧ q.2.holds (bk1 id) (hd1 id) b, u1, [], some L⟩ bk1 hd1 ρ' σ' u1 a1 w2 := by
    refine ⟨hR1.size, hR1.defers, Frame0.refl _ _, fun k o hk => ?_, fun _ _ _ => rfl, hR1.slot, fun id q hi => ?_, fun id q b hi hb => ⟨.inl ⟨id, q, hi, hb⟩, (hR1.fresh id q b hi hb).2⟩, hR1.inj⟩
    · rw [hw2o k (fun e => by rw [e, hu1L] at hk; cases hk)]; exact hR1.agree k o hk
    · refine (hR1.own id q hi).grow fun k hk => hw2o k fun e => ?_
      subst e
      rcases hhold1 id q k hi hk with h | h
      · exact hnL h
      · omega
  refine Go.wpIn_mono (hbody ρ' σ' u1 w2 _ hM a1 w2 ⟨_, _, hR2⟩) ?_
  rintro e a3 w3 ⟨ρ3, σ3, u3, ⟨bk3, hd3, hR3⟩, rfl, ids, hl, hnd⟩
  have hf3 := hR3.frame
  have hDb : ∀ b, b < w.heap.size → ¬ HoldsL bk hd (J pre) b → ¬ ∃ id q, gv σ' id = some q ∧ q.2.holds (bk1 id) (hd1 id) b := by
    rintro b hb hn ⟨id, q, hi, hh⟩
    rcases hhold1 id q b hi hh with h | h
    · exact hn h
    · omega
  have hLlt2 : L < w2.heap.size := by rw [hs2]; exact Nat.lt_of_lt_of_le hLlt hf1.2.2.2.1
  have hDlt2 : Dd < w2.heap.size := by rw [hs2]; exact Nat.lt_of_lt_of_le hDlt hf1.2.2.2.1
  have hL3 : w3.heap[L]? = some (.loop { rec with state := .busy }) := (hf3.2.2.2.2 L hLlt2 (hDb L hLlt hnL)).trans hw2L
  have hD3 : w3.heap[Dd]? = some (.deferred (some [])) := (hf3.2.2.2.2 Dd hDlt2 (hDb Dd hDlt hnD)).trans ((hw2o Dd (Ne.symm hLD)).trans hD1)
  have hu3L : u3 L = none := (hR3.uold L hLlt2 (hDb L hLlt hnL)).trans hu1L
  have hu3D : u3 Dd = none := (hR3.uold Dd hDlt2 (hDb Dd hDlt hnD)).trans hu1D
  have hrun := run_endRound (P := P) none hL3
  refine ⟨_, _, hrun, ?_⟩
  obtain ⟨w4, hw4⟩ : ∃ w4, w3.putObj L (.loop { ({ rec with state := .busy } : Loop) with state := if (none : Option Code).isNone then .ready else .done, pending := none }) = w4 := ⟨_, rfl⟩
  rw [hw4]
  have hrec : ({ ({ rec with state := .busy } : Loop) with state := if (none : Option Code).isNone then .ready else .done, pending := none } : Loop) = rec := by
    cases rec; simp_all
  rw [hrec] at hw4
  have hs4 : w4.heap.size = w3.heap.size := by rw [← hw4]; exact putObj_size _ _ _
  have hw4o : ∀ k, k ≠ L → w4.heap[k]? = w3.heap[k]? := fun k hk => by rw [← hw4]; exact World.putObj_heap_other hk
  have hsz3 : w2.heap.size ≤ w3.heap.size := hf3.2.2.2.1
  have hw4L : w4.heap[L]? = some (.loop rec) := by rw [← hw4]; exact World.putObj_heap_same (by omega)
  have hO3 := hR3.ownsL hl hnd
  have hnew : ∀ b, HoldsL (fun i => ((ids[i]?).bind bk3)) (fun i => ((ids[i]?).map hd3).getD undef) (J (pre ++ [x])) b → HoldsL bk hd (J pre) b ∨ w.heap.size ≤ b := by
    rintro b ⟨i, q, hi, hb⟩
    obtain ⟨id, h1, h2⟩ := gvs_get hl i q hi
    have hb' : q.2.holds (bk3 id) (hd3 id) b := by simpa [h1] using hb
    rcases (hR3.fresh id q b h2 hb').1 with ⟨id2, q2, h3, h4⟩ | h3
    · exact hhold1 id2 q2 b h3 h4
    · have h5 : w2.heap.size ≤ b := h3
      exact .inr (by omega)
  have hne : ∀ b, HoldsL (fun i => ((ids[i]?).bind bk3)) (fun i => ((ids[i]?).map hd3).getD undef) (J (pre ++ [x])) b → b ≠ L ∧ b ≠ Dd := by
    intro b hb
    rcases hnew b hb with h | h
    · exact hnot b h
    · exact ⟨by omega, by omega⟩
  have hown4 : ∀ (i : Nat) (q : PO), (J (pre ++ [x]))[i]? = some q → ownOk w4 ((ids[i]?).bind bk3) (((ids[i]?).map hd3).getD undef) q := fun i q hi =>
    (hO3.own i q hi).grow fun k hk => hw4o k (hne k ⟨i, q, hi, hk⟩).1
  refine ⟨.bool true, u3, [(none, .fg (fun k => HoldsL (fun i => ((ids[i]?).bind bk3)) (fun i => ((ids[i]?).map hd3).getD undef) (J (pre ++ [x])) k ∨ k = L ∨ k = Dd) (fun w : World => (∀ (i : Nat) (p : PO), (J (pre ++ [x]))[i]? = some p → ownOk w ((ids[i]?).bind bk3) (((ids[i]?).map hd3).getD undef) p) ∧ w.heap[L]? = some (.loop rec) ∧ w.heap[Dd]? = some (.deferred (some []))))], fun _ => none, fun _ => undef, rfl, ⟨rfl, _, _, rfl, _, _, rfl, rfl, hO3.inj, hne⟩, ?_, ?_, ?_, ⟨?_, ?_, ?_⟩, ?_⟩
  · intro k o hk
    rw [hw4o k (fun e => by rw [e, hu3L] at hk; cases hk)]
    exact hR3.agree k o hk
  · intro k hk hn
    have hnk : ¬ HoldsL bk hd (J pre) k := fun h => hn ⟨0, _, rfl, .inl h⟩
    have hk2 : k < w2.heap.size := by omega
    exact (hR3.uold k hk2 (hDb k hk hnk)).trans (hR1.uold k hk hnk)
  · refine ⟨?_, ?_, ?_, ?_, ?_⟩
    · rw [← hw4]; exact hf3.1.trans (by rw [← hw2]; exact hf1.1)
    · rw [← hw4]; exact hf3.2.1.trans (by rw [← hw2]; exact hf1.2.1)
    · rw [← hw4]; exact hf3.2.2.1.trans (by rw [← hw2]; exact hf1.2.2.1)
    · omega
    · intro k hk hn
      have hnk : ¬ HoldsL bk hd (J pre) k := fun h => hn ⟨0, _, rfl, .inl h⟩
      have hkL : k ≠ L := fun e => hn ⟨0, _, rfl, .inr (.inl e)⟩
      have hk2 : k < w2.heap.size := by omega
      exact (hw4o k hkL).trans ((hf3.2.2.2.2 k hk2 (hDb k hk hnk)).trans ((hw2o k hkL).trans (hf1.2.2.2.2 k hk hnk)))
  · intro i q hi
    obtain rfl : i = 0 := by
      cases i with
      | zero => rfl
      | succ i => simp at hi
    simp only [List.getElem?_cons_zero, Option.some.injEq] at hi
    subst hi
    refine ⟨⟨fun w5 h5 => ⟨fun i q hi => (hown4 i q hi).grow fun k hk => h5 k (.inl ⟨i, q, hi, hk⟩), (h5 L (.inr (.inl rfl))).trans hw4L, (h5 Dd (.inr (.inr rfl))).trans ((hw4o Dd (Ne.symm hLD)).trans hD3)⟩, ?_⟩, by simp⟩
    rintro k (⟨i, q, hi, hk⟩ | rfl | rfl)
    · exact (hown4 i q hi).lt hk
    · omega
    · omega
  · intro i q b hi hb
    obtain rfl : i = 0 := by
      cases i with
      | zero => rfl
      | succ i => simp at hi
    simp only [List.getElem?_cons_zero, Option.some.injEq] at hi
    subst hi
    rcases hb with ⟨i, q, hi, hk⟩ | rfl | rfl
    · exact hO3.free i q b hi hk
    · exact hu3L
    · exact hu3D
  · intro i j p q b hi hj _ _
    cases i with
    | succ i => simp at hi
    | zero =>
      cases j with
      | succ j => simp at hj
      | zero => rfl
  · rintro b ⟨i, q, hi, hb⟩
    obtain rfl : i = 0 := by
      cases i with
      | zero => rfl
      | succ i => simp at hi
    simp only [List.getElem?_cons_zero, Option.some.injEq] at hi
    subst hi
    rcases hb with h | h | h
    · rcases hnew b h with h | h
      · exact .inl ⟨0, _, rfl, .inl h⟩
      · exact .inr h
    · exact .inl ⟨0, _, rfl, .inr (.inl h)⟩
    · exact .inl ⟨0, _, rfl, .inr (.inr h)⟩

/-- statements one behind the other, ahead of c -/
def seqs : List Code → Code → Code
  | [], c => c
  | a :: as, c => .seq a (seqs as c)
/-- .. each walked to its end -/
def WCs (F : Fx) : List Code → Env → Own → View → (Env → Own → View → Prop) → Prop
  | [], ρ, σ, u, K => K ρ σ u
  | c :: cs, ρ, σ, u, K => WC F c ρ σ u fun e ρ' σ' u' => e = .normal ∧ WCs F cs ρ' σ' u' K
theorem np_wcs {K : Env → Own → View → Prop} : noPanic fun e ρ σ u => e = .normal ∧ K ρ σ u := fun c ρ σ u h => by cases h.1
theorem wcs_wp {F : Fx} {c : Code} {Q : Exit → Act → World → Prop} {K : Env → Own → View → Prop} (hc : ∀ ρ σ u a w, K ρ σ u → Rep F ρ σ u a w → c.wpIn (fw F.r) 0 F.P Q a w) :
    ∀ (pre : List Code) (ρ : Env) (σ : Own) (u : View), WCs F pre ρ σ u K → ∀ a w, Rep F ρ σ u a w → (seqs pre c).wpIn (fw F.r) 0 F.P Q a w
  | [], ρ, σ, u, h, a, w, hR => hc ρ σ u a w h hR
  | b :: bs, ρ, σ, u, h, a, w, hR => by
    refine wpIn_seq (Go.wpIn_mono (h a w hR) ?_)
    rintro e a2 w2 ⟨ρ2, σ2, u2, hR2, rfl, h2⟩
    exact wcs_wp hc bs ρ2 σ2 u2 h2 a2 w2 hR2

/-- **A function's body that ranges over a function, once.** -/
theorem FnP.intro_range {α : Type} {P : Program} {f : FuncId} {fn : Func} {pre : List Code} {c2 c3 asg body : Code} {blk p : Nat} {g : Operand} {args : List Value} {u : View} {R : Value → View → Prop} (rs : List ResultVar) (V : View → α → Value → Prop) (K : Env → Own → View → Prop)
    (hf : P.funcs[f]? = some fn) (hb : fn.body = some (seqs pre (.seq (.seq c2 (.block blk (.rangeFunc g #[p] asg body))) c3))) (hrs : fn.results = rs.toArray) (hn : Nat.ble args.length fn.ntmps = true) (hpn : Nat.blt p fn.ntmps = true)
    (h0 : ∀ (w0 : World) (D : Nat → Prop), (∀ k o, u k = some o → k < w0.heap.size) → WCs ⟨P, fn.ntmps, w0, D, u, [], none⟩ pre (initE 0 args) [] u fun ρ σ u' => WC ⟨P, fn.ntmps, w0, D, u, [], none⟩ c2 ρ σ u' fun e ρ σ u'' => e = .normal ∧ ∃ ρ' σ', subE ρ' ρ ∧ subO σ' σ ∧ K ρ' σ' u'')
    (h1 : ∀ (ρ : Env) (σ : Own) (u1 : View), VLe u u1 → K ρ σ u1 → ∃ (gf : Nat) (lb : List Value) (ids : List Nat) (J : List α → List PO) (xs : List α) (ρb : List (Nat × Value)) (ρ3 : Env) (M : List α → α → Env → Own → View → Prop),
      opv ρ g = some (.v (.func (.func gf) #[] lb.toArray)) ∧ canCall P gf = true ∧ gvs σ ids = some (J []) ∧ nodupb ids = true ∧ (∀ k x, gv ρb k = some x → (gv ρ k).bind (svV σ) = some x) ∧
      subE ρ3 ρ ∧ okRefs ids σ ρ3 = true ∧ keepPins (J []) (J xs) ∧ newIds ids [900] σ ρ3 = true ∧
      (∀ (L : Nat) (Y : List α → (Nat → Prop) → (World → Prop) → Prop), (∀ pre H I, Y pre H I → ∀ u' x v, VLe u1 u' → V u' x v → YldO P L [v] u' [(none, .fg H I)] fun r u'' l' => r = .bool true ∧ ∃ H' I', l' = [(none, .fg H' I')] ∧ Y (pre ++ [x]) H' I') →
        ∀ H I, Y [] H I → FnO P gf (.func (.yield L) #[] #[] :: lb) u1 [(none, .fg H I)] fun _ _ l' => ∃ H' I', l' = [(none, .fg H' I')] ∧ Y xs H' I') ∧
      (∀ (L : Nat) (pre : List α) (x : α) (v : Value) (u' : View) (w0 : World) (D : Nat → Prop), VLe u1 u' → V u' x v → (∀ k o, u' k = some o → k < w0.heap.size) → WC ⟨P, fn.ntmps, w0, D, u', [], some L⟩ asg ((p, .v v) :: envV ρb) (zipO (inIds 1000 (J pre)) (J pre)) u' fun e ρ σ u'' => e = .normal ∧ ∃ ρ' σ', subE ρ' ρ ∧ subO σ' σ ∧ M pre x ρ' σ' u'') ∧
      (∀ (L : Nat) (pre : List α) (x : α) (ρ : Env) (σ : Own) (u'' : View) (w0 : World) (D : Nat → Prop), M pre x ρ σ u'' → WC ⟨P, fn.ntmps, w0, D, u'', [], some L⟩ body ρ σ u'' fun e ρ σ u3 => e = .normal ∧ ∃ ids, gvs σ ids = some (J (pre ++ [x])) ∧ nodupb ids = true) ∧
      (∀ (w0 : World) (D : Nat → Prop) (df : List Deferred) (dH : Nat → Prop) (dI : World → Prop) (u2 : View), VLe u1 u2 → WC ⟨P, fn.ntmps, w0, D, u, df, none⟩ c3 ρ3 (zipO (ids ++ [900]) (J xs ++ [(none, .fg dH dI)]) ++ rms (ids ++ [900]) σ) u2 fun e ρ' σ' u' => Fin P rs R e ρ' (Eng.rm 900 σ') u' ∧ gv σ' 900 = some (none, .fg dH dI))) :
    FnP P f args u R := by
  intro w bk0 hd0 hA hO
  have hinit : Rep ⟨P, fn.ntmps, w, HoldsL bk0 hd0 [], u, [], none⟩ (initE 0 args) [] u { tmps := args.toArray ++ Array.replicate (fn.ntmps - args.toArray.size) undef, defers := [] } w := by
    refine ⟨fun _ => none, fun _ => undef, by have := Nat.le_of_ble_eq_true hn; simp; omega, rfl, Frame0.refl _ _, hA, fun _ _ _ => rfl, ?_, by simp [gv], by simp [gv], by simp [gv]⟩
    intro k sv hk
    obtain ⟨x, j, rfl, rfl, hj⟩ := gv_initE args 0 k sv hk
    refine ⟨x, ?_, rfl⟩
    have hlt : j < args.length := (List.getElem?_eq_some_iff.1 hj).1
    simp [Array.getElem?_append, hlt]; exact (List.getElem?_eq_some_iff.1 hj).2
  have hnoH : ∀ b, ¬ HoldsL bk0 hd0 [] b := fun b ⟨i, p, hi, _⟩ => by simp at hi
  refine (callsIn_wide (n := 0)).1 (callsIn_of_wp_marks hf hb trivial ?_ rfl)
  refine wcs_wp (F := ⟨P, fn.ntmps, w, HoldsL bk0 hd0 [], u, [], none⟩) (fun ρ σ u1 a1 w1 hc2 hRc => ?_) pre _ _ _ (h0 w _ (fun k o hk => hA.lt hk)) _ w hinit
  refine wpIn_seq (wpIn_seq (Go.wpIn_mono (hc2 a1 w1 hRc) ?_))
  rintro e a1 w1 ⟨ρ', σ', u1, hR', rfl, ρ, σ, hsub1, hsub2, hK⟩
  obtain ⟨bk, hd, hR⟩ := hR'.sub hsub1 hsub2
  have hle : VLe u u1 := fun k o hk => (hR.uold k (hA.lt hk) (hnoH k)).trans hk
  obtain ⟨gf, lb, ids, J, xs, ρb, ρ3, M, hg, hc, hl, hnd, hρb, hρ3, hok3, hkp, hnew, hit, hasg, hbody, hrest⟩ := h1 ρ σ u1 hle hK
  refine wpIn_block (wpIn_rangeFunc ?_)
  intro fnid _
  obtain ⟨rec, hrec⟩ : ∃ rec : Loop, rec = { state := .ready, pending := none, fn := fnid, tmps := a1.tmps, params := #[p], assign := asg, body := body, defers := w1.heap.size } := ⟨_, rfl⟩
  obtain ⟨W1, hW1⟩ : ∃ W1, (w1.alloc (.deferred (some []))).alloc (.loop rec) = W1 := ⟨_, rfl⟩
  have hL1 : W1.heap[w1.heap.size + 1]? = some (.loop rec) := by
    rw [← hW1]; have := World.alloc_heap_new (w1.alloc (.deferred (some []))) (.loop rec); rwa [World.size_alloc] at this
  have hD1 : W1.heap[w1.heap.size]? = some (.deferred (some [])) := by
    rw [← hW1]; exact (Below.heap_alloc _ _ _ (by simp)).trans (World.alloc_heap_new w1 _)
  have hs1 : W1.heap.size = w1.heap.size + 2 := by rw [← hW1]; simp
  have hold1 : ∀ k, k < w1.heap.size → W1.heap[k]? = w1.heap[k]? := fun k hk => by
    rw [← hW1]; exact (Below.heap_alloc _ _ _ (by simp; omega)).trans (Below.heap_alloc _ _ _ hk)
  have hOw := hR.ownsL hl hnd
  have hltH : ∀ b, HoldsL (fun i => ((ids[i]?).bind bk)) (fun i => ((ids[i]?).map hd).getD undef) (J []) b → b < w1.heap.size := fun b ⟨i, q, hi, hb⟩ => (hOw.own i q hi).lt hb
  refine ⟨w1.heap.size + 1, [{ target := .collected w1.heap.size, args := #[] }], W1, { target := .fn (.func gf) lb.toArray, args := #[.func (.yield (w1.heap.size + 1)) #[] #[]] }, W1, gf, (.func (.yield (w1.heap.size + 1)) #[] #[] :: lb).toArray, W1, ?_, ?_, fun _ _ => trivial, ?_, fun hs => by simp [fw, Fence.wide] at hs, ?_⟩
  · rw [← hW1, hrec]; exact run_enterLoop_outer _ _ _ _ _
  · simp [resolve, hR.op hg, Deferred.ofValue]
    rfl
  · simp [invoke, run_callFunc hc]
  have hrounds : ∀ pre H I, LoopY J (w1.heap.size + 1) w1.heap.size rec pre H I → ∀ u' x v, VLe u1 u' → V u' x v → YldO P (w1.heap.size + 1) [v] u' [(none, .fg H I)] fun r u'' l' => r = .bool true ∧ ∃ H' I', l' = [(none, .fg H' I')] ∧ LoopY J (w1.heap.size + 1) w1.heap.size rec (pre ++ [x]) H' I' := by
    intro pre H I hY u' x v hv hV
    exact round_of (M pre x) (by rw [hrec]) (by rw [hrec]) (by rw [hrec]) (by rw [hrec]) (by rw [hrec]) (by rw [hrec]; exact hR.size) (blt_lt hpn) (by omega) (fun k y hk => by
      rw [hrec]
      obtain ⟨sv, e1, e2⟩ := Option.bind_eq_some_iff.1 (hρb k y hk)
      obtain ⟨z, hz, hs⟩ := hR.slot k sv e1
      have := hR.svV hs e2
      subst this
      exact hz) (fun w0 D hlt => hasg _ pre x v u' w0 D hv hV hlt) (fun ρ σ u'' w0 D hM => hbody _ pre x ρ σ u'' w0 D hM) hY
  have hA1 : Agree u1 W1 := fun k o hk => (hold1 k (hR.agree.lt hk)).trans (hR.agree k o hk)
  have hO1 : OwnsL W1 u1 (fun _ => none) (fun _ => undef) [((none, OO.fg (fun k => HoldsL (fun i => ((ids[i]?).bind bk)) (fun i => ((ids[i]?).map hd).getD undef) (J []) k ∨ k = w1.heap.size + 1 ∨ k = w1.heap.size) (fun w : World => (∀ (i : Nat) (p : PO), (J [])[i]? = some p → ownOk w ((ids[i]?).bind bk) (((ids[i]?).map hd).getD undef) p) ∧ w.heap[w1.heap.size + 1]? = some (.loop rec) ∧ w.heap[w1.heap.size]? = some (.deferred (some [])))) : PO)] := by
    refine ⟨?_, ?_, ?_⟩
    · intro i q hi
      obtain rfl : i = 0 := by
        cases i with
        | zero => rfl
        | succ i => simp at hi
      simp only [List.getElem?_cons_zero, Option.some.injEq] at hi
      subst hi
      refine ⟨⟨fun w5 h5 => ⟨fun i q hi => (hOw.own i q hi).grow fun k hk => (h5 k (.inl ⟨i, q, hi, hk⟩)).trans (hold1 k (hltH k ⟨i, q, hi, hk⟩)), (h5 _ (.inr (.inl rfl))).trans hL1, (h5 _ (.inr (.inr rfl))).trans hD1⟩, ?_⟩, by simp⟩
      rintro k (hk | rfl | rfl)
      · have := hltH k hk; omega
      · omega
      · omega
    · intro i q b hi hb
      obtain rfl : i = 0 := by
        cases i with
        | zero => rfl
        | succ i => simp at hi
      simp only [List.getElem?_cons_zero, Option.some.injEq] at hi
      subst hi
      rcases hb with ⟨i, q, hi, hk⟩ | rfl | rfl
      · exact hOw.free i q b hi hk
      · cases hu : u1 (w1.heap.size + 1) with
        | none => rfl
        | some o => exact absurd (hR.agree.lt hu) (by omega)
      · cases hu : u1 w1.heap.size with
        | none => rfl
        | some o => exact absurd (hR.agree.lt hu) (by omega)
    · intro i j p q b hi hj _ _
      cases i with
      | succ i => simp at hi
      | zero =>
        cases j with
        | succ j => simp at hj
        | zero => rfl
  refine callsIn_fw none _ (Calls.mono (hit (w1.heap.size + 1) (LoopY J (w1.heap.size + 1) w1.heap.size rec) hrounds _ _ ⟨_, _, rfl, rfl, hOw.inj, fun b hb => by have := hltH b hb; exact ⟨by omega, by omega⟩⟩ W1 _ _ hA1 hO1) ?_)
  · rintro e w3 ⟨v, u3, l', bk3, hd3, rfl, ⟨H', I', rfl, hY'⟩, hA3, hu3, hF3, hO3, hN3⟩
    obtain ⟨bk4, hd4, rfl, rfl, hinj4, hnot4⟩ := hY'
    obtain ⟨hI1, hI2⟩ := (hO3.own 0 _ rfl).1
    obtain ⟨hown3, hL3, hD3⟩ := hI1 w3 (fun _ _ => rfl)
    have hfree3 : ∀ b, (HoldsL bk4 hd4 (J xs) b ∨ b = w1.heap.size + 1 ∨ b = w1.heap.size) → u3 b = none := fun b hb => hO3.free 0 _ b rfl hb
    have hrun := run_endLoop (P := P) hL3 (by rw [hrec]; simp)
    have hpend : rec.pending = none := by rw [hrec]
    obtain ⟨w4, hw4⟩ : ∃ w4, w3.putObj (w1.heap.size + 1) (.loop { rec with state := .exhausted }) = w4 := ⟨_, rfl⟩
    rw [hw4, hpend] at hrun
    refine ⟨none, w4, hrun, ?_⟩
    have hs4 : w4.heap.size = w3.heap.size := by rw [← hw4]; exact putObj_size _ _ _
    have hw4o : ∀ k, k ≠ w1.heap.size + 1 → w4.heap[k]? = w3.heap[k]? := fun k hk => by rw [← hw4]; exact World.putObj_heap_other hk
    have hs3 : W1.heap.size ≤ w3.heap.size := hF3.2.2.2.1
    have hD4 : w4.heap[w1.heap.size]? = some (.deferred (some [])) := (hw4o _ (by omega)).trans hD3
    have hsw : w.heap.size ≤ w1.heap.size := hR.frame.2.2.2.1
    have hnot0 : ∀ k, k < w1.heap.size → ¬ HoldsL (fun i => ((ids[i]?).bind bk)) (fun i => ((ids[i]?).map hd).getD undef) (J []) k → ¬ HoldsL (fun _ => none) (fun _ => undef) [((none, OO.fg (fun k => HoldsL (fun i => ((ids[i]?).bind bk)) (fun i => ((ids[i]?).map hd).getD undef) (J []) k ∨ k = w1.heap.size + 1 ∨ k = w1.heap.size) (fun w : World => (∀ (i : Nat) (p : PO), (J [])[i]? = some p → ownOk w ((ids[i]?).bind bk) (((ids[i]?).map hd).getD undef) p) ∧ w.heap[w1.heap.size + 1]? = some (.loop rec) ∧ w.heap[w1.heap.size]? = some (.deferred (some [])))) : PO)] k := by
      rintro k hk hn ⟨i, q, hi, hb⟩
      obtain rfl : i = 0 := by
        cases i with
        | zero => rfl
        | succ i => simp at hi
      simp only [List.getElem?_cons_zero, Option.some.injEq] at hi
      subst hi
      rcases hb with h | h | h
      · exact hn h
      · omega
      · omega
    have hA4 : Agree u3 w4 := fun k o hk => by
      rw [hw4o k (fun e => by rw [e, hfree3 _ (.inr (.inl rfl))] at hk; cases hk)]
      exact hA3 k o hk
    have hn2 := hnew
    simp only [newIds, Bool.and_eq_true, List.all_eq_true] at hn2
    have hJl : ∀ (i : Nat) (q : PO), (J xs ++ [((none, OO.fg (fun k => k = w1.heap.size) (fun w : World => w.heap[w1.heap.size]? = some (.deferred (some [])))) : PO)])[i]? = some q → (J xs)[i]? = some q ∨ (i = (J xs).length ∧ q = ((none, OO.fg (fun k => k = w1.heap.size) (fun w : World => w.heap[w1.heap.size]? = some (.deferred (some [])))) : PO)) := by
      intro i q hi
      rw [List.getElem?_append] at hi
      split at hi
      · exact .inl hi
      · rename_i hge
        obtain ⟨n, hn⟩ : ∃ n, i - (J xs).length = n := ⟨_, rfl⟩
        rw [hn] at hi
        cases n with
        | zero => simp at hi; exact .inr ⟨by omega, hi.symm⟩
        | succ n => simp at hi
    obtain ⟨bk2, hd2, hR2, _, _⟩ := hR.called (ρ' := ρ3) (u' := u3) (w' := w4) (l' := J xs ++ [((none, OO.fg (fun k => k = w1.heap.size) (fun w : World => w.heap[w1.heap.size]? = some (.deferred (some [])))) : PO)]) (ids' := ids ++ [900]) (bk' := bk4) (hd' := hd4) hl hnd hn2.1 (fun i hi hi2 => by
      have := hn2.2 i (posOf_extra hi hi2)
      simpa using this) (fun j i hj => posOf_append hj) (by
        have : ∀ {l l' e : List PO}, keepPins l l' → keepPins l (l' ++ e) := by
          intro l
          induction l with
          | nil => intro l' e _; trivial
          | cons a l ih =>
            intro l' e h
            cases l' with
            | nil => exact h.elim
            | cons b l' => exact ⟨h.1, ih h.2⟩
        exact this hkp) hρ3 hok3 hA4 (fun k hk hn => hu3 k (by omega) (hnot0 k hk hn)) ⟨by rw [← hw4]; exact hF3.1.trans (by rw [← hW1]; rfl), by rw [← hw4]; exact hF3.2.1.trans (by rw [← hW1]; rfl), by rw [← hw4]; exact hF3.2.2.1.trans (by rw [← hW1]; rfl), by omega, fun k hk hn => (hw4o k (by omega)).trans ((hF3.2.2.2.2 k (by omega) (hnot0 k hk hn)).trans (hold1 k hk))⟩
      ⟨fun i q hi => by
          rcases hJl i q hi with h | ⟨_, rfl⟩
          · exact (hown3 i q h).grow fun k hk => hw4o k (hnot4 k ⟨i, q, h, hk⟩).1
          · exact ⟨⟨fun w5 h5 => (h5 _ rfl).trans hD4, fun k hk => by have hk' : k = w1.heap.size := hk; omega⟩, by simp⟩,
        fun i q b hi hb => by
          rcases hJl i q hi with h | ⟨_, rfl⟩
          · exact hfree3 b (.inl ⟨i, q, h, hb⟩)
          · exact hfree3 b (.inr (.inr hb)),
        fun i j q q' b hi hj hb hb' => by
          rcases hJl i q hi with h | ⟨h, rfl⟩
          · rcases hJl j q' hj with h' | ⟨h', rfl⟩
            · exact hinj4 i j q q' b h h' hb hb'
            · exact absurd hb' (hnot4 b ⟨i, q, h, hb⟩).2
          · rcases hJl j q' hj with h' | ⟨h', rfl⟩
            · exact absurd hb (hnot4 b ⟨j, q', h', hb'⟩).2
            · rw [h, h']⟩
      (by
        rintro b ⟨i, q, hi, hb⟩
        rcases hJl i q hi with h | ⟨_, rfl⟩
        · rcases hN3 b ⟨0, _, rfl, .inl ⟨i, q, h, hb⟩⟩ with ⟨i2, q2, hi2, hb2⟩ | h2
          · obtain rfl : i2 = 0 := by
              cases i2 with
              | zero => rfl
              | succ i2 => simp at hi2
            simp only [List.getElem?_cons_zero, Option.some.injEq] at hi2
            subst hi2
            rcases hb2 with h3 | h3 | h3
            · exact .inl h3
            · exact .inr (by omega)
            · exact .inr (by omega)
          · exact .inr (by omega)
        · have hb' : b = w1.heap.size := hb
          exact .inr (by omega))
    have hle13 : VLe u1 u3 := fun k o hk => by
      have hkl := hR.agree.lt hk
      refine (hu3 k (by omega) (hnot0 k hkl ?_)).trans hk
      rintro ⟨i, q, hi, hb⟩
      have := hOw.free i q k hi hb
      rw [this] at hk; cases hk
    have hR7 : RepAt ⟨P, fn.ntmps, w, HoldsL bk0 hd0 [], u, [{ target := .collected w1.heap.size, args := #[] }], none⟩ bk2 hd2 ρ3 (zipO (ids ++ [900]) (J xs ++ [((none, OO.fg (fun k => k = w1.heap.size) (fun w : World => w.heap[w1.heap.size]? = some (.deferred (some [])))) : PO)]) ++ rms (ids ++ [900]) σ) u3 ({ a1 with defers := [{ target := .collected w1.heap.size, args := #[] }] ++ a1.defers } : Act) w4 :=
      ⟨hR2.size, by simp [hR2.defers], hR2.frame, hR2.agree, hR2.uold, hR2.slot, hR2.own, hR2.fresh, hR2.inj⟩
    refine Go.wpIn_mono (hrest w (HoldsL bk0 hd0 []) [{ target := .collected w1.heap.size, args := #[] }] (fun k => k = w1.heap.size) (fun w : World => w.heap[w1.heap.size]? = some (.deferred (some []))) u3 hle13 _ w4 ⟨_, _, hR7⟩) ?_
    rintro e a5 w5 ⟨ρ5, σ5, u5, ⟨bk5, hd5, hE⟩, ⟨he, xs5, ids5, l5, hx, hl5, hnd5, hl0, hr⟩, h900⟩
    obtain ⟨⟨hI5, _⟩, _⟩ := hE.own 900 _ h900
    have hD5 : w5.heap[w1.heap.size]? = some (.deferred (some [])) := hI5 w5 (fun _ _ => rfl)
    have hlt5 : w1.heap.size < w5.heap.size := (Array.getElem?_eq_some_iff.1 hD5).1
    obtain ⟨w6, hw6⟩ : ∃ w6, w5.putObj w1.heap.size (.deferred none) = w6 := ⟨_, rfl⟩
    have hw6o : ∀ k, k ≠ w1.heap.size → w6.heap[k]? = w5.heap[k]? := fun k hk => by rw [← hw6]; exact World.putObj_heap_other hk
    have hs6 : w6.heap.size = w5.heap.size := by rw [← hw6]; exact putObj_size _ _ _
    have hu5 : u5 w1.heap.size = none := (hE.fresh 900 _ w1.heap.size h900 rfl).2
    have hf5 := hE.frame
    have hs5 : w.heap.size ≤ w5.heap.size := hf5.2.2.2.1
    have hE6 : RepAt ⟨P, fn.ntmps, w, HoldsL bk0 hd0 [], u, [{ target := .collected w1.heap.size, args := #[] }], none⟩ bk5 hd5 ρ5 (Eng.rm 900 σ5) u5 a5 w6 := by
      refine ⟨hE.size, hE.defers, ⟨by rw [← hw6]; exact hf5.1, by rw [← hw6]; exact hf5.2.1, by rw [← hw6]; exact hf5.2.2.1, by show w.heap.size ≤ w6.heap.size; omega, fun k hk hD => (hw6o k (by have hk' : k < w.heap.size := hk; omega)).trans (hf5.2.2.2.2 k hk hD)⟩, fun k o hk => ?_, hE.uold, hE.slot, fun id q hi => ?_, fun id q b hi hb => hE.fresh id q b (gv_rm hi).2 hb, fun id id' q q' b hi hi' hb hb' => hE.inj id id' q q' b (gv_rm hi).2 (gv_rm hi').2 hb hb'⟩
      · rw [hw6o k (fun e => by rw [e, hu5] at hk; cases hk)]; exact hE.agree k o hk
      · refine (hE.own id q (gv_rm hi).2).grow fun k hk => hw6o k fun e => ?_
        subst e
        exact (gv_rm hi).1 (hE.inj id 900 q _ _ (gv_rm hi).2 h900 hk rfl)
    have hend : LeavesInM Fence.wide 0 P fn a5.tmps (fun e w' => ∃ v u' l' bk' hd', e = .returned v ∧ (l' = [] ∧ R v u') ∧ Agree u' w' ∧ (∀ k, k < w.heap.size → ¬ HoldsL bk0 hd0 [] k → u' k = u k) ∧ Frame0 w (HoldsL bk0 hd0 []) w' ∧ OwnsL w' u' bk' hd' l' ∧ ∀ b, HoldsL bk' hd' l' b → HoldsL bk0 hd0 [] b ∨ w.heap.size ≤ b) a5.defers .returning w5 := by
      rw [hE.defers]
      refine ⟨by simp, .inl ⟨w1.heap.size, w6, rfl, by rw [← hw6]; exact run_takeDeferred hD5, ?_⟩⟩
      refine ⟨retV xs5, run_results (F := ⟨P, fn.ntmps, w, HoldsL bk0 hd0 [], u, [{ target := .collected w1.heap.size, args := #[] }], none⟩) hE6 hrs hx, retV xs5, u5, [], fun _ => none, fun _ => undef, rfl, ⟨rfl, hr⟩, hE6.agree, hE6.uold, hE6.frame, ⟨by simp, by simp, by simp⟩, ?_⟩
      rintro b ⟨i, q, hi, _⟩
      simp at hi
    rcases he with rfl | rfl
    · exact hend
    · exact hend
theorem np_rest {P : Program} {rs : List ResultVar} {R : Value → View → Prop} {p : PO} : noPanic fun e ρ σ u => Fin P rs R e ρ (Eng.rm 900 σ) u ∧ gv σ 900 = some p := fun c ρ σ u h => np_fin c ρ _ u h.1
end Go.Eng
