/- The engine: regions that draw and call 'yield'; a range over a function. -/
import Derived.Test.YthnboadnehbciaaDoorEngRow
import Derived.RangeFuncRecord
import Derived.RangeFuncLeaves
import Derived.RangeFuncSeq
import Derived.OrdersIn
namespace Go.Eng
open Go Go.RowKit
set_option linter.unusedSimpArgs false
set_option linter.unusedVariables false

section
variable {F : Fx} {ρ : Env} {σ : Own} {u : View} {Q : Post} {bk : Nat → Option Nat} {hd : Nat → Value} {a : Act} {w : World} {ops : Array Oper} {fuel : Nat} {listed : Array Bool} {o : Oper} {K : Env → Own → View → Prop}

/-- what carrying out one operation does, whatever it calls -/
def DoesI (F : Fx) (o : Oper) (ρ : Env) (σ : Own) (u : View) (K : Env → Own → View → Prop) : Prop :=
  ∀ bk hd a w Q, RepAt F bk hd ρ σ u a w → ∀ N : Act → World → Prop, (∀ ρ' σ' u' a' w', K ρ' σ' u' → Rep F ρ' σ' u' a' w' → N a' w') → o.wpIn (fw F.r) 0 F.P a w N Q
theorem Does.toI (hnd : ∀ c, o.op ≠ .defer c) (h : Does F [] o ρ σ u K) : DoesI F o ρ σ u K :=
  fun bk hd a w Q hR N hN => owp_of_run hnd rfl (h bk hd a w Q hR N fun bk' hd' ρ' σ' u' a' w' hK hR' _ => hN _ _ _ _ _ hK ⟨bk', hd', hR'⟩)

/-- a region that draws, where calls of yield may come up -/
def RI (F : Fx) (ops : Array Oper) (fuel : Nat) (listed : Array Bool) (ρ : Env) (σ : Own) (u : View) (Q : Post) : Prop :=
  ∀ a w, Rep F ρ σ u a w → wpAnyIn (fw F.r) 0 F.P .any ops (lift F Q) fuel listed a w
theorem wc_drawI {id : Nat} {l : List Oper} (hm : F.P.follows .mixedOrders = true) (h : RI F l.toArray l.toArray.size (Array.replicate l.toArray.size false) ρ σ u Q) : WC F (.region id l.toArray true) ρ σ u Q := by
  rintro a w ⟨bk, hd, hR⟩
  exact wpIn_region_any hm (h a _ ⟨bk, hd, hR.drew⟩)
theorem ri_end {ρ' : Env} (hr : Region.ready .any ops listed = []) (hs : subE ρ' ρ) (h : Q .normal ρ' σ u) : RI F ops fuel listed ρ σ u Q :=
  fun a w ⟨bk, hd, hR⟩ => wpAnyIn_done hr ⟨_, _, _, ⟨bk, hd, hR.subE hs⟩, h⟩ fuel
theorem RI.sub {ρ' : Env} (hs : subE ρ' ρ) (h : RI F ops fuel listed ρ' σ u Q) : RI F ops fuel listed ρ σ u Q :=
  fun a w ⟨bk, hd, hR⟩ => h a w ⟨bk, hd, hR.subE hs⟩
def noV : View := fun _ => none

theorem ri_takeX {i d : Nat} {sv : SV} {o : Oper} (hro : F.r = none) (hi : ops[i]? = some o) (hd' : o.dst = some d) (hs : Region.noSelect ops = true) (hf : Region.free .any ops listed i = true) (hr : (Region.ready .any ops listed).contains i = true) (hp : noPanic Q) (hn : Nat.blt d F.n = true)
    (hy : ∀ bk hd a w, RepAt F bk hd ρ σ u a w → ∃ x, SVal bk hd sv x ∧ YieldsFenced F.P ops o x a)
    (h : RI F ops fuel (listed.setIfInBounds i true) ((d, sv) :: ρ) σ u Q) : RI F ops (fuel + 1) listed ρ σ u Q := by
  rintro a w ⟨bk, hd, hR⟩
  obtain ⟨x, hx, hy⟩ := hy bk hd a w hR
  refine wpAnyIn_take (by simp [fw, hro]) hi hs hf hr (fun c a w hq => ?_) hy ?_
  · obtain ⟨ρ, σ, u, _, hq⟩ := hq
    exact absurd hq (hp _ _ _ _)
  · rw [hd']
    exact h _ w ⟨bk, hd, hR.put (blt_lt hn) hx⟩

theorem same_noV (w w' : World) : Same bk hd [] noV w w' := ⟨fun k o h => by simp [noV] at h, fun id p b h => by simp [gv] at h⟩
/-- take number i first: it looks at no memory -/
theorem ri_y {i d : Nat} {op : Op} {ty : TypeId} {pos : String} {aft : Array Edge} {sv : SV} (hro : F.r = none) (hi : ops[i]? = some ⟨some d, op, ty, pos, aft, none⟩) (hs : Region.noSelect ops = true) (hf : Region.free .any ops listed i = true) (hr : (Region.ready .any ops listed).contains i = true) (hp : noPanic Q)
    (hab : ∀ w ev, (⟨some d, op, ty, pos, aft, none⟩ : Oper).about F.P w ev = none)
    (hy : Yld F [] noV ρ σ u ⟨some d, op, ty, pos, aft, none⟩ sv) (hn : Nat.blt d F.n = true)
    (h : RI F ops fuel (listed.setIfInBounds i true) ((d, sv) :: ρ) σ u Q) : RI F ops (fuel + 1) listed ρ σ u Q :=
  ri_takeX hro hi rfl hs hf hr hp hn (fun bk hd a w hR => let ⟨x, hx, hrun⟩ := hy bk hd a w hR; ⟨x, hx, .inl ⟨rfl, fun w' => hrun w' (same_noV w w')⟩, fun w' => hab w' _⟩) h
theorem ri_y_on {i d j t : Nat} {b : Bool} {op : Op} {ty : TypeId} {pos : String} {aft : Array Edge} {sv : SV} (hro : F.r = none) (hi : ops[i]? = some ⟨some d, op, ty, pos, aft, some (j, b)⟩) (hj : (ops[j]?).bind (·.dst) = some t) (hg : opv ρ (.tmp t) = some (.v (.bool b)))
    (hs : Region.noSelect ops = true) (hf : Region.free .any ops listed i = true) (hr : (Region.ready .any ops listed).contains i = true) (hp : noPanic Q)
    (hab : ∀ w ev, (⟨some d, op, ty, pos, aft, some (j, b)⟩ : Oper).about F.P w ev = none)
    (hy : Yld F [] noV ρ σ u ⟨some d, op, ty, pos, aft, none⟩ sv) (hn : Nat.blt d F.n = true)
    (h : RI F ops fuel (listed.setIfInBounds i true) ((d, sv) :: ρ) σ u Q) : RI F ops (fuel + 1) listed ρ σ u Q :=
  ri_takeX hro hi rfl hs hf hr hp hn (fun bk hd a w hR => let ⟨x, hx, hrun⟩ := hy bk hd a w hR; ⟨x, hx, .inl ⟨by simp [Region.wanted, hR.yielded hj hg], fun w' => hrun w' (same_noV w w')⟩, fun w' => hab w' _⟩) h

/-- whichever of those of 'is' comes up -/
def RIall (F : Fx) (ops : Array Oper) (fuel : Nat) (listed : Array Bool) (ρ : Env) (σ : Own) (u : View) (Q : Post) (is : List Nat) : Prop :=
  ∀ i ∈ is, ∀ a w, Rep F ρ σ u a w → wpOpIn (fw F.r) 0 F.P ops (lift F Q) i (wpAnyIn (fw F.r) 0 F.P .any ops (lift F Q) fuel (listed.setIfInBounds i true)) a w
theorem ri_all {is : List Nat} (hr : Region.ready .any ops listed = is) (hne : is.isEmpty = false) (h : RIall F ops fuel listed ρ σ u Q is) : RI F ops (fuel + 1) listed ρ σ u Q := by
  intro a w hR
  refine wpAnyIn_all hr (by intro e; rw [e] at hne; cases hne) fun i hi => h i hi a w hR
theorem riall_nil : RIall F ops fuel listed ρ σ u Q [] := fun i hi => by cases hi
theorem riall_cons {i : Nat} {is : List Nat} {o : Oper} (hi : ops[i]? = some o) (hg : o.guard = none)
    (h : DoesI F o ρ σ u fun ρ' σ' u' => RI F ops fuel (listed.setIfInBounds i true) ρ' σ' u' Q) (hr : RIall F ops fuel listed ρ σ u Q is) : RIall F ops fuel listed ρ σ u Q (i :: is) := by
  rintro j hj a w ⟨bk, hd, hR⟩
  rcases List.mem_cons.1 hj with e | hj
  · subst e
    unfold wpOpIn
    simp only [hi]
    rw [if_pos (by simp [Region.wanted, hg])]
    exact h bk hd a w _ hR _ fun ρ' σ' u' a' w' hK hR' => hK a' w' hR'
  · exact hr j hj a w ⟨bk, hd, hR⟩
theorem riall_cons_on {i j t : Nat} {b : Bool} {is : List Nat} {d : Option Nat} {op : Op} {ty : TypeId} {pos : String} {aft : Array Edge} (hi : ops[i]? = some ⟨d, op, ty, pos, aft, some (j, b)⟩) (hj : (ops[j]?).bind (·.dst) = some t) (hg : opv ρ (.tmp t) = some (.v (.bool b)))
    (hnd : ∀ c, op ≠ .defer c) (h : DoesI F ⟨d, op, ty, pos, aft, none⟩ ρ σ u fun ρ' σ' u' => RI F ops fuel (listed.setIfInBounds i true) ρ' σ' u' Q) (hr : RIall F ops fuel listed ρ σ u Q is) : RIall F ops fuel listed ρ σ u Q (i :: is) := by
  rintro k hk a w ⟨bk, hd, hR⟩
  rcases List.mem_cons.1 hk with e | hk
  · subst e
    unfold wpOpIn
    simp only [hi]
    rw [if_pos (by simp [Region.wanted, hR.yielded hj hg])]
    have key := h bk hd a w (lift F Q) hR _ fun ρ' σ' u' a' w' hK hR' => hK a' w' hR'
    have e : (execOp a.eval ⟨d, op, ty, pos, aft, some (j, b)⟩) = execOp a.eval ⟨d, op, ty, pos, aft, none⟩ := by cases op <;> rfl
    refine ⟨fun f hf => trivial, ?_⟩
    have k2 := key.2
    rw [Oper.semAt_eq _ _ _ hnd] at k2 ⊢
    rw [e]
    exact k2
  · exact hr k hk a w ⟨bk, hd, hR⟩
theorem ri_do {i : Nat} {o : Oper} (hi : ops[i]? = some o) (hg : o.guard = none) (hr : Region.ready .any ops listed = [i])
    (h : DoesI F o ρ σ u fun ρ' σ' u' => RI F ops fuel (listed.setIfInBounds i true) ρ' σ' u' Q) : RI F ops (fuel + 1) listed ρ σ u Q :=
  ri_all hr rfl (riall_cons hi hg h riall_nil)
theorem ri_do_on {i j t : Nat} {b : Bool} {d : Option Nat} {op : Op} {ty : TypeId} {pos : String} {aft : Array Edge} (hi : ops[i]? = some ⟨d, op, ty, pos, aft, some (j, b)⟩) (hj : (ops[j]?).bind (·.dst) = some t) (hg : opv ρ (.tmp t) = some (.v (.bool b))) (hr : Region.ready .any ops listed = [i]) (hnd : ∀ c, op ≠ .defer c)
    (h : DoesI F ⟨d, op, ty, pos, aft, none⟩ ρ σ u fun ρ' σ' u' => RI F ops fuel (listed.setIfInBounds i true) ρ' σ' u' Q) : RI F ops (fuel + 1) listed ρ σ u Q :=
  ri_all hr rfl (riall_cons_on hi hj hg hnd h riall_nil)

theorem y_index_eX {σS : Own} {uS uX : View} {o : Oper} {t e : TypeId} {x y : Operand} {ad : Option Addr} {len cap sz by' : Nat} {xs : List Value} {k : IntKind} {i : Int} {j : Nat} (ho : o.op = .indexAddr t x y) (ht : tyS F.P t = some (e, sz, by'))
    (hx : opv ρ x = some (.v (.slice ad len cap))) (hy : opv ρ y = some (.v (.int k i))) (hs : SlC uX ad len cap sz xs) (hj : i = (j : Int)) (h1 : j < len) : Yld F σS uS ρ σ u o (.e (.slice ad len cap) sz j 0) := by
  intro bk hd a w hR
  subst hj
  obtain ⟨hxl, _, _, hrest⟩ := hs
  obtain ⟨b2, off2, c, T, fr, rfl, hub, hcut⟩ := hrest (by omega)
  refine ⟨_, ⟨b2, off2, len, cap, rfl, rfl⟩, fun w' _ => ?_⟩
  simp [execOp, ho, hR.op hx, hR.op hy, run_indexAt_slice ht (Int.natCast_nonneg j) (Int.ofNat_lt.2 h1)]

/-! ### calling yield -/
/-- 'the loop's round, handed these values, ends, and goes on': as 'FnO' -/
def YldO (P : Program) (L : Nat) (args : List Value) (u : View) (l : List PO) (R : Value → View → List PO → Prop) : Prop :=
  ∀ w bk hd, Agree u w → OwnsL w u bk hd l →
    YieldAt (fw none) 0 P L args.toArray w fun e w' => ∃ v u' l' bk' hd', e = .returned v ∧ R v u' l' ∧ Agree u' w' ∧ (∀ k, k < w.heap.size → ¬ HoldsL bk hd l k → u' k = u k) ∧
      Frame0 w (HoldsL bk hd l) w' ∧ OwnsL w' u' bk' hd' l' ∧ ∀ b, HoldsL bk' hd' l' b → HoldsL bk hd l b ∨ w.heap.size ≤ b

theorem YldO.mono {P : Program} {L : Nat} {args : List Value} {u : View} {l : List PO} {R R' : Value → View → List PO → Prop} (h : YldO P L args u l R) (hr : ∀ v u' l', VLe u u' → R v u' l' → R' v u' l') : YldO P L args u l R' := by
  intro w bk hd hA hO
  obtain ⟨fn, tmps, assign, body, hy, hround⟩ := h w bk hd hA hO
  refine ⟨fn, tmps, assign, body, hy, hround.mono ?_⟩
  rintro e w' ⟨v, u', l', bk', hd', he, hR, hA', hu, rest⟩
  exact ⟨v, u', l', bk', hd', he, hr _ _ _ (hO.vle hA hu) hR, hA', hu, rest⟩

theorem do_yield {d : Nat} {ty : TypeId} {fo : Operand} {xs : List Operand} {ts : Array TypeId} {pos : String} {aft : Array Edge} {L : Nat} {vs : List Value} {ρ' : Env} (ids extra : List Nat) {l : List PO} (hfr : F.r = none)
    (hf : opv ρ fo = some (.v (.func (.yield L) #[] #[]))) (hvs : opvs ρ σ xs = some vs) (hn : Nat.blt d F.n = true) (hl : gvs σ ids = some l) (hp : Eng.subE ρ' ρ) (hnew : newIds ids extra σ ρ' = true) (hnd : nodupb ids = true) (hr : okRefs ids σ ρ' = true)
    (h : YldO F.P L vs u l fun v u' l' => VLe u u' → keepPins l l' ∧ K ((d, .v v) :: ρ') (zipO (ids ++ extra) l' ++ rms (ids ++ extra) σ) u') :
    DoesI F ⟨some d, .call { callee := .value fo, args := xs.toArray, argTypes := ts }, ty, pos, aft, none⟩ ρ σ u K := by
  intro bk hd a w Q hR N hN
  obtain ⟨fn, tmps, assign, body, hy, hround⟩ := h w _ _ hR.agree (hR.ownsL hl hnd)
  have hrun : (execOp a.eval ⟨some d, .call { callee := .value fo, args := xs.toArray, argTypes := ts }, ty, pos, aft, none⟩).run F.P w = .ok (.round L fn tmps assign body) w := by
    simp [execOp, resolve, hR.op hf, Deferred.ofValue, invoke, hR.ops hvs, hy]
  refine ⟨fun _ _ => trivial, ?_⟩
  rw [Oper.semAt_eq _ _ _ (by simp), hrun, hfr]
  refine ⟨fun hs => by simp [fw, Fence.wide] at hs, hround.mono ?_⟩
  rintro e w' ⟨v, u', l', bk', hd', rfl, hk, hA, hu, hw, hO, hN'⟩
  have hle : VLe u u' := (hR.ownsL hl hnd).vle hR.agree hu
  obtain ⟨hk1, hk2⟩ := hk hle
  simp only [newIds, Bool.and_eq_true, List.all_eq_true] at hnew
  obtain ⟨bk2, hd2, hR2, hb2, hw2⟩ := hR.called (ρ' := ρ') hl hnd hnew.1 (fun i hi hi2 => by
    have := hnew.2 i (posOf_extra hi hi2)
    simpa using this) (fun j i hj => posOf_append hj) hk1 hp hr hA hu hw hO hN'
  exact hN _ _ _ _ _ hk2 ⟨_, _, hR2.put (blt_lt hn) rfl⟩
end
end Go.Eng
