/- Texts for a law, part 2: they walk the functions that the law reaches, and state what holds of them; without conditions beyond each theorem's own. -/
import Derived.Test.YthkgcakpjknlbaaGreatDoorSartA
import Derived.RangeFuncRecord
import Derived.RangeFuncLeaves
import Derived.RangeFuncSeq
import Derived.OrdersIn
import Derived.Lib.ConvBytes
import Derived.Lib.FrozenHead
import Derived.Laws.BytesArg
import Derived.Deep.SlicePairs
import Derived.WideShapes
import Derived.DataReads
namespace Go.Eng
open Go Go.RowKit
set_option linter.unusedSimpArgs false
set_option linter.unusedVariables false
section
variable {F : Fx} {ρ : Env} {σ : Own} {u : View} {Q : Post} {bk : Nat → Option Nat} {hd : Nat → Value} {a : Act} {w : World} {ops : Array Oper} {fuel : Nat} {listed : Array Bool} {o : Oper} {K : Env → Own → View → Prop}
def DoesI (F : Fx) (o : Oper) (ρ : Env) (σ : Own) (u : View) (K : Env → Own → View → Prop) : Prop :=
 ∀ bk hd a w Q, RepAt F bk hd ρ σ u a w → ∀ N : Act → World → Prop, (∀ ρ' σ' u' a' w', K ρ' σ' u' → Rep F ρ' σ' u' a' w' → N a' w') → o.wpIn (fw F.r) 0 F.P a w N Q
theorem Does.toI (hnd : ∀ c, o.op ≠ .defer c) (h : Does F [] o ρ σ u K) : DoesI F o ρ σ u K :=
 fun bk hd a w Q hR N hN => owp_of_run hnd rfl (h bk hd a w Q hR N fun bk' hd' ρ' σ' u' a' w' hK hR' _ => hN _ _ _ _ _ hK ⟨bk', hd', hR'⟩)
def RI (F : Fx) (ops : Array Oper) (fuel : Nat) (listed : Array Bool) (ρ : Env) (σ : Own) (u : View) (Q : Post) : Prop :=
 ∀ a w, Rep F ρ σ u a w → wpAnyIn (fw F.r) 0 F.P .any ops (lift F Q) fuel listed a w
theorem wc_drawI {id : Nat} {l : List Oper} (hm : F.P.follows .mixedOrders = true) (h : RI F l.toArray l.toArray.size (Array.replicate l.toArray.size false) ρ σ u Q) : WC F (.region id l.toArray true) ρ σ u Q := by
 rintro a w ⟨bk, hd, hR⟩
 exact wpIn_region_any hm (h a _ ⟨bk, hd, hR.drew⟩)
theorem ri_end {ρ' : Env} (hr : Region.ready .any ops listed = []) (hs : subE ρ' ρ) (h : Q .normal ρ' σ u) : RI F ops fuel listed ρ σ u Q :=
 fun a w ⟨bk, hd, hR⟩ => wpAnyIn_done hr ⟨_, _, _, ⟨bk, hd, hR.subE hs⟩, h⟩ fuel
theorem RI.sub {ρ' : Env} (hs : subE ρ' ρ) (h : RI F ops fuel listed ρ' σ u Q) : RI F ops fuel listed ρ σ u Q :=
 fun a w ⟨bk, hd, hR⟩ => h a w ⟨bk, hd, hR.subE hs⟩
def noV : View := fun _ => none
theorem ri_takeX {i d : Nat} {sv : SV} {o : Oper} (hro : F.r = none) (hi : ops[i]? = some o) (hd' : o.dst = some d) (hs : Region.noSelect ops = true) (hf : Region.free .any ops listed i = true) (hr : (Region.ready .any ops listed).contains i = true) (hp : noPanic Q) (hn : Nat.blt d F.n = true)
  (hy : ∀ bk hd a w, RepAt F bk hd ρ σ u a w → ∃ x, SVal bk hd sv x ∧ YieldsFenced F.P ops o x a)
  (h : RI F ops fuel (listed.setIfInBounds i true) ((d, sv) :: ρ) σ u Q) : RI F ops (fuel + 1) listed ρ σ u Q := by
 rintro a w ⟨bk, hd, hR⟩
 obtain ⟨x, hx, hy⟩ := hy bk hd a w hR
 refine wpAnyIn_take (by simp [fw, hro]) hi hs hf hr (fun c a w hq => ?_) hy ?_
 ·
  obtain ⟨ρ, σ, u, _, hq⟩ := hq
  exact absurd hq (hp _ _ _ _)
 ·
  rw [hd']
  exact h _ w ⟨bk, hd, hR.put (blt_lt hn) hx⟩
theorem same_noV (w w' : World) : Same bk hd [] noV w w' := ⟨fun k o h => by simp [noV] at h, fun id p b h => by simp [gv] at h⟩
theorem ri_y {i d : Nat} {op : Op} {ty : TypeId} {pos : String} {aft : Array Edge} {sv : SV} (hro : F.r = none) (hi : ops[i]? = some ⟨some d, op, ty, pos, aft, none⟩) (hs : Region.noSelect ops = true) (hf : Region.free .any ops listed i = true) (hr : (Region.ready .any ops listed).contains i = true) (hp : noPanic Q)
  (hab : ∀ w ev, (⟨some d, op, ty, pos, aft, none⟩ : Oper).about F.P w ev = none)
  (hy : Yld F [] noV ρ σ u ⟨some d, op, ty, pos, aft, none⟩ sv) (hn : Nat.blt d F.n = true)
  (h : RI F ops fuel (listed.setIfInBounds i true) ((d, sv) :: ρ) σ u Q) : RI F ops (fuel + 1) listed ρ σ u Q :=
 ri_takeX hro hi rfl hs hf hr hp hn (fun bk hd a w hR => let ⟨x, hx, hrun⟩ := hy bk hd a w hR; ⟨x, hx, .inl ⟨rfl, fun w' => hrun w' (same_noV w w')⟩, fun w' => hab w' _⟩) h
theorem ri_y_on {i d j t : Nat} {b : Bool} {op : Op} {ty : TypeId} {pos : String} {aft : Array Edge} {sv : SV} (hro : F.r = none) (hi : ops[i]? = some ⟨some d, op, ty, pos, aft, some (j, b)⟩) (hj : (ops[j]?).bind (·.dst) = some t) (hg : opv ρ (.tmp t) = some (.v (.bool b)))
  (hs : Region.noSelect ops = true) (hf : Region.free .any ops listed i = true) (hr : (Region.ready .any ops listed).contains i = true) (hp : noPanic Q)
  (hab : ∀ w ev, (⟨some d, op, ty, pos, aft, some (j, b)⟩ : Oper).about F.P w ev = none)
  (hy : Yld F [] noV ρ σ u ⟨some d, op, ty, pos, aft, none⟩ sv) (hn : Nat.blt d F.n = true)
  (h : RI F ops fuel (listed.setIfInBounds i true) ((d, sv) :: ρ) σ u Q) : RI F ops (fuel + 1) listed ρ σ u Q :=
 ri_takeX hro hi rfl hs hf hr hp hn (fun bk hd a w hR => let ⟨x, hx, hrun⟩ := hy bk hd a w hR; ⟨x, hx, .inl ⟨by simp [Region.wanted, hR.yielded hj hg], fun w' => hrun w' (same_noV w w')⟩, fun w' => hab w' _⟩) h
def RIall (F : Fx) (ops : Array Oper) (fuel : Nat) (listed : Array Bool) (ρ : Env) (σ : Own) (u : View) (Q : Post) (is : List Nat) : Prop :=
 ∀ i ∈ is, ∀ a w, Rep F ρ σ u a w → wpOpIn (fw F.r) 0 F.P ops (lift F Q) i (wpAnyIn (fw F.r) 0 F.P .any ops (lift F Q) fuel (listed.setIfInBounds i true)) a w
theorem ri_all {is : List Nat} (hr : Region.ready .any ops listed = is) (hne : is.isEmpty = false) (h : RIall F ops fuel listed ρ σ u Q is) : RI F ops (fuel + 1) listed ρ σ u Q := by
 intro a w hR
 refine wpAnyIn_all hr (by intro e; rw [e] at hne; cases hne) fun i hi => h i hi a w hR
theorem riall_nil : RIall F ops fuel listed ρ σ u Q [] := fun i hi => by cases hi
theorem riall_cons {i : Nat} {is : List Nat} {o : Oper} (hi : ops[i]? = some o) (hg : o.guard = none)
  (h : DoesI F o ρ σ u fun ρ' σ' u' => RI F ops fuel (listed.setIfInBounds i true) ρ' σ' u' Q) (hr : RIall F ops fuel listed ρ σ u Q is) : RIall F ops fuel listed ρ σ u Q (i :: is) := by
 rintro j hj a w ⟨bk, hd, hR⟩
 rcases List.mem_cons.1 hj with e | hj
 ·
  subst e
  unfold wpOpIn
  simp only [hi]
  rw [if_pos (by simp [Region.wanted, hg])]
  exact h bk hd a w _ hR _ fun ρ' σ' u' a' w' hK hR' => hK a' w' hR'
 ·
  exact hr j hj a w ⟨bk, hd, hR⟩
theorem Zct {i j t : Nat} {b : Bool} {is : List Nat} {d : Option Nat} {op : Op} {ty : TypeId} {pos : String} {aft : Array Edge} (hi : ops[i]? = some ⟨d, op, ty, pos, aft, some (j, b)⟩) (hj : (ops[j]?).bind (·.dst) = some t) (hg : opv ρ (.tmp t) = some (.v (.bool b)))
  (hnd : ∀ c, op ≠ .defer c) (h : DoesI F ⟨d, op, ty, pos, aft, none⟩ ρ σ u fun ρ' σ' u' => RI F ops fuel (listed.setIfInBounds i true) ρ' σ' u' Q) (hr : RIall F ops fuel listed ρ σ u Q is) : RIall F ops fuel listed ρ σ u Q (i :: is) := by
 rintro k hk a w ⟨bk, hd, hR⟩
 rcases List.mem_cons.1 hk with e | hk
 ·
  subst e
  unfold wpOpIn
  simp only [hi]
  rw [if_pos (by simp [Region.wanted, hR.yielded hj hg])]
  have key := h bk hd a w (lift F Q) hR _ fun ρ' σ' u' a' w' hK hR' => hK a' w' hR'
  have e : (execOp a.eval ⟨d, op, ty, pos, aft, some (j, b)⟩) = execOp a.eval ⟨d, op, ty, pos, aft, none⟩ := by cases op <;> rfl
  refine ⟨fun f hf => trivial, ?_⟩
  have k2 := key.2
  rw [Oper.semAt_eq _ _ _ hnd] at k2 ⊢
  rw [e]
  exact k2
 ·
  exact hr k hk a w ⟨bk, hd, hR⟩
theorem ri_do {i : Nat} {o : Oper} (hi : ops[i]? = some o) (hg : o.guard = none) (hr : Region.ready .any ops listed = [i])
  (h : DoesI F o ρ σ u fun ρ' σ' u' => RI F ops fuel (listed.setIfInBounds i true) ρ' σ' u' Q) : RI F ops (fuel + 1) listed ρ σ u Q :=
 ri_all hr rfl (riall_cons hi hg h riall_nil)
theorem ri_do_on {i j t : Nat} {b : Bool} {d : Option Nat} {op : Op} {ty : TypeId} {pos : String} {aft : Array Edge} (hi : ops[i]? = some ⟨d, op, ty, pos, aft, some (j, b)⟩) (hj : (ops[j]?).bind (·.dst) = some t) (hg : opv ρ (.tmp t) = some (.v (.bool b))) (hr : Region.ready .any ops listed = [i]) (hnd : ∀ c, op ≠ .defer c)
  (h : DoesI F ⟨d, op, ty, pos, aft, none⟩ ρ σ u fun ρ' σ' u' => RI F ops fuel (listed.setIfInBounds i true) ρ' σ' u' Q) : RI F ops (fuel + 1) listed ρ σ u Q :=
 ri_all hr rfl (Zct hi hj hg hnd h riall_nil)
theorem y_index_eX {σS : Own} {uS uX : View} {o : Oper} {t e : TypeId} {x y : Operand} {ad : Option Addr} {len cap sz by' : Nat} {xs : List Value} {k : IntKind} {i : Int} {j : Nat} (ho : o.op = .indexAddr t x y) (ht : tyS F.P t = some (e, sz, by'))
  (hx : opv ρ x = some (.v (.slice ad len cap))) (hy : opv ρ y = some (.v (.int k i))) (hs : SlC uX ad len cap sz xs) (hj : i = (j : Int)) (h1 : j < len) : Yld F σS uS ρ σ u o (.e (.slice ad len cap) sz j 0) := by
 intro bk hd a w hR
 subst hj
 obtain ⟨hxl, _, _, hrest⟩ := hs
 obtain ⟨b2, off2, c, T, fr, rfl, hub, hcut⟩ := hrest (by omega)
 refine ⟨_, ⟨b2, off2, len, cap, rfl, rfl⟩, fun w' _ => ?_⟩
 simp [execOp, ho, hR.op hx, hR.op hy, run_indexAt_slice ht (Int.natCast_nonneg j) (Int.ofNat_lt.2 h1)]
def YldO (P : Program) (L : Nat) (args : List Value) (u : View) (l : List PO) (R : Value → View → List PO → Prop) : Prop :=
 ∀ w bk hd, Agree u w → OwnsL w u bk hd l →
  YieldAt (fw none) 0 P L args.toArray w fun e w' => ∃ v u' l' bk' hd', e = .returned v ∧ R v u' l' ∧ Agree u' w' ∧ (∀ k, k < w.heap.size → ¬ HoldsL bk hd l k → u' k = u k) ∧
   Frame0 w (HoldsL bk hd l) w' ∧ OwnsL w' u' bk' hd' l' ∧ ∀ b, HoldsL bk' hd' l' b → HoldsL bk hd l b ∨ w.heap.size ≤ b
theorem YldO.mono {P : Program} {L : Nat} {args : List Value} {u : View} {l : List PO} {R R' : Value → View → List PO → Prop} (h : YldO P L args u l R) (hr : ∀ v u' l', VLe u u' → R v u' l' → R' v u' l') : YldO P L args u l R' := by
 intro w bk hd hA hO
 obtain ⟨fn, tmps, assign, body, hy, hround⟩ := h w bk hd hA hO
 refine ⟨fn, tmps, assign, body, hy, hround.mono ?_⟩
 rintro e w' ⟨v, u', l', bk', hd', he, hR, hA', hu, rest⟩
 exact ⟨v, u', l', bk', hd', he, hr _ _ _ (hO.vle hA hu) hR, hA', hu, rest⟩
theorem do_yield {d : Nat} {ty : TypeId} {fo : Operand} {xs : List Operand} {ts : Array TypeId} {pos : String} {aft : Array Edge} {L : Nat} {vs : List Value} {ρ' : Env} (ids extra : List Nat) {l : List PO} (hfr : F.r = none)
  (hf : opv ρ fo = some (.v (.func (.yield L) #[] #[]))) (hvs : opvs ρ σ xs = some vs) (hn : Nat.blt d F.n = true) (hl : gvs σ ids = some l) (hp : Eng.subE ρ' ρ) (hnew : newIds ids extra σ ρ' = true) (hnd : nodupb ids = true) (hr : okRefs ids σ ρ' = true)
  (h : YldO F.P L vs u l fun v u' l' => VLe u u' → keepPins l l' ∧ K ((d, .v v) :: ρ') (zipO (ids ++ extra) l' ++ rms (ids ++ extra) σ) u') :
  DoesI F ⟨some d, .call { callee := .value fo, args := xs.toArray, argTypes := ts }, ty, pos, aft, none⟩ ρ σ u K := by
 intro bk hd a w Q hR N hN
 obtain ⟨fn, tmps, assign, body, hy, hround⟩ := h w _ _ hR.agree (hR.ownsL hl hnd)
 have hrun : (execOp a.eval ⟨some d, .call { callee := .value fo, args := xs.toArray, argTypes := ts }, ty, pos, aft, none⟩).run F.P w = .ok (.round L fn tmps assign body) w := by
  simp [execOp, resolve, hR.op hf, Deferred.ofValue, invoke, hR.ops hvs, hy]
 refine ⟨fun _ _ => trivial, ?_⟩
 rw [Oper.semAt_eq _ _ _ (by simp), hrun, hfr]
 refine ⟨fun hs => by simp [fw, Fence.wide] at hs, hround.mono ?_⟩
 rintro e w' ⟨v, u', l', bk', hd', rfl, hk, hA, hu, hw, hO, hN'⟩
 have hle : VLe u u' := (hR.ownsL hl hnd).vle hR.agree hu
 obtain ⟨hk1, hk2⟩ := hk hle
 simp only [newIds, Bool.and_eq_true, List.all_eq_true] at hnew
 obtain ⟨bk2, hd2, hR2, hb2, hw2⟩ := hR.called (ρ' := ρ') hl hnd hnew.1 (fun i hi hi2 => by
  have := hnew.2 i (posOf_extra hi hi2)
  simpa using this) (fun j i hj => posOf_append hj) hk1 hp hr hA hu hw hO hN'
 exact hN _ _ _ _ _ hk2 ⟨_, _, hR2.put (blt_lt hn) rfl⟩
end
end Go.Eng
namespace Go.Eng
open Go Go.RowKit
set_option linter.unusedSimpArgs false
set_option linter.unusedVariables false
def LoopY {α : Type} (J : List α → List PO) (L Dd : Nat) (rec : Loop) (pre : List α) (H : Nat → Prop) (I : World → Prop) : Prop :=
 ∃ bk hd, H = (fun k => HoldsL bk hd (J pre) k ∨ k = L ∨ k = Dd) ∧
  I = (fun w : World => (∀ (i : Nat) (p : PO), (J pre)[i]? = some p → ownOk w (bk i) (hd i) p) ∧ w.heap[L]? = some (.loop rec) ∧ w.heap[Dd]? = some (.deferred (some []))) ∧
  (∀ (i j : Nat) (p q : PO) (b : Nat), (J pre)[i]? = some p → (J pre)[j]? = some q → p.2.holds (bk i) (hd i) b → q.2.holds (bk j) (hd j) b → i = j) ∧ (∀ b, HoldsL bk hd (J pre) b → b ≠ L ∧ b ≠ Dd)
abbrev envV (ρb : List (Nat × Value)) : Env := ρb.map fun q => (q.1, SV.v q.2)
theorem gv_envV : ∀ {ρb : List (Nat × Value)} {k : Nat} {sv : SV}, gv (envV ρb) k = some sv → ∃ x, sv = .v x ∧ gv ρb k = some x
 | [], k, sv, h => by simp [envV, gv] at h
 | (j, y) :: r, k, sv, h => by
  simp only [envV, List.map_cons, gv] at h ⊢
  split at h
  ·
   rename_i hb
   cases h
   exact ⟨y, rfl, rfl⟩
  ·
   rename_i hb
   exact gv_envV (ρb := r) h
theorem putObj_size (w : World) (l : Nat) (o : Obj) : (w.putObj l o).heap.size = w.heap.size := by simp [World.putObj]
theorem round_of {α : Type} {P : Program} {n p : Nat} {J : List α → List PO} {L Dd : Nat} {rec : Loop} {asg body : Code} {pre : List α} {x : α} {v : Value} {u' : View} {H : Nat → Prop} {I : World → Prop} {ρb : List (Nat × Value)} (M : Env → Own → View → Prop)
  (hps : rec.params = #[p]) (has : rec.assign = asg) (hbo : rec.body = body) (hst : rec.state = .ready) (hpe : rec.pending = none) (hsz : rec.tmps.size = n) (hpn : p < n) (hLD : L ≠ Dd) (htm : ∀ k x, gv ρb k = some x → rec.tmps[k]? = some x)
  (hasg : ∀ (w0 : World) (D : Nat → Prop), (∀ k o, u' k = some o → k < w0.heap.size) → WC ⟨P, n, w0, D, u', [], some L⟩ asg ((p, .v v) :: envV ρb) (zipO (inIds 1000 (J pre)) (J pre)) u' fun e ρ σ u'' => e = .normal ∧ ∃ ρ' σ', subE ρ' ρ ∧ subO σ' σ ∧ M ρ' σ' u'')
  (hbody : ∀ (ρ : Env) (σ : Own) (u'' : View) (w0 : World) (D : Nat → Prop), M ρ σ u'' → WC ⟨P, n, w0, D, u'', [], some L⟩ body ρ σ u'' fun e ρ σ u3 => e = .normal ∧ ∃ ids, gvs σ ids = some (J (pre ++ [x])) ∧ nodupb ids = true)
  (hY : LoopY J L Dd rec pre H I) :
  YldO P L [v] u' [(none, .fg H I)] fun r u'' l' => r = .bool true ∧ ∃ H' I', l' = [(none, .fg H' I')] ∧ LoopY J L Dd rec (pre ++ [x]) H' I' := by
 intro w bkx hdx hA hO
 obtain ⟨bk, hd, rfl, rfl, hinj, hnot⟩ := hY
 obtain ⟨hI1, hI2⟩ := (hO.own 0 _ rfl).1
 obtain ⟨hown, hL, hDd⟩ := hI1 w (fun _ _ => rfl)
 have hfree : ∀ b, (HoldsL bk hd (J pre) b ∨ b = L ∨ b = Dd) → u' b = none := fun b hb => hO.free 0 _ b rfl hb
 have hLlt : L < w.heap.size := hI2 L (.inr (.inl rfl))
 have hDlt : Dd < w.heap.size := hI2 Dd (.inr (.inr rfl))
 have hnL : ¬ HoldsL bk hd (J pre) L := fun h => (hnot L h).1 rfl
 have hnD : ¬ HoldsL bk hd (J pre) Dd := fun h => (hnot Dd h).2 rfl
 have hy := run_yield (P := P) (args := #[v]) hL (by simp [hps])
 rw [has, hbo] at hy
 refine ⟨_, _, _, _, hy, roundIn_of_wpIn trivial ?_⟩
 obtain ⟨tm, htm'⟩ : ∃ tm, (rec.params.zip #[v]).foldl (fun tmps (x : Tmp × Value) => tmps.setIfInBounds x.1 x.2) rec.tmps = tm := ⟨_, rfl⟩
 have htm2 : tm = rec.tmps.setIfInBounds p v := by rw [← htm', hps]; simp
 have hz : ∀ id q, gv (zipO (inIds 1000 (J pre)) (J pre)) id = some q → (J pre)[id - 1000]? = some q ∧ 1000 ≤ id := by
  intro id q hi
  obtain ⟨i, h1, h2⟩ := gv_zipO hi
  have := posOf_inIds h1
  subst this
  exact ⟨by rw [Nat.add_sub_cancel_left]; exact h2, by omega⟩
 have hRep : RepAt ⟨P, n, w, HoldsL bk hd (J pre), u', [], some L⟩ (fun j => bk (j - 1000)) (fun j => hd (j - 1000)) ((p, .v v) :: envV ρb) (zipO (inIds 1000 (J pre)) (J pre)) u' { tmps := tm, defers := [] } w := by
  refine ⟨by rw [htm2]; simpa using hsz, rfl, Frame0.refl _ _, hA, fun _ _ _ => rfl, ?_, ?_, ?_, ?_⟩
  ·
   intro k sv hk
   simp only [gv] at hk
   split at hk
   ·
    rename_i hb
    cases hk
    have := Nat.eq_of_beq_eq_true hb
    subst this
    refine ⟨v, ?_, rfl⟩
    rw [htm2]
    simp [hsz, hpn]
   ·
    rename_i hb
    obtain ⟨y, rfl, hg⟩ := gv_envV hk
    refine ⟨y, ?_, rfl⟩
    have hne : p ≠ k := fun e => by simp [e] at hb
    rw [htm2, Array.getElem?_setIfInBounds_ne hne]
    exact htm k y hg
  ·
   intro id q hi
   exact hown _ q (hz id q hi).1
  ·
   intro id q b hi hb
   have h1 := (hz id q hi).1
   exact ⟨.inl ⟨_, q, h1, hb⟩, hfree b (.inl ⟨_, q, h1, hb⟩)⟩
  ·
   intro id id' q q' b hi hi' hb hb'
   obtain ⟨h1, _⟩ := hz id q hi
   obtain ⟨h1', _⟩ := hz id' q' hi'
   have := hinj _ _ q q' b h1 h1' hb hb'
   omega
 have hgo := hasg w (HoldsL bk hd (J pre)) (fun k o hk => hA.lt hk) { tmps := tm, defers := [] } w ⟨_, _, hRep⟩
 rw [← htm'] at hgo
 refine Go.wpIn_mono hgo ?_
 rintro e a1 w1 ⟨ρ1, σ1, u1, hR1', rfl, ρ', σ', hs, ho, hM⟩
 obtain ⟨bk1, hd1, hR1⟩ := hR1'.sub hs ho
 have hf1 := hR1.frame
 have hsz1 : w.heap.size ≤ w1.heap.size := hf1.2.2.2.1
 have hL1 : w1.heap[L]? = some (.loop rec) := (hf1.2.2.2.2 L hLlt hnL).trans hL
 have hD1 : w1.heap[Dd]? = some (.deferred (some [])) := (hf1.2.2.2.2 Dd hDlt hnD).trans hDd
 have hu1L : u1 L = none := (hR1.uold L hLlt hnL).trans (hfree L (.inr (.inl rfl)))
 have hu1D : u1 Dd = none := (hR1.uold Dd hDlt hnD).trans (hfree Dd (.inr (.inr rfl)))
 have hhold1 : ∀ id q b, gv σ' id = some q → q.2.holds (bk1 id) (hd1 id) b → HoldsL bk hd (J pre) b ∨ w.heap.size ≤ b := fun id q b hi hb => (hR1.fresh id q b hi hb).1
 refine ⟨_, run_beginRound hL1 hst, ?_⟩
 obtain ⟨w2, hw2⟩ : ∃ w2, w1.putObj L (.loop { rec with state := .busy }) = w2 := ⟨_, rfl⟩
 rw [hw2]
 have hs2 : w2.heap.size = w1.heap.size := by rw [← hw2]; exact putObj_size _ _ _
 have hw2o : ∀ k, k ≠ L → w2.heap[k]? = w1.heap[k]? := fun k hk => by rw [← hw2]; exact World.putObj_heap_other hk
 have hw2L : w2.heap[L]? = some (.loop { rec with state := .busy }) := by rw [← hw2]; exact World.putObj_heap_same (Nat.lt_of_lt_of_le hLlt hf1.2.2.2.1)
 have hR2 : RepAt ⟨P, n, w2, fun b => ∃ id q, gv σ' id = some q ∧ q.2.holds (bk1 id) (hd1 id) b, u1, [], some L⟩ bk1 hd1 ρ' σ' u1 a1 w2 := by
  refine ⟨hR1.size, hR1.defers, Frame0.refl _ _, fun k o hk => ?_, fun _ _ _ => rfl, hR1.slot, fun id q hi => ?_, fun id q b hi hb => ⟨.inl ⟨id, q, hi, hb⟩, (hR1.fresh id q b hi hb).2⟩, hR1.inj⟩
  ·
   rw [hw2o k (fun e => by rw [e, hu1L] at hk; cases hk)]; exact hR1.agree k o hk
  ·
   refine (hR1.own id q hi).grow fun k hk => hw2o k fun e => ?_
   subst e
   rcases hhold1 id q k hi hk with h | h
   ·
    exact hnL h
   ·
    omega
 refine Go.wpIn_mono (hbody ρ' σ' u1 w2 _ hM a1 w2 ⟨_, _, hR2⟩) ?_
 rintro e a3 w3 ⟨ρ3, σ3, u3, ⟨bk3, hd3, hR3⟩, rfl, ids, hl, hnd⟩
 have hf3 := hR3.frame
 have hDb : ∀ b, b < w.heap.size → ¬ HoldsL bk hd (J pre) b → ¬ ∃ id q, gv σ' id = some q ∧ q.2.holds (bk1 id) (hd1 id) b := by
  rintro b hb hn ⟨id, q, hi, hh⟩
  rcases hhold1 id q b hi hh with h | h
  ·
   exact hn h
  ·
   omega
 have hLlt2 : L < w2.heap.size := by rw [hs2]; exact Nat.lt_of_lt_of_le hLlt hf1.2.2.2.1
 have hDlt2 : Dd < w2.heap.size := by rw [hs2]; exact Nat.lt_of_lt_of_le hDlt hf1.2.2.2.1
 have hL3 : w3.heap[L]? = some (.loop { rec with state := .busy }) := (hf3.2.2.2.2 L hLlt2 (hDb L hLlt hnL)).trans hw2L
 have hD3 : w3.heap[Dd]? = some (.deferred (some [])) := (hf3.2.2.2.2 Dd hDlt2 (hDb Dd hDlt hnD)).trans ((hw2o Dd (Ne.symm hLD)).trans hD1)
 have hu3L : u3 L = none := (hR3.uold L hLlt2 (hDb L hLlt hnL)).trans hu1L
 have hu3D : u3 Dd = none := (hR3.uold Dd hDlt2 (hDb Dd hDlt hnD)).trans hu1D
 have hrun := run_endRound (P := P) none hL3
 refine ⟨_, _, hrun, ?_⟩
 obtain ⟨w4, hw4⟩ : ∃ w4, w3.putObj L (.loop { ({ rec with state := .busy } : Loop) with state := if (none : Option Code).isNone then .ready else .done, pending := none }) = w4 := ⟨_, rfl⟩
 rw [hw4]
 have hrec : ({ ({ rec with state := .busy } : Loop) with state := if (none : Option Code).isNone then .ready else .done, pending := none } : Loop) = rec := by
  cases rec; simp_all
 rw [hrec] at hw4
 have hs4 : w4.heap.size = w3.heap.size := by rw [← hw4]; exact putObj_size _ _ _
 have hw4o : ∀ k, k ≠ L → w4.heap[k]? = w3.heap[k]? := fun k hk => by rw [← hw4]; exact World.putObj_heap_other hk
 have hsz3 : w2.heap.size ≤ w3.heap.size := hf3.2.2.2.1
 have hw4L : w4.heap[L]? = some (.loop rec) := by rw [← hw4]; exact World.putObj_heap_same (by omega)
 have hO3 := hR3.ownsL hl hnd
 have hnew : ∀ b, HoldsL (fun i => ((ids[i]?).bind bk3)) (fun i => ((ids[i]?).map hd3).getD undef) (J (pre ++ [x])) b → HoldsL bk hd (J pre) b ∨ w.heap.size ≤ b := by
  rintro b ⟨i, q, hi, hb⟩
  obtain ⟨id, h1, h2⟩ := gvs_get hl i q hi
  have hb' : q.2.holds (bk3 id) (hd3 id) b := by simpa [h1] using hb
  rcases (hR3.fresh id q b h2 hb').1 with ⟨id2, q2, h3, h4⟩ | h3
  ·
   exact hhold1 id2 q2 b h3 h4
  ·
   have h5 : w2.heap.size ≤ b := h3
   exact .inr (by omega)
 have hne : ∀ b, HoldsL (fun i => ((ids[i]?).bind bk3)) (fun i => ((ids[i]?).map hd3).getD undef) (J (pre ++ [x])) b → b ≠ L ∧ b ≠ Dd := by
  intro b hb
  rcases hnew b hb with h | h
  ·
   exact hnot b h
  ·
   exact ⟨by omega, by omega⟩
 have hown4 : ∀ (i : Nat) (q : PO), (J (pre ++ [x]))[i]? = some q → ownOk w4 ((ids[i]?).bind bk3) (((ids[i]?).map hd3).getD undef) q := fun i q hi =>
  (hO3.own i q hi).grow fun k hk => hw4o k (hne k ⟨i, q, hi, hk⟩).1
 refine ⟨.bool true, u3, [(none, .fg (fun k => HoldsL (fun i => ((ids[i]?).bind bk3)) (fun i => ((ids[i]?).map hd3).getD undef) (J (pre ++ [x])) k ∨ k = L ∨ k = Dd) (fun w : World => (∀ (i : Nat) (p : PO), (J (pre ++ [x]))[i]? = some p → ownOk w ((ids[i]?).bind bk3) (((ids[i]?).map hd3).getD undef) p) ∧ w.heap[L]? = some (.loop rec) ∧ w.heap[Dd]? = some (.deferred (some []))))], fun _ => none, fun _ => undef, rfl, ⟨rfl, _, _, rfl, _, _, rfl, rfl, hO3.inj, hne⟩, ?_, ?_, ?_, ⟨?_, ?_, ?_⟩, ?_⟩
 ·
  intro k o hk
  rw [hw4o k (fun e => by rw [e, hu3L] at hk; cases hk)]
  exact hR3.agree k o hk
 ·
  intro k hk hn
  have hnk : ¬ HoldsL bk hd (J pre) k := fun h => hn ⟨0, _, rfl, .inl h⟩
  have hk2 : k < w2.heap.size := by omega
  exact (hR3.uold k hk2 (hDb k hk hnk)).trans (hR1.uold k hk hnk)
 ·
  refine ⟨?_, ?_, ?_, ?_, ?_⟩
  ·
   rw [← hw4]; exact hf3.1.trans (by rw [← hw2]; exact hf1.1)
  ·
   rw [← hw4]; exact hf3.2.1.trans (by rw [← hw2]; exact hf1.2.1)
  ·
   rw [← hw4]; exact hf3.2.2.1.trans (by rw [← hw2]; exact hf1.2.2.1)
  ·
   omega
  ·
   intro k hk hn
   have hnk : ¬ HoldsL bk hd (J pre) k := fun h => hn ⟨0, _, rfl, .inl h⟩
   have hkL : k ≠ L := fun e => hn ⟨0, _, rfl, .inr (.inl e)⟩
   have hk2 : k < w2.heap.size := by omega
   exact (hw4o k hkL).trans ((hf3.2.2.2.2 k hk2 (hDb k hk hnk)).trans ((hw2o k hkL).trans (hf1.2.2.2.2 k hk hnk)))
 ·
  intro i q hi
  obtain rfl : i = 0 := by
   cases i with
   | zero => rfl
   | succ i => simp at hi
  simp only [List.getElem?_cons_zero, Option.some.injEq] at hi
  subst hi
  refine ⟨⟨fun w5 h5 => ⟨fun i q hi => (hown4 i q hi).grow fun k hk => h5 k (.inl ⟨i, q, hi, hk⟩), (h5 L (.inr (.inl rfl))).trans hw4L, (h5 Dd (.inr (.inr rfl))).trans ((hw4o Dd (Ne.symm hLD)).trans hD3)⟩, ?_⟩, by simp⟩
  rintro k (⟨i, q, hi, hk⟩ | rfl | rfl)
  ·
   exact (hown4 i q hi).lt hk
  ·
   omega
  ·
   omega
 ·
  intro i q b hi hb
  obtain rfl : i = 0 := by
   cases i with
   | zero => rfl
   | succ i => simp at hi
  simp only [List.getElem?_cons_zero, Option.some.injEq] at hi
  subst hi
  rcases hb with ⟨i, q, hi, hk⟩ | rfl | rfl
  ·
   exact hO3.free i q b hi hk
  ·
   exact hu3L
  ·
   exact hu3D
 ·
  intro i j p q b hi hj _ _
  cases i with
  | succ i => simp at hi
  | zero =>
   cases j with
   | succ j => simp at hj
   | zero => rfl
 ·
  rintro b ⟨i, q, hi, hb⟩
  obtain rfl : i = 0 := by
   cases i with
   | zero => rfl
   | succ i => simp at hi
  simp only [List.getElem?_cons_zero, Option.some.injEq] at hi
  subst hi
  rcases hb with h | h | h
  ·
   rcases hnew b h with h | h
   ·
    exact .inl ⟨0, _, rfl, .inl h⟩
   ·
    exact .inr h
  ·
   exact .inl ⟨0, _, rfl, .inr (.inl h)⟩
  ·
   exact .inl ⟨0, _, rfl, .inr (.inr h)⟩
def seqs : List Code → Code → Code
 | [], c => c
 | a :: as, c => .seq a (seqs as c)
def WCs (F : Fx) : List Code → Env → Own → View → (Env → Own → View → Prop) → Prop
 | [], ρ, σ, u, K => K ρ σ u
 | c :: cs, ρ, σ, u, K => WC F c ρ σ u fun e ρ' σ' u' => e = .normal ∧ WCs F cs ρ' σ' u' K
theorem wcs_wp {F : Fx} {c : Code} {Q : Exit → Act → World → Prop} {K : Env → Own → View → Prop} (hc : ∀ ρ σ u a w, K ρ σ u → Rep F ρ σ u a w → c.wpIn (fw F.r) 0 F.P Q a w) :
  ∀ (pre : List Code) (ρ : Env) (σ : Own) (u : View), WCs F pre ρ σ u K → ∀ a w, Rep F ρ σ u a w → (seqs pre c).wpIn (fw F.r) 0 F.P Q a w
 | [], ρ, σ, u, h, a, w, hR => hc ρ σ u a w h hR
 | b :: bs, ρ, σ, u, h, a, w, hR => by
  refine wpIn_seq (Go.wpIn_mono (h a w hR) ?_)
  rintro e a2 w2 ⟨ρ2, σ2, u2, hR2, rfl, h2⟩
  exact wcs_wp hc bs ρ2 σ2 u2 h2 a2 w2 hR2
theorem FnP.intro_range {α : Type} {P : Program} {f : FuncId} {fn : Func} {pre : List Code} {c2 c3 asg body : Code} {blk p : Nat} {g : Operand} {args : List Value} {u : View} {R : Value → View → Prop} (rs : List ResultVar) (V : View → α → Value → Prop) (K : Env → Own → View → Prop)
  (hf : P.funcs[f]? = some fn) (hb : fn.body = some (seqs pre (.seq (.seq c2 (.block blk (.rangeFunc g #[p] asg body))) c3))) (hrs : fn.results = rs.toArray) (hn : Nat.ble args.length fn.ntmps = true) (hpn : Nat.blt p fn.ntmps = true)
  (h0 : ∀ (w0 : World) (D : Nat → Prop), (∀ k o, u k = some o → k < w0.heap.size) → WCs ⟨P, fn.ntmps, w0, D, u, [], none⟩ pre (initE 0 args) [] u fun ρ σ u' => WC ⟨P, fn.ntmps, w0, D, u, [], none⟩ c2 ρ σ u' fun e ρ σ u'' => e = .normal ∧ ∃ ρ' σ', subE ρ' ρ ∧ subO σ' σ ∧ K ρ' σ' u'')
  (h1 : ∀ (ρ : Env) (σ : Own) (u1 : View), VLe u u1 → K ρ σ u1 → ∃ (gf : Nat) (lb : List Value) (ids : List Nat) (J : List α → List PO) (xs : List α) (ρb : List (Nat × Value)) (ρ3 : Env) (M : List α → α → Env → Own → View → Prop),
   opv ρ g = some (.v (.func (.func gf) #[] lb.toArray)) ∧ canCall P gf = true ∧ gvs σ ids = some (J []) ∧ nodupb ids = true ∧ (∀ k x, gv ρb k = some x → (gv ρ k).bind (svV σ) = some x) ∧
   subE ρ3 ρ ∧ okRefs ids σ ρ3 = true ∧ keepPins (J []) (J xs) ∧ newIds ids [900] σ ρ3 = true ∧
   (∀ (L : Nat) (Y : List α → (Nat → Prop) → (World → Prop) → Prop), (∀ pre H I, Y pre H I → ∀ u' x v, VLe u1 u' → V u' x v → YldO P L [v] u' [(none, .fg H I)] fun r u'' l' => r = .bool true ∧ ∃ H' I', l' = [(none, .fg H' I')] ∧ Y (pre ++ [x]) H' I') →
    ∀ H I, Y [] H I → FnO P gf (.func (.yield L) #[] #[] :: lb) u1 [(none, .fg H I)] fun _ _ l' => ∃ H' I', l' = [(none, .fg H' I')] ∧ Y xs H' I') ∧
   (∀ (L : Nat) (pre : List α) (x : α) (v : Value) (u' : View) (w0 : World) (D : Nat → Prop), VLe u1 u' → V u' x v → (∀ k o, u' k = some o → k < w0.heap.size) → WC ⟨P, fn.ntmps, w0, D, u', [], some L⟩ asg ((p, .v v) :: envV ρb) (zipO (inIds 1000 (J pre)) (J pre)) u' fun e ρ σ u'' => e = .normal ∧ ∃ ρ' σ', subE ρ' ρ ∧ subO σ' σ ∧ M pre x ρ' σ' u'') ∧
   (∀ (L : Nat) (pre : List α) (x : α) (ρ : Env) (σ : Own) (u'' : View) (w0 : World) (D : Nat → Prop), M pre x ρ σ u'' → WC ⟨P, fn.ntmps, w0, D, u'', [], some L⟩ body ρ σ u'' fun e ρ σ u3 => e = .normal ∧ ∃ ids, gvs σ ids = some (J (pre ++ [x])) ∧ nodupb ids = true) ∧
   (∀ (w0 : World) (D : Nat → Prop) (df : List Deferred) (dH : Nat → Prop) (dI : World → Prop) (u2 : View), VLe u1 u2 → WC ⟨P, fn.ntmps, w0, D, u, df, none⟩ c3 ρ3 (zipO (ids ++ [900]) (J xs ++ [(none, .fg dH dI)]) ++ rms (ids ++ [900]) σ) u2 fun e ρ' σ' u' => Fin P rs R e ρ' (Eng.rm 900 σ') u' ∧ gv σ' 900 = some (none, .fg dH dI))) :
  FnP P f args u R := by
 intro w bk0 hd0 hA hO
 have hinit : Rep ⟨P, fn.ntmps, w, HoldsL bk0 hd0 [], u, [], none⟩ (initE 0 args) [] u { tmps := args.toArray ++ Array.replicate (fn.ntmps - args.toArray.size) undef, defers := [] } w := by
  refine ⟨fun _ => none, fun _ => undef, by have := Nat.le_of_ble_eq_true hn; simp; omega, rfl, Frame0.refl _ _, hA, fun _ _ _ => rfl, ?_, by simp [gv], by simp [gv], by simp [gv]⟩
  intro k sv hk
  obtain ⟨x, j, rfl, rfl, hj⟩ := gv_initE args 0 k sv hk
  refine ⟨x, ?_, rfl⟩
  have hlt : j < args.length := (List.getElem?_eq_some_iff.1 hj).1
  simp [Array.getElem?_append, hlt]; exact (List.getElem?_eq_some_iff.1 hj).2
 have hnoH : ∀ b, ¬ HoldsL bk0 hd0 [] b := fun b ⟨i, p, hi, _⟩ => by simp at hi
 refine (callsIn_wide (n := 0)).1 (callsIn_of_wp_marks hf hb trivial ?_ rfl)
 refine wcs_wp (F := ⟨P, fn.ntmps, w, HoldsL bk0 hd0 [], u, [], none⟩) (fun ρ σ u1 a1 w1 hc2 hRc => ?_) pre _ _ _ (h0 w _ (fun k o hk => hA.lt hk)) _ w hinit
 refine wpIn_seq (wpIn_seq (Go.wpIn_mono (hc2 a1 w1 hRc) ?_))
 rintro e a1 w1 ⟨ρ', σ', u1, hR', rfl, ρ, σ, hsub1, hsub2, hK⟩
 obtain ⟨bk, hd, hR⟩ := hR'.sub hsub1 hsub2
 have hle : VLe u u1 := fun k o hk => (hR.uold k (hA.lt hk) (hnoH k)).trans hk
 obtain ⟨gf, lb, ids, J, xs, ρb, ρ3, M, hg, hc, hl, hnd, hρb, hρ3, hok3, hkp, hnew, hit, hasg, hbody, hrest⟩ := h1 ρ σ u1 hle hK
 refine wpIn_block (wpIn_rangeFunc ?_)
 intro fnid _
 obtain ⟨rec, hrec⟩ : ∃ rec : Loop, rec = { state := .ready, pending := none, fn := fnid, tmps := a1.tmps, params := #[p], assign := asg, body := body, defers := w1.heap.size } := ⟨_, rfl⟩
 obtain ⟨W1, hW1⟩ : ∃ W1, (w1.alloc (.deferred (some []))).alloc (.loop rec) = W1 := ⟨_, rfl⟩
 have hL1 : W1.heap[w1.heap.size + 1]? = some (.loop rec) := by
  rw [← hW1]; have := World.alloc_heap_new (w1.alloc (.deferred (some []))) (.loop rec); rwa [World.size_alloc] at this
 have hD1 : W1.heap[w1.heap.size]? = some (.deferred (some [])) := by
  rw [← hW1]; exact (Below.heap_alloc _ _ _ (by simp)).trans (World.alloc_heap_new w1 _)
 have hs1 : W1.heap.size = w1.heap.size + 2 := by rw [← hW1]; simp
 have hold1 : ∀ k, k < w1.heap.size → W1.heap[k]? = w1.heap[k]? := fun k hk => by
  rw [← hW1]; exact (Below.heap_alloc _ _ _ (by simp; omega)).trans (Below.heap_alloc _ _ _ hk)
 have hOw := hR.ownsL hl hnd
 have hltH : ∀ b, HoldsL (fun i => ((ids[i]?).bind bk)) (fun i => ((ids[i]?).map hd).getD undef) (J []) b → b < w1.heap.size := fun b ⟨i, q, hi, hb⟩ => (hOw.own i q hi).lt hb
 refine ⟨w1.heap.size + 1, [{ target := .collected w1.heap.size, args := #[] }], W1, { target := .fn (.func gf) lb.toArray, args := #[.func (.yield (w1.heap.size + 1)) #[] #[]] }, W1, gf, (.func (.yield (w1.heap.size + 1)) #[] #[] :: lb).toArray, W1, ?_, ?_, fun _ _ => trivial, ?_, fun hs => by simp [fw, Fence.wide] at hs, ?_⟩
 ·
  rw [← hW1, hrec]; exact run_enterLoop_outer _ _ _ _ _
 ·
  simp [resolve, hR.op hg, Deferred.ofValue]
  rfl
 ·
  simp [invoke, run_callFunc hc]
 have hrounds : ∀ pre H I, LoopY J (w1.heap.size + 1) w1.heap.size rec pre H I → ∀ u' x v, VLe u1 u' → V u' x v → YldO P (w1.heap.size + 1) [v] u' [(none, .fg H I)] fun r u'' l' => r = .bool true ∧ ∃ H' I', l' = [(none, .fg H' I')] ∧ LoopY J (w1.heap.size + 1) w1.heap.size rec (pre ++ [x]) H' I' := by
  intro pre H I hY u' x v hv hV
  exact round_of (M pre x) (by rw [hrec]) (by rw [hrec]) (by rw [hrec]) (by rw [hrec]) (by rw [hrec]) (by rw [hrec]; exact hR.size) (blt_lt hpn) (by omega) (fun k y hk => by
   rw [hrec]
   obtain ⟨sv, e1, e2⟩ := Option.bind_eq_some_iff.1 (hρb k y hk)
   obtain ⟨z, hz, hs⟩ := hR.slot k sv e1
   have := hR.svV hs e2
   subst this
   exact hz) (fun w0 D hlt => hasg _ pre x v u' w0 D hv hV hlt) (fun ρ σ u'' w0 D hM => hbody _ pre x ρ σ u'' w0 D hM) hY
 have hA1 : Agree u1 W1 := fun k o hk => (hold1 k (hR.agree.lt hk)).trans (hR.agree k o hk)
 have hO1 : OwnsL W1 u1 (fun _ => none) (fun _ => undef) [((none, OO.fg (fun k => HoldsL (fun i => ((ids[i]?).bind bk)) (fun i => ((ids[i]?).map hd).getD undef) (J []) k ∨ k = w1.heap.size + 1 ∨ k = w1.heap.size) (fun w : World => (∀ (i : Nat) (p : PO), (J [])[i]? = some p → ownOk w ((ids[i]?).bind bk) (((ids[i]?).map hd).getD undef) p) ∧ w.heap[w1.heap.size + 1]? = some (.loop rec) ∧ w.heap[w1.heap.size]? = some (.deferred (some [])))) : PO)] := by
  refine ⟨?_, ?_, ?_⟩
  ·
   intro i q hi
   obtain rfl : i = 0 := by
    cases i with
    | zero => rfl
    | succ i => simp at hi
   simp only [List.getElem?_cons_zero, Option.some.injEq] at hi
   subst hi
   refine ⟨⟨fun w5 h5 => ⟨fun i q hi => (hOw.own i q hi).grow fun k hk => (h5 k (.inl ⟨i, q, hi, hk⟩)).trans (hold1 k (hltH k ⟨i, q, hi, hk⟩)), (h5 _ (.inr (.inl rfl))).trans hL1, (h5 _ (.inr (.inr rfl))).trans hD1⟩, ?_⟩, by simp⟩
   rintro k (hk | rfl | rfl)
   ·
    have := hltH k hk; omega
   ·
    omega
   ·
    omega
  ·
   intro i q b hi hb
   obtain rfl : i = 0 := by
    cases i with
    | zero => rfl
    | succ i => simp at hi
   simp only [List.getElem?_cons_zero, Option.some.injEq] at hi
   subst hi
   rcases hb with ⟨i, q, hi, hk⟩ | rfl | rfl
   ·
    exact hOw.free i q b hi hk
   ·
    cases hu : u1 (w1.heap.size + 1) with
    | none => rfl
    | some o => exact absurd (hR.agree.lt hu) (by omega)
   ·
    cases hu : u1 w1.heap.size with
    | none => rfl
    | some o => exact absurd (hR.agree.lt hu) (by omega)
  ·
   intro i j p q b hi hj _ _
   cases i with
   | succ i => simp at hi
   | zero =>
    cases j with
    | succ j => simp at hj
    | zero => rfl
 refine callsIn_fw none _ (Calls.mono (hit (w1.heap.size + 1) (LoopY J (w1.heap.size + 1) w1.heap.size rec) hrounds _ _ ⟨_, _, rfl, rfl, hOw.inj, fun b hb => by have := hltH b hb; exact ⟨by omega, by omega⟩⟩ W1 _ _ hA1 hO1) ?_)
 ·
  rintro e w3 ⟨v, u3, l', bk3, hd3, rfl, ⟨H', I', rfl, hY'⟩, hA3, hu3, hF3, hO3, hN3⟩
  obtain ⟨bk4, hd4, rfl, rfl, hinj4, hnot4⟩ := hY'
  obtain ⟨hI1, hI2⟩ := (hO3.own 0 _ rfl).1
  obtain ⟨hown3, hL3, hD3⟩ := hI1 w3 (fun _ _ => rfl)
  have hfree3 : ∀ b, (HoldsL bk4 hd4 (J xs) b ∨ b = w1.heap.size + 1 ∨ b = w1.heap.size) → u3 b = none := fun b hb => hO3.free 0 _ b rfl hb
  have hrun := run_endLoop (P := P) hL3 (by rw [hrec]; simp)
  have hpend : rec.pending = none := by rw [hrec]
  obtain ⟨w4, hw4⟩ : ∃ w4, w3.putObj (w1.heap.size + 1) (.loop { rec with state := .exhausted }) = w4 := ⟨_, rfl⟩
  rw [hw4, hpend] at hrun
  refine ⟨none, w4, hrun, ?_⟩
  have hs4 : w4.heap.size = w3.heap.size := by rw [← hw4]; exact putObj_size _ _ _
  have hw4o : ∀ k, k ≠ w1.heap.size + 1 → w4.heap[k]? = w3.heap[k]? := fun k hk => by rw [← hw4]; exact World.putObj_heap_other hk
  have hs3 : W1.heap.size ≤ w3.heap.size := hF3.2.2.2.1
  have hD4 : w4.heap[w1.heap.size]? = some (.deferred (some [])) := (hw4o _ (by omega)).trans hD3
  have hsw : w.heap.size ≤ w1.heap.size := hR.frame.2.2.2.1
  have hnot0 : ∀ k, k < w1.heap.size → ¬ HoldsL (fun i => ((ids[i]?).bind bk)) (fun i => ((ids[i]?).map hd).getD undef) (J []) k → ¬ HoldsL (fun _ => none) (fun _ => undef) [((none, OO.fg (fun k => HoldsL (fun i => ((ids[i]?).bind bk)) (fun i => ((ids[i]?).map hd).getD undef) (J []) k ∨ k = w1.heap.size + 1 ∨ k = w1.heap.size) (fun w : World => (∀ (i : Nat) (p : PO), (J [])[i]? = some p → ownOk w ((ids[i]?).bind bk) (((ids[i]?).map hd).getD undef) p) ∧ w.heap[w1.heap.size + 1]? = some (.loop rec) ∧ w.heap[w1.heap.size]? = some (.deferred (some [])))) : PO)] k := by
   rintro k hk hn ⟨i, q, hi, hb⟩
   obtain rfl : i = 0 := by
    cases i with
    | zero => rfl
    | succ i => simp at hi
   simp only [List.getElem?_cons_zero, Option.some.injEq] at hi
   subst hi
   rcases hb with h | h | h
   ·
    exact hn h
   ·
    omega
   ·
    omega
  have hA4 : Agree u3 w4 := fun k o hk => by
   rw [hw4o k (fun e => by rw [e, hfree3 _ (.inr (.inl rfl))] at hk; cases hk)]
   exact hA3 k o hk
  have hn2 := hnew
  simp only [newIds, Bool.and_eq_true, List.all_eq_true] at hn2
  have hJl : ∀ (i : Nat) (q : PO), (J xs ++ [((none, OO.fg (fun k => k = w1.heap.size) (fun w : World => w.heap[w1.heap.size]? = some (.deferred (some [])))) : PO)])[i]? = some q → (J xs)[i]? = some q ∨ (i = (J xs).length ∧ q = ((none, OO.fg (fun k => k = w1.heap.size) (fun w : World => w.heap[w1.heap.size]? = some (.deferred (some [])))) : PO)) := by
   intro i q hi
   rw [List.getElem?_append] at hi
   split at hi
   ·
    exact .inl hi
   ·
    rename_i hge
    obtain ⟨n, hn⟩ : ∃ n, i - (J xs).length = n := ⟨_, rfl⟩
    rw [hn] at hi
    cases n with
    | zero => simp at hi; exact .inr ⟨by omega, hi.symm⟩
    | succ n => simp at hi
  obtain ⟨bk2, hd2, hR2, _, _⟩ := hR.called (ρ' := ρ3) (u' := u3) (w' := w4) (l' := J xs ++ [((none, OO.fg (fun k => k = w1.heap.size) (fun w : World => w.heap[w1.heap.size]? = some (.deferred (some [])))) : PO)]) (ids' := ids ++ [900]) (bk' := bk4) (hd' := hd4) hl hnd hn2.1 (fun i hi hi2 => by
   have := hn2.2 i (posOf_extra hi hi2)
   simpa using this) (fun j i hj => posOf_append hj) (by
    have : ∀ {l l' e : List PO}, keepPins l l' → keepPins l (l' ++ e) := by
     intro l
     induction l with
     | nil => intro l' e _; trivial
     | cons a l ih =>
      intro l' e h
      cases l' with
      | nil => exact h.elim
      | cons b l' => exact ⟨h.1, ih h.2⟩
    exact this hkp) hρ3 hok3 hA4 (fun k hk hn => hu3 k (by omega) (hnot0 k hk hn)) ⟨by rw [← hw4]; exact hF3.1.trans (by rw [← hW1]; rfl), by rw [← hw4]; exact hF3.2.1.trans (by rw [← hW1]; rfl), by rw [← hw4]; exact hF3.2.2.1.trans (by rw [← hW1]; rfl), by omega, fun k hk hn => (hw4o k (by omega)).trans ((hF3.2.2.2.2 k (by omega) (hnot0 k hk hn)).trans (hold1 k hk))⟩
   ⟨fun i q hi => by
     rcases hJl i q hi with h | ⟨_, rfl⟩
     ·
      exact (hown3 i q h).grow fun k hk => hw4o k (hnot4 k ⟨i, q, h, hk⟩).1
     ·
      exact ⟨⟨fun w5 h5 => (h5 _ rfl).trans hD4, fun k hk => by have hk' : k = w1.heap.size := hk; omega⟩, by simp⟩,
    fun i q b hi hb => by
     rcases hJl i q hi with h | ⟨_, rfl⟩
     ·
      exact hfree3 b (.inl ⟨i, q, h, hb⟩)
     ·
      exact hfree3 b (.inr (.inr hb)),
    fun i j q q' b hi hj hb hb' => by
     rcases hJl i q hi with h | ⟨h, rfl⟩
     ·
      rcases hJl j q' hj with h' | ⟨h', rfl⟩
      ·
       exact hinj4 i j q q' b h h' hb hb'
      ·
       exact absurd hb' (hnot4 b ⟨i, q, h, hb⟩).2
     ·
      rcases hJl j q' hj with h' | ⟨h', rfl⟩
      ·
       exact absurd hb (hnot4 b ⟨j, q', h', hb'⟩).2
      ·
       rw [h, h']⟩
   (by
    rintro b ⟨i, q, hi, hb⟩
    rcases hJl i q hi with h | ⟨_, rfl⟩
    ·
     rcases hN3 b ⟨0, _, rfl, .inl ⟨i, q, h, hb⟩⟩ with ⟨i2, q2, hi2, hb2⟩ | h2
     ·
      obtain rfl : i2 = 0 := by
       cases i2 with
       | zero => rfl
       | succ i2 => simp at hi2
      simp only [List.getElem?_cons_zero, Option.some.injEq] at hi2
      subst hi2
      rcases hb2 with h3 | h3 | h3
      ·
       exact .inl h3
      ·
       exact .inr (by omega)
      ·
       exact .inr (by omega)
     ·
      exact .inr (by omega)
    ·
     have hb' : b = w1.heap.size := hb
     exact .inr (by omega))
  have hle13 : VLe u1 u3 := fun k o hk => by
   have hkl := hR.agree.lt hk
   refine (hu3 k (by omega) (hnot0 k hkl ?_)).trans hk
   rintro ⟨i, q, hi, hb⟩
   have := hOw.free i q k hi hb
   rw [this] at hk; cases hk
  have hR7 : RepAt ⟨P, fn.ntmps, w, HoldsL bk0 hd0 [], u, [{ target := .collected w1.heap.size, args := #[] }], none⟩ bk2 hd2 ρ3 (zipO (ids ++ [900]) (J xs ++ [((none, OO.fg (fun k => k = w1.heap.size) (fun w : World => w.heap[w1.heap.size]? = some (.deferred (some [])))) : PO)]) ++ rms (ids ++ [900]) σ) u3 ({ a1 with defers := [{ target := .collected w1.heap.size, args := #[] }] ++ a1.defers } : Act) w4 :=
   ⟨hR2.size, by simp [hR2.defers], hR2.frame, hR2.agree, hR2.uold, hR2.slot, hR2.own, hR2.fresh, hR2.inj⟩
  refine Go.wpIn_mono (hrest w (HoldsL bk0 hd0 []) [{ target := .collected w1.heap.size, args := #[] }] (fun k => k = w1.heap.size) (fun w : World => w.heap[w1.heap.size]? = some (.deferred (some []))) u3 hle13 _ w4 ⟨_, _, hR7⟩) ?_
  rintro e a5 w5 ⟨ρ5, σ5, u5, ⟨bk5, hd5, hE⟩, ⟨he, xs5, ids5, l5, hx, hl5, hnd5, hl0, hr⟩, h900⟩
  obtain ⟨⟨hI5, _⟩, _⟩ := hE.own 900 _ h900
  have hD5 : w5.heap[w1.heap.size]? = some (.deferred (some [])) := hI5 w5 (fun _ _ => rfl)
  have hlt5 : w1.heap.size < w5.heap.size := (Array.getElem?_eq_some_iff.1 hD5).1
  obtain ⟨w6, hw6⟩ : ∃ w6, w5.putObj w1.heap.size (.deferred none) = w6 := ⟨_, rfl⟩
  have hw6o : ∀ k, k ≠ w1.heap.size → w6.heap[k]? = w5.heap[k]? := fun k hk => by rw [← hw6]; exact World.putObj_heap_other hk
  have hs6 : w6.heap.size = w5.heap.size := by rw [← hw6]; exact putObj_size _ _ _
  have hu5 : u5 w1.heap.size = none := (hE.fresh 900 _ w1.heap.size h900 rfl).2
  have hf5 := hE.frame
  have hs5 : w.heap.size ≤ w5.heap.size := hf5.2.2.2.1
  have hE6 : RepAt ⟨P, fn.ntmps, w, HoldsL bk0 hd0 [], u, [{ target := .collected w1.heap.size, args := #[] }], none⟩ bk5 hd5 ρ5 (Eng.rm 900 σ5) u5 a5 w6 := by
   refine ⟨hE.size, hE.defers, ⟨by rw [← hw6]; exact hf5.1, by rw [← hw6]; exact hf5.2.1, by rw [← hw6]; exact hf5.2.2.1, by show w.heap.size ≤ w6.heap.size; omega, fun k hk hD => (hw6o k (by have hk' : k < w.heap.size := hk; omega)).trans (hf5.2.2.2.2 k hk hD)⟩, fun k o hk => ?_, hE.uold, hE.slot, fun id q hi => ?_, fun id q b hi hb => hE.fresh id q b (gv_rm hi).2 hb, fun id id' q q' b hi hi' hb hb' => hE.inj id id' q q' b (gv_rm hi).2 (gv_rm hi').2 hb hb'⟩
   ·
    rw [hw6o k (fun e => by rw [e, hu5] at hk; cases hk)]; exact hE.agree k o hk
   ·
    refine (hE.own id q (gv_rm hi).2).grow fun k hk => hw6o k fun e => ?_
    subst e
    exact (gv_rm hi).1 (hE.inj id 900 q _ _ (gv_rm hi).2 h900 hk rfl)
  have hend : LeavesInM Fence.wide 0 P fn a5.tmps (fun e w' => ∃ v u' l' bk' hd', e = .returned v ∧ (l' = [] ∧ R v u') ∧ Agree u' w' ∧ (∀ k, k < w.heap.size → ¬ HoldsL bk0 hd0 [] k → u' k = u k) ∧ Frame0 w (HoldsL bk0 hd0 []) w' ∧ OwnsL w' u' bk' hd' l' ∧ ∀ b, HoldsL bk' hd' l' b → HoldsL bk0 hd0 [] b ∨ w.heap.size ≤ b) a5.defers .returning w5 := by
   rw [hE.defers]
   refine ⟨by simp, .inl ⟨w1.heap.size, w6, rfl, by rw [← hw6]; exact run_takeDeferred hD5, ?_⟩⟩
   refine ⟨retV xs5, run_results (F := ⟨P, fn.ntmps, w, HoldsL bk0 hd0 [], u, [{ target := .collected w1.heap.size, args := #[] }], none⟩) hE6 hrs hx, retV xs5, u5, [], fun _ => none, fun _ => undef, rfl, ⟨rfl, hr⟩, hE6.agree, hE6.uold, hE6.frame, ⟨by simp, by simp, by simp⟩, ?_⟩
   rintro b ⟨i, q, hi, _⟩
   simp at hi
  rcases he with rfl | rfl
  ·
   exact hend
  ·
   exact hend
end Go.Eng
namespace Go.Eng
open Go Go.RowKit
set_option linter.unusedSimpArgs false
set_option linter.unusedVariables false
section
variable {F : Fx} {ρ : Env} {σ : Own} {u : View} {Q : Post} {bk : Nat → Option Nat} {hd : Nat → Value} {a : Act} {w : World} {σS : Own} {uS : View} {o : Oper}
theorem y_buildA {t e : TypeId} {n sz : Nat} {parts : List (Nat × Operand)} {zs vs : List Value} {ps : List (Nat × List Value)} (ho : o.op = .build t parts.toArray) (hf : tyA F.P t = some (n, e, sz)) (hz : tyZ F.P t = some zs)
  (hp : opCells ρ σ parts = some ps) (hv : fillL (fun i => some (i * sz, sz)) zs ps = some vs) : Yld F σS uS ρ σ u o (.v (.agg vs.toArray)) := by
 intro bk hd a w hR
 refine ⟨_, rfl, fun w' _ => ?_⟩
 obtain ⟨ie, hu, hi2, hsz⟩ := tyA_some hf
 unfold tyZ at hz
 cases hi : F.P.info? t with
 | none => simp [hi] at hz
 | some it =>
  cases hzz : it.zero with
  | none => simp [hi, hzz] at hz
  | some z =>
   simp [hi, hzz] at hz
   have hb : F.P.built t (parts.map fun p => (p.1, a.eval p.2)) = some vs.toArray := by
    unfold Program.built
    simp only [hi, hu, hzz, hi2]
    refine fill_of _ _ _ _ ?_
    rw [List.map_map]
    have hc : (parts.map ((fun p : Nat × Value => (p.1, p.2.cells.toList)) ∘ fun p => (p.1, a.eval p.2))) = ps := hR.cells hp
    rw [hc, hz, ← hv, hsz]
   have hrun := run_build (P := F.P) w' t ((parts.map fun p => (p.1, a.eval p.2)).toArray) vs.toArray (by simpa using hb)
   simp [execOp, ho, hrun]
end
end Go.Eng
namespace Go.Eng
open Go Go.RowKit
set_option linter.unusedSimpArgs false
set_option linter.unusedVariables false
section
variable {F : Fx} {ρ : Env} {σ : Own} {u : View} {Q : Post} {bk : Nat → Option Nat} {hd : Nat → Value} {a : Act} {w : World} {σS : Own} {uS : View} {o : Oper}
theorem y_len_w {x : Operand} (id : Nat) {t T e : TypeId} {ts : Array TypeId} {n sz sz' by' : Nat} {vx : Value} {pn : Option Nat} {xs : List Value} (ho : o.op = .call { callee := .builtin .len, args := #[x], argTypes := ts }) (ht : ts[0]? = some t) (hT : tyS F.P t = some (e, sz', by'))
  (hx : opv ρ x = some (.v vx)) (hs : gv σ id = some (pn, .rwv vx T sz n xs)) : Yld F σS uS ρ σ u o (.v (.int .i64 n)) := by
 intro bk hd a w hR
 obtain ⟨⟨hdv, hown, hbk⟩, _⟩ := hR.own id _ hs
 have key : ∃ ad cap, vx = .slice ad n cap := by
  rcases hown.2 with ⟨hv, hn⟩ | ⟨g, cap, cur, hv, _⟩
  ·
   exact ⟨none, 0, by rw [hv, hn]⟩
  ·
   exact ⟨_, _, hv⟩
 obtain ⟨ad, cap, rfl⟩ := key
 exact Zaq (F := F) (σS := σS) (uS := uS) (ρ := ρ) (σ := σ) (u := u) ho ht hT hx bk hd a w hR
theorem do_call_bw {K : Env → Own → View → Prop} {d : Nat} {ty : TypeId} {fo : Operand} {xs : List Operand} {ts : Array TypeId} {pos : String} {aft : Array Edge} {f : FuncId} {caps vs : List Value} (id : Nat) {pn : Option Nat} {vx : Value} {T : TypeId} {sz n : Nat} {ys : List Value} (hS : subO σS σ)
  (hf : opv ρ fo = some (.v (.func (.func f) #[] caps.toArray))) (hs : gv σ id = some (pn, .rwv vx T sz n ys)) (hc : canCall F.P f = true) (hn : Nat.blt d F.n = true) (hvs : opvs ρ (Eng.rm id σ) xs = some vs)
  (h : ∀ u', VLe u u' → IsSl u' vx n sz ys → FnP F.P f (vs ++ caps) u' fun v _ => K ((d, .v v) :: ρ) σ u) :
  Does F σS ⟨some d, .call { callee := .value fo, args := xs.toArray, argTypes := ts }, ty, pos, aft, none⟩ ρ σ u K := by
 intro bk hd a w Q hR N hN
 obtain ⟨u', h1, h2, h3⟩ := hR.freezeW hs
 have hcall := h u' h1 h2
 have hrun : (execOp a.eval ⟨some d, .call { callee := .value fo, args := xs.toArray, argTypes := ts }, ty, pos, aft, none⟩).run F.P w = .ok (.enter f (vs ++ caps).toArray) w := by
  simp [execOp, resolve, hR.op hf, Deferred.ofValue, invoke, run_callFunc hc, h3.ops hvs]
 unfold Oper.wp
 rw [hrun]
 refine (hcall w _ _ h3.agree (ownsL_nil w u')).mono ?_
 rintro e w' ⟨v, u1, l', bk', hd', rfl, ⟨_, hk⟩, hA, hu, hw, _⟩
 have hw2 : Frame0 w noD w' := ⟨hw.1, hw.2.1, hw.2.2.1, hw.2.2.2.1, fun k hk _ => hw.2.2.2.2 k hk (fun ⟨i, p, hi, _⟩ => by simp at hi)⟩
 refine hN _ _ _ _ _ _ _ hk ((hR.grow hw2).put (blt_lt hn) rfl) (fun x hx => same_of (VLe.refl u) (fun _ _ _ => ⟨rfl, rfl⟩) (fun id p b hi hb => hw2.2.2.2.2 b ((hR.own id p (gv_subO hS id p hi)).lt hb) (fun h => h)) hx)
end
end Go.Eng
namespace Go.Eng
open Go Go.RowKit
set_option linter.unusedSimpArgs false
set_option linter.unusedVariables false
section
variable {F : Fx} {ρ : Env} {σ : Own} {u : View} {Q : Post} {bk : Nat → Option Nat} {hd : Nat → Value} {a : Act} {w : World} {σS : Own} {uS : View} {o : Oper}
theorem gv_again {α : Type} {ρ : List (Nat × α)} {t : Nat} {x : α} (h : gv ρ t = some x) : ∀ k y, gv ((t, x) :: ρ) k = some y → gv ρ k = some y := by
 intro k y hk
 simp only [gv] at hk
 split at hk
 ·
  rename_i hb
  have := Nat.eq_of_beq_eq_true hb
  subst this
  cases hk
  exact h
 ·
  exact hk
theorem RepAt.again (h : RepAt F bk hd ρ σ u a w) {t : Nat} {x : SV} (ht : gv ρ t = some x) : RepAt F bk hd ((t, x) :: ρ) σ u a w :=
 ⟨h.size, h.defers, h.frame, h.agree, h.uold, fun k sv hk => h.slot k sv (gv_again ht k sv hk), h.own, h.fresh, h.inj⟩
theorem Zae {ops : Array Oper} {l : List Oper} (t : Nat) {b : Bool} (hg : opv ρ (.tmp t) = some (.v (.bool b))) (h1 : b = true → RL F ops l ((t, .v (.bool true)) :: ρ) σ u Q) (h0 : b = false → RL F ops l ((t, .v (.bool false)) :: ρ) σ u Q) : RL F ops l ρ σ u Q := by
 rintro a w ⟨bk, hd, hR⟩
 have hR2 := hR.again (t := t) (x := .v (.bool b)) hg
 cases b with
 | true => exact h1 rfl a w ⟨bk, hd, hR2⟩
 | false => exact h0 rfl a w ⟨bk, hd, hR2⟩
theorem ra_case {ops : Array Oper} {fuel : Nat} {listed : Array Bool} (t : Nat) {b : Bool} (hg : opv ρ (.tmp t) = some (.v (.bool b))) (h1 : b = true → RA F ops σS fuel listed ((t, .v (.bool true)) :: ρ) σ u Q) (h0 : b = false → RA F ops σS fuel listed ((t, .v (.bool false)) :: ρ) σ u Q) : RA F ops σS fuel listed ρ σ u Q := by
 intro bk hd a w hR
 have hR2 := hR.again (t := t) (x := .v (.bool b)) hg
 cases b with
 | true => exact h1 rfl bk hd a w hR2
 | false => exact h0 rfl bk hd a w hR2
theorem y_convBS_s {s d e E : TypeId} {x : Operand} {id : Nat} {sz by' n n' : Nat} {l l' : List UInt8} {pn pn' : Option Nat} (ho : o.op = .convert s d x) (hs : tyS F.P s = some (e, sz, by')) (he : F.P.underlying e = some (.int .u8)) (hd' : F.P.underlying d = some .string)
  (hx : opv ρ x = some (.s id)) (hn : l.length = n) (hg : gv σ id = some (pn, .row E 1 n (bytesC l))) (hS : gv σS id = some (pn', .row E 1 n' (bytesC l'))) : Yld F σS uS ρ σ u o (.v (str l)) := by
 intro bk hd a w hR
 subst hn
 obtain ⟨inf, hu, hinf, hsz, hby⟩ := tyS_some hs
 obtain ⟨⟨hown, hbk⟩, hpn⟩ := hR.own id _ hg
 have hev : a.eval x = hd id := hR.opS hx
 refine ⟨_, rfl, fun w' hw => ?_⟩
 rcases hown.2 with ⟨hv, hn⟩ | ⟨g, cap, cur, hv, hbg, hh, hnc, hcm, hcs, htake⟩
 ·
  have hl : l = [] := List.eq_nil_of_length_eq_zero hn
  subst hl
  have := run_convert_bytes_nil (P := F.P) w' s e hu he 0 0 d hd'
  simp [execOp, ho, hev, hv, this, str]
  rfl
 ·
  have hb : bk id = some g := by rw [hbk, hv]; rfl
  have hh' := (hw.2 id _ g hS hb).trans hh
  have := run_convert_bytes_arg (P := F.P) w' s e hu he g 0 l.length cap (l.map fun c => (c.toNat : Int)) (by simp) (fun i hi => by
   have hc : cur.toList[i]? = some (.int .u8 (l[i].toNat : Int)) := by
    have : (bytesC l)[i]? = some (.int .u8 (l[i].toNat : Int)) := by simp [bytesC, Lib.byteCells, hi]
    rw [← htake, List.getElem?_take] at this
    split at this
    ·
     exact this
    ·
     cases this
   simp only [World.cell?, hh', Nat.zero_add]
   simp [List.getD, hi]
   simpa using hc) d hd'
  have e2 : strOfNums (l.map fun c => (c.toNat : Int)) = ⟨l.toArray⟩ := by
   unfold strOfNums
   congr 1
   simp [List.map_map, Function.comp_def]
  rw [e2] at this
  simp [execOp, ho, hev, hv, this, str]
end
section
variable {P : Program} {ρ : Env} {σ : Own} {u : View} {l l' : List PO} {R : Value → View → List PO → Prop}
theorem finO3 (ids : List Nat) {r r2 r3 : ResultVar} {x x2 x3 : Value} (hx : ResV P ρ σ r x) (h2 : ResV P ρ σ r2 x2) (h3 : ResV P ρ σ r3 x3) (hl : gvs σ ids = some l') (hnd : nodupb ids = true) (h : R (.tuple #[x, x2, x3]) u l') : FinO P [r, r2, r3] l R .ret ρ σ u := ⟨.inr rfl, [x, x2, x3], ids, l', .cons hx (.cons h2 (.cons h3 .nil)), hl, hnd, h⟩
end
def partQ (K : Act → World → Prop) (Q : Exit → Act → World → Prop) : Exit → Act → World → Prop
 | .normal, a, w => K a w
 | .ret, a, w => Q .ret a w
 | .goto l, a, w => Q (.goto l) a w
 | .exit l, a, w => Q (.exit l) a w
 | e, a, w => Q e a w
theorem wpListIn_take {P : Program} {ops : Array Oper} {r : Option Nat} {Q : Exit → Act → World → Prop} : ∀ (k : Nat) (l : List Oper) (a : Act) (w : World), wpListIn (fw r) 0 P ops (partQ (wpListIn (fw r) 0 P ops Q (l.drop k)) Q) (l.take k) a w → wpListIn (fw r) 0 P ops Q l a w
 | 0, l, a, w, h => h
 | k + 1, [], a, w, h => h
 | k + 1, o :: rest, a, w, h => by
  have ih := wpListIn_take (P := P) (ops := ops) (r := r) (Q := Q) k rest
  rw [List.take_succ_cons, List.drop_succ_cons] at h
  unfold wpListIn at h ⊢
  split at h
  ·
   rename_i hw
   rw [if_pos hw]
   refine ⟨h.1, ?_⟩
   have h := h.2
   generalize (o.semAt (fw r).round a.eval).run P w = res at *
   have hl : LetsOut (partQ (wpListIn (fw r) 0 P ops Q (rest.drop k)) Q) → LetsOut Q := fun ⟨a, w, h⟩ => ⟨a, w, h⟩
   cases res with
   | ok x w' =>
    cases x <;> simp only [Oper.uponIn] at h ⊢ <;>
     first
      | exact ih _ _ h
      | exact ⟨h.1, CallsIn.mono h.2 (fun e w'' he => by cases e <;> first | exact ih _ _ he | exact he | exact hl he)⟩
      | exact ⟨h.1, RowsIn.mono h.2 (fun _ _ he => ih _ _ he)⟩
      | exact ⟨h.1, RoundIn.mono h.2 (fun e w'' he => by cases e <;> first | exact ih _ _ he | exact he | exact hl he)⟩
   | halt x w' => cases x <;> simp only [Oper.uponIn] at h ⊢ <;> exact h
  ·
   rename_i hw
   rw [if_neg hw]
   exact ⟨h.1, ih _ _ h.2⟩
section
variable {F : Fx} {ρ : Env} {σ : Own} {u : View} {Q : Post} {ops : Array Oper}
theorem Zcm {l : List Oper} {ρk : Env} (k t : Nat) (b : Bool) (_h0 : subE ρk ρ) (h1 : RL F ops (l.take k) ρ σ u (cutBQ t b ρk σ u)) (h2 : RL F ops (l.drop k) ((t, .v (.bool b)) :: ρk) σ u Q) : RL F ops l ρ σ u Q := by
 intro a w hR
 refine wpListIn_take k l a w (wpListIn_monoQ ?_ _ _ _ (h1 a w hR))
 rintro e a w ⟨ρ', σ', u', hR', rfl, h3, h4, rfl, rfl⟩
 exact h2 a w (hR'.subEnv (show subE ((t, .v (.bool b)) :: ρk) ρ' from ⟨h3, h4⟩))
end
def meetQ (t : Nat) (P : Bool → Prop) (ρk : Env) (σ : Own) (u : View) : Post :=
 fun e ρ' σ' u' => e = .normal ∧ (∃ b, P b ∧ gv ρ' t = some (.v (.bool b))) ∧ subE ρk ρ' ∧ σ' = σ ∧ u' = u
section
variable {F : Fx} {ρ : Env} {σ : Own} {u : View} {Q : Post} {ops : Array Oper}
theorem Zbh {l : List Oper} {ρk : Env} (k t : Nat) (P : Bool → Prop) (_h0 : subE ρk ρ) (h1 : RL F ops (l.take k) ρ σ u (meetQ t P ρk σ u)) (h2 : ∀ b, P b → RL F ops (l.drop k) ((t, .v (.bool b)) :: ρk) σ u Q) : RL F ops l ρ σ u Q := by
 intro a w hR
 refine wpListIn_take k l a w (wpListIn_monoQ ?_ _ _ _ (h1 a w hR))
 rintro e a w ⟨ρ', σ', u', hR', rfl, ⟨b, hb, h3⟩, h4, rfl, rfl⟩
 exact h2 b hb a w (hR'.subEnv (show subE ((t, .v (.bool b)) :: ρk) ρ' from ⟨h3, h4⟩))
theorem Zac {l : Array Oper} {t : Nat} {P : Bool → Prop} {x : Bool} {ρk : Env} {σ : Own} {u : View} (h : gv ρ t = some (.v (.bool x))) (hk : subE ρk ρ) (hx : P x) : RL F l [] ρ σ u (meetQ t P ρk σ u) :=
 rl_nil ⟨rfl, ⟨x, hx, h⟩, hk, rfl, rfl⟩
end
end Go.Eng
namespace Go.Eng
open Go Go.RowKit
open Go.ChangeShapes Go.WideShapes
set_option linter.unusedSimpArgs false
set_option linter.unusedVariables false
theorem cut_of_cells {w : World} {b off n : Nat} (_h : n ≠ 0 → True) {vs : List Value} (hc : ∀ i v, vs[i]? = some v → w.cell? ⟨b, off + i, none⟩ = some v) (hne : vs ≠ []) : ∃ c T fr, w.heap[b]? = some (.cells c T fr) ∧ cut c.toList off vs.length = vs := by
 cases vs with
 | nil => exact absurd rfl hne
 | cons v0 vs =>
  have h0 := hc 0 v0 rfl
  unfold World.cell? at h0
  cases hb : w.heap[b]? with
  | none => simp [hb] at h0
  | some ob =>
   cases ob with
   | cells c T fr =>
    refine ⟨c, T, fr, rfl, ?_⟩
    have key : ∀ i v, (v0 :: vs)[i]? = some v → c.toList[off + i]? = some v := by
     intro i v hv
     have := hc i v hv
     unfold World.cell? at this
     simpa [hb] using this
    apply List.ext_getElem?
    intro i
    unfold cut
    rw [List.getElem?_take]
    split
    ·
     rename_i hi
     rw [List.getElem?_drop]
     have hg := List.getElem?_eq_getElem hi
     rw [hg]
     exact key i _ hg
    ·
     rename_i hi
     rw [List.getElem?_eq_none (by omega)]
   | _ => simp [hb] at h0
def WOk {H : Type} (P : Program) (t : TypeId) (d : DataW H) : Prop := ∀ n ∈ d.weights P t, n ≤ 140737488351232
theorem weightsAll_mem {H : Type} {P : Program} {e : TypeId} {n : Nat} : ∀ {l : List (DataW H)} {d : DataW H}, d ∈ l → n ∈ d.weights P e → n ∈ DataW.weightsAll P e l
 | [], d, h, _ => by simp at h
 | a :: l, d, h, hn => by
  unfold DataW.weightsAll
  rcases List.mem_cons.1 h with rfl | h
  ·
   exact List.mem_append_left _ hn
  ·
   exact List.mem_append_right _ (weightsAll_mem h hn)
theorem weightsEach_mem {H : Type} {P : Program} {n : Nat} : ∀ {ts : List TypeId} {ds : List (DataW H)} {i : Nat} {t : TypeId} {d : DataW H}, ts[i]? = some t → ds[i]? = some d → n ∈ d.weights P t → n ∈ DataW.weightsEach P ts ds
 | [], ds, i, t, d, h, _, _ => by simp at h
 | a :: ts, [], i, t, d, _, h, _ => by simp at h
 | a :: ts, b :: ds, 0, t, d, h, h2, hn => by
  simp at h h2
  subst h; subst h2
  unfold DataW.weightsEach
  exact List.mem_append_left _ hn
 | a :: ts, b :: ds, i + 1, t, d, h, h2, hn => by
  unfold DataW.weightsEach
  exact List.mem_append_right _ (weightsEach_mem (by simpa using h) (by simpa using h2) hn)
theorem WOk.str {H : Type} {P : Program} {t : TypeId} {l : List UInt8} (h : WOk (H := H) P t (.lit (.string l))) : l.length ≤ 140737488351232 := h _ (by unfold DataW.weights; simp)
theorem WOk.slice {H : Type} {P : Program} {t e : TypeId} {elems rest : List (DataW H)} (ht : P.underlying t = some (.slice e)) (hb : 0 < P.bytesOf e) (h : WOk P t (.slice elems rest)) : elems.length ≤ 140737488351232 ∧ ∀ d ∈ elems, WOk P e d := by
 unfold WOk at h
 unfold DataW.weights at h
 simp only [ht] at h
 refine ⟨?_, fun d hd n hn => h n (List.mem_cons_of_mem _ (List.mem_append_left _ (weightsAll_mem hd hn)))⟩
 have h1 := h _ (List.mem_cons_self ..)
 have h2 : (elems.length + rest.length) * 1 ≤ (elems.length + rest.length) * P.bytesOf e := Nat.mul_le_mul_left _ hb
 omega
theorem WOk.struct {H : Type} {P : Program} {t : TypeId} {fs : Array Field} {parts : List (DataW H)} {i : Nat} {f : Field} {d : DataW H} (ht : P.underlying t = some (.struct fs)) (h : WOk P t (.agg parts)) (hf : fs[i]? = some f) (hd : parts[i]? = some d) : WOk P f.type d := by
 unfold WOk at h
 unfold DataW.weights at h
 simp only [ht] at h
 intro n hn
 exact h n (weightsEach_mem (by rw [List.getElem?_map]; simp [hf]) hd hn)
theorem open_sl {H : Type} {enc : TypeId × Value → H} {P : Program} {w : World} {base : Nat} {spare : Nat → Bool} {held : Bool} {t e : TypeId} {fuel sz : Nat} {cell : Value} {x : DataW H × List MemPlace}
  (ht : P.underlying t = some (.slice e)) (hc : P.cellsOf e = sz) (hsz : 0 < sz) (hby : 0 < P.bytesOf e) (hw : WOk P t x.1) (h : DataW.trod enc P w base spare held fuel t [cell] = some x) :
  ∃ n cs, IsSl (wview w) cell n sz cs ∧ n ≤ 140737488351232 ∧ ∀ i, i < n → ∃ m y, fuel = m + 1 ∧ DataW.trod enc P w base spare held m e (cut cs (i * sz) sz) = some y ∧ WOk P e y.1 := by
 subst hc
 rcases DataW.trod_slice ht h with ⟨h0, _⟩ | ⟨a, len, cap, elems, rest, n, hfu, hcs, hxe, hb, hl, hm, hel, hx, _, _⟩
 ·
  simp only [List.cons.injEq, and_true] at h0
  subst h0
  exact ⟨0, [], ⟨none, 0, rfl, by simp, Nat.le_refl _, by unfold maxLen; omega, fun h => absurd rfl h⟩, by omega, fun i hi => by omega⟩
 ·
  simp only [List.cons.injEq, and_true] at hcs
  subst hcs
  obtain ⟨hwl, hwe⟩ := WOk.slice ht hby (hxe ▸ hw)
  obtain ⟨f, hf⟩ : ∃ f : Nat → List Value, f = fun i => (w.cells? base (a.add (i * P.cellsOf e)) (P.cellsOf e)).getD (List.replicate (P.cellsOf e) undef) := ⟨_, rfl⟩
  have hflen : ∀ i, (f i).length = P.cellsOf e := by
   intro i
   rw [hf]
   dsimp only
   cases hcc : w.cells? base (a.add (i * P.cellsOf e)) (P.cellsOf e) with
   | none => simp
   | some c => exact (World.cells?_some hcc).2.1
  have each : ∀ i, i < len → w.cells? base (a.add (i * P.cellsOf e)) (P.cellsOf e) = some (f i) ∧ ∃ y, DataW.trod enc P w base spare held n e (f i) = some y ∧ WOk P e y.1 := by
   intro i hi
   have h1 := hx i hi
   rw [List.getElem?_eq_getElem (by omega), Option.bind_eq_some_iff] at h1
   obtain ⟨c, h2, h3⟩ := h1
   have : f i = c := by rw [hf]; dsimp only; rw [h2]; rfl
   exact ⟨by rw [this]; exact h2, _, by rw [this]; exact h3, hwe _ (List.mem_map_of_mem (List.getElem_mem _))⟩
  refine ⟨len, rowsN f len, ⟨some a, cap, rfl, length_rowsN hflen len, hl, hm, fun hne => ?_⟩, by rw [List.length_map, hel] at hwl; exact hwl, fun i hi => ⟨n, ?_⟩⟩
  ·
   have hspot : a = ⟨a.block, a.off, none⟩ := by
    have h0 := (World.cells?_some (each 0 (by omega)).1).2.2 0 hsz
    obtain ⟨b, off, spot⟩ := a
    cases spot with
    | none => rfl
    | some s =>
     have hs : (f 0)[0]? = some ((f 0)[0]'(by rw [hflen]; exact hsz)) := List.getElem?_eq_getElem _
     rw [hs] at h0
     unfold World.cell? at h0
     simp only [Nat.zero_mul, Addr.add, if_true] at h0
     split at h0 <;> simp at h0
   have hcell : ∀ j v, (rowsN f len)[j]? = some v → w.cell? ⟨a.block, a.off + j, none⟩ = some v := by
    intro j v hj
    have hjl : j < len * P.cellsOf e := by rw [← length_rowsN hflen len]; exact (List.getElem?_eq_some_iff.1 hj).1
    have hi : j / P.cellsOf e < len := Nat.div_lt_of_lt_mul (by rw [Nat.mul_comm]; exact hjl)
    have hr : j % P.cellsOf e < P.cellsOf e := Nat.mod_lt _ hsz
    have hsplit : j / P.cellsOf e * P.cellsOf e + j % P.cellsOf e = j := by rw [Nat.mul_comm]; exact Nat.div_add_mod j _
    have hcut := cut_rowsN hflen hi
    obtain ⟨v', hv'⟩ : ∃ v', (f (j / P.cellsOf e))[j % P.cellsOf e]? = some v' := ⟨_, List.getElem?_eq_getElem (by rw [hflen]; exact hr)⟩
    have h1 := getElem?_cut hcut hv'
    rw [hsplit, hj] at h1
    cases h1
    have h2 := (World.cells?_some (each _ hi).1).2.2 _ hr
    rw [hv', hspot, add_eq, add_eq, Nat.add_assoc, hsplit] at h2
    exact h2
   obtain ⟨c, T, fr, h1, h2⟩ := cut_of_cells (n := 0) (fun h => trivial) hcell (by
    intro e0
    have := length_rowsN hflen len
    rw [e0] at this
    have : 0 < len * P.cellsOf e := Nat.mul_pos (by omega) hsz
    simp at *; omega)
   refine ⟨a.block, a.off, c, T, fr, by rw [← hspot], h1, ?_⟩
   rw [length_rowsN hflen] at h2
   exact h2
  ·
   rw [cut_rowsN hflen hi]
   obtain ⟨y, hy⟩ := (each i hi).2
   exact ⟨y, hfu, hy⟩
theorem chop {α : Type} (g : α → List Value) (p : α → Prop) (sz : Nat) : ∀ (n : Nat) (cs : List Value), cs.length = n * sz → (∀ i, i < n → ∃ x : α, cut cs (i * sz) sz = g x ∧ p x) → ∃ xs : List α, xs.length = n ∧ cs = xs.flatMap g ∧ ∀ x ∈ xs, p x
 | 0, cs, hl, _ => ⟨[], rfl, List.eq_nil_of_length_eq_zero (by simpa using hl), by simp⟩
 | n + 1, cs, hl, h => by
  obtain ⟨x, hx, hp⟩ := h 0 (by omega)
  have hl2 : cs.length = n * sz + sz := by rw [hl, Nat.add_mul]; simp
  obtain ⟨xs, h1, h2, h3⟩ := chop g p sz n (cs.drop sz) (by simp; omega) (fun i hi => by
   obtain ⟨y, hy, hq⟩ := h (i + 1) (by omega)
   refine ⟨y, ?_, hq⟩
   rw [← hy]
   unfold cut
   rw [List.drop_drop, Nat.add_mul, Nat.one_mul, Nat.add_comm])
  refine ⟨x :: xs, by simp [h1], ?_, ?_⟩
  ·
   rw [List.flatMap_cons, ← h2, ← hx]
   unfold cut
   simp
  ·
   intro y hy
   rcases List.mem_cons.1 hy with rfl | hy
   ·
    exact hp
   ·
    exact h3 y hy
theorem str_of' (s : ByteArray) : ∃ l : Bs, Value.string s = str l ∧ l.length = s.data.toList.length := ⟨s.data.toList, by cases s; rfl, rfl⟩
section
variable {H : Type} {enc : TypeId × Value → H} {P : Program} {w : World} {base : Nat} {spare : Nat → Bool} {held : Bool} {fuel : Nat} {cell : Value} {x : DataW H × List MemPlace}
theorem open_strs {t e : TypeId} (ht : P.underlying t = some (.slice e)) (he : P.underlying e = some .string) (hc : P.cellsOf e = 1) (hby : 0 < P.bytesOf e) (hw : WOk P t x.1) (h : DataW.trod enc P w base spare held fuel t [cell] = some x) :
  ∃ xs : List Bs, StrS (wview w) cell xs ∧ StrOk xs := by
 obtain ⟨n, cs, hs, hn, hel⟩ := open_sl ht hc (by omega) hby hw h
 have hlen : cs.length = n * 1 := by obtain ⟨_, _, _, h1, _⟩ := hs; exact h1
 obtain ⟨xs, h1, h2, h5⟩ := chop (fun b : Bs => [str b]) (fun b : Bs => b.length ≤ 140737488351232) 1 n cs hlen (fun i hi => by
  obtain ⟨m, y, _, h3, hy⟩ := hel i hi
  obtain ⟨s, h4, e4, _⟩ := DataW.trod_string he h3
  obtain ⟨l, hl, hll⟩ := str_of' s
  exact ⟨l, by rw [h4, hl], by rw [hll]; exact WOk.str (e4 ▸ hy)⟩)
 refine ⟨xs, ?_, by omega, h5⟩
 unfold StrS
 rw [h1]
 have e1 : strsC xs = cs := by rw [h2]; unfold strsC; exact List.map_eq_flatMap
 rw [e1]
 exact hs
theorem open_struct {t : TypeId} {fs : Array Field} {cs : List Value} (ht : P.underlying t = some (.struct fs)) (hw : WOk P t x.1) (h : DataW.trod enc P w base spare held fuel t cs = some x) (i : Nat) (f : Field) (hf : fs[i]? = some f) :
  ∃ m y, fuel = m + 1 ∧ DataW.trod enc P w base spare held m f.type (cut cs f.offset (P.cellsOf f.type)) = some y ∧ WOk P f.type y.1 := by
 obtain ⟨xs, n, hfu, hxe, _, hxl, hx⟩ := DataW.trod_struct ht h
 have h1 := hx i f hf
 have hi : i < fs.size := (Array.getElem?_eq_some_iff.1 hf).1
 rw [List.getElem?_eq_getElem (by omega)] at h1
 exact ⟨n, _, hfu, h1, WOk.struct ht (hxe ▸ hw) hf (by rw [List.getElem?_map, List.getElem?_eq_getElem (by omega)]; rfl)⟩
theorem open_struct_len {t : TypeId} {fs : Array Field} {cs : List Value} (ht : P.underlying t = some (.struct fs)) (h : DataW.trod enc P w base spare held fuel t cs = some x) : cs.length = P.cellsOf t := by
 obtain ⟨xs, n, _, _, h1, _⟩ := DataW.trod_struct ht h
 exact h1
end
def FldsAre (P : Program) (t : TypeId) (l : List (Nat × TypeId)) : Prop := ∃ fs, P.underlying t = some (.struct fs) ∧ fs.toList.map (fun f => (f.offset, f.type)) = l
structure DocTys (P : Program) where
 int : TypeId
 bool : TypeId
 s : TypeId
 ss : TypeId
 pair : TypeId
 pairs : TypeId
 cite : TypeId
 cites : TypeId
 attr : TypeId
 inl : TypeId
 inls : TypeId
 blk : TypeId
 blks : TypeId
 hint : P.underlying int = some (.int .i64)
 hbool : P.underlying bool = some .bool
 hs : P.underlying s = some .string
 hss : P.underlying ss = some (.slice s)
 hpairs : P.underlying pairs = some (.slice pair)
 hcites : P.underlying cites = some (.slice cite)
 hinls : P.underlying inls = some (.slice inl)
 hblks : P.underlying blks = some (.slice blk)
 hpair : FldsAre P pair [(0, s), (1, s)]
 hcite : FldsAre P cite [(0, s), (1, s), (2, s), (3, bool)]
 hattr : FldsAre P attr [(0, s), (1, ss), (2, pairs)]
 hinl : FldsAre P inl [(0, int), (1, s), (2, s), (3, s), (4, attr), (7, ss), (8, cites), (9, inls)]
 hblk : FldsAre P blk [(0, int), (1, int), (2, s), (3, s), (4, s), (5, s), (6, attr), (9, inls), (10, blks)]
 cint : P.cellsOf int = 1
 cbool : P.cellsOf bool = 1
 cs : P.cellsOf s = 1
 css : P.cellsOf ss = 1
 cpairs : P.cellsOf pairs = 1
 ccites : P.cellsOf cites = 1
 cinls : P.cellsOf inls = 1
 cblks : P.cellsOf blks = 1
 cpair : P.cellsOf pair = 2
 ccite : P.cellsOf cite = 4
 cattr : P.cellsOf attr = 3
 cinl : P.cellsOf inl = 10
 cblk : P.cellsOf blk = 11
 ys : 0 < P.bytesOf s
 ypair : 0 < P.bytesOf pair
 ycite : 0 < P.bytesOf cite
 yinl : 0 < P.bytesOf inl
 yblk : 0 < P.bytesOf blk
section
variable {H : Type} {enc : TypeId × Value → H} {P : Program} {w : World} {base : Nat} {spare : Nat → Bool} {held : Bool} {fuel : Nat} {cell : Value} {x : DataW H × List MemPlace}
theorem open_flds {t : TypeId} {l : List (Nat × TypeId)} {cs : List Value} (ht : FldsAre P t l) (hw : WOk P t x.1) (h : DataW.trod enc P w base spare held fuel t cs = some x) :
  cs.length = P.cellsOf t ∧ ∀ (i off : Nat) (ft : TypeId), l[i]? = some (off, ft) → ∃ m y, fuel = m + 1 ∧ DataW.trod enc P w base spare held m ft (cut cs off (P.cellsOf ft)) = some y ∧ WOk P ft y.1 := by
 obtain ⟨fs, hu, rfl⟩ := ht
 refine ⟨open_struct_len hu h, fun i off ft hi => ?_⟩
 rw [List.getElem?_map, Option.map_eq_some_iff] at hi
 obtain ⟨f, hf, he⟩ := hi
 simp only [Prod.mk.injEq] at he
 obtain ⟨rfl, rfl⟩ := he
 exact open_struct hu hw h i f (by simpa using hf)
theorem open_prs2 (T : DocTys P) (hw : WOk P T.pairs x.1) (h : DataW.trod enc P w base spare held fuel T.pairs [cell] = some x) : ∃ xs : List (Bs × Bs), PrS (wview w) cell xs ∧ PrOk xs := by
 obtain ⟨n, cs, hsl, hn, hel⟩ := open_sl T.hpairs T.cpair (by omega) T.ypair hw h
 have hlen : cs.length = n * 2 := by obtain ⟨_, _, _, h1, _⟩ := hsl; exact h1
 obtain ⟨xs, h1, h2, h5⟩ := chop (fun x : Bs × Bs => [str x.1, str x.2]) (fun x => x.1.length ≤ 140737488351232 ∧ x.2.length ≤ 140737488351232) 2 n cs hlen (fun i hi => by
  obtain ⟨m, y, _, h3, hy⟩ := hel i hi
  obtain ⟨hl, hf⟩ := open_flds T.hpair hy h3
  rw [T.cpair] at hl
  obtain ⟨_, _, _, a0, q0⟩ := hf 0 0 T.s rfl
  obtain ⟨_, _, _, a1, q1⟩ := hf 1 1 T.s rfl
  rw [T.cs] at a0 a1
  obtain ⟨s0, b0, p0, _⟩ := DataW.trod_string T.hs a0
  obtain ⟨s1, b1, p1, _⟩ := DataW.trod_string T.hs a1
  obtain ⟨l0, e0, z0⟩ := str_of' s0
  obtain ⟨l1, e1, z1⟩ := str_of' s1
  refine ⟨(l0, l1), ?_, by rw [z0]; exact WOk.str (p0 ▸ q0), by rw [z1]; exact WOk.str (p1 ▸ q1)⟩
  generalize cut cs (i * 2) 2 = c at *
  match c, hl with
  | [u0, u1], _ =>
   unfold cut at b0 b1
   simp at b0 b1
   rw [b0, b1, e0, e1])
 refine ⟨xs, ?_, by omega, h5⟩
 unfold PrS
 rw [h1]
 have e1 : pairsC xs = cs := h2.symm
 rw [e1]
 exact hsl
theorem open_attr (T : DocTys P) {cs : List Value} (hw : WOk P T.attr x.1) (h : DataW.trod enc P w base spare held fuel T.attr cs = some x) : ∃ a : DAttr, AttrC (wview w) a cs ∧ AttrOk a := by
 obtain ⟨hl, hf⟩ := open_flds T.hattr hw h
 rw [T.cattr] at hl
 obtain ⟨_, _, _, a0, q0⟩ := hf 0 0 T.s rfl
 obtain ⟨_, _, _, a1, q1⟩ := hf 1 1 T.ss rfl
 obtain ⟨_, _, _, a2, q2⟩ := hf 2 2 T.pairs rfl
 rw [T.cs] at a0
 rw [T.css] at a1
 rw [T.cpairs] at a2
 match cs, hl with
 | [u0, u1, u2], _ =>
  obtain ⟨s0, b0, p0, _⟩ := DataW.trod_string T.hs a0
  obtain ⟨l0, e0, z0⟩ := str_of' s0
  obtain ⟨xs, hxs, ox⟩ := open_strs T.hss T.hs T.cs T.ys q1 (show DataW.trod enc P w base spare held _ T.ss [u1] = some _ from a1)
  obtain ⟨ps, hps, op⟩ := open_prs2 T q2 (show DataW.trod enc P w base spare held _ T.pairs [u2] = some _ from a2)
  have hb : u0 = .string s0 := by unfold cut at b0; simpa using b0
  exact ⟨⟨l0, xs, ps⟩, ⟨u1, u2, by rw [hb, e0], hxs, hps⟩, by rw [z0]; exact WOk.str (p0 ▸ q0), ox, op⟩
end
theorem chopI (u : View) : ∀ (n : Nat) (cs : List Value), cs.length = n * 10 → (∀ i, i < n → ∃ x : Inl, InlC u x (cut cs (i * 10) 10)) → ∃ xs : List Inl, xs.length = n ∧ InlsC u xs cs
 | 0, cs, hl, _ => ⟨[], rfl, by unfold InlsC; exact List.eq_nil_of_length_eq_zero (by simpa using hl)⟩
 | n + 1, cs, hl, h => by
  obtain ⟨x, hx⟩ := h 0 (by omega)
  have hl2 : cs.length = n * 10 + 10 := by omega
  obtain ⟨xs, h1, h2⟩ := chopI u n (cs.drop 10) (by simp; omega) (fun i hi => by
   obtain ⟨y, hy⟩ := h (i + 1) (by omega)
   refine ⟨y, ?_⟩
   unfold cut at hy ⊢
   rw [List.drop_drop, show 10 + i * 10 = (i + 1) * 10 by omega]
   exact hy)
  refine ⟨x :: xs, by simp [h1], ?_⟩
  unfold InlsC
  refine ⟨cs.take 10, cs.drop 10, (List.take_append_drop 10 cs).symm, ?_, h2⟩
  unfold cut at hx
  simpa using hx
section
variable {H : Type} {enc : TypeId × Value → H} {P : Program} {w : World} {base : Nat} {spare : Nat → Bool} {held : Bool}
theorem open_cites (T : DocTys P) {fuel : Nat} {cell : Value} {x : DataW H × List MemPlace} (hw : WOk P T.cites x.1) (h : DataW.trod enc P w base spare held fuel T.cites [cell] = some x) : ∃ xs : List DCite, CiS (wview w) cell xs ∧ CiOk xs := by
 obtain ⟨n, cs, hsl, hn, hel⟩ := open_sl T.hcites T.ccite (by omega) T.ycite hw h
 have hlen : cs.length = n * 4 := by obtain ⟨_, _, _, h1, _⟩ := hsl; exact h1
 obtain ⟨xs, h1, h2, h5⟩ := chop (fun x : DCite => [str x.key, str x.pre, str x.suf, .bool x.bare]) (fun c => c.key.length ≤ 140737488351232 ∧ c.pre.length ≤ 140737488351232 ∧ c.suf.length ≤ 140737488351232) 4 n cs hlen (fun i hi => by
  obtain ⟨m, y, _, h3, hy⟩ := hel i hi
  obtain ⟨hl, hf⟩ := open_flds T.hcite hy h3
  rw [T.ccite] at hl
  obtain ⟨_, _, _, a0, q0⟩ := hf 0 0 T.s rfl
  obtain ⟨_, _, _, a1, q1⟩ := hf 1 1 T.s rfl
  obtain ⟨_, _, _, a2, q2⟩ := hf 2 2 T.s rfl
  obtain ⟨_, _, _, a3, q3⟩ := hf 3 3 T.bool rfl
  rw [T.cs] at a0 a1 a2
  rw [T.cbool] at a3
  obtain ⟨s0, b0, p0, _⟩ := DataW.trod_string T.hs a0
  obtain ⟨s1, b1, p1, _⟩ := DataW.trod_string T.hs a1
  obtain ⟨s2, b2, p2, _⟩ := DataW.trod_string T.hs a2
  obtain ⟨b, b3, _⟩ := DataW.trod_bool T.hbool a3
  obtain ⟨l0, e0, z0⟩ := str_of' s0
  obtain ⟨l1, e1, z1⟩ := str_of' s1
  obtain ⟨l2, e2, z2⟩ := str_of' s2
  refine ⟨⟨l0, l1, l2, b⟩, ?_, by rw [z0]; exact WOk.str (p0 ▸ q0), by rw [z1]; exact WOk.str (p1 ▸ q1), by rw [z2]; exact WOk.str (p2 ▸ q2)⟩
  generalize cut cs (i * 4) 4 = c at *
  match c, hl with
  | [u0, u1, u2, u3], _ =>
   unfold cut at b0 b1 b2 b3
   simp at b0 b1 b2 b3
   rw [b0, b1, b2, b3, e0, e1, e2])
 refine ⟨xs, ?_, by omega, h5⟩
 unfold CiS
 rw [h1]
 have e1 : citesC xs = cs := h2.symm
 rw [e1]
 exact hsl
theorem intOk_wf {k : Int} (h : (Lit.int .i64 k).wf = true) : IntOk k := by
 unfold IntOk
 simp [Lit.wf, IntKind.min, IntKind.max, IntKind.signed, IntKind.bits] at h
 omega
theorem open_inls (T : DocTys P) : ∀ (fuel : Nat) (cell : Value) (x : DataW H × List MemPlace), WOk P T.inls x.1 → DataW.trod enc P w base spare held fuel T.inls [cell] = some x → ∃ xs : List Inl, InlS (wview w) cell xs ∧ xs.length ≤ 140737488351232 := by
 intro fuel
 induction fuel using Nat.strongRecOn with
 | _ fuel ih =>
  intro cell x hw h
  obtain ⟨n, cs, hsl, hn, hel⟩ := open_sl T.hinls T.cinl (by omega) T.yinl hw h
  have hlen : cs.length = n * 10 := by obtain ⟨_, _, _, h1, _⟩ := hsl; exact h1
  obtain ⟨xs, h1, h2⟩ := chopI (wview w) n cs hlen (fun i hi => by
   obtain ⟨m, y, hm, h3, hy⟩ := hel i hi
   obtain ⟨hl, hf⟩ := open_flds T.hinl hy h3
   rw [T.cinl] at hl
   obtain ⟨_, _, _, a0, q0⟩ := hf 0 0 T.int rfl
   obtain ⟨_, _, _, a1, q1⟩ := hf 1 1 T.s rfl
   obtain ⟨_, _, _, a2, q2⟩ := hf 2 2 T.s rfl
   obtain ⟨_, _, _, a3, q3⟩ := hf 3 3 T.s rfl
   obtain ⟨_, _, _, a4, q4⟩ := hf 4 4 T.attr rfl
   obtain ⟨_, _, _, a5, q5⟩ := hf 5 7 T.ss rfl
   obtain ⟨_, _, _, a6, q6⟩ := hf 6 8 T.cites rfl
   obtain ⟨m', _, hm', a7, q7⟩ := hf 7 9 T.inls rfl
   rw [T.cint] at a0
   rw [T.cs] at a1 a2 a3
   rw [T.cattr] at a4
   rw [T.css] at a5
   rw [T.ccites] at a6
   rw [T.cinls] at a7
   generalize cut cs (i * 10) 10 = c at *
   match c, hl with
   | [u0, u1, u2, u3, u4, u5, u6, u7, u8, u9], _ =>
    obtain ⟨k, b0, _, p0⟩ := DataW.trod_int T.hint a0
    obtain ⟨s1, b1, p1, _⟩ := DataW.trod_string T.hs a1
    obtain ⟨s2, b2, p2, _⟩ := DataW.trod_string T.hs a2
    obtain ⟨s3, b3, p3, _⟩ := DataW.trod_string T.hs a3
    obtain ⟨l1, e1, z1⟩ := str_of' s1
    obtain ⟨l2, e2, z2⟩ := str_of' s2
    obtain ⟨l3, e3, z3⟩ := str_of' s3
    obtain ⟨a, ⟨vc, vp, hae, hac, hap⟩, oa⟩ := open_attr T q4 (show DataW.trod enc P w base spare held _ T.attr [u4, u5, u6] = some _ from a4)
    obtain ⟨args, hargs, oargs⟩ := open_strs T.hss T.hs T.cs T.ys q5 (show DataW.trod enc P w base spare held _ T.ss [u7] = some _ from a5)
    obtain ⟨cites, hcites, ocites⟩ := open_cites T q6 (show DataW.trod enc P w base spare held _ T.cites [u8] = some _ from a6)
    obtain ⟨kids, hkids, okids⟩ := ih m' (by omega) u9 _ q7 (show DataW.trod enc P w base spare held _ T.inls [u9] = some _ from a7)
    unfold cut at b0 b1 b2 b3
    simp at b0 b1 b2 b3
    simp only [List.cons.injEq, and_true] at hae
    obtain ⟨rfl, rfl, rfl⟩ := hae
    refine ⟨.mk k l1 l2 l3 a args cites kids, ?_⟩
    rw [b0, b1, b2, b3, e1, e2, e3]
    exact InlC.mk' hac hap hargs hcites hkids ⟨intOk_wf p0, by rw [z1]; exact WOk.str (p1 ▸ q1), by rw [z2]; exact WOk.str (p2 ▸ q2), by rw [z3]; exact WOk.str (p3 ▸ q3), oa, oargs, ocites, okids⟩)
  exact ⟨xs, ⟨cs, by rw [h1]; exact hsl, h2⟩, by omega⟩
end
theorem chopB (u : View) : ∀ (n : Nat) (cs : List Value), cs.length = n * 11 → (∀ i, i < n → ∃ x : Blk, BlkC u x (cut cs (i * 11) 11)) → ∃ xs : List Blk, xs.length = n ∧ BlksC u xs cs
 | 0, cs, hl, _ => ⟨[], rfl, by unfold BlksC; exact List.eq_nil_of_length_eq_zero (by simpa using hl)⟩
 | n + 1, cs, hl, h => by
  obtain ⟨x, hx⟩ := h 0 (by omega)
  have hl2 : cs.length = n * 11 + 11 := by omega
  obtain ⟨xs, h1, h2⟩ := chopB u n (cs.drop 11) (by simp; omega) (fun i hi => by
   obtain ⟨y, hy⟩ := h (i + 1) (by omega)
   refine ⟨y, ?_⟩
   unfold cut at hy ⊢
   rw [List.drop_drop, show 11 + i * 11 = (i + 1) * 11 by omega]
   exact hy)
  refine ⟨x :: xs, by simp [h1], ?_⟩
  unfold BlksC
  refine ⟨cs.take 11, cs.drop 11, (List.take_append_drop 11 cs).symm, ?_, h2⟩
  unfold cut at hx
  simpa using hx
section
variable {H : Type} {enc : TypeId × Value → H} {P : Program} {w : World} {base : Nat} {spare : Nat → Bool} {held : Bool}
theorem open_blks (T : DocTys P) : ∀ (fuel : Nat) (cell : Value) (x : DataW H × List MemPlace), WOk P T.blks x.1 → DataW.trod enc P w base spare held fuel T.blks [cell] = some x → ∃ xs : List Blk, BlkS (wview w) cell xs ∧ xs.length ≤ 140737488351232 := by
 intro fuel
 induction fuel using Nat.strongRecOn with
 | _ fuel ih =>
  intro cell x hw h
  obtain ⟨n, cs, hsl, hn, hel⟩ := open_sl T.hblks T.cblk (by omega) T.yblk hw h
  have hlen : cs.length = n * 11 := by obtain ⟨_, _, _, h1, _⟩ := hsl; exact h1
  obtain ⟨xs, h1, h2⟩ := chopB (wview w) n cs hlen (fun i hi => by
   obtain ⟨m, y, hm, h3, hy⟩ := hel i hi
   obtain ⟨hl, hf⟩ := open_flds T.hblk hy h3
   rw [T.cblk] at hl
   obtain ⟨_, _, _, a0, q0⟩ := hf 0 0 T.int rfl
   obtain ⟨_, _, _, a1, q1⟩ := hf 1 1 T.int rfl
   obtain ⟨_, _, _, a2, q2⟩ := hf 2 2 T.s rfl
   obtain ⟨_, _, _, a3, q3⟩ := hf 3 3 T.s rfl
   obtain ⟨_, _, _, a4, q4⟩ := hf 4 4 T.s rfl
   obtain ⟨_, _, _, a5, q5⟩ := hf 5 5 T.s rfl
   obtain ⟨_, _, _, a6, q6⟩ := hf 6 6 T.attr rfl
   obtain ⟨_, _, _, a7, q7⟩ := hf 7 9 T.inls rfl
   obtain ⟨m', _, hm', a8, q8⟩ := hf 8 10 T.blks rfl
   rw [T.cint] at a0 a1
   rw [T.cs] at a2 a3 a4 a5
   rw [T.cattr] at a6
   rw [T.cinls] at a7
   rw [T.cblks] at a8
   generalize cut cs (i * 11) 11 = c at *
   match c, hl with
   | [u0, u1, u2, u3, u4, u5, u6, u7, u8, u9, u10], _ =>
    obtain ⟨k, b0, _, p0⟩ := DataW.trod_int T.hint a0
    obtain ⟨lv, b1, _, p1⟩ := DataW.trod_int T.hint a1
    obtain ⟨s2, b2, p2, _⟩ := DataW.trod_string T.hs a2
    obtain ⟨s3, b3, p3, _⟩ := DataW.trod_string T.hs a3
    obtain ⟨s4, b4, p4, _⟩ := DataW.trod_string T.hs a4
    obtain ⟨s5, b5, p5, _⟩ := DataW.trod_string T.hs a5
    obtain ⟨l2, e2, z2⟩ := str_of' s2
    obtain ⟨l3, e3, z3⟩ := str_of' s3
    obtain ⟨l4, e4, z4⟩ := str_of' s4
    obtain ⟨l5, e5, z5⟩ := str_of' s5
    obtain ⟨a, ⟨vc, vp, hae, hac, hap⟩, oa⟩ := open_attr T q6 (show DataW.trod enc P w base spare held _ T.attr [u6, u7, u8] = some _ from a6)
    obtain ⟨line, hline, oline⟩ := open_inls T _ u9 _ q7 (show DataW.trod enc P w base spare held _ T.inls [u9] = some _ from a7)
    obtain ⟨kids, hkids, okids⟩ := ih m' (by omega) u10 _ q8 (show DataW.trod enc P w base spare held _ T.blks [u10] = some _ from a8)
    unfold cut at b0 b1 b2 b3 b4 b5
    simp at b0 b1 b2 b3 b4 b5
    simp only [List.cons.injEq, and_true] at hae
    obtain ⟨rfl, rfl, rfl⟩ := hae
    refine ⟨.mk k lv l2 l3 l4 l5 a line kids, ?_⟩
    rw [b0, b1, b2, b3, b4, b5, e2, e3, e4, e5]
    exact BlkC.mk' hac hap hline hkids ⟨intOk_wf p0, intOk_wf p1, by rw [z2]; exact WOk.str (p2 ▸ q2), by rw [z3]; exact WOk.str (p3 ▸ q3), by rw [z4]; exact WOk.str (p4 ▸ q4), by rw [z5]; exact WOk.str (p5 ▸ q5), oa, oline, okids⟩)
  exact ⟨xs, ⟨cs, by rw [h1]; exact hsl, h2⟩, by omega⟩
theorem open_doc (T : DocTys P) {t : TypeId} (ht : FldsAre P t [(0, T.pairs), (1, T.blks)]) (hc : P.cellsOf t = 2) {fuel : Nat} {cs : List Value} {x : DataW H × List MemPlace} (hw : WOk P t x.1) (h : DataW.trod enc P w base spare held fuel t cs = some x) : ∃ (d : DDoc) (vm vb : Value), cs = [vm, vb] ∧ PrS (wview w) vm d.mts ∧ BlkS (wview w) vb d.blocks ∧ DocOk d := by
 obtain ⟨hl, hf⟩ := open_flds ht hw h
 rw [hc] at hl
 obtain ⟨_, _, _, a0, q0⟩ := hf 0 0 T.pairs rfl
 obtain ⟨_, _, _, a1, q1⟩ := hf 1 1 T.blks rfl
 rw [T.cpairs] at a0
 rw [T.cblks] at a1
 match cs, hl with
 | [u0, u1], _ =>
  obtain ⟨ps, hps, ops⟩ := open_prs2 T q0 (show DataW.trod enc P w base spare held _ T.pairs [u0] = some _ from a0)
  obtain ⟨bs, hbs, obs⟩ := open_blks T _ u1 _ q1 (show DataW.trod enc P w base spare held _ T.blks [u1] = some _ from a1)
  exact ⟨⟨ps, bs⟩, u0, u1, rfl, hps, hbs, ops, obs⟩
end
end Go.Eng
