/- Texts for a law, part 2: they walk the functions that the law reaches, and state what holds of them; without conditions beyond each theorem's own. -/
import Derived.Test.YtekkhlepbacapaaDoorPartA
import Derived.Lib.Builder
import Derived.Lib.UnsafeStr
import Derived.Lib.AppendStr
import Derived.Lib.ConvBytes
import Derived.Lib.FrozenHead
import Derived.Laws.BytesArg
namespace Go.Eng
open Go Go.RowKit
set_option linter.unusedSimpArgs false
set_option linter.unusedVariables false
def MapV (u : View) (b : Nat) (kvs : List (Value × Value)) : Prop := ∃ es c, u b = some (.map es c) ∧ es.toList.map (fun e => (e.key, e.val)) = kvs
theorem MapV.mono {u u' : View} {b : Nat} {kvs : List (Value × Value)} (h : MapV u b kvs) (hu : VLe u u') : MapV u' b kvs := let ⟨es, c, h1, h2⟩ := h; ⟨es, c, hu _ _ h1, h2⟩
section
variable {F : Fx} {ρ : Env} {σ : Own} {u : View} {Q : Post} {bk : Nat → Option Nat} {hd : Nat → Value} {a : Act} {w : World} {σS : Own} {uS : View} {o : Oper}
end
theorem SlC.block {u : View} {ad : Option Addr} {n cap sz : Nat} {xs : List Value} (h : SlC u ad n cap sz xs) (hn : 0 < n) : ∃ b off c T fr, ad = some ⟨b, off, none⟩ ∧ u b = some (.cells c T fr) ∧ cut c.toList off (n * sz) = xs := by
 obtain ⟨b, off, c, T, fr, h1, h2, h3⟩ := h.2.2.2 (by omega)
 exact ⟨b, off, c, T, fr, h1, h2, h3⟩
end Go.Eng
namespace Go.Eng
open Go Go.RowKit
set_option linter.unusedSimpArgs false
set_option linter.unusedVariables false
def isPtrT (P : Program) (t : TypeId) : Option TypeId := match P.underlying t with
 | some (.pointer e) => some e
 | _ => none
theorem isPtrT_some {P : Program} {t e : TypeId} (h : isPtrT P t = some e) : P.underlying t = some (.pointer e) := by
 unfold isPtrT at h
 split at h
 ·
  rename_i x hx; cases h; exact hx
 ·
  cases h
def bytesC (l : List UInt8) : List Value := Lib.byteCells l
theorem bytesC_append (a b : List UInt8) : bytesC (a ++ b) = bytesC a ++ bytesC b := by simp [bytesC, Lib.byteCells]
section
variable {F : Fx} {ρ : Env} {σ : Own} {u : View} {Q : Post} {bk : Nat → Option Nat} {hd : Nat → Value} {a : Act} {w : World} {σS : Own} {uS : View} {o : Oper}
theorem do_alloc_t {K : Env → Own → View → Prop} {d : Nat} {T ty : TypeId} {pos : String} {aft : Array Edge} {zs : List Value} (hS : subO σS σ) (hz : tyZ F.P T = some zs)
  (hr : noref d ρ = true) (hσ : gv σ d = none) (hn : Nat.blt d F.n = true) (h : K ((d, .p d 0) :: ρ) ((d, (none, .bt T zs)) :: σ) u) : Does F σS ⟨some d, .alloc T, ty, pos, aft, none⟩ ρ σ u K := by
 intro bk hd a w Q hR N hN
 obtain ⟨z, hzr, rfl⟩ := tyZ_some hz
 have hrun : (execOp a.eval ⟨some d, .alloc T, ty, pos, aft, none⟩).run F.P w = .ok (.value (.pointer (some ⟨w.heap.size, 0, none⟩))) (w.alloc (.cells z.cells.toList.toArray T)) := by
  simp [execOp, Instr.alloc, newVar, run_newRow, hzr]
 unfold Oper.wp
 rw [hrun]
 refine hN _ _ _ _ _ _ _ h ((hR.alloc (hv := undef) hr hσ (o := .bt T z.cells.toList) ⟨w.heap.size, rfl, heap_alloc_new w _⟩ (fun b hb => by cases hb; rfl)).put (blt_lt hn) ?_) (fun x hx => same_alloc hR hS hσ hx)
 exact ⟨w.heap.size, by simp, rfl⟩
theorem y_load_t {t T : TypeId} {x : Operand} {id off n : Nat} {g : Bool} {cs cs' vs : List Value} {z : Value} {pn pn' : Option Nat} (ho : o.op = .load t x) (hk : tyK F.P t = some (g, n)) (hx : opv ρ x = some (.p id off))
  (hs : gv σ id = some (pn, .bt T cs)) (hS : gv σS id = some (pn', .bt T cs')) (hc : cut cs off n = vs) (hl : vs.length = n) (hz : packV g vs = some z) : Yld F σS uS ρ σ u o (.v z) := by
 intro bk hd a w hR
 obtain ⟨b, hb, hx'⟩ := hR.opS hx
 obtain ⟨⟨b', hb', hh⟩, _⟩ := hR.own id _ hs
 rw [hb] at hb'
 cases hb'
 refine ⟨z, rfl, fun w' hw => ?_⟩
 have hh' := (hw.2 id _ b hS hb).trans hh
 simp [execOp, ho, hx', Instr.loadAt, Instr.sureAddr, run_loadVar_cut hk hh' (by simpa using hc) hl hz]
theorem do_store_t {K : Env → Own → View → Prop} {T ty T' : TypeId} {x y : Operand} {pos : String} {aft : Array Edge} {id off n : Nat} {g : Bool} {pn : Option Nat} {cs vs cs' : List Value} {z : Value} (hS : subO σS σ) (hid : gv σS id = none) (hk : tyK F.P T = some (g, n))
  (hx : opv ρ x = some (.p id off)) (hy : (opv ρ y).bind (svV σ) = some z) (hs : gv σ id = some (pn, .bt T' cs)) (hz : z.cells.toList = vs) (hl : vs.length = n) (h1 : vs.all Value.oneCell' = true) (hle : off + n ≤ cs.length) (hc : setAt cs off vs = cs')
  (h : K ρ ((id, (pn, .bt T' cs')) :: σ) u) : Does F σS ⟨none, .store T x y, ty, pos, aft, none⟩ ρ σ u K := by
 intro bk hd a w Q hR N hN
 obtain ⟨b, hb, hx'⟩ := hR.opS hx
 obtain ⟨⟨b', hb', hh⟩, hpn⟩ := hR.own id _ hs
 rw [hb] at hb'; cases hb'
 have hy' : a.eval y = z := by
  obtain ⟨sv, h1, h2⟩ := Option.bind_eq_some_iff.1 hy
  exact hR.svV (hR.opS h1) h2
 have hrun : (execOp a.eval ⟨none, .store T x y, ty, pos, aft, none⟩).run F.P w = .ok .skip (w.setRow b cs'.toArray) := by
  have := run_storeVar_at (P := F.P) hk hh hz hl h1 (by simpa using hle)
  simp only [hc] at this
  simp [execOp, hx', hy', Instr.storeAt, Instr.sureAddr, this]
 unfold Oper.wp
 rw [hrun]
 exact hN _ _ _ _ _ _ _ h (hR.setOwn hs (fun k e => e ▸ hb) ⟨⟨b, hb, setRow_heap w b _ _ T' _ hh⟩, hpn⟩ (fun k hk => hk)) (fun x hx => same_row hR hS hs hid (fun k e => e ▸ hb) hx)
theorem run_ptr_eql_nil {P : Program} {t e : TypeId} {q : Option Addr} (ht : isPtrT P t = some e) (w : World) : (binOp .eql t (.pointer q) (.pointer none)).run P w = .ok (.bool q.isNone) w := by
 have hp := isPtrT_some ht
 have h : ∀ d : Nat, (Op.equalIn (d + 1) t (.pointer q) (.pointer none)).run P w = .ok q.isNone w := fun d => by
  cases q <;> simp [Op.equalIn, run_underlying hp]
 simp only [binOp]
 simp [Op.equal, Op.maxDepth, h 9999]
theorem y_ptr_eql_nil {t t' e : TypeId} {x y : Operand} {q : Option Addr} (ho : o.op = .binOp .eql t x y t') (ht : isPtrT F.P t = some e) (hx : opv ρ x = some (.v (.pointer q))) (hy : opv ρ y = some (.v (.pointer none))) : Yld F σS uS ρ σ u o (.v (.bool q.isNone)) := by
 intro bk hd a w hR
 refine ⟨_, rfl, fun w' _ => ?_⟩
 have h := run_ptr_eql_nil (q := q) ht w'
 simp [execOp, ho, hR.op hx, hR.op hy, eqGuard, h]
theorem y_ptr_neq_self {t t' e : TypeId} {x y : Operand} {q : Addr} {n : Nat} {g : Bool} (ho : o.op = .binOp .neq t x y t') (ht : isPtrT F.P t = some e) (hk : tyK F.P e = some (g, n)) (hx : (opv ρ x).bind (svV σ) = some (.pointer (some q))) (hy : (opv ρ y).bind (svV σ) = some (.pointer (some q))) : Yld F σS uS ρ σ u o (.v (.bool false)) := by
 intro bk hd a w hR
 obtain ⟨_, inf, _, hinf, _, _⟩ := tyK_some hk
 have ex : a.eval x = .pointer (some q) := by
  obtain ⟨sv, h1, h2⟩ := Option.bind_eq_some_iff.1 hx
  exact hR.svV (hR.opS h1) h2
 have ey : a.eval y = .pointer (some q) := by
  obtain ⟨sv, h1, h2⟩ := Option.bind_eq_some_iff.1 hy
  exact hR.svV (hR.opS h1) h2
 refine ⟨_, rfl, fun w' _ => ?_⟩
 have h1 := Lib.run_neq_ptr_same (P := F.P) w' q (isPtrT_some ht) hinf
 simp [execOp, ho, ex, ey, eqGuard, h1]
theorem y_to_unsafe {src dst t T : TypeId} {x : Operand} {id n : Nat} {g : Bool} {pn pn' : Option Nat} {cs cs' : List Value} (ho : o.op = .convert src dst x) (hs' : isPtrT F.P src = some t) (hd' : F.P.underlying dst = some .unsafePointer) (hk : tyK F.P t = some (g, n)) (hn : Nat.beq n 0 = false)
  (hx : opv ρ x = some (.p id 0)) (hs : gv σ id = some (pn, .bt T cs)) (hS : gv σS id = some (pn', .bt T cs')) (hl : Nat.blt 0 cs.length = true) : Yld F σS uS ρ σ u o (.p id 0) := by
 intro bk hd a w hR
 obtain ⟨_, inf, _, hinf, _, hsz⟩ := tyK_some hk
 obtain ⟨b, hb, hx'⟩ := hR.opS hx
 obtain ⟨⟨b', hb', hh⟩, _⟩ := hR.own id _ hs
 rw [hb] at hb'
 cases hb'
 refine ⟨_, ⟨b, hb, rfl⟩, fun w' hw => ?_⟩
 have hh' := (hw.2 id _ b hS hb).trans hh
 have h1 := Lib.run_to_unsafe (P := F.P) w' (src := src) (dst := dst) (t := t) (e := T) (cells := cs.length) ⟨b, 0, none⟩ (isPtrT_some hs') hd' hinf (fun e => by rw [hsz] at e; simp [e] at hn) (by simp [World.shape?, hh']) (blt_lt hl)
 simp [execOp, ho, hx', h1]
theorem y_from_unsafe {src dst t T : TypeId} {x : Operand} {id n : Nat} {g : Bool} {pn pn' : Option Nat} {cs cs' : List Value} (ho : o.op = .convert src dst x) (hs' : F.P.underlying src = some .unsafePointer) (hd' : isPtrT F.P dst = some t) (hk : tyK F.P t = some (g, n))
  (hx : opv ρ x = some (.p id 0)) (hs : gv σ id = some (pn, .bt T cs)) (hS : gv σS id = some (pn', .bt T cs')) (hlies : liesAt F.P F.P.depth T (cs.length / F.P.cellsOf T) 0 t 1 = true) : Yld F σS uS ρ σ u o (.p id 0) := by
 intro bk hd a w hR
 obtain ⟨_, inf, _, hinf, _, hsz⟩ := tyK_some hk
 obtain ⟨b, hb, hx'⟩ := hR.opS hx
 obtain ⟨⟨b', hb', hh⟩, _⟩ := hR.own id _ hs
 rw [hb] at hb'
 cases hb'
 refine ⟨_, ⟨b, hb, rfl⟩, fun w' hw => ?_⟩
 have hh' := (hw.2 id _ b hS hb).trans hh
 have h1 := Lib.run_from_unsafe (P := F.P) w' (src := src) (dst := dst) (u := t) (e := T) (cells := cs.length) ⟨b, 0, none⟩ hs' (isPtrT_some hd') hinf (by simp [World.shape?, hh']) hlies
 simp [execOp, ho, hx', h1]
def isNoEscape (P : Program) (f : FuncId) : Prop := ∃ fn, P.funcs[f]? = some fn ∧ (fn.name == "runtime.NumGoroutine") = false ∧ fn.body.isNone = true ∧ Extern.findNext fn = none ∧ Extern.find fn = some Extern.AbiNoEscape.same
theorem y_noEscape {x : Operand} {f : FuncId} {ts : Array TypeId} {id : Nat} (ho : o.op = .call { callee := .value (.func f), args := #[x], argTypes := ts }) (hf : isNoEscape F.P f) (hx : opv ρ x = some (.p id 0)) : Yld F σS uS ρ σ u o (.p id 0) := by
 intro bk hd a w hR
 obtain ⟨b, hb, hx'⟩ := hR.opS hx
 obtain ⟨fn, h1, h2, h3, h4, h5⟩ := hf
 refine ⟨_, ⟨b, hb, rfl⟩, fun w' _ => ?_⟩
 have hc : ∀ args, (callFunc f args).run F.P w' = ((Extern.AbiNoEscape.same args).run F.P w').andThen fun v w2 => .ok (.value v) w2 := fun args => run_callFunc_extern h1 h2 h3 h4 h5 args w'
 have hfn : a.eval (.func f) = .func (.func f) #[] #[] := rfl
 simp [execOp, ho, resolve, Deferred.ofValue, invoke, hx', hfn, hc, Lib.run_noEscape]
theorem append_str_run {P : Program} {w : World} {t t2 ty e : TypeId} {by' : Nat} (ht : tyS P t = some (e, 1, by')) (ht2 : P.underlying t2 = some .string) (hb1 : Nat.beq by' 1 = true) (hz : tyV P e = some (.int .u8 0))
  {v : Value} {n : Nat} {xs : List Value} (hown : w.ownsRow 0 e 1 v n xs) (s : ByteArray) (h63 : n + s.size ≤ maxLen) (hbytes : n + s.size ≤ 140737488355328) :
  ∃ v' w', (Builtin.append_ #[t, t2] ty #[v, .string s]).run P w = .ok v' w' ∧ w'.ownsRow 0 e 1 v' (n + s.size) (xs ++ Lib.strCells s) ∧ w.grownBy w' v.ownBlock ∧ (∀ b, v'.ownBlock = some b → v.ownBlock = some b ∨ w.heap.size ≤ b) := by
 obtain ⟨i, hu, hi, hisz, hiby⟩ := tyS_some ht
 have hz2 : i.zero = some (.int .u8 0) := by unfold tyV at hz; rw [hi] at hz; exact hz
 have hby : i.bytes = 1 := by rw [hiby]; exact Nat.eq_of_beq_eq_true hb1
 obtain ⟨v', w', hrun, ho, hgr, hiff⟩ := Lib.run_append_own_string (P := P) w 0 t t2 ty e i hu ht2 hi hz2 hisz hby v n xs hown s h63 hbytes (Nat.zero_le _)
 refine ⟨v', w', hrun, ho, hgr, fun b hb => ?_⟩
 rcases hown.2 with ⟨rfl, rfl⟩ | ⟨g, cap, cur, rfl, hbg, hg, hnc, hcm, hcs, htake⟩
 ·
  obtain ⟨v2, w2, hrun2, ho2, _, _⟩ := Lib.run_append_own_string (P := P) w w.heap.size t t2 ty e i hu ht2 hi hz2 hisz hby _ 0 xs ⟨hown.1, .inl ⟨rfl, rfl⟩⟩ s h63 hbytes (Nat.le_refl _)
  rw [hrun] at hrun2
  cases hrun2
  exact .inr (ho2.lt b hb).1
 ·
  by_cases hroom : n + s.size ≤ cap
  ·
   have hr := Lib.run_append_room_string (P := P) w t t2 ty e i hu ht2 hi hisz g n cap cur hg s hroom (by rw [hcs]; omega)
   rw [hr] at hrun
   cases hrun
   exact .inl hb
  ·
   have hr := Lib.run_append_grow_string (P := P) w t t2 ty e i (.int .u8 0) hu ht2 hi hz2 ⟨g, 0, none⟩ n cap xs (by rw [hisz]; exact hown.1) (hown.cells (g := g) rfl) s (by omega) (by simp only [maxLen] at h63; omega) (by rw [hby]; exact growslice_fits (by omega) (by omega))
   rw [hr] at hrun
   cases hrun
   simp [Value.ownBlock] at hb
   exact .inr (by omega)
theorem do_append_str {K : Env → Own → View → Prop} {d : Nat} {t t2 ty E : TypeId} {x y : Operand} {ts : Array TypeId} {pos : String} {aft : Array Edge} (id : Nat) {by' n : Nat} {pn : Option Nat} {vx : Value} {xs : List Value} {s : List UInt8} (hS : subO σS σ) (hid : gv σS id = none) (hts : ts = #[t, t2]) (ht : tyS F.P t = some (E, 1, by')) (ht2 : F.P.underlying t2 = some .string) (hb1 : Nat.beq by' 1 = true) (hz : tyV F.P E = some (.int .u8 0))
  (hx : opv ρ x = some (.v vx)) (hs : gv σ id = some (pn, .rwv vx E 1 n xs)) (hr : noref id ρ = true) (hn : Nat.blt d F.n = true)
  (hy : opv ρ y = some (.v (str s))) (h63 : n + s.length ≤ 1099511627776)
  (h : ∀ (ad' : Option Addr) (cap' : Nat), K ((d, .v (.slice ad' (n + s.length) cap')) :: ρ) ((id, (none, .rwv (.slice ad' (n + s.length) cap') E 1 (n + s.length) (xs ++ bytesC s))) :: rm id σ) u) :
  Does F σS ⟨some d, .call { callee := .builtin .append, args := #[x, y], argTypes := ts }, ty, pos, aft, none⟩ ρ σ u K := by
 subst hts
 intro bk hd a w Q hR N hN
 obtain ⟨⟨hdv, hown, hbk⟩, _⟩ := hR.own id _ hs
 have hev : a.eval x = vx := hR.op hx
 have hsz : (⟨s.toArray⟩ : ByteArray).size = s.length := by simp [ByteArray.size]
 obtain ⟨v', w', hrun, ho', hgr, hblk⟩ := append_str_run (ty := ty) ht ht2 hb1 hz hown ⟨s.toArray⟩ (by rw [hsz]; unfold maxLen; omega) (by rw [hsz]; omega)
 have hcs : Lib.strCells ⟨s.toArray⟩ = bytesC s := rfl
 rw [hsz, hcs] at ho'
 have hrun' : (execOp a.eval ⟨some d, .call { callee := .builtin .append, args := #[x, y], argTypes := #[t, t2] }, ty, pos, aft, none⟩).run F.P w = .ok (.value v') w' := by
  have hy' := hR.op hy
  simp only [str] at hy'
  simp [execOp, resolve, invoke, builtin, hev, hy', hrun]
 unfold Oper.wp
 rw [hrun']
 have hh : ∀ b, (hd id).ownBlock = some b → bk id = some b := fun b hb => by rw [hdv] at hb; exact hbk.trans hb
 have hrm : gv (rm id σ) id = none := by
  cases hg : gv (rm id σ) id with
  | none => rfl
  | some q => exact absurd rfl (gv_rm hg).1
 have hgr' : w.grownBy w' (hd id).ownBlock := by rw [hdv]; exact hgr
 have hblk' : ∀ b, v'.ownBlock = some b → (hd id).ownBlock = some b ∨ w.heap.size ≤ b := by rw [hdv]; exact hblk
 have hR2 : RepAt F (fun j => if j = id then v'.ownBlock else bk j) (fun j => if j = id then v' else hd j) ρ ((id, (none, .rwv v' E 1 (n + s.length) (xs ++ bytesC s))) :: rm id σ) u a w' := by
  refine (hR.appended hs hgr' hh).addOwn hr hrm (p := (none, .rwv v' E 1 (n + s.length) (xs ++ bytesC s))) (bo := v'.ownBlock) (hv := v') ⟨⟨rfl, ho', rfl⟩, by simp⟩ ?_
  intro b hb
  rcases hblk' b hb with hb2 | hb2
  ·
   have hbid := hh b hb2
   obtain ⟨f1, f2⟩ := hR.fresh id _ b hs hbid
   refine ⟨f1, f2, fun i oo hi e => ?_⟩
   obtain ⟨hne, hi⟩ := gv_rm hi
   exact hne (hR.inj i id oo _ b hi hs e hbid)
  ·
   refine ⟨.inr (Nat.le_trans hR.frame.2.2.2.1 hb2), ?_, ?_⟩
   ·
    cases hu : u b with
    | none => rfl
    | some o => exact absurd (hR.agree.lt hu) (by omega)
   ·
    intro i oo hi e
    obtain ⟨hne, hi⟩ := gv_rm hi
    exact absurd ((hR.own i oo hi).lt e) (by omega)
 obtain ⟨ad', cap', rfl⟩ : ∃ ad' cap', v' = .slice ad' (n + s.length) cap' := by
  rcases ho'.2 with ⟨hv, hn⟩ | ⟨g, cap, cur, hv, _⟩
  ·
   exact ⟨none, 0, by rw [hv, hn]⟩
  ·
   exact ⟨_, _, hv⟩
 refine hN _ _ _ _ _ _ _ (h ad' cap') (hR2.put (blt_lt hn) rfl) (fun x hx => ?_)
 refine same_of (VLe.refl u) (fun i q hi => ?_) (fun i q b hi hb => ?_) hx
 ·
  have : i ≠ id := fun e => by rw [e, hid] at hi; cases hi
  simp [this]
 ·
  have hq := gv_subO hS i q hi
  exact hgr'.block b ((hR.own i q hq).lt hb) fun e => by
   have := hR.inj i id q _ b hq hs hb (hh b e.symm)
   rw [this, hid] at hi; cases hi
def SDat (vx : Value) (n : Nat) (p : Value) : Prop := ∃ q, p = .pointer q ∧ (n ≠ 0 → ∃ g cap, vx = .slice (some ⟨g, 0, none⟩) n cap ∧ q = some ⟨g, 0, none⟩)
theorem do_sliceData {K : Env → Own → View → Prop} {d : Nat} {ty e E : TypeId} {x : Operand} {ts : Array TypeId} {pos : String} {aft : Array Edge} (id : Nat) {n : Nat} {pn : Option Nat} {vx : Value} {xs : List Value} (hS : subO σS σ) (hp : isPtrT F.P ty = some e)
  (hx : opv ρ x = some (.v vx)) (hs : gv σ id = some (pn, .rwv vx E 1 n xs)) (hn : Nat.blt d F.n = true) (h : ∀ p, SDat vx n p → K ((d, .v p) :: ρ) σ u) :
  Does F σS ⟨some d, .call { callee := .builtin .unsafeSliceData, args := #[x], argTypes := ts }, ty, pos, aft, none⟩ ρ σ u K := by
 intro bk hd a w Q hR N hN
 obtain ⟨⟨hdv, hown, hbk⟩, _⟩ := hR.own id _ hs
 have hev : a.eval x = vx := hR.op hx
 have key : ∃ p w', (Builtin.unsafeSliceData_ ts ty #[vx]).run F.P w = .ok p w' ∧ SDat vx n p ∧ Frame0 w noD w' := by
  rcases hown.2 with ⟨rfl, hn⟩ | ⟨g, cap, cur, rfl, hbg, hg, hnc, hcm, hcs, htake⟩
  ·
   exact ⟨_, w, Lib.run_unsafeSliceData_nil w ts ty 0 0, ⟨none, rfl, fun hne => absurd hn hne⟩, Frame0.refl _ _⟩
  ·
   by_cases hc : cap = 0
   ·
    subst hc
    exact ⟨_, _, Lib.run_unsafeSliceData_zero w ts ty e (isPtrT_some hp) ⟨g, 0, none⟩ n (E, cur.size) (by simp [World.shape?, hg]), ⟨_, rfl, fun hne => absurd (by omega) hne⟩, Frame0.alloc _ _⟩
   ·
    exact ⟨_, w, Lib.run_unsafeSliceData_row w ts ty _ _ _ hc, ⟨_, rfl, fun _ => ⟨g, cap, rfl, rfl⟩⟩, Frame0.refl _ _⟩
 obtain ⟨p, w', hrun, hsd, hfr⟩ := key
 have hrun' : (execOp a.eval ⟨some d, .call { callee := .builtin .unsafeSliceData, args := #[x], argTypes := ts }, ty, pos, aft, none⟩).run F.P w = .ok (.value p) w' := by
  simp [execOp, resolve, invoke, builtin, hev, hrun]
 unfold Oper.wp
 rw [hrun']
 exact hN _ _ _ _ _ _ _ (h p hsd) ((hR.grow hfr).put (blt_lt hn) rfl) (fun x hx => same_of (VLe.refl u) (fun _ _ _ => ⟨rfl, rfl⟩) (fun i q b hi hb => hfr.2.2.2.2 b ((hR.own i q (gv_subO hS i q hi)).lt hb) (fun h => h)) hx)
theorem do_unsafeString {K : Env → Own → View → Prop} {d : Nat} {ty pt it E : TypeId} {x y : Operand} {ts : Array TypeId} {pos : String} {aft : Array Edge} (id : Nat) {pn : Option Nat} {vx p : Value} {l : List UInt8} {n : Nat} (hS : subO σS σ) (hid : gv σS id = none) (hts : ts = #[pt, it]) (hp : isPtrT F.P pt = some E) (hc : Nat.beq (F.P.cellsOf E) 1 = true)
  (hx : opv ρ x = some (.v p)) (hy : opv ρ y = some (.v (.int .i64 l.length))) (hs : gv σ id = some (pn, .rwv vx E 1 n (bytesC l))) (hn' : n = l.length) (hsd : SDat vx n p) (hn : Nat.blt d F.n = true) (hl63 : l.length ≤ 1099511627776) (hr : noref id ρ = true) (h : K ((d, .v (str l)) :: ρ) ((id, (none, .fg (fun _ => False) (fun _ => True))) :: rm id σ) u) :
  Does F σS ⟨some d, .call { callee := .builtin .unsafeString, args := #[x, y], argTypes := ts }, ty, pos, aft, none⟩ ρ σ u K := by
 subst hts; subst hn'
 intro bk hd a w Q hR N hN
 obtain ⟨⟨hdv, hown, hbk⟩, _⟩ := hR.own id _ hs
 obtain ⟨q, rfl, hq⟩ := hsd
 have hh : ∀ b, (hd id).ownBlock = some b → bk id = some b := fun b hb => by rw [hdv] at hb; exact hbk.trans hb
 have key : ∃ w', (Builtin.unsafeString_ #[pt, it] ty #[.pointer q, .int .i64 l.length]).run F.P w = .ok (str l) w' ∧ w.grownBy w' vx.ownBlock := by
  by_cases h0 : l = []
  ·
   subst h0
   exact ⟨w, Lib.run_unsafeString_none w pt it ty q, ⟨rfl, rfl, rfl, Nat.le_refl _, fun _ _ _ => rfl⟩⟩
  ·
   obtain ⟨g, cap, rfl, rfl⟩ := hq (by simpa using h0)
   rcases hown.2 with ⟨hv, _⟩ | ⟨g', cap', cur, hv, hbg, hg, hnc, hcm, hcs, htake⟩
   ·
    cases hv
   ·
    cases hv
    refine ⟨_, Lib.run_unsafeString_row w pt it ty E (isPtrT_some hp) (Nat.eq_of_beq_eq_true hc) g cur.size (by simp [World.shape?, hg]) l h0 (by omega) (by omega) ?_, ?_⟩
    ·
     intro j x hx
     exact hown.cells (g := g) rfl j (.int .u8 x.toNat) (by simp [bytesC, Lib.byteCells, hx])
    ·
     show w.grownBy (w.freeze ⟨g, 0, none⟩ l.length) (some g)
     unfold World.freeze
     split
     ·
      exact ⟨rfl, rfl, rfl, Nat.le_refl _, fun _ _ _ => rfl⟩
     ·
      exact ⟨rfl, rfl, rfl, by simp, fun k _ hk => by
       simp only [Array.getElem?_modify]
       rw [if_neg (fun e => hk (by rw [← e]))]⟩
 obtain ⟨w', hrun, hgr⟩ := key
 have hrun' : (execOp a.eval ⟨some d, .call { callee := .builtin .unsafeString, args := #[x, y], argTypes := #[pt, it] }, ty, pos, aft, none⟩).run F.P w = .ok (.value (str l)) w' := by
  simp [execOp, resolve, invoke, builtin, hR.op hx, hR.op hy, hrun]
 unfold Oper.wp
 rw [hrun']
 have hgr' : w.grownBy w' (hd id).ownBlock := by rw [hdv]; exact hgr
 have hrm : gv (rm id σ) id = none := by
  cases hg : gv (rm id σ) id with
  | none => rfl
  | some q => exact absurd rfl (gv_rm hg).1
 have hR2 := (hR.appended hs hgr' hh).addOwn hr hrm (p := (none, .fg (fun _ => False) (fun _ => True))) (bo := none) (hv := undef) ⟨⟨fun _ _ => trivial, fun k hk => hk.elim⟩, by simp⟩ (fun b hb => hb.elim)
 refine hN _ _ _ _ _ _ _ h (hR2.put (blt_lt hn) rfl) (fun x hx => ?_)
 refine same_of (VLe.refl u) (fun i q hi => ?_) (fun i q b hi hb => ?_) hx
 ·
  have : i ≠ id := fun e => by rw [e, hid] at hi; cases hi
  simp [this]
 ·
  have hq := gv_subO hS i q hi
  exact hgr'.block b ((hR.own i q hq).lt hb) fun e => by
   have := hR.inj i id q _ b hq hs hb (hh b e.symm)
   rw [this, hid] at hi; cases hi
end
end Go.Eng
namespace Go.Eng
open Go Go.RowKit
set_option linter.unusedSimpArgs false
set_option linter.unusedVariables false
section
variable {F : Fx} {ρ : Env} {σ : Own} {u : View} {Q : Post} {bk : Nat → Option Nat} {hd : Nat → Value} {a : Act} {w : World} {σS : Own} {uS : View} {o : Oper}
end
end Go.Eng
namespace Go.Eng
open Go Go.RowKit
set_option linter.unusedSimpArgs false
set_option linter.unusedVariables false
section
variable {F : Fx} {ρ : Env} {σ : Own} {u : View} {Q : Post} {bk : Nat → Option Nat} {hd : Nat → Value} {a : Act} {w : World} {σS : Own} {uS : View} {o : Oper}
theorem gv_again {α : Type} {ρ : List (Nat × α)} {t : Nat} {x : α} (h : gv ρ t = some x) : ∀ k y, gv ((t, x) :: ρ) k = some y → gv ρ k = some y := by
 intro k y hk
 simp only [gv] at hk
 split at hk
 ·
  rename_i hb
  have := Nat.eq_of_beq_eq_true hb
  subst this
  cases hk
  exact h
 ·
  exact hk
theorem RepAt.again (h : RepAt F bk hd ρ σ u a w) {t : Nat} {x : SV} (ht : gv ρ t = some x) : RepAt F bk hd ((t, x) :: ρ) σ u a w :=
 ⟨h.size, h.defers, h.frame, h.agree, h.uold, fun k sv hk => h.slot k sv (gv_again ht k sv hk), h.own, h.fresh, h.inj⟩
theorem Zar {ops : Array Oper} {l : List Oper} (t : Nat) {b : Bool} (hg : opv ρ (.tmp t) = some (.v (.bool b))) (h1 : b = true → RL F ops l ((t, .v (.bool true)) :: ρ) σ u Q) (h0 : b = false → RL F ops l ((t, .v (.bool false)) :: ρ) σ u Q) : RL F ops l ρ σ u Q := by
 rintro a w ⟨bk, hd, hR⟩
 have hR2 := hR.again (t := t) (x := .v (.bool b)) hg
 cases b with
 | true => exact h1 rfl a w ⟨bk, hd, hR2⟩
 | false => exact h0 rfl a w ⟨bk, hd, hR2⟩
theorem ra_case {ops : Array Oper} {fuel : Nat} {listed : Array Bool} (t : Nat) {b : Bool} (hg : opv ρ (.tmp t) = some (.v (.bool b))) (h1 : b = true → RA F ops σS fuel listed ((t, .v (.bool true)) :: ρ) σ u Q) (h0 : b = false → RA F ops σS fuel listed ((t, .v (.bool false)) :: ρ) σ u Q) : RA F ops σS fuel listed ρ σ u Q := by
 intro bk hd a w hR
 have hR2 := hR.again (t := t) (x := .v (.bool b)) hg
 cases b with
 | true => exact h1 rfl bk hd a w hR2
 | false => exact h0 rfl bk hd a w hR2
end
section
variable {P : Program} {ρ : Env} {σ : Own} {u : View} {l l' : List PO} {R : Value → View → List PO → Prop}
end
section
variable {F : Fx} {ρ : Env} {σ : Own} {u : View} {Q : Post} {ops : Array Oper}
end
section
variable {F : Fx} {ρ : Env} {σ : Own} {u : View} {Q : Post} {ops : Array Oper}
end
end Go.Eng
