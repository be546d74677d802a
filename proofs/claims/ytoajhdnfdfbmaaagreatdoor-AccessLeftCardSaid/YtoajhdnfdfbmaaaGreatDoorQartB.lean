/- Texts for a law, part 2: they walk the functions that the law reaches, and state what holds of them; without conditions beyond each theorem's own. -/
import Derived.Test.YtoajhdnfdfbmaaaGreatDoorQartA
import Derived.Lib.Builder
import Derived.Lib.UnsafeStr
import Derived.Lib.AppendStr
import Derived.RangeFuncRecord
import Derived.RangeFuncLeaves
import Derived.RangeFuncSeq
import Derived.OrdersIn
import Derived.Lib.ConvBytes
import Derived.Lib.FrozenHead
import Derived.Laws.BytesArg
namespace Go.Eng
open Go Go.RowKit
set_option linter.unusedSimpArgs false
set_option linter.unusedVariables false
def isPtrT (P : Program) (t : TypeId) : Option TypeId := match P.underlying t with
 | some (.pointer e) => some e
 | _ => none
theorem isPtrT_some {P : Program} {t e : TypeId} (h : isPtrT P t = some e) : P.underlying t = some (.pointer e) := by
 unfold isPtrT at h
 split at h
 ·
  rename_i x hx; cases h; exact hx
 ·
  cases h
def bytesC (l : List UInt8) : List Value := Lib.byteCells l
theorem bytesC_len (l : List UInt8) : (bytesC l).length = l.length := by simp [bytesC, Lib.byteCells]
theorem bytesC_append (a b : List UInt8) : bytesC (a ++ b) = bytesC a ++ bytesC b := by simp [bytesC, Lib.byteCells]
section
variable {F : Fx} {ρ : Env} {σ : Own} {u : View} {Q : Post} {bk : Nat → Option Nat} {hd : Nat → Value} {a : Act} {w : World} {σS : Own} {uS : View} {o : Oper}
theorem do_alloc_t {K : Env → Own → View → Prop} {d : Nat} {T ty : TypeId} {pos : String} {aft : Array Edge} {zs : List Value} (hS : subO σS σ) (hz : tyZ F.P T = some zs)
  (hr : noref d ρ = true) (hσ : gv σ d = none) (hn : Nat.blt d F.n = true) (h : K ((d, .p d 0) :: ρ) ((d, (none, .bt T zs)) :: σ) u) : Does F σS ⟨some d, .alloc T, ty, pos, aft, none⟩ ρ σ u K := by
 intro bk hd a w Q hR N hN
 obtain ⟨z, hzr, rfl⟩ := tyZ_some hz
 have hrun : (execOp a.eval ⟨some d, .alloc T, ty, pos, aft, none⟩).run F.P w = .ok (.value (.pointer (some ⟨w.heap.size, 0, none⟩))) (w.alloc (.cells z.cells.toList.toArray T)) := by
  simp [execOp, Instr.alloc, newVar, run_newRow, hzr]
 unfold Oper.wp
 rw [hrun]
 refine hN _ _ _ _ _ _ _ h ((hR.alloc (hv := undef) hr hσ (o := .bt T z.cells.toList) ⟨w.heap.size, rfl, heap_alloc_new w _⟩ (fun b hb => by cases hb; rfl)).put (blt_lt hn) ?_) (fun x hx => same_alloc hR hS hσ hx)
 exact ⟨w.heap.size, by simp, rfl⟩
theorem y_load_t {t T : TypeId} {x : Operand} {id off n : Nat} {g : Bool} {cs cs' vs : List Value} {z : Value} {pn pn' : Option Nat} (ho : o.op = .load t x) (hk : tyK F.P t = some (g, n)) (hx : opv ρ x = some (.p id off))
  (hs : gv σ id = some (pn, .bt T cs)) (hS : gv σS id = some (pn', .bt T cs')) (hc : cut cs off n = vs) (hl : vs.length = n) (hz : packV g vs = some z) : Yld F σS uS ρ σ u o (.v z) := by
 intro bk hd a w hR
 obtain ⟨b, hb, hx'⟩ := hR.opS hx
 obtain ⟨⟨b', hb', hh⟩, _⟩ := hR.own id _ hs
 rw [hb] at hb'
 cases hb'
 refine ⟨z, rfl, fun w' hw => ?_⟩
 have hh' := (hw.2 id _ b hS hb).trans hh
 simp [execOp, ho, hx', Instr.loadAt, Instr.sureAddr, run_loadVar_cut hk hh' (by simpa using hc) hl hz]
theorem do_store_t {K : Env → Own → View → Prop} {T ty T' : TypeId} {x y : Operand} {pos : String} {aft : Array Edge} {id off n : Nat} {g : Bool} {pn : Option Nat} {cs vs cs' : List Value} {z : Value} (hS : subO σS σ) (hid : gv σS id = none) (hk : tyK F.P T = some (g, n))
  (hx : opv ρ x = some (.p id off)) (hy : (opv ρ y).bind (svV σ) = some z) (hs : gv σ id = some (pn, .bt T' cs)) (hz : z.cells.toList = vs) (hl : vs.length = n) (h1 : vs.all Value.oneCell' = true) (hle : off + n ≤ cs.length) (hc : setAt cs off vs = cs')
  (h : K ρ ((id, (pn, .bt T' cs')) :: σ) u) : Does F σS ⟨none, .store T x y, ty, pos, aft, none⟩ ρ σ u K := by
 intro bk hd a w Q hR N hN
 obtain ⟨b, hb, hx'⟩ := hR.opS hx
 obtain ⟨⟨b', hb', hh⟩, hpn⟩ := hR.own id _ hs
 rw [hb] at hb'; cases hb'
 have hy' : a.eval y = z := by
  obtain ⟨sv, h1, h2⟩ := Option.bind_eq_some_iff.1 hy
  exact hR.svV (hR.opS h1) h2
 have hrun : (execOp a.eval ⟨none, .store T x y, ty, pos, aft, none⟩).run F.P w = .ok .skip (w.setRow b cs'.toArray) := by
  have := run_storeVar_at (P := F.P) hk hh hz hl h1 (by simpa using hle)
  simp only [hc] at this
  simp [execOp, hx', hy', Instr.storeAt, Instr.sureAddr, this]
 unfold Oper.wp
 rw [hrun]
 exact hN _ _ _ _ _ _ _ h (hR.setOwn hs (fun k e => e ▸ hb) ⟨⟨b, hb, setRow_heap w b _ _ T' _ hh⟩, hpn⟩ (fun k hk => hk)) (fun x hx => same_row hR hS hs hid (fun k e => e ▸ hb) hx)
theorem run_ptr_eql_nil {P : Program} {t e : TypeId} {q : Option Addr} (ht : isPtrT P t = some e) (w : World) : (binOp .eql t (.pointer q) (.pointer none)).run P w = .ok (.bool q.isNone) w := by
 have hp := isPtrT_some ht
 have h : ∀ d : Nat, (Op.equalIn (d + 1) t (.pointer q) (.pointer none)).run P w = .ok q.isNone w := fun d => by
  cases q <;> simp [Op.equalIn, run_underlying hp]
 simp only [binOp]
 simp [Op.equal, Op.maxDepth, h 9999]
theorem y_ptr_eql_nil {t t' e : TypeId} {x y : Operand} {q : Option Addr} (ho : o.op = .binOp .eql t x y t') (ht : isPtrT F.P t = some e) (hx : opv ρ x = some (.v (.pointer q))) (hy : opv ρ y = some (.v (.pointer none))) : Yld F σS uS ρ σ u o (.v (.bool q.isNone)) := by
 intro bk hd a w hR
 refine ⟨_, rfl, fun w' _ => ?_⟩
 have h := run_ptr_eql_nil (q := q) ht w'
 simp [execOp, ho, hR.op hx, hR.op hy, eqGuard, h]
theorem y_ptr_neq_self {t t' e : TypeId} {x y : Operand} {q : Addr} {n : Nat} {g : Bool} (ho : o.op = .binOp .neq t x y t') (ht : isPtrT F.P t = some e) (hk : tyK F.P e = some (g, n)) (hx : (opv ρ x).bind (svV σ) = some (.pointer (some q))) (hy : (opv ρ y).bind (svV σ) = some (.pointer (some q))) : Yld F σS uS ρ σ u o (.v (.bool false)) := by
 intro bk hd a w hR
 obtain ⟨_, inf, _, hinf, _, _⟩ := tyK_some hk
 have ex : a.eval x = .pointer (some q) := by
  obtain ⟨sv, h1, h2⟩ := Option.bind_eq_some_iff.1 hx
  exact hR.svV (hR.opS h1) h2
 have ey : a.eval y = .pointer (some q) := by
  obtain ⟨sv, h1, h2⟩ := Option.bind_eq_some_iff.1 hy
  exact hR.svV (hR.opS h1) h2
 refine ⟨_, rfl, fun w' _ => ?_⟩
 have h1 := Lib.run_neq_ptr_same (P := F.P) w' q (isPtrT_some ht) hinf
 simp [execOp, ho, ex, ey, eqGuard, h1]
theorem y_to_unsafe {src dst t T : TypeId} {x : Operand} {id n : Nat} {g : Bool} {pn pn' : Option Nat} {cs cs' : List Value} (ho : o.op = .convert src dst x) (hs' : isPtrT F.P src = some t) (hd' : F.P.underlying dst = some .unsafePointer) (hk : tyK F.P t = some (g, n)) (hn : Nat.beq n 0 = false)
  (hx : opv ρ x = some (.p id 0)) (hs : gv σ id = some (pn, .bt T cs)) (hS : gv σS id = some (pn', .bt T cs')) (hl : Nat.blt 0 cs.length = true) : Yld F σS uS ρ σ u o (.p id 0) := by
 intro bk hd a w hR
 obtain ⟨_, inf, _, hinf, _, hsz⟩ := tyK_some hk
 obtain ⟨b, hb, hx'⟩ := hR.opS hx
 obtain ⟨⟨b', hb', hh⟩, _⟩ := hR.own id _ hs
 rw [hb] at hb'
 cases hb'
 refine ⟨_, ⟨b, hb, rfl⟩, fun w' hw => ?_⟩
 have hh' := (hw.2 id _ b hS hb).trans hh
 have h1 := Lib.run_to_unsafe (P := F.P) w' (src := src) (dst := dst) (t := t) (e := T) (cells := cs.length) ⟨b, 0, none⟩ (isPtrT_some hs') hd' hinf (fun e => by rw [hsz] at e; simp [e] at hn) (by simp [World.shape?, hh']) (blt_lt hl)
 simp [execOp, ho, hx', h1]
theorem y_from_unsafe {src dst t T : TypeId} {x : Operand} {id n : Nat} {g : Bool} {pn pn' : Option Nat} {cs cs' : List Value} (ho : o.op = .convert src dst x) (hs' : F.P.underlying src = some .unsafePointer) (hd' : isPtrT F.P dst = some t) (hk : tyK F.P t = some (g, n))
  (hx : opv ρ x = some (.p id 0)) (hs : gv σ id = some (pn, .bt T cs)) (hS : gv σS id = some (pn', .bt T cs')) (hlies : liesAt F.P F.P.depth T (cs.length / F.P.cellsOf T) 0 t 1 = true) : Yld F σS uS ρ σ u o (.p id 0) := by
 intro bk hd a w hR
 obtain ⟨_, inf, _, hinf, _, hsz⟩ := tyK_some hk
 obtain ⟨b, hb, hx'⟩ := hR.opS hx
 obtain ⟨⟨b', hb', hh⟩, _⟩ := hR.own id _ hs
 rw [hb] at hb'
 cases hb'
 refine ⟨_, ⟨b, hb, rfl⟩, fun w' hw => ?_⟩
 have hh' := (hw.2 id _ b hS hb).trans hh
 have h1 := Lib.run_from_unsafe (P := F.P) w' (src := src) (dst := dst) (u := t) (e := T) (cells := cs.length) ⟨b, 0, none⟩ hs' (isPtrT_some hd') hinf (by simp [World.shape?, hh']) hlies
 simp [execOp, ho, hx', h1]
def isNoEscape (P : Program) (f : FuncId) : Prop := ∃ fn, P.funcs[f]? = some fn ∧ (fn.name == "runtime.NumGoroutine") = false ∧ fn.body.isNone = true ∧ Extern.findNext fn = none ∧ Extern.find fn = some Extern.AbiNoEscape.same
theorem y_noEscape {x : Operand} {f : FuncId} {ts : Array TypeId} {id : Nat} (ho : o.op = .call { callee := .value (.func f), args := #[x], argTypes := ts }) (hf : isNoEscape F.P f) (hx : opv ρ x = some (.p id 0)) : Yld F σS uS ρ σ u o (.p id 0) := by
 intro bk hd a w hR
 obtain ⟨b, hb, hx'⟩ := hR.opS hx
 obtain ⟨fn, h1, h2, h3, h4, h5⟩ := hf
 refine ⟨_, ⟨b, hb, rfl⟩, fun w' _ => ?_⟩
 have hc : ∀ args, (callFunc f args).run F.P w' = ((Extern.AbiNoEscape.same args).run F.P w').andThen fun v w2 => .ok (.value v) w2 := fun args => run_callFunc_extern h1 h2 h3 h4 h5 args w'
 have hfn : a.eval (.func f) = .func (.func f) #[] #[] := rfl
 simp [execOp, ho, resolve, Deferred.ofValue, invoke, hx', hfn, hc, Lib.run_noEscape]
theorem append_str_run {P : Program} {w : World} {t t2 ty e : TypeId} {by' : Nat} (ht : tyS P t = some (e, 1, by')) (ht2 : P.underlying t2 = some .string) (hb1 : Nat.beq by' 1 = true) (hz : tyV P e = some (.int .u8 0))
  {v : Value} {n : Nat} {xs : List Value} (hown : w.ownsRow 0 e 1 v n xs) (s : ByteArray) (h63 : n + s.size ≤ maxLen) (hbytes : n + s.size ≤ 140737488355328) :
  ∃ v' w', (Builtin.append_ #[t, t2] ty #[v, .string s]).run P w = .ok v' w' ∧ w'.ownsRow 0 e 1 v' (n + s.size) (xs ++ Lib.strCells s) ∧ w.grownBy w' v.ownBlock ∧ (∀ b, v'.ownBlock = some b → v.ownBlock = some b ∨ w.heap.size ≤ b) := by
 obtain ⟨i, hu, hi, hisz, hiby⟩ := tyS_some ht
 have hz2 : i.zero = some (.int .u8 0) := by unfold tyV at hz; rw [hi] at hz; exact hz
 have hby : i.bytes = 1 := by rw [hiby]; exact Nat.eq_of_beq_eq_true hb1
 obtain ⟨v', w', hrun, ho, hgr, hiff⟩ := Lib.run_append_own_string (P := P) w 0 t t2 ty e i hu ht2 hi hz2 hisz hby v n xs hown s h63 hbytes (Nat.zero_le _)
 refine ⟨v', w', hrun, ho, hgr, fun b hb => ?_⟩
 rcases hown.2 with ⟨rfl, rfl⟩ | ⟨g, cap, cur, rfl, hbg, hg, hnc, hcm, hcs, htake⟩
 ·
  obtain ⟨v2, w2, hrun2, ho2, _, _⟩ := Lib.run_append_own_string (P := P) w w.heap.size t t2 ty e i hu ht2 hi hz2 hisz hby _ 0 xs ⟨hown.1, .inl ⟨rfl, rfl⟩⟩ s h63 hbytes (Nat.le_refl _)
  rw [hrun] at hrun2
  cases hrun2
  exact .inr (ho2.lt b hb).1
 ·
  by_cases hroom : n + s.size ≤ cap
  ·
   have hr := Lib.run_append_room_string (P := P) w t t2 ty e i hu ht2 hi hisz g n cap cur hg s hroom (by rw [hcs]; omega)
   rw [hr] at hrun
   cases hrun
   exact .inl hb
  ·
   have hr := Lib.run_append_grow_string (P := P) w t t2 ty e i (.int .u8 0) hu ht2 hi hz2 ⟨g, 0, none⟩ n cap xs (by rw [hisz]; exact hown.1) (hown.cells (g := g) rfl) s (by omega) (by simp only [maxLen] at h63; omega) (by rw [hby]; exact growslice_fits (by omega) (by omega))
   rw [hr] at hrun
   cases hrun
   simp [Value.ownBlock] at hb
   exact .inr (by omega)
theorem do_append_str {K : Env → Own → View → Prop} {d : Nat} {t t2 ty E : TypeId} {x y : Operand} {ts : Array TypeId} {pos : String} {aft : Array Edge} (id : Nat) {by' n : Nat} {pn : Option Nat} {vx : Value} {xs : List Value} {s : List UInt8} (hS : subO σS σ) (hid : gv σS id = none) (hts : ts = #[t, t2]) (ht : tyS F.P t = some (E, 1, by')) (ht2 : F.P.underlying t2 = some .string) (hb1 : Nat.beq by' 1 = true) (hz : tyV F.P E = some (.int .u8 0))
  (hx : opv ρ x = some (.v vx)) (hs : gv σ id = some (pn, .rwv vx E 1 n xs)) (hr : noref id ρ = true) (hn : Nat.blt d F.n = true)
  (hy : opv ρ y = some (.v (str s))) (h63 : n + s.length ≤ 1099511627776)
  (h : ∀ (ad' : Option Addr) (cap' : Nat), K ((d, .v (.slice ad' (n + s.length) cap')) :: ρ) ((id, (none, .rwv (.slice ad' (n + s.length) cap') E 1 (n + s.length) (xs ++ bytesC s))) :: rm id σ) u) :
  Does F σS ⟨some d, .call { callee := .builtin .append, args := #[x, y], argTypes := ts }, ty, pos, aft, none⟩ ρ σ u K := by
 subst hts
 intro bk hd a w Q hR N hN
 obtain ⟨⟨hdv, hown, hbk⟩, _⟩ := hR.own id _ hs
 have hev : a.eval x = vx := hR.op hx
 have hsz : (⟨s.toArray⟩ : ByteArray).size = s.length := by simp [ByteArray.size]
 obtain ⟨v', w', hrun, ho', hgr, hblk⟩ := append_str_run (ty := ty) ht ht2 hb1 hz hown ⟨s.toArray⟩ (by rw [hsz]; unfold maxLen; omega) (by rw [hsz]; omega)
 have hcs : Lib.strCells ⟨s.toArray⟩ = bytesC s := rfl
 rw [hsz, hcs] at ho'
 have hrun' : (execOp a.eval ⟨some d, .call { callee := .builtin .append, args := #[x, y], argTypes := #[t, t2] }, ty, pos, aft, none⟩).run F.P w = .ok (.value v') w' := by
  have hy' := hR.op hy
  simp only [str] at hy'
  simp [execOp, resolve, invoke, builtin, hev, hy', hrun]
 unfold Oper.wp
 rw [hrun']
 have hh : ∀ b, (hd id).ownBlock = some b → bk id = some b := fun b hb => by rw [hdv] at hb; exact hbk.trans hb
 have hrm : gv (rm id σ) id = none := by
  cases hg : gv (rm id σ) id with
  | none => rfl
  | some q => exact absurd rfl (gv_rm hg).1
 have hgr' : w.grownBy w' (hd id).ownBlock := by rw [hdv]; exact hgr
 have hblk' : ∀ b, v'.ownBlock = some b → (hd id).ownBlock = some b ∨ w.heap.size ≤ b := by rw [hdv]; exact hblk
 have hR2 : RepAt F (fun j => if j = id then v'.ownBlock else bk j) (fun j => if j = id then v' else hd j) ρ ((id, (none, .rwv v' E 1 (n + s.length) (xs ++ bytesC s))) :: rm id σ) u a w' := by
  refine (hR.appended hs hgr' hh).addOwn hr hrm (p := (none, .rwv v' E 1 (n + s.length) (xs ++ bytesC s))) (bo := v'.ownBlock) (hv := v') ⟨⟨rfl, ho', rfl⟩, by simp⟩ ?_
  intro b hb
  rcases hblk' b hb with hb2 | hb2
  ·
   have hbid := hh b hb2
   obtain ⟨f1, f2⟩ := hR.fresh id _ b hs hbid
   refine ⟨f1, f2, fun i oo hi e => ?_⟩
   obtain ⟨hne, hi⟩ := gv_rm hi
   exact hne (hR.inj i id oo _ b hi hs e hbid)
  ·
   refine ⟨.inr (Nat.le_trans hR.frame.2.2.2.1 hb2), ?_, ?_⟩
   ·
    cases hu : u b with
    | none => rfl
    | some o => exact absurd (hR.agree.lt hu) (by omega)
   ·
    intro i oo hi e
    obtain ⟨hne, hi⟩ := gv_rm hi
    exact absurd ((hR.own i oo hi).lt e) (by omega)
 obtain ⟨ad', cap', rfl⟩ : ∃ ad' cap', v' = .slice ad' (n + s.length) cap' := by
  rcases ho'.2 with ⟨hv, hn⟩ | ⟨g, cap, cur, hv, _⟩
  ·
   exact ⟨none, 0, by rw [hv, hn]⟩
  ·
   exact ⟨_, _, hv⟩
 refine hN _ _ _ _ _ _ _ (h ad' cap') (hR2.put (blt_lt hn) rfl) (fun x hx => ?_)
 refine same_of (VLe.refl u) (fun i q hi => ?_) (fun i q b hi hb => ?_) hx
 ·
  have : i ≠ id := fun e => by rw [e, hid] at hi; cases hi
  simp [this]
 ·
  have hq := gv_subO hS i q hi
  exact hgr'.block b ((hR.own i q hq).lt hb) fun e => by
   have := hR.inj i id q _ b hq hs hb (hh b e.symm)
   rw [this, hid] at hi; cases hi
def SDat (vx : Value) (n : Nat) (p : Value) : Prop := ∃ q, p = .pointer q ∧ (n ≠ 0 → ∃ g cap, vx = .slice (some ⟨g, 0, none⟩) n cap ∧ q = some ⟨g, 0, none⟩)
theorem do_sliceData {K : Env → Own → View → Prop} {d : Nat} {ty e E : TypeId} {x : Operand} {ts : Array TypeId} {pos : String} {aft : Array Edge} (id : Nat) {n : Nat} {pn : Option Nat} {vx : Value} {xs : List Value} (hS : subO σS σ) (hp : isPtrT F.P ty = some e)
  (hx : opv ρ x = some (.v vx)) (hs : gv σ id = some (pn, .rwv vx E 1 n xs)) (hn : Nat.blt d F.n = true) (h : ∀ p, SDat vx n p → K ((d, .v p) :: ρ) σ u) :
  Does F σS ⟨some d, .call { callee := .builtin .unsafeSliceData, args := #[x], argTypes := ts }, ty, pos, aft, none⟩ ρ σ u K := by
 intro bk hd a w Q hR N hN
 obtain ⟨⟨hdv, hown, hbk⟩, _⟩ := hR.own id _ hs
 have hev : a.eval x = vx := hR.op hx
 have key : ∃ p w', (Builtin.unsafeSliceData_ ts ty #[vx]).run F.P w = .ok p w' ∧ SDat vx n p ∧ Frame0 w noD w' := by
  rcases hown.2 with ⟨rfl, hn⟩ | ⟨g, cap, cur, rfl, hbg, hg, hnc, hcm, hcs, htake⟩
  ·
   exact ⟨_, w, Lib.run_unsafeSliceData_nil w ts ty 0 0, ⟨none, rfl, fun hne => absurd hn hne⟩, Frame0.refl _ _⟩
  ·
   by_cases hc : cap = 0
   ·
    subst hc
    exact ⟨_, _, Lib.run_unsafeSliceData_zero w ts ty e (isPtrT_some hp) ⟨g, 0, none⟩ n (E, cur.size) (by simp [World.shape?, hg]), ⟨_, rfl, fun hne => absurd (by omega) hne⟩, Frame0.alloc _ _⟩
   ·
    exact ⟨_, w, Lib.run_unsafeSliceData_row w ts ty _ _ _ hc, ⟨_, rfl, fun _ => ⟨g, cap, rfl, rfl⟩⟩, Frame0.refl _ _⟩
 obtain ⟨p, w', hrun, hsd, hfr⟩ := key
 have hrun' : (execOp a.eval ⟨some d, .call { callee := .builtin .unsafeSliceData, args := #[x], argTypes := ts }, ty, pos, aft, none⟩).run F.P w = .ok (.value p) w' := by
  simp [execOp, resolve, invoke, builtin, hev, hrun]
 unfold Oper.wp
 rw [hrun']
 exact hN _ _ _ _ _ _ _ (h p hsd) ((hR.grow hfr).put (blt_lt hn) rfl) (fun x hx => same_of (VLe.refl u) (fun _ _ _ => ⟨rfl, rfl⟩) (fun i q b hi hb => hfr.2.2.2.2 b ((hR.own i q (gv_subO hS i q hi)).lt hb) (fun h => h)) hx)
theorem do_unsafeString {K : Env → Own → View → Prop} {d : Nat} {ty pt it E : TypeId} {x y : Operand} {ts : Array TypeId} {pos : String} {aft : Array Edge} (id : Nat) {pn : Option Nat} {vx p : Value} {l : List UInt8} {n : Nat} (hS : subO σS σ) (hid : gv σS id = none) (hts : ts = #[pt, it]) (hp : isPtrT F.P pt = some E) (hc : Nat.beq (F.P.cellsOf E) 1 = true)
  (hx : opv ρ x = some (.v p)) (hy : opv ρ y = some (.v (.int .i64 l.length))) (hs : gv σ id = some (pn, .rwv vx E 1 n (bytesC l))) (hn' : n = l.length) (hsd : SDat vx n p) (hn : Nat.blt d F.n = true) (hl63 : l.length ≤ 1099511627776) (hr : noref id ρ = true) (h : K ((d, .v (str l)) :: ρ) ((id, (none, .fg (fun _ => False) (fun _ => True))) :: rm id σ) u) :
  Does F σS ⟨some d, .call { callee := .builtin .unsafeString, args := #[x, y], argTypes := ts }, ty, pos, aft, none⟩ ρ σ u K := by
 subst hts; subst hn'
 intro bk hd a w Q hR N hN
 obtain ⟨⟨hdv, hown, hbk⟩, _⟩ := hR.own id _ hs
 obtain ⟨q, rfl, hq⟩ := hsd
 have hh : ∀ b, (hd id).ownBlock = some b → bk id = some b := fun b hb => by rw [hdv] at hb; exact hbk.trans hb
 have key : ∃ w', (Builtin.unsafeString_ #[pt, it] ty #[.pointer q, .int .i64 l.length]).run F.P w = .ok (str l) w' ∧ w.grownBy w' vx.ownBlock := by
  by_cases h0 : l = []
  ·
   subst h0
   exact ⟨w, Lib.run_unsafeString_none w pt it ty q, ⟨rfl, rfl, rfl, Nat.le_refl _, fun _ _ _ => rfl⟩⟩
  ·
   obtain ⟨g, cap, rfl, rfl⟩ := hq (by simpa using h0)
   rcases hown.2 with ⟨hv, _⟩ | ⟨g', cap', cur, hv, hbg, hg, hnc, hcm, hcs, htake⟩
   ·
    cases hv
   ·
    cases hv
    refine ⟨_, Lib.run_unsafeString_row w pt it ty E (isPtrT_some hp) (Nat.eq_of_beq_eq_true hc) g cur.size (by simp [World.shape?, hg]) l h0 (by omega) (by omega) ?_, ?_⟩
    ·
     intro j x hx
     exact hown.cells (g := g) rfl j (.int .u8 x.toNat) (by simp [bytesC, Lib.byteCells, hx])
    ·
     show w.grownBy (w.freeze ⟨g, 0, none⟩ l.length) (some g)
     unfold World.freeze
     split
     ·
      exact ⟨rfl, rfl, rfl, Nat.le_refl _, fun _ _ _ => rfl⟩
     ·
      exact ⟨rfl, rfl, rfl, by simp, fun k _ hk => by
       simp only [Array.getElem?_modify]
       rw [if_neg (fun e => hk (by rw [← e]))]⟩
 obtain ⟨w', hrun, hgr⟩ := key
 have hrun' : (execOp a.eval ⟨some d, .call { callee := .builtin .unsafeString, args := #[x, y], argTypes := #[pt, it] }, ty, pos, aft, none⟩).run F.P w = .ok (.value (str l)) w' := by
  simp [execOp, resolve, invoke, builtin, hR.op hx, hR.op hy, hrun]
 unfold Oper.wp
 rw [hrun']
 have hgr' : w.grownBy w' (hd id).ownBlock := by rw [hdv]; exact hgr
 have hrm : gv (rm id σ) id = none := by
  cases hg : gv (rm id σ) id with
  | none => rfl
  | some q => exact absurd rfl (gv_rm hg).1
 have hR2 := (hR.appended hs hgr' hh).addOwn hr hrm (p := (none, .fg (fun _ => False) (fun _ => True))) (bo := none) (hv := undef) ⟨⟨fun _ _ => trivial, fun k hk => hk.elim⟩, by simp⟩ (fun b hb => hb.elim)
 refine hN _ _ _ _ _ _ _ h (hR2.put (blt_lt hn) rfl) (fun x hx => ?_)
 refine same_of (VLe.refl u) (fun i q hi => ?_) (fun i q b hi hb => ?_) hx
 ·
  have : i ≠ id := fun e => by rw [e, hid] at hi; cases hi
  simp [this]
 ·
  have hq := gv_subO hS i q hi
  exact hgr'.block b ((hR.own i q hq).lt hb) fun e => by
   have := hR.inj i id q _ b hq hs hb (hh b e.symm)
   rw [this, hid] at hi; cases hi
end
end Go.Eng
namespace Go.Eng
open Go Go.RowKit
set_option linter.unusedSimpArgs false
set_option linter.unusedVariables false
section
variable {F : Fx} {ρ : Env} {σ : Own} {u : View} {Q : Post} {bk : Nat → Option Nat} {hd : Nat → Value} {a : Act} {w : World} {ops : Array Oper} {fuel : Nat} {listed : Array Bool} {o : Oper} {K : Env → Own → View → Prop}
def DoesI (F : Fx) (o : Oper) (ρ : Env) (σ : Own) (u : View) (K : Env → Own → View → Prop) : Prop :=
 ∀ bk hd a w Q, RepAt F bk hd ρ σ u a w → ∀ N : Act → World → Prop, (∀ ρ' σ' u' a' w', K ρ' σ' u' → Rep F ρ' σ' u' a' w' → N a' w') → o.wpIn (fw F.r) 0 F.P a w N Q
theorem Does.toI (hnd : ∀ c, o.op ≠ .defer c) (h : Does F [] o ρ σ u K) : DoesI F o ρ σ u K :=
 fun bk hd a w Q hR N hN => owp_of_run hnd rfl (h bk hd a w Q hR N fun bk' hd' ρ' σ' u' a' w' hK hR' _ => hN _ _ _ _ _ hK ⟨bk', hd', hR'⟩)
def RI (F : Fx) (ops : Array Oper) (fuel : Nat) (listed : Array Bool) (ρ : Env) (σ : Own) (u : View) (Q : Post) : Prop :=
 ∀ a w, Rep F ρ σ u a w → wpAnyIn (fw F.r) 0 F.P .any ops (lift F Q) fuel listed a w
theorem wc_drawI {id : Nat} {l : List Oper} (hm : F.P.follows .mixedOrders = true) (h : RI F l.toArray l.toArray.size (Array.replicate l.toArray.size false) ρ σ u Q) : WC F (.region id l.toArray true) ρ σ u Q := by
 rintro a w ⟨bk, hd, hR⟩
 exact wpIn_region_any hm (h a _ ⟨bk, hd, hR.drew⟩)
theorem Zbp {ρ' : Env} (hr : Region.ready .any ops listed = []) (hs : subE ρ' ρ) (h : Q .normal ρ' σ u) : RI F ops fuel listed ρ σ u Q :=
 fun a w ⟨bk, hd, hR⟩ => wpAnyIn_done hr ⟨_, _, _, ⟨bk, hd, hR.subE hs⟩, h⟩ fuel
theorem RI.sub {ρ' : Env} (hs : subE ρ' ρ) (h : RI F ops fuel listed ρ' σ u Q) : RI F ops fuel listed ρ σ u Q :=
 fun a w ⟨bk, hd, hR⟩ => h a w ⟨bk, hd, hR.subE hs⟩
def noV : View := fun _ => none
theorem ri_takeX {i d : Nat} {sv : SV} {o : Oper} (hro : F.r = none) (hi : ops[i]? = some o) (hd' : o.dst = some d) (hs : Region.noSelect ops = true) (hf : Region.free .any ops listed i = true) (hr : (Region.ready .any ops listed).contains i = true) (hp : noPanic Q) (hn : Nat.blt d F.n = true)
  (hy : ∀ bk hd a w, RepAt F bk hd ρ σ u a w → ∃ x, SVal bk hd sv x ∧ YieldsFenced F.P ops o x a)
  (h : RI F ops fuel (listed.setIfInBounds i true) ((d, sv) :: ρ) σ u Q) : RI F ops (fuel + 1) listed ρ σ u Q := by
 rintro a w ⟨bk, hd, hR⟩
 obtain ⟨x, hx, hy⟩ := hy bk hd a w hR
 refine wpAnyIn_take (by simp [fw, hro]) hi hs hf hr (fun c a w hq => ?_) hy ?_
 ·
  obtain ⟨ρ, σ, u, _, hq⟩ := hq
  exact absurd hq (hp _ _ _ _)
 ·
  rw [hd']
  exact h _ w ⟨bk, hd, hR.put (blt_lt hn) hx⟩
theorem same_noV (w w' : World) : Same bk hd [] noV w w' := ⟨fun k o h => by simp [noV] at h, fun id p b h => by simp [gv] at h⟩
theorem ri_y {i d : Nat} {op : Op} {ty : TypeId} {pos : String} {aft : Array Edge} {sv : SV} (hro : F.r = none) (hi : ops[i]? = some ⟨some d, op, ty, pos, aft, none⟩) (hs : Region.noSelect ops = true) (hf : Region.free .any ops listed i = true) (hr : (Region.ready .any ops listed).contains i = true) (hp : noPanic Q)
  (hab : ∀ w ev, (⟨some d, op, ty, pos, aft, none⟩ : Oper).about F.P w ev = none)
  (hy : Yld F [] noV ρ σ u ⟨some d, op, ty, pos, aft, none⟩ sv) (hn : Nat.blt d F.n = true)
  (h : RI F ops fuel (listed.setIfInBounds i true) ((d, sv) :: ρ) σ u Q) : RI F ops (fuel + 1) listed ρ σ u Q :=
 ri_takeX hro hi rfl hs hf hr hp hn (fun bk hd a w hR => let ⟨x, hx, hrun⟩ := hy bk hd a w hR; ⟨x, hx, .inl ⟨rfl, fun w' => hrun w' (same_noV w w')⟩, fun w' => hab w' _⟩) h
theorem ri_y_on {i d j t : Nat} {b : Bool} {op : Op} {ty : TypeId} {pos : String} {aft : Array Edge} {sv : SV} (hro : F.r = none) (hi : ops[i]? = some ⟨some d, op, ty, pos, aft, some (j, b)⟩) (hj : (ops[j]?).bind (·.dst) = some t) (hg : opv ρ (.tmp t) = some (.v (.bool b)))
  (hs : Region.noSelect ops = true) (hf : Region.free .any ops listed i = true) (hr : (Region.ready .any ops listed).contains i = true) (hp : noPanic Q)
  (hab : ∀ w ev, (⟨some d, op, ty, pos, aft, some (j, b)⟩ : Oper).about F.P w ev = none)
  (hy : Yld F [] noV ρ σ u ⟨some d, op, ty, pos, aft, none⟩ sv) (hn : Nat.blt d F.n = true)
  (h : RI F ops fuel (listed.setIfInBounds i true) ((d, sv) :: ρ) σ u Q) : RI F ops (fuel + 1) listed ρ σ u Q :=
 ri_takeX hro hi rfl hs hf hr hp hn (fun bk hd a w hR => let ⟨x, hx, hrun⟩ := hy bk hd a w hR; ⟨x, hx, .inl ⟨by simp [Region.wanted, hR.yielded hj hg], fun w' => hrun w' (same_noV w w')⟩, fun w' => hab w' _⟩) h
def RIall (F : Fx) (ops : Array Oper) (fuel : Nat) (listed : Array Bool) (ρ : Env) (σ : Own) (u : View) (Q : Post) (is : List Nat) : Prop :=
 ∀ i ∈ is, ∀ a w, Rep F ρ σ u a w → wpOpIn (fw F.r) 0 F.P ops (lift F Q) i (wpAnyIn (fw F.r) 0 F.P .any ops (lift F Q) fuel (listed.setIfInBounds i true)) a w
theorem Zbq {is : List Nat} (hr : Region.ready .any ops listed = is) (hne : is.isEmpty = false) (h : RIall F ops fuel listed ρ σ u Q is) : RI F ops (fuel + 1) listed ρ σ u Q := by
 intro a w hR
 refine wpAnyIn_all hr (by intro e; rw [e] at hne; cases hne) fun i hi => h i hi a w hR
theorem Zba : RIall F ops fuel listed ρ σ u Q [] := fun i hi => by cases hi
theorem Zaj {i : Nat} {is : List Nat} {o : Oper} (hi : ops[i]? = some o) (hg : o.guard = none)
  (h : DoesI F o ρ σ u fun ρ' σ' u' => RI F ops fuel (listed.setIfInBounds i true) ρ' σ' u' Q) (hr : RIall F ops fuel listed ρ σ u Q is) : RIall F ops fuel listed ρ σ u Q (i :: is) := by
 rintro j hj a w ⟨bk, hd, hR⟩
 rcases List.mem_cons.1 hj with e | hj
 ·
  subst e
  unfold wpOpIn
  simp only [hi]
  rw [if_pos (by simp [Region.wanted, hg])]
  exact h bk hd a w _ hR _ fun ρ' σ' u' a' w' hK hR' => hK a' w' hR'
 ·
  exact hr j hj a w ⟨bk, hd, hR⟩
theorem Zci {i j t : Nat} {b : Bool} {is : List Nat} {d : Option Nat} {op : Op} {ty : TypeId} {pos : String} {aft : Array Edge} (hi : ops[i]? = some ⟨d, op, ty, pos, aft, some (j, b)⟩) (hj : (ops[j]?).bind (·.dst) = some t) (hg : opv ρ (.tmp t) = some (.v (.bool b)))
  (hnd : ∀ c, op ≠ .defer c) (h : DoesI F ⟨d, op, ty, pos, aft, none⟩ ρ σ u fun ρ' σ' u' => RI F ops fuel (listed.setIfInBounds i true) ρ' σ' u' Q) (hr : RIall F ops fuel listed ρ σ u Q is) : RIall F ops fuel listed ρ σ u Q (i :: is) := by
 rintro k hk a w ⟨bk, hd, hR⟩
 rcases List.mem_cons.1 hk with e | hk
 ·
  subst e
  unfold wpOpIn
  simp only [hi]
  rw [if_pos (by simp [Region.wanted, hR.yielded hj hg])]
  have key := h bk hd a w (lift F Q) hR _ fun ρ' σ' u' a' w' hK hR' => hK a' w' hR'
  have e : (execOp a.eval ⟨d, op, ty, pos, aft, some (j, b)⟩) = execOp a.eval ⟨d, op, ty, pos, aft, none⟩ := by cases op <;> rfl
  refine ⟨fun f hf => trivial, ?_⟩
  have k2 := key.2
  rw [Oper.semAt_eq _ _ _ hnd] at k2 ⊢
  rw [e]
  exact k2
 ·
  exact hr k hk a w ⟨bk, hd, hR⟩
theorem Zbi {i : Nat} {o : Oper} (hi : ops[i]? = some o) (hg : o.guard = none) (hr : Region.ready .any ops listed = [i])
  (h : DoesI F o ρ σ u fun ρ' σ' u' => RI F ops fuel (listed.setIfInBounds i true) ρ' σ' u' Q) : RI F ops (fuel + 1) listed ρ σ u Q :=
 Zbq hr rfl (Zaj hi hg h Zba)
theorem ri_do_on {i j t : Nat} {b : Bool} {d : Option Nat} {op : Op} {ty : TypeId} {pos : String} {aft : Array Edge} (hi : ops[i]? = some ⟨d, op, ty, pos, aft, some (j, b)⟩) (hj : (ops[j]?).bind (·.dst) = some t) (hg : opv ρ (.tmp t) = some (.v (.bool b))) (hr : Region.ready .any ops listed = [i]) (hnd : ∀ c, op ≠ .defer c)
  (h : DoesI F ⟨d, op, ty, pos, aft, none⟩ ρ σ u fun ρ' σ' u' => RI F ops fuel (listed.setIfInBounds i true) ρ' σ' u' Q) : RI F ops (fuel + 1) listed ρ σ u Q :=
 Zbq hr rfl (Zci hi hj hg hnd h Zba)
theorem y_index_eX {σS : Own} {uS uX : View} {o : Oper} {t e : TypeId} {x y : Operand} {ad : Option Addr} {len cap sz by' : Nat} {xs : List Value} {k : IntKind} {i : Int} {j : Nat} (ho : o.op = .indexAddr t x y) (ht : tyS F.P t = some (e, sz, by'))
  (hx : opv ρ x = some (.v (.slice ad len cap))) (hy : opv ρ y = some (.v (.int k i))) (hs : SlC uX ad len cap sz xs) (hj : i = (j : Int)) (h1 : j < len) : Yld F σS uS ρ σ u o (.e (.slice ad len cap) sz j 0) := by
 intro bk hd a w hR
 subst hj
 obtain ⟨hxl, _, _, hrest⟩ := hs
 obtain ⟨b2, off2, c, T, fr, rfl, hub, hcut⟩ := hrest (by omega)
 refine ⟨_, ⟨b2, off2, len, cap, rfl, rfl⟩, fun w' _ => ?_⟩
 simp [execOp, ho, hR.op hx, hR.op hy, run_indexAt_slice ht (Int.natCast_nonneg j) (Int.ofNat_lt.2 h1)]
def YldO (P : Program) (L : Nat) (args : List Value) (u : View) (l : List PO) (R : Value → View → List PO → Prop) : Prop :=
 ∀ w bk hd, Agree u w → OwnsL w u bk hd l →
  YieldAt (fw none) 0 P L args.toArray w fun e w' => ∃ v u' l' bk' hd', e = .returned v ∧ R v u' l' ∧ Agree u' w' ∧ (∀ k, k < w.heap.size → ¬ HoldsL bk hd l k → u' k = u k) ∧
   Frame0 w (HoldsL bk hd l) w' ∧ OwnsL w' u' bk' hd' l' ∧ ∀ b, HoldsL bk' hd' l' b → HoldsL bk hd l b ∨ w.heap.size ≤ b
theorem YldO.mono {P : Program} {L : Nat} {args : List Value} {u : View} {l : List PO} {R R' : Value → View → List PO → Prop} (h : YldO P L args u l R) (hr : ∀ v u' l', VLe u u' → R v u' l' → R' v u' l') : YldO P L args u l R' := by
 intro w bk hd hA hO
 obtain ⟨fn, tmps, assign, body, hy, hround⟩ := h w bk hd hA hO
 refine ⟨fn, tmps, assign, body, hy, hround.mono ?_⟩
 rintro e w' ⟨v, u', l', bk', hd', he, hR, hA', hu, rest⟩
 exact ⟨v, u', l', bk', hd', he, hr _ _ _ (hO.vle hA hu) hR, hA', hu, rest⟩
theorem do_yield {d : Nat} {ty : TypeId} {fo : Operand} {xs : List Operand} {ts : Array TypeId} {pos : String} {aft : Array Edge} {L : Nat} {vs : List Value} {ρ' : Env} (ids extra : List Nat) {l : List PO} (hfr : F.r = none)
  (hf : opv ρ fo = some (.v (.func (.yield L) #[] #[]))) (hvs : opvs ρ σ xs = some vs) (hn : Nat.blt d F.n = true) (hl : gvs σ ids = some l) (hp : Eng.subE ρ' ρ) (hnew : newIds ids extra σ ρ' = true) (hnd : nodupb ids = true) (hr : okRefs ids σ ρ' = true)
  (h : YldO F.P L vs u l fun v u' l' => VLe u u' → keepPins l l' ∧ K ((d, .v v) :: ρ') (zipO (ids ++ extra) l' ++ rms (ids ++ extra) σ) u') :
  DoesI F ⟨some d, .call { callee := .value fo, args := xs.toArray, argTypes := ts }, ty, pos, aft, none⟩ ρ σ u K := by
 intro bk hd a w Q hR N hN
 obtain ⟨fn, tmps, assign, body, hy, hround⟩ := h w _ _ hR.agree (hR.ownsL hl hnd)
 have hrun : (execOp a.eval ⟨some d, .call { callee := .value fo, args := xs.toArray, argTypes := ts }, ty, pos, aft, none⟩).run F.P w = .ok (.round L fn tmps assign body) w := by
  simp [execOp, resolve, hR.op hf, Deferred.ofValue, invoke, hR.ops hvs, hy]
 refine ⟨fun _ _ => trivial, ?_⟩
 rw [Oper.semAt_eq _ _ _ (by simp), hrun, hfr]
 refine ⟨fun hs => by simp [fw, Fence.wide] at hs, hround.mono ?_⟩
 rintro e w' ⟨v, u', l', bk', hd', rfl, hk, hA, hu, hw, hO, hN'⟩
 have hle : VLe u u' := (hR.ownsL hl hnd).vle hR.agree hu
 obtain ⟨hk1, hk2⟩ := hk hle
 simp only [newIds, Bool.and_eq_true, List.all_eq_true] at hnew
 obtain ⟨bk2, hd2, hR2, hb2, hw2⟩ := hR.called (ρ' := ρ') hl hnd hnew.1 (fun i hi hi2 => by
  have := hnew.2 i (posOf_extra hi hi2)
  simpa using this) (fun j i hj => posOf_append hj) hk1 hp hr hA hu hw hO hN'
 exact hN _ _ _ _ _ hk2 ⟨_, _, hR2.put (blt_lt hn) rfl⟩
end
end Go.Eng
namespace Go.Eng
open Go Go.RowKit
set_option linter.unusedSimpArgs false
set_option linter.unusedVariables false
def LoopY {α : Type} (J : List α → List PO) (L Dd : Nat) (rec : Loop) (pre : List α) (H : Nat → Prop) (I : World → Prop) : Prop :=
 ∃ bk hd, H = (fun k => HoldsL bk hd (J pre) k ∨ k = L ∨ k = Dd) ∧
  I = (fun w : World => (∀ (i : Nat) (p : PO), (J pre)[i]? = some p → ownOk w (bk i) (hd i) p) ∧ w.heap[L]? = some (.loop rec) ∧ w.heap[Dd]? = some (.deferred (some []))) ∧
  (∀ (i j : Nat) (p q : PO) (b : Nat), (J pre)[i]? = some p → (J pre)[j]? = some q → p.2.holds (bk i) (hd i) b → q.2.holds (bk j) (hd j) b → i = j) ∧ (∀ b, HoldsL bk hd (J pre) b → b ≠ L ∧ b ≠ Dd)
abbrev envV (ρb : List (Nat × Value)) : Env := ρb.map fun q => (q.1, SV.v q.2)
theorem gv_envV : ∀ {ρb : List (Nat × Value)} {k : Nat} {sv : SV}, gv (envV ρb) k = some sv → ∃ x, sv = .v x ∧ gv ρb k = some x
 | [], k, sv, h => by simp [envV, gv] at h
 | (j, y) :: r, k, sv, h => by
  simp only [envV, List.map_cons, gv] at h ⊢
  split at h
  ·
   rename_i hb
   cases h
   exact ⟨y, rfl, rfl⟩
  ·
   rename_i hb
   exact gv_envV (ρb := r) h
theorem putObj_size (w : World) (l : Nat) (o : Obj) : (w.putObj l o).heap.size = w.heap.size := by simp [World.putObj]
theorem round_of {α : Type} {P : Program} {n p : Nat} {J : List α → List PO} {L Dd : Nat} {rec : Loop} {asg body : Code} {pre : List α} {x : α} {v : Value} {u' : View} {H : Nat → Prop} {I : World → Prop} {ρb : List (Nat × Value)} (M : Env → Own → View → Prop)
  (hps : rec.params = #[p]) (has : rec.assign = asg) (hbo : rec.body = body) (hst : rec.state = .ready) (hpe : rec.pending = none) (hsz : rec.tmps.size = n) (hpn : p < n) (hLD : L ≠ Dd) (htm : ∀ k x, gv ρb k = some x → rec.tmps[k]? = some x)
  (hasg : ∀ (w0 : World) (D : Nat → Prop), (∀ k o, u' k = some o → k < w0.heap.size) → WC ⟨P, n, w0, D, u', [], some L⟩ asg ((p, .v v) :: envV ρb) (zipO (inIds 1000 (J pre)) (J pre)) u' fun e ρ σ u'' => e = .normal ∧ ∃ ρ' σ', subE ρ' ρ ∧ subO σ' σ ∧ M ρ' σ' u'')
  (hbody : ∀ (ρ : Env) (σ : Own) (u'' : View) (w0 : World) (D : Nat → Prop), M ρ σ u'' → WC ⟨P, n, w0, D, u'', [], some L⟩ body ρ σ u'' fun e ρ σ u3 => e = .normal ∧ ∃ ids, gvs σ ids = some (J (pre ++ [x])) ∧ nodupb ids = true)
  (hY : LoopY J L Dd rec pre H I) :
  YldO P L [v] u' [(none, .fg H I)] fun r u'' l' => r = .bool true ∧ ∃ H' I', l' = [(none, .fg H' I')] ∧ LoopY J L Dd rec (pre ++ [x]) H' I' := by
 intro w bkx hdx hA hO
 obtain ⟨bk, hd, rfl, rfl, hinj, hnot⟩ := hY
 obtain ⟨hI1, hI2⟩ := (hO.own 0 _ rfl).1
 obtain ⟨hown, hL, hDd⟩ := hI1 w (fun _ _ => rfl)
 have hfree : ∀ b, (HoldsL bk hd (J pre) b ∨ b = L ∨ b = Dd) → u' b = none := fun b hb => hO.free 0 _ b rfl hb
 have hLlt : L < w.heap.size := hI2 L (.inr (.inl rfl))
 have hDlt : Dd < w.heap.size := hI2 Dd (.inr (.inr rfl))
 have hnL : ¬ HoldsL bk hd (J pre) L := fun h => (hnot L h).1 rfl
 have hnD : ¬ HoldsL bk hd (J pre) Dd := fun h => (hnot Dd h).2 rfl
 have hy := run_yield (P := P) (args := #[v]) hL (by simp [hps])
 rw [has, hbo] at hy
 refine ⟨_, _, _, _, hy, roundIn_of_wpIn trivial ?_⟩
 obtain ⟨tm, htm'⟩ : ∃ tm, (rec.params.zip #[v]).foldl (fun tmps (x : Tmp × Value) => tmps.setIfInBounds x.1 x.2) rec.tmps = tm := ⟨_, rfl⟩
 have htm2 : tm = rec.tmps.setIfInBounds p v := by rw [← htm', hps]; simp
 have hz : ∀ id q, gv (zipO (inIds 1000 (J pre)) (J pre)) id = some q → (J pre)[id - 1000]? = some q ∧ 1000 ≤ id := by
  intro id q hi
  obtain ⟨i, h1, h2⟩ := gv_zipO hi
  have := posOf_inIds h1
  subst this
  exact ⟨by rw [Nat.add_sub_cancel_left]; exact h2, by omega⟩
 have hRep : RepAt ⟨P, n, w, HoldsL bk hd (J pre), u', [], some L⟩ (fun j => bk (j - 1000)) (fun j => hd (j - 1000)) ((p, .v v) :: envV ρb) (zipO (inIds 1000 (J pre)) (J pre)) u' { tmps := tm, defers := [] } w := by
  refine ⟨by rw [htm2]; simpa using hsz, rfl, Frame0.refl _ _, hA, fun _ _ _ => rfl, ?_, ?_, ?_, ?_⟩
  ·
   intro k sv hk
   simp only [gv] at hk
   split at hk
   ·
    rename_i hb
    cases hk
    have := Nat.eq_of_beq_eq_true hb
    subst this
    refine ⟨v, ?_, rfl⟩
    rw [htm2]
    simp [hsz, hpn]
   ·
    rename_i hb
    obtain ⟨y, rfl, hg⟩ := gv_envV hk
    refine ⟨y, ?_, rfl⟩
    have hne : p ≠ k := fun e => by simp [e] at hb
    rw [htm2, Array.getElem?_setIfInBounds_ne hne]
    exact htm k y hg
  ·
   intro id q hi
   exact hown _ q (hz id q hi).1
  ·
   intro id q b hi hb
   have h1 := (hz id q hi).1
   exact ⟨.inl ⟨_, q, h1, hb⟩, hfree b (.inl ⟨_, q, h1, hb⟩)⟩
  ·
   intro id id' q q' b hi hi' hb hb'
   obtain ⟨h1, _⟩ := hz id q hi
   obtain ⟨h1', _⟩ := hz id' q' hi'
   have := hinj _ _ q q' b h1 h1' hb hb'
   omega
 have hgo := hasg w (HoldsL bk hd (J pre)) (fun k o hk => hA.lt hk) { tmps := tm, defers := [] } w ⟨_, _, hRep⟩
 rw [← htm'] at hgo
 refine Go.wpIn_mono hgo ?_
 rintro e a1 w1 ⟨ρ1, σ1, u1, hR1', rfl, ρ', σ', hs, ho, hM⟩
 obtain ⟨bk1, hd1, hR1⟩ := hR1'.sub hs ho
 have hf1 := hR1.frame
 have hsz1 : w.heap.size ≤ w1.heap.size := hf1.2.2.2.1
 have hL1 : w1.heap[L]? = some (.loop rec) := (hf1.2.2.2.2 L hLlt hnL).trans hL
 have hD1 : w1.heap[Dd]? = some (.deferred (some [])) := (hf1.2.2.2.2 Dd hDlt hnD).trans hDd
 have hu1L : u1 L = none := (hR1.uold L hLlt hnL).trans (hfree L (.inr (.inl rfl)))
 have hu1D : u1 Dd = none := (hR1.uold Dd hDlt hnD).trans (hfree Dd (.inr (.inr rfl)))
 have hhold1 : ∀ id q b, gv σ' id = some q → q.2.holds (bk1 id) (hd1 id) b → HoldsL bk hd (J pre) b ∨ w.heap.size ≤ b := fun id q b hi hb => (hR1.fresh id q b hi hb).1
 refine ⟨_, run_beginRound hL1 hst, ?_⟩
 obtain ⟨w2, hw2⟩ : ∃ w2, w1.putObj L (.loop { rec with state := .busy }) = w2 := ⟨_, rfl⟩
 rw [hw2]
 have hs2 : w2.heap.size = w1.heap.size := by rw [← hw2]; exact putObj_size _ _ _
 have hw2o : ∀ k, k ≠ L → w2.heap[k]? = w1.heap[k]? := fun k hk => by rw [← hw2]; exact World.putObj_heap_other hk
 have hw2L : w2.heap[L]? = some (.loop { rec with state := .busy }) := by rw [← hw2]; exact World.putObj_heap_same (Nat.lt_of_lt_of_le hLlt hf1.2.2.2.1)
 have hR2 : RepAt ⟨P, n, w2, fun b => ∃ id q, gv σ' id = some q ∧ q.2.holds (bk1 id) (hd1 id) b, u1, [], some L⟩ bk1 hd1 ρ' σ' u1 a1 w2 := by
  refine ⟨hR1.size, hR1.defers, Frame0.refl _ _, fun k o hk => ?_, fun _ _ _ => rfl, hR1.slot, fun id q hi => ?_, fun id q b hi hb => ⟨.inl ⟨id, q, hi, hb⟩, (hR1.fresh id q b hi hb).2⟩, hR1.inj⟩
  ·
   rw [hw2o k (fun e => by rw [e, hu1L] at hk; cases hk)]; exact hR1.agree k o hk
  ·
   refine (hR1.own id q hi).grow fun k hk => hw2o k fun e => ?_
   subst e
   rcases hhold1 id q k hi hk with h | h
   ·
    exact hnL h
   ·
    omega
 refine Go.wpIn_mono (hbody ρ' σ' u1 w2 _ hM a1 w2 ⟨_, _, hR2⟩) ?_
 rintro e a3 w3 ⟨ρ3, σ3, u3, ⟨bk3, hd3, hR3⟩, rfl, ids, hl, hnd⟩
 have hf3 := hR3.frame
 have hDb : ∀ b, b < w.heap.size → ¬ HoldsL bk hd (J pre) b → ¬ ∃ id q, gv σ' id = some q ∧ q.2.holds (bk1 id) (hd1 id) b := by
  rintro b hb hn ⟨id, q, hi, hh⟩
  rcases hhold1 id q b hi hh with h | h
  ·
   exact hn h
  ·
   omega
 have hLlt2 : L < w2.heap.size := by rw [hs2]; exact Nat.lt_of_lt_of_le hLlt hf1.2.2.2.1
 have hDlt2 : Dd < w2.heap.size := by rw [hs2]; exact Nat.lt_of_lt_of_le hDlt hf1.2.2.2.1
 have hL3 : w3.heap[L]? = some (.loop { rec with state := .busy }) := (hf3.2.2.2.2 L hLlt2 (hDb L hLlt hnL)).trans hw2L
 have hD3 : w3.heap[Dd]? = some (.deferred (some [])) := (hf3.2.2.2.2 Dd hDlt2 (hDb Dd hDlt hnD)).trans ((hw2o Dd (Ne.symm hLD)).trans hD1)
 have hu3L : u3 L = none := (hR3.uold L hLlt2 (hDb L hLlt hnL)).trans hu1L
 have hu3D : u3 Dd = none := (hR3.uold Dd hDlt2 (hDb Dd hDlt hnD)).trans hu1D
 have hrun := run_endRound (P := P) none hL3
 refine ⟨_, _, hrun, ?_⟩
 obtain ⟨w4, hw4⟩ : ∃ w4, w3.putObj L (.loop { ({ rec with state := .busy } : Loop) with state := if (none : Option Code).isNone then .ready else .done, pending := none }) = w4 := ⟨_, rfl⟩
 rw [hw4]
 have hrec : ({ ({ rec with state := .busy } : Loop) with state := if (none : Option Code).isNone then .ready else .done, pending := none } : Loop) = rec := by
  cases rec; simp_all
 rw [hrec] at hw4
 have hs4 : w4.heap.size = w3.heap.size := by rw [← hw4]; exact putObj_size _ _ _
 have hw4o : ∀ k, k ≠ L → w4.heap[k]? = w3.heap[k]? := fun k hk => by rw [← hw4]; exact World.putObj_heap_other hk
 have hsz3 : w2.heap.size ≤ w3.heap.size := hf3.2.2.2.1
 have hw4L : w4.heap[L]? = some (.loop rec) := by rw [← hw4]; exact World.putObj_heap_same (by omega)
 have hO3 := hR3.ownsL hl hnd
 have hnew : ∀ b, HoldsL (fun i => ((ids[i]?).bind bk3)) (fun i => ((ids[i]?).map hd3).getD undef) (J (pre ++ [x])) b → HoldsL bk hd (J pre) b ∨ w.heap.size ≤ b := by
  rintro b ⟨i, q, hi, hb⟩
  obtain ⟨id, h1, h2⟩ := gvs_get hl i q hi
  have hb' : q.2.holds (bk3 id) (hd3 id) b := by simpa [h1] using hb
  rcases (hR3.fresh id q b h2 hb').1 with ⟨id2, q2, h3, h4⟩ | h3
  ·
   exact hhold1 id2 q2 b h3 h4
  ·
   have h5 : w2.heap.size ≤ b := h3
   exact .inr (by omega)
 have hne : ∀ b, HoldsL (fun i => ((ids[i]?).bind bk3)) (fun i => ((ids[i]?).map hd3).getD undef) (J (pre ++ [x])) b → b ≠ L ∧ b ≠ Dd := by
  intro b hb
  rcases hnew b hb with h | h
  ·
   exact hnot b h
  ·
   exact ⟨by omega, by omega⟩
 have hown4 : ∀ (i : Nat) (q : PO), (J (pre ++ [x]))[i]? = some q → ownOk w4 ((ids[i]?).bind bk3) (((ids[i]?).map hd3).getD undef) q := fun i q hi =>
  (hO3.own i q hi).grow fun k hk => hw4o k (hne k ⟨i, q, hi, hk⟩).1
 refine ⟨.bool true, u3, [(none, .fg (fun k => HoldsL (fun i => ((ids[i]?).bind bk3)) (fun i => ((ids[i]?).map hd3).getD undef) (J (pre ++ [x])) k ∨ k = L ∨ k = Dd) (fun w : World => (∀ (i : Nat) (p : PO), (J (pre ++ [x]))[i]? = some p → ownOk w ((ids[i]?).bind bk3) (((ids[i]?).map hd3).getD undef) p) ∧ w.heap[L]? = some (.loop rec) ∧ w.heap[Dd]? = some (.deferred (some []))))], fun _ => none, fun _ => undef, rfl, ⟨rfl, _, _, rfl, _, _, rfl, rfl, hO3.inj, hne⟩, ?_, ?_, ?_, ⟨?_, ?_, ?_⟩, ?_⟩
 ·
  intro k o hk
  rw [hw4o k (fun e => by rw [e, hu3L] at hk; cases hk)]
  exact hR3.agree k o hk
 ·
  intro k hk hn
  have hnk : ¬ HoldsL bk hd (J pre) k := fun h => hn ⟨0, _, rfl, .inl h⟩
  have hk2 : k < w2.heap.size := by omega
  exact (hR3.uold k hk2 (hDb k hk hnk)).trans (hR1.uold k hk hnk)
 ·
  refine ⟨?_, ?_, ?_, ?_, ?_⟩
  ·
   rw [← hw4]; exact hf3.1.trans (by rw [← hw2]; exact hf1.1)
  ·
   rw [← hw4]; exact hf3.2.1.trans (by rw [← hw2]; exact hf1.2.1)
  ·
   rw [← hw4]; exact hf3.2.2.1.trans (by rw [← hw2]; exact hf1.2.2.1)
  ·
   omega
  ·
   intro k hk hn
   have hnk : ¬ HoldsL bk hd (J pre) k := fun h => hn ⟨0, _, rfl, .inl h⟩
   have hkL : k ≠ L := fun e => hn ⟨0, _, rfl, .inr (.inl e)⟩
   have hk2 : k < w2.heap.size := by omega
   exact (hw4o k hkL).trans ((hf3.2.2.2.2 k hk2 (hDb k hk hnk)).trans ((hw2o k hkL).trans (hf1.2.2.2.2 k hk hnk)))
 ·
  intro i q hi
  obtain rfl : i = 0 := by
   cases i with
   | zero => rfl
   | succ i => simp at hi
  simp only [List.getElem?_cons_zero, Option.some.injEq] at hi
  subst hi
  refine ⟨⟨fun w5 h5 => ⟨fun i q hi => (hown4 i q hi).grow fun k hk => h5 k (.inl ⟨i, q, hi, hk⟩), (h5 L (.inr (.inl rfl))).trans hw4L, (h5 Dd (.inr (.inr rfl))).trans ((hw4o Dd (Ne.symm hLD)).trans hD3)⟩, ?_⟩, by simp⟩
  rintro k (⟨i, q, hi, hk⟩ | rfl | rfl)
  ·
   exact (hown4 i q hi).lt hk
  ·
   omega
  ·
   omega
 ·
  intro i q b hi hb
  obtain rfl : i = 0 := by
   cases i with
   | zero => rfl
   | succ i => simp at hi
  simp only [List.getElem?_cons_zero, Option.some.injEq] at hi
  subst hi
  rcases hb with ⟨i, q, hi, hk⟩ | rfl | rfl
  ·
   exact hO3.free i q b hi hk
  ·
   exact hu3L
  ·
   exact hu3D
 ·
  intro i j p q b hi hj _ _
  cases i with
  | succ i => simp at hi
  | zero =>
   cases j with
   | succ j => simp at hj
   | zero => rfl
 ·
  rintro b ⟨i, q, hi, hb⟩
  obtain rfl : i = 0 := by
   cases i with
   | zero => rfl
   | succ i => simp at hi
  simp only [List.getElem?_cons_zero, Option.some.injEq] at hi
  subst hi
  rcases hb with h | h | h
  ·
   rcases hnew b h with h | h
   ·
    exact .inl ⟨0, _, rfl, .inl h⟩
   ·
    exact .inr h
  ·
   exact .inl ⟨0, _, rfl, .inr (.inl h)⟩
  ·
   exact .inl ⟨0, _, rfl, .inr (.inr h)⟩
def seqs : List Code → Code → Code
 | [], c => c
 | a :: as, c => .seq a (seqs as c)
def WCs (F : Fx) : List Code → Env → Own → View → (Env → Own → View → Prop) → Prop
 | [], ρ, σ, u, K => K ρ σ u
 | c :: cs, ρ, σ, u, K => WC F c ρ σ u fun e ρ' σ' u' => e = .normal ∧ WCs F cs ρ' σ' u' K
theorem wcs_wp {F : Fx} {c : Code} {Q : Exit → Act → World → Prop} {K : Env → Own → View → Prop} (hc : ∀ ρ σ u a w, K ρ σ u → Rep F ρ σ u a w → c.wpIn (fw F.r) 0 F.P Q a w) :
  ∀ (pre : List Code) (ρ : Env) (σ : Own) (u : View), WCs F pre ρ σ u K → ∀ a w, Rep F ρ σ u a w → (seqs pre c).wpIn (fw F.r) 0 F.P Q a w
 | [], ρ, σ, u, h, a, w, hR => hc ρ σ u a w h hR
 | b :: bs, ρ, σ, u, h, a, w, hR => by
  refine wpIn_seq (Go.wpIn_mono (h a w hR) ?_)
  rintro e a2 w2 ⟨ρ2, σ2, u2, hR2, rfl, h2⟩
  exact wcs_wp hc bs ρ2 σ2 u2 h2 a2 w2 hR2
end Go.Eng
namespace Go.Eng
open Go Go.RowKit
set_option linter.unusedSimpArgs false
set_option linter.unusedVariables false
theorem FnP.intro_rangeX {α : Type} {P : Program} {f : FuncId} {fn : Func} {pre : List Code} {c2 c3 asg body : Code} {blk p : Nat} {g : Operand} {args : List Value} {u : View} {R : Value → View → Prop} (rs : List ResultVar) (V : View → α → Value → Prop) (K : Env → Own → View → Prop)
  (hf : P.funcs[f]? = some fn) (hb : fn.body = some (seqs pre (.seq (.seq c2 (.block blk (.rangeFunc g #[p] asg body))) c3))) (hrs : fn.results = rs.toArray) (hn : Nat.ble args.length fn.ntmps = true) (hpn : Nat.blt p fn.ntmps = true)
  (h0 : ∀ (w0 : World) (D : Nat → Prop), (∀ k o, u k = some o → k < w0.heap.size) → WCs ⟨P, fn.ntmps, w0, D, u, [], none⟩ pre (initE 0 args) [] u fun ρ σ u' => WC ⟨P, fn.ntmps, w0, D, u, [], none⟩ c2 ρ σ u' fun e ρ σ u'' => e = .normal ∧ ∃ ρ' σ', subE ρ' ρ ∧ subO σ' σ ∧ K ρ' σ' u'')
  (h1 : ∀ (ρ : Env) (σ : Own) (u1 : View), VLe u u1 → K ρ σ u1 → ∃ (gf : Nat) (lb : List Value) (ids : List Nat) (J : List α → List PO) (PX PB : List α → Prop) (ρb : List (Nat × Value)) (ρ3 : Env) (M : List α → α → Env → Own → View → Prop),
   opv ρ g = some (.v (.func (.func gf) #[] lb.toArray)) ∧ canCall P gf = true ∧ gvs σ ids = some (J []) ∧ nodupb ids = true ∧ (∀ k x, gv ρb k = some x → (gv ρ k).bind (svV σ) = some x) ∧
   subE ρ3 ρ ∧ okRefs ids σ ρ3 = true ∧ (∀ xs, PX xs → keepPins (J []) (J xs)) ∧ newIds ids [900] σ ρ3 = true ∧
   (∀ (L : Nat) (Y : List α → (Nat → Prop) → (World → Prop) → Prop), (∀ pre H I, Y pre H I → PB pre → ∀ u' x v, VLe u1 u' → V u' x v → YldO P L [v] u' [(none, .fg H I)] fun r u'' l' => r = .bool true ∧ ∃ H' I', l' = [(none, .fg H' I')] ∧ Y (pre ++ [x]) H' I') →
    ∀ H I, Y [] H I → FnO P gf (.func (.yield L) #[] #[] :: lb) u1 [(none, .fg H I)] fun _ _ l' => ∃ H' I' xs, PX xs ∧ l' = [(none, .fg H' I')] ∧ Y xs H' I') ∧
   (∀ (L : Nat) (pre : List α) (x : α) (v : Value) (u' : View) (w0 : World) (D : Nat → Prop), PB pre → VLe u1 u' → V u' x v → (∀ k o, u' k = some o → k < w0.heap.size) → WC ⟨P, fn.ntmps, w0, D, u', [], some L⟩ asg ((p, .v v) :: envV ρb) (zipO (inIds 1000 (J pre)) (J pre)) u' fun e ρ σ u'' => e = .normal ∧ ∃ ρ' σ', subE ρ' ρ ∧ subO σ' σ ∧ M pre x ρ' σ' u'') ∧
   (∀ (L : Nat) (pre : List α) (x : α) (ρ : Env) (σ : Own) (u'' : View) (w0 : World) (D : Nat → Prop), PB pre → M pre x ρ σ u'' → WC ⟨P, fn.ntmps, w0, D, u'', [], some L⟩ body ρ σ u'' fun e ρ σ u3 => e = .normal ∧ ∃ ids, gvs σ ids = some (J (pre ++ [x])) ∧ nodupb ids = true) ∧
   (∀ (xs : List α), PX xs → ∀ (w0 : World) (D : Nat → Prop) (df : List Deferred) (dH : Nat → Prop) (dI : World → Prop) (u2 : View), VLe u1 u2 → WC ⟨P, fn.ntmps, w0, D, u, df, none⟩ c3 ρ3 (zipO (ids ++ [900]) (J xs ++ [(none, .fg dH dI)]) ++ rms (ids ++ [900]) σ) u2 fun e ρ' σ' u' => Fin P rs R e ρ' (Eng.rm 900 σ') u' ∧ gv σ' 900 = some (none, .fg dH dI))) :
  FnP P f args u R := by
 intro w bk0 hd0 hA hO
 have hinit : Rep ⟨P, fn.ntmps, w, HoldsL bk0 hd0 [], u, [], none⟩ (initE 0 args) [] u { tmps := args.toArray ++ Array.replicate (fn.ntmps - args.toArray.size) undef, defers := [] } w := by
  refine ⟨fun _ => none, fun _ => undef, by have := Nat.le_of_ble_eq_true hn; simp; omega, rfl, Frame0.refl _ _, hA, fun _ _ _ => rfl, ?_, by simp [gv], by simp [gv], by simp [gv]⟩
  intro k sv hk
  obtain ⟨x, j, rfl, rfl, hj⟩ := gv_initE args 0 k sv hk
  refine ⟨x, ?_, rfl⟩
  have hlt : j < args.length := (List.getElem?_eq_some_iff.1 hj).1
  simp [Array.getElem?_append, hlt]; exact (List.getElem?_eq_some_iff.1 hj).2
 have hnoH : ∀ b, ¬ HoldsL bk0 hd0 [] b := fun b ⟨i, p, hi, _⟩ => by simp at hi
 refine (callsIn_wide (n := 0)).1 (callsIn_of_wp_marks hf hb trivial ?_ rfl)
 refine wcs_wp (F := ⟨P, fn.ntmps, w, HoldsL bk0 hd0 [], u, [], none⟩) (fun ρ σ u1 a1 w1 hc2 hRc => ?_) pre _ _ _ (h0 w _ (fun k o hk => hA.lt hk)) _ w hinit
 refine wpIn_seq (wpIn_seq (Go.wpIn_mono (hc2 a1 w1 hRc) ?_))
 rintro e a1 w1 ⟨ρ', σ', u1, hR', rfl, ρ, σ, hsub1, hsub2, hK⟩
 obtain ⟨bk, hd, hR⟩ := hR'.sub hsub1 hsub2
 have hle : VLe u u1 := fun k o hk => (hR.uold k (hA.lt hk) (hnoH k)).trans hk
 obtain ⟨gf, lb, ids, J, PX, PB, ρb, ρ3, M, hg, hc, hl, hnd, hρb, hρ3, hok3, hkp, hnew, hit, hasg, hbody, hrest⟩ := h1 ρ σ u1 hle hK
 refine wpIn_block (wpIn_rangeFunc ?_)
 intro fnid _
 obtain ⟨rec, hrec⟩ : ∃ rec : Loop, rec = { state := .ready, pending := none, fn := fnid, tmps := a1.tmps, params := #[p], assign := asg, body := body, defers := w1.heap.size } := ⟨_, rfl⟩
 obtain ⟨W1, hW1⟩ : ∃ W1, (w1.alloc (.deferred (some []))).alloc (.loop rec) = W1 := ⟨_, rfl⟩
 have hL1 : W1.heap[w1.heap.size + 1]? = some (.loop rec) := by
  rw [← hW1]; have := World.alloc_heap_new (w1.alloc (.deferred (some []))) (.loop rec); rwa [World.size_alloc] at this
 have hD1 : W1.heap[w1.heap.size]? = some (.deferred (some [])) := by
  rw [← hW1]; exact (Below.heap_alloc _ _ _ (by simp)).trans (World.alloc_heap_new w1 _)
 have hs1 : W1.heap.size = w1.heap.size + 2 := by rw [← hW1]; simp
 have hold1 : ∀ k, k < w1.heap.size → W1.heap[k]? = w1.heap[k]? := fun k hk => by
  rw [← hW1]; exact (Below.heap_alloc _ _ _ (by simp; omega)).trans (Below.heap_alloc _ _ _ hk)
 have hOw := hR.ownsL hl hnd
 have hltH : ∀ b, HoldsL (fun i => ((ids[i]?).bind bk)) (fun i => ((ids[i]?).map hd).getD undef) (J []) b → b < w1.heap.size := fun b ⟨i, q, hi, hb⟩ => (hOw.own i q hi).lt hb
 refine ⟨w1.heap.size + 1, [{ target := .collected w1.heap.size, args := #[] }], W1, { target := .fn (.func gf) lb.toArray, args := #[.func (.yield (w1.heap.size + 1)) #[] #[]] }, W1, gf, (.func (.yield (w1.heap.size + 1)) #[] #[] :: lb).toArray, W1, ?_, ?_, fun _ _ => trivial, ?_, fun hs => by simp [fw, Fence.wide] at hs, ?_⟩
 ·
  rw [← hW1, hrec]; exact run_enterLoop_outer _ _ _ _ _
 ·
  simp [resolve, hR.op hg, Deferred.ofValue]
  rfl
 ·
  simp [invoke, run_callFunc hc]
 have hrounds : ∀ pre H I, LoopY J (w1.heap.size + 1) w1.heap.size rec pre H I → PB pre → ∀ u' x v, VLe u1 u' → V u' x v → YldO P (w1.heap.size + 1) [v] u' [(none, .fg H I)] fun r u'' l' => r = .bool true ∧ ∃ H' I', l' = [(none, .fg H' I')] ∧ LoopY J (w1.heap.size + 1) w1.heap.size rec (pre ++ [x]) H' I' := by
  intro pre H I hY hPB u' x v hv hV
  exact round_of (M pre x) (by rw [hrec]) (by rw [hrec]) (by rw [hrec]) (by rw [hrec]) (by rw [hrec]) (by rw [hrec]; exact hR.size) (blt_lt hpn) (by omega) (fun k y hk => by
   rw [hrec]
   obtain ⟨sv, e1, e2⟩ := Option.bind_eq_some_iff.1 (hρb k y hk)
   obtain ⟨z, hz, hs⟩ := hR.slot k sv e1
   have := hR.svV hs e2
   subst this
   exact hz) (fun w0 D hlt => hasg _ pre x v u' w0 D hPB hv hV hlt) (fun ρ σ u'' w0 D hM => hbody _ pre x ρ σ u'' w0 D hPB hM) hY
 have hA1 : Agree u1 W1 := fun k o hk => (hold1 k (hR.agree.lt hk)).trans (hR.agree k o hk)
 have hO1 : OwnsL W1 u1 (fun _ => none) (fun _ => undef) [((none, OO.fg (fun k => HoldsL (fun i => ((ids[i]?).bind bk)) (fun i => ((ids[i]?).map hd).getD undef) (J []) k ∨ k = w1.heap.size + 1 ∨ k = w1.heap.size) (fun w : World => (∀ (i : Nat) (p : PO), (J [])[i]? = some p → ownOk w ((ids[i]?).bind bk) (((ids[i]?).map hd).getD undef) p) ∧ w.heap[w1.heap.size + 1]? = some (.loop rec) ∧ w.heap[w1.heap.size]? = some (.deferred (some [])))) : PO)] := by
  refine ⟨?_, ?_, ?_⟩
  ·
   intro i q hi
   obtain rfl : i = 0 := by
    cases i with
    | zero => rfl
    | succ i => simp at hi
   simp only [List.getElem?_cons_zero, Option.some.injEq] at hi
   subst hi
   refine ⟨⟨fun w5 h5 => ⟨fun i q hi => (hOw.own i q hi).grow fun k hk => (h5 k (.inl ⟨i, q, hi, hk⟩)).trans (hold1 k (hltH k ⟨i, q, hi, hk⟩)), (h5 _ (.inr (.inl rfl))).trans hL1, (h5 _ (.inr (.inr rfl))).trans hD1⟩, ?_⟩, by simp⟩
   rintro k (hk | rfl | rfl)
   ·
    have := hltH k hk; omega
   ·
    omega
   ·
    omega
  ·
   intro i q b hi hb
   obtain rfl : i = 0 := by
    cases i with
    | zero => rfl
    | succ i => simp at hi
   simp only [List.getElem?_cons_zero, Option.some.injEq] at hi
   subst hi
   rcases hb with ⟨i, q, hi, hk⟩ | rfl | rfl
   ·
    exact hOw.free i q b hi hk
   ·
    cases hu : u1 (w1.heap.size + 1) with
    | none => rfl
    | some o => exact absurd (hR.agree.lt hu) (by omega)
   ·
    cases hu : u1 w1.heap.size with
    | none => rfl
    | some o => exact absurd (hR.agree.lt hu) (by omega)
  ·
   intro i j p q b hi hj _ _
   cases i with
   | succ i => simp at hi
   | zero =>
    cases j with
    | succ j => simp at hj
    | zero => rfl
 refine callsIn_fw none _ (Calls.mono (hit (w1.heap.size + 1) (LoopY J (w1.heap.size + 1) w1.heap.size rec) hrounds _ _ ⟨_, _, rfl, rfl, hOw.inj, fun b hb => by have := hltH b hb; exact ⟨by omega, by omega⟩⟩ W1 _ _ hA1 hO1) ?_)
 ·
  rintro e w3 ⟨v, u3, l', bk3, hd3, rfl, ⟨H', I', xs, hPX, rfl, hY'⟩, hA3, hu3, hF3, hO3, hN3⟩
  obtain ⟨bk4, hd4, rfl, rfl, hinj4, hnot4⟩ := hY'
  obtain ⟨hI1, hI2⟩ := (hO3.own 0 _ rfl).1
  obtain ⟨hown3, hL3, hD3⟩ := hI1 w3 (fun _ _ => rfl)
  have hfree3 : ∀ b, (HoldsL bk4 hd4 (J xs) b ∨ b = w1.heap.size + 1 ∨ b = w1.heap.size) → u3 b = none := fun b hb => hO3.free 0 _ b rfl hb
  have hrun := run_endLoop (P := P) hL3 (by rw [hrec]; simp)
  have hpend : rec.pending = none := by rw [hrec]
  obtain ⟨w4, hw4⟩ : ∃ w4, w3.putObj (w1.heap.size + 1) (.loop { rec with state := .exhausted }) = w4 := ⟨_, rfl⟩
  rw [hw4, hpend] at hrun
  refine ⟨none, w4, hrun, ?_⟩
  have hs4 : w4.heap.size = w3.heap.size := by rw [← hw4]; exact putObj_size _ _ _
  have hw4o : ∀ k, k ≠ w1.heap.size + 1 → w4.heap[k]? = w3.heap[k]? := fun k hk => by rw [← hw4]; exact World.putObj_heap_other hk
  have hs3 : W1.heap.size ≤ w3.heap.size := hF3.2.2.2.1
  have hD4 : w4.heap[w1.heap.size]? = some (.deferred (some [])) := (hw4o _ (by omega)).trans hD3
  have hsw : w.heap.size ≤ w1.heap.size := hR.frame.2.2.2.1
  have hnot0 : ∀ k, k < w1.heap.size → ¬ HoldsL (fun i => ((ids[i]?).bind bk)) (fun i => ((ids[i]?).map hd).getD undef) (J []) k → ¬ HoldsL (fun _ => none) (fun _ => undef) [((none, OO.fg (fun k => HoldsL (fun i => ((ids[i]?).bind bk)) (fun i => ((ids[i]?).map hd).getD undef) (J []) k ∨ k = w1.heap.size + 1 ∨ k = w1.heap.size) (fun w : World => (∀ (i : Nat) (p : PO), (J [])[i]? = some p → ownOk w ((ids[i]?).bind bk) (((ids[i]?).map hd).getD undef) p) ∧ w.heap[w1.heap.size + 1]? = some (.loop rec) ∧ w.heap[w1.heap.size]? = some (.deferred (some [])))) : PO)] k := by
   rintro k hk hn ⟨i, q, hi, hb⟩
   obtain rfl : i = 0 := by
    cases i with
    | zero => rfl
    | succ i => simp at hi
   simp only [List.getElem?_cons_zero, Option.some.injEq] at hi
   subst hi
   rcases hb with h | h | h
   ·
    exact hn h
   ·
    omega
   ·
    omega
  have hA4 : Agree u3 w4 := fun k o hk => by
   rw [hw4o k (fun e => by rw [e, hfree3 _ (.inr (.inl rfl))] at hk; cases hk)]
   exact hA3 k o hk
  have hn2 := hnew
  simp only [newIds, Bool.and_eq_true, List.all_eq_true] at hn2
  have hJl : ∀ (i : Nat) (q : PO), (J xs ++ [((none, OO.fg (fun k => k = w1.heap.size) (fun w : World => w.heap[w1.heap.size]? = some (.deferred (some [])))) : PO)])[i]? = some q → (J xs)[i]? = some q ∨ (i = (J xs).length ∧ q = ((none, OO.fg (fun k => k = w1.heap.size) (fun w : World => w.heap[w1.heap.size]? = some (.deferred (some [])))) : PO)) := by
   intro i q hi
   rw [List.getElem?_append] at hi
   split at hi
   ·
    exact .inl hi
   ·
    rename_i hge
    obtain ⟨n, hn⟩ : ∃ n, i - (J xs).length = n := ⟨_, rfl⟩
    rw [hn] at hi
    cases n with
    | zero => simp at hi; exact .inr ⟨by omega, hi.symm⟩
    | succ n => simp at hi
  obtain ⟨bk2, hd2, hR2, _, _⟩ := hR.called (ρ' := ρ3) (u' := u3) (w' := w4) (l' := J xs ++ [((none, OO.fg (fun k => k = w1.heap.size) (fun w : World => w.heap[w1.heap.size]? = some (.deferred (some [])))) : PO)]) (ids' := ids ++ [900]) (bk' := bk4) (hd' := hd4) hl hnd hn2.1 (fun i hi hi2 => by
   have := hn2.2 i (posOf_extra hi hi2)
   simpa using this) (fun j i hj => posOf_append hj) (by
    have : ∀ {l l' e : List PO}, keepPins l l' → keepPins l (l' ++ e) := by
     intro l
     induction l with
     | nil => intro l' e _; trivial
     | cons a l ih =>
      intro l' e h
      cases l' with
      | nil => exact h.elim
      | cons b l' => exact ⟨h.1, ih h.2⟩
    exact this (hkp xs hPX)) hρ3 hok3 hA4 (fun k hk hn => hu3 k (by omega) (hnot0 k hk hn)) ⟨by rw [← hw4]; exact hF3.1.trans (by rw [← hW1]; rfl), by rw [← hw4]; exact hF3.2.1.trans (by rw [← hW1]; rfl), by rw [← hw4]; exact hF3.2.2.1.trans (by rw [← hW1]; rfl), by omega, fun k hk hn => (hw4o k (by omega)).trans ((hF3.2.2.2.2 k (by omega) (hnot0 k hk hn)).trans (hold1 k hk))⟩
   ⟨fun i q hi => by
     rcases hJl i q hi with h | ⟨_, rfl⟩
     ·
      exact (hown3 i q h).grow fun k hk => hw4o k (hnot4 k ⟨i, q, h, hk⟩).1
     ·
      exact ⟨⟨fun w5 h5 => (h5 _ rfl).trans hD4, fun k hk => by have hk' : k = w1.heap.size := hk; omega⟩, by simp⟩,
    fun i q b hi hb => by
     rcases hJl i q hi with h | ⟨_, rfl⟩
     ·
      exact hfree3 b (.inl ⟨i, q, h, hb⟩)
     ·
      exact hfree3 b (.inr (.inr hb)),
    fun i j q q' b hi hj hb hb' => by
     rcases hJl i q hi with h | ⟨h, rfl⟩
     ·
      rcases hJl j q' hj with h' | ⟨h', rfl⟩
      ·
       exact hinj4 i j q q' b h h' hb hb'
      ·
       exact absurd hb' (hnot4 b ⟨i, q, h, hb⟩).2
     ·
      rcases hJl j q' hj with h' | ⟨h', rfl⟩
      ·
       exact absurd hb (hnot4 b ⟨j, q', h', hb'⟩).2
      ·
       rw [h, h']⟩
   (by
    rintro b ⟨i, q, hi, hb⟩
    rcases hJl i q hi with h | ⟨_, rfl⟩
    ·
     rcases hN3 b ⟨0, _, rfl, .inl ⟨i, q, h, hb⟩⟩ with ⟨i2, q2, hi2, hb2⟩ | h2
     ·
      obtain rfl : i2 = 0 := by
       cases i2 with
       | zero => rfl
       | succ i2 => simp at hi2
      simp only [List.getElem?_cons_zero, Option.some.injEq] at hi2
      subst hi2
      rcases hb2 with h3 | h3 | h3
      ·
       exact .inl h3
      ·
       exact .inr (by omega)
      ·
       exact .inr (by omega)
     ·
      exact .inr (by omega)
    ·
     have hb' : b = w1.heap.size := hb
     exact .inr (by omega))
  have hle13 : VLe u1 u3 := fun k o hk => by
   have hkl := hR.agree.lt hk
   refine (hu3 k (by omega) (hnot0 k hkl ?_)).trans hk
   rintro ⟨i, q, hi, hb⟩
   have := hOw.free i q k hi hb
   rw [this] at hk; cases hk
  have hR7 : RepAt ⟨P, fn.ntmps, w, HoldsL bk0 hd0 [], u, [{ target := .collected w1.heap.size, args := #[] }], none⟩ bk2 hd2 ρ3 (zipO (ids ++ [900]) (J xs ++ [((none, OO.fg (fun k => k = w1.heap.size) (fun w : World => w.heap[w1.heap.size]? = some (.deferred (some [])))) : PO)]) ++ rms (ids ++ [900]) σ) u3 ({ a1 with defers := [{ target := .collected w1.heap.size, args := #[] }] ++ a1.defers } : Act) w4 :=
   ⟨hR2.size, by simp [hR2.defers], hR2.frame, hR2.agree, hR2.uold, hR2.slot, hR2.own, hR2.fresh, hR2.inj⟩
  refine Go.wpIn_mono ((hrest xs hPX) w (HoldsL bk0 hd0 []) [{ target := .collected w1.heap.size, args := #[] }] (fun k => k = w1.heap.size) (fun w : World => w.heap[w1.heap.size]? = some (.deferred (some []))) u3 hle13 _ w4 ⟨_, _, hR7⟩) ?_
  rintro e a5 w5 ⟨ρ5, σ5, u5, ⟨bk5, hd5, hE⟩, ⟨he, xs5, ids5, l5, hx, hl5, hnd5, hl0, hr⟩, h900⟩
  obtain ⟨⟨hI5, _⟩, _⟩ := hE.own 900 _ h900
  have hD5 : w5.heap[w1.heap.size]? = some (.deferred (some [])) := hI5 w5 (fun _ _ => rfl)
  have hlt5 : w1.heap.size < w5.heap.size := (Array.getElem?_eq_some_iff.1 hD5).1
  obtain ⟨w6, hw6⟩ : ∃ w6, w5.putObj w1.heap.size (.deferred none) = w6 := ⟨_, rfl⟩
  have hw6o : ∀ k, k ≠ w1.heap.size → w6.heap[k]? = w5.heap[k]? := fun k hk => by rw [← hw6]; exact World.putObj_heap_other hk
  have hs6 : w6.heap.size = w5.heap.size := by rw [← hw6]; exact putObj_size _ _ _
  have hu5 : u5 w1.heap.size = none := (hE.fresh 900 _ w1.heap.size h900 rfl).2
  have hf5 := hE.frame
  have hs5 : w.heap.size ≤ w5.heap.size := hf5.2.2.2.1
  have hE6 : RepAt ⟨P, fn.ntmps, w, HoldsL bk0 hd0 [], u, [{ target := .collected w1.heap.size, args := #[] }], none⟩ bk5 hd5 ρ5 (Eng.rm 900 σ5) u5 a5 w6 := by
   refine ⟨hE.size, hE.defers, ⟨by rw [← hw6]; exact hf5.1, by rw [← hw6]; exact hf5.2.1, by rw [← hw6]; exact hf5.2.2.1, by show w.heap.size ≤ w6.heap.size; omega, fun k hk hD => (hw6o k (by have hk' : k < w.heap.size := hk; omega)).trans (hf5.2.2.2.2 k hk hD)⟩, fun k o hk => ?_, hE.uold, hE.slot, fun id q hi => ?_, fun id q b hi hb => hE.fresh id q b (gv_rm hi).2 hb, fun id id' q q' b hi hi' hb hb' => hE.inj id id' q q' b (gv_rm hi).2 (gv_rm hi').2 hb hb'⟩
   ·
    rw [hw6o k (fun e => by rw [e, hu5] at hk; cases hk)]; exact hE.agree k o hk
   ·
    refine (hE.own id q (gv_rm hi).2).grow fun k hk => hw6o k fun e => ?_
    subst e
    exact (gv_rm hi).1 (hE.inj id 900 q _ _ (gv_rm hi).2 h900 hk rfl)
  have hend : LeavesInM Fence.wide 0 P fn a5.tmps (fun e w' => ∃ v u' l' bk' hd', e = .returned v ∧ (l' = [] ∧ R v u') ∧ Agree u' w' ∧ (∀ k, k < w.heap.size → ¬ HoldsL bk0 hd0 [] k → u' k = u k) ∧ Frame0 w (HoldsL bk0 hd0 []) w' ∧ OwnsL w' u' bk' hd' l' ∧ ∀ b, HoldsL bk' hd' l' b → HoldsL bk0 hd0 [] b ∨ w.heap.size ≤ b) a5.defers .returning w5 := by
   rw [hE.defers]
   refine ⟨by simp, .inl ⟨w1.heap.size, w6, rfl, by rw [← hw6]; exact run_takeDeferred hD5, ?_⟩⟩
   refine ⟨retV xs5, run_results (F := ⟨P, fn.ntmps, w, HoldsL bk0 hd0 [], u, [{ target := .collected w1.heap.size, args := #[] }], none⟩) hE6 hrs hx, retV xs5, u5, [], fun _ => none, fun _ => undef, rfl, ⟨rfl, hr⟩, hE6.agree, hE6.uold, hE6.frame, ⟨by simp, by simp, by simp⟩, ?_⟩
   rintro b ⟨i, q, hi, _⟩
   simp at hi
  rcases he with rfl | rfl
  ·
   exact hend
  ·
   exact hend
end Go.Eng
namespace Go.Eng
open Go Go.RowKit
set_option linter.unusedSimpArgs false
set_option linter.unusedVariables false
section
variable {F : Fx} {ρ : Env} {σ : Own} {u : View} {Q : Post} {bk : Nat → Option Nat} {hd : Nat → Value} {a : Act} {w : World}
theorem RepAt.rbBox (h : RepAt F bk hd ρ σ u a w) {id : Nat} {pn : Option Nat} {T : TypeId} {sz n : Nat} {xs : List Value} (hs : gv σ id = some (pn, .rb T sz n xs)) :
  RepAt F bk hd ρ ((id, (pn, .box [hd id])) :: σ) u a w := by
 have hcase : ∀ i q, gv ((id, (pn, OO.box [hd id])) :: σ) i = some q → ∃ q', gv σ i = some q' ∧ (∀ b, q.2.holds (bk i) (hd i) b → q'.2.holds (bk i) (hd i) b) ∧ (ownOk w (bk i) (hd i) q' → ownOk w (bk i) (hd i) q) := by
  intro i q hi
  simp only [gv] at hi
  split at hi
  ·
   rename_i hb
   cases hi
   have := Nat.eq_of_beq_eq_true hb
   subst this
   exact ⟨_, hs, fun b hb => .inl hb, fun ⟨⟨_, b, Tb, h1, h2, _⟩, hp⟩ => ⟨⟨b, Tb, h1, h2⟩, hp⟩⟩
  ·
   exact ⟨q, hi, fun b hb => hb, fun h => h⟩
 refine ⟨h.size, h.defers, h.frame, h.agree, h.uold, h.slot, ?_, ?_, ?_⟩
 ·
  intro i q hi
  obtain ⟨q', h1, _, h3⟩ := hcase i q hi
  exact h3 (h.own i q' h1)
 ·
  intro i q b hi hb
  obtain ⟨q', h1, h4, _⟩ := hcase i q hi
  exact h.fresh i q' b h1 (h4 b hb)
 ·
  intro i j p q b hi hj hb hb'
  obtain ⟨p', h1, h4, _⟩ := hcase i p hi
  obtain ⟨q', h1', h4', _⟩ := hcase j q hj
  exact h.inj i j p' q' b h1 h1' (h4 b hb) (h4' b hb')
theorem RepAt.rbOpen (h : RepAt F bk hd ρ σ u a w) {id : Nat} (id2 : Nat) {pn : Option Nat} {T : TypeId} {sz n : Nat} {xs : List Value} (hs : gv σ id = some (pn, .rb T sz n xs)) (hr : noref id2 ρ = true) (h2 : gv σ id2 = none) :
  RepAt F (fun j => if j = id2 then (hd id).ownBlock else bk j) (fun j => if j = id2 then hd id else hd j) ρ ((id2, (none, .rwv (hd id) T sz n xs)) :: (id, (pn, .box [hd id])) :: σ) u a w := by
 have hne : id ≠ id2 := fun e => by rw [e, h2] at hs; cases hs
 obtain ⟨⟨hrow, b0, Tb, hb0, hc0, hnb⟩, _⟩ := h.own id _ hs
 refine (h.rbBox hs).addOwn (p := (none, .rwv (hd id) T sz n xs)) hr ?_ ⟨⟨rfl, hrow, rfl⟩, by simp⟩ ?_
 ·
  simp only [gv]
  split
  ·
   rename_i hb; exact absurd (Nat.eq_of_beq_eq_true hb) hne
  ·
   exact h2
 ·
  intro b hb
  have hh : (OO.rb T sz n xs).holds (bk id) (hd id) b := .inr hb
  obtain ⟨f1, f2⟩ := h.fresh id _ b hs hh
  refine ⟨f1, f2, fun j q hj hq => ?_⟩
  simp only [gv] at hj
  split at hj
  ·
   rename_i hbq
   have := Nat.eq_of_beq_eq_true hbq
   subst this
   cases hj
   have hq' : bk id = some b := hq
   rw [hb0] at hq'
   cases hq'
   exact hnb hb
  ·
   rename_i hbq
   have := h.inj id j _ q b hs hj hh hq
   subst this
   simp at hbq
theorem rowSl {w : World} {T : TypeId} {sz n : Nat} {hv : Value} {xs : List Value} (h : w.ownsRow 0 T sz hv n xs) : ∃ ad cap, hv = .slice ad n cap := by
 rcases h.2 with ⟨hv', hn⟩ | ⟨g, cap, cur, hv', _⟩
 ·
  exact ⟨none, 0, by rw [hv', hn]⟩
 ·
  exact ⟨_, _, hv'⟩
theorem wc_rbOpen {c : Code} (id id2 : Nat) {pn : Option Nat} {T : TypeId} {sz n : Nat} {xs : List Value} (hs : gv σ id = some (pn, .rb T sz n xs)) (hr : noref id2 ρ = true) (h2 : gv σ id2 = none)
  (h : ∀ ad cap, WC F c ρ ((id2, (none, .rwv (.slice ad n cap) T sz n xs)) :: (id, (pn, .box [.slice ad n cap])) :: σ) u Q) : WC F c ρ σ u Q := by
 rintro a w ⟨bk, hd, hR⟩
 obtain ⟨⟨hrow, _⟩, _⟩ := hR.own id _ hs
 obtain ⟨ad, cap, e⟩ := rowSl hrow
 have h3 := hR.rbOpen id2 hs hr h2
 rw [e] at h3
 exact h ad cap a w ⟨_, _, h3⟩
theorem RepAt.rbClose (h : RepAt F bk hd ρ σ u a w) {id id2 : Nat} {pn pn2 : Option Nat} {T : TypeId} {sz n : Nat} {xs : List Value} {v : Value} (hs : gv σ id = some (pn, .box [v])) (hs2 : gv σ id2 = some (pn2, .rwv v T sz n xs)) (hne : id ≠ id2) :
  RepAt F bk (fun j => if j = id then v else hd j) [] ((id, (pn, .rb T sz n xs)) :: Eng.rm id2 σ) u a w := by
 obtain ⟨⟨b0, T0, hb0, hc0⟩, hp0⟩ := h.own id _ hs
 obtain ⟨⟨hv2, hrow, hbk2⟩, _⟩ := h.own id2 _ hs2
 have hnb : v.ownBlock ≠ some b0 := fun e => hne (h.inj id id2 _ _ b0 hs hs2 hb0 (by show bk id2 = some b0; rw [hbk2]; exact e))
 have hcase : ∀ j q, gv ((id, (pn, OO.rb T sz n xs)) :: Eng.rm id2 σ) j = some q → (j = id ∧ q = (pn, .rb T sz n xs)) ∨ (j ≠ id ∧ j ≠ id2 ∧ gv σ j = some q) := by
  intro j q hj
  simp only [gv] at hj
  split at hj
  ·
   rename_i hb
   cases hj
   exact .inl ⟨(Nat.eq_of_beq_eq_true hb).symm, rfl⟩
  ·
   rename_i hb
   obtain ⟨h1, h2⟩ := gv_rm hj
   exact .inr ⟨fun e => by subst e; simp at hb, h1, h2⟩
 have hrb : ∀ b, (OO.rb T sz n xs).holds (bk id) v b → ((OO.box [v]).holds (bk id) (hd id) b ∨ (OO.rwv v T sz n xs).holds (bk id2) (hd id2) b) := fun b hb => hb.imp (fun h => h) (fun h => by show bk id2 = some b; rw [hbk2]; exact h)
 refine ⟨h.size, h.defers, h.frame, h.agree, h.uold, fun k sv hk => by simp [gv] at hk, ?_, ?_, ?_⟩
 ·
  intro j q hj
  rcases hcase j q hj with ⟨rfl, rfl⟩ | ⟨h1, h2, h3⟩
  ·
   simp only [if_true]
   exact ⟨⟨hrow, b0, T0, hb0, hc0, hnb⟩, hp0⟩
  ·
   simpa [h1] using h.own j q h3
 ·
  intro j q b hj hb
  rcases hcase j q hj with ⟨rfl, rfl⟩ | ⟨h1, h2, h3⟩
  ·
   simp only [if_true] at hb
   rcases hrb b hb with hb | hb
   ·
    exact h.fresh _ _ b hs hb
   ·
    exact h.fresh _ _ b hs2 hb
  ·
   exact h.fresh j q b h3 (by simpa [h1] using hb)
 ·
  intro i j p q b hi hj hb hb'
  rcases hcase i p hi with ⟨rfl, rfl⟩ | ⟨h1, h2, h3⟩
  ·
   rcases hcase j q hj with ⟨rfl, rfl⟩ | ⟨k1, k2, k3⟩
   ·
    rfl
   ·
    simp only [if_true] at hb
    have hb2 : q.2.holds (bk j) (hd j) b := by simpa [k1] using hb'
    rcases hrb b hb with hb | hb
    ·
     exact h.inj _ j _ q b hs k3 hb hb2
    ·
     exact absurd (h.inj _ j _ q b hs2 k3 hb hb2).symm k2
  ·
   have hb2 : p.2.holds (bk i) (hd i) b := by simpa [h1] using hb
   rcases hcase j q hj with ⟨rfl, rfl⟩ | ⟨k1, k2, k3⟩
   ·
    simp only [if_true] at hb'
    rcases hrb b hb' with hb' | hb'
    ·
     exact h.inj i _ p _ b h3 hs hb2 hb'
    ·
     exact absurd (h.inj i _ p _ b h3 hs2 hb2 hb') h2
   ·
    exact h.inj i j p q b h3 k3 hb2 (by simpa [k1] using hb')
theorem Zaw {ops : Array Oper} {fuel : Nat} {listed : Array Bool} (id id2 : Nat) {pn pn2 : Option Nat} {T : TypeId} {sz n : Nat} {xs : List Value} {v : Value} (hs : gv σ id = some (pn, .box [v])) (hs2 : gv σ id2 = some (pn2, .rwv v T sz n xs)) (hne : Nat.beq id id2 = false)
  (h : RI F ops fuel listed [] ((id, (pn, .rb T sz n xs)) :: Eng.rm id2 σ) u Q) : RI F ops fuel listed ρ σ u Q := by
 rintro a w ⟨bk, hd, hR⟩
 exact h a w ⟨_, _, hR.rbClose hs hs2 (fun e => by subst e; simp at hne)⟩
end
end Go.Eng
namespace Go.Eng
open Go Go.RowKit
set_option linter.unusedSimpArgs false
set_option linter.unusedVariables false
section
variable {F : Fx} {ρ : Env} {σ : Own} {u : View} {Q : Post} {bk : Nat → Option Nat} {hd : Nat → Value} {a : Act} {w : World} {σS : Own} {uS : View} {o : Oper}
theorem do_convSB {K : Env → Own → View → Prop} {d : Nat} {S T E ty : TypeId} {sz by' : Nat} {y : Operand} {pos : String} {aft : Array Edge} {l : List UInt8} (hS : subO σS σ) (hs : F.P.underlying S = some .string) (ht : tyS F.P T = some (E, sz, by'))
  (he : F.P.underlying E = some (.int .u8)) (hy : opv ρ y = some (.v (str l))) (hr : noref d ρ = true) (hσ : gv σ d = none) (hn : Nat.blt d F.n = true)
  (h : ∀ b cap, K ((d, .v (.slice (some ⟨b, 0, none⟩) l.length cap)) :: ρ) ((d, (some b, .cv E (bytesC l))) :: σ) u) : Does F σS ⟨some d, .convert S T y, ty, pos, aft, none⟩ ρ σ u K := by
 intro bk hd a w Q hR N hN
 obtain ⟨inf, hu, hinf, hsz, hby⟩ := tyS_some ht
 have hlen : ByteArray.size ⟨l.toArray⟩ = l.length := by simp [ByteArray.size]
 have hrun : (execOp a.eval ⟨some d, .convert S T y, ty, pos, aft, none⟩).run F.P w = .ok (.value (.slice (some ⟨w.heap.size, 0, none⟩) l.length (grownCap w l.length 0 E))) (Lib.bytesWorld w E ⟨l.toArray⟩) := by
  have := Lib.run_convert_string_bytes (P := F.P) w S T E ⟨l.toArray⟩ hs hu he
  rw [hlen] at this
  simp [execOp, hR.op hy, str, this]
 unfold Oper.wp
 rw [hrun]
 have hg0 : Frame0 w noD (Lib.bytesWorld w E ⟨l.toArray⟩) := by
  refine ⟨?_, ?_, ?_, by rw [Lib.bytesWorld_size]; omega, fun k hk _ => Lib.bytesWorld_at_old w E _ k hk⟩ <;> simp [Lib.bytesWorld, World.freeze, World.alloc, World.drew, -World.alloc_eq, -World.drew_eq]
 have hnew := Lib.bytesWorld_at_new w E ⟨l.toArray⟩
 refine hN _ _ _ _ _ _ _ (h w.heap.size _) (((hR.grow hg0).addOwn hr hσ (p := (some w.heap.size, .cv E (bytesC l))) (bo := some w.heap.size) (hv := undef)
  ⟨⟨w.heap.size, List.replicate (grownCap w l.length 0 E - l.length) (.int .u8 0), (Lib.bytesCells w E ⟨l.toArray⟩).size, (Lib.bytesCells w E ⟨l.toArray⟩).size + 1, rfl, hnew.trans ?_, ?_⟩, by simp⟩ ?_).put (blt_lt hn) rfl) (fun x hx => ?_)
 ·
  have e : (bytesC l ++ List.replicate (grownCap w l.length 0 E - l.length) (Value.int .u8 0)).toArray = Lib.bytesCells w E ⟨l.toArray⟩ := by
   apply Array.ext'
   simp [Lib.bytesCells, bytesC, Lib.byteCells, hlen]
  rw [e]
 ·
  rw [bytesC_len]; simp [Lib.bytesCells, ByteArray.size]
 ·
  intro b hb
  cases hb
  refine ⟨.inr hR.frame.2.2.2.1, ?_, fun id oo hi hb => absurd ((hR.own id oo hi).lt hb) (Nat.lt_irrefl _)⟩
  cases hu : u w.heap.size with
  | none => rfl
  | some o => exact absurd (hR.agree.lt hu) (Nat.lt_irrefl _)
 ·
  refine same_of (VLe.refl u) (fun id p hi => ?_) (fun id p b hi hb => ?_) hx
  ·
   have : id ≠ d := fun e => by rw [e, gv_subO_none hS hσ] at hi; cases hi
   simp [this]
  ·
   exact Lib.bytesWorld_at_old w E _ b ((hR.own id p (gv_subO hS id p hi)).lt hb)
theorem y_index_cv {t e E : TypeId} {x y : Operand} (id : Nat) {b len cap sz by' : Nat} {xs : List Value} {k : IntKind} {i : Int} {j : Nat} (ho : o.op = .indexAddr t x y) (ht : tyS F.P t = some (e, sz, by'))
  (hx : opv ρ x = some (.v (.slice (some ⟨b, 0, none⟩) len cap))) (hs : gv σ id = some (some b, .cv E xs)) (hy : opv ρ y = some (.v (.int k i))) (hj : i = (j : Int)) (h1 : j < len) : Yld F σS uS ρ σ u o (.p id (j * sz)) := by
 intro bk hd a w hR
 subst hj
 obtain ⟨_, hpn⟩ := hR.own id _ hs
 refine ⟨_, ⟨b, hpn b rfl, rfl⟩, fun w' _ => ?_⟩
 simp [execOp, ho, hR.op hx, hR.op hy, run_indexAt_slice ht (Int.natCast_nonneg j) (Int.ofNat_lt.2 h1)]
theorem y_load_cv {t E : TypeId} {x : Operand} {id off n : Nat} {g : Bool} {xs vs xs' : List Value} {z : Value} {pn pn' : Option Nat} (ho : o.op = .load t x) (hk : tyK F.P t = some (g, n)) (hx : opv ρ x = some (.p id off))
  (hs : gv σ id = some (pn, .cv E xs)) (hS : gv σS id = some (pn', .cv E xs')) (hc : cut xs off n = vs) (hl : vs.length = n) (hz : packV g vs = some z) (hle : off + n ≤ xs.length) : Yld F σS uS ρ σ u o (.v z) := by
 intro bk hd a w hR
 obtain ⟨b, hb, hx'⟩ := hR.opS hx
 obtain ⟨⟨b', zz, lo, hi, hb', hh, hlo⟩, _⟩ := hR.own id _ hs
 rw [hb] at hb'
 cases hb'
 refine ⟨z, rfl, fun w' hw => ?_⟩
 have hh' := (hw.2 id _ b hS hb).trans hh
 have hc' : cut (xs ++ zz).toArray.toList off n = vs := by
  rw [← hc]
  unfold cut
  simp only [List.drop_append, List.take_append]
  rw [show n - (xs.drop off).length = 0 by rw [List.length_drop]; omega]
  simp
 simp [execOp, ho, hx', Instr.loadAt, Instr.sureAddr, run_loadVar_cut hk hh' hc' hl hz]
theorem do_store_cv {K : Env → Own → View → Prop} {T ty E : TypeId} {x y : Operand} {pos : String} {aft : Array Edge} {id off : Nat} {g : Bool} {pn : Option Nat} {xs xs' : List Value} {z : Value} (hS : subO σS σ) (hid : gv σS id = none) (hk : tyK F.P T = some (g, 1))
  (hx : opv ρ x = some (.p id off)) (hy : opv ρ y = some (.v z)) (hs : gv σ id = some (pn, .cv E xs)) (hz : z.cells.toList = [z]) (h1 : z.oneCell' = true) (hle : off < xs.length) (hc : xs.set off z = xs')
  (h : K ρ ((id, (pn, .cv E xs')) :: σ) u) : Does F σS ⟨none, .store T x y, ty, pos, aft, none⟩ ρ σ u K := by
 intro bk hd a w Q hR N hN
 obtain ⟨b, hb, hx'⟩ := hR.opS hx
 obtain ⟨⟨b', zz, lo, hi, hb', hh, hlo⟩, hpn⟩ := hR.own id _ hs
 rw [hb] at hb'; cases hb'
 subst hc
 have hcell : w.cell? ⟨b, off, none⟩ = some (xs[off]) := by
  simp [World.cell?, hh, List.getElem?_append, hle]
 have hfro : w.frozen? ⟨b, off, none⟩ = false := by
  simp only [World.frozen?, hh, Bool.and_eq_false_iff, decide_eq_false_iff_not]
  left; omega
 have hst : (store ((⟨b, off, none⟩ : Addr).add 0) z).run F.P w = .ok () (w.setRow b (xs.set off z ++ zz).toArray) := by
  rw [add_eq, Nat.add_zero, run_store F.P w _ z _ h1, hcell]
  simp only [hfro, Bool.false_eq_true, if_false]
  rw [setCell_eq_setRow w b off _ E _ z hh]
  congr 2
  apply Array.ext'
  simp [Array.toList_setIfInBounds, List.set_append, hle]
 have hsv : (storeVar T ⟨b, off, none⟩ z).run F.P w = .ok () (w.setRow b (xs.set off z ++ zz).toArray) := by
  have hsz : z.cells.size = 1 := by rw [← Array.length_toList, hz]; rfl
  have hst' : (storeCells ⟨b, off, none⟩ [z]).run F.P w = .ok () (w.setRow b (xs.set off z ++ zz).toArray) := by
   simp only [storeCells, Sem.run_bind, hst, Result.andThen_ok]
   rfl
  unfold storeVar
  rw [Sem.run_bind, run_sizeOf hk w]
  simp [hsz, hz, hst']
 have hrun : (execOp a.eval ⟨none, .store T x y, ty, pos, aft, none⟩).run F.P w = .ok .skip (w.setRow b (xs.set off z ++ zz).toArray) := by
  simp [execOp, hx', hR.op hy, Instr.storeAt, Instr.sureAddr, hsv]
 unfold Oper.wp
 rw [hrun]
 exact hN _ _ _ _ _ _ _ h (hR.setOwn hs (fun k e => e ▸ hb) ⟨⟨b, zz, lo, hi, hb, setRow_heap w b _ _ E _ hh, by simpa using hlo⟩, hpn⟩ (fun k hk => hk)) (fun x hx => same_row hR hS hs hid (fun k e => e ▸ hb) hx)
theorem y_convBS {s d e E : TypeId} {x : Operand} (id : Nat) {b n cap sz by' : Nat} {l l' : List UInt8} {pn' : Option Nat} (ho : o.op = .convert s d x) (hs : tyS F.P s = some (e, sz, by')) (he : F.P.underlying e = some (.int .u8)) (hd' : F.P.underlying d = some .string)
  (hx : opv ρ x = some (.v (.slice (some ⟨b, 0, none⟩) n cap))) (hn : l.length = n) (hg : gv σ id = some (some b, .cv E (bytesC l))) (hS : gv σS id = some (pn', .cv E (bytesC l'))) : Yld F σS uS ρ σ u o (.v (str l)) := by
 intro bk hd a w hR
 subst hn
 obtain ⟨inf, hu, hinf, hsz, hby⟩ := tyS_some hs
 obtain ⟨⟨b', zz, lo, hi, hb', hh, hlo⟩, hpn⟩ := hR.own id _ hg
 have hb := hpn b rfl
 rw [hb] at hb'
 cases hb'
 refine ⟨_, rfl, fun w' hw => ?_⟩
 have hh' := (hw.2 id _ b hS hb).trans hh
 have := run_convert_bytes_arg (P := F.P) w' s e hu he b 0 l.length cap (l.map fun c => (c.toNat : Int)) (by simp) (fun i hi => by
  simp [World.cell?, hh', bytesC, Lib.byteCells, List.getElem?_append, hi, List.getD]) d hd'
 have e2 : strOfNums (l.map fun c => (c.toNat : Int)) = ⟨l.toArray⟩ := by
  unfold strOfNums
  congr 1
  simp [List.map_map, Function.comp_def]
 rw [e2] at this
 simp [execOp, ho, hR.op hx, this, str]
theorem do_insert {K0 : Env → Own → View → Prop} {T K E ty : TypeId} {d : TypeDesc} {x y v : Operand} {pos : String} {aft : Array Edge} {id : Nat} {pn : Option Nat} {kvs : List (Value × Value)} {k z : Value} (hS : subO σS σ) (hid : gv σS id = none) (ht : F.P.underlying T = some (.map K E)) (hd' : F.P.underlying K = some d)
  (hx : opv ρ x = some (.m id)) (hs : gv σ id = some (pn, .mp kvs)) (hy : opv ρ y = some (.v k)) (hv : opv ρ v = some (.v z)) (hk : isKey d k = true) (hkeys : kvs.all (fun p => isKey d p.1) = true)
  (h : K0 ρ ((id, (pn, .mp (mset kvs k z))) :: σ) u) : Does F σS ⟨none, .insert T x y v, ty, pos, aft, none⟩ ρ σ u K0 := by
 intro bk hd a w Q hR N hN
 have := do_mapUpdate (ty := ty) (pos := pos) (aft := aft) hS hid ht hd' hx hs hy hv hk hkeys h bk hd a w Q hR N hN
 unfold Oper.wp at this ⊢
 exact this
theorem RepAt.shape (hR : RepAt F bk hd ρ σ u a w) {id : Nat} {pn : Option Nat} {vx : Value} {T : TypeId} {sz n : Nat} {xs : List Value} (hs : gv σ id = some (pn, .rwv vx T sz n xs)) : ∃ ad cap, vx = .slice ad n cap := by
 obtain ⟨⟨hdv, hown, hbk⟩, _⟩ := hR.own id _ hs
 rcases hown.2 with ⟨hv, hn⟩ | ⟨g, cap, cur, hv, _⟩
 ·
  exact ⟨none, 0, by rw [hv, hn]⟩
 ·
  exact ⟨_, _, hv⟩
theorem rl_shape {ops : Array Oper} {l : List Oper} (id : Nat) {pn : Option Nat} {vx : Value} {T : TypeId} {sz n : Nat} {xs : List Value} (hs : gv σ id = some (pn, .rwv vx T sz n xs)) (h : ∀ ad cap, vx = .slice ad n cap → RL F ops l ρ σ u Q) : RL F ops l ρ σ u Q := by
 rintro a w ⟨bk, hd, hR⟩
 obtain ⟨ad, cap, he⟩ := hR.shape hs
 exact h ad cap he a w ⟨bk, hd, hR⟩
theorem y_len_w {x : Operand} (id : Nat) {t T e : TypeId} {ts : Array TypeId} {n sz sz' by' : Nat} {vx : Value} {pn : Option Nat} {xs : List Value} (ho : o.op = .call { callee := .builtin .len, args := #[x], argTypes := ts }) (ht : ts[0]? = some t) (hT : tyS F.P t = some (e, sz', by'))
  (hx : opv ρ x = some (.v vx)) (hs : gv σ id = some (pn, .rwv vx T sz n xs)) : Yld F σS uS ρ σ u o (.v (.int .i64 n)) := by
 intro bk hd a w hR
 obtain ⟨⟨hdv, hown, hbk⟩, _⟩ := hR.own id _ hs
 have key : ∃ ad cap, vx = .slice ad n cap := by
  rcases hown.2 with ⟨hv, hn⟩ | ⟨g, cap, cur, hv, _⟩
  ·
   exact ⟨none, 0, by rw [hv, hn]⟩
  ·
   exact ⟨_, _, hv⟩
 obtain ⟨ad, cap, rfl⟩ := key
 exact Zal (F := F) (σS := σS) (uS := uS) (ρ := ρ) (σ := σ) (u := u) ho ht hT hx bk hd a w hR
theorem do_call_bw {K : Env → Own → View → Prop} {d : Nat} {ty : TypeId} {fo : Operand} {xs : List Operand} {ts : Array TypeId} {pos : String} {aft : Array Edge} {f : FuncId} {caps vs : List Value} (id : Nat) {pn : Option Nat} {vx : Value} {T : TypeId} {sz n : Nat} {ys : List Value} (hS : subO σS σ)
  (hf : opv ρ fo = some (.v (.func (.func f) #[] caps.toArray))) (hs : gv σ id = some (pn, .rwv vx T sz n ys)) (hc : canCall F.P f = true) (hn : Nat.blt d F.n = true) (hvs : opvs ρ (Eng.rm id σ) xs = some vs)
  (h : ∀ u', VLe u u' → IsSl u' vx n sz ys → FnP F.P f (vs ++ caps) u' fun v _ => K ((d, .v v) :: ρ) σ u) :
  Does F σS ⟨some d, .call { callee := .value fo, args := xs.toArray, argTypes := ts }, ty, pos, aft, none⟩ ρ σ u K := by
 intro bk hd a w Q hR N hN
 obtain ⟨u', h1, h2, h3⟩ := hR.freezeW hs
 have hcall := h u' h1 h2
 have hrun : (execOp a.eval ⟨some d, .call { callee := .value fo, args := xs.toArray, argTypes := ts }, ty, pos, aft, none⟩).run F.P w = .ok (.enter f (vs ++ caps).toArray) w := by
  simp [execOp, resolve, hR.op hf, Deferred.ofValue, invoke, run_callFunc hc, h3.ops hvs]
 unfold Oper.wp
 rw [hrun]
 refine (hcall w _ _ h3.agree (ownsL_nil w u')).mono ?_
 rintro e w' ⟨v, u1, l', bk', hd', rfl, ⟨_, hk⟩, hA, hu, hw, _⟩
 have hw2 : Frame0 w noD w' := ⟨hw.1, hw.2.1, hw.2.2.1, hw.2.2.2.1, fun k hk _ => hw.2.2.2.2 k hk (fun ⟨i, p, hi, _⟩ => by simp at hi)⟩
 refine hN _ _ _ _ _ _ _ hk ((hR.grow hw2).put (blt_lt hn) rfl) (fun x hx => same_of (VLe.refl u) (fun _ _ _ => ⟨rfl, rfl⟩) (fun id p b hi hb => hw2.2.2.2.2 b ((hR.own id p (gv_subO hS id p hi)).lt hb) (fun h => h)) hx)
end
end Go.Eng
namespace Go.Eng
open Go Go.RowKit
set_option linter.unusedSimpArgs false
set_option linter.unusedVariables false
section
variable {F : Fx} {ρ : Env} {σ : Own} {u : View} {Q : Post} {bk : Nat → Option Nat} {hd : Nat → Value} {a : Act} {w : World} {σS : Own} {uS : View} {o : Oper}
theorem gv_again {α : Type} {ρ : List (Nat × α)} {t : Nat} {x : α} (h : gv ρ t = some x) : ∀ k y, gv ((t, x) :: ρ) k = some y → gv ρ k = some y := by
 intro k y hk
 simp only [gv] at hk
 split at hk
 ·
  rename_i hb
  have := Nat.eq_of_beq_eq_true hb
  subst this
  cases hk
  exact h
 ·
  exact hk
theorem RepAt.again (h : RepAt F bk hd ρ σ u a w) {t : Nat} {x : SV} (ht : gv ρ t = some x) : RepAt F bk hd ((t, x) :: ρ) σ u a w :=
 ⟨h.size, h.defers, h.frame, h.agree, h.uold, fun k sv hk => h.slot k sv (gv_again ht k sv hk), h.own, h.fresh, h.inj⟩
theorem Zad {ops : Array Oper} {l : List Oper} (t : Nat) {b : Bool} (hg : opv ρ (.tmp t) = some (.v (.bool b))) (h1 : b = true → RL F ops l ((t, .v (.bool true)) :: ρ) σ u Q) (h0 : b = false → RL F ops l ((t, .v (.bool false)) :: ρ) σ u Q) : RL F ops l ρ σ u Q := by
 rintro a w ⟨bk, hd, hR⟩
 have hR2 := hR.again (t := t) (x := .v (.bool b)) hg
 cases b with
 | true => exact h1 rfl a w ⟨bk, hd, hR2⟩
 | false => exact h0 rfl a w ⟨bk, hd, hR2⟩
theorem y_convBS_s {s d e E : TypeId} {x : Operand} {id : Nat} {sz by' n n' : Nat} {l l' : List UInt8} {pn pn' : Option Nat} (ho : o.op = .convert s d x) (hs : tyS F.P s = some (e, sz, by')) (he : F.P.underlying e = some (.int .u8)) (hd' : F.P.underlying d = some .string)
  (hx : opv ρ x = some (.s id)) (hn : l.length = n) (hg : gv σ id = some (pn, .row E 1 n (bytesC l))) (hS : gv σS id = some (pn', .row E 1 n' (bytesC l'))) : Yld F σS uS ρ σ u o (.v (str l)) := by
 intro bk hd a w hR
 subst hn
 obtain ⟨inf, hu, hinf, hsz, hby⟩ := tyS_some hs
 obtain ⟨⟨hown, hbk⟩, hpn⟩ := hR.own id _ hg
 have hev : a.eval x = hd id := hR.opS hx
 refine ⟨_, rfl, fun w' hw => ?_⟩
 rcases hown.2 with ⟨hv, hn⟩ | ⟨g, cap, cur, hv, hbg, hh, hnc, hcm, hcs, htake⟩
 ·
  have hl : l = [] := List.eq_nil_of_length_eq_zero hn
  subst hl
  have := run_convert_bytes_nil (P := F.P) w' s e hu he 0 0 d hd'
  simp [execOp, ho, hev, hv, this, str]
  rfl
 ·
  have hb : bk id = some g := by rw [hbk, hv]; rfl
  have hh' := (hw.2 id _ g hS hb).trans hh
  have := run_convert_bytes_arg (P := F.P) w' s e hu he g 0 l.length cap (l.map fun c => (c.toNat : Int)) (by simp) (fun i hi => by
   have hc : cur.toList[i]? = some (.int .u8 (l[i].toNat : Int)) := by
    have : (bytesC l)[i]? = some (.int .u8 (l[i].toNat : Int)) := by simp [bytesC, Lib.byteCells, hi]
    rw [← htake, List.getElem?_take] at this
    split at this
    ·
     exact this
    ·
     cases this
   simp only [World.cell?, hh', Nat.zero_add]
   simp [List.getD, hi]
   simpa using hc) d hd'
  have e2 : strOfNums (l.map fun c => (c.toNat : Int)) = ⟨l.toArray⟩ := by
   unfold strOfNums
   congr 1
   simp [List.map_map, Function.comp_def]
  rw [e2] at this
  simp [execOp, ho, hev, hv, this, str]
end
section
variable {P : Program} {ρ : Env} {σ : Own} {u : View} {l l' : List PO} {R : Value → View → List PO → Prop}
theorem finO3 (ids : List Nat) {r r2 r3 : ResultVar} {x x2 x3 : Value} (hx : ResV P ρ σ r x) (h2 : ResV P ρ σ r2 x2) (h3 : ResV P ρ σ r3 x3) (hl : gvs σ ids = some l') (hnd : nodupb ids = true) (h : R (.tuple #[x, x2, x3]) u l') : FinO P [r, r2, r3] l R .ret ρ σ u := ⟨.inr rfl, [x, x2, x3], ids, l', .cons hx (.cons h2 (.cons h3 .nil)), hl, hnd, h⟩
end
def partQ (K : Act → World → Prop) (Q : Exit → Act → World → Prop) : Exit → Act → World → Prop
 | .normal, a, w => K a w
 | .ret, a, w => Q .ret a w
 | .goto l, a, w => Q (.goto l) a w
 | .exit l, a, w => Q (.exit l) a w
 | e, a, w => Q e a w
theorem wpListIn_take {P : Program} {ops : Array Oper} {r : Option Nat} {Q : Exit → Act → World → Prop} : ∀ (k : Nat) (l : List Oper) (a : Act) (w : World), wpListIn (fw r) 0 P ops (partQ (wpListIn (fw r) 0 P ops Q (l.drop k)) Q) (l.take k) a w → wpListIn (fw r) 0 P ops Q l a w
 | 0, l, a, w, h => h
 | k + 1, [], a, w, h => h
 | k + 1, o :: rest, a, w, h => by
  have ih := wpListIn_take (P := P) (ops := ops) (r := r) (Q := Q) k rest
  rw [List.take_succ_cons, List.drop_succ_cons] at h
  unfold wpListIn at h ⊢
  split at h
  ·
   rename_i hw
   rw [if_pos hw]
   refine ⟨h.1, ?_⟩
   have h := h.2
   generalize (o.semAt (fw r).round a.eval).run P w = res at *
   have hl : LetsOut (partQ (wpListIn (fw r) 0 P ops Q (rest.drop k)) Q) → LetsOut Q := fun ⟨a, w, h⟩ => ⟨a, w, h⟩
   cases res with
   | ok x w' =>
    cases x <;> simp only [Oper.uponIn] at h ⊢ <;>
     first
      | exact ih _ _ h
      | exact ⟨h.1, CallsIn.mono h.2 (fun e w'' he => by cases e <;> first | exact ih _ _ he | exact he | exact hl he)⟩
      | exact ⟨h.1, RowsIn.mono h.2 (fun _ _ he => ih _ _ he)⟩
      | exact ⟨h.1, RoundIn.mono h.2 (fun e w'' he => by cases e <;> first | exact ih _ _ he | exact he | exact hl he)⟩
   | halt x w' => cases x <;> simp only [Oper.uponIn] at h ⊢ <;> exact h
  ·
   rename_i hw
   rw [if_neg hw]
   exact ⟨h.1, ih _ _ h.2⟩
section
variable {F : Fx} {ρ : Env} {σ : Own} {u : View} {Q : Post} {ops : Array Oper}
theorem Zcg {l : List Oper} {ρk : Env} (k t : Nat) (b : Bool) (_h0 : subE ρk ρ) (h1 : RL F ops (l.take k) ρ σ u (cutBQ t b ρk σ u)) (h2 : RL F ops (l.drop k) ((t, .v (.bool b)) :: ρk) σ u Q) : RL F ops l ρ σ u Q := by
 intro a w hR
 refine wpListIn_take k l a w (wpListIn_monoQ ?_ _ _ _ (h1 a w hR))
 rintro e a w ⟨ρ', σ', u', hR', rfl, h3, h4, rfl, rfl⟩
 exact h2 a w (hR'.subEnv (show subE ((t, .v (.bool b)) :: ρk) ρ' from ⟨h3, h4⟩))
end
def meetQ (t : Nat) (P : Bool → Prop) (ρk : Env) (σ : Own) (u : View) : Post :=
 fun e ρ' σ' u' => e = .normal ∧ (∃ b, P b ∧ gv ρ' t = some (.v (.bool b))) ∧ subE ρk ρ' ∧ σ' = σ ∧ u' = u
section
variable {F : Fx} {ρ : Env} {σ : Own} {u : View} {Q : Post} {ops : Array Oper}
theorem Zbc {l : List Oper} {ρk : Env} (k t : Nat) (P : Bool → Prop) (_h0 : subE ρk ρ) (h1 : RL F ops (l.take k) ρ σ u (meetQ t P ρk σ u)) (h2 : ∀ b, P b → RL F ops (l.drop k) ((t, .v (.bool b)) :: ρk) σ u Q) : RL F ops l ρ σ u Q := by
 intro a w hR
 refine wpListIn_take k l a w (wpListIn_monoQ ?_ _ _ _ (h1 a w hR))
 rintro e a w ⟨ρ', σ', u', hR', rfl, ⟨b, hb, h3⟩, h4, rfl, rfl⟩
 exact h2 b hb a w (hR'.subEnv (show subE ((t, .v (.bool b)) :: ρk) ρ' from ⟨h3, h4⟩))
theorem Zx {l : Array Oper} {t : Nat} {P : Bool → Prop} {x : Bool} {ρk : Env} {σ : Own} {u : View} (h : gv ρ t = some (.v (.bool x))) (hk : subE ρk ρ) (hx : P x) : RL F l [] ρ σ u (meetQ t P ρk σ u) :=
 rl_nil ⟨rfl, ⟨x, hx, h⟩, hk, rfl, rfl⟩
end
end Go.Eng
