/- The engine: maps of the call's own, 'make' for slices, pointers that are not nil. -/
import Derived.Test.YthnboadnehbciaaDoorEngDraw
import Derived.Laws.MakeOwn
import Derived.Carry
import Derived.Laws.Small
namespace Go.Eng
open Go Go.RowKit
set_option linter.unusedSimpArgs false
set_option linter.unusedVariables false

/-! ### what a map holds, in the order in which its keys came -/
def keyB : Value → Value → Bool
  | .string a, .string b => a == b
  | .int k a, .int k' b => k == k' && a == b
  | _, _ => false
/-- a key of a string's or an integer's type -/
def isKey (d : TypeDesc) : Value → Bool
  | .string _ => match d with
    | .string => true
    | _ => false
  | .int q _ => match d with
    | .int q' => q == q'
    | _ => false
  | _ => false
def fnd (k : Value) : List (Value × Value) → Nat → Option (Nat × Value)
  | [], _ => none
  | p :: r, i => match keyB k p.1 with
    | true => some (i, p.2)
    | false => fnd k r (i + 1)
def mget (kvs : List (Value × Value)) (k : Value) : Option Value := (fnd k kvs 0).map (·.2)
def mset : List (Value × Value) → Value → Value → List (Value × Value)
  | [], k, v => [(k, v)]
  | p :: r, k, v => match keyB k p.1 with
    | true => (k, v) :: r
    | false => p :: mset r k v

theorem sameNow_key {d : TypeDesc} {a b : Value} (ha : isKey d a = true) (hb : isKey d b = true) : Instr.sameNow d a b = some (keyB a b) := by
  cases a <;> simp only [isKey, Bool.false_eq_true] at ha
  · cases d <;> simp only [Bool.false_eq_true] at ha
    cases b <;> simp only [isKey, Bool.false_eq_true] at hb
    simp only [beq_iff_eq] at ha hb
    subst ha; subst hb
    simp [Instr.sameNow, keyB]
  · cases d <;> simp only [Bool.false_eq_true] at ha
    cases b <;> simp only [isKey, Bool.false_eq_true] at hb
    simp [Instr.sameNow, keyB]

theorem findNow_fnd {d : TypeDesc} {k : Value} (hk : isKey d k = true) : ∀ (es : List MapEntry) (i : Nat), (∀ e ∈ es, isKey d e.key = true) → Instr.findNow d k es i = some (fnd k (es.map fun e => (e.key, e.val)) i)
  | [], i, _ => rfl
  | e :: es, i, h => by
    have h0 := sameNow_key hk (h e (by simp))
    have ih := findNow_fnd hk es (i + 1) (fun e he => h e (by simp [he]))
    simp only [Instr.findNow, h0, List.map_cons, fnd]
    cases keyB k e.key with
    | true => rfl
    | false => simpa using ih

theorem fnd_lt {k : Value} : ∀ (l : List (Value × Value)) (i j : Nat) (v : Value), fnd k l i = some (j, v) → i ≤ j ∧ ∃ p, l[j - i]? = some p ∧ keyB k p.1 = true ∧ p.2 = v
  | [], i, j, v, h => by simp [fnd] at h
  | p :: r, i, j, v, h => by
    simp only [fnd] at h
    split at h
    · rename_i hb; cases h; exact ⟨Nat.le_refl _, p, by simp, hb, rfl⟩
    · obtain ⟨h1, q, h2, h3⟩ := fnd_lt r (i + 1) j v h
      refine ⟨by omega, q, ?_, h3⟩
      rw [show j - i = (j - (i + 1)) + 1 by omega]
      simpa using h2
theorem mset_none {k v : Value} : ∀ (l : List (Value × Value)) (i : Nat), fnd k l i = none → mset l k v = l ++ [(k, v)]
  | [], i, _ => rfl
  | p :: r, i, h => by
    simp only [fnd] at h
    split at h
    · cases h
    · rename_i hb
      simp [mset, hb, mset_none r (i + 1) h]
theorem mset_some {k v : Value} : ∀ (l : List (Value × Value)) (i j : Nat) (x : Value), fnd k l i = some (j, x) → mset l k v = l.set (j - i) (k, v)
  | [], i, j, x, h => by simp [fnd] at h
  | p :: r, i, j, x, h => by
    simp only [fnd] at h
    split at h
    · rename_i hb; cases h; simp [mset, hb]
    · rename_i hb
      have h1 := (fnd_lt r (i + 1) j x h).1
      have ih := mset_some (v := v) r (i + 1) j x h
      rw [show j - i = (j - (i + 1)) + 1 by omega]
      simp [mset, hb, ih]
theorem bytes_beq (s t : ByteArray) : (s == t) = (s.data == t.data) := rfl
theorem keyB_eq {a b : Value} (h : keyB a b = true) : a = b := by
  cases a <;> cases b <;> simp only [keyB, Bool.false_eq_true, Bool.and_eq_true, beq_iff_eq] at h
  · obtain ⟨rfl, rfl⟩ := h; rfl
  · rename_i s t
    have : s = t := by
      rw [bytes_beq, beq_iff_eq] at h
      exact ByteArray.ext h
    rw [this]
/-- a type's zero value -/
def tyV (P : Program) (t : TypeId) : Option Value := (P.info? t).bind (·.zero)
theorem run_zero {P : Program} {t : TypeId} {z : Value} (h : tyV P t = some z) (w : World) : (zeroValue t).run P w = .ok z w := by
  unfold tyV at h
  cases hi : P.info? t with
  | none => simp [hi] at h
  | some i =>
    cases hz : i.zero with
    | none => simp [hi, hz] at h
    | some z' =>
      simp [hi, hz] at h
      subst h
      simp [zeroValue, typeInfo, hi, hz]

section
variable {F : Fx} {ρ : Env} {σ : Own} {u : View} {Q : Post} {bk : Nat → Option Nat} {hd : Nat → Value} {a : Act} {w : World} {σS : Own} {uS : View} {o : Oper}

theorem do_makeMap {K : Env → Own → View → Prop} {d : Nat} {T ty : TypeId} {pos : String} {aft : Array Edge} (hS : subO σS σ) (hr : noref d ρ = true) (hσ : gv σ d = none) (hn : Nat.blt d F.n = true)
    (h : K ((d, .m d) :: ρ) ((d, (none, .mp [])) :: σ) u) : Does F σS ⟨some d, .makeMap T none, ty, pos, aft, none⟩ ρ σ u K := by
  intro bk hd a w Q hR N hN
  have hrun : (execOp a.eval ⟨some d, .makeMap T none, ty, pos, aft, none⟩).run F.P w = .ok (.value (.map (some w.heap.size))) (w.alloc (.map #[] 0)) := by
    simp [execOp, Instr.makeMap]
  unfold Oper.wp
  rw [hrun]
  refine hN _ _ _ _ _ _ _ h ((hR.alloc (hv := undef) hr hσ (o := .mp []) ⟨w.heap.size, #[], 0, rfl, heap_alloc_new w _, rfl⟩ (fun b hb => by cases hb; rfl)).put (blt_lt hn) ?_) (fun x hx => same_alloc hR hS hσ hx)
  exact ⟨w.heap.size, by simp, rfl⟩

theorem run_findKey {P : Program} {K : TypeId} {d : TypeDesc} {k : Value} {es : List MapEntry} {w : World} (hd : P.underlying K = some d) (hk : isKey d k = true) (hes : (es.map fun e => (e.key, e.val)).all (fun p => isKey d p.1) = true) :
    (Instr.findKey K k es).run P w = .ok (fnd k (es.map fun e => (e.key, e.val)) 0) w := by
  have h := findNow_fnd hk es 0 (fun e he => by
    have := List.all_eq_true.1 hes (e.key, e.val) (List.mem_map.2 ⟨e, he, rfl⟩)
    simpa using this)
  simp [Instr.findKey, run_underlying hd, h]
theorem run_checkKey {P : Program} {K : TypeId} {d : TypeDesc} {k : Value} {w : World} {b : Bool} (hd : P.underlying K = some d) (hk : isKey d k = true) : (Instr.checkKey b 10000 K k).run P w = .ok () w := by
  unfold Instr.checkKey
  rw [Sem.run_bind, run_underlying hd]
  cases k <;> simp only [isKey, Bool.false_eq_true] at hk
  · cases d <;> simp_all
  · cases d <;> simp_all

theorem lookup_run {P : Program} {T K E : TypeId} {d : TypeDesc} {b : Nat} {es : Array MapEntry} {c : Nat} {k z : Value} {w : World} {ok : Bool} (ht : P.underlying T = some (.map K E)) (hd' : P.underlying K = some d) (hz : tyV P E = some z) (hh : w.heap[b]? = some (.map es c))
    (hk : isKey d k = true) (hkeys : (es.toList.map fun e => (e.key, e.val)).all (fun p => isKey d p.1) = true) :
    (Instr.lookup T (.map (some b)) k ok).run P w = .ok (if ok then .tuple #[(mget (es.toList.map fun e => (e.key, e.val)) k).getD z, .bool (mget (es.toList.map fun e => (e.key, e.val)) k).isSome] else (mget (es.toList.map fun e => (e.key, e.val)) k).getD z) w := by
  have h1 := run_findKey (P := P) (w := w) (k := k) (es := es.toList) hd' hk hkeys
  have h2 : (getObj b).run P w = .ok (.map es c) w := by simp [getObj, Sem.run, hh]
  simp only [Instr.lookup, Sem.run_bind, run_underlying ht, Result.andThen_ok, h2, Sem.run_pure, run_checkKey hd' hk, h1]
  cases hf : fnd k (es.toList.map fun e => (e.key, e.val)) 0 with
  | none => simp [mget, hf, run_zero hz]
  | some p => simp [mget, hf]

/-- m[k] -/
theorem y_lookup {T K E : TypeId} {d : TypeDesc} {x y : Operand} {id : Nat} {pn pn' : Option Nat} {kvs kvs' : List (Value × Value)} {k z : Value} (ho : o.op = .lookup T x y false) (ht : F.P.underlying T = some (.map K E)) (hd' : F.P.underlying K = some d) (hz : tyV F.P E = some z)
    (hx : opv ρ x = some (.m id)) (hs : gv σ id = some (pn, .mp kvs)) (hS : gv σS id = some (pn', .mp kvs')) (hy : opv ρ y = some (.v k)) (hk : isKey d k = true) (hkeys : kvs.all (fun p => isKey d p.1) = true) : Yld F σS uS ρ σ u o (.v ((mget kvs k).getD z)) := by
  intro bk hd a w hR
  obtain ⟨b, hb, hx'⟩ := hR.opS hx
  obtain ⟨⟨b', es, c, hb', hh, he⟩, _⟩ := hR.own id _ hs
  rw [hb] at hb'; cases hb'
  refine ⟨_, rfl, fun w' hw => ?_⟩
  have hh' := (hw.2 id _ b hS hb).trans hh
  have h1 := lookup_run (P := F.P) (ok := false) ht hd' hz hh' hk (by rw [he]; exact hkeys)
  rw [he] at h1
  simp [execOp, ho, hx', hR.op hy, h1]
/-- v, ok := m[k] -/
theorem y_lookup2 {T K E : TypeId} {d : TypeDesc} {x y : Operand} {id : Nat} {pn pn' : Option Nat} {kvs kvs' : List (Value × Value)} {k z : Value} (ho : o.op = .lookup T x y true) (ht : F.P.underlying T = some (.map K E)) (hd' : F.P.underlying K = some d) (hz : tyV F.P E = some z)
    (hx : opv ρ x = some (.m id)) (hs : gv σ id = some (pn, .mp kvs)) (hS : gv σS id = some (pn', .mp kvs')) (hy : opv ρ y = some (.v k)) (hk : isKey d k = true) (hkeys : kvs.all (fun p => isKey d p.1) = true) : Yld F σS uS ρ σ u o (.v (.tuple [(mget kvs k).getD z, .bool (mget kvs k).isSome].toArray)) := by
  intro bk hd a w hR
  obtain ⟨b, hb, hx'⟩ := hR.opS hx
  obtain ⟨⟨b', es, c, hb', hh, he⟩, _⟩ := hR.own id _ hs
  rw [hb] at hb'; cases hb'
  refine ⟨_, rfl, fun w' hw => ?_⟩
  have hh' := (hw.2 id _ b hS hb).trans hh
  have h1 := lookup_run (P := F.P) (ok := true) ht hd' hz hh' hk (by rw [he]; exact hkeys)
  rw [he] at h1
  simp [execOp, ho, hx', hR.op hy, h1]

theorem keyThatStays_run {P : Program} {d : TypeDesc} {k : Value} {w : World} (hk : isKey d k = true) : (Instr.keyThatStays k k).run P w = .ok k w := by
  have : Instr.sameBits 10000 k k = true := by
    cases k <;> simp only [isKey, Bool.false_eq_true] at hk
    · simp [Instr.sameBits]
    · rename_i s
      simp [Instr.sameBits, bytes_beq]
  simp [Instr.keyThatStays, this]

/-- m[k] = v -/
theorem do_mapUpdate {K0 : Env → Own → View → Prop} {T K E ty : TypeId} {d : TypeDesc} {x y v : Operand} {pos : String} {aft : Array Edge} {id : Nat} {pn : Option Nat} {kvs : List (Value × Value)} {k z : Value} (hS : subO σS σ) (hid : gv σS id = none) (ht : F.P.underlying T = some (.map K E)) (hd' : F.P.underlying K = some d)
    (hx : opv ρ x = some (.m id)) (hs : gv σ id = some (pn, .mp kvs)) (hy : opv ρ y = some (.v k)) (hv : opv ρ v = some (.v z)) (hk : isKey d k = true) (hkeys : kvs.all (fun p => isKey d p.1) = true)
    (h : K0 ρ ((id, (pn, .mp (mset kvs k z))) :: σ) u) : Does F σS ⟨none, .mapUpdate T x y v, ty, pos, aft, none⟩ ρ σ u K0 := by
  intro bk hd a w Q hR N hN
  obtain ⟨b, hb, hx'⟩ := hR.opS hx
  obtain ⟨⟨b', es, c, hb', hh, he⟩, hpn⟩ := hR.own id _ hs
  rw [hb] at hb'; cases hb'
  have h1 := run_findKey (P := F.P) (w := w) (k := k) (es := es.toList) hd' hk (by rw [he]; exact hkeys)
  rw [he] at h1
  have h2 : (getObj b).run F.P w = .ok (.map es c) w := by simp [getObj, Sem.run, hh]
  have hset : ∀ ob : Obj, (setObj b ob).run F.P w = .ok () { w with heap := w.heap.setIfInBounds b ob } := fun ob => by simp [setObj, Sem.run, hh]
  have hlt : b < w.heap.size := (Array.getElem?_eq_some_iff.1 hh).1
  obtain ⟨es', c', hrun, hes⟩ : ∃ es' c', (Instr.mapUpdate T (.map (some b)) k z).run F.P w = .ok () { w with heap := w.heap.setIfInBounds b (.map es' c') } ∧ es'.toList.map (fun e => (e.key, e.val)) = mset kvs k z := by
    cases hf : fnd k kvs 0 with
    | none =>
      refine ⟨es.push { key := k, val := z, born := c }, c + 1, ?_, ?_⟩
      · simp only [Instr.mapUpdate, Sem.run_bind, run_underlying ht, Result.andThen_ok, h2, run_checkKey hd' hk, h1, hf, hset]
      · rw [mset_none kvs 0 hf]; simp [he]
    | some p =>
      obtain ⟨j, v0⟩ := p
      obtain ⟨_, q, hq, hkq, _⟩ := fnd_lt kvs 0 j v0 hf
      have hq2 : ∃ e, es[j]? = some e ∧ e.key = k := by
        rw [← he] at hq
        simp only [Nat.sub_zero, List.getElem?_map, Option.map_eq_some_iff] at hq
        obtain ⟨e, h3, h4⟩ := hq
        refine ⟨e, by simpa using h3, ?_⟩
        subst h4
        exact (keyB_eq hkq).symm
      obtain ⟨e, he1, he2⟩ := hq2
      refine ⟨es.modify j fun e => { e with key := k, val := z }, c, ?_, ?_⟩
      · simp only [Instr.mapUpdate, Sem.run_bind, run_underlying ht, Result.andThen_ok, h2, run_checkKey hd' hk, h1, hf, he1, Option.map_some, Option.getD_some, he2, keyThatStays_run hk, hset]
      · rw [mset_some kvs 0 j v0 hf, ← he]
        apply List.ext_getElem?
        intro i
        simp only [List.getElem?_map, Nat.sub_zero, List.getElem?_set, Array.getElem?_toList, Array.getElem?_modify]
        by_cases hij : j = i
        · subst hij
          simp [he1, (Array.getElem?_eq_some_iff.1 he1).1]
        · simp [hij]
  have hrun' : (execOp a.eval ⟨none, .mapUpdate T x y v, ty, pos, aft, none⟩).run F.P w = .ok .skip { w with heap := w.heap.setIfInBounds b (.map es' c') } := by
    simp [execOp, hx', hR.op hy, hR.op hv, hrun]
  unfold Oper.wp
  rw [hrun']
  have hoth : ∀ k', k' < w.heap.size → ¬ (OO.mp kvs).holds (bk id) (hd id) k' → ({ w with heap := w.heap.setIfInBounds b (.map es' c') } : World).heap[k']? = w.heap[k']? := fun k' _ hk' => Array.getElem?_setIfInBounds_ne (fun e => hk' (by rw [← e]; exact hb))
  have e1 : (fun j => if j = id then bk id else bk j) = bk := by funext j; split <;> simp_all
  have e2 : (fun j => if j = id then hd id else hd j) = hd := by funext j; split <;> simp_all
  have hR2 := hR.turn (w' := { w with heap := w.heap.setIfInBounds b (.map es' c') }) (p' := (pn, .mp (mset kvs k z))) (bo := bk id) (hv := hd id) hs ⟨⟨b, es', c', hb, by simp [hlt], hes⟩, hpn⟩ ⟨rfl, rfl, rfl, by simp⟩ hoth (fun c hc => .inl hc) (fun k sv x _ hv => by rw [e1, e2]; exact hv)
  refine hN _ _ _ _ _ _ _ h (hR2.same_bk.putNone (x := undef)) (fun x hx => ?_)
  refine same_turn hR hS hs hid (bo := bk id) (hv := hd id) hoth ?_
  rw [e1, e2]
  exact hx

theorem y_len_m {x : Operand} {t K E : TypeId} {ts : Array TypeId} {id : Nat} {pn pn' : Option Nat} {kvs kvs' : List (Value × Value)} (ho : o.op = .call { callee := .builtin .len, args := #[x], argTypes := ts }) (ht : ts[0]? = some t) (hS' : F.P.underlying t = some (.map K E))
    (hx : opv ρ x = some (.m id)) (hs : gv σ id = some (pn, .mp kvs)) (hS : gv σS id = some (pn', .mp kvs')) : Yld F σS uS ρ σ u o (.v (.int .i64 kvs.length)) := by
  intro bk hd a w hR
  obtain ⟨b, hb, hx'⟩ := hR.opS hx
  obtain ⟨⟨b', es, c, hb', hh, he⟩, _⟩ := hR.own id _ hs
  rw [hb] at hb'; cases hb'
  refine ⟨_, rfl, fun w' hw => ?_⟩
  have hh' := (hw.2 id _ b hS hb).trans hh
  have h2 : (getObj b).run F.P w' = .ok (.map es c) w' := by simp [getObj, Sem.run, hh']
  have : es.size = kvs.length := by rw [← he]; simp
  simp [execOp, ho, resolve, invoke, builtin, Builtin.len_, ht, hx', run_underlying hS', h2, goInt, this]

/-! ### a map in a box -/
/-- a load of the map that a box holds -/
theorem y_load_bm {t : TypeId} {x : Operand} {id id2 b2 : Nat} {pn pn' pn2 : Option Nat} {cs' : List Value} {oo : OO} (ho : o.op = .load t x) (hk : tyK F.P t = some (false, 1)) (hx : opv ρ x = some (.p id 0)) (hs : gv σ id = some (pn, .box [.map (some b2)])) (hS : gv σS id = some (pn', .box cs'))
    (hs2 : gv σ id2 = some (some b2, oo)) (_hp : pn2 = some b2) : Yld F σS uS ρ σ u o (.m id2) := by
  intro bk hd a w hR
  obtain ⟨x', hx1, hx2⟩ := y_load_p (vs := [.map (some b2)]) ho hk hx hs hS rfl rfl rfl bk hd a w hR
  refine ⟨x', ?_, hx2⟩
  cases hx1
  exact ⟨b2, (hR.own id2 _ hs2).2 b2 rfl, rfl⟩

/-! ### make, for slices -/
theorem do_make0 {K : Env → Own → View → Prop} {d : Nat} {T E ty : TypeId} {x y : Operand} {sz by' : Nat} {zs : List Value} {pos : String} {aft : Array Edge} {c : Nat} {kl kc : IntKind} (hS : subO σS σ) (ht : tyS F.P T = some (E, sz, by')) (hz : tyZ F.P E = some zs)
    (hx : opv ρ x = some (.v (.int kl 0))) (hy : opv ρ y = some (.v (.int kc (c : Int)))) (hb : by' * c ≤ 281474976710656) (hc : c ≤ 1099511627776) (hr : noref d ρ = true) (hσ : gv σ d = none) (hn : Nat.blt d F.n = true)
    (h : K ((d, .s d) :: ρ) ((d, (none, .row E sz 0 [])) :: σ) u) : Does F σS ⟨some d, .makeSlice T x y, ty, pos, aft, none⟩ ρ σ u K := by
  intro bk hd a w Q hR N hN
  obtain ⟨inf, hu, hinf, hsz, hby⟩ := tyS_some ht
  obtain ⟨i2, z, hi2, hz2, hzc⟩ := tyZ_info hz
  rw [hinf] at hi2; cases hi2
  have hml : c ≤ maxLen := by unfold maxLen; omega
  obtain ⟨w', hrun, hown, hgr⟩ := run_make_own (P := F.P) w 0 T E inf z sz hu hinf hz2 hsz kl kc c (by rw [hby]; exact hb) hml (Nat.zero_le _)
  have hrun' : (execOp a.eval ⟨some d, .makeSlice T x y, ty, pos, aft, none⟩).run F.P w = .ok (.value (.slice (some ⟨w.heap.size, 0, none⟩) 0 c)) w' := by
    simp [execOp, hR.op hx, hR.op hy, hrun]
  unfold Oper.wp
  rw [hrun']
  have hg0 : Frame0 w noD w' := ⟨hgr.os, hgr.tape, hgr.output, hgr.size, fun k hk _ => hgr.block k hk (by simp)⟩
  refine hN _ _ _ _ _ _ _ h (((hR.grow hg0).addOwn hr hσ (p := (none, .row E sz 0 [])) (bo := some w.heap.size) (hv := .slice (some ⟨w.heap.size, 0, none⟩) 0 c) ⟨⟨hown, rfl⟩, by simp⟩ ?_).put (blt_lt hn) (by simp [SVal])) (fun x hx => ?_)
  · intro b hb
    cases hb
    refine ⟨.inr hR.frame.2.2.2.1, ?_, fun id oo hi hb => absurd ((hR.own id oo hi).lt hb) (Nat.lt_irrefl _)⟩
    cases hu : u w.heap.size with
    | none => rfl
    | some o => exact absurd (hR.agree.lt hu) (Nat.lt_irrefl _)
  · refine same_of (VLe.refl u) (fun id p hi => ?_) (fun id p b hi hb => ?_) hx
    · have : id ≠ d := fun e => by rw [e, gv_subO_none hS hσ] at hi; cases hi
      simp [this]
    · exact hgr.block b ((hR.own id p (gv_subO hS id p hi)).lt hb) (by simp)

/-- an integer into another kind of integer -/
theorem y_conv {s d : TypeId} {x : Operand} {k0 k k' : IntKind} {n r : Int} (ho : o.op = .convert s d x) (hs : F.P.underlying s = some (.int k0)) (hd' : F.P.underlying d = some (.int k')) (hx : opv ρ x = some (.v (.int k n))) (hz : k'.wrap n = r) : Yld F σS uS ρ σ u o (.v (.int k' r)) := by
  intro bk hd a w hR
  refine ⟨_, rfl, fun w' _ => ?_⟩
  simp [execOp, ho, hR.op hx, convert, run_underlying hs, run_underlying hd', Conv.intToInt, hz]

/-! ### pointers that are not nil -/
theorem y_nilCheck_p {x : Operand} {id off : Nat} (ho : o.op = .nilCheck x) (hx : opv ρ x = some (.p id off)) : Yld F σS uS ρ σ u o (.p id off) := by
  intro bk hd a w hR
  obtain ⟨b, hb, hx'⟩ := hR.opS hx
  exact ⟨_, ⟨b, hb, rfl⟩, fun w' _ => by simp [execOp, ho, hx']⟩
theorem y_nilCheck_e {x : Operand} {y : Value} {sz i off : Nat} (ho : o.op = .nilCheck x) (hx : opv ρ x = some (.e y sz i off)) : Yld F σS uS ρ σ u o (.e y sz i off) := by
  intro bk hd a w hR
  obtain ⟨b, o', n, c, h1, hx'⟩ := hR.opS hx
  exact ⟨_, ⟨b, o', n, c, h1, rfl⟩, fun w' _ => by simp [execOp, ho, hx']⟩
theorem y_max {x y : Operand} {ts : Array TypeId} {p q r : Int} {k : IntKind} (ho : o.op = .call { callee := .builtin .max, args := #[x, y], argTypes := ts }) (hx : opv ρ x = some (.v (.int k p))) (hy : opv ρ y = some (.v (.int k q))) (hr : (if q > p then q else p) = r) : Yld F σS uS ρ σ u o (.v (.int k r)) := by
  intro bk hd a w hR
  refine ⟨_, rfl, fun w' _ => ?_⟩
  subst hr
  simp [execOp, ho, resolve, invoke, builtin, hR.op hx, hR.op hy, run_max_int2]
theorem y_min {x y : Operand} {ts : Array TypeId} {p q r : Int} {k : IntKind} (ho : o.op = .call { callee := .builtin .min, args := #[x, y], argTypes := ts }) (hx : opv ρ x = some (.v (.int k p))) (hy : opv ρ y = some (.v (.int k q))) (hr : (if q < p then q else p) = r) : Yld F σS uS ρ σ u o (.v (.int k r)) := by
  intro bk hd a w hR
  refine ⟨_, rfl, fun w' _ => ?_⟩
  subst hr
  simp [execOp, ho, resolve, invoke, builtin, hR.op hx, hR.op hy, run_min_int2]
end
end Go.Eng
