/- The engine: documents that came in, with their sizes. -/
import Derived.Test.YthnboadnehbciaaDoorEngLaw
import Derived.Deep.SlicePairs
import Derived.WideShapes
import Derived.DataReads
namespace Go.Eng
open Go Go.RowKit
open Go.ChangeShapes Go.WideShapes
set_option linter.unusedSimpArgs false
set_option linter.unusedVariables false


/-- the cells of a block, element by element, out of single cells -/
theorem cut_of_cells {w : World} {b off n : Nat} (_h : n ≠ 0 → True) {vs : List Value} (hc : ∀ i v, vs[i]? = some v → w.cell? ⟨b, off + i, none⟩ = some v) (hne : vs ≠ []) : ∃ c T fr, w.heap[b]? = some (.cells c T fr) ∧ cut c.toList off vs.length = vs := by
  cases vs with
  | nil => exact absurd rfl hne
  | cons v0 vs =>
    have h0 := hc 0 v0 rfl
    unfold World.cell? at h0
    cases hb : w.heap[b]? with
    | none => simp [hb] at h0
    | some ob =>
      cases ob with
      | cells c T fr =>
        refine ⟨c, T, fr, rfl, ?_⟩
        have key : ∀ i v, (v0 :: vs)[i]? = some v → c.toList[off + i]? = some v := by
          intro i v hv
          have := hc i v hv
          unfold World.cell? at this
          simpa [hb] using this
        apply List.ext_getElem?
        intro i
        unfold cut
        rw [List.getElem?_take]
        split
        · rename_i hi
          rw [List.getElem?_drop]
          have hg := List.getElem?_eq_getElem hi
          rw [hg]
          exact key i _ hg
        · rename_i hi
          rw [List.getElem?_eq_none (by omega)]
      | _ => simp [hb] at h0
/-! ### how much came in -/
def WOk {H : Type} (P : Program) (t : TypeId) (d : DataW H) : Prop := ∀ n ∈ d.weights P t, n ≤ 140737488351232
theorem weightsAll_mem {H : Type} {P : Program} {e : TypeId} {n : Nat} : ∀ {l : List (DataW H)} {d : DataW H}, d ∈ l → n ∈ d.weights P e → n ∈ DataW.weightsAll P e l
  | [], d, h, _ => by simp at h
  | a :: l, d, h, hn => by
    unfold DataW.weightsAll
    rcases List.mem_cons.1 h with rfl | h
    · exact List.mem_append_left _ hn
    · exact List.mem_append_right _ (weightsAll_mem h hn)
theorem weightsEach_mem {H : Type} {P : Program} {n : Nat} : ∀ {ts : List TypeId} {ds : List (DataW H)} {i : Nat} {t : TypeId} {d : DataW H}, ts[i]? = some t → ds[i]? = some d → n ∈ d.weights P t → n ∈ DataW.weightsEach P ts ds
  | [], ds, i, t, d, h, _, _ => by simp at h
  | a :: ts, [], i, t, d, _, h, _ => by simp at h
  | a :: ts, b :: ds, 0, t, d, h, h2, hn => by
    simp at h h2
    subst h; subst h2
    unfold DataW.weightsEach
    exact List.mem_append_left _ hn
  | a :: ts, b :: ds, i + 1, t, d, h, h2, hn => by
    unfold DataW.weightsEach
    exact List.mem_append_right _ (weightsEach_mem (by simpa using h) (by simpa using h2) hn)
theorem WOk.str {H : Type} {P : Program} {t : TypeId} {l : List UInt8} (h : WOk (H := H) P t (.lit (.string l))) : l.length ≤ 140737488351232 := h _ (by unfold DataW.weights; simp)
theorem WOk.slice {H : Type} {P : Program} {t e : TypeId} {elems rest : List (DataW H)} (ht : P.underlying t = some (.slice e)) (hb : 0 < P.bytesOf e) (h : WOk P t (.slice elems rest)) : elems.length ≤ 140737488351232 ∧ ∀ d ∈ elems, WOk P e d := by
  unfold WOk at h
  unfold DataW.weights at h
  simp only [ht] at h
  refine ⟨?_, fun d hd n hn => h n (List.mem_cons_of_mem _ (List.mem_append_left _ (weightsAll_mem hd hn)))⟩
  have h1 := h _ (List.mem_cons_self ..)
  have h2 : (elems.length + rest.length) * 1 ≤ (elems.length + rest.length) * P.bytesOf e := Nat.mul_le_mul_left _ hb
  omega
theorem WOk.struct {H : Type} {P : Program} {t : TypeId} {fs : Array Field} {parts : List (DataW H)} {i : Nat} {f : Field} {d : DataW H} (ht : P.underlying t = some (.struct fs)) (h : WOk P t (.agg parts)) (hf : fs[i]? = some f) (hd : parts[i]? = some d) : WOk P f.type d := by
  unfold WOk at h
  unfold DataW.weights at h
  simp only [ht] at h
  intro n hn
  exact h n (weightsEach_mem (by rw [List.getElem?_map]; simp [hf]) hd hn)


theorem open_sl {H : Type} {enc : TypeId × Value → H} {P : Program} {w : World} {base : Nat} {spare : Nat → Bool} {held : Bool} {t e : TypeId} {fuel sz : Nat} {cell : Value} {x : DataW H × List MemPlace}
    (ht : P.underlying t = some (.slice e)) (hc : P.cellsOf e = sz) (hsz : 0 < sz) (hby : 0 < P.bytesOf e) (hw : WOk P t x.1) (h : DataW.trod enc P w base spare held fuel t [cell] = some x) :
    ∃ n cs, IsSl (wview w) cell n sz cs ∧ n ≤ 140737488351232 ∧ ∀ i, i < n → ∃ m y, fuel = m + 1 ∧ DataW.trod enc P w base spare held m e (cut cs (i * sz) sz) = some y ∧ WOk P e y.1 := by
  subst hc
  rcases DataW.trod_slice ht h with ⟨h0, _⟩ | ⟨a, len, cap, elems, rest, n, hfu, hcs, hxe, hb, hl, hm, hel, hx, _, _⟩
  · simp only [List.cons.injEq, and_true] at h0
    subst h0
    exact ⟨0, [], ⟨none, 0, rfl, by simp, Nat.le_refl _, by unfold maxLen; omega, fun h => absurd rfl h⟩, by omega, fun i hi => by omega⟩
  · simp only [List.cons.injEq, and_true] at hcs
    subst hcs
    obtain ⟨hwl, hwe⟩ := WOk.slice ht hby (hxe ▸ hw)
    obtain ⟨f, hf⟩ : ∃ f : Nat → List Value, f = fun i => (w.cells? base (a.add (i * P.cellsOf e)) (P.cellsOf e)).getD (List.replicate (P.cellsOf e) undef) := ⟨_, rfl⟩
    have hflen : ∀ i, (f i).length = P.cellsOf e := by
      intro i
      rw [hf]
      dsimp only
      cases hcc : w.cells? base (a.add (i * P.cellsOf e)) (P.cellsOf e) with
      | none => simp
      | some c => exact (World.cells?_some hcc).2.1
    have each : ∀ i, i < len → w.cells? base (a.add (i * P.cellsOf e)) (P.cellsOf e) = some (f i) ∧ ∃ y, DataW.trod enc P w base spare held n e (f i) = some y ∧ WOk P e y.1 := by
      intro i hi
      have h1 := hx i hi
      rw [List.getElem?_eq_getElem (by omega), Option.bind_eq_some_iff] at h1
      obtain ⟨c, h2, h3⟩ := h1
      have : f i = c := by rw [hf]; dsimp only; rw [h2]; rfl
      exact ⟨by rw [this]; exact h2, _, by rw [this]; exact h3, hwe _ (List.mem_map_of_mem (List.getElem_mem _))⟩
    refine ⟨len, rowsN f len, ⟨some a, cap, rfl, length_rowsN hflen len, hl, hm, fun hne => ?_⟩, by rw [List.length_map, hel] at hwl; exact hwl, fun i hi => ⟨n, ?_⟩⟩
    · have hspot : a = ⟨a.block, a.off, none⟩ := by
        have h0 := (World.cells?_some (each 0 (by omega)).1).2.2 0 hsz
        obtain ⟨b, off, spot⟩ := a
        cases spot with
        | none => rfl
        | some s =>
          have hs : (f 0)[0]? = some ((f 0)[0]'(by rw [hflen]; exact hsz)) := List.getElem?_eq_getElem _
          rw [hs] at h0
          unfold World.cell? at h0
          simp only [Nat.zero_mul, Addr.add, if_true] at h0
          split at h0 <;> simp at h0
      have hcell : ∀ j v, (rowsN f len)[j]? = some v → w.cell? ⟨a.block, a.off + j, none⟩ = some v := by
        intro j v hj
        have hjl : j < len * P.cellsOf e := by rw [← length_rowsN hflen len]; exact (List.getElem?_eq_some_iff.1 hj).1
        have hi : j / P.cellsOf e < len := Nat.div_lt_of_lt_mul (by rw [Nat.mul_comm]; exact hjl)
        have hr : j % P.cellsOf e < P.cellsOf e := Nat.mod_lt _ hsz
        have hsplit : j / P.cellsOf e * P.cellsOf e + j % P.cellsOf e = j := by rw [Nat.mul_comm]; exact Nat.div_add_mod j _
        have hcut := cut_rowsN hflen hi
        obtain ⟨v', hv'⟩ : ∃ v', (f (j / P.cellsOf e))[j % P.cellsOf e]? = some v' := ⟨_, List.getElem?_eq_getElem (by rw [hflen]; exact hr)⟩
        have h1 := getElem?_cut hcut hv'
        rw [hsplit, hj] at h1
        cases h1
        have h2 := (World.cells?_some (each _ hi).1).2.2 _ hr
        rw [hv', hspot, add_eq, add_eq, Nat.add_assoc, hsplit] at h2
        exact h2
      obtain ⟨c, T, fr, h1, h2⟩ := cut_of_cells (n := 0) (fun h => trivial) hcell (by
        intro e0
        have := length_rowsN hflen len
        rw [e0] at this
        have : 0 < len * P.cellsOf e := Nat.mul_pos (by omega) hsz
        simp at *; omega)
      refine ⟨a.block, a.off, c, T, fr, by rw [← hspot], h1, ?_⟩
      rw [length_rowsN hflen] at h2
      exact h2
    · rw [cut_rowsN hflen hi]
      obtain ⟨y, hy⟩ := (each i hi).2
      exact ⟨y, hfu, hy⟩

/-- cells that are one element behind the other -/
theorem chop {α : Type} (g : α → List Value) (p : α → Prop) (sz : Nat) : ∀ (n : Nat) (cs : List Value), cs.length = n * sz → (∀ i, i < n → ∃ x : α, cut cs (i * sz) sz = g x ∧ p x) → ∃ xs : List α, xs.length = n ∧ cs = xs.flatMap g ∧ ∀ x ∈ xs, p x
  | 0, cs, hl, _ => ⟨[], rfl, List.eq_nil_of_length_eq_zero (by simpa using hl), by simp⟩
  | n + 1, cs, hl, h => by
    obtain ⟨x, hx, hp⟩ := h 0 (by omega)
    have hl2 : cs.length = n * sz + sz := by rw [hl, Nat.add_mul]; simp
    obtain ⟨xs, h1, h2, h3⟩ := chop g p sz n (cs.drop sz) (by simp; omega) (fun i hi => by
      obtain ⟨y, hy, hq⟩ := h (i + 1) (by omega)
      refine ⟨y, ?_, hq⟩
      rw [← hy]
      unfold cut
      rw [List.drop_drop, Nat.add_mul, Nat.one_mul, Nat.add_comm])
    refine ⟨x :: xs, by simp [h1], ?_, ?_⟩
    · rw [List.flatMap_cons, ← h2, ← hx]
      unfold cut
      simp
    · intro y hy
      rcases List.mem_cons.1 hy with rfl | hy
      · exact hp
      · exact h3 y hy
theorem str_of' (s : ByteArray) : ∃ l : Bs, Value.string s = str l ∧ l.length = s.data.toList.length := ⟨s.data.toList, by cases s; rfl, rfl⟩
theorem str_of (s : ByteArray) : ∃ l : Bs, Value.string s = str l := ⟨s.data.toList, by cases s; rfl⟩

section
variable {H : Type} {enc : TypeId × Value → H} {P : Program} {w : World} {base : Nat} {spare : Nat → Bool} {held : Bool} {fuel : Nat} {cell : Value} {x : DataW H × List MemPlace}

theorem open_strs {t e : TypeId} (ht : P.underlying t = some (.slice e)) (he : P.underlying e = some .string) (hc : P.cellsOf e = 1) (hby : 0 < P.bytesOf e) (hw : WOk P t x.1) (h : DataW.trod enc P w base spare held fuel t [cell] = some x) :
    ∃ xs : List Bs, StrS (wview w) cell xs ∧ StrOk xs := by
  obtain ⟨n, cs, hs, hn, hel⟩ := open_sl ht hc (by omega) hby hw h
  have hlen : cs.length = n * 1 := by obtain ⟨_, _, _, h1, _⟩ := hs; exact h1
  obtain ⟨xs, h1, h2, h5⟩ := chop (fun b : Bs => [str b]) (fun b : Bs => b.length ≤ 140737488351232) 1 n cs hlen (fun i hi => by
    obtain ⟨m, y, _, h3, hy⟩ := hel i hi
    obtain ⟨s, h4, e4, _⟩ := DataW.trod_string he h3
    obtain ⟨l, hl, hll⟩ := str_of' s
    exact ⟨l, by rw [h4, hl], by rw [hll]; exact WOk.str (e4 ▸ hy)⟩)
  refine ⟨xs, ?_, by omega, h5⟩
  unfold StrS
  rw [h1]
  have e1 : strsC xs = cs := by rw [h2]; unfold strsC; exact List.map_eq_flatMap
  rw [e1]
  exact hs

/-- a struct, field by field -/
theorem open_struct {t : TypeId} {fs : Array Field} {cs : List Value} (ht : P.underlying t = some (.struct fs)) (hw : WOk P t x.1) (h : DataW.trod enc P w base spare held fuel t cs = some x) (i : Nat) (f : Field) (hf : fs[i]? = some f) :
    ∃ m y, fuel = m + 1 ∧ DataW.trod enc P w base spare held m f.type (cut cs f.offset (P.cellsOf f.type)) = some y ∧ WOk P f.type y.1 := by
  obtain ⟨xs, n, hfu, hxe, _, hxl, hx⟩ := DataW.trod_struct ht h
  have h1 := hx i f hf
  have hi : i < fs.size := (Array.getElem?_eq_some_iff.1 hf).1
  rw [List.getElem?_eq_getElem (by omega)] at h1
  exact ⟨n, _, hfu, h1, WOk.struct ht (hxe ▸ hw) hf (by rw [List.getElem?_map, List.getElem?_eq_getElem (by omega)]; rfl)⟩
theorem open_struct_len {t : TypeId} {fs : Array Field} {cs : List Value} (ht : P.underlying t = some (.struct fs)) (h : DataW.trod enc P w base spare held fuel t cs = some x) : cs.length = P.cellsOf t := by
  obtain ⟨xs, n, _, _, h1, _⟩ := DataW.trod_struct ht h
  exact h1

end

/-- what a struct type's fields are: (offset, type) -/
def FldsAre (P : Program) (t : TypeId) (l : List (Nat × TypeId)) : Prop := ∃ fs, P.underlying t = some (.struct fs) ∧ fs.toList.map (fun f => (f.offset, f.type)) = l

/-- the types of documents -/
structure DocTys (P : Program) where
  int : TypeId
  bool : TypeId
  s : TypeId
  ss : TypeId
  pair : TypeId
  pairs : TypeId
  cite : TypeId
  cites : TypeId
  attr : TypeId
  inl : TypeId
  inls : TypeId
  blk : TypeId
  blks : TypeId
  hint : P.underlying int = some (.int .i64)
  hbool : P.underlying bool = some .bool
  hs : P.underlying s = some .string
  hss : P.underlying ss = some (.slice s)
  hpairs : P.underlying pairs = some (.slice pair)
  hcites : P.underlying cites = some (.slice cite)
  hinls : P.underlying inls = some (.slice inl)
  hblks : P.underlying blks = some (.slice blk)
  hpair : FldsAre P pair [(0, s), (1, s)]
  hcite : FldsAre P cite [(0, s), (1, s), (2, s), (3, bool)]
  hattr : FldsAre P attr [(0, s), (1, ss), (2, pairs)]
  hinl : FldsAre P inl [(0, int), (1, s), (2, s), (3, s), (4, attr), (7, ss), (8, cites), (9, inls)]
  hblk : FldsAre P blk [(0, int), (1, int), (2, s), (3, s), (4, s), (5, s), (6, attr), (9, inls), (10, blks)]
  cint : P.cellsOf int = 1
  cbool : P.cellsOf bool = 1
  cs : P.cellsOf s = 1
  css : P.cellsOf ss = 1
  cpairs : P.cellsOf pairs = 1
  ccites : P.cellsOf cites = 1
  cinls : P.cellsOf inls = 1
  cblks : P.cellsOf blks = 1
  cpair : P.cellsOf pair = 2
  ccite : P.cellsOf cite = 4
  cattr : P.cellsOf attr = 3
  cinl : P.cellsOf inl = 10
  cblk : P.cellsOf blk = 11
  ys : 0 < P.bytesOf s
  ypair : 0 < P.bytesOf pair
  ycite : 0 < P.bytesOf cite
  yinl : 0 < P.bytesOf inl
  yblk : 0 < P.bytesOf blk

section
variable {H : Type} {enc : TypeId × Value → H} {P : Program} {w : World} {base : Nat} {spare : Nat → Bool} {held : Bool} {fuel : Nat} {cell : Value} {x : DataW H × List MemPlace}

theorem open_flds {t : TypeId} {l : List (Nat × TypeId)} {cs : List Value} (ht : FldsAre P t l) (hw : WOk P t x.1) (h : DataW.trod enc P w base spare held fuel t cs = some x) :
    cs.length = P.cellsOf t ∧ ∀ (i off : Nat) (ft : TypeId), l[i]? = some (off, ft) → ∃ m y, fuel = m + 1 ∧ DataW.trod enc P w base spare held m ft (cut cs off (P.cellsOf ft)) = some y ∧ WOk P ft y.1 := by
  obtain ⟨fs, hu, rfl⟩ := ht
  refine ⟨open_struct_len hu h, fun i off ft hi => ?_⟩
  rw [List.getElem?_map, Option.map_eq_some_iff] at hi
  obtain ⟨f, hf, he⟩ := hi
  simp only [Prod.mk.injEq] at he
  obtain ⟨rfl, rfl⟩ := he
  exact open_struct hu hw h i f (by simpa using hf)

theorem open_prs2 (T : DocTys P) (hw : WOk P T.pairs x.1) (h : DataW.trod enc P w base spare held fuel T.pairs [cell] = some x) : ∃ xs : List (Bs × Bs), PrS (wview w) cell xs ∧ PrOk xs := by
  obtain ⟨n, cs, hsl, hn, hel⟩ := open_sl T.hpairs T.cpair (by omega) T.ypair hw h
  have hlen : cs.length = n * 2 := by obtain ⟨_, _, _, h1, _⟩ := hsl; exact h1
  obtain ⟨xs, h1, h2, h5⟩ := chop (fun x : Bs × Bs => [str x.1, str x.2]) (fun x => x.1.length ≤ 140737488351232 ∧ x.2.length ≤ 140737488351232) 2 n cs hlen (fun i hi => by
    obtain ⟨m, y, _, h3, hy⟩ := hel i hi
    obtain ⟨hl, hf⟩ := open_flds T.hpair hy h3
    rw [T.cpair] at hl
    obtain ⟨_, _, _, a0, q0⟩ := hf 0 0 T.s rfl
    obtain ⟨_, _, _, a1, q1⟩ := hf 1 1 T.s rfl
    rw [T.cs] at a0 a1
    obtain ⟨s0, b0, p0, _⟩ := DataW.trod_string T.hs a0
    obtain ⟨s1, b1, p1, _⟩ := DataW.trod_string T.hs a1
    obtain ⟨l0, e0, z0⟩ := str_of' s0
    obtain ⟨l1, e1, z1⟩ := str_of' s1
    refine ⟨(l0, l1), ?_, by rw [z0]; exact WOk.str (p0 ▸ q0), by rw [z1]; exact WOk.str (p1 ▸ q1)⟩
    generalize cut cs (i * 2) 2 = c at *
    match c, hl with
    | [u0, u1], _ =>
      unfold cut at b0 b1
      simp at b0 b1
      rw [b0, b1, e0, e1])
  refine ⟨xs, ?_, by omega, h5⟩
  unfold PrS
  rw [h1]
  have e1 : pairsC xs = cs := h2.symm
  rw [e1]
  exact hsl

theorem open_attr (T : DocTys P) {cs : List Value} (hw : WOk P T.attr x.1) (h : DataW.trod enc P w base spare held fuel T.attr cs = some x) : ∃ a : DAttr, AttrC (wview w) a cs ∧ AttrOk a := by
  obtain ⟨hl, hf⟩ := open_flds T.hattr hw h
  rw [T.cattr] at hl
  obtain ⟨_, _, _, a0, q0⟩ := hf 0 0 T.s rfl
  obtain ⟨_, _, _, a1, q1⟩ := hf 1 1 T.ss rfl
  obtain ⟨_, _, _, a2, q2⟩ := hf 2 2 T.pairs rfl
  rw [T.cs] at a0
  rw [T.css] at a1
  rw [T.cpairs] at a2
  match cs, hl with
  | [u0, u1, u2], _ =>
    obtain ⟨s0, b0, p0, _⟩ := DataW.trod_string T.hs a0
    obtain ⟨l0, e0, z0⟩ := str_of' s0
    obtain ⟨xs, hxs, ox⟩ := open_strs T.hss T.hs T.cs T.ys q1 (show DataW.trod enc P w base spare held _ T.ss [u1] = some _ from a1)
    obtain ⟨ps, hps, op⟩ := open_prs2 T q2 (show DataW.trod enc P w base spare held _ T.pairs [u2] = some _ from a2)
    have hb : u0 = .string s0 := by unfold cut at b0; simpa using b0
    exact ⟨⟨l0, xs, ps⟩, ⟨u1, u2, by rw [hb, e0], hxs, hps⟩, by rw [z0]; exact WOk.str (p0 ▸ q0), ox, op⟩
end

theorem chopI (u : View) : ∀ (n : Nat) (cs : List Value), cs.length = n * 10 → (∀ i, i < n → ∃ x : Inl, InlC u x (cut cs (i * 10) 10)) → ∃ xs : List Inl, xs.length = n ∧ InlsC u xs cs
  | 0, cs, hl, _ => ⟨[], rfl, by unfold InlsC; exact List.eq_nil_of_length_eq_zero (by simpa using hl)⟩
  | n + 1, cs, hl, h => by
    obtain ⟨x, hx⟩ := h 0 (by omega)
    have hl2 : cs.length = n * 10 + 10 := by omega
    obtain ⟨xs, h1, h2⟩ := chopI u n (cs.drop 10) (by simp; omega) (fun i hi => by
      obtain ⟨y, hy⟩ := h (i + 1) (by omega)
      refine ⟨y, ?_⟩
      unfold cut at hy ⊢
      rw [List.drop_drop, show 10 + i * 10 = (i + 1) * 10 by omega]
      exact hy)
    refine ⟨x :: xs, by simp [h1], ?_⟩
    unfold InlsC
    refine ⟨cs.take 10, cs.drop 10, (List.take_append_drop 10 cs).symm, ?_, h2⟩
    unfold cut at hx
    simpa using hx

section
variable {H : Type} {enc : TypeId × Value → H} {P : Program} {w : World} {base : Nat} {spare : Nat → Bool} {held : Bool}

theorem open_cites (T : DocTys P) {fuel : Nat} {cell : Value} {x : DataW H × List MemPlace} (hw : WOk P T.cites x.1) (h : DataW.trod enc P w base spare held fuel T.cites [cell] = some x) : ∃ xs : List DCite, CiS (wview w) cell xs ∧ CiOk xs := by
  obtain ⟨n, cs, hsl, hn, hel⟩ := open_sl T.hcites T.ccite (by omega) T.ycite hw h
  have hlen : cs.length = n * 4 := by obtain ⟨_, _, _, h1, _⟩ := hsl; exact h1
  obtain ⟨xs, h1, h2, h5⟩ := chop (fun x : DCite => [str x.key, str x.pre, str x.suf, .bool x.bare]) (fun c => c.key.length ≤ 140737488351232 ∧ c.pre.length ≤ 140737488351232 ∧ c.suf.length ≤ 140737488351232) 4 n cs hlen (fun i hi => by
    obtain ⟨m, y, _, h3, hy⟩ := hel i hi
    obtain ⟨hl, hf⟩ := open_flds T.hcite hy h3
    rw [T.ccite] at hl
    obtain ⟨_, _, _, a0, q0⟩ := hf 0 0 T.s rfl
    obtain ⟨_, _, _, a1, q1⟩ := hf 1 1 T.s rfl
    obtain ⟨_, _, _, a2, q2⟩ := hf 2 2 T.s rfl
    obtain ⟨_, _, _, a3, q3⟩ := hf 3 3 T.bool rfl
    rw [T.cs] at a0 a1 a2
    rw [T.cbool] at a3
    obtain ⟨s0, b0, p0, _⟩ := DataW.trod_string T.hs a0
    obtain ⟨s1, b1, p1, _⟩ := DataW.trod_string T.hs a1
    obtain ⟨s2, b2, p2, _⟩ := DataW.trod_string T.hs a2
    obtain ⟨b, b3, _⟩ := DataW.trod_bool T.hbool a3
    obtain ⟨l0, e0, z0⟩ := str_of' s0
    obtain ⟨l1, e1, z1⟩ := str_of' s1
    obtain ⟨l2, e2, z2⟩ := str_of' s2
    refine ⟨⟨l0, l1, l2, b⟩, ?_, by rw [z0]; exact WOk.str (p0 ▸ q0), by rw [z1]; exact WOk.str (p1 ▸ q1), by rw [z2]; exact WOk.str (p2 ▸ q2)⟩
    generalize cut cs (i * 4) 4 = c at *
    match c, hl with
    | [u0, u1, u2, u3], _ =>
      unfold cut at b0 b1 b2 b3
      simp at b0 b1 b2 b3
      rw [b0, b1, b2, b3, e0, e1, e2])
  refine ⟨xs, ?_, by omega, h5⟩
  unfold CiS
  rw [h1]
  have e1 : citesC xs = cs := h2.symm
  rw [e1]
  exact hsl

theorem intOk_wf {k : Int} (h : (Lit.int .i64 k).wf = true) : IntOk k := by
  unfold IntOk
  simp [Lit.wf, IntKind.min, IntKind.max, IntKind.signed, IntKind.bits] at h
  omega
theorem open_inls (T : DocTys P) : ∀ (fuel : Nat) (cell : Value) (x : DataW H × List MemPlace), WOk P T.inls x.1 → DataW.trod enc P w base spare held fuel T.inls [cell] = some x → ∃ xs : List Inl, InlS (wview w) cell xs ∧ xs.length ≤ 140737488351232 := by
  intro fuel
  induction fuel using Nat.strongRecOn with
  | _ fuel ih =>
    intro cell x hw h
    obtain ⟨n, cs, hsl, hn, hel⟩ := open_sl T.hinls T.cinl (by omega) T.yinl hw h
    have hlen : cs.length = n * 10 := by obtain ⟨_, _, _, h1, _⟩ := hsl; exact h1
    obtain ⟨xs, h1, h2⟩ := chopI (wview w) n cs hlen (fun i hi => by
      obtain ⟨m, y, hm, h3, hy⟩ := hel i hi
      obtain ⟨hl, hf⟩ := open_flds T.hinl hy h3
      rw [T.cinl] at hl
      obtain ⟨_, _, _, a0, q0⟩ := hf 0 0 T.int rfl
      obtain ⟨_, _, _, a1, q1⟩ := hf 1 1 T.s rfl
      obtain ⟨_, _, _, a2, q2⟩ := hf 2 2 T.s rfl
      obtain ⟨_, _, _, a3, q3⟩ := hf 3 3 T.s rfl
      obtain ⟨_, _, _, a4, q4⟩ := hf 4 4 T.attr rfl
      obtain ⟨_, _, _, a5, q5⟩ := hf 5 7 T.ss rfl
      obtain ⟨_, _, _, a6, q6⟩ := hf 6 8 T.cites rfl
      obtain ⟨m', _, hm', a7, q7⟩ := hf 7 9 T.inls rfl
      rw [T.cint] at a0
      rw [T.cs] at a1 a2 a3
      rw [T.cattr] at a4
      rw [T.css] at a5
      rw [T.ccites] at a6
      rw [T.cinls] at a7
      generalize cut cs (i * 10) 10 = c at *
      match c, hl with
      | [u0, u1, u2, u3, u4, u5, u6, u7, u8, u9], _ =>
        obtain ⟨k, b0, _, p0⟩ := DataW.trod_int T.hint a0
        obtain ⟨s1, b1, p1, _⟩ := DataW.trod_string T.hs a1
        obtain ⟨s2, b2, p2, _⟩ := DataW.trod_string T.hs a2
        obtain ⟨s3, b3, p3, _⟩ := DataW.trod_string T.hs a3
        obtain ⟨l1, e1, z1⟩ := str_of' s1
        obtain ⟨l2, e2, z2⟩ := str_of' s2
        obtain ⟨l3, e3, z3⟩ := str_of' s3
        obtain ⟨a, ⟨vc, vp, hae, hac, hap⟩, oa⟩ := open_attr T q4 (show DataW.trod enc P w base spare held _ T.attr [u4, u5, u6] = some _ from a4)
        obtain ⟨args, hargs, oargs⟩ := open_strs T.hss T.hs T.cs T.ys q5 (show DataW.trod enc P w base spare held _ T.ss [u7] = some _ from a5)
        obtain ⟨cites, hcites, ocites⟩ := open_cites T q6 (show DataW.trod enc P w base spare held _ T.cites [u8] = some _ from a6)
        obtain ⟨kids, hkids, okids⟩ := ih m' (by omega) u9 _ q7 (show DataW.trod enc P w base spare held _ T.inls [u9] = some _ from a7)
        unfold cut at b0 b1 b2 b3
        simp at b0 b1 b2 b3
        simp only [List.cons.injEq, and_true] at hae
        obtain ⟨rfl, rfl, rfl⟩ := hae
        refine ⟨.mk k l1 l2 l3 a args cites kids, ?_⟩
        rw [b0, b1, b2, b3, e1, e2, e3]
        exact InlC.mk' hac hap hargs hcites hkids ⟨intOk_wf p0, by rw [z1]; exact WOk.str (p1 ▸ q1), by rw [z2]; exact WOk.str (p2 ▸ q2), by rw [z3]; exact WOk.str (p3 ▸ q3), oa, oargs, ocites, okids⟩)
    exact ⟨xs, ⟨cs, by rw [h1]; exact hsl, h2⟩, by omega⟩
end

theorem chopB (u : View) : ∀ (n : Nat) (cs : List Value), cs.length = n * 11 → (∀ i, i < n → ∃ x : Blk, BlkC u x (cut cs (i * 11) 11)) → ∃ xs : List Blk, xs.length = n ∧ BlksC u xs cs
  | 0, cs, hl, _ => ⟨[], rfl, by unfold BlksC; exact List.eq_nil_of_length_eq_zero (by simpa using hl)⟩
  | n + 1, cs, hl, h => by
    obtain ⟨x, hx⟩ := h 0 (by omega)
    have hl2 : cs.length = n * 11 + 11 := by omega
    obtain ⟨xs, h1, h2⟩ := chopB u n (cs.drop 11) (by simp; omega) (fun i hi => by
      obtain ⟨y, hy⟩ := h (i + 1) (by omega)
      refine ⟨y, ?_⟩
      unfold cut at hy ⊢
      rw [List.drop_drop, show 11 + i * 11 = (i + 1) * 11 by omega]
      exact hy)
    refine ⟨x :: xs, by simp [h1], ?_⟩
    unfold BlksC
    refine ⟨cs.take 11, cs.drop 11, (List.take_append_drop 11 cs).symm, ?_, h2⟩
    unfold cut at hx
    simpa using hx

section
variable {H : Type} {enc : TypeId × Value → H} {P : Program} {w : World} {base : Nat} {spare : Nat → Bool} {held : Bool}

theorem open_blks (T : DocTys P) : ∀ (fuel : Nat) (cell : Value) (x : DataW H × List MemPlace), WOk P T.blks x.1 → DataW.trod enc P w base spare held fuel T.blks [cell] = some x → ∃ xs : List Blk, BlkS (wview w) cell xs ∧ xs.length ≤ 140737488351232 := by
  intro fuel
  induction fuel using Nat.strongRecOn with
  | _ fuel ih =>
    intro cell x hw h
    obtain ⟨n, cs, hsl, hn, hel⟩ := open_sl T.hblks T.cblk (by omega) T.yblk hw h
    have hlen : cs.length = n * 11 := by obtain ⟨_, _, _, h1, _⟩ := hsl; exact h1
    obtain ⟨xs, h1, h2⟩ := chopB (wview w) n cs hlen (fun i hi => by
      obtain ⟨m, y, hm, h3, hy⟩ := hel i hi
      obtain ⟨hl, hf⟩ := open_flds T.hblk hy h3
      rw [T.cblk] at hl
      obtain ⟨_, _, _, a0, q0⟩ := hf 0 0 T.int rfl
      obtain ⟨_, _, _, a1, q1⟩ := hf 1 1 T.int rfl
      obtain ⟨_, _, _, a2, q2⟩ := hf 2 2 T.s rfl
      obtain ⟨_, _, _, a3, q3⟩ := hf 3 3 T.s rfl
      obtain ⟨_, _, _, a4, q4⟩ := hf 4 4 T.s rfl
      obtain ⟨_, _, _, a5, q5⟩ := hf 5 5 T.s rfl
      obtain ⟨_, _, _, a6, q6⟩ := hf 6 6 T.attr rfl
      obtain ⟨_, _, _, a7, q7⟩ := hf 7 9 T.inls rfl
      obtain ⟨m', _, hm', a8, q8⟩ := hf 8 10 T.blks rfl
      rw [T.cint] at a0 a1
      rw [T.cs] at a2 a3 a4 a5
      rw [T.cattr] at a6
      rw [T.cinls] at a7
      rw [T.cblks] at a8
      generalize cut cs (i * 11) 11 = c at *
      match c, hl with
      | [u0, u1, u2, u3, u4, u5, u6, u7, u8, u9, u10], _ =>
        obtain ⟨k, b0, _, p0⟩ := DataW.trod_int T.hint a0
        obtain ⟨lv, b1, _, p1⟩ := DataW.trod_int T.hint a1
        obtain ⟨s2, b2, p2, _⟩ := DataW.trod_string T.hs a2
        obtain ⟨s3, b3, p3, _⟩ := DataW.trod_string T.hs a3
        obtain ⟨s4, b4, p4, _⟩ := DataW.trod_string T.hs a4
        obtain ⟨s5, b5, p5, _⟩ := DataW.trod_string T.hs a5
        obtain ⟨l2, e2, z2⟩ := str_of' s2
        obtain ⟨l3, e3, z3⟩ := str_of' s3
        obtain ⟨l4, e4, z4⟩ := str_of' s4
        obtain ⟨l5, e5, z5⟩ := str_of' s5
        obtain ⟨a, ⟨vc, vp, hae, hac, hap⟩, oa⟩ := open_attr T q6 (show DataW.trod enc P w base spare held _ T.attr [u6, u7, u8] = some _ from a6)
        obtain ⟨line, hline, oline⟩ := open_inls T _ u9 _ q7 (show DataW.trod enc P w base spare held _ T.inls [u9] = some _ from a7)
        obtain ⟨kids, hkids, okids⟩ := ih m' (by omega) u10 _ q8 (show DataW.trod enc P w base spare held _ T.blks [u10] = some _ from a8)
        unfold cut at b0 b1 b2 b3 b4 b5
        simp at b0 b1 b2 b3 b4 b5
        simp only [List.cons.injEq, and_true] at hae
        obtain ⟨rfl, rfl, rfl⟩ := hae
        refine ⟨.mk k lv l2 l3 l4 l5 a line kids, ?_⟩
        rw [b0, b1, b2, b3, b4, b5, e2, e3, e4, e5]
        exact BlkC.mk' hac hap hline hkids ⟨intOk_wf p0, intOk_wf p1, by rw [z2]; exact WOk.str (p2 ▸ q2), by rw [z3]; exact WOk.str (p3 ▸ q3), by rw [z4]; exact WOk.str (p4 ▸ q4), by rw [z5]; exact WOk.str (p5 ▸ q5), oa, oline, okids⟩)
    exact ⟨xs, ⟨cs, by rw [h1]; exact hsl, h2⟩, by omega⟩

/-- a document that came in -/
theorem open_doc (T : DocTys P) {t : TypeId} (ht : FldsAre P t [(0, T.pairs), (1, T.blks)]) (hc : P.cellsOf t = 2) {fuel : Nat} {cs : List Value} {x : DataW H × List MemPlace} (hw : WOk P t x.1) (h : DataW.trod enc P w base spare held fuel t cs = some x) : ∃ (d : DDoc) (vm vb : Value), cs = [vm, vb] ∧ PrS (wview w) vm d.mts ∧ BlkS (wview w) vb d.blocks ∧ DocOk d := by
  obtain ⟨hl, hf⟩ := open_flds ht hw h
  rw [hc] at hl
  obtain ⟨_, _, _, a0, q0⟩ := hf 0 0 T.pairs rfl
  obtain ⟨_, _, _, a1, q1⟩ := hf 1 1 T.blks rfl
  rw [T.cpairs] at a0
  rw [T.cblks] at a1
  match cs, hl with
  | [u0, u1], _ =>
    obtain ⟨ps, hps, ops⟩ := open_prs2 T q0 (show DataW.trod enc P w base spare held _ T.pairs [u0] = some _ from a0)
    obtain ⟨bs, hbs, obs⟩ := open_blks T _ u1 _ q1 (show DataW.trod enc P w base spare held _ T.blks [u1] = some _ from a1)
    exact ⟨⟨ps, bs⟩, u0, u1, rfl, hps, hbs, ops, obs⟩
end
end Go.Eng
