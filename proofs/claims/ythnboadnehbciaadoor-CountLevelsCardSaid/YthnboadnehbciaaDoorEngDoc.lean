/- The engine: documents that lie in a view. The types' numbers play no part: only the order of the cells. -/
import Derived.Test.YthnboadnehbciaaDoorEngSl
namespace Go.Eng
open Go Go.RowKit
set_option linter.unusedSimpArgs false
set_option linter.unusedVariables false

abbrev Bs := List UInt8
structure DAttr where
  id : Bs
  classes : List Bs
  pairs : List (Bs × Bs)
structure DCite where
  key : Bs
  pre : Bs
  suf : Bs
  bare : Bool
inductive Inl where
  | mk (kind : Int) (text dest title : Bs) (attr : DAttr) (args : List Bs) (cites : List DCite) (kids : List Inl)
inductive Blk where
  | mk (kind level : Int) (info text dest title : Bs) (attr : DAttr) (line : List Inl) (kids : List Blk)
structure DDoc where
  mts : List (Bs × Bs)
  blocks : List Blk

/-- v is a slice of n elements of sz cells each, whose cells are cs, and nobody writes it -/
def IsSl (u : View) (v : Value) (n sz : Nat) (cs : List Value) : Prop := ∃ ad cap, v = .slice ad n cap ∧ SlC u ad n cap sz cs
theorem IsSl.mono {u u' : View} {v : Value} {n sz : Nat} {cs : List Value} (h : IsSl u v n sz cs) (hu : VLe u u') : IsSl u' v n sz cs := let ⟨ad, cap, h1, h2⟩ := h; ⟨ad, cap, h1, h2.mono hu⟩

def IntOk (k : Int) : Prop := -9223372036854775808 ≤ k ∧ k ≤ 9223372036854775807

def strsC (xs : List Bs) : List Value := xs.map str
def pairsC (xs : List (Bs × Bs)) : List Value := xs.flatMap fun x => [str x.1, str x.2]
def citesC (xs : List DCite) : List Value := xs.flatMap fun x => [str x.key, str x.pre, str x.suf, .bool x.bare]

def StrS (u : View) (v : Value) (xs : List Bs) : Prop := IsSl u v xs.length 1 (strsC xs)
def PrS (u : View) (v : Value) (xs : List (Bs × Bs)) : Prop := IsSl u v xs.length 2 (pairsC xs)
def CiS (u : View) (v : Value) (xs : List DCite) : Prop := IsSl u v xs.length 4 (citesC xs)
theorem StrS.mono {u u' : View} {v : Value} {xs : List Bs} (h : StrS u v xs) (hu : VLe u u') : StrS u' v xs := IsSl.mono h hu
theorem PrS.mono {u u' : View} {v : Value} {xs : List (Bs × Bs)} (h : PrS u v xs) (hu : VLe u u') : PrS u' v xs := IsSl.mono h hu
theorem CiS.mono {u u' : View} {v : Value} {xs : List DCite} (h : CiS u v xs) (hu : VLe u u') : CiS u' v xs := IsSl.mono h hu

def StrOk (xs : List Bs) : Prop := xs.length ≤ 140737488351232 ∧ ∀ c ∈ xs, c.length ≤ 140737488351232
def PrOk (xs : List (Bs × Bs)) : Prop := xs.length ≤ 140737488351232 ∧ ∀ p ∈ xs, p.1.length ≤ 140737488351232 ∧ p.2.length ≤ 140737488351232
def CiOk (xs : List DCite) : Prop := xs.length ≤ 140737488351232 ∧ ∀ c ∈ xs, c.key.length ≤ 140737488351232 ∧ c.pre.length ≤ 140737488351232 ∧ c.suf.length ≤ 140737488351232
def AttrOk (a : DAttr) : Prop := a.id.length ≤ 140737488351232 ∧ StrOk a.classes ∧ PrOk a.pairs
def InlOk : Inl → Prop
  | .mk k t d ti a args cites kids => IntOk k ∧ t.length ≤ 140737488351232 ∧ d.length ≤ 140737488351232 ∧ ti.length ≤ 140737488351232 ∧ AttrOk a ∧ StrOk args ∧ CiOk cites ∧ kids.length ≤ 140737488351232
def BlkOk : Blk → Prop
  | .mk k lv i t d ti a line kids => IntOk k ∧ IntOk lv ∧ i.length ≤ 140737488351232 ∧ t.length ≤ 140737488351232 ∧ d.length ≤ 140737488351232 ∧ ti.length ≤ 140737488351232 ∧ AttrOk a ∧ line.length ≤ 140737488351232 ∧ kids.length ≤ 140737488351232

def AttrC (u : View) (a : DAttr) (cs : List Value) : Prop := ∃ vc vp, cs = [str a.id, vc, vp] ∧ StrS u vc a.classes ∧ PrS u vp a.pairs

mutual
def InlC (u : View) : Inl → List Value → Prop
  | .mk k t d ti a args cites kids, cs => ∃ ca va vc vk ks, cs = [.int .i64 k, str t, str d, str ti] ++ ca ++ [va, vc, vk] ∧ AttrC u a ca ∧ StrS u va args ∧ CiS u vc cites ∧ IsSl u vk kids.length 10 ks ∧ InlsC u kids ks ∧ InlOk (.mk k t d ti a args cites kids)
def InlsC (u : View) : List Inl → List Value → Prop
  | [], cs => cs = []
  | x :: xs, cs => ∃ c r, cs = c ++ r ∧ InlC u x c ∧ InlsC u xs r
end
mutual
def BlkC (u : View) : Blk → List Value → Prop
  | .mk k lv i t d ti a line kids, cs => ∃ ca vl vk ls ks, cs = [.int .i64 k, .int .i64 lv, str i, str t, str d, str ti] ++ ca ++ [vl, vk] ∧ AttrC u a ca ∧ IsSl u vl line.length 10 ls ∧ InlsC u line ls ∧ IsSl u vk kids.length 11 ks ∧ BlksC u kids ks ∧ BlkOk (.mk k lv i t d ti a line kids)
def BlksC (u : View) : List Blk → List Value → Prop
  | [], cs => cs = []
  | x :: xs, cs => ∃ c r, cs = c ++ r ∧ BlkC u x c ∧ BlksC u xs r
end
def InlS (u : View) (v : Value) (xs : List Inl) : Prop := ∃ cs, IsSl u v xs.length 10 cs ∧ InlsC u xs cs
def BlkS (u : View) (v : Value) (xs : List Blk) : Prop := ∃ cs, IsSl u v xs.length 11 cs ∧ BlksC u xs cs
def DocOk (d : DDoc) : Prop := PrOk d.mts ∧ d.blocks.length ≤ 140737488351232
def DocC (u : View) (d : DDoc) (cs : List Value) : Prop := ∃ vm vb, cs = [vm, vb] ∧ PrS u vm d.mts ∧ BlkS u vb d.blocks ∧ DocOk d

theorem AttrC.mono {u u' : View} {a : DAttr} {cs : List Value} (h : AttrC u a cs) (hu : VLe u u') : AttrC u' a cs := let ⟨vc, vp, h1, h2, h3⟩ := h; ⟨vc, vp, h1, h2.mono hu, h3.mono hu⟩
theorem AttrC.len {u : View} {a : DAttr} {cs : List Value} (h : AttrC u a cs) : cs.length = 3 := by obtain ⟨_, _, rfl, _⟩ := h; rfl

mutual
theorem InlC.mono {u u' : View} (hu : VLe u u') : ∀ (x : Inl) (cs : List Value), InlC u x cs → InlC u' x cs
  | .mk k t d ti a args cites kids, cs, h => by
    unfold InlC at h ⊢
    obtain ⟨ca, va, vc, vk, ks, h1, h2, h3, h4, h5, h6, h7⟩ := h
    exact ⟨ca, va, vc, vk, ks, h1, h2.mono hu, h3.mono hu, h4.mono hu, h5.mono hu, InlsC.mono hu kids ks h6, h7⟩
theorem InlsC.mono {u u' : View} (hu : VLe u u') : ∀ (xs : List Inl) (cs : List Value), InlsC u xs cs → InlsC u' xs cs
  | [], cs, h => by unfold InlsC at h ⊢; exact h
  | x :: xs, cs, h => by
    unfold InlsC at h ⊢
    obtain ⟨c, r, h1, h2, h3⟩ := h
    exact ⟨c, r, h1, InlC.mono hu x c h2, InlsC.mono hu xs r h3⟩
end
theorem InlS.mono {u u' : View} {v : Value} {xs : List Inl} (h : InlS u v xs) (hu : VLe u u') : InlS u' v xs := let ⟨cs, h1, h2⟩ := h; ⟨cs, h1.mono hu, h2.mono hu⟩
mutual
theorem BlkC.mono {u u' : View} (hu : VLe u u') : ∀ (x : Blk) (cs : List Value), BlkC u x cs → BlkC u' x cs
  | .mk k lv i t d ti a line kids, cs, h => by
    unfold BlkC at h ⊢
    obtain ⟨ca, vl, vk, ls, ks, h1, h2, h3, h4, h5, h6, h7⟩ := h
    exact ⟨ca, vl, vk, ls, ks, h1, h2.mono hu, h3.mono hu, InlsC.mono hu line ls h4, h5.mono hu, BlksC.mono hu kids ks h6, h7⟩
theorem BlksC.mono {u u' : View} (hu : VLe u u') : ∀ (xs : List Blk) (cs : List Value), BlksC u xs cs → BlksC u' xs cs
  | [], cs, h => by unfold BlksC at h ⊢; exact h
  | x :: xs, cs, h => by
    unfold BlksC at h ⊢
    obtain ⟨c, r, h1, h2, h3⟩ := h
    exact ⟨c, r, h1, BlkC.mono hu x c h2, BlksC.mono hu xs r h3⟩
end
theorem BlkS.mono {u u' : View} {v : Value} {xs : List Blk} (h : BlkS u v xs) (hu : VLe u u') : BlkS u' v xs := let ⟨cs, h1, h2⟩ := h; ⟨cs, h1.mono hu, h2.mono hu⟩
theorem DocC.mono {u u' : View} {d : DDoc} {cs : List Value} (h : DocC u d cs) (hu : VLe u u') : DocC u' d cs := let ⟨vm, vb, h1, h2, h3, h4⟩ := h; ⟨vm, vb, h1, h2.mono hu, h3.mono hu, h4⟩

theorem InlC.len {u : View} {x : Inl} {cs : List Value} (h : InlC u x cs) : cs.length = 10 := by
  cases x
  unfold InlC at h
  obtain ⟨ca, va, vc, vk, ks, rfl, h2, _⟩ := h
  simp [h2.len]
theorem BlkC.len {u : View} {x : Blk} {cs : List Value} (h : BlkC u x cs) : cs.length = 11 := by
  cases x
  unfold BlkC at h
  obtain ⟨ca, vl, vk, ls, ks, rfl, h2, _⟩ := h
  simp [h2.len]
theorem InlsC.len {u : View} : ∀ {xs : List Inl} {cs : List Value}, InlsC u xs cs → cs.length = xs.length * 10
  | [], cs, h => by unfold InlsC at h; subst h; rfl
  | x :: xs, cs, h => by
    unfold InlsC at h
    obtain ⟨c, r, rfl, h2, h3⟩ := h
    simp [h2.len, InlsC.len h3, Nat.add_mul]; omega
theorem BlksC.len {u : View} : ∀ {xs : List Blk} {cs : List Value}, BlksC u xs cs → cs.length = xs.length * 11
  | [], cs, h => by unfold BlksC at h; subst h; rfl
  | x :: xs, cs, h => by
    unfold BlksC at h
    obtain ⟨c, r, rfl, h2, h3⟩ := h
    simp [h2.len, BlksC.len h3, Nat.add_mul]; omega
theorem InlsC.append {u : View} : ∀ {xs ys : List Inl} {cs ds : List Value}, InlsC u xs cs → InlsC u ys ds → InlsC u (xs ++ ys) (cs ++ ds)
  | [], ys, cs, ds, h, k => by unfold InlsC at h; subst h; simpa using k
  | x :: xs, ys, cs, ds, h, k => by
    unfold InlsC at h
    obtain ⟨c, r, rfl, h2, h3⟩ := h
    rw [List.cons_append]
    unfold InlsC
    exact ⟨c, r ++ ds, by simp, h2, h3.append k⟩
theorem BlksC.append {u : View} : ∀ {xs ys : List Blk} {cs ds : List Value}, BlksC u xs cs → BlksC u ys ds → BlksC u (xs ++ ys) (cs ++ ds)
  | [], ys, cs, ds, h, k => by unfold BlksC at h; subst h; simpa using k
  | x :: xs, ys, cs, ds, h, k => by
    unfold BlksC at h
    obtain ⟨c, r, rfl, h2, h3⟩ := h
    rw [List.cons_append]
    unfold BlksC
    exact ⟨c, r ++ ds, by simp, h2, h3.append k⟩
theorem InlsC.nil {u : View} : InlsC u [] [] := by unfold InlsC; rfl
theorem BlksC.nil {u : View} : BlksC u [] [] := by unfold BlksC; rfl
theorem InlsC.one {u : View} {x : Inl} {c : List Value} (h : InlC u x c) : InlsC u [x] c := by
  unfold InlsC
  exact ⟨c, [], by simp, h, InlsC.nil⟩
theorem BlksC.one {u : View} {x : Blk} {c : List Value} (h : BlkC u x c) : BlksC u [x] c := by
  unfold BlksC
  exact ⟨c, [], by simp, h, BlksC.nil⟩

/-- element i -/
theorem InlsC.get {u : View} : ∀ {xs : List Inl} {cs : List Value} (i : Nat) (x : Inl), InlsC u xs cs → xs[i]? = some x → InlC u x (cut cs (i * 10) 10)
  | [], cs, i, x, _, hi => by simp at hi
  | y :: ys, cs, i, x, h, hi => by
    unfold InlsC at h
    obtain ⟨c, r, rfl, h2, h3⟩ := h
    have hl := h2.len
    cases i with
    | zero =>
      simp at hi
      subst hi
      have : cut (c ++ r) (0 * 10) 10 = c := by unfold cut; simp [← hl]
      rw [this]; exact h2
    | succ i =>
      have ih := InlsC.get i x h3 (by simpa using hi)
      have : cut (c ++ r) ((i + 1) * 10) 10 = cut r (i * 10) 10 := by
        unfold cut
        rw [show (i + 1) * 10 = c.length + i * 10 by omega, List.drop_append, List.drop_eq_nil_of_le (by omega), List.nil_append, Nat.add_sub_cancel_left]
      rw [this]; exact ih
theorem BlksC.get {u : View} : ∀ {xs : List Blk} {cs : List Value} (i : Nat) (x : Blk), BlksC u xs cs → xs[i]? = some x → BlkC u x (cut cs (i * 11) 11)
  | [], cs, i, x, _, hi => by simp at hi
  | y :: ys, cs, i, x, h, hi => by
    unfold BlksC at h
    obtain ⟨c, r, rfl, h2, h3⟩ := h
    have hl := h2.len
    cases i with
    | zero =>
      simp at hi
      subst hi
      have : cut (c ++ r) (0 * 11) 11 = c := by unfold cut; simp [← hl]
      rw [this]; exact h2
    | succ i =>
      have ih := BlksC.get i x h3 (by simpa using hi)
      have : cut (c ++ r) ((i + 1) * 11) 11 = cut r (i * 11) 11 := by
        unfold cut
        rw [show (i + 1) * 11 = c.length + i * 11 by omega, List.drop_append, List.drop_eq_nil_of_le (by omega), List.nil_append, Nat.add_sub_cancel_left]
      rw [this]; exact ih

/-- the cells of an inline -/
theorem InlC.cells {u : View} {k : Int} {t d ti : Bs} {a : DAttr} {args : List Bs} {cites : List DCite} {kids : List Inl} {cs : List Value} (h : InlC u (.mk k t d ti a args cites kids) cs) :
    ∃ vc vp va vt vk, cs = [.int .i64 k, str t, str d, str ti, str a.id, vc, vp, va, vt, vk] ∧ StrS u vc a.classes ∧ PrS u vp a.pairs ∧ StrS u va args ∧ CiS u vt cites ∧ InlS u vk kids ∧ InlOk (.mk k t d ti a args cites kids) := by
  unfold InlC at h
  obtain ⟨ca, va, vt, vk, ks, rfl, ⟨vc, vp, rfl, h1, h2⟩, h3, h4, h5, h6, h7⟩ := h
  exact ⟨vc, vp, va, vt, vk, rfl, h1, h2, h3, h4, ⟨ks, h5, h6⟩, h7⟩
theorem InlC.mk' {u : View} {k : Int} {t d ti : Bs} {a : DAttr} {args : List Bs} {cites : List DCite} {kids : List Inl} {vc vp va vt vk : Value} (h1 : StrS u vc a.classes) (h2 : PrS u vp a.pairs) (h3 : StrS u va args) (h4 : CiS u vt cites) (h5 : InlS u vk kids) (h6 : InlOk (.mk k t d ti a args cites kids)) :
    InlC u (.mk k t d ti a args cites kids) [.int .i64 k, str t, str d, str ti, str a.id, vc, vp, va, vt, vk] := by
  obtain ⟨ks, h5, h5'⟩ := h5
  unfold InlC
  exact ⟨_, va, vt, vk, ks, rfl, ⟨vc, vp, rfl, h1, h2⟩, h3, h4, h5, h5', h6⟩
theorem BlkC.cells {u : View} {k lv : Int} {i t d ti : Bs} {a : DAttr} {line : List Inl} {kids : List Blk} {cs : List Value} (h : BlkC u (.mk k lv i t d ti a line kids) cs) :
    ∃ vc vp vl vk, cs = [.int .i64 k, .int .i64 lv, str i, str t, str d, str ti, str a.id, vc, vp, vl, vk] ∧ StrS u vc a.classes ∧ PrS u vp a.pairs ∧ InlS u vl line ∧ BlkS u vk kids ∧ BlkOk (.mk k lv i t d ti a line kids) := by
  unfold BlkC at h
  obtain ⟨ca, vl, vk, ls, ks, rfl, ⟨vc, vp, rfl, h1, h2⟩, h3, h4, h5, h6, h7⟩ := h
  exact ⟨vc, vp, vl, vk, rfl, h1, h2, ⟨ls, h3, h4⟩, ⟨ks, h5, h6⟩, h7⟩
theorem BlkC.mk' {u : View} {k lv : Int} {i t d ti : Bs} {a : DAttr} {line : List Inl} {kids : List Blk} {vc vp vl vk : Value} (h1 : StrS u vc a.classes) (h2 : PrS u vp a.pairs) (h3 : InlS u vl line) (h4 : BlkS u vk kids) (h5 : BlkOk (.mk k lv i t d ti a line kids)) :
    BlkC u (.mk k lv i t d ti a line kids) [.int .i64 k, .int .i64 lv, str i, str t, str d, str ti, str a.id, vc, vp, vl, vk] := by
  obtain ⟨ls, h3, h3'⟩ := h3
  obtain ⟨ks, h4, h4'⟩ := h4
  unfold BlkC
  exact ⟨_, vl, vk, ls, ks, rfl, ⟨vc, vp, rfl, h1, h2⟩, h3, h3', h4, h4', h5⟩
theorem InlsC.at {u : View} {xs : List Inl} {cs : List Value} (h : InlsC u xs cs) {i : Nat} (hi : i < xs.length) :
    ∃ k t d ti a args cites kids vc vp va vt vk, xs[i]? = some (.mk k t d ti a args cites kids) ∧ cut cs (i * 10) 10 = [.int .i64 k, str t, str d, str ti, str a.id, vc, vp, va, vt, vk] ∧ StrS u vc a.classes ∧ PrS u vp a.pairs ∧ StrS u va args ∧ CiS u vt cites ∧ InlS u vk kids ∧ InlOk (.mk k t d ti a args cites kids) := by
  cases hx : xs[i] with
  | mk k t d ti a args cites kids =>
  have hg : xs[i]? = some (.mk k t d ti a args cites kids) := by rw [List.getElem?_eq_getElem hi, hx]
  obtain ⟨vc, vp, va, vt, vk, h1⟩ := (h.get i _ hg).cells
  exact ⟨k, t, d, ti, a, args, cites, kids, vc, vp, va, vt, vk, hg, h1⟩
theorem BlksC.at {u : View} {xs : List Blk} {cs : List Value} (h : BlksC u xs cs) {i : Nat} (hi : i < xs.length) :
    ∃ k lv inf t d ti a line kids vc vp vl vk, xs[i]? = some (.mk k lv inf t d ti a line kids) ∧ cut cs (i * 11) 11 = [.int .i64 k, .int .i64 lv, str inf, str t, str d, str ti, str a.id, vc, vp, vl, vk] ∧ StrS u vc a.classes ∧ PrS u vp a.pairs ∧ InlS u vl line ∧ BlkS u vk kids ∧ BlkOk (.mk k lv inf t d ti a line kids) := by
  cases hx : xs[i] with
  | mk k lv inf t d ti a line kids =>
  have hg : xs[i]? = some (.mk k lv inf t d ti a line kids) := by rw [List.getElem?_eq_getElem hi, hx]
  obtain ⟨vc, vp, vl, vk, h1⟩ := (h.get i _ hg).cells
  exact ⟨k, lv, inf, t, d, ti, a, line, kids, vc, vp, vl, vk, hg, h1⟩
theorem cut_strsC {xs : List Bs} {i : Nat} {x : Bs} (h : xs[i]? = some x) : cut (strsC xs) (i * 1) 1 = [str x] := by
  obtain ⟨hlt, rfl⟩ := List.getElem?_eq_some_iff.1 h
  unfold cut strsC
  rw [Nat.mul_one, List.drop_eq_getElem_cons (by simpa using hlt)]
  simp
theorem cut_flat {α : Type} {f : α → List Value} {n : Nat} (hf : ∀ x, (f x).length = n) : ∀ {xs : List α} {i : Nat} {x : α}, xs[i]? = some x → cut (xs.flatMap f) (i * n) n = f x
  | [], i, x, h => by simp at h
  | y :: ys, 0, x, h => by
    simp at h; subst h
    unfold cut; simp [← hf y]
  | y :: ys, i + 1, x, h => by
    have ih := cut_flat hf (xs := ys) (i := i) (x := x) (by simpa using h)
    rw [← ih]
    unfold cut
    rw [List.flatMap_cons, Nat.add_mul, Nat.one_mul, Nat.add_comm, ← hf y, ← List.drop_drop, List.drop_left]
theorem cut_pairsC {xs : List (Bs × Bs)} {i : Nat} {x : Bs × Bs} (h : xs[i]? = some x) : cut (pairsC xs) (i * 2) 2 = [str x.1, str x.2] := cut_flat (f := fun x : Bs × Bs => [str x.1, str x.2]) (fun _ => rfl) h
theorem cut_citesC {xs : List DCite} {i : Nat} {x : DCite} (h : xs[i]? = some x) : cut (citesC xs) (i * 4) 4 = [str x.key, str x.pre, str x.suf, .bool x.bare] := cut_flat (f := fun x : DCite => [str x.key, str x.pre, str x.suf, .bool x.bare]) (fun _ => rfl) h
theorem oneCell_strs (xs : List Bs) : (strsC xs).all Value.oneCell' = true := by
  simp [strsC, str, Value.oneCell']
theorem oneCell_pairs (xs : List (Bs × Bs)) : (pairsC xs).all Value.oneCell' = true := by
  simp [pairsC, str, Value.oneCell']
theorem oneCell_cites (xs : List DCite) : (citesC xs).all Value.oneCell' = true := by
  simp [citesC, str, Value.oneCell']
theorem IsSl.one {u : View} {v : Value} {n sz : Nat} {cs : List Value} (h : IsSl u v n sz cs) : Value.oneCell' v = true := by
  obtain ⟨ad, cap, rfl, _⟩ := h; rfl
theorem InlC.one {u : View} {x : Inl} {cs : List Value} (h : InlC u x cs) : cs.all Value.oneCell' = true := by
  obtain ⟨k, t, d, ti, a, args, cites, kids⟩ := x
  obtain ⟨vc, vp, va, vt, vk, rfl, h1, h2, h3, h4, ⟨ks, h5, _⟩, _⟩ := h.cells
  simp [IsSl.one h1, IsSl.one h2, IsSl.one h3, IsSl.one h4, IsSl.one h5]
  simp [str, Value.oneCell']
theorem BlkC.one {u : View} {x : Blk} {cs : List Value} (h : BlkC u x cs) : cs.all Value.oneCell' = true := by
  obtain ⟨k, lv, inf, t, d, ti, a, line, kids⟩ := x
  obtain ⟨vc, vp, vl, vk, rfl, h1, h2, ⟨ls, h3, _⟩, ⟨ks, h4, _⟩, _⟩ := h.cells
  simp [IsSl.one h1, IsSl.one h2, IsSl.one h3, IsSl.one h4]
  simp [str, Value.oneCell']
theorem InlsC.ones {u : View} : ∀ {xs : List Inl} {cs : List Value}, InlsC u xs cs → cs.all Value.oneCell' = true
  | [], cs, h => by unfold InlsC at h; subst h; rfl
  | x :: xs, cs, h => by
    unfold InlsC at h
    obtain ⟨c, r, rfl, h2, h3⟩ := h
    rw [List.all_append, h2.one, h3.ones]; rfl
theorem BlksC.ones {u : View} : ∀ {xs : List Blk} {cs : List Value}, BlksC u xs cs → cs.all Value.oneCell' = true
  | [], cs, h => by unfold BlksC at h; subst h; rfl
  | x :: xs, cs, h => by
    unfold BlksC at h
    obtain ⟨c, r, rfl, h2, h3⟩ := h
    rw [List.all_append, h2.one, h3.ones]; rfl
/-! ### how many inlines and blocks there are -/
mutual
def sz1 : Inl → Nat
  | .mk _ _ _ _ _ _ _ kids => 1 + szI kids
def szI : List Inl → Nat
  | [] => 0
  | x :: xs => sz1 x + szI xs
end
mutual
def szb : Blk → Nat
  | .mk _ _ _ _ _ _ _ line kids => 1 + szI line + szB kids
def szB : List Blk → Nat
  | [] => 0
  | x :: xs => szb x + szB xs
end
theorem szI_get : ∀ {xs : List Inl} {i : Nat} {x : Inl}, xs[i]? = some x → sz1 x ≤ szI xs
  | [], i, x, h => by simp at h
  | y :: ys, 0, x, h => by simp at h; subst h; simp [szI]
  | y :: ys, i + 1, x, h => by
    have := szI_get (xs := ys) (i := i) (x := x) (by simpa using h)
    simp only [szI]; omega
theorem szI_kids {xs : List Inl} {i : Nat} {k : Int} {t d ti : Bs} {a : DAttr} {args : List Bs} {cites : List DCite} {kids : List Inl} (h : xs[i]? = some (.mk k t d ti a args cites kids)) : szI kids < szI xs := by
  have := szI_get h
  simp only [sz1] at this
  omega
theorem szB_get : ∀ {xs : List Blk} {i : Nat} {x : Blk}, xs[i]? = some x → szb x ≤ szB xs
  | [], i, x, h => by simp at h
  | y :: ys, 0, x, h => by simp at h; subst h; simp [szB]
  | y :: ys, i + 1, x, h => by
    have := szB_get (xs := ys) (i := i) (x := x) (by simpa using h)
    simp only [szB]; omega
theorem szB_kids {xs : List Blk} {i : Nat} {k lv : Int} {inf t d ti : Bs} {a : DAttr} {line : List Inl} {kids : List Blk} (h : xs[i]? = some (.mk k lv inf t d ti a line kids)) : szB kids < szB xs ∧ szI line < szB xs := by
  have := szB_get h
  simp only [szb] at this
  omega
theorem len_szI : ∀ (xs : List Inl), xs.length ≤ szI xs
  | [] => by simp
  | x :: xs => by
    have := len_szI xs
    cases x
    simp only [szI, sz1, List.length_cons]; omega
theorem len_szB : ∀ (xs : List Blk), xs.length ≤ szB xs
  | [] => by simp
  | x :: xs => by
    have := len_szB xs
    cases x
    simp only [szB, szb, List.length_cons]; omega
abbrev inlV (k : Int) (t d ti id : Bs) (vc vp va vt vk : Value) : List Value := [.int .i64 k, str t, str d, str ti, str id, vc, vp, va, vt, vk]
abbrev blkV (k lv : Int) (inf t d ti id : Bs) (vc vp vl vk : Value) : List Value := [.int .i64 k, .int .i64 lv, str inf, str t, str d, str ti, str id, vc, vp, vl, vk]
end Go.Eng
