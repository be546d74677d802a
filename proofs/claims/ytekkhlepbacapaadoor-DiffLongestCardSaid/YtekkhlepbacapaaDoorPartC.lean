/- Texts for a law, part 3: they walk the functions that the law reaches, and state what holds of them; without conditions beyond each theorem's own. -/
import Derived.Test.YtekkhlepbacapaaDoorPartB
import Derived.Test.YtekkhlepbacapaaDoorProg
import Derived.Shelf.Strings.Builder1
import Derived.Shelf.Small.Utf8
import Derived.Shelf.Small.Strs
import Derived.Shelf.Strconv.Itoa0
import Derived.Shelf.Strconv.Itoa1
import Derived.Shelf.LaysM
import Derived.Shelf.Strconv.Itoa2
import Derived.Shelf.Strconv.Itoa3
import Derived.Shelf.Strings.Search1
import Derived.Shelf.Strings.Runes
import Derived.Shelf.Strings.AsciiSet
import Derived.Shelf.Unicode.DecodeSlow
import Derived.Below
import Derived.Deep.Draws
import Derived.Sort.Grow
namespace Go.Proofs
open Go Go.Eng
theorem Tryd.k2 : tyK Tryd.prog 2 = some (false, 1) := by kernel_rfl
theorem Tryd.z2 : tyZ Tryd.prog 2 = some [.int .i64 0] := by kernel_rfl
theorem Tryd.u2 : Tryd.prog.underlying 2 = some (.int .i64) := by kernel_rfl
theorem Tryd.k3 : tyK Tryd.prog 3 = some (false, 1) := by kernel_rfl
theorem Tryd.z3 : tyZ Tryd.prog 3 = some [.int .i64 0] := by kernel_rfl
theorem Tryd.u3 : Tryd.prog.underlying 3 = some (.int .i64) := by kernel_rfl
theorem Tryd.k4 : tyK Tryd.prog 4 = some (false, 1) := by kernel_rfl
theorem Tryd.z4 : tyZ Tryd.prog 4 = some [.bool false] := by kernel_rfl
theorem Tryd.b4 : Tryd.prog.underlying 4 = some .bool := by kernel_rfl
theorem Tryd.k5 : tyK Tryd.prog 5 = some (false, 1) := by kernel_rfl
theorem Tryd.z5 : tyZ Tryd.prog 5 = some [.int .u8 0] := by kernel_rfl
theorem Tryd.u5 : Tryd.prog.underlying 5 = some (.int .u8) := by kernel_rfl
theorem Tryd.k9 : tyK Tryd.prog 9 = some (false, 1) := by kernel_rfl
theorem Tryd.z9 : tyZ Tryd.prog 9 = some [str []] := by kernel_rfl
theorem Tryd.str9 : Tryd.prog.underlying 9 = some .string := by kernel_rfl
theorem Tryd.k21 : tyK Tryd.prog 21 = some (false, 1) := by kernel_rfl
theorem Tryd.z21 : tyZ Tryd.prog 21 = some [.int .i32 0] := by kernel_rfl
theorem Tryd.u21 : Tryd.prog.underlying 21 = some (.int .i32) := by kernel_rfl
theorem Tryd.k22 : tyK Tryd.prog 22 = some (false, 1) := by kernel_rfl
theorem Tryd.z22 : tyZ Tryd.prog 22 = some [.slice none 0 0] := by kernel_rfl
theorem Tryd.s22 : tyS Tryd.prog 22 = some (9, 1, 16) := by kernel_rfl
theorem Tryd.k26 : tyK Tryd.prog 26 = some (false, 1) := by kernel_rfl
theorem Tryd.z26 : tyZ Tryd.prog 26 = some [.slice none 0 0] := by kernel_rfl
theorem Tryd.s26 : tyS Tryd.prog 26 = some (51, 3, 24) := by kernel_rfl
theorem Tryd.k28 : tyK Tryd.prog 28 = some (false, 1) := by kernel_rfl
theorem Tryd.s28 : tyS Tryd.prog 28 = some (65, 2, 32) := by kernel_rfl
theorem Tryd.k29 : tyK Tryd.prog 29 = some (false, 1) := by kernel_rfl
theorem Tryd.s29 : tyS Tryd.prog 29 = some (39, 11, 192) := by kernel_rfl
theorem Tryd.k31 : tyK Tryd.prog 31 = some (true, 2) := by kernel_rfl
theorem Tryd.z31 : tyZ Tryd.prog 31 = some [.slice none 0 0, .slice none 0 0] := by kernel_rfl
theorem Tryd.f31' : tyF Tryd.prog 31 = some [(0, 1), (1, 1)] := by kernel_rfl
theorem Tryd.k35 : tyK Tryd.prog 35 = some (false, 1) := by kernel_rfl
theorem Tryd.s35 : tyS Tryd.prog 35 = some (44, 10, 192) := by kernel_rfl
theorem Tryd.k37 : tyK Tryd.prog 37 = some (true, 3) := by kernel_rfl
theorem Tryd.z37 : tyZ Tryd.prog 37 = some [str [], .slice none 0 0, .slice none 0 0] := by kernel_rfl
theorem Tryd.f37' : tyF Tryd.prog 37 = some [(0, 1), (1, 1), (2, 1)] := by kernel_rfl
theorem Tryd.k39 : tyK Tryd.prog 39 = some (true, 11) := by kernel_rfl
theorem Tryd.z39 : tyZ Tryd.prog 39 = some [.int .i64 0, .int .i64 0, str [], str [], str [], str [], str [], .slice none 0 0, .slice none 0 0, .slice none 0 0, .slice none 0 0] := by kernel_rfl
theorem Tryd.f39' : tyF Tryd.prog 39 = some [(0, 1), (1, 1), (2, 1), (3, 1), (4, 1), (5, 1), (6, 3), (9, 1), (10, 1)] := by kernel_rfl
theorem Tryd.k42 : tyK Tryd.prog 42 = some (false, 1) := by kernel_rfl
theorem Tryd.s42 : tyS Tryd.prog 42 = some (106, 4, 56) := by kernel_rfl
theorem Tryd.k44 : tyK Tryd.prog 44 = some (true, 10) := by kernel_rfl
theorem Tryd.z44 : tyZ Tryd.prog 44 = some [.int .i64 0, str [], str [], str [], str [], .slice none 0 0, .slice none 0 0, .slice none 0 0, .slice none 0 0, .slice none 0 0] := by kernel_rfl
theorem Tryd.f44' : tyF Tryd.prog 44 = some [(0, 1), (1, 1), (2, 1), (3, 1), (4, 3), (7, 1), (8, 1), (9, 1)] := by kernel_rfl
theorem Tryd.k51 : tyK Tryd.prog 51 = some (true, 3) := by kernel_rfl
theorem Tryd.z51 : tyZ Tryd.prog 51 = some [.int .i64 0, .int .i64 0, .int .i64 0] := by kernel_rfl
theorem Tryd.f51' : tyF Tryd.prog 51 = some [(0, 1), (1, 1), (2, 1)] := by kernel_rfl
theorem Tryd.q51 : flatOf Tryd.prog 51 = some [(0, .i .i64), (1, .i .i64), (2, .i .i64)] := by kernel_rfl
theorem Tryd.k52 : tyK Tryd.prog 52 = some (false, 1) := by kernel_rfl
theorem Tryd.z52 : tyZ Tryd.prog 52 = some [.slice none 0 0] := by kernel_rfl
theorem Tryd.s52 : tyS Tryd.prog 52 = some (4, 1, 1) := by kernel_rfl
theorem Tryd.m57 : Tryd.prog.underlying 57 = some (.map 9 3) := by kernel_rfl
theorem Tryd.v3 : tyV Tryd.prog 3 = some (.int .i64 0) := by kernel_rfl
theorem Tryd.k58 : tyK Tryd.prog 58 = some (false, 1) := by kernel_rfl
theorem Tryd.z58 : tyZ Tryd.prog 58 = some [.slice none 0 0] := by kernel_rfl
theorem Tryd.s58 : tyS Tryd.prog 58 = some (3, 1, 8) := by kernel_rfl
theorem Tryd.s62 : tyS Tryd.prog 62 = some (52, 1, 24) := by kernel_rfl
theorem Tryd.k65 : tyK Tryd.prog 65 = some (true, 2) := by kernel_rfl
theorem Tryd.z65 : tyZ Tryd.prog 65 = some [str [], str []] := by kernel_rfl
theorem Tryd.f65' : tyF Tryd.prog 65 = some [(0, 1), (1, 1)] := by kernel_rfl
theorem Tryd.q65 : flatOf Tryd.prog 65 = some [(0, .s), (1, .s)] := by kernel_rfl
theorem Tryd.s74 : tyS Tryd.prog 74 = some (58, 1, 24) := by kernel_rfl
theorem Tryd.k80 : tyK Tryd.prog 80 = some (false, 1) := by kernel_rfl
theorem Tryd.k81 : tyK Tryd.prog 81 = some (false, 1) := by kernel_rfl
theorem Tryd.s81 : tyS Tryd.prog 81 = some (5, 1, 1) := by kernel_rfl
theorem Tryd.k83 : tyK Tryd.prog 83 = some (true, 2) := by kernel_rfl
theorem Tryd.f83' : tyF Tryd.prog 83 = some [(0, 1), (1, 1)] := by kernel_rfl
theorem Tryd.z85 : tyZ Tryd.prog 85 = some [.pointer none, .slice none 0 0] := by kernel_rfl
theorem Tryd.f85' : tyF Tryd.prog 85 = some [(0, 2)] := by kernel_rfl
theorem Tryd.k98 : tyK Tryd.prog 98 = some (false, 1) := by kernel_rfl
theorem Tryd.s98 : tyS Tryd.prog 98 = some (118, 1, 24) := by kernel_rfl
theorem Tryd.k100 : tyK Tryd.prog 100 = some (true, 1) := by kernel_rfl
theorem Tryd.z100 : tyZ Tryd.prog 100 = some [.slice none 0 0] := by kernel_rfl
theorem Tryd.f100' : tyF Tryd.prog 100 = some [(0, 1)] := by kernel_rfl
theorem Tryd.m102 : Tryd.prog.underlying 102 = some (.map 3 58) := by kernel_rfl
theorem Tryd.v58 : tyV Tryd.prog 58 = some (.slice none 0 0) := by kernel_rfl
theorem Tryd.k106 : tyK Tryd.prog 106 = some (true, 4) := by kernel_rfl
theorem Tryd.z106 : tyZ Tryd.prog 106 = some [str [], str [], str [], .bool false] := by kernel_rfl
theorem Tryd.f106' : tyF Tryd.prog 106 = some [(0, 1), (1, 1), (2, 1), (3, 1)] := by kernel_rfl
theorem Tryd.q106 : flatOf Tryd.prog 106 = some [(0, .s), (1, .s), (2, .s), (3, .b)] := by kernel_rfl
theorem Tryd.k118 : tyK Tryd.prog 118 = some (false, 1) := by kernel_rfl
theorem Tryd.z118 : tyZ Tryd.prog 118 = some [.slice none 0 0] := by kernel_rfl
theorem Tryd.s118 : tyS Tryd.prog 118 = some (120, 1, 8) := by kernel_rfl
theorem Tryd.s119 : tyS Tryd.prog 119 = some (21, 1, 4) := by kernel_rfl
theorem Tryd.k120 : tyK Tryd.prog 120 = some (false, 1) := by kernel_rfl
theorem Tryd.z120 : tyZ Tryd.prog 120 = some [.int .u64 0] := by kernel_rfl
theorem Tryd.u120 : Tryd.prog.underlying 120 = some (.int .u64) := by kernel_rfl
theorem Tryd.u122 : Tryd.prog.underlying 122 = some (.int .u64) := by kernel_rfl
theorem Tryd.c10 : canCall Tryd.prog 10 = true := by kernel_rfl
theorem Tryd.c11 : canCall Tryd.prog 11 = true := by kernel_rfl
theorem Tryd.c12 : canCall Tryd.prog 12 = true := by kernel_rfl
theorem Tryd.c13 : canCall Tryd.prog 13 = true := by kernel_rfl
theorem Tryd.c14 : canCall Tryd.prog 14 = true := by kernel_rfl
theorem Tryd.c15 : canCall Tryd.prog 15 = true := by kernel_rfl
theorem Tryd.c16 : canCall Tryd.prog 16 = true := by kernel_rfl
theorem Tryd.c17 : canCall Tryd.prog 17 = true := by kernel_rfl
theorem Tryd.c18 : canCall Tryd.prog 18 = true := by kernel_rfl
theorem Tryd.c19 : canCall Tryd.prog 19 = true := by kernel_rfl
theorem Tryd.c20 : canCall Tryd.prog 20 = true := by kernel_rfl
theorem Tryd.c21 : canCall Tryd.prog 21 = true := by kernel_rfl
theorem Tryd.c22 : canCall Tryd.prog 22 = true := by kernel_rfl
theorem Tryd.c23 : canCall Tryd.prog 23 = true := by kernel_rfl
theorem Tryd.c24 : canCall Tryd.prog 24 = true := by kernel_rfl
theorem Tryd.c25 : canCall Tryd.prog 25 = true := by kernel_rfl
theorem Tryd.c26 : canCall Tryd.prog 26 = true := by kernel_rfl
theorem Tryd.c27 : canCall Tryd.prog 27 = true := by kernel_rfl
theorem Tryd.c28 : canCall Tryd.prog 28 = true := by kernel_rfl
theorem Tryd.c29 : canCall Tryd.prog 29 = true := by kernel_rfl
theorem Tryd.c30 : canCall Tryd.prog 30 = true := by kernel_rfl
theorem Tryd.c31 : canCall Tryd.prog 31 = true := by kernel_rfl
theorem Tryd.c32 : canCall Tryd.prog 32 = true := by kernel_rfl
theorem Tryd.c33 : canCall Tryd.prog 33 = true := by kernel_rfl
theorem Tryd.c34 : canCall Tryd.prog 34 = true := by kernel_rfl
theorem Tryd.c35 : canCall Tryd.prog 35 = true := by kernel_rfl
theorem Tryd.c36 : canCall Tryd.prog 36 = true := by kernel_rfl
theorem Tryd.c37 : canCall Tryd.prog 37 = true := by kernel_rfl
theorem Tryd.c38 : canCall Tryd.prog 38 = true := by kernel_rfl
theorem Tryd.c39 : canCall Tryd.prog 39 = true := by kernel_rfl
theorem Tryd.c40 : canCall Tryd.prog 40 = true := by kernel_rfl
theorem Tryd.c41 : canCall Tryd.prog 41 = true := by kernel_rfl
theorem Tryd.c42 : canCall Tryd.prog 42 = true := by kernel_rfl
theorem Tryd.c43 : canCall Tryd.prog 43 = true := by kernel_rfl
theorem Tryd.c44 : canCall Tryd.prog 44 = true := by kernel_rfl
theorem Tryd.c45 : canCall Tryd.prog 45 = true := by kernel_rfl
theorem Tryd.c46 : canCall Tryd.prog 46 = true := by kernel_rfl
theorem Tryd.c47 : canCall Tryd.prog 47 = true := by kernel_rfl
theorem Tryd.c48 : canCall Tryd.prog 48 = true := by kernel_rfl
theorem Tryd.c50 : canCall Tryd.prog 50 = true := by kernel_rfl
theorem Tryd.c54 : canCall Tryd.prog 54 = true := by kernel_rfl
theorem Tryd.c55 : canCall Tryd.prog 55 = true := by kernel_rfl
theorem Tryd.c56 : canCall Tryd.prog 56 = true := by kernel_rfl
theorem Tryd.c57 : canCall Tryd.prog 57 = true := by kernel_rfl
theorem Tryd.c58 : canCall Tryd.prog 58 = true := by kernel_rfl
theorem Tryd.c59 : canCall Tryd.prog 59 = true := by kernel_rfl
theorem Tryd.c60 : canCall Tryd.prog 60 = true := by kernel_rfl
theorem Tryd.c61 : canCall Tryd.prog 61 = true := by kernel_rfl
theorem Tryd.c62 : canCall Tryd.prog 62 = true := by kernel_rfl
theorem Tryd.c67 : canCall Tryd.prog 67 = true := by kernel_rfl
theorem Tryd.c68 : canCall Tryd.prog 68 = true := by kernel_rfl
theorem Tryd.c69 : canCall Tryd.prog 69 = true := by kernel_rfl
theorem Tryd.c70 : canCall Tryd.prog 70 = true := by kernel_rfl
theorem Tryd.c71 : canCall Tryd.prog 71 = true := by kernel_rfl
theorem Tryd.c74 : canCall Tryd.prog 74 = true := by kernel_rfl
theorem Tryd.c75 : canCall Tryd.prog 75 = true := by kernel_rfl
theorem Tryd.mixed : Tryd.prog.follows .mixedOrders = true := by kernel_rfl
end Go.Proofs
namespace Go.Proofs.Ytekkhlepbacapaa
open Go Go.Eng
set_option linter.unusedSimpArgs false
set_option linter.unusedVariables false
def docT : DocTys Tryd.prog where
 int := 3
 bool := 4
 s := 9
 ss := 22
 pair := 65
 pairs := 28
 cite := 106
 cites := 42
 attr := 37
 inl := 44
 inls := 35
 blk := 39
 blks := 29
 hint := by kernel_rfl
 hbool := by kernel_rfl
 hs := by kernel_rfl
 hss := by kernel_rfl
 hpairs := by kernel_rfl
 hcites := by kernel_rfl
 hinls := by kernel_rfl
 hblks := by kernel_rfl
 hpair := ⟨Tryd.prog.fieldsOf 65, by kernel_rfl, by kernel_rfl⟩
 hcite := ⟨Tryd.prog.fieldsOf 106, by kernel_rfl, by kernel_rfl⟩
 hattr := ⟨Tryd.prog.fieldsOf 37, by kernel_rfl, by kernel_rfl⟩
 hinl := ⟨Tryd.prog.fieldsOf 44, by kernel_rfl, by kernel_rfl⟩
 hblk := ⟨Tryd.prog.fieldsOf 39, by kernel_rfl, by kernel_rfl⟩
 cint := by kernel_rfl
 cbool := by kernel_rfl
 cs := by kernel_rfl
 css := by kernel_rfl
 cpairs := by kernel_rfl
 ccites := by kernel_rfl
 cinls := by kernel_rfl
 cblks := by kernel_rfl
 cpair := by kernel_rfl
 ccite := by kernel_rfl
 cattr := by kernel_rfl
 cinl := by kernel_rfl
 cblk := by kernel_rfl
 ys := of_decide_eq_true (by kernel_rfl)
 ypair := of_decide_eq_true (by kernel_rfl)
 ycite := of_decide_eq_true (by kernel_rfl)
 yinl := of_decide_eq_true (by kernel_rfl)
 yblk := of_decide_eq_true (by kernel_rfl)
theorem docFl : FldsAre Tryd.prog 31 [(0, docT.pairs), (1, docT.blks)] := ⟨Tryd.prog.fieldsOf 31, by kernel_rfl, by kernel_rfl⟩
end Go.Proofs.Ytekkhlepbacapaa
namespace Go.Eng
open Go Go.RowKit
set_option linter.unusedSimpArgs false
set_option linter.unusedVariables false
structure DNum where
 id : Bs
 kind : Bs
 value : Bs
 line : List Inl
def NumC (u : View) (x : DNum) (cs : List Value) : Prop := ∃ vl, cs = [str x.id, str x.kind, str x.value, vl] ∧ InlS u vl x.line
def NumsC (u : View) : List DNum → List Value → Prop
 | [], cs => cs = []
 | x :: xs, cs => ∃ c r, cs = c ++ r ∧ NumC u x c ∧ NumsC u xs r
def NumS (u : View) (v : Value) (xs : List DNum) : Prop := ∃ cs, IsSl u v xs.length 4 cs ∧ NumsC u xs cs
theorem NumC.mono {u u' : View} {x : DNum} {cs : List Value} (h : NumC u x cs) (hu : VLe u u') : NumC u' x cs := let ⟨vl, h1, h2⟩ := h; ⟨vl, h1, h2.mono hu⟩
theorem NumsC.mono {u u' : View} (hu : VLe u u') : ∀ {xs : List DNum} {cs : List Value}, NumsC u xs cs → NumsC u' xs cs
 | [], cs, h => h
 | x :: xs, cs, h => let ⟨c, r, h1, h2, h3⟩ := h; ⟨c, r, h1, h2.mono hu, NumsC.mono hu h3⟩
theorem NumS.mono {u u' : View} {v : Value} {xs : List DNum} (h : NumS u v xs) (hu : VLe u u') : NumS u' v xs := let ⟨cs, h1, h2⟩ := h; ⟨cs, h1.mono hu, h2.mono hu⟩
theorem NumC.len {u : View} {x : DNum} {cs : List Value} (h : NumC u x cs) : cs.length = 4 := by obtain ⟨_, rfl, _⟩ := h; rfl
theorem NumsC.len {u : View} : ∀ {xs : List DNum} {cs : List Value}, NumsC u xs cs → cs.length = xs.length * 4
 | [], cs, h => by simp only [NumsC] at h; subst h; rfl
 | x :: xs, cs, h => by
  obtain ⟨c, r, rfl, h2, h3⟩ := h
  simp [h2.len, h3.len, Nat.add_mul]; omega
theorem NumsC.append {u : View} : ∀ {xs ys : List DNum} {cs ds : List Value}, NumsC u xs cs → NumsC u ys ds → NumsC u (xs ++ ys) (cs ++ ds)
 | [], ys, cs, ds, h, k => by simp only [NumsC] at h; subst h; simpa using k
 | x :: xs, ys, cs, ds, h, k => by
  obtain ⟨c, r, rfl, h2, h3⟩ := h
  exact ⟨c, r ++ ds, by simp, h2, h3.append k⟩
theorem NumsC.get {u : View} : ∀ {xs : List DNum} {cs : List Value} (i : Nat) (x : DNum), NumsC u xs cs → xs[i]? = some x → NumC u x (cut cs (i * 4) 4)
 | [], cs, i, x, _, hi => by simp at hi
 | y :: ys, cs, i, x, h, hi => by
  obtain ⟨c, r, rfl, h2, h3⟩ := h
  have hl := h2.len
  cases i with
  | zero =>
   simp at hi
   subst hi
   have : cut (c ++ r) (0 * 4) 4 = c := by unfold cut; simp [← hl]
   rw [this]; exact h2
  | succ i =>
   have ih := NumsC.get i x h3 (by simpa using hi)
   have : cut (c ++ r) ((i + 1) * 4) 4 = cut r (i * 4) 4 := by
    unfold cut
    rw [show (i + 1) * 4 = c.length + i * 4 by omega, List.drop_append, List.drop_eq_nil_of_le (by omega), List.nil_append, Nat.add_sub_cancel_left]
   rw [this]; exact ih
theorem NumsC.at {u : View} {xs : List DNum} {cs : List Value} (h : NumsC u xs cs) {i : Nat} (hi : i < xs.length) :
  ∃ x vl, xs[i]? = some x ∧ cut cs (i * 4) 4 = [str x.id, str x.kind, str x.value, vl] ∧ InlS u vl x.line := by
 obtain ⟨vl, h1, h2⟩ := h.get i _ (List.getElem?_eq_getElem hi)
 exact ⟨_, vl, List.getElem?_eq_getElem hi, h1, h2⟩
theorem NumC.one {u : View} {x : DNum} {cs : List Value} (h : NumC u x cs) : cs.all Value.oneCell' = true := by
 obtain ⟨vl, rfl, ⟨ks, h5, _⟩⟩ := h
 simp [IsSl.one h5]
 simp [str, Value.oneCell']
theorem NumsC.one {u : View} {x : DNum} {c : List Value} (h : NumC u x c) : NumsC u [x] c := ⟨c, [], by simp, h, rfl⟩
end Go.Eng
namespace Go.Proofs.Ytekkhlepbacapaa
open Go Go.Eng
set_option linter.unusedSimpArgs false
set_option linter.unusedVariables false
set_option maxRecDepth 4000
end Go.Proofs.Ytekkhlepbacapaa
namespace Go.Proofs.Ytekkhlepbacapaa
open Go Go.Eng
set_option linter.unusedSimpArgs false
set_option linter.unusedVariables false
set_option maxRecDepth 4000
def longN (a : DAttr) : Nat := a.id.length + (a.classes.map List.length).sum + (a.pairs.map fun p => p.1.length + p.2.length).sum
theorem sum_take {α : Type} (f : α → Nat) {xs : List α} {i : Nat} {x : α} (h : xs[i]? = some x) : ((xs.take (i + 1)).map f).sum = ((xs.take i).map f).sum + f x := by
 obtain ⟨hlt, rfl⟩ := List.getElem?_eq_some_iff.1 h
 rw [List.take_succ_eq_append_getElem hlt, List.map_append, List.sum_append]
 simp only [List.map_cons, List.map_nil, List.sum_cons, List.sum_nil, Nat.add_zero]
theorem sum_le {α : Type} (f : α → Nat) (B : Nat) : ∀ (xs : List α), (∀ x ∈ xs, f x ≤ B) → (xs.map f).sum ≤ xs.length * B
 | [], _ => by simp
 | x :: xs, h => by
  have := sum_le f B xs (fun y hy => h y (by simp [hy]))
  have := h x (by simp)
  simp only [List.map_cons, List.sum_cons, List.length_cons, Nat.add_mul]
  omega
theorem sum_take_le {α : Type} (f : α → Nat) (B : Nat) (xs : List α) (i : Nat) (h : ∀ x ∈ xs, f x ≤ B) : ((xs.take i).map f).sum ≤ xs.length * B := by
 refine Nat.le_trans (sum_le f B _ fun x hx => h x (List.mem_of_mem_take hx)) ?_
 exact Nat.mul_le_mul_right _ (by simp; omega)
theorem long_fn (a : DAttr) (vc vp : Value) (u : View) (hok : AttrOk a) (h1 : StrS u vc a.classes) (h2 : PrS u vp a.pairs) :
  FnP Tryd.prog 42 [.agg #[str a.id, vc, vp]] u fun v _ => v = .bool (decide (40 < a.classes.length ∨ 40 < a.pairs.length ∨ 600 < longN a)) := by
 obtain ⟨ad, cap, rfl, h1⟩ := h1
 obtain ⟨ad2, cap2, rfl, h2⟩ := h2
 obtain ⟨hid, ⟨hcl, hcs⟩, ⟨hpl, hps⟩⟩ := hok
 refine FnP.intro [.tmp 2] Tryd.func42 rfl rfl rfl ?_
 intro w0 D hw0
 refine Ze (Zb (Zt rfl rfl ?_))
 refine do_box trivial rfl (cs := [_, _, _]) rfl rfl rfl rfl ?_
 refine ya rfl rfl (Zf (ρ' := [(1, _)]) ⟨rfl, trivial⟩ ?_)
 refine Zd (Ze (Zb (Zg (Zi rfl Tryd.f37' rfl (by decide) rfl) rfl (Zg (Zl rfl Tryd.k9 rfl rfl rfl (vs := [_]) rfl rfl rfl) rfl (Zg (Zat rfl rfl Tryd.str9 rfl) rfl (ya rfl rfl (Zf (ρ' := [(1, _), (3, _)]) ⟨rfl, rfl, trivial⟩ ?_)))))))
 refine Zd (Ze (Ze ?_))
 refine Zbd 18 ((decide (40 < a.classes.length ∨ 40 < a.pairs.length))) (ρk := [(1, _), (3, _)]) ⟨rfl, rfl, trivial⟩ ?_ ?_
 ·
  refine Zb (Zg (Zi rfl Tryd.f37' rfl (by decide) rfl) rfl (Zg (Zl rfl Tryd.k22 rfl rfl rfl (vs := [_]) rfl rfl rfl) rfl (Zg (Zx rfl rfl Tryd.s22 rfl) rfl (Zg (y_gtr rfl rfl rfl) rfl (ym rfl rfl ?_)))))
  rcases Bool.eq_false_or_eq_true (decide ((40 : Int) < a.classes.length)) with hg2_4 | hg2_4
  ·
   simp only [hg2_4]
   iterate 4 refine Zaf rfl rfl rfl rfl ?_
   refine Zg (Zo rfl rfl rfl) rfl ?_
   exact Zam rfl ⟨rfl, rfl, trivial⟩ (by (first | refine (decide_eq_true ?_).symm | refine (decide_eq_false ?_).symm | refine decide_eq_decide.2 ?_ | refine decide_eq_true ?_ | refine decide_eq_false ?_) <;> (try unfold longN) <;> (try simp only [decide_eq_true_eq, decide_eq_false_iff_not] at *) <;> omega)
  ·
   simp only [hg2_4]
   refine Zp rfl rfl (Zg (Zi rfl Tryd.f37' rfl (by decide) rfl) rfl (Zp rfl rfl (Zg (Zl rfl Tryd.k28 rfl rfl rfl (vs := [_]) rfl rfl rfl) rfl (Zp rfl rfl (Zg (Zx rfl rfl Tryd.s28 rfl) rfl (Zp rfl rfl (Zg (y_gtr rfl rfl rfl) rfl ?_)))))))
   refine Zg (Zad rfl rfl rfl) rfl ?_
   exact Zam rfl ⟨rfl, rfl, trivial⟩ (by (first | refine (decide_eq_true ?_).symm | refine (decide_eq_false ?_).symm | refine decide_eq_decide.2 ?_ | refine decide_eq_true ?_ | refine decide_eq_false ?_) <;> (try unfold longN) <;> (try simp only [decide_eq_true_eq, decide_eq_false_iff_not] at *) <;> omega)
 refine Zd ?_
 refine Zw rfl (fun hb2 => ?_) (fun hb2 => ?_)
 ·
  refine Ze (Zb (ya rfl rfl (Zf (ρ' := [(2, _)]) ⟨rfl, trivial⟩ ?_)))
  refine Zd (Zaj (Zm (Zbf (.tmp rfl) ?_)))
  have := of_decide_eq_true hb2
  rw [decide_eq_true]
  omega
 ·
  refine Zv (Zd (Ze (Ze (Zb (ya rfl rfl (Zf (ρ' := [(1, _), (3, _), (4, _)]) ⟨rfl, rfl, rfl, trivial⟩ ?_))))))
  refine Zd (Zq ?_)
  refine Zaq (fun m_0 ρ σ u' => ∃ i : Nat, i + m_0 = a.classes.length ∧ VLe u u' ∧ σ = [(1, (none, .box [str a.id, .slice ad a.classes.length cap, .slice ad2 a.pairs.length cap2]))] ∧ ρ = [(1, .p 1 0), (3, .v (.int .i64 (a.id.length + ((a.classes.take i).map List.length).sum : Nat))), (4, .v (.int .i64 i))] ∧ (u = u')) (a.classes.length) ?_ ?_
  ·
   refine ⟨[(1, _), (3, _), (4, _)], [(1, _)], ⟨rfl, rfl, rfl, trivial⟩, ⟨rfl, trivial⟩, 0, by omega, VLe.refl _, (by first | rfl | simp), (by first | rfl | (simp only [List.cons.injEq, Prod.mk.injEq, SV.v.injEq, Value.int.injEq, true_and, and_true]; omega) | simp), ?_⟩
   rfl
  ·
   rintro m ρ σ u' ⟨i, hi5, hle5, rfl, rfl, rfl⟩
   refine Ze (Ze (Zb (ym rfl rfl (Zg (Zi rfl Tryd.f37' rfl (by decide) rfl) rfl (Zg (Zl rfl Tryd.k22 rfl rfl rfl (vs := [_]) rfl rfl rfl) rfl (Zg (Zx rfl rfl Tryd.s22 rfl) rfl (Zg (Zav rfl rfl rfl) rfl (Zf (ρ' := [(1, _), (3, _), (4, _), (23, _)]) ⟨rfl, rfl, rfl, rfl, trivial⟩ ?_))))))))
   refine Zd ?_
   refine Zw rfl (fun hb5 => ?_) (fun hb5 => ?_)
   ·
    refine Zv (Zd (Ze (Zq ?_)))
    have hlt : i < a.classes.length := by have := of_decide_eq_true hb5; omega
    have h40 := of_decide_eq_false hb2
    have hg := List.getElem?_eq_getElem hlt
    have hc := cut_strsC hg
    have hst := sum_take List.length hg
    have hb := sum_take_le List.length _ a.classes i hcs
    have hcb := hcs _ (List.mem_of_getElem? hg)
    refine Zb (ym rfl rfl (Zg (Zi rfl Tryd.f37' rfl (by decide) rfl) rfl (Zg (Zl rfl Tryd.k22 rfl rfl rfl (vs := [_]) rfl rfl rfl) rfl (ym rfl rfl (Zg (Zs rfl Tryd.s22 rfl rfl (by assumption) (by first | rfl | omega) (by omega)) rfl (Zg (Zr rfl Tryd.k9 rfl (by assumption) (by omega) (by assumption) (vs := [_]) rfl rfl rfl rfl) rfl (Zg (Zat rfl rfl Tryd.str9 rfl) rfl (Zg (Zap rfl rfl rfl (Zk (by omega))) rfl ?_))))))))
    refine ya rfl rfl (Zf (ρ' := [(1, _), (3, _), (4, _)]) ⟨rfl, rfl, rfl, trivial⟩ ?_)
    refine Zah (Zd (Zb (ym rfl rfl (Zg (Zap rfl rfl rfl (Zk (by omega))) rfl ?_))))
    refine ya rfl rfl (Zf (ρ' := [(1, _), (3, _), (4, _)]) ⟨rfl, rfl, rfl, trivial⟩ ?_)
    refine Zab ?_
    refine ⟨m - 1, [(1, _), (3, _), (4, _)], [(1, _)], by omega, ⟨rfl, rfl, rfl, trivial⟩, ⟨rfl, trivial⟩, i + 1, by omega, hle5, (by first | rfl | simp), (by first | rfl | (simp only [List.cons.injEq, Prod.mk.injEq, SV.v.injEq, Value.int.injEq, true_and, and_true]; omega) | simp), ?_⟩
    rfl
   ·
    refine Zan ?_
    refine Zh (Zh ?_)
    refine Zu ?_
    refine Zd (Ze (Ze (Zb (ya rfl rfl (Zf (ρ' := [(1, _), (3, _), (5, _)]) ⟨rfl, rfl, rfl, trivial⟩ ?_)))))
    refine Zd (Zq ?_)
    refine Zaq (fun m_0 ρ σ u' => ∃ i : Nat, i + m_0 = a.pairs.length ∧ VLe u u' ∧ σ = [(1, (none, .box [str a.id, .slice ad a.classes.length cap, .slice ad2 a.pairs.length cap2]))] ∧ ρ = [(1, .p 1 0), (3, .v (.int .i64 (a.id.length + (a.classes.map List.length).sum + ((a.pairs.take i).map fun p => p.1.length + p.2.length).sum : Nat))), (5, .v (.int .i64 i))] ∧ (u = u')) (a.pairs.length) ?_ ?_
    ·
     refine ⟨[(1, _), (3, _), (5, _)], [(1, _)], ⟨rfl, rfl, rfl, trivial⟩, ⟨rfl, trivial⟩, 0, by omega, VLe.refl _, rfl, (by have hge := of_decide_eq_false hb5; rw [List.take_of_length_le (l := a.classes) (by omega)]; simp), ?_⟩
     rfl
    ·
     rintro m ρ σ u' ⟨i, hi9, hle9, rfl, rfl, rfl⟩
     refine Ze (Ze (Zb (ym rfl rfl (Zg (Zi rfl Tryd.f37' rfl (by decide) rfl) rfl (Zg (Zl rfl Tryd.k28 rfl rfl rfl (vs := [_]) rfl rfl rfl) rfl (Zg (Zx rfl rfl Tryd.s28 rfl) rfl (Zg (Zav rfl rfl rfl) rfl (Zf (ρ' := [(1, _), (3, _), (5, _), (38, _)]) ⟨rfl, rfl, rfl, rfl, trivial⟩ ?_))))))))
     refine Zd ?_
     refine Zw rfl (fun hb9 => ?_) (fun hb9 => ?_)
     ·
      refine Zv (Zd (Ze (Zq ?_)))
      have hlt : i < a.pairs.length := by have := of_decide_eq_true hb9; omega
      have h40 := of_decide_eq_false hb2
      have hg := List.getElem?_eq_getElem hlt
      have hc := cut_pairsC hg
      have hst := sum_take (fun p : Bs × Bs => p.1.length + p.2.length) hg
      have hb := sum_take_le List.length _ a.classes a.classes.length hcs
      rw [List.take_of_length_le (Nat.le_refl _)] at hb
      have hb2' := sum_take_le (fun p : Bs × Bs => p.1.length + p.2.length) 281474976702464 a.pairs i (fun p hp => by have := hps p hp; omega)
      have hcb := hps _ (List.mem_of_getElem? hg)
      refine Zbb Tryd.mixed rfl [(1, _)] ⟨rfl, trivial⟩ ?_
      refine Zak 0 rfl (by kernel_rfl) (Zc (Za (Za (Zc (Za (Zn)))))) (Zae rfl rfl) rfl ?_
      refine Zak 1 rfl (by kernel_rfl) (Zc (Za (Za (Zc (Za (Zn)))))) (Zi rfl Tryd.f37' rfl (by decide) rfl) rfl ?_
      refine Zak 2 rfl (by kernel_rfl) (Zc (Za (Za (Zc (Za (Zn)))))) (Zl rfl Tryd.k28 rfl rfl rfl (vs := [_]) rfl rfl rfl) rfl ?_
      refine Zak 3 rfl (by kernel_rfl) (Zc (Za (Za (Zc (Za (Zn)))))) (Zae rfl rfl) rfl ?_
      refine Zak 4 rfl (by kernel_rfl) (Zc (Za (Za (Zc (Za (Zn)))))) (Zs rfl Tryd.s28 rfl rfl (by assumption) (by first | rfl | omega) (by omega)) rfl ?_
      refine Zak 5 rfl (by kernel_rfl) (Zc (Za (Za (Zc (Za (Zn)))))) (Zbc rfl Tryd.f65' rfl (by decide) rfl) rfl ?_
      refine Zak 6 rfl (by kernel_rfl) (Zc (Za (Za (Zc (Za (Zn)))))) (Zr rfl Tryd.k9 rfl (by assumption) (by omega) (by assumption) (vs := [_]) rfl rfl rfl rfl) rfl ?_
      refine Zak 7 rfl (by kernel_rfl) (Zc (Za (Za (Zc (Za (Zn)))))) (Zat rfl rfl Tryd.str9 rfl) rfl ?_
      refine Zak 8 rfl (by kernel_rfl) (Zc (Za (Za (Zc (Za (Zn)))))) (Zi rfl Tryd.f37' rfl (by decide) rfl) rfl ?_
      refine Zak 9 rfl (by kernel_rfl) (Zc (Za (Za (Zc (Za (Zn)))))) (Zl rfl Tryd.k28 rfl rfl rfl (vs := [_]) rfl rfl rfl) rfl ?_
      refine Zak 10 rfl (by kernel_rfl) (Zc (Za (Za (Zc (Za (Zn)))))) (Zae rfl rfl) rfl ?_
      refine Zak 11 rfl (by kernel_rfl) (Zc (Za (Za (Zc (Za (Zn)))))) (Zs rfl Tryd.s28 rfl rfl (by assumption) (by first | rfl | omega) (by omega)) rfl ?_
      refine Zak 12 rfl (by kernel_rfl) (Zc (Za (Za (Zc (Za (Zn)))))) (Zbc rfl Tryd.f65' rfl (by decide) rfl) rfl ?_
      refine Zak 13 rfl (by kernel_rfl) (Zc (Za (Za (Zc (Za (Zn)))))) (Zr rfl Tryd.k9 rfl (by assumption) (by omega) (by assumption) (vs := [_]) rfl rfl rfl rfl) rfl ?_
      refine Zak 14 rfl (by kernel_rfl) (Zc (Za (Za (Zc (Za (Zn)))))) (Zat rfl rfl Tryd.str9 rfl) rfl ?_
      refine Zak 15 rfl (by kernel_rfl) (Zc (Za (Za (Zc (Za (Zn)))))) (Zap rfl rfl rfl (Zk (by omega))) rfl ?_
      refine Zak 16 rfl (by kernel_rfl) (Zc (Za (Za (Zc (Za (Zn)))))) (Zap rfl rfl rfl (Zk (by omega))) rfl ?_
      refine Zak 17 rfl (by kernel_rfl) (Zc (Za (Za (Zc (Za (Zn)))))) (y_assign rfl rfl) rfl ?_
      refine Zbn (by kernel_rfl) (ρ' := [(1, _), (3, _), (5, _)]) ⟨rfl, rfl, rfl, trivial⟩ ?_
      refine Zah (Zd (Zb (ym rfl rfl (Zg (Zap rfl rfl rfl (Zk (by omega))) rfl ?_))))
      refine ya rfl rfl (Zf (ρ' := [(1, _), (3, _), (5, _)]) ⟨rfl, rfl, rfl, trivial⟩ ?_)
      refine Zab ?_
      refine ⟨m - 1, [(1, _), (3, _), (5, _)], [(1, _)], by omega, ⟨rfl, rfl, rfl, trivial⟩, ⟨rfl, trivial⟩, i + 1, by omega, hle9, (by first | rfl | simp), (by first | rfl | (simp only [List.cons.injEq, Prod.mk.injEq, SV.v.injEq, Value.int.injEq, true_and, and_true]; omega) | simp), ?_⟩
      rfl
     ·
      refine Zan ?_
      refine Zh (Zh ?_)
      refine Zu ?_
      refine Zd (Ze ?_)
      have h40 := of_decide_eq_false hb2
      have hge := of_decide_eq_false hb9
      have hfull : ((a.pairs.take i).map fun p => p.1.length + p.2.length) = (a.pairs.map fun p => p.1.length + p.2.length) := by rw [List.take_of_length_le (by omega)]
      rw [hfull]
      refine Zb (ym rfl rfl (Zg (y_gtr rfl rfl rfl) rfl (ya rfl rfl (Zf (ρ' := [(2, _)]) ⟨rfl, trivial⟩ ?_))))
      refine Zd (Zaj (Zbf (.tmp rfl) ?_))
      congr 1
      refine decide_eq_decide.2 ?_
      unfold longN
      omega
end Go.Proofs.Ytekkhlepbacapaa
namespace Go.Proofs.Ytekkhlepbacapaa
open Go Go.Eng
set_option linter.unusedSimpArgs false
set_option linter.unusedVariables false
set_option maxRecDepth 4000
def NodeSm (t d ti : Bs) (a : DAttr) (args : List Bs) (cites : List DCite) : Prop :=
 t.length + d.length + ti.length ≤ 300 ∧ a.classes.length ≤ 40 ∧ a.pairs.length ≤ 40 ∧ longN a ≤ 600 ∧ args.length ≤ 9 ∧ cites.length ≤ 9 ∧ (∀ s ∈ args, s.length ≤ 50000) ∧ ∀ c ∈ cites, c.key.length + c.pre.length + c.suf.length ≤ 50000
mutual
def smI1 : Inl → Prop
 | .mk _ t d ti a args cites kids => NodeSm t d ti a args cites ∧ smI kids
def smI : List Inl → Prop
 | [] => True
 | x :: xs => smI1 x ∧ smI xs
end
theorem smI_append : ∀ {xs ys : List Inl}, smI xs → smI ys → smI (xs ++ ys)
 | [], ys, _, k => k
 | x :: xs, ys, h, k => by
  unfold smI at h
  rw [List.cons_append]
  unfold smI
  exact ⟨h.1, smI_append h.2 k⟩
theorem szI_append : ∀ (xs ys : List Inl), szI (xs ++ ys) = szI xs + szI ys
 | [], ys => by simp [szI]
 | x :: xs, ys => by
  rw [List.cons_append]
  simp only [szI, szI_append xs ys, Nat.add_assoc]
theorem szI_take {xs : List Inl} {i : Nat} {x : Inl} (h : xs[i]? = some x) : szI (xs.take (i + 1)) = szI (xs.take i) + sz1 x := by
 obtain ⟨hlt, rfl⟩ := List.getElem?_eq_some_iff.1 h
 rw [List.take_succ_eq_append_getElem hlt, szI_append]
 simp [szI]
theorem smI_take {xs : List Inl} {i : Nat} {x : Inl} (h : xs[i]? = some x) (h1 : smI (xs.take i)) (h2 : smI1 x) : smI (xs.take (i + 1)) := by
 obtain ⟨hlt, rfl⟩ := List.getElem?_eq_some_iff.1 h
 rw [List.take_succ_eq_append_getElem hlt]
 exact smI_append h1 (by unfold smI; exact ⟨h2, by unfold smI; trivial⟩)
theorem mem_take_succ {α : Type} {xs : List α} {i : Nat} {x y : α} (h : xs[i]? = some x) (hy : y ∈ xs.take (i + 1)) : y ∈ xs.take i ∨ y = x := by
 obtain ⟨hlt, rfl⟩ := List.getElem?_eq_some_iff.1 h
 rw [List.take_succ_eq_append_getElem hlt] at hy
 rcases List.mem_append.1 hy with h | h
 ·
  exact .inl h
 ·
  exact .inr (List.mem_singleton.1 h)
theorem weight_fn (fuel : Nat) : fuel ≤ 21 → ∀ (dp : Int) (v : Value) (xs : List Inl) (u : View), dp = 21 - fuel → xs.length ≤ 140737488351232 → InlS u v xs →
  FnP Tryd.prog 43 [v, .int .i64 dp] u fun r _ => ∃ n : Int, r = .int .i64 n ∧ 0 ≤ n ∧ n ≤ 1000 + fuel * 200000000000000 ∧ (n < 1000 → szI xs ≤ n ∧ smI xs) := by
 induction fuel using Nat.strongRecOn with
 | _ fuel ih =>
 intro hf dp v xs u hdp hx ha
 obtain ⟨cs, ⟨ad, cap, rfl, h1⟩, hc1⟩ := ha
 refine FnP.intro [.tmp 4] Tryd.func43 rfl rfl rfl ?_
 intro w0 D hw0
 refine Ze (Zb (ya rfl rfl (Zf (ρ' := [(0, _), (1, _)]) ⟨rfl, rfl, trivial⟩ ?_)))
 refine Zd (Ze (Zb (ym rfl rfl (Zg (Zx rfl rfl Tryd.s35 rfl) rfl (ya rfl rfl (Zf (ρ' := [(0, _), (1, _), (5, _)]) ⟨rfl, rfl, rfl, trivial⟩ ?_))))))
 refine Zd (Ze (Ze ?_))
 refine Zbd 18 (decide (20 < dp ∨ 200 < xs.length)) (ρk := [(0, _), (1, _), (5, _)]) ⟨rfl, rfl, rfl, trivial⟩ ?_ ?_
 ·
  refine Zb (ym rfl rfl (Zg (y_gtr rfl rfl rfl) rfl (ym rfl rfl ?_)))
  rcases Bool.eq_false_or_eq_true (decide ((20 : Int) < dp)) with hg2_2 | hg2_2
  ·
   simp only [hg2_2]
   refine Zaf rfl rfl rfl rfl (Zaf rfl rfl rfl rfl (Zg (Zo rfl rfl rfl) rfl ?_))
   exact Zam rfl ⟨rfl, rfl, rfl, trivial⟩ (by (first | refine (decide_eq_true ?_).symm | refine (decide_eq_false ?_).symm | refine decide_eq_decide.2 ?_ | refine decide_eq_true ?_ | refine decide_eq_false ?_) <;> (try unfold longN) <;> (try simp only [decide_eq_true_eq, decide_eq_false_iff_not] at *) <;> omega)
  ·
   simp only [hg2_2]
   refine Zp rfl rfl (ym rfl rfl (Zp rfl rfl (Zg (y_gtr rfl rfl rfl) rfl (Zg (Zad rfl rfl rfl) rfl ?_))))
   exact Zam rfl ⟨rfl, rfl, rfl, trivial⟩ (by (first | refine (decide_eq_true ?_).symm | refine (decide_eq_false ?_).symm | refine decide_eq_decide.2 ?_ | refine decide_eq_true ?_ | refine decide_eq_false ?_) <;> (try unfold longN) <;> (try simp only [decide_eq_true_eq, decide_eq_false_iff_not] at *) <;> omega)
 refine Zd ?_
 refine Zw rfl (fun hb2 => ?_) (fun hb2 => ?_)
 ·
  refine Ze (Zb (ya rfl rfl (Zf (ρ' := [(4, _)]) ⟨rfl, trivial⟩ ?_)))
  refine Zd (Zaj (Zm (Zbf (.tmp rfl) ?_)))
  exact ⟨1000, rfl, by omega, by omega, fun h => absurd h (by omega)⟩
 ·
  refine Zv (Zd (Ze (Ze (Zb (ya rfl rfl (Zf (ρ' := [(0, _), (1, _), (5, _), (6, _)]) ⟨rfl, rfl, rfl, rfl, trivial⟩ ?_))))))
  refine Zd (Zq ?_)
  refine Zaq (fun m_0 ρ σ u' => ∃ i : Nat, i + m_0 = xs.length ∧ VLe u u' ∧ ∃ (n : Int), σ = [] ∧ ρ = [(0, .v (.slice ad xs.length cap)), (1, .v (.int .i64 dp)), (5, .v (.int .i64 n)), (6, .v (.int .i64 i))] ∧ (u = u' ∧ 0 ≤ n ∧ n ≤ 1000 + fuel * 200000000000000 ∧ (n < 1000 → xs.length + szI (xs.take i) ≤ n + i ∧ smI (xs.take i)))) (xs.length) ?_ ?_
  ·
   refine ⟨[(0, _), (1, _), (5, _), (6, _)], [], ⟨rfl, rfl, rfl, rfl, trivial⟩, trivial, 0, by omega, VLe.refl _, _, (by first | rfl | simp), (by first | rfl | (simp only [List.cons.injEq, Prod.mk.injEq, SV.v.injEq, Value.int.injEq, true_and, and_true]; omega) | simp), ?_⟩
   have := of_decide_eq_false hb2; exact ⟨rfl, by omega, by omega, fun _ => ⟨by simp [szI], by simp [smI]⟩⟩
  ·
   rintro m ρ σ u' ⟨i, hi5, hle5, n, rfl, rfl, ⟨rfl, hn0, hnb, hinv⟩⟩
   refine Ze (Ze ?_)
   refine Zbd 26 (decide (i < xs.length ∧ n < 1000)) (ρk := [(0, _), (1, _), (5, _), (6, _)]) ⟨rfl, rfl, rfl, rfl, trivial⟩ ?_ ?_
   ·
    refine Zb (ym rfl rfl (ym rfl rfl (Zg (Zx rfl rfl Tryd.s35 rfl) rfl (Zg (Zav rfl rfl rfl) rfl (ym rfl rfl ?_)))))
    rcases Bool.eq_false_or_eq_true (decide ((i : Int) < xs.length)) with hg5_4 | hg5_4
    ·
     simp only [hg5_4]
     refine Zp rfl rfl (ym rfl rfl (Zp rfl rfl (Zg (Zav rfl rfl rfl) rfl (Zg (Zo rfl rfl rfl) rfl ?_))))
     exact Zam rfl ⟨rfl, rfl, rfl, rfl, trivial⟩ (by (first | refine (decide_eq_true ?_).symm | refine (decide_eq_false ?_).symm | refine decide_eq_decide.2 ?_ | refine decide_eq_true ?_ | refine decide_eq_false ?_) <;> (try unfold longN) <;> (try simp only [decide_eq_true_eq, decide_eq_false_iff_not] at *) <;> omega)
    ·
     simp only [hg5_4]
     refine Zaf rfl rfl rfl rfl (Zaf rfl rfl rfl rfl (Zg (Zad rfl rfl rfl) rfl ?_))
     exact Zam rfl ⟨rfl, rfl, rfl, rfl, trivial⟩ (by (first | refine (decide_eq_true ?_).symm | refine (decide_eq_false ?_).symm | refine decide_eq_decide.2 ?_ | refine decide_eq_true ?_ | refine decide_eq_false ?_) <;> (try unfold longN) <;> (try simp only [decide_eq_true_eq, decide_eq_false_iff_not] at *) <;> omega)
   refine Zd ?_
   refine Zw rfl (fun hb5 => ?_) (fun hb5 => ?_)
   ·
    refine Zv (Zd (Ze (Zq (Ze ?_))))
    have hb := of_decide_eq_true hb5
    have hb2 := of_decide_eq_false hb2
    have hlt : i < xs.length := hb.1
    obtain ⟨k, t, d, ti, a, args, cites, kids, vc, vp, va, vt, vk, hg, hcut1, s1, s2, s3, s4, s5, hok⟩ := hc1.at hlt
    have oneAll := (hc1.get i _ hg).one
    rw [hcut1] at oneAll
    obtain ⟨okk0, okt, okd, okti, oka, ⟨okargs, okargs2⟩, ⟨okcites, okcites2⟩, okk⟩ := hok
    obtain ⟨adt, capt, rfl, h4⟩ := s4
    obtain ⟨ada, capa, rfl, h3⟩ := s3
    obtain ⟨hinv1, hinv2⟩ := hinv hb.2
    have hsz := szI_take hg
    have hln := len_szI xs
    refine Zb (ym rfl rfl (ym rfl rfl (Zg (Zs rfl Tryd.s35 rfl rfl (by assumption) (by first | rfl | omega) (by omega)) rfl (Zg (Zr rfl Tryd.k44 rfl (by assumption) (by omega) (by assumption) (vs := [_, _, _, _, _, _, _, _, _, _]) rfl rfl rfl rfl) rfl (Zt rfl rfl ?_)))))
    refine Zau trivial Tryd.z44 rfl rfl rfl ?_
    refine Zt rfl rfl ?_
    refine Zao trivial rfl Tryd.k44 rfl rfl rfl (vs := [_, _, _, _, _, _, _, _, _, _]) rfl rfl (by first | rfl | assumption | simp [Value.oneCell', str]) (Nat.le_of_ble_eq_true rfl) rfl ?_
    refine Zf (ρ' := [(0, _), (1, _), (5, _), (6, _), (7, _)]) ⟨rfl, rfl, rfl, rfl, rfl, trivial⟩ ?_
    refine Zd (Ze (Ze ?_))
    refine Zbd 61 (decide (300 < t.length + d.length + ti.length ∨ (40 < a.classes.length ∨ 40 < a.pairs.length ∨ 600 < longN a) ∨ 9 < args.length ∨ 9 < cites.length)) (ρk := [(0, _), (1, _), (5, _), (6, _), (7, _)]) ⟨rfl, rfl, rfl, rfl, rfl, trivial⟩ ?_ ?_
    ·
     refine Zb (Zg (Zi rfl Tryd.f44' rfl (by decide) rfl) rfl (Zg (Zl rfl Tryd.k9 rfl rfl rfl (vs := [_]) rfl rfl rfl) rfl (Zg (Zat rfl rfl Tryd.str9 rfl) rfl (Zg (Zi rfl Tryd.f44' rfl (by decide) rfl) rfl (Zg (Zl rfl Tryd.k9 rfl rfl rfl (vs := [_]) rfl rfl rfl) rfl (Zg (Zat rfl rfl Tryd.str9 rfl) rfl (Zg (Zap rfl rfl rfl (Zk (by omega))) rfl ?_)))))))
     refine Zg (Zi rfl Tryd.f44' rfl (by decide) rfl) rfl (Zg (Zl rfl Tryd.k9 rfl rfl rfl (vs := [_]) rfl rfl rfl) rfl (Zg (Zat rfl rfl Tryd.str9 rfl) rfl (Zg (Zap rfl rfl rfl (Zk (by omega))) rfl ?_)))
     refine Zg (y_gtr rfl rfl rfl) rfl (ym rfl rfl ?_)
     rcases Bool.eq_false_or_eq_true (decide ((300 : Int) < (t.length : Int) + d.length + ti.length)) with hg8_12 | hg8_12
     ·
      simp only [hg8_12]
      iterate 3 refine Zaf rfl rfl rfl rfl ?_
      refine Zg (Zo rfl rfl rfl) rfl (ym rfl rfl ?_)
      iterate 4 refine Zaf rfl rfl rfl rfl ?_
      refine Zg (Zo rfl rfl rfl) rfl (ym rfl rfl ?_)
      iterate 4 refine Zaf rfl rfl rfl rfl ?_
      refine Zg (Zo rfl rfl rfl) rfl ?_
      exact Zam rfl ⟨rfl, rfl, rfl, rfl, rfl, trivial⟩ (by (first | refine (decide_eq_true ?_).symm | refine (decide_eq_false ?_).symm | refine decide_eq_decide.2 ?_ | refine decide_eq_true ?_ | refine decide_eq_false ?_) <;> (try unfold NodeSm) <;> (try simp only [decide_eq_true_eq, decide_eq_false_iff_not] at *) <;> omega)
     ·
      simp only [hg8_12]
      refine Zp rfl rfl (Zg (Zi rfl Tryd.f44' rfl (by decide) rfl) rfl (Zp rfl rfl (Zg (Zl rfl Tryd.k37 rfl rfl rfl (vs := [_, _, _]) rfl rfl rfl) rfl (Zp rfl rfl (Zt rfl rfl ?_)))))
      refine Zac (caps := []) trivial rfl rfl Tryd.c42 rfl (FnP.mono (long_fn a _ _ u oka s1 s2) ?_)
      rintro v u1 hle1 rfl
      refine Zg (Zad rfl rfl rfl) rfl (ym rfl rfl ?_)
      rcases Bool.eq_false_or_eq_true (decide (40 < a.classes.length ∨ 40 < a.pairs.length ∨ 600 < longN a)) with hg8_17 | hg8_17
      ·
       simp only [hg8_17]
       iterate 4 refine Zaf rfl rfl rfl rfl ?_
       refine Zg (Zo rfl rfl rfl) rfl (ym rfl rfl ?_)
       iterate 4 refine Zaf rfl rfl rfl rfl ?_
       refine Zg (Zo rfl rfl rfl) rfl ?_
       exact Zam rfl ⟨rfl, rfl, rfl, rfl, rfl, trivial⟩ (by (first | refine (decide_eq_true ?_).symm | refine (decide_eq_false ?_).symm | refine decide_eq_decide.2 ?_ | refine decide_eq_true ?_ | refine decide_eq_false ?_) <;> (try unfold NodeSm) <;> (try simp only [decide_eq_true_eq, decide_eq_false_iff_not] at *) <;> omega)
      ·
       simp only [hg8_17]
       refine Zp rfl rfl (Zg (Zi rfl Tryd.f44' rfl (by decide) rfl) rfl (Zp rfl rfl (Zg (Zl rfl Tryd.k22 rfl rfl rfl (vs := [_]) rfl rfl rfl) rfl (Zp rfl rfl (Zg (Zx rfl rfl Tryd.s22 rfl) rfl (Zp rfl rfl (Zg (y_gtr rfl rfl rfl) rfl ?_)))))))
       refine Zg (Zad rfl rfl rfl) rfl (ym rfl rfl ?_)
       rcases Bool.eq_false_or_eq_true (decide ((9 : Int) < args.length)) with hg8_23 | hg8_23
       ·
        simp only [hg8_23]
        iterate 4 refine Zaf rfl rfl rfl rfl ?_
        refine Zg (Zo rfl rfl rfl) rfl ?_
        exact Zam rfl ⟨rfl, rfl, rfl, rfl, rfl, trivial⟩ (by (first | refine (decide_eq_true ?_).symm | refine (decide_eq_false ?_).symm | refine decide_eq_decide.2 ?_ | refine decide_eq_true ?_ | refine decide_eq_false ?_) <;> (try unfold NodeSm) <;> (try simp only [decide_eq_true_eq, decide_eq_false_iff_not] at *) <;> omega)
       ·
        simp only [hg8_23]
        refine Zp rfl rfl (Zg (Zi rfl Tryd.f44' rfl (by decide) rfl) rfl (Zp rfl rfl (Zg (Zl rfl Tryd.k42 rfl rfl rfl (vs := [_]) rfl rfl rfl) rfl (Zp rfl rfl (Zg (Zx rfl rfl Tryd.s42 rfl) rfl (Zp rfl rfl (Zg (y_gtr rfl rfl rfl) rfl ?_)))))))
        refine Zg (Zad rfl rfl rfl) rfl ?_
        exact Zam rfl ⟨rfl, rfl, rfl, rfl, rfl, trivial⟩ (by (first | refine (decide_eq_true ?_).symm | refine (decide_eq_false ?_).symm | refine decide_eq_decide.2 ?_ | refine decide_eq_true ?_ | refine decide_eq_false ?_) <;> (try unfold NodeSm) <;> (try simp only [decide_eq_true_eq, decide_eq_false_iff_not] at *) <;> omega)
    refine Zd ?_
    refine Zw rfl (fun hb8 => ?_) (fun hb8 => ?_)
    ·
     refine Ze (Zb (ya rfl rfl (Zf (ρ' := [(4, _)]) ⟨rfl, trivial⟩ ?_)))
     refine Zd (Zaj (Zm (Zaa (Zm (Zm (Zaa (Zm ?_)))))))
     refine Zbf (.tmp rfl) ?_
     exact ⟨1000, rfl, by omega, by omega, fun h => absurd h (by omega)⟩
    ·
     refine Zv (Zd (Ze (Ze (Zb (ya rfl rfl (Zf (ρ' := [(0, _), (1, _), (5, _), (6, _), (7, _), (8, _)]) ⟨rfl, rfl, rfl, rfl, rfl, rfl, trivial⟩ ?_))))))
     refine Zd (Zq ?_)
     refine Zaq (fun m_0 ρ σ u' => ∃ j : Nat, j + m_0 = args.length ∧ VLe u u' ∧ ∃ (n2 : Int), σ = [(7, (none, .box (inlV k t d ti a.id vc vp (.slice ada args.length capa) (.slice adt cites.length capt) vk)))] ∧ ρ = [(0, .v (.slice ad xs.length cap)), (1, .v (.int .i64 dp)), (5, .v (.int .i64 n2)), (6, .v (.int .i64 i)), (7, .p 7 0), (8, .v (.int .i64 j))] ∧ (u = u' ∧ n ≤ n2 ∧ n2 ≤ n + j * 3518437208781 ∧ (n2 < 1000 → ∀ s ∈ args.take j, s.length ≤ 50000))) (args.length) ?_ ?_
     ·
      refine ⟨[(0, _), (1, _), (5, _), (6, _), (7, _), (8, _)], [(7, _)], ⟨rfl, rfl, rfl, rfl, rfl, rfl, trivial⟩, ⟨rfl, trivial⟩, 0, by omega, VLe.refl _, n, (by first | rfl | simp), (by first | rfl | (simp only [List.cons.injEq, Prod.mk.injEq, SV.v.injEq, Value.int.injEq, true_and, and_true]; omega) | simp), ?_⟩
      exact ⟨rfl, by omega, by omega, fun _ s hs => by simp at hs⟩
     ·
      rintro mj ρ σ u' ⟨j, hi11, hle11, n2, rfl, rfl, ⟨rfl, hn1, hn2, hq2⟩⟩
      refine Ze (Ze (Zb (ym rfl rfl (Zg (Zi rfl Tryd.f44' rfl (by decide) rfl) rfl (Zg (Zl rfl Tryd.k22 rfl rfl rfl (vs := [_]) rfl rfl rfl) rfl (Zg (Zx rfl rfl Tryd.s22 rfl) rfl (Zg (Zav rfl rfl rfl) rfl (Zf (ρ' := [(0, _), (1, _), (5, _), (6, _), (7, _), (8, _), (66, _)]) ⟨rfl, rfl, rfl, rfl, rfl, rfl, rfl, trivial⟩ ?_))))))))
      refine Zd ?_
      refine Zw rfl (fun hb11 => ?_) (fun hb11 => ?_)
      ·
       refine Zv (Zd (Ze (Zq ?_)))
       have hlt2 : j < args.length := by have := of_decide_eq_true hb11; omega
       have hga := List.getElem?_eq_getElem hlt2
       have hcc := cut_strsC hga
       have hsl := okargs2 _ (List.mem_of_getElem? hga)
       have h8 := of_decide_eq_false hb8
       refine Zb (ym rfl rfl (Zg (Zi rfl Tryd.f44' rfl (by decide) rfl) rfl (Zg (Zl rfl Tryd.k22 rfl rfl rfl (vs := [_]) rfl rfl rfl) rfl (ym rfl rfl (Zg (Zs rfl Tryd.s22 rfl rfl (by assumption) (by first | rfl | omega) (by omega)) rfl (Zg (Zr rfl Tryd.k9 rfl (by assumption) (by omega) (by assumption) (vs := [_]) rfl rfl rfl rfl) rfl (Zg (Zat rfl rfl Tryd.str9 rfl) rfl ?_)))))))
       refine Zg (y_quoE rfl rfl rfl (by omega) (by omega) (by omega)) rfl (Zg (Zap rfl rfl rfl (Zk (by omega))) rfl ?_)
       refine ya rfl rfl (Zf (ρ' := [(0, _), (1, _), (5, _), (6, _), (7, _), (8, _)]) ⟨rfl, rfl, rfl, rfl, rfl, rfl, trivial⟩ ?_)
       refine Zah (Zd (Zb (ym rfl rfl (Zg (Zap rfl rfl rfl (Zk (by omega))) rfl ?_))))
       refine ya rfl rfl (Zf (ρ' := [(0, _), (1, _), (5, _), (6, _), (7, _), (8, _)]) ⟨rfl, rfl, rfl, rfl, rfl, rfl, trivial⟩ ?_)
       refine Zab ?_
       refine ⟨mj - 1, [(0, _), (1, _), (5, _), (6, _), (7, _), (8, _)], [(7, _)], by omega, ⟨rfl, rfl, rfl, rfl, rfl, rfl, trivial⟩, ⟨rfl, trivial⟩, j + 1, by omega, hle11, _, (by first | rfl | simp), (by first | rfl | (simp only [List.cons.injEq, Prod.mk.injEq, SV.v.injEq, Value.int.injEq, true_and, and_true]; omega) | simp), ?_⟩
       refine ⟨rfl, by omega, by omega, fun h s hs => ?_⟩; rcases mem_take_succ hga hs with hs | rfl; exact hq2 (by omega) s hs; omega
      ·
       refine Zan ?_
       refine Zh (Zh ?_)
       refine Zu ?_
       refine Zd (Ze (Ze (Zb (ya rfl rfl (Zf (ρ' := [(0, _), (1, _), (5, _), (6, _), (7, _), (9, _)]) ⟨rfl, rfl, rfl, rfl, rfl, rfl, trivial⟩ ?_)))))
       refine Zd (Zq ?_)
       refine Zaq (fun m_0 ρ σ u' => ∃ j : Nat, j + m_0 = cites.length ∧ VLe u u' ∧ ∃ (n3 : Int), σ = [(7, (none, .box (inlV k t d ti a.id vc vp (.slice ada args.length capa) (.slice adt cites.length capt) vk)))] ∧ ρ = [(0, .v (.slice ad xs.length cap)), (1, .v (.int .i64 dp)), (5, .v (.int .i64 n3)), (6, .v (.int .i64 i)), (7, .p 7 0), (9, .v (.int .i64 j))] ∧ (u = u' ∧ n2 ≤ n3 ∧ n3 ≤ n2 + j * 10555311626345 ∧ (n3 < 1000 → ∀ c ∈ cites.take j, c.key.length + c.pre.length + c.suf.length ≤ 50000))) (cites.length) ?_ ?_
       ·
        refine ⟨[(0, _), (1, _), (5, _), (6, _), (7, _), (9, _)], [(7, _)], ⟨rfl, rfl, rfl, rfl, rfl, rfl, trivial⟩, ⟨rfl, trivial⟩, 0, by omega, VLe.refl _, n2, (by first | rfl | simp), (by first | rfl | (simp only [List.cons.injEq, Prod.mk.injEq, SV.v.injEq, Value.int.injEq, true_and, and_true]; omega) | simp), ?_⟩
        exact ⟨rfl, by omega, by omega, fun _ s hs => by simp at hs⟩
       ·
        rintro mj ρ σ u' ⟨j, hi15, hle15, n3, rfl, rfl, ⟨rfl, hn3, hn4, hq3⟩⟩
        refine Ze (Ze (Zb (ym rfl rfl (Zg (Zi rfl Tryd.f44' rfl (by decide) rfl) rfl (Zg (Zl rfl Tryd.k42 rfl rfl rfl (vs := [_]) rfl rfl rfl) rfl (Zg (Zx rfl rfl Tryd.s42 rfl) rfl (Zg (Zav rfl rfl rfl) rfl (Zf (ρ' := [(0, _), (1, _), (5, _), (6, _), (7, _), (9, _), (82, _)]) ⟨rfl, rfl, rfl, rfl, rfl, rfl, rfl, trivial⟩ ?_))))))))
        refine Zd ?_
        refine Zw rfl (fun hb15 => ?_) (fun hb15 => ?_)
        ·
         refine Zv (Zd (Ze (Zq (Ze ?_))))
         have hlt3 : j < cites.length := by have := of_decide_eq_true hb15; omega
         have hgc := List.getElem?_eq_getElem hlt3
         have hcc := cut_citesC hgc
         have hsl := okcites2 _ (List.mem_of_getElem? hgc)
         have h8 := of_decide_eq_false hb8
         have h11 := of_decide_eq_false hb11
         refine Zb (Zg (Zi rfl Tryd.f44' rfl (by decide) rfl) rfl (Zg (Zl rfl Tryd.k42 rfl rfl rfl (vs := [_]) rfl rfl rfl) rfl (ym rfl rfl (Zg (Zs rfl Tryd.s42 rfl rfl (by assumption) (by first | rfl | omega) (by omega)) rfl (Zg (Zr rfl Tryd.k106 rfl (by assumption) (by omega) (by assumption) (vs := [_, _, _, _]) rfl rfl rfl rfl) rfl (Zt rfl rfl ?_))))))
         refine Zau trivial Tryd.z106 rfl rfl rfl ?_
         refine Zt rfl rfl ?_
         refine Zao trivial rfl Tryd.k106 rfl rfl rfl (vs := [_, _, _, _]) rfl rfl (by first | rfl | assumption | simp [Value.oneCell', str]) (Nat.le_of_ble_eq_true rfl) rfl ?_
         refine Zf (ρ' := [(0, _), (1, _), (5, _), (6, _), (7, _), (9, _), (10, _)]) ⟨rfl, rfl, rfl, rfl, rfl, rfl, rfl, trivial⟩ ?_
         refine Zd (Zb (ym rfl rfl (Zg (Zi rfl Tryd.f106' rfl (by decide) rfl) rfl (Zg (Zl rfl Tryd.k9 rfl rfl rfl (vs := [_]) rfl rfl rfl) rfl (Zg (Zat rfl rfl Tryd.str9 rfl) rfl (Zg (Zi rfl Tryd.f106' rfl (by decide) rfl) rfl (Zg (Zl rfl Tryd.k9 rfl rfl rfl (vs := [_]) rfl rfl rfl) rfl ?_)))))))
         refine Zg (Zat rfl rfl Tryd.str9 rfl) rfl (Zg (Zap rfl rfl rfl (Zk (by omega))) rfl ?_)
         refine Zg (Zi rfl Tryd.f106' rfl (by decide) rfl) rfl (Zg (Zl rfl Tryd.k9 rfl rfl rfl (vs := [_]) rfl rfl rfl) rfl (Zg (Zat rfl rfl Tryd.str9 rfl) rfl (Zg (Zap rfl rfl rfl (Zk (by omega))) rfl ?_)))
         refine Zg (y_quoE rfl rfl rfl (by omega) (by omega) (by omega)) rfl (Zg (Zap rfl rfl rfl (Zk (by omega))) rfl ?_)
         refine ya rfl rfl (Zf (ρ' := [(0, _), (1, _), (5, _), (6, _), (7, _), (9, _)]) ⟨rfl, rfl, rfl, rfl, rfl, rfl, trivial⟩ ?_)
         refine Zah (Zd (Zb (ym rfl rfl (Zg (Zap rfl rfl rfl (Zk (by omega))) rfl ?_))))
         refine ya rfl rfl (Zf (ρ' := [(0, _), (1, _), (5, _), (6, _), (7, _), (9, _)]) ⟨rfl, rfl, rfl, rfl, rfl, rfl, trivial⟩ ?_)
         refine Zab ?_
         refine ⟨mj - 1, [(0, _), (1, _), (5, _), (6, _), (7, _), (9, _)], [(7, _)], by omega, ⟨rfl, rfl, rfl, rfl, rfl, rfl, trivial⟩, ⟨rfl, trivial⟩, j + 1, by omega, hle15, _, (by first | rfl | simp), (by first | rfl | (simp only [List.cons.injEq, Prod.mk.injEq, SV.v.injEq, Value.int.injEq, true_and, and_true]; omega) | simp), ?_⟩
         refine ⟨rfl, by omega, by omega, fun h s hs => ?_⟩; rcases mem_take_succ hgc hs with hs | rfl; exact hq3 (by omega) s hs; omega
        ·
         refine Zan ?_
         refine Zh (Zh ?_)
         refine Zu ?_
         refine Zd ?_
         have h8 := of_decide_eq_false hb8
         have h11 := of_decide_eq_false hb11
         have h15 := of_decide_eq_false hb15
         rw [List.take_of_length_le (by omega)] at hq2 hq3
         refine Zb (ym rfl rfl (Zg (Zi rfl Tryd.f44' rfl (by decide) rfl) rfl (Zg (Zl rfl Tryd.k35 rfl rfl rfl (vs := [_]) rfl rfl rfl) rfl (ym rfl rfl (Zg (Zap rfl rfl rfl (Zk (by omega))) rfl ?_)))))
         refine Zt rfl rfl ?_
         refine Zac (caps := []) trivial rfl rfl Tryd.c43 rfl (FnP.mono (ih (fuel - 1) (by omega) (by omega) (dp + 1) vk kids u (by omega) okk s5) ?_)
         rintro v u1 hle1 ⟨n4, rfl, hn40, hn4b, hn4q⟩
         refine Zg (Zap rfl rfl rfl (Zk (by omega))) rfl ?_
         refine ya rfl rfl (Zf (ρ' := [(0, _), (1, _), (5, _), (6, _)]) ⟨rfl, rfl, rfl, rfl, trivial⟩ ?_)
         refine Zah (Zd (Zb (ym rfl rfl (Zg (Zap rfl rfl rfl (Zk (by omega))) rfl ?_))))
         refine ya rfl rfl (Zf (ρ' := [(0, _), (1, _), (5, _), (6, _)]) ⟨rfl, rfl, rfl, rfl, trivial⟩ ?_)
         refine Zab ?_
         refine ⟨m - 1, [(0, _), (1, _), (5, _), (6, _)], [], by omega, ⟨rfl, rfl, rfl, rfl, trivial⟩, trivial, i + 1, by omega, hle5, _, (by first | rfl | simp), (by first | rfl | (simp only [List.cons.injEq, Prod.mk.injEq, SV.v.injEq, Value.int.injEq, true_and, and_true]; omega) | simp), ?_⟩
         refine ⟨rfl, by omega, by omega, fun h => ?_⟩
         obtain ⟨q1, q2⟩ := hn4q (by omega)
         refine ⟨by simp only [sz1] at hsz; omega, smI_take hg hinv2 ?_⟩
         unfold smI1 NodeSm
         exact ⟨⟨by omega, by omega, by omega, by omega, by omega, by omega, hq2 (by omega), hq3 (by omega)⟩, q2⟩
   ·
    refine Zan ?_
    refine Zh (Zh ?_)
    refine Zu ?_
    refine Zd (Ze (Zb (ym rfl rfl (ya rfl rfl (Zf (ρ' := [(4, _)]) ⟨rfl, trivial⟩ ?_)))))
    refine Zd (Zaj (Zbf (.tmp rfl) ?_))
    have hge := of_decide_eq_false hb5
    refine ⟨n, rfl, hn0, hnb, fun h => ?_⟩
    obtain ⟨q1, q2⟩ := hinv h
    rw [List.take_of_length_le (by omega)] at q1 q2
    exact ⟨by omega, q2⟩
mutual
def smB1 : Blk → Prop
 | .mk _ _ inf t d ti a line kids => inf.length + t.length + d.length + ti.length ≤ 300 ∧ a.classes.length ≤ 40 ∧ a.pairs.length ≤ 40 ∧ longN a ≤ 600 ∧ smI line ∧ smB kids
def smB : List Blk → Prop
 | [] => True
 | x :: xs => smB1 x ∧ smB xs
end
theorem smB_append : ∀ {xs ys : List Blk}, smB xs → smB ys → smB (xs ++ ys)
 | [], ys, _, k => k
 | x :: xs, ys, h, k => by
  unfold smB at h
  rw [List.cons_append]
  unfold smB
  exact ⟨h.1, smB_append h.2 k⟩
theorem szB_append : ∀ (xs ys : List Blk), szB (xs ++ ys) = szB xs + szB ys
 | [], ys => by simp [szB]
 | x :: xs, ys => by
  rw [List.cons_append]
  simp only [szB, szB_append xs ys, Nat.add_assoc]
theorem szB_take {xs : List Blk} {i : Nat} {x : Blk} (h : xs[i]? = some x) : szB (xs.take (i + 1)) = szB (xs.take i) + szb x := by
 obtain ⟨hlt, rfl⟩ := List.getElem?_eq_some_iff.1 h
 rw [List.take_succ_eq_append_getElem hlt, szB_append]
 simp [szB]
theorem smB_take {xs : List Blk} {i : Nat} {x : Blk} (h : xs[i]? = some x) (h1 : smB (xs.take i)) (h2 : smB1 x) : smB (xs.take (i + 1)) := by
 obtain ⟨hlt, rfl⟩ := List.getElem?_eq_some_iff.1 h
 rw [List.take_succ_eq_append_getElem hlt]
 exact smB_append h1 (by unfold smB; exact ⟨h2, by unfold smB; trivial⟩)
theorem smI_get : ∀ {xs : List Inl} {i : Nat} {x : Inl}, smI xs → xs[i]? = some x → smI1 x
 | [], i, x, _, h => by simp at h
 | y :: ys, 0, x, h, hi => by
  simp at hi; subst hi
  unfold smI at h; exact h.1
 | y :: ys, i + 1, x, h, hi => by
  unfold smI at h
  exact smI_get h.2 (by simpa using hi)
theorem smB_get : ∀ {xs : List Blk} {i : Nat} {x : Blk}, smB xs → xs[i]? = some x → smB1 x
 | [], i, x, _, h => by simp at h
 | y :: ys, 0, x, h, hi => by
  simp at hi; subst hi
  unfold smB at h; exact h.1
 | y :: ys, i + 1, x, h, hi => by
  unfold smB at h
  exact smB_get h.2 (by simpa using hi)
theorem heavy_fn (fuel : Nat) : fuel ≤ 21 → ∀ (dp : Int) (v : Value) (xs : List Blk) (u : View), dp = 21 - fuel → xs.length ≤ 140737488351232 → BlkS u v xs →
  FnP Tryd.prog 32 [v, .int .i64 dp] u fun r _ => ∃ n : Int, r = .int .i64 n ∧ 0 ≤ n ∧ n ≤ 1000 + fuel * 5000000000000000 ∧ (n < 1000 → szB xs ≤ n ∧ smB xs) := by
 induction fuel using Nat.strongRecOn with
 | _ fuel ih =>
 intro hf dp v xs u hdp hx ha
 obtain ⟨cs, ⟨ad, cap, rfl, h1⟩, hc1⟩ := ha
 refine FnP.intro [.tmp 4] Tryd.func32 rfl rfl rfl ?_
 intro w0 D hw0
 refine Ze (Zb (ya rfl rfl (Zf (ρ' := [(0, _), (1, _)]) ⟨rfl, rfl, trivial⟩ ?_)))
 refine Zd (Ze (Zb (ym rfl rfl (Zg (Zx rfl rfl Tryd.s29 rfl) rfl (ya rfl rfl (Zf (ρ' := [(0, _), (1, _), (5, _)]) ⟨rfl, rfl, rfl, trivial⟩ ?_))))))
 refine Zd (Ze (Ze ?_))
 refine Zbd 15 (decide (20 < dp ∨ 200 < xs.length)) (ρk := [(0, _), (1, _), (5, _)]) ⟨rfl, rfl, rfl, trivial⟩ ?_ ?_
 ·
  refine Zb (ym rfl rfl (Zg (y_gtr rfl rfl rfl) rfl (ym rfl rfl ?_)))
  rcases Bool.eq_false_or_eq_true (decide ((20 : Int) < dp)) with hg2_2 | hg2_2
  ·
   simp only [hg2_2]
   refine Zaf rfl rfl rfl rfl (Zaf rfl rfl rfl rfl (Zg (Zo rfl rfl rfl) rfl ?_))
   exact Zam rfl ⟨rfl, rfl, rfl, trivial⟩ (by (first | refine (decide_eq_true ?_).symm | refine (decide_eq_false ?_).symm | refine decide_eq_decide.2 ?_ | refine decide_eq_true ?_ | refine decide_eq_false ?_) <;> (try unfold longN) <;> (try simp only [decide_eq_true_eq, decide_eq_false_iff_not] at *) <;> omega)
  ·
   simp only [hg2_2]
   refine Zp rfl rfl (ym rfl rfl (Zp rfl rfl (Zg (y_gtr rfl rfl rfl) rfl (Zg (Zad rfl rfl rfl) rfl ?_))))
   exact Zam rfl ⟨rfl, rfl, rfl, trivial⟩ (by (first | refine (decide_eq_true ?_).symm | refine (decide_eq_false ?_).symm | refine decide_eq_decide.2 ?_ | refine decide_eq_true ?_ | refine decide_eq_false ?_) <;> (try unfold longN) <;> (try simp only [decide_eq_true_eq, decide_eq_false_iff_not] at *) <;> omega)
 refine Zd ?_
 refine Zw rfl (fun hb2 => ?_) (fun hb2 => ?_)
 ·
  refine Ze (Zb (ya rfl rfl (Zf (ρ' := [(4, _)]) ⟨rfl, trivial⟩ ?_)))
  refine Zd (Zaj (Zm (Zbf (.tmp rfl) ?_)))
  exact ⟨1000, rfl, by omega, by omega, fun h => absurd h (by omega)⟩
 ·
  refine Zv (Zd (Ze (Ze (Zb (ya rfl rfl (Zf (ρ' := [(0, _), (1, _), (5, _), (6, _)]) ⟨rfl, rfl, rfl, rfl, trivial⟩ ?_))))))
  refine Zd (Zq ?_)
  refine Zaq (fun m_0 ρ σ u' => ∃ i : Nat, i + m_0 = xs.length ∧ VLe u u' ∧ ∃ (n : Int), σ = [] ∧ ρ = [(0, .v (.slice ad xs.length cap)), (1, .v (.int .i64 dp)), (5, .v (.int .i64 n)), (6, .v (.int .i64 i))] ∧ (u = u' ∧ 0 ≤ n ∧ n ≤ 1000 + fuel * 5000000000000000 ∧ (n < 1000 → xs.length + szB (xs.take i) ≤ n + i ∧ smB (xs.take i)))) (xs.length) ?_ ?_
  ·
   refine ⟨[(0, _), (1, _), (5, _), (6, _)], [], ⟨rfl, rfl, rfl, rfl, trivial⟩, trivial, 0, by omega, VLe.refl _, _, (by first | rfl | simp), (by first | rfl | (simp only [List.cons.injEq, Prod.mk.injEq, SV.v.injEq, Value.int.injEq, true_and, and_true]; omega) | simp), ?_⟩
   have := of_decide_eq_false hb2; exact ⟨rfl, by omega, by omega, fun _ => ⟨by simp [szB], by simp [smB]⟩⟩
  ·
   rintro m ρ σ u' ⟨i, hi5, hle5, n, rfl, rfl, ⟨rfl, hn0, hnb, hinv⟩⟩
   refine Ze (Ze ?_)
   refine Zbd 23 (decide (i < xs.length ∧ n < 1000)) (ρk := [(0, _), (1, _), (5, _), (6, _)]) ⟨rfl, rfl, rfl, rfl, trivial⟩ ?_ ?_
   ·
    refine Zb (ym rfl rfl (ym rfl rfl (Zg (Zx rfl rfl Tryd.s29 rfl) rfl (Zg (Zav rfl rfl rfl) rfl (ym rfl rfl ?_)))))
    rcases Bool.eq_false_or_eq_true (decide ((i : Int) < xs.length)) with hg5_4 | hg5_4
    ·
     simp only [hg5_4]
     refine Zp rfl rfl (ym rfl rfl (Zp rfl rfl (Zg (Zav rfl rfl rfl) rfl (Zg (Zo rfl rfl rfl) rfl ?_))))
     exact Zam rfl ⟨rfl, rfl, rfl, rfl, trivial⟩ (by (first | refine (decide_eq_true ?_).symm | refine (decide_eq_false ?_).symm | refine decide_eq_decide.2 ?_ | refine decide_eq_true ?_ | refine decide_eq_false ?_) <;> (try unfold longN) <;> (try simp only [decide_eq_true_eq, decide_eq_false_iff_not] at *) <;> omega)
    ·
     simp only [hg5_4]
     refine Zaf rfl rfl rfl rfl (Zaf rfl rfl rfl rfl (Zg (Zad rfl rfl rfl) rfl ?_))
     exact Zam rfl ⟨rfl, rfl, rfl, rfl, trivial⟩ (by (first | refine (decide_eq_true ?_).symm | refine (decide_eq_false ?_).symm | refine decide_eq_decide.2 ?_ | refine decide_eq_true ?_ | refine decide_eq_false ?_) <;> (try unfold longN) <;> (try simp only [decide_eq_true_eq, decide_eq_false_iff_not] at *) <;> omega)
   refine Zd ?_
   refine Zw rfl (fun hb5 => ?_) (fun hb5 => ?_)
   ·
    refine Zv (Zd (Ze (Zq (Ze ?_))))
    have hb := of_decide_eq_true hb5
    have hb2 := of_decide_eq_false hb2
    have hlt : i < xs.length := hb.1
    obtain ⟨k, lv, inf, t, d, ti, a, line, kids, vc, vp, vl, vk, hg, hcut1, s1, s2, s3, s4, hok⟩ := hc1.at hlt
    have oneAll := (hc1.get i _ hg).one
    rw [hcut1] at oneAll
    obtain ⟨okk0, oklv, oki, okt, okd, okti, oka, okl, okk⟩ := hok
    obtain ⟨hinv1, hinv2⟩ := hinv hb.2
    have hsz := szB_take hg
    have hln := len_szB xs
    refine Zb (ym rfl rfl (ym rfl rfl (Zg (Zs rfl Tryd.s29 rfl rfl (by assumption) (by first | rfl | omega) (by omega)) rfl (Zg (Zr rfl Tryd.k39 rfl (by assumption) (by omega) (by assumption) (vs := [_, _, _, _, _, _, _, _, _, _, _]) rfl rfl rfl rfl) rfl (Zt rfl rfl ?_)))))
    refine Zau trivial Tryd.z39 rfl rfl rfl ?_
    refine Zt rfl rfl ?_
    refine Zao trivial rfl Tryd.k39 rfl rfl rfl (vs := [_, _, _, _, _, _, _, _, _, _, _]) rfl rfl (by first | rfl | assumption | simp [Value.oneCell', str]) (Nat.le_of_ble_eq_true rfl) rfl ?_
    refine Zf (ρ' := [(0, _), (1, _), (5, _), (6, _), (7, _)]) ⟨rfl, rfl, rfl, rfl, rfl, trivial⟩ ?_
    refine Zd (Ze (Ze ?_))
    refine Zbd 50 (decide (300 < inf.length + t.length + d.length + ti.length ∨ 40 < a.classes.length ∨ 40 < a.pairs.length ∨ 600 < longN a)) (ρk := [(0, _), (1, _), (5, _), (6, _), (7, _)]) ⟨rfl, rfl, rfl, rfl, rfl, trivial⟩ ?_ ?_
    ·
     refine Zb (Zg (Zi rfl Tryd.f39' rfl (by decide) rfl) rfl (Zg (Zl rfl Tryd.k9 rfl rfl rfl (vs := [_]) rfl rfl rfl) rfl (Zg (Zat rfl rfl Tryd.str9 rfl) rfl (Zg (Zi rfl Tryd.f39' rfl (by decide) rfl) rfl (Zg (Zl rfl Tryd.k9 rfl rfl rfl (vs := [_]) rfl rfl rfl) rfl (Zg (Zat rfl rfl Tryd.str9 rfl) rfl (Zg (Zap rfl rfl rfl (Zk (by omega))) rfl ?_)))))))
     refine Zg (Zi rfl Tryd.f39' rfl (by decide) rfl) rfl (Zg (Zl rfl Tryd.k9 rfl rfl rfl (vs := [_]) rfl rfl rfl) rfl (Zg (Zat rfl rfl Tryd.str9 rfl) rfl (Zg (Zap rfl rfl rfl (Zk (by omega))) rfl ?_)))
     refine Zg (Zi rfl Tryd.f39' rfl (by decide) rfl) rfl (Zg (Zl rfl Tryd.k9 rfl rfl rfl (vs := [_]) rfl rfl rfl) rfl (Zg (Zat rfl rfl Tryd.str9 rfl) rfl (Zg (Zap rfl rfl rfl (Zk (by omega))) rfl ?_)))
     refine Zg (y_gtr rfl rfl rfl) rfl (ym rfl rfl ?_)
     rcases Bool.eq_false_or_eq_true (decide ((300 : Int) < (t.length : Int) + inf.length + d.length + ti.length)) with hg8_16 | hg8_16
     ·
      simp only [hg8_16]
      iterate 3 refine Zaf rfl rfl rfl rfl ?_
      refine Zg (Zo rfl rfl rfl) rfl ?_
      exact Zam rfl ⟨rfl, rfl, rfl, rfl, rfl, trivial⟩ (by (first | refine (decide_eq_true ?_).symm | refine (decide_eq_false ?_).symm | refine decide_eq_decide.2 ?_ | refine decide_eq_true ?_ | refine decide_eq_false ?_) <;> (try unfold smB1) <;> (try simp only [decide_eq_true_eq, decide_eq_false_iff_not] at *) <;> omega)
     ·
      simp only [hg8_16]
      refine Zp rfl rfl (Zg (Zi rfl Tryd.f39' rfl (by decide) rfl) rfl (Zp rfl rfl (Zg (Zl rfl Tryd.k37 rfl rfl rfl (vs := [_, _, _]) rfl rfl rfl) rfl (Zp rfl rfl (Zt rfl rfl ?_)))))
      refine Zac (caps := []) trivial rfl rfl Tryd.c42 rfl (FnP.mono (long_fn a _ _ u oka s1 s2) ?_)
      rintro v u1 hle1 rfl
      refine Zg (Zad rfl rfl rfl) rfl ?_
      exact Zam rfl ⟨rfl, rfl, rfl, rfl, rfl, trivial⟩ (by (first | refine (decide_eq_true ?_).symm | refine (decide_eq_false ?_).symm | refine decide_eq_decide.2 ?_ | refine decide_eq_true ?_ | refine decide_eq_false ?_) <;> (try unfold smB1) <;> (try simp only [decide_eq_true_eq, decide_eq_false_iff_not] at *) <;> omega)
    refine Zd ?_
    refine Zw rfl (fun hb8 => ?_) (fun hb8 => ?_)
    ·
     refine Ze (Zb (ya rfl rfl (Zf (ρ' := [(4, _)]) ⟨rfl, trivial⟩ ?_)))
     refine Zd (Zaj (Zm (Zaa (Zm (Zm (Zaa (Zm ?_)))))))
     refine Zbf (.tmp rfl) ?_
     exact ⟨1000, rfl, by omega, by omega, fun h => absurd h (by omega)⟩
    ·
     refine Zv (Zd ?_)
     refine Zbb Tryd.mixed rfl [(7, _)] ⟨rfl, trivial⟩ ?_
     refine Zak 0 rfl (by kernel_rfl) (Zc (Za (Za (Zc (Za (Zn)))))) (Zae rfl rfl) rfl ?_
     refine Zak 1 rfl (by kernel_rfl) (Zc (Za (Za (Zc (Za (Zn)))))) (Zi rfl Tryd.f39' rfl (by decide) rfl) rfl ?_
     refine Zak 2 rfl (by kernel_rfl) (Zc (Za (Za (Zc (Za (Zn)))))) (Zl rfl Tryd.k35 rfl rfl rfl (vs := [_]) rfl rfl rfl) rfl ?_
     refine Zak 4 rfl (by kernel_rfl) (Zc (Za (Za (Zc (Za (Zn)))))) (Zi rfl Tryd.f39' rfl (by decide) rfl) rfl ?_
     refine Zak 5 rfl (by kernel_rfl) (Zc (Za (Za (Zc (Za (Zn)))))) (Zl rfl Tryd.k29 rfl rfl rfl (vs := [_]) rfl rfl rfl) rfl ?_
     refine Zak 6 rfl (by kernel_rfl) (Zc (Za (Za (Zc (Za (Zn)))))) (Zae rfl rfl) rfl ?_
     refine Zak 7 rfl (by kernel_rfl) (Zc (Za (Za (Zc (Za (Zn)))))) (Zap rfl rfl rfl (Zk (by omega))) rfl ?_
     refine Zbi (i := 3) rfl rfl (by kernel_rfl) ?_
     refine Zac (caps := []) ⟨rfl, trivial⟩ rfl rfl Tryd.c43 rfl (FnP.mono (weight_fn 21 (by omega) 0 vl line u (by omega) okl s3) ?_)
     rintro v u1 hle1 ⟨n4, rfl, hn40, hn4b, hn4q⟩
     refine Zbi (i := 8) rfl rfl (by kernel_rfl) ?_
     refine Zac (caps := []) ⟨rfl, trivial⟩ rfl rfl Tryd.c32 rfl (FnP.mono (ih (fuel - 1) (by omega) (by omega) (dp + 1) vk kids u (by omega) okk s4) ?_)
     rintro v u1 hle1 ⟨n5, rfl, hn50, hn5b, hn5q⟩
     refine Zak 9 rfl (by kernel_rfl) (Zc (Za (Za (Zc (Za (Zn)))))) (Zap rfl rfl rfl (Zk (by omega))) rfl ?_
     refine Zak 10 rfl (by kernel_rfl) (Zc (Za (Za (Zc (Za (Zn)))))) (Zap rfl rfl rfl (Zk (by omega))) rfl ?_
     refine Zak 11 rfl (by kernel_rfl) (Zc (Za (Za (Zc (Za (Zn)))))) (y_assign rfl rfl) rfl ?_
     refine Zbn (by kernel_rfl) (ρ' := [(0, _), (1, _), (5, _), (6, _)]) ⟨rfl, rfl, rfl, rfl, trivial⟩ ?_
     refine Zah (Zd (Zb (ym rfl rfl (Zg (Zap rfl rfl rfl (Zk (by omega))) rfl ?_))))
     refine ya rfl rfl (Zf (ρ' := [(0, _), (1, _), (5, _), (6, _)]) ⟨rfl, rfl, rfl, rfl, trivial⟩ ?_)
     refine Zab ?_
     refine ⟨m - 1, [(0, _), (1, _), (5, _), (6, _)], [], by omega, ⟨rfl, rfl, rfl, rfl, trivial⟩, trivial, i + 1, by omega, hle5, _, (by first | rfl | simp), (by first | rfl | (simp only [List.cons.injEq, Prod.mk.injEq, SV.v.injEq, Value.int.injEq, true_and, and_true]; omega) | simp), ?_⟩
     refine ⟨rfl, by omega, by omega, fun h => ?_⟩
     obtain ⟨q1, q2⟩ := hn4q (by omega)
     obtain ⟨q3, q4⟩ := hn5q (by omega)
     have h8 := of_decide_eq_false hb8
     refine ⟨by simp only [szb] at hsz; omega, smB_take hg hinv2 ?_⟩
     unfold smB1
     exact ⟨by omega, by omega, by omega, by omega, q2, q4⟩
   ·
    refine Zan ?_
    refine Zh (Zh ?_)
    refine Zu ?_
    refine Zd (Ze (Zb (ym rfl rfl (ya rfl rfl (Zf (ρ' := [(4, _)]) ⟨rfl, trivial⟩ ?_)))))
    refine Zd (Zaj (Zbf (.tmp rfl) ?_))
    have hge := of_decide_eq_false hb5
    refine ⟨n, rfl, hn0, hnb, fun h => ?_⟩
    obtain ⟨q1, q2⟩ := hinv h
    rw [List.take_of_length_le (by omega)] at q1 q2
    exact ⟨by omega, q2⟩
def DSm (d : DDoc) : Prop := d.mts.length ≤ 70 ∧ (∀ p ∈ d.mts, p.1.length + p.2.length ≤ 300) ∧ szB d.blocks ≤ 120 ∧ smB d.blocks
theorem small_fn (d : DDoc) (vm vb : Value) (u : View) (hm : PrS u vm d.mts) (hbk : BlkS u vb d.blocks) (hok : DocOk d) :
  FnP Tryd.prog 15 [.agg #[vm, vb]] u fun r _ => ∃ b : Bool, r = .bool b ∧ (b = true → DSm d) := by
 obtain ⟨ad, cap, rfl, h1⟩ := hm
 obtain ⟨⟨okm, okm2⟩, okb⟩ := hok
 refine FnP.intro [.tmp 2] Tryd.func15 rfl rfl rfl ?_
 intro w0 D hw0
 refine Ze (Zb (Zt rfl rfl ?_))
 refine do_box trivial rfl (cs := [_, _]) rfl rfl rfl rfl ?_
 refine ya rfl rfl (Zf (ρ' := [(1, _)]) ⟨rfl, trivial⟩ ?_)
 refine Zd (Ze (Ze (Zb (Zg (Zi rfl Tryd.f31' rfl (by decide) rfl) rfl (Zg (Zl rfl Tryd.k28 rfl rfl rfl (vs := [_]) rfl rfl rfl) rfl (Zg (Zx rfl rfl Tryd.s28 rfl) rfl (Zg (y_gtr rfl rfl rfl) rfl (Zf (ρ' := [(1, _), (7, _)]) ⟨rfl, rfl, trivial⟩ ?_))))))))
 refine Zd ?_
 refine Zw rfl (fun hb1 => ?_) (fun hb1 => ?_)
 ·
  refine Ze (Zb (ya rfl rfl (Zf (ρ' := [(2, _)]) ⟨rfl, trivial⟩ ?_)))
  refine Zd (Zaj (Zm (Zbf (.tmp rfl) ?_)))
  exact ⟨false, rfl, fun h => by cases h⟩
 ·
  refine Zv (Zd (Ze (Ze (Zb (ya rfl rfl (Zf (ρ' := [(1, _), (3, _)]) ⟨rfl, rfl, trivial⟩ ?_))))))
  refine Zd (Zq ?_)
  refine Zaq (fun m_0 ρ σ u' => ∃ i : Nat, i + m_0 = d.mts.length ∧ VLe u u' ∧ σ = [(1, (none, .box [.slice ad d.mts.length cap, vb]))] ∧ ρ = [(1, .p 1 0), (3, .v (.int .i64 i))] ∧ (u = u' ∧ ∀ p ∈ d.mts.take i, p.1.length + p.2.length ≤ 300)) (d.mts.length) ?_ ?_
  ·
   refine ⟨[(1, _), (3, _)], [(1, _)], ⟨rfl, rfl, trivial⟩, ⟨rfl, trivial⟩, 0, by omega, VLe.refl _, (by first | rfl | simp), (by first | rfl | (simp only [List.cons.injEq, Prod.mk.injEq, SV.v.injEq, Value.int.injEq, true_and, and_true]; omega) | simp), ?_⟩
   exact ⟨rfl, fun p hp => by simp at hp⟩
  ·
   rintro m ρ σ u' ⟨i, hi4, hle4, rfl, rfl, ⟨rfl, hinv⟩⟩
   refine Ze (Ze (Zb (ym rfl rfl (Zg (Zi rfl Tryd.f31' rfl (by decide) rfl) rfl (Zg (Zl rfl Tryd.k28 rfl rfl rfl (vs := [_]) rfl rfl rfl) rfl (Zg (Zx rfl rfl Tryd.s28 rfl) rfl (Zg (Zav rfl rfl rfl) rfl (Zf (ρ' := [(1, _), (3, _), (12, _)]) ⟨rfl, rfl, rfl, trivial⟩ ?_))))))))
   refine Zd ?_
   refine Zw rfl (fun hb4 => ?_) (fun hb4 => ?_)
   ·
    refine Zv (Zd (Ze (Zq (Ze ?_))))
    have hlt : i < d.mts.length := by have := of_decide_eq_true hb4; omega
    have hg := List.getElem?_eq_getElem hlt
    have hcc := cut_pairsC hg
    have hsl := okm2 _ (List.mem_of_getElem? hg)
    refine Zbb Tryd.mixed rfl [(1, _)] ⟨rfl, trivial⟩ ?_
    refine Zak 0 rfl (by kernel_rfl) (Za (Zc (Za (Za (Zc (Za (Zn))))))) (Zi rfl Tryd.f31' rfl (by decide) rfl) rfl ?_
    refine Zak 1 rfl (by kernel_rfl) (Za (Zc (Za (Za (Zc (Za (Zn))))))) (Zl rfl Tryd.k28 rfl rfl rfl (vs := [_]) rfl rfl rfl) rfl ?_
    refine Zak 2 rfl (by kernel_rfl) (Za (Zc (Za (Za (Zc (Za (Zn))))))) (Zae rfl rfl) rfl ?_
    refine Zak 3 rfl (by kernel_rfl) (Za (Zc (Za (Za (Zc (Za (Zn))))))) (Zs rfl Tryd.s28 rfl rfl (by assumption) (by first | rfl | omega) (by omega)) rfl ?_
    refine Zak 4 rfl (by kernel_rfl) (Za (Zc (Za (Za (Zc (Za (Zn))))))) (Zbc rfl Tryd.f65' rfl (by decide) rfl) rfl ?_
    refine Zak 5 rfl (by kernel_rfl) (Za (Zc (Za (Za (Zc (Za (Zn))))))) (Zr rfl Tryd.k9 rfl (by assumption) (by omega) (by assumption) (vs := [_]) rfl rfl rfl rfl) rfl ?_
    refine Zak 6 rfl (by kernel_rfl) (Za (Zc (Za (Za (Zc (Za (Zn))))))) (Zat rfl rfl Tryd.str9 rfl) rfl ?_
    refine Zak 7 rfl (by kernel_rfl) (Za (Zc (Za (Za (Zc (Za (Zn))))))) (Zi rfl Tryd.f31' rfl (by decide) rfl) rfl ?_
    refine Zak 8 rfl (by kernel_rfl) (Za (Zc (Za (Za (Zc (Za (Zn))))))) (Zl rfl Tryd.k28 rfl rfl rfl (vs := [_]) rfl rfl rfl) rfl ?_
    refine Zak 9 rfl (by kernel_rfl) (Za (Zc (Za (Za (Zc (Za (Zn))))))) (Zae rfl rfl) rfl ?_
    refine Zak 10 rfl (by kernel_rfl) (Za (Zc (Za (Za (Zc (Za (Zn))))))) (Zs rfl Tryd.s28 rfl rfl (by assumption) (by first | rfl | omega) (by omega)) rfl ?_
    refine Zak 11 rfl (by kernel_rfl) (Za (Zc (Za (Za (Zc (Za (Zn))))))) (Zbc rfl Tryd.f65' rfl (by decide) rfl) rfl ?_
    refine Zak 12 rfl (by kernel_rfl) (Za (Zc (Za (Za (Zc (Za (Zn))))))) (Zr rfl Tryd.k9 rfl (by assumption) (by omega) (by assumption) (vs := [_]) rfl rfl rfl rfl) rfl ?_
    refine Zak 13 rfl (by kernel_rfl) (Za (Zc (Za (Za (Zc (Za (Zn))))))) (Zat rfl rfl Tryd.str9 rfl) rfl ?_
    refine Zak 14 rfl (by kernel_rfl) (Za (Zc (Za (Za (Zc (Za (Zn))))))) (Zap rfl rfl rfl (Zk (by omega))) rfl ?_
    refine Zak 15 rfl (by kernel_rfl) (Za (Zc (Za (Za (Zc (Za (Zn))))))) (y_gtr rfl rfl rfl) rfl ?_
    refine Zbn (by kernel_rfl) (ρ' := [(1, _), (3, _), (30, _)]) ⟨rfl, rfl, rfl, trivial⟩ ?_
    refine Zd ?_
    refine Zw rfl (fun hb6 => ?_) (fun hb6 => ?_)
    ·
     refine Ze (Zb (ya rfl rfl (Zf (ρ' := [(2, _)]) ⟨rfl, trivial⟩ ?_)))
     refine Zd (Zaj (Zaa (Zm (Zm (Zaa (Zm (Zbf (.tmp rfl) ?_)))))))
     exact ⟨false, rfl, fun h => by cases h⟩
    ·
     refine Zv (Zah (Zd (Zb (ym rfl rfl (Zg (Zap rfl rfl rfl (Zk (by omega))) rfl ?_)))))
     refine ya rfl rfl (Zf (ρ' := [(1, _), (3, _)]) ⟨rfl, rfl, trivial⟩ ?_)
     refine Zab ?_
     refine ⟨m - 1, [(1, _), (3, _)], [(1, _)], by omega, ⟨rfl, rfl, trivial⟩, ⟨rfl, trivial⟩, i + 1, by omega, hle4, (by first | rfl | simp), (by first | rfl | (simp only [List.cons.injEq, Prod.mk.injEq, SV.v.injEq, Value.int.injEq, true_and, and_true]; omega) | simp), ?_⟩
     have h6 := of_decide_eq_false hb6; refine ⟨rfl, fun p hp => ?_⟩; rcases mem_take_succ hg hp with hs | rfl; exact hinv p hs; omega
   ·
    refine Zan ?_
    refine Zh (Zh ?_)
    refine Zu ?_
    refine Zd (Ze (Zb (Zg (Zi rfl Tryd.f31' rfl (by decide) rfl) rfl (Zg (Zl rfl Tryd.k29 rfl rfl rfl (vs := [_]) rfl rfl rfl) rfl (Zt rfl rfl ?_)))))
    refine Zac (caps := []) trivial rfl rfl Tryd.c32 rfl (FnP.mono (heavy_fn 21 (by omega) 0 vb d.blocks u (by omega) okb hbk) ?_)
    rintro v u1 hle1 ⟨n, rfl, hn0, hnb, hnq⟩
    refine Zg (y_leq rfl rfl rfl) rfl (ya rfl rfl (Zf (ρ' := [(2, _)]) ⟨rfl, trivial⟩ ?_))
    refine Zd (Zaj (Zbf (.tmp rfl) ?_))
    have h1 := of_decide_eq_false hb1
    have h4 := of_decide_eq_false hb4
    rw [List.take_of_length_le (by omega)] at hinv
    refine ⟨_, rfl, fun h => ?_⟩
    have h := of_decide_eq_true h
    obtain ⟨q1, q2⟩ := hnq (by omega)
    exact ⟨by omega, hinv, by omega, q2⟩
end Go.Proofs.Ytekkhlepbacapaa
namespace Go.Proofs
open Go.Shelf
def Tryd.lays137_ren : Go.Shelf.Ren := ⟨fun | 137 => 36 | 217 => 49 | 266 => 63 | n => n, fun | 9 => 9 | 5 => 5 | 3 => 3 | n => n, fun | n => n⟩
theorem Tryd.lays137 : Go.Proofs.Lays.n137 Tryd.prog Tryd.lays137_ren := {
 mixed := by kernel_rfl
 f137 := Tryd.func36.trans (congrArg some (by kernel_rfl))
 f217 := Tryd.func49.trans (congrArg some (by kernel_rfl))
 f266 := Tryd.func63.trans (congrArg some (by kernel_rfl))
 t3 := Tryd.underlying3
 a3 := Tryd.isAgg3
 z3 := Tryd.sizeOf3
 v3 := Tryd.zeroValue3
 t5 := Tryd.underlying5
 a5 := Tryd.isAgg5
 z5 := Tryd.sizeOf5
 v5 := Tryd.zeroValue5
 t9 := Tryd.underlying9
 a9 := Tryd.isAgg9
 z9 := Tryd.sizeOf9
 v9 := Tryd.zeroValue9 }
open Go.RowKit in
theorem Tryd.strings_IndexByte (s : ByteArray) (c : Int) (w : World) :
  Calls Tryd.prog 36 #[.string s, .int .u8 c] w fun e w' => e = .returned (.int .i64 (Lib.indexByte s.data.toList c.toNat.toUInt8)) ∧ w' = w := Any.strings_IndexByte Tryd.lays137 s c w
def Tryd.laysM171_ren : Go.Shelf.Ren := ⟨fun | 171 => 71 | 243 => 76 | 246 => 81 | 283 => 82 | 284 => 83 | 285 => 84 | 286 => 85 | 129 => 87 | 317 => 86 | 318 => 88 | 319 => 89 | 320 => 90 | 337 => 91 | 338 => 92 | n => n, fun | 3 => 3 | 9 => 9 | 2 => 2 | 4 => 4 | 171 => 141 | 0 => 0 | 53 => 120 | 37 => 81 | 5 => 5 | 173 => 143 | 212 => 146 | 51 => 147 | 20 => 20 | 213 => 148 | 46 => 122 | 232 => 151 | 233 => 152 | n => n, fun | 17 => 3 | 18 => 4 | 19 => 5 | n => n⟩
theorem Tryd.laysM171 : Go.Proofs.LaysM.n171 Tryd.prog Tryd.laysM171_ren := {
 mixed := by kernel_rfl
 f129 := Tryd.func87.trans (congrArg some (by kernel_rfl))
 f171 := Tryd.func71.trans (congrArg some (by kernel_rfl))
 f243 := Tryd.func76.trans (congrArg some (by kernel_rfl))
 f246 := Tryd.func81.trans (congrArg some (by kernel_rfl))
 f283 := Tryd.func82.trans (congrArg some (by kernel_rfl))
 f284 := Tryd.func83.trans (congrArg some (by kernel_rfl))
 f285 := Tryd.func84.trans (congrArg some (by kernel_rfl))
 f286 := Tryd.func85.trans (congrArg some (by kernel_rfl))
 f317 := Tryd.func86.trans (congrArg some (by kernel_rfl))
 f318 := Tryd.func88.trans (congrArg some (by kernel_rfl))
 f319 := Tryd.func89.trans (congrArg some (by kernel_rfl))
 f320 := Tryd.func90.trans (congrArg some (by kernel_rfl))
 f337 := Tryd.func91.trans (congrArg some (by kernel_rfl))
 f338 := Tryd.func92.trans (congrArg some (by kernel_rfl))
 t0 := Tryd.underlying0
 a0 := Tryd.isAgg0
 z0 := Tryd.sizeOf0
 v0 := Tryd.zeroValue0
 t2 := Tryd.underlying2
 a2 := Tryd.isAgg2
 z2 := Tryd.sizeOf2
 v2 := Tryd.zeroValue2
 t3 := Tryd.underlying3
 a3 := Tryd.isAgg3
 z3 := Tryd.sizeOf3
 v3 := Tryd.zeroValue3
 t4 := Tryd.underlying4
 a4 := Tryd.isAgg4
 z4 := Tryd.sizeOf4
 v4 := Tryd.zeroValue4
 t5 := Tryd.underlying5
 a5 := Tryd.isAgg5
 z5 := Tryd.sizeOf5
 v5 := Tryd.zeroValue5
 t9 := Tryd.underlying9
 a9 := Tryd.isAgg9
 z9 := Tryd.sizeOf9
 v9 := Tryd.zeroValue9
 t20 := Tryd.underlying20
 a20 := Tryd.isAgg20
 z20 := Tryd.sizeOf20
 v20 := Tryd.zeroValue20
 t37 := Tryd.underlying81
 a37 := Tryd.isAgg81
 z37 := Tryd.sizeOf81
 v37 := Tryd.zeroValue81
 t46 := Tryd.underlying122
 a46 := Tryd.isAgg122
 z46 := Tryd.sizeOf122
 v46 := Tryd.zeroValue122
 t51 := Tryd.underlying147
 a51 := Tryd.isAgg147
 z51 := Tryd.sizeOf147
 v51 := Tryd.zeroValue147
 t53 := Tryd.underlying120
 a53 := Tryd.isAgg120
 z53 := Tryd.sizeOf120
 v53 := Tryd.zeroValue120
 t171 := Tryd.underlying141
 a171 := Tryd.isAgg141
 z171 := Tryd.sizeOf141
 v171 := Tryd.zeroValue141
 t173 := Tryd.underlying143
 a173 := Tryd.isAgg143
 z173 := Tryd.sizeOf143
 v173 := Tryd.zeroValue143
 t212 := Tryd.underlying146
 a212 := Tryd.isAgg146
 z212 := Tryd.sizeOf146
 v212 := Tryd.zeroValue146
 t213 := Tryd.underlying148
 a213 := Tryd.isAgg148
 z213 := Tryd.sizeOf148
 t232 := Tryd.underlying151
 a232 := Tryd.isAgg151
 z232 := Tryd.sizeOf151
 v232 := Tryd.zeroValue151
 t233 := Tryd.underlying152
 a233 := Tryd.isAgg152
 z233 := Tryd.sizeOf152
 v233 := Tryd.zeroValue152
 g17 := by kernel_rfl
 g18 := by kernel_rfl
 g19 := by kernel_rfl
 i0 := by kernel_rfl
 i2 := by kernel_rfl
 i3 := by kernel_rfl
 i4 := by kernel_rfl
 i5 := by kernel_rfl
 i9 := by kernel_rfl
 i20 := by kernel_rfl
 i37 := by kernel_rfl
 i46 := by kernel_rfl
 i51 := by kernel_rfl
 i53 := by kernel_rfl
 i171 := by kernel_rfl
 i173 := by kernel_rfl
 i212 := by kernel_rfl
 i232 := by kernel_rfl
 i233 := by kernel_rfl
 m17 := by kernel_rfl
 m18 := by kernel_rfl
 m19 := by kernel_rfl }
open Go.RowKit Go.Sort Go.Lib in
theorem Tryd.strconv_Itoa (n : Int) (h0 : -9223372036854775808 ≤ n) (h1 : n ≤ 9223372036854775807) (w : World) (htab : Lib.TabIs Tryd.prog w "internal/strconv.uint64pow10" .u64 Lib.pow10Tab) :
  Calls Tryd.prog 71 #[.int .i64 n] w fun e w' => e = .returned (.string ⟨(Lib.itoa n).toArray⟩) ∧ ∃ k os, w' = grow (w.drewN k) os := Any.strconv_Itoa Tryd.laysM171 n h0 h1 w htab
end Go.Proofs
namespace Go.Proofs.Ytekkhlepbacapaa
open Go Go.Eng
set_option linter.unusedSimpArgs false
set_option linter.unusedVariables false
set_option maxRecDepth 4000
def TabU (u : View) : Prop := ∃ T fr, u 3 = some (.cells ((Lib.pow10Tab).map (Value.int .u64)).toArray T fr)
theorem TabU.mono {u u' : View} (h : TabU u) (hu : VLe u u') : TabU u' := let ⟨T, fr, h1⟩ := h; ⟨T, fr, hu _ _ h1⟩
theorem gTab : Tryd.prog.globalNamed "internal/strconv.uint64pow10" = some 3 := by kernel_rfl
theorem tabIs_of {u : View} {w : World} (h : TabU u) (hA : Agree u w) : Lib.TabIs Tryd.prog w "internal/strconv.uint64pow10" .u64 Lib.pow10Tab := by
 obtain ⟨T, fr, h1⟩ := h
 have := hA _ _ h1
 unfold Lib.TabIs World.var?
 rw [gTab]
 simp [this]
abbrev dec (n : Nat) : Bs := Lib.decDigits n
theorem dec_small {n : Nat} (h : n < 10) : dec n = [UInt8.ofNat (48 + n)] := by unfold dec; rw [Lib.decDigits, dif_pos h]
theorem dec_big {n : Nat} (h : ¬ n < 10) : dec n = dec (n / 10) ++ [UInt8.ofNat (48 + n % 10)] := by unfold dec; rw [Lib.decDigits, dif_neg h]
theorem grow_below (w : World) (k : Nat) (os : Array Obj) : RowKit.Below w.heap.size w (Sort.grow (w.drewN k) os) := by
 refine ⟨rfl, rfl, rfl, by simp [Sort.grow, World.drewN], fun i hi => ?_⟩
 simp [Sort.grow, World.drewN, Array.getElem?_append, hi]
end Go.Proofs.Ytekkhlepbacapaa
namespace Go.Proofs.Ytekkhlepbacapaa
open Go Go.Eng
set_option linter.unusedSimpArgs false
set_option linter.unusedVariables false
set_option maxRecDepth 4000
def lcs (same : Nat → Nat → Bool) (n m : Nat) : Nat → Nat → Nat
 | 0, _ => 0
 | _, 0 => 0
 | p + 1, q + 1 => max (max (lcs same n m p (q + 1)) (lcs same n m (p + 1) q)) (if same (n - (p + 1)) (m - (q + 1)) = true then lcs same n m p q + 1 else 0)
termination_by p q => p + q
def best (same : Nat → Nat → Bool) (n m i k : Nat) : Nat := lcs same n m (n - i) (m - k)
section
variable {same : Nat → Nat → Bool} {n m : Nat}
theorem best_end {i k : Nat} (h : n ≤ i ∨ m ≤ k) : best same n m i k = 0 := by
 unfold best
 rcases h with h | h
 ·
  rw [show n - i = 0 by omega]; unfold lcs; rfl
 ·
  rw [show m - k = 0 by omega]
  cases n - i <;> simp [lcs]
theorem best_step {i k : Nat} (hi : i < n) (hk : k < m) : best same n m i k = max (max (best same n m (i + 1) k) (best same n m i (k + 1))) (if same i k = true then best same n m (i + 1) (k + 1) + 1 else 0) := by
 unfold best
 obtain ⟨p, hp⟩ : ∃ p, n - i = p + 1 := ⟨n - i - 1, by omega⟩
 obtain ⟨q, hq⟩ : ∃ q, m - k = q + 1 := ⟨m - k - 1, by omega⟩
 rw [show n - (i + 1) = p by omega, show m - (k + 1) = q by omega, hp, hq, lcs, show n - (p + 1) = i by omega, show m - (q + 1) = k by omega]
theorem best_downI (i k : Nat) : best same n m (i + 1) k ≤ best same n m i k := by
 by_cases h : i < n ∧ k < m
 ·
  rw [best_step h.1 h.2]; omega
 ·
  by_cases h2 : n ≤ i + 1 ∨ m ≤ k
  ·
   rw [best_end h2]; omega
  ·
   omega
theorem best_downK (i k : Nat) : best same n m i (k + 1) ≤ best same n m i k := by
 by_cases h : i < n ∧ k < m
 ·
  rw [best_step h.1 h.2]; omega
 ·
  by_cases h2 : n ≤ i ∨ m ≤ k + 1
  ·
   rw [best_end h2]; omega
  ·
   omega
theorem best_antiK (i : Nat) {k k' : Nat} (h : k ≤ k') : best same n m i k' ≤ best same n m i k := by
 induction k' with
 | zero => rw [show k = 0 by omega]; exact Nat.le_refl _
 | succ j ih =>
  by_cases e : k = j + 1
  ·
   rw [e]; exact Nat.le_refl _
  ·
   exact Nat.le_trans (best_downK i j) (ih (by omega))
theorem best_antiI (k : Nat) {i i' : Nat} (h : i ≤ i') : best same n m i' k ≤ best same n m i k := by
 induction i' with
 | zero => rw [show i = 0 by omega]; exact Nat.le_refl _
 | succ j ih =>
  by_cases e : i = j + 1
  ·
   rw [e]; exact Nat.le_refl _
  ·
   exact Nat.le_trans (best_downI j k) (ih (by omega))
theorem best_one (s : Nat) : ∀ i k, (n - i) + (m - k) ≤ s → best same n m i k ≤ best same n m i (k + 1) + 1 ∧ best same n m i k ≤ best same n m (i + 1) k + 1 := by
 induction s with
 | zero =>
  intro i k h
  rw [best_end (i := i) (k := k) (by omega)]
  omega
 | succ s ih =>
  intro i k h
  by_cases hh : i < n ∧ k < m
  ·
   obtain ⟨a1, a2⟩ := ih (i + 1) k (by omega)
   obtain ⟨b1, b2⟩ := ih i (k + 1) (by omega)
   have c1 := best_downK (same := same) (n := n) (m := m) (i + 1) k
   have c2 := best_downI (same := same) (n := n) (m := m) i (k + 1)
   rw [best_step hh.1 hh.2]
   refine ⟨?_, ?_⟩
   ·
    split <;> omega
   ·
    split <;> omega
  ·
   rw [best_end (i := i) (k := k) (by omega)]
   omega
theorem best_oneK (i k : Nat) : best same n m i k ≤ best same n m i (k + 1) + 1 := (best_one _ i k (Nat.le_refl _)).1
theorem best_oneI (i k : Nat) : best same n m i k ≤ best same n m (i + 1) k + 1 := (best_one _ i k (Nat.le_refl _)).2
theorem best_diag (i k : Nat) : best same n m i k ≤ best same n m (i + 1) (k + 1) + 1 := by
 by_cases h : i < n ∧ k < m
 ·
  have h1 := best_oneK (same := same) (n := n) (m := m) (i + 1) k
  have h2 := best_oneI (same := same) (n := n) (m := m) i (k + 1)
  rw [best_step h.1 h.2]
  split <;> omega
 ·
  rw [best_end (i := i) (k := k) (by omega)]; omega
theorem best_same {i k : Nat} (hi : i < n) (hk : k < m) (h : same i k = true) : best same n m i k = best same n m (i + 1) (k + 1) + 1 := by
 have h1 := best_diag (same := same) (n := n) (m := m) i k
 have h2 := best_step (same := same) hi hk
 rw [if_pos h] at h2
 omega
theorem best_ge {i k x y : Nat} (hi : i ≤ x) (hk : k ≤ y) (hx : x < n) (hy : y < m) (h : same x y = true) : best same n m (x + 1) (y + 1) + 1 ≤ best same n m i k := by
 rw [← best_same hx hy h]
 exact Nat.le_trans (best_antiI y hi) (best_antiK i hk)
end
def firstY (same : Nat → Nat → Bool) (m x : Nat) (k : Nat) : Option Nat := if h : k < m then (if same x k = true then some k else firstY same m x (k + 1)) else none
termination_by m - k
theorem firstY_spec {same : Nat → Nat → Bool} {m x k y : Nat} (h : firstY same m x k = some y) : k ≤ y ∧ y < m ∧ same x y = true ∧ ∀ z, k ≤ z → z < y → same x z = false := by
 unfold firstY at h
 split at h
 ·
  rename_i hk
  split at h
  ·
   rename_i hs; cases h; exact ⟨Nat.le_refl _, hk, hs, fun z h1 h2 => by omega⟩
  ·
   rename_i hs
   obtain ⟨h1, h2, h3, h4⟩ := firstY_spec h
   refine ⟨by omega, h2, h3, fun z hz1 hz2 => ?_⟩
   by_cases e : z = k
   ·
    subst e; simpa using hs
   ·
    exact h4 z (by omega) hz2
 ·
  cases h
termination_by m - k
theorem firstY_none {same : Nat → Nat → Bool} {m x k : Nat} (h : firstY same m x k = none) : ∀ z, k ≤ z → z < m → same x z = false := by
 unfold firstY at h
 split at h
 ·
  rename_i hk
  split at h
  ·
   cases h
  ·
   rename_i hs
   intro z h1 h2
   by_cases e : z = k
   ·
    subst e; simpa using hs
   ·
    exact firstY_none h z (by omega) h2
 ·
  intro z h1 h2; omega
termination_by m - k
def pickY (same : Nat → Nat → Bool) (n m x k left : Nat) : Option Nat :=
 if left = 0 then none else match firstY same m x k with
 | none => none
 | some y => if 1 + best same n m (x + 1) (y + 1) = left then some y else none
def rows (same : Nat → Nat → Bool) (n m : Nat) : Nat → Nat → Nat → Nat → List (Option Nat)
 | 0, _, _, _ => []
 | c + 1, x, k, left => match pickY same n m x k left with
  | none => none :: rows same n m c (x + 1) k left
  | some y => some y :: rows same n m c (x + 1) (y + 1) (left - 1)
theorem rows_len (same : Nat → Nat → Bool) (n m : Nat) : ∀ c x k left, (rows same n m c x k left).length = c
 | 0, _, _, _ => rfl
 | c + 1, x, k, left => by
  simp only [rows]
  split <;> simp [rows_len same n m c]
def mat (same : Nat → Nat → Bool) (n m : Nat) : List (Option Nat) := rows same n m n 0 0 (best same n m 0 0)
section
variable {same : Nat → Nat → Bool} {n m : Nat}
theorem pickY_spec {x k left y : Nat} (h : pickY same n m x k left = some y) : left ≠ 0 ∧ k ≤ y ∧ y < m ∧ same x y = true ∧ best same n m (x + 1) (y + 1) + 1 = left := by
 unfold pickY at h
 split at h
 ·
  cases h
 ·
  rename_i h0
  split at h
  ·
   cases h
  ·
   rename_i z hz
   split at h
   ·
    rename_i he
    cases h
    obtain ⟨h1, h2, h3, _⟩ := firstY_spec hz
    exact ⟨h0, h1, h2, h3, by omega⟩
   ·
    cases h
theorem pickY_none {x k left : Nat} (hx : x < n) (hl : best same n m x k ≤ left) (h : pickY same n m x k left = none) : left = 0 ∨ ∀ y, k ≤ y → y < m → same x y = true → best same n m (x + 1) (y + 1) + 1 ≠ left := by
 unfold pickY at h
 split at h
 ·
  rename_i h0; exact .inl h0
 ·
  rename_i h0
  refine .inr fun y h1 h2 h3 => ?_
  split at h
  ·
   rename_i hf
   have := firstY_none hf y h1 h2
   rw [this] at h3; cases h3
  ·
   rename_i z hz
   split at h
   ·
    cases h
   ·
    rename_i he
    obtain ⟨z1, z2, z3, z4⟩ := firstY_spec hz
    have hzy : z ≤ y := by
     cases Nat.lt_or_ge y z with
     | inl hlt => have := z4 y h1 hlt; rw [this] at h3; cases h3
     | inr hge => exact hge
    have g1 := best_antiK (same := same) (n := n) (m := m) (x + 1) (show z + 1 ≤ y + 1 by omega)
    have g2 := best_ge (same := same) (n := n) (m := m) (i := x) (k := k) (Nat.le_refl x) z1 hx z2 z3
    omega
theorem best_skip {x k : Nat} (hx : x < n) (h : pickY same n m x k (best same n m x k) = none) : best same n m (x + 1) k = best same n m x k := by
 rcases pickY_none hx (Nat.le_refl _) h with h0 | hn
 ·
  have := best_downI (same := same) (n := n) (m := m) x k; omega
 ·
  -- the first column that has it, by going up
  have key : ∀ c k', k' + c = m → k ≤ k' → best same n m x k' = best same n m x k → best same n m (x + 1) k = best same n m x k := by
   intro c
   induction c with
   | zero =>
    intro k' hk' hkk he
    rw [best_end (i := x) (k := k') (.inr (by omega))] at he
    have := best_downI (same := same) (n := n) (m := m) x k
    omega
   | succ c ih =>
    intro k' hk' hkk he
    have hs := best_step (same := same) hx (show k' < m by omega)
    have h2 := best_antiK (same := same) (n := n) (m := m) (x + 1) hkk
    have h3 := best_downI (same := same) (n := n) (m := m) x k
    have h4 := best_antiK (same := same) (n := n) (m := m) x hkk
    by_cases hb : same x k' = true
    ·
     have := hn k' hkk (by omega) hb
     rw [if_pos hb] at hs
     by_cases e : best same n m x (k' + 1) = best same n m x k
     ·
      exact ih (k' + 1) (by omega) (by omega) e
     ·
      have := best_downK (same := same) (n := n) (m := m) x k'; omega
    ·
     rw [if_neg hb] at hs
     by_cases e : best same n m x (k' + 1) = best same n m x k
     ·
      exact ih (k' + 1) (by omega) (by omega) e
     ·
      have := best_downK (same := same) (n := n) (m := m) x k'; omega
  by_cases hkm : k ≤ m
  ·
   exact key (m - k) k (by omega) (Nat.le_refl _) rfl
  ·
   rw [best_end (i := x + 1) (k := k) (.inr (by omega)), best_end (i := x) (k := k) (.inr (by omega))]
theorem best_take {x k y : Nat} (h : pickY same n m x k (best same n m x k) = some y) : best same n m (x + 1) (y + 1) = best same n m x k - 1 := by
 have := pickY_spec h
 omega
end
end Go.Proofs.Ytekkhlepbacapaa
namespace Go.Proofs.Ytekkhlepbacapaa
open Go Go.Eng
set_option linter.unusedSimpArgs false
set_option linter.unusedVariables false
set_option maxRecDepth 4000
structure Chg where
 kind : Int
 src : Int
 dst : Int
def goneL (i x : Nat) : List Chg := (List.range' i (x - i)).map fun (j : Nat) => ⟨2, (j : Int), -1⟩
def newL (k y : Nat) : List Chg := (List.range' k (y - k)).map fun (j : Nat) => ⟨3, -1, (j : Int)⟩
def sameC (x y : Nat) : Chg := ⟨1, (x : Int), (y : Int)⟩
theorem goneL_nil {i x : Nat} (h : x ≤ i) : goneL i x = [] := by unfold goneL; rw [show x - i = 0 by omega]; rfl
theorem newL_nil {i x : Nat} (h : x ≤ i) : newL i x = [] := by unfold newL; rw [show x - i = 0 by omega]; rfl
theorem newL_cons {i x : Nat} (h : i < x) : newL i x = ⟨3, -1, (i : Int)⟩ :: newL (i + 1) x := by
 unfold newL; rw [show x - i = (x - (i + 1)) + 1 by omega, List.range'_succ]; rfl
theorem goneL_snoc {i x : Nat} (h : i ≤ x) : goneL i (x + 1) = goneL i x ++ [⟨2, (x : Int), -1⟩] := by
 unfold goneL; rw [show x + 1 - i = (x - i) + 1 by omega, List.range'_concat, List.map_append]
 simp; omega
theorem newL_snoc {i x : Nat} (h : i ≤ x) : newL i (x + 1) = newL i x ++ [⟨3, -1, (x : Int)⟩] := by
 unfold newL; rw [show x + 1 - i = (x - i) + 1 by omega, List.range'_concat, List.map_append]
 simp; omega
theorem goneL_len (i x : Nat) : (goneL i x).length = x - i := by simp [goneL]
theorem newL_len (i x : Nat) : (newL i x).length = x - i := by simp [newL]
def stepsOf (n m : Nat) : List (Option Nat) → Nat → Nat → Nat → List Chg
 | [], _, i, k => goneL i n ++ newL k m
 | none :: w, x, i, k => stepsOf n m w (x + 1) i k
 | some y :: w, x, i, k => goneL i x ++ newL k y ++ sameC x y :: stepsOf n m w (x + 1) (x + 1) (y + 1)
def textSteps (same : Nat → Nat → Bool) (n m : Nat) : List Chg := stepsOf n m (mat same n m) 0 0 0
def refY (same : Nat → Nat → Bool) (n m x want : Nat) (k : Nat) : Option Nat :=
 if h : k < m then (if same x k = true ∧ best same n m (x + 1) (k + 1) + 1 = want then some k else refY same n m x want (k + 1)) else none
termination_by m - k
def nxt (same : Nat → Nat → Bool) (n m : Nat) : Nat → Nat → Nat → Nat → Option (Nat × Nat)
 | 0, _, _, _ => none
 | c + 1, x, k, want => match refY same n m x want k with
  | some y => some (x, y)
  | none => nxt same n m c (x + 1) k want
section
variable {same : Nat → Nat → Bool} {n m : Nat}
theorem refY_some {x want k y : Nat} (h : refY same n m x want k = some y) : k ≤ y ∧ y < m ∧ same x y = true ∧ best same n m (x + 1) (y + 1) + 1 = want ∧ ∀ z, k ≤ z → z < y → ¬ (same x z = true ∧ best same n m (x + 1) (z + 1) + 1 = want) := by
 unfold refY at h
 split at h
 ·
  rename_i hk
  split at h
  ·
   rename_i hs; cases h; exact ⟨Nat.le_refl _, hk, hs.1, hs.2, fun z h1 h2 => by omega⟩
  ·
   rename_i hs
   obtain ⟨h1, h2, h3, h4, h5⟩ := refY_some h
   refine ⟨by omega, h2, h3, h4, fun z hz1 hz2 => ?_⟩
   by_cases e : z = k
   ·
    subst e; exact hs
   ·
    exact h5 z (by omega) hz2
 ·
  cases h
termination_by m - k
theorem refY_none {x want k : Nat} (h : refY same n m x want k = none) : ∀ z, k ≤ z → z < m → ¬ (same x z = true ∧ best same n m (x + 1) (z + 1) + 1 = want) := by
 unfold refY at h
 split at h
 ·
  rename_i hk
  split at h
  ·
   cases h
  ·
   rename_i hs
   intro z h1 h2
   by_cases e : z = k
   ·
    subst e; exact hs
   ·
    exact refY_none h z (by omega) h2
 ·
  intro z h1 h2; omega
termination_by m - k
theorem refY_pick {x k want : Nat} (hx : x < n) (hl : best same n m x k ≤ want) (h0 : want ≠ 0) : refY same n m x want k = pickY same n m x k want := by
 cases hp : pickY same n m x k want with
 | none =>
  rcases pickY_none hx hl hp with h | h
  ·
   exact absurd h h0
  ·
   cases hr : refY same n m x want k with
   | none => rfl
   | some y =>
    obtain ⟨r1, r2, r3, r4, _⟩ := refY_some hr
    exact absurd r4 (h y r1 r2 r3)
 | some y =>
  unfold pickY at hp
  rw [if_neg h0] at hp
  split at hp
  ·
   cases hp
  ·
   rename_i z hz
   split at hp
   ·
    rename_i he
    cases hp
    obtain ⟨f1, f2, f3, f4⟩ := firstY_spec hz
    cases hr : refY same n m x want k with
    | none => exact absurd ⟨f3, by omega⟩ (refY_none hr y f1 f2)
    | some z =>
     obtain ⟨r1, r2, r3, r4, r5⟩ := refY_some hr
     have h1 : ¬ z < y := fun h => by have := f4 z r1 h; rw [this] at r3; cases r3
     have h2 : ¬ y < z := fun h => r5 y f1 h ⟨f3, by omega⟩
     rw [show z = y by omega]
   ·
    cases hp
theorem steps_none {c : Nat} : ∀ {x k i : Nat}, x + c = n → nxt same n m c x k (best same n m x k) = none ∨ best same n m x k = 0 → stepsOf n m (rows same n m c x k (best same n m x k)) x i k = goneL i n ++ newL k m := by
 induction c with
 | zero => intro x k i hc _; rfl
 | succ c ih =>
  intro x k i hc h
  have hx : x < n := by omega
  have hp : pickY same n m x k (best same n m x k) = none := by
   rcases h with h | h
   ·
    by_cases h0 : best same n m x k = 0
    ·
     unfold pickY; rw [if_pos h0]
    ·
     rw [← refY_pick hx (Nat.le_refl _) h0]
     simp only [nxt] at h
     split at h
     ·
      cases h
     ·
      assumption
   ·
    unfold pickY; rw [if_pos h]
  have hs := best_skip hx hp
  simp only [rows, hp, stepsOf]
  rw [← hs]
  refine ih (by omega) ?_
  rw [hs]
  rcases h with h | h
  ·
   by_cases h0 : best same n m x k = 0
   ·
    exact .inr h0
   ·
    refine .inl ?_
    simp only [nxt, refY_pick hx (Nat.le_refl _) h0, hp] at h
    exact h
  ·
   exact .inr h
theorem steps_some {c : Nat} : ∀ {x k i x' y : Nat}, x + c = n → best same n m x k ≠ 0 → nxt same n m c x k (best same n m x k) = some (x', y) →
  x ≤ x' ∧ x' < n ∧ k ≤ y ∧ y < m ∧ stepsOf n m (rows same n m c x k (best same n m x k)) x i k = goneL i x' ++ newL k y ++ sameC x' y :: stepsOf n m (rows same n m (n - (x' + 1)) (x' + 1) (y + 1) (best same n m (x' + 1) (y + 1))) (x' + 1) (x' + 1) (y + 1) := by
 induction c with
 | zero => intro x k i x' y hc _ h; cases h
 | succ c ih =>
  intro x k i x' y hc h0 h
  have hx : x < n := by omega
  simp only [nxt, refY_pick hx (Nat.le_refl _) h0] at h
  cases hp : pickY same n m x k (best same n m x k) with
  | none =>
   rw [hp] at h
   have hs := best_skip hx hp
   simp only [rows, hp, stepsOf]
   rw [← hs] at h ⊢
   obtain ⟨h1, h2⟩ := ih (i := i) (by omega) (by rw [hs]; exact h0) h
   exact ⟨by omega, h2⟩
  | some z =>
   rw [hp] at h
   cases h
   obtain ⟨p1, p2, p3, p4, p5⟩ := pickY_spec hp
   refine ⟨Nat.le_refl _, hx, p2, p3, ?_⟩
   simp only [rows, hp, stepsOf]
   rw [show best same n m x k - 1 = best same n m (x + 1) (y + 1) by omega, show n - (x + 1) = c by omega]
theorem rows_prefix {p : Nat} (hn : p ≤ n) (hm : p ≤ m) (h : ∀ t, t < p → same t t = true) : ∀ c t, t + c = p → rows same n m (n - t) t t (best same n m t t) = (List.range' t c).map some ++ rows same n m (n - p) p p (best same n m p p) := by
 intro c
 induction c with
 | zero => intro t ht; rw [show t = p by omega]; rfl
 | succ c ih =>
  intro t ht
  have hs := h t (by omega)
  have hb := best_same (same := same) (n := n) (m := m) (i := t) (k := t) (by omega) (by omega) hs
  have hf : firstY same m t t = some t := by unfold firstY; rw [dif_pos (by omega : t < m), if_pos hs]
  have hp : pickY same n m t t (best same n m t t) = some t := by
   unfold pickY
   rw [if_neg (by omega), hf]
   simp only
   rw [if_pos (by omega)]
  rw [show n - t = (n - (t + 1)) + 1 by omega]
  simp only [rows, hp]
  rw [show best same n m t t - 1 = best same n m (t + 1) (t + 1) by omega, ih (t + 1) (by omega), List.range'_succ]
  rfl
theorem mat_prefix {p : Nat} (hn : p ≤ n) (hm : p ≤ m) (h : ∀ t, t < p → same t t = true) : mat same n m = (List.range p).map some ++ rows same n m (n - p) p p (best same n m p p) := by
 have := rows_prefix hn hm h p 0 (by omega)
 rw [Nat.sub_zero] at this
 rw [List.range_eq_range']
 exact this
end
theorem best_shift (same : Nat → Nat → Bool) (n m p : Nat) (s : Nat) : ∀ i k, (n - i) + (m - k) ≤ s → best (fun a b => same (a + p) (b + p)) n m i k = best same (n + p) (m + p) (i + p) (k + p) := by
 induction s with
 | zero =>
  intro i k h
  rw [best_end (by omega), best_end (by omega)]
 | succ s ih =>
  intro i k h
  by_cases hh : i < n ∧ k < m
  ·
   rw [best_step hh.1 hh.2, best_step (i := i + p) (k := k + p) (by omega) (by omega), ih (i + 1) k (by omega), ih i (k + 1) (by omega), ih (i + 1) (k + 1) (by omega)]
   rw [show i + 1 + p = i + p + 1 by omega, show k + 1 + p = k + p + 1 by omega]
  ·
   rw [best_end (by omega), best_end (by omega)]
theorem firstY_shift (same : Nat → Nat → Bool) (m p x : Nat) (s : Nat) : ∀ k, m - k ≤ s → (firstY (fun a b => same (a + p) (b + p)) m x k).map (· + p) = firstY same (m + p) (x + p) (k + p) := by
 induction s with
 | zero =>
  intro k h
  have e1 : firstY (fun a b => same (a + p) (b + p)) m x k = none := by unfold firstY; rw [dif_neg (by omega)]
  have e2 : firstY same (m + p) (x + p) (k + p) = none := by unfold firstY; rw [dif_neg (by omega)]
  rw [e1, e2]; rfl
 | succ s ih =>
  intro k h
  by_cases hk : k < m
  ·
   have e1 : firstY (fun a b => same (a + p) (b + p)) m x k = if same (x + p) (k + p) = true then some k else firstY (fun a b => same (a + p) (b + p)) m x (k + 1) := by
    conv => lhs; unfold firstY
    rw [dif_pos hk]
   have e2 : firstY same (m + p) (x + p) (k + p) = if same (x + p) (k + p) = true then some (k + p) else firstY same (m + p) (x + p) (k + p + 1) := by
    conv => lhs; unfold firstY
    rw [dif_pos (by omega)]
   rw [e1, e2]
   split
   ·
    rfl
   ·
    rw [ih (k + 1) (by omega), show k + 1 + p = k + p + 1 by omega]
  ·
   have e1 : firstY (fun a b => same (a + p) (b + p)) m x k = none := by unfold firstY; rw [dif_neg (by omega)]
   have e2 : firstY same (m + p) (x + p) (k + p) = none := by unfold firstY; rw [dif_neg (by omega)]
   rw [e1, e2]; rfl
theorem pickY_shift (same : Nat → Nat → Bool) (n m p x k left : Nat) : (pickY (fun a b => same (a + p) (b + p)) n m x k left).map (· + p) = pickY same (n + p) (m + p) (x + p) (k + p) left := by
 unfold pickY
 split
 ·
  rfl
 ·
  have h := firstY_shift same m p x _ k (Nat.le_refl _)
  rw [← h]
  cases firstY (fun a b => same (a + p) (b + p)) m x k with
  | none => rfl
  | some y =>
   simp only [Option.map_some]
   rw [best_shift same n m p _ (x + 1) (y + 1) (Nat.le_refl _), show x + 1 + p = x + p + 1 by omega, show y + 1 + p = y + p + 1 by omega]
   split <;> rfl
theorem rows_shift (same : Nat → Nat → Bool) (n m p : Nat) : ∀ c x k left, (rows (fun a b => same (a + p) (b + p)) n m c x k left).map (·.map (· + p)) = rows same (n + p) (m + p) c (x + p) (k + p) left := by
 intro c
 induction c with
 | zero => intros; rfl
 | succ c ih =>
  intro x k left
  have h := pickY_shift same n m p x k left
  simp only [rows]
  rw [← h]
  cases pickY (fun a b => same (a + p) (b + p)) n m x k left with
  | none => simp only [Option.map_none, List.map_cons]; rw [ih, show x + 1 + p = x + p + 1 by omega]
  | some y => simp only [Option.map_some, List.map_cons]; rw [ih, show x + 1 + p = x + p + 1 by omega, show y + 1 + p = y + p + 1 by omega]
theorem mat_rest (same : Nat → Nat → Bool) (n m p : Nat) (hn : p ≤ n) (hm : p ≤ m) (h : ∀ t, t < p → same t t = true) :
  mat same n m = (List.range p).map some ++ (mat (fun a b => same (a + p) (b + p)) (n - p) (m - p)).map (·.map (· + p)) := by
 rw [mat_prefix hn hm h]
 unfold mat
 rw [rows_shift, best_shift same (n - p) (m - p) p _ 0 0 (Nat.le_refl _), show n - p + p = n by omega, show m - p + p = m by omega, Nat.zero_add]
end Go.Proofs.Ytekkhlepbacapaa
namespace Go.Proofs.Ytekkhlepbacapaa
open Go Go.Eng
set_option linter.unusedSimpArgs false
set_option linter.unusedVariables false
set_option maxRecDepth 4000
def takeC (a b : List Bs) (c : Chg) : List Bs :=
 if c.kind = 1 then (if 0 ≤ c.src then (a[c.src.toNat]?).toList else [])
 else if c.kind = 3 ∨ c.kind = 4 then (if 0 ≤ c.dst then (b[c.dst.toNat]?).toList else [])
 else []
def patchL (a b : List Bs) (l : List Chg) : List Bs := l.flatMap (takeC a b)
def lenC (c : Chg) : Nat := if c.kind = 2 ∨ c.kind = 3 then 1 else if c.kind = 4 then 2 else 0
def lenL (l : List Chg) : Nat := (l.map lenC).sum
def sames (l : List Chg) : Nat := l.countP fun c => decide (c.kind = 1)
def news (l : List Chg) : Nat := l.countP fun c => decide (c.kind = 3)
def cnt (w : List (Option Nat)) : Nat := w.countP Option.isSome
def Valid (same : Nat → Nat → Bool) (m : Nat) : List (Option Nat) → Nat → Nat → Prop
 | [], _, _ => True
 | none :: w, x, k => Valid same m w (x + 1) k
 | some y :: w, x, k => k ≤ y ∧ y < m ∧ same x y = true ∧ Valid same m w (x + 1) (y + 1)
theorem rows_valid (same : Nat → Nat → Bool) (n m : Nat) : ∀ c x k left, Valid same m (rows same n m c x k left) x k
 | 0, _, _, _ => trivial
 | c + 1, x, k, left => by
  simp only [rows]
  split
  ·
   exact rows_valid same n m c (x + 1) k left
  ·
   rename_i y hy
   obtain ⟨_, h1, h2, h3, _⟩ := pickY_spec hy
   exact ⟨h1, h2, h3, rows_valid same n m c (x + 1) (y + 1) (left - 1)⟩
theorem rows_cnt (same : Nat → Nat → Bool) (n m : Nat) : ∀ c x k, x + c = n → cnt (rows same n m c x k (best same n m x k)) = best same n m x k
 | 0, x, k, h => by rw [best_end (.inl (by omega))]; rfl
 | c + 1, x, k, h => by
  simp only [rows]
  split
  ·
   rename_i hp
   have hs := best_skip (by omega) hp
   have ih := rows_cnt same n m c (x + 1) k (by omega)
   rw [hs] at ih
   simp only [cnt, List.countP_cons, Option.isSome_none] at ih ⊢
   rw [ih]; rfl
  ·
   rename_i y hp
   have hs := best_take hp
   obtain ⟨h0, _⟩ := pickY_spec hp
   have ih := rows_cnt same n m c (x + 1) (y + 1) (by omega)
   rw [hs] at ih
   simp only [cnt, List.countP_cons, Option.isSome_some] at ih ⊢
   rw [ih]; simp; omega
theorem patch_gone (a b : List Bs) (i x : Nat) : patchL a b (goneL i x) = [] := by
 unfold patchL goneL
 rw [List.flatMap_map]
 simp [takeC]
theorem patch_new (a b : List Bs) (y : Nat) (hy : y ≤ b.length) : ∀ c k, k + c = y → patchL a b (newL k y) = (b.drop k).take c := by
 intro c
 induction c with
 | zero => intro k h; rw [newL_nil (by omega)]; simp [patchL]
 | succ c ih =>
  intro k h
  rw [newL_cons (by omega)]
  have e : patchL a b (⟨3, -1, (k : Int)⟩ :: newL (k + 1) y) = takeC a b ⟨3, -1, (k : Int)⟩ ++ patchL a b (newL (k + 1) y) := by simp [patchL]
  have hk : k < b.length := by omega
  rw [e, ih (k + 1) (by omega), List.drop_eq_getElem_cons hk, List.take_succ_cons]
  simp [takeC, hk]
theorem patch_steps (a b : List Bs) : ∀ (w : List (Option Nat)) (x i k : Nat), Valid (fun p q => decide (a[p]? = b[q]?)) b.length w x k → k ≤ b.length → patchL a b (stepsOf a.length b.length w x i k) = b.drop k
 | [], x, i, k, _, hk => by
  rw [stepsOf]
  have e : ∀ l l', patchL a b (l ++ l') = patchL a b l ++ patchL a b l' := by intro l l'; simp [patchL]
  rw [e, patch_gone, patch_new a b b.length (Nat.le_refl _) (b.length - k) k (by omega), List.nil_append, List.take_of_length_le (by simp)]
 | none :: w, x, i, k, h, hk => patch_steps a b w (x + 1) i k h hk
 | some y :: w, x, i, k, ⟨h1, h2, h3, h4⟩, hk => by
  have e : ∀ l l', patchL a b (l ++ l') = patchL a b l ++ patchL a b l' := by intro l l'; simp [patchL]
  have e2 : ∀ c l, patchL a b (c :: l) = takeC a b c ++ patchL a b l := by intro c l; simp [patchL]
  have h3 := of_decide_eq_true h3
  rw [stepsOf, e, e, e2, patch_gone, patch_new a b y (by omega) (y - k) k (by omega), patch_steps a b w (x + 1) (x + 1) (y + 1) h4 (by omega), List.nil_append]
  have ht : takeC a b (sameC x y) = [b[y]] := by simp [takeC, sameC, h3, h2]
  rw [ht, List.cons_append, List.nil_append, ← List.drop_eq_getElem_cons h2]
  have : b.drop y = (b.drop k).drop (y - k) := by rw [List.drop_drop]; congr 1; omega
  rw [this, List.take_append_drop]
theorem sum_ones (l : List Nat) : (l.map fun _ => 1).sum = l.length := by
 induction l with
 | nil => rfl
 | cons x l ih => simp only [List.map_cons, List.sum_cons, List.length_cons, ih]; omega
theorem steps_counts (same : Nat → Nat → Bool) (n m : Nat) : ∀ (w : List (Option Nat)) (x i k : Nat), Valid same m w x k → x + w.length = n → i ≤ x → k ≤ m →
  sames (stepsOf n m w x i k) = cnt w ∧ lenL (stepsOf n m w x i k) + 2 * cnt w = (n - i) + (m - k) ∧ news (stepsOf n m w x i k) + cnt w = m - k ∧ (stepsOf n m w x i k).length + cnt w = (n - i) + (m - k)
 | [], x, i, k, _, hx, hi, hk => by
  have hg : ∀ i x, lenL (goneL i x) = x - i := by intro i x; unfold lenL goneL; rw [List.map_map]; have : (lenC ∘ fun (j : Nat) => (⟨2, (j : Int), -1⟩ : Chg)) = fun _ => 1 := rfl; rw [this, sum_ones]; simp
  have hn : ∀ i x, lenL (newL i x) = x - i := by intro i x; unfold lenL newL; rw [List.map_map]; have : (lenC ∘ fun (j : Nat) => (⟨3, -1, (j : Int)⟩ : Chg)) = fun _ => 1 := rfl; rw [this, sum_ones]; simp
  have hl : ∀ l l', lenL (l ++ l') = lenL l + lenL l' := by intro l l'; simp [lenL]
  rw [stepsOf, hl, hg, hn]
  refine ⟨?_, ?_, ?_, ?_⟩
  ·
   simp [sames, goneL, newL, cnt, List.countP_map]
  ·
   simp [cnt]
  ·
   simp [news, goneL, newL, cnt, List.countP_append, List.countP_map, Function.comp_def]
  ·
   simp [goneL_len, newL_len, cnt]
 | none :: w, x, i, k, h, hx, hi, hk => by
  have := steps_counts same n m w (x + 1) i k h (by simp at hx; omega) (by omega) hk
  rw [stepsOf]
  simpa [cnt] using this
 | some y :: w, x, i, k, ⟨h1, h2, h3, h4⟩, hx, hi, hk => by
  have hw : x + 1 + w.length = n := by simp at hx; omega
  obtain ⟨a1, a2, a3, a4⟩ := steps_counts same n m w (x + 1) (x + 1) (y + 1) h4 hw (Nat.le_refl _) (by omega)
  have hg : ∀ i x, lenL (goneL i x) = x - i := by intro i x; unfold lenL goneL; rw [List.map_map]; have : (lenC ∘ fun (j : Nat) => (⟨2, (j : Int), -1⟩ : Chg)) = fun _ => 1 := rfl; rw [this, sum_ones]; simp
  have hn : ∀ i x, lenL (newL i x) = x - i := by intro i x; unfold lenL newL; rw [List.map_map]; have : (lenC ∘ fun (j : Nat) => (⟨3, -1, (j : Int)⟩ : Chg)) = fun _ => 1 := rfl; rw [this, sum_ones]; simp
  have hl : ∀ l l', lenL (l ++ l') = lenL l + lenL l' := by intro l l'; simp [lenL]
  have hc : ∀ c l, lenL (c :: l) = lenC c + lenL l := by intro c l; simp [lenL]
  have e0 : lenC (sameC x y) = 0 := rfl
  have ec : cnt (some y :: w) = cnt w + 1 := by simp [cnt]
  rw [stepsOf, ec]
  refine ⟨?_, ?_, ?_, ?_⟩
  ·
   have s1 : sames (goneL i x) = 0 := by simp [sames, goneL, List.countP_map]
   have s2 : sames (newL k y) = 0 := by simp [sames, newL, List.countP_map]
   have s3 : ∀ l l', sames (l ++ l') = sames l + sames l' := by intro l l'; simp [sames]
   have s4 : ∀ l, sames (sameC x y :: l) = sames l + 1 := by intro l; simp [sames, sameC]
   rw [s3, s3, s4, s1, s2, a1]; omega
  ·
   rw [hl, hl, hc, hg, hn, e0]; omega
  ·
   have s1 : news (goneL i x) = 0 := by simp [news, goneL, List.countP_map]
   have s2 : news (newL k y) = y - k := by simp [news, newL, List.countP_map, Function.comp_def]
   have s3 : ∀ l l', news (l ++ l') = news l + news l' := by intro l l'; simp [news]
   have s4 : ∀ l, news (sameC x y :: l) = news l := by intro l; simp [news, sameC]
   rw [s3, s3, s4, s1, s2]; omega
  ·
   simp only [List.length_append, List.length_cons, goneL_len, newL_len]; omega
theorem textSteps_counts (same : Nat → Nat → Bool) (n m : Nat) : sames (textSteps same n m) = best same n m 0 0 ∧ lenL (textSteps same n m) + 2 * best same n m 0 0 = n + m ∧ news (textSteps same n m) + best same n m 0 0 = m ∧ (textSteps same n m).length + best same n m 0 0 = n + m := by
 have hv := rows_valid same n m n 0 0 (best same n m 0 0)
 have hc := rows_cnt same n m n 0 0 (by omega)
 have h := steps_counts same n m (mat same n m) 0 0 0 hv (by simp [mat, rows_len]) (Nat.le_refl _) (Nat.zero_le _)
 unfold mat at h
 rw [hc] at h
 simpa [textSteps, mat] using h
theorem best_flip (same : Nat → Nat → Bool) (n m : Nat) (s : Nat) : ∀ i k, (n - i) + (m - k) ≤ s → best same n m i k = best (fun a b => same b a) m n k i := by
 induction s with
 | zero => intro i k h; rw [best_end (by omega), best_end (by omega)]
 | succ s ih =>
  intro i k h
  by_cases hh : i < n ∧ k < m
  ·
   rw [best_step hh.1 hh.2, best_step hh.2 hh.1, ih (i + 1) k (by omega), ih i (k + 1) (by omega), ih (i + 1) (k + 1) (by omega)]
   rw [Nat.max_comm (best (fun a b => same b a) m n k (i + 1))]
  ·
   rw [best_end (by omega), best_end (by omega)]
theorem best_leM (same : Nat → Nat → Bool) (n m : Nat) (s : Nat) : ∀ i k, m - k ≤ s → best same n m i k ≤ m - k := by
 induction s with
 | zero => intro i k h; rw [best_end (by omega)]; omega
 | succ s ih =>
  intro i k h
  by_cases hk : k < m
  ·
   have h1 := best_oneK (same := same) (n := n) (m := m) i k
   have h2 := ih i (k + 1) (by omega)
   omega
  ·
   rw [best_end (by omega)]; omega
theorem sub_cases {x y : Bs} {xs ys : List Bs} (h : (y :: ys).Sublist (x :: xs)) : (y :: ys).Sublist xs ∨ x = y ∧ ys.Sublist xs := by
 cases h with
 | cons _ h => exact .inl h
 | cons_cons _ h => exact .inr ⟨rfl, h⟩
theorem best_sub (a b : List Bs) : ∀ (c i k : Nat), i + c = a.length → k ≤ b.length → (b.drop k).Sublist (a.drop i) → b.length - k ≤ best (fun p q => decide (a[p]? = b[q]?)) a.length b.length i k := by
 intro c
 induction c with
 | zero =>
  intro i k hi hk h
  rw [List.drop_eq_nil_of_le (by omega : a.length ≤ i)] at h
  have := h.length_le
  simp at this
  omega
 | succ c ih =>
  intro i k hi hk h
  by_cases hkb : k < b.length
  ·
   rw [List.drop_eq_getElem_cons (by omega : i < a.length), List.drop_eq_getElem_cons hkb] at h
   rcases sub_cases h with h | ⟨heq, h⟩
   ·
    rw [← List.drop_eq_getElem_cons hkb] at h
    have h1 := ih (i + 1) k (by omega) hk h
    have h2 := best_downI (same := fun p q => decide (a[p]? = b[q]?)) (n := a.length) (m := b.length) i k
    omega
   ·
    have h1 := ih (i + 1) (k + 1) (by omega) hkb h
    have hs : (fun p q => decide (a[p]? = b[q]?)) i k = true := by
     simp only [decide_eq_true_eq]
     rw [List.getElem?_eq_getElem (by omega : i < a.length), List.getElem?_eq_getElem hkb, heq]
    have h2 := best_same (same := fun p q => decide (a[p]? = b[q]?)) (n := a.length) (m := b.length) (by omega : i < a.length) hkb hs
    omega
  ·
   omega
theorem best_self (a : List Bs) : best (fun p q => decide (a[p]? = a[q]?)) a.length a.length 0 0 = a.length := by
 have h1 := best_sub a a a.length 0 0 (by omega) (Nat.zero_le _) (by simp)
 have h2 := best_leM (fun p q => decide (a[p]? = a[q]?)) a.length a.length _ 0 0 (Nat.le_refl _)
 omega
def pickL : List Bs → List Bool → List Bs
 | x :: xs, b :: bs => (if b = true then [x] else []) ++ pickL xs bs
 | _, _ => []
theorem pickL_sub : ∀ (a : List Bs) (ms : List Bool), (pickL a ms).Sublist a
 | [], _ => by simp [pickL]
 | x :: xs, [] => by simp [pickL]
 | x :: xs, b :: bs => by
  have ih := pickL_sub xs bs
  rw [pickL]
  split
  ·
   exact ih.cons_cons x
  ·
   exact ih.cons x
end Go.Proofs.Ytekkhlepbacapaa
namespace Go.Proofs.Ytekkhlepbacapaa
open Go Go.Eng
set_option linter.unusedSimpArgs false
set_option linter.unusedVariables false
set_option maxRecDepth 4000
def cF (n : Nat) (h : Nat → Value) : List Value := (List.range n).map h
theorem cF_len {n : Nat} {h : Nat → Value} : (cF n h).length = n := by simp [cF]
theorem cF_get {n : Nat} {h : Nat → Value} {i : Nat} (hi : i < n) : (cF n h)[i]? = some (h i) := by simp [cF, hi]
theorem cut_one {cs : List Value} {i : Nat} {x : Value} (h : cs[i]? = some x) : cut cs (i * 1) 1 = [x] := by
 obtain ⟨hlt, rfl⟩ := List.getElem?_eq_some_iff.1 h
 unfold cut
 rw [Nat.mul_one, List.drop_eq_getElem_cons hlt]
 rfl
theorem cF_cut {n : Nat} {h : Nat → Value} {i : Nat} (hi : i < n) : cut (cF n h) (i * 1) 1 = [h i] := cut_one (cF_get hi)
theorem cF_ext {n : Nat} {h g : Nat → Value} (e : ∀ i, i < n → h i = g i) : cF n h = cF n g := by
 unfold cF
 exact List.map_congr_left fun i hi => e i (List.mem_range.1 hi)
theorem list_cF {l : List Value} {n : Nat} {h : Nat → Value} (hn : l.length = n) (e : ∀ i, i < n → l[i]? = some (h i)) : l = cF n h := by
 apply List.ext_getElem?
 intro i
 by_cases hi : i < n
 ·
  rw [e i hi, cF_get hi]
 ·
  rw [List.getElem?_eq_none (by omega), List.getElem?_eq_none (by rw [cF_len]; omega)]
theorem setAt_one {cs : List Value} {i : Nat} {x : Value} (h : i < cs.length) : setAt cs (i * 1) [x] = cs.set i x := by
 rw [Nat.mul_one, setAt_eq cs i [x] (by simp; omega), List.set_eq_take_append_cons_drop, if_pos h]
 simp
theorem cF_set {n : Nat} {h : Nat → Value} {i : Nat} {x : Value} (hi : i < n) : setAt (cF n h) (i * 1) [x] = cF n (fun k => if k = i then x else h k) := by
 rw [setAt_one (by rw [cF_len]; exact hi)]
 refine list_cF (by simp [cF_len]) fun k hk => ?_
 rw [List.getElem?_set]
 by_cases e : i = k
 ·
  subst e; simp [cF_len, hi]
 ·
  rw [if_neg e, cF_get hk, if_neg (fun e2 => e e2.symm)]
theorem rep_cF (n : Nat) (z : Value) : List.replicate n z = cF n (fun _ => z) := list_cF (by simp) fun i hi => by simp [hi]
def pcA : Nat → Nat → Nat
 | 0, _ => 0
 | f + 1, x => x % 2 + pcA f (x / 2)
theorem pcA_zero : ∀ f, pcA f 0 = 0
 | 0 => rfl
 | f + 1 => by simp [pcA, pcA_zero f]
theorem pcA_split (f x : Nat) : pcA (f + 8) x = pcA 8 (x % 256) + pcA f (x / 256) := by
 simp only [pcA]
 have e : x / 2 / 2 / 2 / 2 / 2 / 2 / 2 / 2 = x / 256 := by omega
 rw [e]
 omega
theorem and_byte {b y mk M : Nat} (hb : b < 256) (hm : mk < 256) : (256 * y + b) &&& (256 * M + mk) = 256 * (y &&& M) + (b &&& mk) := by
 apply Nat.eq_of_testBit_eq
 intro i
 have h1 : (b &&& mk) < 2 ^ 8 := Nat.and_lt_two_pow _ hm
 rw [Nat.testBit_and, show 256 = 2 ^ 8 from rfl, Nat.testBit_two_pow_mul_add _ hb, Nat.testBit_two_pow_mul_add _ hm, Nat.testBit_two_pow_mul_add _ h1]
 split
 ·
  rw [Nat.testBit_and]
 ·
  rw [Nat.testBit_and]
def g1 (b : Nat) : Nat := (b / 2 &&& 85) + (b &&& 85)
def g2 (b : Nat) : Nat := (b / 4 &&& 51) + (b &&& 51)
theorem low1 : ∀ b : Fin 256, ∀ q : Fin 2, (b.val / 2 + 128 * q.val) &&& 85 = b.val / 2 &&& 85 := by decide +kernel
theorem low2 : ∀ b : Fin 256, ∀ q : Fin 4, (b.val / 4 + 64 * q.val) &&& 51 = b.val / 4 &&& 51 := by decide +kernel
theorem byte_g : ∀ b : Fin 256, g1 b.val < 256 ∧ g2 (g1 b.val) % 16 ≤ 4 ∧ g2 (g1 b.val) / 16 ≤ 4 ∧ g2 (g1 b.val) % 16 + g2 (g1 b.val) / 16 = pcA 8 b.val := by decide +kernel
theorem s1 {b y M : Nat} (hb : b < 256) : ((256 * y + b) / 2 &&& (256 * M + 85)) + ((256 * y + b) &&& (256 * M + 85)) = 256 * ((y / 2 &&& M) + (y &&& M)) + g1 b := by
 have e : (256 * y + b) / 2 = 256 * (y / 2) + (b / 2 + 128 * (y % 2)) := by omega
 rw [e, and_byte (by omega) (by omega), and_byte hb (by omega)]
 have := low1 ⟨b, hb⟩ ⟨y % 2, by omega⟩
 simp only at this
 rw [this]
 unfold g1
 omega
theorem s2 {b y M : Nat} (hb : b < 256) : ((256 * y + b) / 4 &&& (256 * M + 51)) + ((256 * y + b) &&& (256 * M + 51)) = 256 * ((y / 4 &&& M) + (y &&& M)) + g2 b := by
 have e : (256 * y + b) / 4 = 256 * (y / 4) + (b / 4 + 64 * (y % 4)) := by omega
 rw [e, and_byte (by omega) (by omega), and_byte hb (by omega)]
 have := low2 ⟨b, hb⟩ ⟨y % 4, by omega⟩
 simp only at this
 rw [this]
 unfold g2
 omega
theorem and15 (x : Nat) : x &&& 15 = x % 16 := Nat.and_two_pow_sub_one_eq_mod x 4
theorem s3 {c y M : Nat} (h1 : c % 16 ≤ 4) (h2 : c / 16 ≤ 4) (hy : y % 16 ≤ 4) : ((256 * y + c) / 16 + (256 * y + c)) &&& (256 * M + 15) = 256 * ((y / 16 + y) &&& M) + (c % 16 + c / 16) := by
 have e : (256 * y + c) / 16 + (256 * y + c) = 256 * (y / 16 + y) + (c + c / 16 + 16 * (y % 16)) := by omega
 rw [e, and_byte (by omega) (by omega), and15]
 omega
def st1 (x : Nat) : Nat := (x / 2 &&& 6148914691236517205) + (x &&& 6148914691236517205)
def st2 (x : Nat) : Nat := (x / 4 &&& 3689348814741910323) + (x &&& 3689348814741910323)
def st3 (x : Nat) : Nat := (x / 16 + x) &&& 1085102592571150095
theorem quad {x : Nat} (h : x < 4294967296) : x = 256 * (256 * (256 * (256 * 0 + x / 16777216) + x / 65536 % 256) + x / 256 % 256) + x % 256 := by omega
theorem st1_eq {b0 b1 b2 b3 : Nat} (h0 : b0 < 256) (h1 : b1 < 256) (h2 : b2 < 256) (h3 : b3 < 256) : st1 (256 * (256 * (256 * (256 * 0 + b3) + b2) + b1) + b0) = 256 * (256 * (256 * (256 * 0 + g1 b3) + g1 b2) + g1 b1) + g1 b0 := by
 unfold st1
 rw [show 6148914691236517205 = 256 * (256 * (256 * (256 * 1431655765 + 85) + 85) + 85) + 85 from rfl, s1 h0, s1 h1, s1 h2, s1 h3]
 simp
theorem st2_eq {b0 b1 b2 b3 : Nat} (h0 : b0 < 256) (h1 : b1 < 256) (h2 : b2 < 256) (h3 : b3 < 256) : st2 (256 * (256 * (256 * (256 * 0 + b3) + b2) + b1) + b0) = 256 * (256 * (256 * (256 * 0 + g2 b3) + g2 b2) + g2 b1) + g2 b0 := by
 unfold st2
 rw [show 3689348814741910323 = 256 * (256 * (256 * (256 * 858993459 + 51) + 51) + 51) + 51 from rfl, s2 h0, s2 h1, s2 h2, s2 h3]
 simp
theorem st3_eq {b0 b1 b2 b3 : Nat} (h0 : b0 % 16 ≤ 4 ∧ b0 / 16 ≤ 4) (h1 : b1 % 16 ≤ 4 ∧ b1 / 16 ≤ 4) (h2 : b2 % 16 ≤ 4 ∧ b2 / 16 ≤ 4) (h3 : b3 % 16 ≤ 4 ∧ b3 / 16 ≤ 4) : st3 (256 * (256 * (256 * (256 * 0 + b3) + b2) + b1) + b0) = 256 * (256 * (256 * (256 * 0 + (b3 % 16 + b3 / 16)) + (b2 % 16 + b2 / 16)) + (b1 % 16 + b1 / 16)) + (b0 % 16 + b0 / 16) := by
 unfold st3
 rw [show 1085102592571150095 = 256 * (256 * (256 * (256 * 252645135 + 15) + 15) + 15) + 15 from rfl, s3 h0.1 h0.2 (by omega), s3 h1.1 h1.2 (by omega), s3 h2.1 h2.2 (by omega), s3 h3.1 h3.2 (by omega)]
 simp
def st4 (x : Nat) : Nat := x + x / 256
def st5 (x : Nat) : Nat := x + x / 65536
def st6 (x : Nat) : Nat := x + x / 4294967296
theorem st_all {x : Nat} (h : x < 4294967296) : st6 (st5 (st4 (st3 (st2 (st1 x))))) % 128 = pcA 32 x ∧ st1 x < 4294967296 ∧ st2 (st1 x) < 4294967296 ∧ st3 (st2 (st1 x)) < 4294967296 ∧ st2 (st1 x) / 16 + st2 (st1 x) < 8589934592 := by
 have k0 := byte_g ⟨x % 256, by omega⟩
 have k1 := byte_g ⟨x / 256 % 256, by omega⟩
 have k2 := byte_g ⟨x / 65536 % 256, by omega⟩
 have k3 := byte_g ⟨x / 16777216, by omega⟩
 simp only at k0 k1 k2 k3
 have e1 := st1_eq (b0 := x % 256) (b1 := x / 256 % 256) (b2 := x / 65536 % 256) (b3 := x / 16777216) (by omega) (by omega) (by omega) (by omega)
 rw [← quad h] at e1
 have e2 := st2_eq k0.1 k1.1 k2.1 k3.1
 rw [← e1] at e2
 have e3 := st3_eq ⟨k0.2.1, k0.2.2.1⟩ ⟨k1.2.1, k1.2.2.1⟩ ⟨k2.2.1, k2.2.2.1⟩ ⟨k3.2.1, k3.2.2.1⟩
 rw [← e2] at e3
 have p : pcA 32 x = pcA 8 (x % 256) + (pcA 8 (x / 256 % 256) + (pcA 8 (x / 65536 % 256) + (pcA 8 (x / 16777216) + 0))) := by
  rw [pcA_split 24 x, pcA_split 16, pcA_split 8]
  have a1 : x / 256 / 256 = x / 65536 := by omega
  have a2 : x / 65536 / 256 = x / 16777216 := by omega
  rw [a1, a2, Nat.add_zero]
 rw [p, ← k0.2.2.2, ← k1.2.2.2, ← k2.2.2.2, ← k3.2.2.2]
 obtain ⟨q0, r0, t0, -⟩ := k0
 obtain ⟨q1, r1, t1, -⟩ := k1
 obtain ⟨q2, r2, t2, -⟩ := k2
 obtain ⟨q3, r3, t3, -⟩ := k3
 generalize g2 (g1 (x % 256)) = c0 at *
 generalize g2 (g1 (x / 256 % 256)) = c1 at *
 generalize g2 (g1 (x / 65536 % 256)) = c2 at *
 generalize g2 (g1 (x / 16777216)) = c3 at *
 refine ⟨?_, by omega, by omega, by omega, by omega⟩
 unfold st6 st5 st4
 rw [e3]
 generalize hd0 : c0 % 16 + c0 / 16 = d0 at *
 generalize hd1 : c1 % 16 + c1 / 16 = d1 at *
 generalize hd2 : c2 % 16 + c2 / 16 = d2 at *
 generalize hd3 : c3 % 16 + c3 / 16 = d3 at *
 have m0 : d0 ≤ 8 := by omega
 have m1 : d1 ≤ 8 := by omega
 have m2 : d2 ≤ 8 := by omega
 have m3 : d3 ≤ 8 := by omega
 clear hd0 hd1 hd2 hd3 e1 e2 e3 p
 obtain ⟨z, hz⟩ : ∃ z, z = 256 * (256 * (256 * (256 * 0 + d3) + d2) + d1) + d0 := ⟨_, rfl⟩
 rw [← hz]
 have f1 : z / 256 = d1 + 256 * d2 + 65536 * d3 := by omega
 have f2 : (z + z / 256) / 65536 = d2 + d3 + 256 * d3 := by omega
 have f3 : (z + z / 256 + (z + z / 256) / 65536) / 4294967296 = 0 := by omega
 rw [f3, f2, f1]
 omega
section
variable {F : Fx} {ρ : Env} {σ σS : Own} {u uS : View} {o : Oper} {t t' : TypeId} {x y : Operand} {k2 : IntKind} {n m r c : Nat}
theorem u64_wrap {n : Nat} (h : n < 18446744073709551616) : IntKind.u64.wrap (n : Int) = (n : Int) := by
 have h2 : (n : Int) % (2 ^ 64 : Int) = n := by
  rw [show (2 ^ 64 : Int) = 18446744073709551616 from rfl]
  omega
 show (if (false && decide ((n : Int) % (2 ^ 64 : Int) ≥ (2 ^ (64 - 1) : Int))) = true then (n : Int) % (2 ^ 64 : Int) - (2 ^ 64 : Int) else (n : Int) % (2 ^ 64 : Int)) = n
 rw [h2]
 simp
theorem u64_bits {n : Nat} (h : n < 18446744073709551616) : (BitVec.ofInt IntKind.u64.bits (n : Int)).toNat = n := by
 show (BitVec.ofInt 64 (n : Int)).toNat = n
 rw [BitVec.toNat_ofInt]
 omega
theorem y_shrN (ho : o.op = .binOp .shr t x y t') (hx : opv ρ x = some (.v (.int .u64 (n : Int)))) (hy : opv ρ y = some (.v (.int k2 (c : Int)))) (hc : c ≤ 64) (hr : n / 2 ^ c = r) : Yld F σS uS ρ σ u o (.v (.int .u64 (r : Int))) := by
 refine y_shr ho hx hy (by omega) (by show (c : Int) ≤ 64; omega) ?_
 rw [Int.toNat_natCast, ← hr]
 simp
theorem y_shlN (ho : o.op = .binOp .shl t x y t') (hx : opv ρ x = some (.v (.int .u64 (n : Int)))) (hy : opv ρ y = some (.v (.int k2 (c : Int)))) (hc : c ≤ 64) (hr : n * 2 ^ c = r) (hl : r < 18446744073709551616) : Yld F σS uS ρ σ u o (.v (.int .u64 (r : Int))) := by
 refine y_shl ho hx hy (by omega) (by show (c : Int) ≤ 64; omega) ?_
 rw [Int.toNat_natCast, ← u64_wrap hl, ← hr]
 simp
theorem y_andN (ho : o.op = .binOp .and t x y t') (hx : opv ρ x = some (.v (.int .u64 (n : Int)))) (hy : opv ρ y = some (.v (.int .u64 (m : Int)))) (hr : n &&& m = r) (hn : n < 18446744073709551616) (hm : m < 18446744073709551616) : Yld F σS uS ρ σ u o (.v (.int .u64 (r : Int))) := by
 refine y_and ho hx hy ?_
 rw [BitVec.toNat_and, u64_bits hn, u64_bits hm, hr, u64_wrap]
 rw [← hr]
 exact Nat.lt_of_le_of_lt Nat.and_le_left hn
theorem y_orN (ho : o.op = .binOp .or t x y t') (hx : opv ρ x = some (.v (.int .u64 (n : Int)))) (hy : opv ρ y = some (.v (.int .u64 (m : Int)))) (hr : n ||| m = r) (hn : n < 18446744073709551616) (hm : m < 18446744073709551616) : Yld F σS uS ρ σ u o (.v (.int .u64 (r : Int))) := by
 refine y_or ho hx hy ?_
 rw [BitVec.toNat_or, u64_bits hn, u64_bits hm, hr, u64_wrap]
 rw [← hr]
 exact Nat.or_lt_two_pow (n := 64) hn hm
theorem y_addN (ho : o.op = .binOp .add t x y t') (hx : opv ρ x = some (.v (.int .u64 (n : Int)))) (hy : opv ρ y = some (.v (.int .u64 (m : Int)))) (hr : n + m = r) (hl : r < 18446744073709551616) : Yld F σS uS ρ σ u o (.v (.int .u64 (r : Int))) := by
 refine Zap ho hx hy ?_
 rw [← u64_wrap hl, ← hr]
 simp
theorem and127 (p : Int) : IntKind.i64.wrap (BitVec.ofInt IntKind.i64.bits p &&& BitVec.ofInt IntKind.i64.bits 127).toNat = p % 128 := by
 have h1 : (BitVec.ofInt 64 p &&& BitVec.ofInt 64 127).toNat = (BitVec.ofInt 64 p).toNat % 128 := by
  rw [BitVec.toNat_and]
  exact Nat.and_two_pow_sub_one_eq_mod _ 7
 show IntKind.i64.wrap (BitVec.ofInt 64 p &&& BitVec.ofInt 64 127).toNat = p % 128
 rw [h1, BitVec.toNat_ofInt, Zk (by omega)]
 omega
theorem y_and127 (ho : o.op = .binOp .and t x y t') (hx : opv ρ x = some (.v (.int .i64 (n : Int)))) (hy : opv ρ y = some (.v (.int .i64 127))) (hr : n % 128 = r) : Yld F σS uS ρ σ u o (.v (.int .i64 (r : Int))) := by
 refine y_and ho hx hy ?_
 rw [and127, ← hr]
 rfl
end
theorem ones_fn (x : Nat) (hx : x < 4294967296) (u : View) : FnP Tryd.prog 67 [.int .u64 (x : Nat)] u fun r _ => r = .int .i64 (pcA 32 x : Nat) := by
 obtain ⟨hall, b1, b2, b3, b4⟩ := st_all hx
 have b5 : st4 (st3 (st2 (st1 x))) < 8589934592 := by unfold st4; omega
 have b6 : st5 (st4 (st3 (st2 (st1 x)))) < 17179869184 := by unfold st5; omega
 have b7 : st6 (st5 (st4 (st3 (st2 (st1 x))))) < 34359738368 := by unfold st6; omega
 refine FnP.intro [.tmp 2] Tryd.func67 rfl rfl rfl ?_
 intro w0 D hw0
 refine Ze (Zb (ya rfl rfl (Zf (ρ' := [(0, _)]) ⟨rfl, trivial⟩ ?_)))
 refine Zd (Ze (Zb (ym rfl rfl (Zg (y_shrN (c := 1) (r := x / 2) rfl rfl rfl (by omega) rfl) rfl (Zg (y_andN (m := 6148914691236517205) (r := x / 2 &&& 6148914691236517205) rfl rfl rfl rfl (by omega) (by omega)) rfl (ym rfl rfl (Zg (y_andN (m := 6148914691236517205) (r := x &&& 6148914691236517205) rfl rfl rfl rfl (by omega) (by omega)) rfl ?_)))))))
 refine Zg (y_addN (r := st1 x) rfl rfl rfl rfl (by omega)) rfl (ya rfl rfl (Zf (ρ' := [(0, _)]) ⟨rfl, trivial⟩ ?_))
 refine Zd (Ze (Zb (ym rfl rfl (Zg (y_shrN (c := 2) (r := st1 x / 4) rfl rfl rfl (by omega) rfl) rfl (Zg (y_andN (m := 3689348814741910323) (r := st1 x / 4 &&& 3689348814741910323) rfl rfl rfl rfl (by omega) (by omega)) rfl (ym rfl rfl (Zg (y_andN (m := 3689348814741910323) (r := st1 x &&& 3689348814741910323) rfl rfl rfl rfl (by omega) (by omega)) rfl (Zg (y_addN (r := st2 (st1 x)) rfl rfl rfl rfl (by omega)) rfl ?_))))))))
 refine ya rfl rfl (Zf (ρ' := [(0, _)]) ⟨rfl, trivial⟩ ?_)
 refine Zd (Ze (Zb (ym rfl rfl (Zg (y_shrN (c := 4) (r := st2 (st1 x) / 16) rfl rfl rfl (by omega) rfl) rfl ?_))))
 refine ym rfl rfl (Zg (y_addN (r := st2 (st1 x) / 16 + st2 (st1 x)) rfl rfl rfl rfl (by omega)) rfl ?_)
 refine Zg (y_andN (m := 1085102592571150095) (r := st3 (st2 (st1 x))) rfl rfl rfl rfl (by omega) (by omega)) rfl ?_
 refine ya rfl rfl (Zf (ρ' := [(0, _)]) ⟨rfl, trivial⟩ ?_)
 refine Zd (Ze (Zb (ym rfl rfl (ym rfl rfl (Zg (y_shrN (c := 8) (r := st3 (st2 (st1 x)) / 256) rfl rfl rfl (by omega) rfl) rfl ?_)))))
 refine Zg (y_addN (r := st4 (st3 (st2 (st1 x)))) rfl rfl rfl rfl (by omega)) rfl ?_
 refine ya rfl rfl (Zf (ρ' := [(0, _)]) ⟨rfl, trivial⟩ ?_)
 refine Zd (Ze (Zb (ym rfl rfl (ym rfl rfl (Zg (y_shrN (c := 16) (r := st4 (st3 (st2 (st1 x))) / 65536) rfl rfl rfl (by omega) rfl) rfl ?_)))))
 refine Zg (y_addN (r := st5 (st4 (st3 (st2 (st1 x))))) rfl rfl rfl rfl (by omega)) rfl ?_
 refine ya rfl rfl (Zf (ρ' := [(0, _)]) ⟨rfl, trivial⟩ ?_)
 refine Zd (Ze (Zb (ym rfl rfl (ym rfl rfl (Zg (y_shrN (c := 32) (r := st5 (st4 (st3 (st2 (st1 x)))) / 4294967296) rfl rfl rfl (by omega) rfl) rfl ?_)))))
 refine Zg (y_addN (r := st6 (st5 (st4 (st3 (st2 (st1 x)))))) rfl rfl rfl rfl (by omega)) rfl ?_
 refine ya rfl rfl (Zf (ρ' := [(0, _)]) ⟨rfl, trivial⟩ ?_)
 refine Zd (Ze (Zb (ym rfl rfl (Zg (y_conv rfl Tryd.u120 Tryd.u3 rfl (Zk (by omega))) rfl ?_))))
 refine Zg (y_and127 (r := pcA 32 x) rfl rfl rfl hall) rfl (ya rfl rfl (Zf (ρ' := [(2, _)]) ⟨rfl, trivial⟩ ?_))
 refine Zd (Zaj (Zbf (.tmp rfl) ?_))
 rfl
def bw (f : Nat → Bool) : Nat → Nat → Nat
 | 0, _ => 0
 | c + 1, j => (if f j = true then 1 else 0) + 2 * bw f c (j + 1)
def cntB (f : Nat → Bool) : Nat → Nat → Nat
 | 0, _ => 0
 | c + 1, j => (if f j = true then 1 else 0) + cntB f c (j + 1)
theorem pcA_bw (f : Nat → Bool) : ∀ (c F j : Nat), c ≤ F → pcA F (bw f c j) = cntB f c j
 | 0, F, j, _ => by rw [bw, pcA_zero]; rfl
 | c + 1, 0, j, h => by omega
 | c + 1, F + 1, j, h => by
  rw [bw, cntB, pcA]
  have ih := pcA_bw f c F (j + 1) (by omega)
  have e1 : ((if f j = true then 1 else 0) + 2 * bw f c (j + 1)) % 2 = (if f j = true then 1 else 0) := by split <;> omega
  have e2 : ((if f j = true then 1 else 0) + 2 * bw f c (j + 1)) / 2 = bw f c (j + 1) := by split <;> omega
  rw [e1, e2, ih]
theorem bw_lt (f : Nat → Bool) : ∀ (c j : Nat), bw f c j < 2 ^ c
 | 0, j => by simp [bw]
 | c + 1, j => by
  have := bw_lt f c (j + 1)
  rw [bw, Nat.pow_succ]
  split <;> omega
theorem bw_shr (f : Nat → Bool) : ∀ (d c j : Nat), bw f (c + d) j / 2 ^ d = bw f c (j + d)
 | 0, c, j => by simp
 | d + 1, c, j => by
  have ih := bw_shr f d c (j + 1)
  rw [show c + (d + 1) = (c + d) + 1 by omega, bw, show 2 ^ (d + 1) = 2 * 2 ^ d by rw [Nat.pow_succ]; omega, ← Nat.div_div_eq_div_mul]
  have e2 : ((if f j = true then 1 else 0) + 2 * bw f (c + d) (j + 1)) / 2 = bw f (c + d) (j + 1) := by split <;> omega
  rw [e2, ih, show j + 1 + d = j + (d + 1) by omega]
theorem or_bit {v j : Nat} : (2 ^ (j + 1) * v) ||| (1 * 2 ^ j) = 2 ^ j * (1 + 2 * v) := by
 have h : 2 ^ j < 2 ^ (j + 1) := Nat.pow_lt_pow_right (by omega) (by omega)
 rw [Nat.one_mul, ← Nat.two_pow_add_eq_or_of_lt h, Nat.pow_succ, Nat.mul_add, Nat.mul_assoc]
 omega
def stp (same : Nat → Nat → Bool) (n m i : Nat) (j : Nat) : Bool := decide (best same n m i (j + 1) < best same n m i j)
theorem cnt_best (same : Nat → Nat → Bool) (n m i : Nat) : ∀ (c j : Nat), j + c = m → cntB (stp same n m i) c j = best same n m i j
 | 0, j, h => by rw [best_end (.inr (by omega))]; rfl
 | c + 1, j, h => by
  have h1 := best_oneK (same := same) (n := n) (m := m) i j
  have h2 := best_downK (same := same) (n := n) (m := m) i j
  rw [cntB, cnt_best same n m i c (j + 1) (by omega)]
  by_cases e : best same n m i (j + 1) < best same n m i j
  ·
   rw [if_pos (by simp [stp, e])]; omega
  ·
   rw [if_neg (by simp [stp, e])]; omega
end Go.Proofs.Ytekkhlepbacapaa
namespace Go.Proofs.Ytekkhlepbacapaa
open Go Go.Eng
set_option linter.unusedSimpArgs false
set_option linter.unusedVariables false
set_option maxRecDepth 4000
theorem isNaN1_fn (x : Int) (u : View) : FnP Tryd.prog 74 [.int .i64 x] u fun r _ => r = .bool false := by
 refine FnP.intro [.tmp 2] Tryd.func74 rfl rfl rfl ?_
 intro w0 D hw0
 refine Ze (Zb (ya rfl rfl (Zf (ρ' := [(0, _)]) ⟨rfl, trivial⟩ ?_)))
 refine Zd (Ze (Zb (ym rfl rfl (ym rfl rfl (Zg (y_neq_refl rfl rfl rfl) rfl (ya rfl rfl (Zf (ρ' := [(2, _)]) ⟨rfl, trivial⟩ ?_)))))))
 refine Zd (Zaj (Zbf (.tmp rfl) ?_))
 rfl
theorem isNaN2_fn (x : Int) (u : View) : FnP Tryd.prog 69 [.int .i64 x] u fun r _ => r = .bool false := by
 refine FnP.intro [.tmp 2] Tryd.func69 rfl rfl rfl ?_
 intro w0 D hw0
 refine Ze (Zb (ya rfl rfl (Zf (ρ' := [(0, _)]) ⟨rfl, trivial⟩ ?_)))
 refine Zd (Ze (Zb (ym rfl rfl (ym rfl rfl (Zg (y_neq_refl rfl rfl rfl) rfl (ya rfl rfl (Zf (ρ' := [(2, _)]) ⟨rfl, trivial⟩ ?_)))))))
 refine Zd (Zaj (Zbf (.tmp rfl) ?_))
 rfl
theorem less_fn (x y : Int) (u : View) : FnP Tryd.prog 68 [.int .i64 x, .int .i64 y] u fun r _ => r = .bool (decide (x < y)) := by
 refine FnP.intro [.tmp 4] Tryd.func68 rfl rfl rfl ?_
 intro w0 D hw0
 refine Ze (Zb (ya rfl rfl (Zf (ρ' := [(0, _), (1, _)]) ⟨rfl, rfl, trivial⟩ ?_)))
 refine Zd (Ze (Zb (ym rfl rfl (Zt rfl rfl ?_))))
 refine Zac (caps := []) trivial rfl rfl Tryd.c74 rfl (FnP.mono (isNaN1_fn x u) ?_)
 rintro v u1 hle1 rfl
 refine ym rfl rfl ?_
 iterate 3 refine Zaf rfl rfl rfl rfl ?_
 refine Zg (Zad rfl rfl rfl) rfl (ym rfl rfl (Zp rfl rfl (ym rfl rfl (Zp rfl rfl (ym rfl rfl (Zp rfl rfl (Zg (Zav rfl rfl rfl) rfl ?_)))))))
 refine Zg (Zad rfl rfl rfl) rfl (ya rfl rfl (Zf (ρ' := [(4, _)]) ⟨rfl, trivial⟩ ?_))
 refine Zd (Zaj (Zbf (.tmp rfl) ?_))
 rfl
def natC (l : List Nat) : List Value := l.map fun (x : Nat) => Value.int .i64 (x : Int)
theorem natC_cut {l : List Nat} {t : Nat} (h : t < l.length) : cut (natC l) (t * 1) 1 = [.int .i64 ((l.getD t 0 : Nat) : Int)] := by
 refine cut_one ?_
 simp [natC, h]
set_option maxHeartbeats 2000000 in
theorem bsearch_fn (l : List Nat) (hasc : l.Pairwise (· < ·)) (j : Nat) (hl : l.length ≤ 1000) (v : Value) (u : View) (ha : IsSl u v l.length 1 (natC l)) :
  FnP Tryd.prog 56 [v, .int .i64 (j : Nat)] u fun r _ => ∃ (k : Nat) (b : Bool), r = .tuple #[.int .i64 (k : Nat), .bool b] ∧ k ≤ l.length ∧ (∀ t, t < k → l.getD t 0 < j) ∧ (∀ t, k ≤ t → t < l.length → j ≤ l.getD t 0) := by
 obtain ⟨ad, cap, rfl, h1⟩ := ha
 have hmon : ∀ s t, s ≤ t → t < l.length → l.getD s 0 ≤ l.getD t 0 := by
  intro s t hst ht
  by_cases e : s = t
  ·
   rw [e]; exact Nat.le_refl _
  ·
   have := List.pairwise_iff_getElem.1 hasc s t (by omega) ht (by omega)
   simp only [List.getD_eq_getElem?_getD, List.getElem?_eq_getElem (show s < l.length by omega), List.getElem?_eq_getElem ht, Option.getD_some]
   omega
 refine FnP.intro [.tmp 4, .tmp 5] Tryd.func56 rfl rfl rfl ?_
 intro w0 D hw0
 refine Ze (Zb (ya rfl rfl (ya rfl rfl (Zf (ρ' := [(0, _), (1, _)]) ⟨rfl, rfl, trivial⟩ ?_))))
 refine Zd (Ze (Zb (ym rfl rfl (Zg (Zx rfl rfl Tryd.s58 rfl) rfl (ya rfl rfl (Zf (ρ' := [(0, _), (1, _), (6, _)]) ⟨rfl, rfl, rfl, trivial⟩ ?_))))))
 refine Zd (Ze (Zb (ym rfl rfl (ya rfl rfl (ya rfl rfl (Zf (ρ' := [(0, _), (1, _), (6, _), (7, _), (8, _)]) ⟨rfl, rfl, rfl, rfl, rfl, trivial⟩ ?_))))))
 refine Zd (Ze (Zq ?_))
 refine Zaq (fun m ρ σ u' => ∃ p q : Nat, q - p = m ∧ p ≤ q ∧ q ≤ l.length ∧ (∀ t, t < p → l.getD t 0 < j) ∧ (∀ t, q ≤ t → t < l.length → j ≤ l.getD t 0) ∧ u' = u ∧ σ = [] ∧ ρ = [(0, .v (.slice ad l.length cap)), (1, .v (.int .i64 (j : Nat))), (6, .v (.int .i64 (l.length : Nat))), (7, .v (.int .i64 (p : Nat))), (8, .v (.int .i64 (q : Nat)))]) l.length ?_ ?_
 ·
  exact ⟨[(0, _), (1, _), (6, _), (7, _), (8, _)], [], ⟨rfl, rfl, rfl, rfl, rfl, trivial⟩, trivial, 0, l.length, by omega, by omega, by omega, fun t ht => by omega, fun t h1 h2 => by omega, rfl, rfl, rfl⟩
 ·
  rintro m ρ σ u' ⟨p, q, hm, hpq, hq, hlo, hhi, rfl, rfl, rfl⟩
  refine Ze (Ze (Zb (ym rfl rfl (ym rfl rfl (Zg (Zav rfl rfl rfl) rfl (Zf (ρ' := [(0, _), (1, _), (6, _), (7, _), (8, _), (15, _)]) ⟨rfl, rfl, rfl, rfl, rfl, rfl, trivial⟩ ?_))))))
  refine Zd ?_
  refine Zw rfl (fun hb3 => ?_) (fun hb3 => ?_)
  ·
   have hlt := of_decide_eq_true hb3
   refine Zv (Zd (Zq (Ze (Zb (ym rfl rfl (ym rfl rfl (Zg (Zap rfl rfl rfl (Zk (by omega))) rfl ?_)))))))
   refine Zg (y_conv (r := ((p + q : Nat) : Int)) rfl Tryd.u3 Tryd.u122 rfl ((congrArg IntKind.u64.wrap (show (p : Int) + (q : Int) = ((p + q : Nat) : Int) by omega)).trans (u64_wrap (by omega)))) rfl ?_
   refine Zg (y_shrN (c := 1) (r := (p + q) / 2) rfl rfl rfl (by omega) rfl) rfl ?_
   refine Zg (y_conv rfl Tryd.u122 Tryd.u3 rfl (Zk (by omega))) rfl ?_
   refine ya rfl rfl ?_
   obtain ⟨h, hh⟩ : ∃ h, h = (p + q) / 2 := ⟨_, rfl⟩
   rw [← hh]
   refine Zf (ρ' := [(0, _), (1, _), (6, _), (7, _), (8, _), (9, _)]) ⟨rfl, rfl, rfl, rfl, rfl, rfl, trivial⟩ ?_
   refine Zd (Ze ?_)
   have hcut := natC_cut (l := l) (t := h) (by omega)
   refine Zb (ym rfl rfl (ym rfl rfl (Zg (Zs rfl Tryd.s58 rfl rfl (by assumption) (by first | rfl | omega) (by omega)) rfl (Zg (Zr rfl Tryd.k3 rfl (by assumption) (by omega) (by assumption) (vs := [_]) rfl rfl rfl rfl) rfl (ym rfl rfl (Zt rfl rfl ?_))))))
   refine Zac (caps := []) trivial rfl rfl Tryd.c68 rfl (FnP.mono (less_fn _ _ u') ?_)
   rintro v u1 hle1 rfl
   refine Zf (ρ' := [(0, _), (1, _), (6, _), (7, _), (8, _), (9, _), (27, _)]) ⟨rfl, rfl, rfl, rfl, rfl, rfl, rfl, trivial⟩ ?_
   refine Zd ?_
   refine Zw rfl (fun hb5 => ?_) (fun hb5 => ?_)
   ·
    have hc := of_decide_eq_true hb5
    refine Zb (ym rfl rfl (Zg (Zap rfl rfl rfl (Zk (by omega))) rfl ?_))
    refine ya rfl rfl (Zf (ρ' := [(0, _), (1, _), (6, _), (7, _), (8, _)]) ⟨rfl, rfl, rfl, rfl, rfl, trivial⟩ ?_)
    refine Zah (Zab ?_)
    first
    | (refine ⟨q - (h + 1), [(0, _), (1, _), (6, _), (7, _), (8, _)], [], by omega, ⟨rfl, rfl, rfl, rfl, rfl, trivial⟩, trivial, h + 1, q, rfl, by omega, by omega, fun t ht => ?_, hhi, rfl, rfl, by rfl⟩
       have := hmon t h (by omega) (by omega)
       omega)
    | (refine ⟨h - p, [(0, _), (1, _), (6, _), (7, _), (8, _)], [], by omega, ⟨rfl, rfl, rfl, rfl, rfl, trivial⟩, trivial, p, h, rfl, by omega, by omega, hlo, fun t ht1 ht2 => ?_, rfl, rfl, by rfl⟩
       have := hmon h t ht1 ht2
       omega)
   ·
    have hc := of_decide_eq_false hb5
    refine Zb (ym rfl rfl (ya rfl rfl (Zf (ρ' := [(0, _), (1, _), (6, _), (7, _), (8, _)]) ⟨rfl, rfl, rfl, rfl, rfl, trivial⟩ ?_)))
    refine Zah (Zab ?_)
    first
    | (refine ⟨q - (h + 1), [(0, _), (1, _), (6, _), (7, _), (8, _)], [], by omega, ⟨rfl, rfl, rfl, rfl, rfl, trivial⟩, trivial, h + 1, q, rfl, by omega, by omega, fun t ht => ?_, hhi, rfl, rfl, by rfl⟩
       have := hmon t h (by omega) (by omega)
       omega)
    | (refine ⟨h - p, [(0, _), (1, _), (6, _), (7, _), (8, _)], [], by omega, ⟨rfl, rfl, rfl, rfl, rfl, trivial⟩, trivial, p, h, rfl, by omega, by omega, hlo, fun t ht1 ht2 => ?_, rfl, rfl, by rfl⟩
       have := hmon h t ht1 ht2
       omega)
  ·
   have hge := of_decide_eq_false hb3
   obtain rfl : p = q := by omega
   refine Zan ?_
   refine Zh (Zh ?_)
   refine Zu ?_
   refine Zd (Ze (Zb (ym rfl rfl (ym rfl rfl (ym rfl rfl (Zg (Zav rfl rfl rfl) rfl (ym rfl rfl ?_)))))))
   refine Zar 35 rfl (fun hg8_4 => ?_) (fun hg8_4 => ?_)
   ·
    refine Zp rfl rfl (ym rfl rfl (Zp rfl rfl (ym rfl rfl ?_)))
    have hpl := of_decide_eq_true hg8_4
    have hcut := natC_cut (l := l) (t := p) (by omega)
    refine Zp rfl rfl (Zg (Zs rfl Tryd.s58 rfl rfl (by assumption) (by first | rfl | omega) (by omega)) rfl (Zp rfl rfl (Zg (Zr rfl Tryd.k3 rfl (by assumption) (by omega) (by assumption) (vs := [_]) rfl rfl rfl rfl) rfl (Zp rfl rfl (ym rfl rfl (Zp rfl rfl (Zg (Zbl rfl rfl rfl) rfl ?_)))))))
    refine Zp rfl rfl (ym rfl rfl ?_)
    refine Zar 42 rfl (fun hg8_11 => ?_) (fun hg8_11 => ?_)
    ·
     iterate 6 refine Zaf rfl rfl rfl rfl ?_
     refine rl_off_u rfl rfl rfl (rl_off_u rfl rfl rfl (Zaf rfl rfl rfl rfl (Zp rfl rfl (Zg (Zo rfl rfl rfl) rfl (Zg (Zo rfl rfl rfl) rfl (ya rfl rfl (ya rfl rfl (Zf (ρ' := [(4, _), (5, _)]) ⟨rfl, rfl, trivial⟩ ?_))))))))
     refine Zd (Zaj ?_)
     refine fin2 (.tmp rfl) (.tmp rfl) ?_
     exact ⟨p, _, rfl, by omega, hlo, hhi⟩
    ·
     refine Zp rfl rfl (ym rfl rfl (Zp rfl rfl (ym rfl rfl (Zp rfl rfl (Zg (Zs rfl Tryd.s58 rfl rfl (by assumption) (by first | rfl | omega) (by omega)) rfl (Zp rfl rfl (Zg (Zr rfl Tryd.k3 rfl (by assumption) (by omega) (by assumption) (vs := [_]) rfl rfl rfl rfl) rfl ?_)))))))
     refine Zp rfl rfl (Zt rfl rfl ?_)
     refine Zac (caps := []) trivial rfl rfl Tryd.c69 rfl (FnP.mono (isNaN2_fn _ u') ?_)
     rintro v u1 hle1 rfl
     refine Zp rfl rfl (ym rfl rfl (Zaf rfl rfl rfl rfl (Zaf rfl rfl rfl rfl (Zp rfl rfl (Zg (Zad rfl rfl rfl) rfl (Zp rfl rfl (Zg (Zad rfl rfl rfl) rfl ?_)))))))
     refine Zg (Zo rfl rfl rfl) rfl (ya rfl rfl (ya rfl rfl (Zf (ρ' := [(4, _), (5, _)]) ⟨rfl, rfl, trivial⟩ ?_)))
     refine Zd (Zaj ?_)
     refine fin2 (.tmp rfl) (.tmp rfl) ?_
     exact ⟨p, _, rfl, by omega, hlo, hhi⟩
   ·
    iterate 7 refine Zaf rfl rfl rfl rfl ?_
    iterate 9 refine rl_off_u rfl rfl rfl ?_
    refine Zaf rfl rfl rfl rfl (Zg (Zad rfl rfl rfl) rfl (ya rfl rfl (ya rfl rfl (Zf (ρ' := [(4, _), (5, _)]) ⟨rfl, rfl, trivial⟩ ?_))))
    refine Zd (Zaj ?_)
    refine fin2 (.tmp rfl) (.tmp rfl) ?_
    exact ⟨p, _, rfl, by omega, hlo, hhi⟩
def sameI (xs ys : List Int) (i j : Nat) : Bool := decide (xs[i]? = ys[j]?)
def rowOk (u : View) (same : Nat → Nat → Bool) (n m i : Nat) (v : Value) : Prop := ∃ ad cap, v = .slice ad 1 cap ∧ SlC u ad 1 cap 1 [.int .u64 ((bw (stp same n m i) m 0 : Nat) : Int)]
theorem rowOk.mono {u u' : View} {same : Nat → Nat → Bool} {n m i : Nat} {v : Value} (h : rowOk u same n m i v) (hu : VLe u u') : rowOk u' same n m i v := let ⟨ad, cap, h1, h2⟩ := h; ⟨ad, cap, h1, h2.mono hu⟩
def TabV (u : View) (v : Value) (same : Nat → Nat → Bool) (n m : Nat) : Prop := ∃ ad cap rows, v = .agg #[.slice ad (n + 1) cap] ∧ SlC u ad (n + 1) cap 1 rows ∧ ∀ i, i ≤ n → ∃ x, rows[i]? = some x ∧ rowOk u same n m i x
theorem TabV.mono {u u' : View} {same : Nat → Nat → Bool} {n m : Nat} {v : Value} (h : TabV u v same n m) (hu : VLe u u') : TabV u' v same n m :=
 let ⟨ad, cap, rows, h1, h2, h3⟩ := h; ⟨ad, cap, rows, h1, h2.mono hu, fun i hi => let ⟨x, h4, h5⟩ := h3 i hi; ⟨x, h4, h5.mono hu⟩⟩
theorem longest_fn (same : Nat → Nat → Bool) (n m i j : Nat) (v : Value) (u : View) (hT : TabV u v same n m) (hi : i ≤ n) (hj : j ≤ m) (hn : n ≤ 31) (hm : m ≤ 31) :
  FnP Tryd.prog 55 [v, .int .i64 (i : Nat), .int .i64 (j : Nat)] u fun r _ => r = .int .i64 ((best same n m i j : Nat) : Int) := by
 obtain ⟨ar, cr, rows, rfl, hr, hrows⟩ := hT
 obtain ⟨x, hx, ad, cap, rfl, h1⟩ := hrows i hi
 have hcr := cut_one hx
 have hsh := bw_shr (stp same n m i) j (m - j) 0
 rw [Nat.sub_add_cancel hj, Nat.zero_add] at hsh
 have hlt := bw_lt (stp same n m i) (m - j) j
 have hlt2 : 2 ^ (m - j) ≤ 2 ^ 31 := Nat.pow_le_pow_right (by omega) (by omega)
 have hv : pcA 32 (bw (stp same n m i) (m - j) j) = best same n m i j := by rw [pcA_bw _ _ _ _ (by omega), cnt_best _ _ _ _ _ _ (by omega)]
 refine FnP.intro [.tmp 6] Tryd.func55 rfl rfl rfl ?_
 intro w0 D hw0
 refine Ze (Zb (Zt rfl rfl ?_))
 refine do_box trivial rfl (cs := [_]) rfl rfl rfl rfl ?_
 refine ya rfl rfl (Zf (ρ' := [(1, _), (2, _), (3, _)]) ⟨rfl, rfl, rfl, trivial⟩ ?_)
 refine Zd (Ze (Zb (Zg (Zi rfl Tryd.f100' rfl (by decide) rfl) rfl (Zg (Zl rfl Tryd.k98 rfl rfl rfl (vs := [_]) rfl rfl rfl) rfl (ym rfl rfl (Zg (Zs rfl Tryd.s98 rfl rfl (by assumption) (by first | rfl | omega) (by omega)) rfl (Zg (Zr rfl Tryd.k118 rfl hr (by omega) hcr (vs := [_]) rfl rfl rfl rfl) rfl ?_)))))))
 refine ya rfl rfl (Zf (ρ' := [(2, _), (7, _)]) ⟨rfl, rfl, trivial⟩ ?_)
 refine Zd (Ze (Zb (ym rfl rfl (Zg (y_quoE rfl rfl rfl (by omega) (by omega) (by omega)) rfl ?_))))
 rw [show (j : Int) / 64 = 0 by omega]
 refine ya rfl rfl (Zf (ρ' := [(2, _), (7, _), (8, _)]) ⟨rfl, rfl, rfl, trivial⟩ ?_)
 refine Zd (Ze (Ze (Zb (ym rfl rfl (ym rfl rfl (Zg (Zx rfl rfl Tryd.s118 rfl) rfl (Zg (y_geq rfl rfl rfl) rfl (Zf (ρ' := [(2, _), (7, _), (8, _), (22, _)]) ⟨rfl, rfl, rfl, rfl, trivial⟩ ?_))))))))
 refine Zd ?_
 refine Zbo rfl ((by decide)) ?_
 refine Zv (Zd (Ze (Zb (ym rfl rfl (ym rfl rfl (Zg (Zs rfl Tryd.s118 rfl rfl (by assumption) (j := 0) (by first | rfl | omega) (by omega)) rfl (Zg (Zr rfl Tryd.k120 rfl h1 (by omega) (c := [Value.int .u64 ((bw (stp same n m i) m 0 : Nat) : Int)]) rfl (vs := [_]) rfl rfl rfl rfl) rfl ?_)))))))
 refine ym rfl rfl (Zg (y_remE rfl rfl rfl (by omega) (by omega)) rfl ?_)
 rw [show (j : Int) % 64 = (j : Int) by omega]
 refine Zg (y_shrN (c := j) (r := bw (stp same n m i) (m - j) j) rfl rfl rfl (by omega) hsh) rfl ?_
 refine Zt rfl rfl ?_
 refine Zac (caps := []) trivial rfl rfl Tryd.c67 rfl (FnP.mono (ones_fn _ (by omega) u) ?_)
 rintro v u1 hle1 rfl
 rw [hv]
 refine ya rfl rfl (Zf (ρ' := [(7, _), (8, _), (9, _)]) ⟨rfl, rfl, rfl, trivial⟩ ?_)
 refine Zd (Ze (Ze (Zb (ym rfl rfl (ym rfl rfl (Zg (Zap rfl rfl rfl (Zk (by omega))) rfl ?_))))))
 refine Zg (y_slice_v (i := 1) rfl Tryd.s118 rfl rfl rfl (by omega)) rfl (Zg (Zx (n := 0) (ad := _) (c := _) rfl rfl Tryd.s118 rfl) rfl (ym rfl rfl (Zf (ρ' := [(9, _), (34, _), (35, _), (36, _)]) ⟨rfl, rfl, rfl, rfl, trivial⟩ ?_)))
 refine Zd (Zq ?_)
 refine Zaq (fun m_0 ρ σ u' => ∃ i_7 : Nat, i_7 + m_0 = 0 ∧ VLe u u' ∧ σ = [] ∧ ρ = [(9, .v (.int .i64 ((best same n m i j : Nat) : Int))), (34, .v (slV 1 ad 1 cap 1)), (35, .v (.int .i64 ((0 : Nat) : Int))), (36, .v (.int .i64 i_7))] ∧ (True)) (0) ?_ ?_
 ·
  refine ⟨[(9, _), (34, _), (35, _), (36, _)], [], ⟨rfl, rfl, rfl, rfl, trivial⟩, trivial, 0, by omega, VLe.refl _, (by first | rfl | simp), (by first | rfl | (simp only [List.cons.injEq, Prod.mk.injEq, SV.v.injEq, Value.int.injEq, true_and, and_true]; omega) | simp), ?_⟩
  trivial
 ·
  rintro mi_7 ρ σ u' ⟨i_7, hi7, hle7, rfl, rfl, hinv7⟩
  refine Ze (Zb (Zg (Zav rfl rfl rfl) rfl (Zf (ρ' := [(9, _), (34, _), (35, _), (36, _), (37, _)]) ⟨rfl, rfl, rfl, rfl, rfl, trivial⟩ ?_)))
  refine Zd (Ze ?_)
  refine Zbo rfl ((decide_eq_false (by omega))) ?_
  refine Zan ?_
  refine Zh (Zh ?_)
  refine Zu ?_
  refine Zd (Ze (Zb (ym rfl rfl (ya rfl rfl (Zf (ρ' := [(6, _)]) ⟨rfl, trivial⟩ ?_)))))
  refine Zd (Zaj (Zbf (.tmp rfl) ?_))
  rfl
end Go.Proofs.Ytekkhlepbacapaa
namespace Go.Proofs.Ytekkhlepbacapaa
open Go Go.Eng
set_option linter.unusedSimpArgs false
set_option linter.unusedVariables false
set_option maxRecDepth 4000
def intC (l : List Int) : List Value := l.map fun x => Value.int .i64 x
theorem intC_cut {l : List Int} {t : Nat} {x : Int} (h : l[t]? = some x) : cut (intC l) (t * 1) 1 = [.int .i64 x] := by
 refine cut_one ?_
 simp [intC, h]
section
variable {same : Nat → Nat → Bool} {n m I J c : Nat} {g : Nat → Int}
def rowV (same : Nat → Nat → Bool) (n m I J : Nat) (g : Nat → Int) : Nat → Value := fun k => .int .i32 (if J ≤ k then ((best same n m I k : Nat) : Int) else g k)
theorem rowV_at {k : Nat} (h : J ≤ k) (hk : k ≤ m) : cut (cF (m + 1) (rowV same n m I J g)) (k * 1) 1 = [.int .i32 ((best same n m I k : Nat) : Int)] := by
 rw [cF_cut (by omega)]
 simp [rowV, h]
theorem row_put {v : Nat} (h : v = best same n m I J) : cF (m + 1) (fun k => if k = J then Value.int .i32 ((v : Nat) : Int) else rowV same n m I (J + 1) g k) = cF (m + 1) (rowV same n m I J g) := by
 refine cF_ext fun k hk => ?_
 by_cases e : k = J
 ·
  subst e; subst h; simp [rowV]
 ·
  simp only [rowV, if_neg e]
  by_cases e2 : J + 1 ≤ k
  ·
   rw [if_pos e2, if_pos (by omega)]
  ·
   rw [if_neg e2, if_neg (by omega)]
theorem row_put2 {v w : Nat} (h : v = best same n m I J) : cF (m + 1) (fun k => if k = J then Value.int .i32 ((v : Nat) : Int) else if k = J then Value.int .i32 ((w : Nat) : Int) else rowV same n m I (J + 1) g k) = cF (m + 1) (rowV same n m I J g) := by
 rw [← row_put (g := g) h]
 refine cF_ext fun k hk => ?_
 by_cases e : k = J
 ·
  simp [e]
 ·
  simp [e]
theorem row_start (h : g m = 0) : cF (m + 1) (fun k => Value.int .i32 (g k)) = cF (m + 1) (rowV same n m I (m - 0) g) := by
 refine cF_ext fun k hk => ?_
 unfold rowV
 by_cases e : m - 0 ≤ k
 ·
  rw [if_pos e, show k = m by omega, best_end (.inr (Nat.le_refl _)), h]; rfl
 ·
  rw [if_neg e]
theorem row0 : cF (m + 1) (fun _ => Value.int .i32 0) = cF (m + 1) (rowV same n m (n - 0) 0 (fun _ => 0)) := by
 refine cF_ext fun k hk => ?_
 unfold rowV
 rw [if_pos (Nat.zero_le _), best_end (.inl (by omega))]; rfl
theorem row_full : cF (m + 1) (rowV same n m I 0 g) = cF (m + 1) (rowV same n m I 0 (fun _ => 0)) := by
 refine cF_ext fun k hk => ?_
 simp [rowV]
theorem bw_zero {f : Nat → Bool} (h : ∀ k, f k = false) : ∀ c j, bw f c j = 0
 | 0, _ => rfl
 | c + 1, j => by rw [bw, bw_zero h c, h j]; rfl
theorem rowOk_n {u : View} {v : Value} (h : IsSl u v 1 1 (List.replicate 1 (Value.int .u64 0))) : rowOk u same n m n v := by
 obtain ⟨ad, cap, rfl, h1⟩ := h
 refine ⟨ad, cap, rfl, ?_⟩
 rw [bw_zero (fun k => by simp [stp, best_end (same := same) (n := n) (m := m) (i := n) (.inl (Nat.le_refl _))])]
 exact h1
theorem set_skip (h : stp same n m I J = false) : ((2 ^ (J + 1) * bw (stp same n m I) c (J + 1) : Nat) : Int) = ((2 ^ J * bw (stp same n m I) (c + 1) J : Nat) : Int) := by
 rw [bw, h, Nat.pow_succ, Nat.mul_assoc]; simp
theorem set_put (h : stp same n m I J = true) : (2 ^ (J + 1) * bw (stp same n m I) c (J + 1)) ||| (1 * 2 ^ J) = 2 ^ J * bw (stp same n m I) (c + 1) J := by
 rw [or_bit, bw, h]; simp
theorem i32N {z : Int} {r : Nat} (h : z = r) (hr : r < 2147483648) : IntKind.i32.wrap z = r := by
 have h2 : (r : Int) % (2 ^ 32 : Int) = r := by
  rw [show (2 ^ 32 : Int) = 4294967296 from rfl]
  omega
 rw [h]
 show (if (true && decide ((r : Int) % (2 ^ 32 : Int) ≥ (2 ^ (32 - 1) : Int))) = true then (r : Int) % (2 ^ 32 : Int) - (2 ^ 32 : Int) else (r : Int) % (2 ^ 32 : Int)) = r
 rw [h2, if_neg]
 simp only [Bool.true_and, decide_eq_true_eq]
 rw [show (2 ^ (32 - 1) : Int) = 2147483648 from rfl]
 omega
end
theorem set1 (x y : Value) : setAt [x] (0 * 1) [y] = [y] := rfl
set_option maxHeartbeats 8000000 in
theorem newTable_fn (xs ys : List Int) (n m : Nat) (hxs : xs.length = n) (hys : ys.length = m) (hn : n ≤ 31) (hm : m ≤ 31) (va vb : Value) (u : View) (ha : IsSl u va n 1 (intC xs)) (hb : IsSl u vb m 1 (intC ys)) :
  FnP Tryd.prog 54 [va, vb] u fun r u' => TabV u' r (sameI xs ys) n m := by
 obtain ⟨aA, cA, rfl, hA⟩ := ha
 obtain ⟨aB, cB, rfl, hB⟩ := hb
 obtain ⟨same, hsame⟩ : ∃ same, same = sameI xs ys := ⟨_, rfl⟩
 rw [← hsame]
 refine FnP.intro [.cell 4 100] Tryd.func54 rfl rfl rfl ?_
 intro w0 D hw0
 refine Ze (Zb (Zt rfl rfl ?_))
 refine Zau trivial Tryd.z100 rfl rfl rfl ?_
 refine Zf (ρ' := [(0, _), (1, _), (4, _)]) ⟨rfl, rfl, rfl, trivial⟩ ?_
 refine Zd (Ze (Zb (ym rfl rfl (Zg (Zx rfl rfl Tryd.s58 rfl) rfl (Zg (Zap rfl rfl rfl (Zk (by omega))) rfl ?_)))))
 refine Zt rfl rfl ?_
 refine Zbr (n + 1) trivial Tryd.s98 Tryd.z118 rfl rfl (by first | rfl | omega) (by first | rfl | omega) (by omega) (by omega) rfl rfl rfl ?_
 intro ad15
 rw [rep_cF]
 refine Zg (Zbh rfl Tryd.f100' Tryd.z100 (ps := [(_, _)]) rfl (vs := [_]) rfl) rfl ?_
 refine Zt rfl rfl ?_
 refine Zau trivial Tryd.z100 rfl rfl rfl ?_
 refine Zt rfl rfl ?_
 refine Zao trivial rfl Tryd.k100 rfl rfl rfl (vs := [_]) rfl rfl (by first | rfl | assumption | simp [Value.oneCell', str]) (Nat.le_of_ble_eq_true rfl) rfl ?_
 refine Zf (ρ' := [(0, _), (1, _), (4, _), (5, _)]) ⟨rfl, rfl, rfl, rfl, trivial⟩ ?_
 refine Zd (Ze (Zb (ym rfl rfl (Zg (Zx rfl rfl Tryd.s58 rfl) rfl (Zg (y_quoE rfl rfl rfl (by omega) (by omega) (by omega)) rfl ?_)))))
 rw [show (m : Int) / 64 = 0 by omega]
 refine Zg (Zap (r := 1) rfl rfl rfl rfl) rfl (ya rfl rfl (Zf (ρ' := [(0, _), (1, _), (4, _), (5, _), (6, _)]) ⟨rfl, rfl, rfl, rfl, rfl, trivial⟩ ?_))
 refine Zd (Ze ?_)
 refine Zbb Tryd.mixed rfl [(5, _)] ⟨rfl, trivial⟩ ?_
 refine Zak 0 rfl (by kernel_rfl) (Za (Zn)) (Zi rfl Tryd.f100' rfl (by decide) rfl) rfl ?_
 refine Zak 1 rfl (by kernel_rfl) (Za (Zn)) (Zl rfl Tryd.k98 rfl rfl rfl (vs := [_]) rfl rfl rfl) rfl ?_
 refine Zak 2 rfl (by kernel_rfl) (Za (Zn)) (Zae rfl rfl) rfl ?_
 refine Zak 3 rfl (by kernel_rfl) (Za (Zn)) (Zx rfl rfl Tryd.s58 rfl) rfl ?_
 refine Zak 4 rfl (by kernel_rfl) (Za (Zn)) (Zae rfl rfl) rfl ?_
 refine Zbi (i := 5) rfl rfl (by kernel_rfl) ?_
 refine Zbr (1) ⟨rfl, trivial⟩ Tryd.s118 Tryd.z120 rfl rfl (by first | rfl | omega) (by first | rfl | omega) (by omega) (by omega) rfl rfl rfl ?_
 intro ad26
 refine Zak 6 rfl (by kernel_rfl) (Za (Zn)) (Zas 15 rfl Tryd.s98 rfl rfl rfl (j := n) (by first | rfl | omega) (by omega)) rfl ?_
 refine ra_freezeW 26 rfl ?_
 intro u3 hle3 hs26
 refine Zbi (i := 7) rfl rfl (by kernel_rfl) ?_
 refine Zbe ⟨rfl, trivial⟩ rfl Tryd.k118 rfl rfl rfl (vs := [_]) rfl rfl (by first | rfl | assumption | simp [Value.oneCell', str]) (by first | omega | (rw [cF_len]; omega) | simp) (by first | exact cF_set (by omega) | rfl) ?_
 refine Zbn (by kernel_rfl) (ρ' := [(0, _), (1, _), (4, _), (5, _), (6, _)]) ⟨rfl, rfl, rfl, rfl, rfl, trivial⟩ ?_
 refine Zd (Ze (Zb (ym rfl rfl (Zg (Zx rfl rfl Tryd.s58 rfl) rfl (Zg (Zap rfl rfl rfl (Zk (by omega))) rfl ?_)))))
 refine Zt rfl rfl ?_
 refine Zbr (m + 1) trivial Tryd.s119 Tryd.z21 rfl rfl (by first | rfl | omega) (by first | rfl | omega) (by omega) (by omega) rfl rfl rfl ?_
 intro ad31
 rw [rep_cF, row0 (same := same) (n := n) (m := m)]
 refine ya rfl rfl (Zf (ρ' := [(0, _), (1, _), (4, _), (5, _), (6, _), (7, _)]) ⟨rfl, rfl, rfl, rfl, rfl, rfl, trivial⟩ ?_)
 refine Zd (Ze (Zb (ym rfl rfl (Zg (Zx rfl rfl Tryd.s58 rfl) rfl (Zg (Zap rfl rfl rfl (Zk (by omega))) rfl ?_)))))
 refine Zt rfl rfl ?_
 refine Zbr (m + 1) trivial Tryd.s119 Tryd.z21 rfl rfl (by first | rfl | omega) (by first | rfl | omega) (by omega) (by omega) rfl rfl rfl ?_
 intro ad35
 rw [rep_cF]
 refine ya rfl rfl (Zf (ρ' := [(0, _), (1, _), (4, _), (5, _), (6, _), (7, _), (8, _)]) ⟨rfl, rfl, rfl, rfl, rfl, rfl, rfl, trivial⟩ ?_)
 refine Zd (Ze (Ze (Zb (ym rfl rfl (Zg (Zx rfl rfl Tryd.s58 rfl) rfl (Zg (y_sub rfl rfl rfl (Zk (by omega))) rfl ?_))))))
 refine ya rfl rfl (Zf (ρ' := [(0, _), (1, _), (4, _), (5, _), (6, _), (7, _), (8, _), (9, _)]) ⟨rfl, rfl, rfl, rfl, rfl, rfl, rfl, rfl, trivial⟩ ?_)
 refine Zd (Zq ?_)
 refine Zaq (fun m_0 ρ σ u' => ∃ i7 : Nat, i7 + m_0 = n ∧ VLe u3 u' ∧ ∃ (a7 a8 : Option Addr) (R : Nat → Value) (g : Nat → Int), σ = [(4, (none, .box [.slice none 0 0])), (5, (none, .box [.slice ad15 (n + 1) (n + 1)])), (15, (none, .rwv (.slice ad15 (n + 1) (n + 1)) 118 1 (n + 1) (cF (n + 1) R))), (31, (none, .rwv (.slice a7 (m + 1) (m + 1)) 21 1 (m + 1) (cF (m + 1) (rowV same n m (n - i7) 0 (fun _ => 0))))), (35, (none, .rwv (.slice a8 (m + 1) (m + 1)) 21 1 (m + 1) (cF (m + 1) (fun k => Value.int .i32 (g k)))))] ∧ ρ = [(0, .v (.slice aA n cA)), (1, .v (.slice aB m cB)), (4, .p 4 0), (5, .p 5 0), (6, .v (.int .i64 1)), (7, .v (.slice a7 (m + 1) (m + 1))), (8, .v (.slice a8 (m + 1) (m + 1))), (9, .v (.int .i64 ((n : Int) - 1 - i7)))] ∧ (g m = 0 ∧ ∀ k, n - i7 ≤ k → k ≤ n → rowOk u' same n m k (R k))) (n) ?_ ?_
 ·
  refine ⟨[(0, _), (1, _), (4, _), (5, _), (6, _), (7, _), (8, _), (9, _)], [(4, _), (5, _), (15, _), (31, _), (35, _)], ⟨rfl, rfl, rfl, rfl, rfl, rfl, rfl, rfl, trivial⟩, ⟨rfl, rfl, rfl, rfl, rfl, trivial⟩, 0, by omega, VLe.refl _, _, _, _, fun _ => 0, (by first | rfl | simp), (by first | rfl | (simp only [List.cons.injEq, Prod.mk.injEq, SV.v.injEq, Value.int.injEq, true_and, and_true]; omega) | simp), ?_⟩
  refine ⟨rfl, fun k h1 h2 => ?_⟩
  obtain rfl : k = n := by omega
  simp only [if_true]
  exact rowOk_n hs26
 ·
  rintro mi7 ρ σ u' ⟨i7, hi7, hle7, a7, a8, R, g, rfl, rfl, ⟨hg, hR⟩⟩
  refine Ze (Ze (Zb (ym rfl rfl (Zg (y_geq rfl rfl rfl) rfl (Zf (ρ' := [(0, _), (1, _), (4, _), (5, _), (6, _), (7, _), (8, _), (9, _), (40, _)]) ⟨rfl, rfl, rfl, rfl, rfl, rfl, rfl, rfl, rfl, trivial⟩ ?_)))))
  refine Zd ?_
  refine Zw rfl (fun hb7 => ?_) (fun hb7 => ?_)
  ·
   have h7 := of_decide_eq_true hb7
   obtain ⟨I, hI⟩ : ∃ I : Nat, I + 1 + i7 = n := ⟨n - 1 - i7, by omega⟩
   have hI2 : n - i7 = I + 1 := by omega
   obtain ⟨uO, huO⟩ : ∃ x, x = u' := ⟨_, rfl⟩
   subst huO
   rw [show (n : Int) - 1 - i7 = (I : Int) by omega, hI2, row_start (same := same) (n := n) (I := I) hg]
   refine Zv (Zd (Ze (Zq (Ze (Zb (ym rfl rfl (Zt rfl rfl ?_)))))))
   refine Zbr (1) trivial Tryd.s118 Tryd.z120 rfl rfl (by first | rfl | omega) (by first | rfl | omega) (by omega) (by omega) rfl rfl rfl ?_
   intro ad44
   rw [show List.replicate 1 (Value.int .u64 0) = [Value.int .u64 ((2 ^ (m - 0) * bw (stp same n m I) 0 (m - 0) : Nat) : Int)] by simp [bw]]
   refine ya rfl rfl (Zf (ρ' := [(0, _), (1, _), (4, _), (5, _), (6, _), (7, _), (8, _), (9, _), (10, _)]) ⟨rfl, rfl, rfl, rfl, rfl, rfl, rfl, rfl, rfl, trivial⟩ ?_)
   refine Zd (Ze (Ze (Zb (ym rfl rfl (Zg (Zx rfl rfl Tryd.s58 rfl) rfl (Zg (y_sub rfl rfl rfl (Zk (by omega))) rfl ?_))))))
   refine ya rfl rfl (Zf (ρ' := [(0, _), (1, _), (4, _), (5, _), (6, _), (7, _), (8, _), (9, _), (10, _), (11, _)]) ⟨rfl, rfl, rfl, rfl, rfl, rfl, rfl, rfl, rfl, rfl, trivial⟩ ?_)
   refine Zd (Zq ?_)
   refine Zaq (fun m_0 ρ σ u' => ∃ c : Nat, c + m_0 = m ∧ VLe uO u' ∧ σ = [(4, (none, .box [.slice none 0 0])), (5, (none, .box [.slice ad15 (n + 1) (n + 1)])), (15, (none, .rwv (.slice ad15 (n + 1) (n + 1)) 118 1 (n + 1) (cF (n + 1) R))), (31, (none, .rwv (.slice a7 (m + 1) (m + 1)) 21 1 (m + 1) (cF (m + 1) (rowV same n m (I + 1) 0 (fun _ => 0))))), (35, (none, .rwv (.slice a8 (m + 1) (m + 1)) 21 1 (m + 1) (cF (m + 1) (rowV same n m I (m - c) g)))), (44, (none, .rwv (.slice ad44 1 1) 120 1 1 [Value.int .u64 ((2 ^ (m - c) * bw (stp same n m I) c (m - c) : Nat) : Int)]))] ∧ ρ = [(0, .v (.slice aA n cA)), (1, .v (.slice aB m cB)), (4, .p 4 0), (5, .p 5 0), (6, .v (.int .i64 1)), (7, .v (.slice a7 (m + 1) (m + 1))), (8, .v (.slice a8 (m + 1) (m + 1))), (9, .v (.int .i64 (I : Nat))), (10, .v (.slice ad44 1 1)), (11, .v (.int .i64 ((m : Int) - 1 - c)))] ∧ (True)) (m) ?_ ?_
   ·
    refine ⟨[(0, _), (1, _), (4, _), (5, _), (6, _), (7, _), (8, _), (9, _), (10, _), (11, _)], [(4, _), (5, _), (15, _), (31, _), (35, _), (44, _)], ⟨rfl, rfl, rfl, rfl, rfl, rfl, rfl, rfl, rfl, rfl, trivial⟩, ⟨rfl, rfl, rfl, rfl, rfl, rfl, trivial⟩, 0, by omega, VLe.refl _, (by first | rfl | simp), (by first | rfl | (simp only [List.cons.injEq, Prod.mk.injEq, SV.v.injEq, Value.int.injEq, true_and, and_true]; omega) | simp), ?_⟩
    trivial
   ·
    rintro mc ρ σ u' ⟨c, hi11, hle11, rfl, rfl, hinv11⟩
    refine Ze (Ze (Zb (ym rfl rfl (Zg (y_geq rfl rfl rfl) rfl (Zf (ρ' := [(0, _), (1, _), (4, _), (5, _), (6, _), (7, _), (8, _), (9, _), (10, _), (11, _), (49, _)]) ⟨rfl, rfl, rfl, rfl, rfl, rfl, rfl, rfl, rfl, rfl, rfl, trivial⟩ ?_)))))
    refine Zd ?_
    refine Zw rfl (fun hb11 => ?_) (fun hb11 => ?_)
    ·
     have h11 := of_decide_eq_true hb11
     obtain ⟨J, hJ⟩ : ∃ J : Nat, J + 1 + c = m := ⟨m - 1 - c, by omega⟩
     rw [show (m : Int) - 1 - c = (J : Int) by omega, show m - c = J + 1 by omega]
     have hJ2 : m - (c + 1) = J := by omega
     have hb1 := best_leM same n m _ (I + 1) J (Nat.le_refl _)
     have hb2 := best_leM same n m _ (I + 1) (J + 1) (Nat.le_refl _)
     have hst := best_step (same := same) (n := n) (m := m) (i := I) (k := J) (by omega) (by omega)
     refine Zv (Zd (Ze (Zq (Ze ?_))))
     refine Zbb Tryd.mixed rfl [(31, _)] ⟨rfl, trivial⟩ ?_
     refine Zak 0 rfl (by kernel_rfl) (Za (Zc (Za (Za (Zc (Za (Zc (Za (Za (Zc (Za (Zn)))))))))))) (Zae rfl rfl) rfl (Zak 1 rfl (by kernel_rfl) (Za (Zc (Za (Za (Zc (Za (Zc (Za (Za (Zc (Za (Zn)))))))))))) (Zae rfl rfl) rfl (Zak 2 rfl (by kernel_rfl) (Za (Zc (Za (Za (Zc (Za (Zc (Za (Za (Zc (Za (Zn)))))))))))) (Zae rfl rfl) rfl (Zak 3 rfl (by kernel_rfl) (Za (Zc (Za (Za (Zc (Za (Zc (Za (Za (Zc (Za (Zn)))))))))))) (Zae rfl rfl) rfl ?_)))
     refine Zak 4 rfl (by kernel_rfl) (Za (Zc (Za (Za (Zc (Za (Zc (Za (Za (Zc (Za (Zn)))))))))))) (Zas 31 rfl Tryd.s119 rfl rfl rfl (by first | rfl | omega) (by omega)) rfl ?_
     refine Zak 5 rfl (by kernel_rfl) (Za (Zc (Za (Za (Zc (Za (Zc (Za (Za (Zc (Za (Zn)))))))))))) (Zbk rfl Tryd.k21 rfl rfl rfl (rowV_at (Nat.zero_le _) (by omega)) rfl rfl (by rw [cF_len]; omega)) rfl ?_
     refine Zak 6 rfl (by kernel_rfl) (Za (Zc (Za (Za (Zc (Za (Zc (Za (Za (Zc (Za (Zn)))))))))))) (Zae rfl rfl) rfl (Zak 7 rfl (by kernel_rfl) (Za (Zc (Za (Za (Zc (Za (Zc (Za (Za (Zc (Za (Zn)))))))))))) (Zae rfl rfl) rfl ?_)
     refine Zak 8 rfl (by kernel_rfl) (Za (Zc (Za (Za (Zc (Za (Zc (Za (Za (Zc (Za (Zn)))))))))))) (Zap rfl rfl rfl (Zk (by omega))) rfl ?_
     refine Zak 9 rfl (by kernel_rfl) (Za (Zc (Za (Za (Zc (Za (Zc (Za (Za (Zc (Za (Zn)))))))))))) (Zas 35 rfl Tryd.s119 rfl rfl rfl (j := J + 1) (by first | rfl | omega) (by omega)) rfl ?_
     refine Zbi (i := 10) rfl rfl (by kernel_rfl) ?_
     refine do_y (Zbk rfl Tryd.k21 rfl rfl rfl (rowV_at (Nat.le_refl _) (by omega)) rfl rfl (by rw [cF_len]; omega)) rfl ?_
     refine Zak 11 rfl (by kernel_rfl) (Za (Zc (Za (Za (Zc (Za (Zc (Za (Za (Zc (Za (Zn)))))))))))) (y_max (r := ((max (best same n m (I + 1) J) (best same n m I (J + 1)) : Nat) : Int)) rfl rfl rfl (by split <;> omega)) rfl ?_
     refine Zak 12 rfl (by kernel_rfl) (Za (Zc (Za (Za (Zc (Za (Zc (Za (Za (Zc (Za (Zn)))))))))))) (Zas 35 rfl Tryd.s119 rfl rfl rfl (by first | rfl | omega) (by omega)) rfl ?_
     refine Zbi (i := 13) rfl rfl (by kernel_rfl) ?_
     refine Zbe ⟨rfl, trivial⟩ rfl Tryd.k21 rfl rfl rfl (vs := [_]) rfl rfl (by first | rfl | assumption | simp [Value.oneCell', str]) (by first | omega | (rw [cF_len]; omega) | simp) (by first | exact cF_set (by omega) | rfl) ?_
     refine Zbn (by kernel_rfl) (ρ' := [(0, _), (1, _), (4, _), (5, _), (6, _), (7, _), (8, _), (9, _), (10, _), (11, _)]) ⟨rfl, rfl, rfl, rfl, rfl, rfl, rfl, rfl, rfl, rfl, trivial⟩ ?_
     refine Zd ?_
     refine wc_cut (fun ρ σ uc16 => VLe u' uc16 ∧ σ = [(4, (none, .box [.slice none 0 0])), (5, (none, .box [.slice ad15 (n + 1) (n + 1)])), (15, (none, .rwv (.slice ad15 (n + 1) (n + 1)) 118 1 (n + 1) (cF (n + 1) R))), (31, (none, .rwv (.slice a7 (m + 1) (m + 1)) 21 1 (m + 1) (cF (m + 1) (rowV same n m (I + 1) 0 (fun _ => 0))))), (35, (none, .rwv (.slice a8 (m + 1) (m + 1)) 21 1 (m + 1) (cF (m + 1) (rowV same n m I J g)))), (44, (none, .rwv (.slice ad44 1 1) 120 1 1 [Value.int .u64 ((2 ^ (J + 1) * bw (stp same n m I) c (J + 1) : Nat) : Int)]))] ∧ ρ = [(0, .v (.slice aA n cA)), (1, .v (.slice aB m cB)), (4, .p 4 0), (5, .p 5 0), (6, .v (.int .i64 1)), (7, .v (.slice a7 (m + 1) (m + 1))), (8, .v (.slice a8 (m + 1) (m + 1))), (9, .v (.int .i64 (I : Nat))), (10, .v (.slice ad44 1 1)), (11, .v (.int .i64 (J : Nat)))] ∧ (True)) ?_ ?_
     ·
      refine Ze ?_
      obtain ⟨xI, hxI⟩ : ∃ x, xs[I]? = some x := ⟨_, List.getElem?_eq_getElem (by omega)⟩
      obtain ⟨yJ, hyJ⟩ : ∃ x, ys[J]? = some x := ⟨_, List.getElem?_eq_getElem (by omega)⟩
      have hmo := (hle3.trans hle7).trans hle11
      refine Zbb Tryd.mixed rfl [] trivial ?_
      refine Zak 0 rfl (by kernel_rfl) (Za (Za (Zc (Za (Za (Zc (Za (Zc (Za (Za (Zc (Za (Zn))))))))))))) (Zae rfl rfl) rfl (Zak 1 rfl (by kernel_rfl) (Za (Za (Zc (Za (Za (Zc (Za (Zc (Za (Za (Zc (Za (Zn))))))))))))) (Zae rfl rfl) rfl ?_)
      refine Zak 2 rfl (by kernel_rfl) (Za (Za (Zc (Za (Za (Zc (Za (Zc (Za (Za (Zc (Za (Zn))))))))))))) (Zs rfl Tryd.s58 rfl rfl (hA.mono hmo) rfl (by omega)) rfl ?_
      refine Zak 3 rfl (by kernel_rfl) (Za (Za (Zc (Za (Za (Zc (Za (Zc (Za (Za (Zc (Za (Zn))))))))))))) (Zr rfl Tryd.k3 rfl (hA.mono hmo) (by omega) (intC_cut hxI) (vs := [_]) rfl rfl rfl rfl) rfl ?_
      refine Zak 4 rfl (by kernel_rfl) (Za (Za (Zc (Za (Za (Zc (Za (Zc (Za (Za (Zc (Za (Zn))))))))))))) (Zae rfl rfl) rfl (Zak 5 rfl (by kernel_rfl) (Za (Za (Zc (Za (Za (Zc (Za (Zc (Za (Za (Zc (Za (Zn))))))))))))) (Zae rfl rfl) rfl ?_)
      refine Zak 6 rfl (by kernel_rfl) (Za (Za (Zc (Za (Za (Zc (Za (Zc (Za (Za (Zc (Za (Zn))))))))))))) (Zs rfl Tryd.s58 rfl rfl (hB.mono hmo) rfl (by omega)) rfl ?_
      refine Zak 7 rfl (by kernel_rfl) (Za (Za (Zc (Za (Za (Zc (Za (Zc (Za (Za (Zc (Za (Zn))))))))))))) (Zr rfl Tryd.k3 rfl (hB.mono hmo) (by omega) (intC_cut hyJ) (vs := [_]) rfl rfl rfl rfl) rfl ?_
      refine Zak 8 rfl (by kernel_rfl) (Za (Za (Zc (Za (Za (Zc (Za (Zc (Za (Za (Zc (Za (Zn))))))))))))) (Zbl rfl rfl rfl) rfl ?_
      refine Zbn (by kernel_rfl) (ρ' := [(0, _), (1, _), (4, _), (5, _), (6, _), (7, _), (8, _), (9, _), (10, _), (11, _), (73, _)]) ⟨rfl, rfl, rfl, rfl, rfl, rfl, rfl, rfl, rfl, rfl, rfl, trivial⟩ ?_
      refine Zd ?_
      refine Zw rfl (fun hb14 => ?_) (fun hb14 => ?_)
      ·
       have hsm : same I J = true := by rw [hsame]; simpa [sameI, hxI, hyJ] using of_decide_eq_true hb14
       rw [if_pos hsm] at hst
       refine Zbb Tryd.mixed rfl [(31, _)] ⟨rfl, trivial⟩ ?_
       refine Zak 0 rfl (by kernel_rfl) (Za (Zc (Za (Za (Zc (Za (Zc (Za (Za (Zc (Za (Zn)))))))))))) (Zae rfl rfl) rfl (Zak 1 rfl (by kernel_rfl) (Za (Zc (Za (Za (Zc (Za (Zc (Za (Za (Zc (Za (Zn)))))))))))) (Zae rfl rfl) rfl (Zak 2 rfl (by kernel_rfl) (Za (Zc (Za (Za (Zc (Za (Zc (Za (Za (Zc (Za (Zn)))))))))))) (Zae rfl rfl) rfl (Zak 3 rfl (by kernel_rfl) (Za (Zc (Za (Za (Zc (Za (Zc (Za (Za (Zc (Za (Zn)))))))))))) (Zae rfl rfl) rfl ?_)))
       refine Zak 4 rfl (by kernel_rfl) (Za (Zc (Za (Za (Zc (Za (Zc (Za (Za (Zc (Za (Zn)))))))))))) (Zas 35 rfl Tryd.s119 rfl rfl rfl (by first | rfl | omega) (by omega)) rfl ?_
       refine Zak 6 rfl (by kernel_rfl) (Za (Zc (Za (Za (Zc (Za (Zc (Za (Za (Zc (Za (Zn)))))))))))) (Zae rfl rfl) rfl (Zak 7 rfl (by kernel_rfl) (Za (Zc (Za (Za (Zc (Za (Zc (Za (Za (Zc (Za (Zn)))))))))))) (Zae rfl rfl) rfl ?_)
       refine Zak 8 rfl (by kernel_rfl) (Za (Zc (Za (Za (Zc (Za (Zc (Za (Za (Zc (Za (Zn)))))))))))) (Zap rfl rfl rfl (Zk (by omega))) rfl ?_
       refine Zak 9 rfl (by kernel_rfl) (Za (Zc (Za (Za (Zc (Za (Zc (Za (Za (Zc (Za (Zn)))))))))))) (Zas 31 rfl Tryd.s119 rfl rfl rfl (j := J + 1) (by first | rfl | omega) (by omega)) rfl ?_
       refine Zak 10 rfl (by kernel_rfl) (Za (Zc (Za (Za (Zc (Za (Zc (Za (Za (Zc (Za (Zn)))))))))))) (Zbk rfl Tryd.k21 rfl rfl rfl (rowV_at (Nat.zero_le _) (by omega)) rfl rfl (by rw [cF_len]; omega)) rfl ?_
       refine Zak 11 rfl (by kernel_rfl) (Za (Zc (Za (Za (Zc (Za (Zc (Za (Za (Zc (Za (Zn)))))))))))) (Zap (r := ((best same n m (I + 1) (J + 1) + 1 : Nat) : Int)) rfl rfl rfl (i32N (by omega) (by omega))) rfl ?_
       refine Zbi (i := 5) rfl rfl (by kernel_rfl) ?_
       refine do_y (Zbk rfl Tryd.k21 rfl rfl rfl ((cF_cut (by omega)).trans (congrArg (fun x => [x]) (if_pos rfl))) rfl rfl (by rw [cF_len]; omega)) rfl ?_
       refine Zak 12 rfl (by kernel_rfl) (Za (Zc (Za (Za (Zc (Za (Zc (Za (Za (Zc (Za (Zn)))))))))))) (y_max (r := ((max (max (best same n m (I + 1) J) (best same n m I (J + 1))) (best same n m (I + 1) (J + 1) + 1) : Nat) : Int)) rfl rfl rfl (by split <;> omega)) rfl ?_
       refine Zak 13 rfl (by kernel_rfl) (Za (Zc (Za (Za (Zc (Za (Zc (Za (Za (Zc (Za (Zn)))))))))))) (Zas 35 rfl Tryd.s119 rfl rfl rfl (by first | rfl | omega) (by omega)) rfl ?_
       refine Zbi (i := 14) rfl rfl (by kernel_rfl) ?_
       refine Zbe ⟨rfl, trivial⟩ rfl Tryd.k21 rfl rfl rfl (vs := [_]) rfl rfl (by first | rfl | assumption | simp [Value.oneCell', str]) (by first | omega | (rw [cF_len]; omega) | simp) (by first | exact cF_set (by omega) | rfl) ?_
       rw [row_put2 (v := max (max (best same n m (I + 1) J) (best same n m I (J + 1))) (best same n m (I + 1) (J + 1) + 1)) (by omega)]
       refine Zbn (by kernel_rfl) (ρ' := [(0, _), (1, _), (4, _), (5, _), (6, _), (7, _), (8, _), (9, _), (10, _), (11, _)]) ⟨rfl, rfl, rfl, rfl, rfl, rfl, rfl, rfl, rfl, rfl, trivial⟩ ?_
       refine Zab ?_
       refine ⟨[(0, _), (1, _), (4, _), (5, _), (6, _), (7, _), (8, _), (9, _), (10, _), (11, _)], [(4, _), (5, _), (15, _), (31, _), (35, _), (44, _)], ⟨rfl, rfl, rfl, rfl, rfl, rfl, rfl, rfl, rfl, rfl, trivial⟩, ⟨rfl, rfl, rfl, rfl, rfl, rfl, trivial⟩, (VLe.refl _), (by first | rfl | simp), (by first | rfl | (simp only [List.cons.injEq, Prod.mk.injEq, SV.v.injEq, Value.int.injEq, true_and, and_true]; omega) | simp), ?_⟩
       trivial
      ·
       have hsm : same I J = false := by rw [hsame]; simpa [sameI, hxI, hyJ] using of_decide_eq_false hb14
       rw [if_neg (by rw [hsm]; decide)] at hst
       rw [row_put (v := max (best same n m (I + 1) J) (best same n m I (J + 1))) (by omega)]
       refine Zv (Zab ?_)
       refine ⟨[(0, _), (1, _), (4, _), (5, _), (6, _), (7, _), (8, _), (9, _), (10, _), (11, _)], [(4, _), (5, _), (15, _), (31, _), (35, _), (44, _)], ⟨rfl, rfl, rfl, rfl, rfl, rfl, rfl, rfl, rfl, rfl, trivial⟩, ⟨rfl, rfl, rfl, rfl, rfl, rfl, trivial⟩, (VLe.refl _), (by first | rfl | simp), (by first | rfl | (simp only [List.cons.injEq, Prod.mk.injEq, SV.v.injEq, Value.int.injEq, true_and, and_true]; omega) | simp), ?_⟩
       trivial
     ·
      rintro ρ σ uc16 ⟨hlc16, rfl, rfl, hc16⟩
      refine Ze ?_
      refine Zbb Tryd.mixed rfl [(35, _)] ⟨rfl, trivial⟩ ?_
      refine Zak 0 rfl (by kernel_rfl) (Za (Zc (Za (Za (Zc (Za (Zc (Za (Za (Zc (Za (Zn)))))))))))) (Zae rfl rfl) rfl (Zak 1 rfl (by kernel_rfl) (Za (Zc (Za (Za (Zc (Za (Zc (Za (Za (Zc (Za (Zn)))))))))))) (Zae rfl rfl) rfl ?_)
      refine Zak 2 rfl (by kernel_rfl) (Za (Zc (Za (Za (Zc (Za (Zc (Za (Za (Zc (Za (Zn)))))))))))) (Zas 35 rfl Tryd.s119 rfl rfl rfl (by first | rfl | omega) (by omega)) rfl ?_
      refine Zak 3 rfl (by kernel_rfl) (Za (Zc (Za (Za (Zc (Za (Zc (Za (Za (Zc (Za (Zn)))))))))))) (Zbk rfl Tryd.k21 rfl rfl rfl (rowV_at (Nat.le_refl _) (by omega)) rfl rfl (by rw [cF_len]; omega)) rfl ?_
      refine Zak 4 rfl (by kernel_rfl) (Za (Zc (Za (Za (Zc (Za (Zc (Za (Za (Zc (Za (Zn)))))))))))) (Zae rfl rfl) rfl (Zak 5 rfl (by kernel_rfl) (Za (Zc (Za (Za (Zc (Za (Zc (Za (Za (Zc (Za (Zn)))))))))))) (Zae rfl rfl) rfl ?_)
      refine Zak 6 rfl (by kernel_rfl) (Za (Zc (Za (Za (Zc (Za (Zc (Za (Za (Zc (Za (Zn)))))))))))) (Zap rfl rfl rfl (Zk (by omega))) rfl ?_
      refine Zak 7 rfl (by kernel_rfl) (Za (Zc (Za (Za (Zc (Za (Zc (Za (Za (Zc (Za (Zn)))))))))))) (Zas 35 rfl Tryd.s119 rfl rfl rfl (j := J + 1) (by first | rfl | omega) (by omega)) rfl ?_
      refine Zak 8 rfl (by kernel_rfl) (Za (Zc (Za (Za (Zc (Za (Zc (Za (Za (Zc (Za (Zn)))))))))))) (Zbk rfl Tryd.k21 rfl rfl rfl (rowV_at (Nat.le_succ _) (by omega)) rfl rfl (by rw [cF_len]; omega)) rfl ?_
      refine Zak 9 rfl (by kernel_rfl) (Za (Zc (Za (Za (Zc (Za (Zc (Za (Za (Zc (Za (Zn)))))))))))) (y_gtr rfl rfl rfl) rfl ?_
      refine Zbn (by kernel_rfl) (ρ' := [(0, _), (1, _), (4, _), (5, _), (6, _), (7, _), (8, _), (9, _), (10, _), (11, _), (97, _)]) ⟨rfl, rfl, rfl, rfl, rfl, rfl, rfl, rfl, rfl, rfl, rfl, trivial⟩ ?_
      refine Zd ?_
      refine Zw rfl (fun hb16 => ?_) (fun hb16 => ?_)
      ·
       have hsp : stp same n m I J = true := by have := of_decide_eq_true hb16; simp only [stp, decide_eq_true_eq]; omega
       have hw1 := bw_lt (stp same n m I) (c + 1) J
       have hw2 : 2 ^ J * bw (stp same n m I) (c + 1) J < 2 ^ J * 2 ^ (c + 1) := Nat.mul_lt_mul_of_pos_left hw1 (Nat.two_pow_pos _)
       have hw5 := bw_lt (stp same n m I) c (J + 1)
       have hw6 : 2 ^ (J + 1) * bw (stp same n m I) c (J + 1) < 2 ^ (J + 1) * 2 ^ c := Nat.mul_lt_mul_of_pos_left hw5 (Nat.two_pow_pos _)
       rw [← Nat.pow_add] at hw2 hw6
       have hw3 : 2 ^ (J + (c + 1)) ≤ 2 ^ 31 := Nat.pow_le_pow_right (by omega) (by omega)
       have hw7 : 2 ^ (J + 1 + c) ≤ 2 ^ 31 := Nat.pow_le_pow_right (by omega) (by omega)
       have hw4 : 2 ^ J ≤ 2 ^ 31 := Nat.pow_le_pow_right (by omega) (by omega)
       refine Zbb Tryd.mixed rfl [] trivial ?_
       refine Zak 0 rfl (by kernel_rfl) (Zc (Za (Za (Zc (Za (Zc (Za (Za (Zc (Za (Zn))))))))))) (Zae rfl rfl) rfl (Zak 1 rfl (by kernel_rfl) (Zc (Za (Za (Zc (Za (Zc (Za (Za (Zc (Za (Zn))))))))))) (Zae rfl rfl) rfl ?_)
       refine Zak 2 rfl (by kernel_rfl) (Zc (Za (Za (Zc (Za (Zc (Za (Za (Zc (Za (Zn))))))))))) (y_quoE rfl rfl rfl (by omega) (by omega) (by omega)) rfl ?_
       rw [show (J : Int) / 64 = 0 by omega]
       refine Zak 3 rfl (by kernel_rfl) (Zc (Za (Za (Zc (Za (Zc (Za (Za (Zc (Za (Zn))))))))))) (Zas 44 rfl Tryd.s118 rfl rfl rfl (j := 0) (by first | rfl | omega) (by omega)) rfl ?_
       refine Zak 5 rfl (by kernel_rfl) (Zc (Za (Za (Zc (Za (Zc (Za (Za (Zc (Za (Zn))))))))))) (Zae rfl rfl) rfl ?_
       refine Zak 6 rfl (by kernel_rfl) (Zc (Za (Za (Zc (Za (Zc (Za (Za (Zc (Za (Zn))))))))))) (y_remE rfl rfl rfl (by omega) (by omega)) rfl ?_
       rw [show (J : Int) % 64 = (J : Int) by omega]
       refine Zak 7 rfl (by kernel_rfl) (Zc (Za (Za (Zc (Za (Zc (Za (Za (Zc (Za (Zn))))))))))) (y_shlN (n := 1) (c := J) (r := 1 * 2 ^ J) rfl rfl rfl (by omega) rfl (by omega)) rfl ?_
       refine Zbi (i := 4) rfl rfl (by kernel_rfl) ?_
       refine do_y (Zbk rfl Tryd.k120 rfl rfl rfl (vs := [_]) rfl rfl rfl (by simp)) rfl ?_
       refine Zak 8 rfl (by kernel_rfl) (Zc (Za (Za (Zc (Za (Zc (Za (Za (Zc (Za (Zn))))))))))) (y_orN (r := 2 ^ J * bw (stp same n m I) (c + 1) J) rfl rfl rfl (set_put hsp) (by omega) (by omega)) rfl ?_
       refine Zak 9 rfl (by kernel_rfl) (Zc (Za (Za (Zc (Za (Zc (Za (Za (Zc (Za (Zn))))))))))) (Zas 44 rfl Tryd.s118 rfl rfl rfl (j := 0) (by first | rfl | omega) (by omega)) rfl ?_
       refine Zbi (i := 10) rfl rfl (by kernel_rfl) ?_
       refine Zbe trivial rfl Tryd.k120 rfl rfl rfl (vs := [_]) rfl rfl (by first | rfl | assumption | simp [Value.oneCell', str]) (by first | omega | (rw [cF_len]; omega) | simp) (set1 _ _) ?_
       refine Zbn (by kernel_rfl) (ρ' := [(0, _), (1, _), (4, _), (5, _), (6, _), (7, _), (8, _), (9, _), (10, _), (11, _)]) ⟨rfl, rfl, rfl, rfl, rfl, rfl, rfl, rfl, rfl, rfl, trivial⟩ ?_
       refine Zah (Zd (Zb (ym rfl rfl (Zg (y_sub rfl rfl rfl (Zk (by omega))) rfl ?_))))
       refine ya rfl rfl (Zf (ρ' := [(0, _), (1, _), (4, _), (5, _), (6, _), (7, _), (8, _), (9, _), (10, _), (11, _)]) ⟨rfl, rfl, rfl, rfl, rfl, rfl, rfl, rfl, rfl, rfl, trivial⟩ ?_)
       refine Zab ?_
       refine ⟨mc - 1, [(0, _), (1, _), (4, _), (5, _), (6, _), (7, _), (8, _), (9, _), (10, _), (11, _)], [(4, _), (5, _), (15, _), (31, _), (35, _), (44, _)], by omega, ⟨rfl, rfl, rfl, rfl, rfl, rfl, rfl, rfl, rfl, rfl, trivial⟩, ⟨rfl, rfl, rfl, rfl, rfl, rfl, trivial⟩, c + 1, by omega, (hle11.trans hlc16), (by rw [hJ2]), (by first | rfl | (simp only [List.cons.injEq, Prod.mk.injEq, SV.v.injEq, Value.int.injEq, true_and, and_true]; omega)), ?_⟩
       trivial
      ·
       have hsp : stp same n m I J = false := by have := of_decide_eq_false hb16; simp only [stp, decide_eq_false_iff_not]; omega
       rw [set_skip hsp]
       refine Zv (Zah (Zd (Zb (ym rfl rfl (Zg (y_sub rfl rfl rfl (Zk (by omega))) rfl ?_)))))
       refine ya rfl rfl (Zf (ρ' := [(0, _), (1, _), (4, _), (5, _), (6, _), (7, _), (8, _), (9, _), (10, _), (11, _)]) ⟨rfl, rfl, rfl, rfl, rfl, rfl, rfl, rfl, rfl, rfl, trivial⟩ ?_)
       refine Zab ?_
       refine ⟨mc - 1, [(0, _), (1, _), (4, _), (5, _), (6, _), (7, _), (8, _), (9, _), (10, _), (11, _)], [(4, _), (5, _), (15, _), (31, _), (35, _), (44, _)], by omega, ⟨rfl, rfl, rfl, rfl, rfl, rfl, rfl, rfl, rfl, rfl, trivial⟩, ⟨rfl, rfl, rfl, rfl, rfl, rfl, trivial⟩, c + 1, by omega, (hle11.trans hlc16), (by rw [hJ2]), (by first | rfl | (simp only [List.cons.injEq, Prod.mk.injEq, SV.v.injEq, Value.int.injEq, true_and, and_true]; omega)), ?_⟩
       trivial
    ·
     have h11 := of_decide_eq_false hb11
     have hcm : c = m := by omega
     rw [hcm, Nat.sub_self, Nat.pow_zero, Nat.one_mul, row_full (same := same) (n := n) (m := m) (I := I) (g := g)]
     refine Zan ?_
     refine Zh (Zh ?_)
     refine Zu ?_
     refine Zd (Ze (Zb (Zg (Zi rfl Tryd.f100' rfl (by decide) rfl) rfl (Zg (Zl rfl Tryd.k98 rfl rfl rfl (vs := [_]) rfl rfl rfl) rfl (ym rfl rfl (ym rfl rfl (Zg (Zas 15 rfl Tryd.s98 rfl rfl rfl (j := I) (by first | rfl | omega) (by omega)) rfl ?_)))))))
     refine Zbj 44 rfl ?_
     intro u18 hle18 hs44
     refine Zt rfl rfl ?_
     refine Zbe trivial rfl Tryd.k118 rfl rfl rfl (vs := [_]) rfl rfl (by first | rfl | assumption | simp [Value.oneCell', str]) (by first | omega | (rw [cF_len]; omega) | simp) (by first | exact cF_set (by omega) | rfl) ?_
     refine Zf (ρ' := [(0, _), (1, _), (4, _), (5, _), (6, _), (7, _), (8, _), (9, _)]) ⟨rfl, rfl, rfl, rfl, rfl, rfl, rfl, rfl, trivial⟩ ?_
     refine Zd (Zb (ym rfl rfl (ym rfl rfl (ya rfl rfl (ya rfl rfl ?_)))))
     refine Zbu 31 900 rfl rfl rfl ?_
     refine Zbu 35 31 rfl rfl rfl ?_
     refine Zbu 900 35 rfl rfl rfl ?_
     refine Zf (ρ' := [(0, _), (1, _), (4, _), (5, _), (6, _), (7, _), (8, _), (9, _)]) ⟨rfl, rfl, rfl, rfl, rfl, rfl, rfl, rfl, trivial⟩ ?_
     refine Zah (Zd (Zb (ym rfl rfl (Zg (y_sub rfl rfl rfl (Zk (by omega))) rfl ?_))))
     refine ya rfl rfl ?_
     rw [show (I : Int) - 1 = (n : Int) - 1 - ((i7 + 1 : Nat) : Int) by omega]
     refine Zf (ρ' := [(0, _), (1, _), (4, _), (5, _), (6, _), (7, _), (8, _), (9, _)]) ⟨rfl, rfl, rfl, rfl, rfl, rfl, rfl, rfl, trivial⟩ ?_
     refine Zab ?_
     refine ⟨mi7 - 1, [(0, _), (1, _), (4, _), (5, _), (6, _), (7, _), (8, _), (9, _)], [(4, _), (5, _), (15, _), (31, _), (35, _)], by omega, ⟨rfl, rfl, rfl, rfl, rfl, rfl, rfl, rfl, trivial⟩, ⟨rfl, rfl, rfl, rfl, rfl, trivial⟩, i7 + 1, by omega, (hle7.trans (hle11.trans hle18)), _, _, _, fun k => if 0 ≤ k then ((best same n m (I + 1) k : Nat) : Int) else 0, (by rw [show n - (i7 + 1) = I by omega]; rfl), (by first | rfl | (simp only [List.cons.injEq, Prod.mk.injEq, SV.v.injEq, Value.int.injEq, true_and, and_true]; omega)), ?_⟩
     refine ⟨by simp [best_end (same := same) (n := n) (m := m) (i := I + 1) (k := m) (.inr (Nat.le_refl _))], fun k h1 h2 => ?_⟩
     by_cases e : k = I
     ·
      subst e
      simp only [if_true]
      obtain ⟨ad, cap, he, hsl⟩ := hs44
      exact ⟨ad, cap, he, hsl⟩
     ·
      simp only [if_neg e]
      exact (hR k (by omega) h2).mono (hle11.trans hle18)
  ·
   have h7 := of_decide_eq_false hb7
   refine Zan ?_
   refine Zh (Zh ?_)
   refine Zu ?_
   refine Zd (Ze (Zb (Zg (Zl rfl Tryd.k100 rfl rfl rfl (vs := [_]) rfl rfl rfl) rfl ?_)))
   refine Zbj 15 rfl ?_
   intro uF hleF hs15
   refine Zt rfl rfl ?_
   refine Zao trivial rfl Tryd.k100 rfl rfl rfl (vs := [_]) rfl rfl (by first | rfl | assumption | simp [Value.oneCell', str]) (Nat.le_of_ble_eq_true rfl) rfl ?_
   refine Zf (ρ' := [(4, _)]) ⟨rfl, trivial⟩ ?_
   refine Zd (Zaj ?_)
   refine Zbf (.cell rfl rfl Tryd.k100 (cs := _) (vs := [_]) rfl rfl rfl) ?_
   obtain ⟨ad, cap, he, hsl⟩ := hs15
   cases he
   exact ⟨_, _, _, rfl, hsl, fun k hk => ⟨_, cF_get (by omega), (hR k (by omega) hk).mono hleF⟩⟩
end Go.Proofs.Ytekkhlepbacapaa
namespace Go.Proofs.Ytekkhlepbacapaa
open Go Go.Eng
set_option linter.unusedSimpArgs false
set_option linter.unusedVariables false
set_option maxRecDepth 4000
theorem keyB_s (a b : Bs) : keyB (str a) (str b) = decide (a = b) := by
 show ((⟨a.toArray⟩ : ByteArray) == ⟨b.toArray⟩) = decide (a = b)
 rw [bytes_beq]
 by_cases h : a = b
 ·
  subst h; simp
 ·
  rw [decide_eq_false h, beq_eq_false_iff_ne]
  intro e
  exact h (by simpa using e)
structure NumM (kvs : List (Value × Value)) (f : Bs → Option Nat) : Prop where
 keys : ∀ p ∈ kvs, ∃ s : Bs, p.1 = str s
 get : ∀ s, mget kvs (str s) = (f s).map fun (n : Nat) => Value.int .i64 (n : Int)
 lt : ∀ s n, f s = some n → n < kvs.length
 inj : ∀ s t n, f s = some n → f t = some n → s = t
theorem NumM.all {kvs : List (Value × Value)} {f : Bs → Option Nat} (h : NumM kvs f) : kvs.all (fun p => isKey .string p.1) = true := by
 rw [List.all_eq_true]
 intro p hp
 obtain ⟨s, hs⟩ := h.keys p hp
 rw [hs]; rfl
theorem NumM.nil : NumM [] (fun _ => none) := ⟨fun p hp => (by cases hp), fun s => rfl, fun s n h => (by cases h), fun s t n h => (by cases h)⟩
theorem fnd_app (k : Value) (q : Value × Value) : ∀ (l : List (Value × Value)) (i : Nat), fnd k (l ++ [q]) i = match fnd k l i with | some x => some x | none => if keyB k q.1 = true then some (i + l.length, q.2) else none
 | [], i => by
  simp only [List.nil_append, fnd, List.length_nil, Nat.add_zero]
  cases keyB k q.1 <;> simp
 | p :: l, i => by
  simp only [List.cons_append, fnd]
  cases keyB k p.1 with
  | true => rfl
  | false =>
   simp only
   rw [fnd_app k q l (i + 1)]
   simp only [List.length_cons]
   rw [show i + 1 + l.length = i + (l.length + 1) by omega]
theorem mget_app (k : Value) (q : Value × Value) (l : List (Value × Value)) : mget (l ++ [q]) k = match mget l k with | some x => some x | none => if keyB k q.1 = true then some q.2 else none := by
 unfold mget
 rw [fnd_app]
 cases fnd k l 0 with
 | none => simp only [Option.map_none]; split <;> simp
 | some x => simp
def upF (f : Bs → Option Nat) (s : Bs) (c : Nat) : Bs → Option Nat := fun t => if t = s then some c else f t
theorem NumM.put {kvs : List (Value × Value)} {f : Bs → Option Nat} (h : NumM kvs f) {s : Bs} (hs : f s = none) : NumM (mset kvs (str s) (.int .i64 ((kvs.length : Nat) : Int))) (upF f s kvs.length) := by
 have hm : mset kvs (str s) (.int .i64 ((kvs.length : Nat) : Int)) = kvs ++ [(str s, .int .i64 ((kvs.length : Nat) : Int))] := by
  have hg := h.get s
  rw [hs] at hg
  unfold mget at hg
  refine mset_none kvs 0 ?_
  cases hf : fnd (str s) kvs 0 with
  | none => rfl
  | some x => rw [hf] at hg; cases hg
 rw [hm]
 refine ⟨fun p hp => ?_, fun t => ?_, fun t n ht => ?_, fun t t' n ht ht' => ?_⟩
 ·
  rcases List.mem_append.1 hp with hp | hp
  ·
   exact h.keys p hp
  ·
   rw [List.mem_singleton.1 hp]; exact ⟨s, rfl⟩
 ·
  rw [mget_app, h.get t, keyB_s]
  unfold upF
  by_cases e : t = s
  ·
   subst e; simp [hs]
  ·
   simp only [if_neg e]
   cases f t <;> simp [e]
 ·
  unfold upF at ht
  simp only [List.length_append, List.length_cons, List.length_nil]
  split at ht
  ·
   cases ht; omega
  ·
   have := h.lt t n ht; omega
 ·
  unfold upF at ht ht'
  split at ht <;> split at ht'
  ·
   rename_i e e'; rw [e, e']
  ·
   cases ht; have := h.lt t' _ ht'; omega
  ·
   cases ht'; have := h.lt t _ ht; omega
  ·
   exact h.inj t t' n ht ht'
def extF (f g : Bs → Option Nat) : Prop := ∀ s n, f s = some n → g s = some n
theorem upF_ext {f : Bs → Option Nat} {s : Bs} {c : Nat} (hs : f s = none) : extF f (upF f s c) := by
 intro t n ht
 unfold upF
 rw [if_neg (fun e => by rw [e, hs] at ht; cases ht)]
 exact ht
theorem getD_num (o : Option Nat) : ((o.map fun (n : Nat) => Value.int .i64 (n : Int)).getD (.int .i64 0)) = .int .i64 ((o.getD 0 : Nat) : Int) := by cases o <;> rfl
theorem isSome_num (o : Option Nat) : (o.map fun (n : Nat) => Value.int .i64 (n : Int)).isSome = o.isSome := by cases o <;> rfl
theorem strsC_cut {l : List Bs} {t : Nat} {s : Bs} (h : l[t]? = some s) : cut (strsC l) (t * 1) 1 = [str s] := by
 refine cut_one ?_
 simp [strsC, h]
theorem cF_int (n : Nat) (h : Nat → Int) : cF n (fun k => Value.int .i64 (h k)) = intC ((List.range n).map h) := by simp [cF, intC]
theorem cF_upI (n i : Nat) (x : Int) (h : Nat → Int) : cF n (fun k => if k = i then Value.int .i64 x else Value.int .i64 (h k)) = cF n (fun k => Value.int .i64 (if k = i then x else h k)) := by
 refine cF_ext fun k hk => ?_
 split <;> rfl
theorem mset_len {k v : Value} : ∀ l : List (Value × Value), (mset l k v).length ≤ l.length + 1
 | [] => by simp [mset]
 | p :: l => by
  have := mset_len (k := k) (v := v) l
  simp only [mset]
  split <;> simp only [List.length_cons] <;> omega
set_option maxHeartbeats 2000000 in
theorem numbers_fn (b : Nat) (kvs : List (Value × Value)) (f : Bs → Option Nat) (hM : NumM kvs f) (hk : kvs.length ≤ 1000) (l : List Bs) (hl : l.length ≤ 1000) (v : Value) (u : View) (ha : StrS u v l) :
  FnO Tryd.prog 29 [.map (some b), v] u [(some b, .mp kvs)] fun r u' l' => ∃ kvs' f' ns, l' = [(some b, .mp kvs')] ∧ NumM kvs' f' ∧ extF f f' ∧ kvs'.length ≤ kvs.length + l.length ∧ IsSl u' r l.length 1 (intC ns) ∧ ns.length = l.length ∧ ∀ (i : Nat) (s : Bs), l[i]? = some s → ∃ n : Nat, ns[i]? = some (n : Int) ∧ f' s = some n := by
 obtain ⟨ad, cap, rfl, h1⟩ := ha
 refine FnO.intro [.tmp 4] Tryd.func29 rfl rfl rfl ?_
 intro w0 D hw0
 refine wc_pinM 0 1000 _ rfl rfl ?_
 refine Ze (Zb (ya rfl rfl (Zf (ρ' := [(0, _), (1, _)]) ⟨rfl, rfl, trivial⟩ ?_)))
 refine Zd (Ze (Zb (ym rfl rfl (Zg (Zx rfl rfl Tryd.s22 rfl) rfl (Zt rfl rfl ?_)))))
 refine Zbr (l.length) trivial Tryd.s58 Tryd.z3 rfl rfl (by first | rfl | omega) (by first | rfl | omega) (by omega) (by omega) rfl rfl rfl ?_
 intro ad12
 rw [rep_cF]
 refine ya rfl rfl (Zf (ρ' := [(0, _), (1, _), (5, _)]) ⟨rfl, rfl, rfl, trivial⟩ ?_)
 refine Zd (Ze (Ze (Zb (ym rfl rfl (Zg (Zx rfl rfl Tryd.s22 rfl) rfl (ym rfl rfl (Zf (ρ' := [(0, _), (5, _), (13, _), (14, _), (15, _)]) ⟨rfl, rfl, rfl, rfl, rfl, trivial⟩ ?_)))))))
 refine Zd (Zq ?_)
 refine Zaq (fun m_0 ρ σ u' => ∃ i : Nat, i + m_0 = l.length ∧ VLe u u' ∧ ∃ (ks : List (Value × Value)) (g : Bs → Option Nat) (h : Nat → Int), σ = [(1000, (some b, .mp ks)), (12, (none, .rwv (.slice ad12 l.length l.length) 3 1 l.length (cF l.length (fun k => Value.int .i64 (h k)))))] ∧ ρ = [(0, .m 1000), (5, .v (.slice ad12 l.length l.length)), (13, .v (.slice ad l.length cap)), (14, .v (.int .i64 l.length)), (15, .v (.int .i64 i))] ∧ (NumM ks g ∧ extF f g ∧ ks.length ≤ kvs.length + i ∧ ∀ k, k < i → ∃ (s : Bs) (n : Nat), l[k]? = some s ∧ h k = (n : Int) ∧ g s = some n)) (l.length) ?_ ?_
 ·
  refine ⟨[(0, _), (5, _), (13, _), (14, _), (15, _)], [(1000, _), (12, _)], ⟨rfl, rfl, rfl, rfl, rfl, trivial⟩, ⟨rfl, rfl, trivial⟩, 0, by omega, VLe.refl _, kvs, f, fun _ => 0, (by first | rfl | simp), (by first | rfl | (simp only [List.cons.injEq, Prod.mk.injEq, SV.v.injEq, Value.int.injEq, true_and, and_true]; omega) | simp), ?_⟩
  exact ⟨hM, fun s n h => h, by omega, fun k hk => by omega⟩
 ·
  rintro m ρ σ u' ⟨i, hi3, hle3, ks, g, h, rfl, rfl, ⟨hG, hext, hlen, hdone⟩⟩
  refine Ze (Zb (Zg (Zav rfl rfl rfl) rfl (Zf (ρ' := [(0, _), (5, _), (13, _), (14, _), (15, _), (16, _)]) ⟨rfl, rfl, rfl, rfl, rfl, rfl, trivial⟩ ?_)))
  refine Zd (Ze ?_)
  refine Zw rfl (fun hb3 => ?_) (fun hb3 => ?_)
  ·
   have h3 := of_decide_eq_true hb3
   obtain ⟨s, hs⟩ : ∃ s, l[i]? = some s := ⟨_, List.getElem?_eq_getElem (by omega)⟩
   have hkeys := hG.all
   have hget := hG.get s
   refine Zv (Zd (Ze (Zq (Ze (Zb (ym rfl rfl (Zg (Zs rfl Tryd.s22 rfl rfl (h1.mono hle3) rfl (by omega)) rfl ?_)))))))
   refine Zg (Zr rfl Tryd.k9 rfl (h1.mono hle3) (by omega) (strsC_cut hs) (vs := [_]) rfl rfl rfl rfl) rfl (ya rfl rfl (ya rfl rfl (Zf (ρ' := [(0, _), (5, _), (6, _), (7, _), (13, _), (14, _), (15, _)]) ⟨rfl, rfl, rfl, rfl, rfl, rfl, rfl, trivial⟩ ?_)))
   refine Zd (Ze (Zb (ym rfl rfl (ym rfl rfl (Zg (y_lookup2 rfl Tryd.m57 Tryd.str9 Tryd.v3 rfl rfl rfl rfl rfl (by assumption)) rfl ?_)))))
   rw [hget, getD_num, isSome_num]
   refine ym rfl rfl (Zg (y_extract rfl rfl rfl) rfl (Zg (y_extract rfl rfl rfl) rfl (ya rfl rfl (ya rfl rfl (Zf (ρ' := [(0, _), (5, _), (6, _), (7, _), (8, _), (9, _), (13, _), (14, _), (15, _)]) ⟨rfl, rfl, rfl, rfl, rfl, rfl, rfl, rfl, rfl, trivial⟩ ?_)))))
   refine Zd ?_
   refine wc_cut (fun ρ σ uc9 => ∃ (ks2 : List (Value × Value)) (g2 : Bs → Option Nat) (x : Nat), VLe u' uc9 ∧ σ = [(1000, (some b, .mp ks2)), (12, (none, .rwv (.slice ad12 l.length l.length) 3 1 l.length (cF l.length (fun k => Value.int .i64 (h k)))))] ∧ ρ = [(0, .m 1000), (5, .v (.slice ad12 l.length l.length)), (6, .v (.int .i64 i)), (8, .v (.int .i64 (x : Nat))), (13, .v (.slice ad l.length cap)), (14, .v (.int .i64 l.length)), (15, .v (.int .i64 i))] ∧ (NumM ks2 g2 ∧ extF g g2 ∧ ks2.length ≤ kvs.length + (i + 1) ∧ g2 s = some x)) ?_ ?_
   ·
    refine Ze (Zb (ym rfl rfl (Zg (y_not rfl rfl) rfl (Zf (ρ' := [(0, _), (5, _), (6, _), (7, _), (8, _), (13, _), (14, _), (15, _), (27, _)]) ⟨rfl, rfl, rfl, rfl, rfl, rfl, rfl, rfl, rfl, trivial⟩ ?_))))
    refine Zd ?_
    refine Zw rfl (fun hb6 => ?_) (fun hb6 => ?_)
    ·
     have hn : g s = none := by cases hgs : g s with
      | none => rfl
      | some n => rw [hgs] at hb6; cases hb6
     refine Ze (Zb (ym rfl rfl (Zg (y_len_m rfl rfl Tryd.m57 rfl rfl rfl) rfl (ya rfl rfl (Zf (ρ' := [(0, _), (5, _), (6, _), (7, _), (8, _), (13, _), (14, _), (15, _)]) ⟨rfl, rfl, rfl, rfl, rfl, rfl, rfl, rfl, trivial⟩ ?_)))))
     refine Zd (Zb (ym rfl rfl (ym rfl rfl (ym rfl rfl (Zt rfl rfl ?_)))))
     refine do_mapUpdate trivial rfl Tryd.m57 Tryd.str9 rfl rfl rfl rfl rfl (by assumption) ?_
     refine Zf (ρ' := [(0, _), (5, _), (6, _), (8, _), (13, _), (14, _), (15, _)]) ⟨rfl, rfl, rfl, rfl, rfl, rfl, rfl, trivial⟩ ?_
     refine Zab ?_
     first
      | (refine ⟨[(0, _), (5, _), (6, _), (8, _), (13, _), (14, _), (15, _)], [(1000, _), (12, _)], ⟨rfl, rfl, rfl, rfl, rfl, rfl, rfl, trivial⟩, ⟨rfl, rfl, trivial⟩, mset ks (str s) (.int .i64 ((ks.length : Nat) : Int)), upF g s ks.length, ks.length, (VLe.refl _), (by first | rfl | simp), (by first | rfl | (simp only [List.cons.injEq, Prod.mk.injEq, SV.v.injEq, Value.int.injEq, true_and, and_true]; omega) | simp), ?_⟩
         exact ⟨hG.put hn, upF_ext hn, by have := mset_len (k := str s) (v := .int .i64 ((ks.length : Nat) : Int)) ks; omega, by simp [upF]⟩)
      | (refine ⟨[(0, _), (5, _), (6, _), (8, _), (13, _), (14, _), (15, _)], [(1000, _), (12, _)], ⟨rfl, rfl, rfl, rfl, rfl, rfl, rfl, trivial⟩, ⟨rfl, rfl, trivial⟩, ks, g, nn, (VLe.refl _), (by first | rfl | simp), (by first | rfl | (simp only [List.cons.injEq, Prod.mk.injEq, SV.v.injEq, Value.int.injEq, true_and, and_true]; omega) | simp), ?_⟩
         exact ⟨hG, fun s n h => h, by omega, hn⟩)
    ·
     obtain ⟨nn, hn⟩ : ∃ nn, g s = some nn := by cases hgs : g s with
      | none => rw [hgs] at hb6; cases hb6
      | some n => exact ⟨n, rfl⟩
     rw [hn]
     refine Zv (Zab ?_)
     first
      | (refine ⟨[(0, _), (5, _), (6, _), (8, _), (13, _), (14, _), (15, _)], [(1000, _), (12, _)], ⟨rfl, rfl, rfl, rfl, rfl, rfl, rfl, trivial⟩, ⟨rfl, rfl, trivial⟩, mset ks (str s) (.int .i64 ((ks.length : Nat) : Int)), upF g s ks.length, ks.length, (VLe.refl _), (by first | rfl | simp), (by first | rfl | (simp only [List.cons.injEq, Prod.mk.injEq, SV.v.injEq, Value.int.injEq, true_and, and_true]; omega) | simp), ?_⟩
         exact ⟨hG.put hn, upF_ext hn, by have := mset_len (k := str s) (v := .int .i64 ((ks.length : Nat) : Int)) ks; omega, by simp [upF]⟩)
      | (refine ⟨[(0, _), (5, _), (6, _), (8, _), (13, _), (14, _), (15, _)], [(1000, _), (12, _)], ⟨rfl, rfl, rfl, rfl, rfl, rfl, rfl, trivial⟩, ⟨rfl, rfl, trivial⟩, ks, g, nn, (VLe.refl _), (by first | rfl | simp), (by first | rfl | (simp only [List.cons.injEq, Prod.mk.injEq, SV.v.injEq, Value.int.injEq, true_and, and_true]; omega) | simp), ?_⟩
         exact ⟨hG, fun s n h => h, by omega, hn⟩)
   ·
    rintro ρ σ uc9 ⟨ks2, g2, x, hlc9, rfl, rfl, ⟨hG2, hext2, hlen2, hx⟩⟩
    refine Zb (ym rfl rfl (ym rfl rfl (ym rfl rfl (Zg (Zas 12 rfl Tryd.s58 rfl rfl rfl (by first | rfl | omega) (by omega)) rfl (Zt rfl rfl ?_)))))
    refine Zbe trivial rfl Tryd.k3 rfl rfl rfl (vs := [_]) rfl rfl (by first | rfl | assumption | simp [Value.oneCell', str]) (by first | omega | (rw [cF_len]; omega) | simp) (by first | exact cF_set (by omega) | rfl) ?_
    refine Zf (ρ' := [(0, _), (5, _), (13, _), (14, _), (15, _)]) ⟨rfl, rfl, rfl, rfl, rfl, trivial⟩ ?_
    refine Zah (Zd (Zb (Zg (Zap rfl rfl rfl (Zk (by omega))) rfl ?_)))
    refine ym rfl rfl (Zf (ρ' := [(0, _), (5, _), (13, _), (14, _), (15, _)]) ⟨rfl, rfl, rfl, rfl, rfl, trivial⟩ ?_)
    refine Zab ?_
    refine ⟨m - 1, [(0, _), (5, _), (13, _), (14, _), (15, _)], [(1000, _), (12, _)], by omega, ⟨rfl, rfl, rfl, rfl, rfl, trivial⟩, ⟨rfl, rfl, trivial⟩, i + 1, by omega, (hle3.trans hlc9), ks2, g2, fun k => if k = i then ((x : Nat) : Int) else h k, (by rw [cF_upI]), (by first | rfl | simp), ?_⟩
    refine ⟨hG2, fun s n h => hext2 s n (hext s n h), by omega, fun k hk => ?_⟩
    by_cases e : k = i
    ·
     subst e
     exact ⟨s, x, hs, if_pos rfl, hx⟩
    ·
     obtain ⟨s', n', e1, e2, e3⟩ := hdone k (by omega)
     exact ⟨s', n', e1, (if_neg e).trans e2, hext2 _ _ e3⟩
  ·
   have h3 := of_decide_eq_false hb3
   refine Zan ?_
   refine Zh (Zh ?_)
   refine Zu ?_
   refine Zd (Ze (Zb (ym rfl rfl ?_)))
   rw [cF_int]
   refine Zbj 12 rfl ?_
   intro uF hleF hF
   refine ya rfl rfl (Zf (ρ' := [(4, _)]) ⟨rfl, trivial⟩ ?_)
   refine Zd (Zaj ?_)
   refine finO1 [1000] (.tmp rfl) rfl rfl ?_
   refine ⟨ks, g, _, rfl, hG, hext, by omega, hF, by simp, fun k s' hs' => ?_⟩
   obtain ⟨hlt, _⟩ := List.getElem?_eq_some_iff.1 hs'
   obtain ⟨s2, n2, e1, e2, e3⟩ := hdone k (by omega)
   rw [hs'] at e1; cases e1
   exact ⟨n2, by simp [hlt, e2], e3⟩
end Go.Proofs.Ytekkhlepbacapaa
namespace Go.Proofs.Ytekkhlepbacapaa
open Go Go.Eng
set_option linter.unusedSimpArgs false
set_option linter.unusedVariables false
set_option maxRecDepth 4000
def posL (ys : List Int) (j : Nat) (v : Int) : List Nat := (List.range j).filter fun t => decide (ys[t]? = some v)
theorem posL_succ (ys : List Int) (j : Nat) (v : Int) : posL ys (j + 1) v = posL ys j v ++ if ys[j]? = some v then [j] else [] := by
 unfold posL
 rw [List.range_succ, List.filter_append]
 congr 1
 by_cases h : ys[j]? = some v <;> simp [h]
theorem posL_asc (ys : List Int) (j : Nat) (v : Int) : (posL ys j v).Pairwise (· < ·) := (List.pairwise_lt_range).filter _
theorem posL_mem {ys : List Int} {j t : Nat} {v : Int} : t ∈ posL ys j v ↔ t < j ∧ ys[t]? = some v := by simp [posL]
theorem posL_len (ys : List Int) (j : Nat) (v : Int) : (posL ys j v).length ≤ j := by
 have := List.length_filter_le (fun t => decide (ys[t]? = some v)) (List.range j)
 rw [List.length_range] at this
 exact this
theorem firstY_pos {xs ys : List Int} {m x k q : Nat} {v : Int} (hm : ys.length = m) (hx : xs[x]? = some v) (hk : k ≤ (posL ys m v).length) (hlo : ∀ t, t < k → (posL ys m v).getD t 0 < q) (hhi : ∀ t, k ≤ t → t < (posL ys m v).length → q ≤ (posL ys m v).getD t 0) :
  firstY (sameI xs ys) m x q = (posL ys m v)[k]? := by
 have hsame : ∀ y, sameI xs ys x y = true ↔ ys[y]? = some v := fun y => by
  unfold sameI
  rw [hx, decide_eq_true_eq]
  exact eq_comm
 have hget : ∀ t (ht : t < (posL ys m v).length), (posL ys m v).getD t 0 < m ∧ ys[(posL ys m v).getD t 0]? = some v := fun t ht => by
  have := List.getElem_mem ht
  rw [posL_mem] at this
  simpa [List.getD_eq_getElem?_getD, ht] using this
 cases hf : firstY (sameI xs ys) m x q with
 | none =>
  have hn := firstY_none hf
  by_cases e : k < (posL ys m v).length
  ·
   obtain ⟨g1, g2⟩ := hget k e
   have := hn _ (hhi k (Nat.le_refl _) e) g1
   rw [(hsame _).2 g2] at this; cases this
  ·
   rw [List.getElem?_eq_none (by omega)]
 | some y =>
  obtain ⟨f1, f2, f3, f4⟩ := firstY_spec hf
  have hy : y ∈ posL ys m v := posL_mem.2 ⟨f2, (hsame y).1 f3⟩
  obtain ⟨t, ht, hty⟩ := List.getElem_of_mem hy
  have htd : (posL ys m v).getD t 0 = y := by simp [List.getD_eq_getElem?_getD, ht, hty]
  have hkt : k ≤ t := by
   cases Nat.lt_or_ge t k with
   | inl h => have := hlo t h; omega
   | inr h => exact h
  have hkl : k < (posL ys m v).length := by omega
  obtain ⟨g1, g2⟩ := hget k hkl
  have hge := hhi k (Nat.le_refl _) hkl
  have hyk : y ≤ (posL ys m v).getD k 0 := by
   cases Nat.lt_or_ge ((posL ys m v).getD k 0) y with
   | inl h => have := f4 _ hge h; rw [(hsame _).2 g2] at this; cases this
   | inr h => exact h
  have hkle : (posL ys m v).getD k 0 ≤ (posL ys m v).getD t 0 := by
   by_cases e : k = t
   ·
    rw [e]; exact Nat.le_refl _
   ·
    have := List.pairwise_iff_getElem.1 (posL_asc ys m v) k t hkl ht (by omega)
    simp only [List.getD_eq_getElem?_getD, List.getElem?_eq_getElem hkl, List.getElem?_eq_getElem ht, Option.getD_some]
    omega
  have hval : (posL ys m v).getD k 0 = y := by omega
  rw [List.getElem?_eq_getElem hkl]
  simp only [List.getD_eq_getElem?_getD, List.getElem?_eq_getElem hkl, Option.getD_some] at hval
  rw [hval]
abbrev PE := List (Int × FRow)
def kvE (E : PE) : List (Value × Value) := E.map fun e => (Value.int .i64 e.1, e.2.v)
def rowsE (E : PE) : List FRow := E.map fun e => e.2
def fndE : PE → Int → Option FRow
 | [], _ => none
 | e :: E, v => if v = e.1 then some e.2 else fndE E v
theorem keyB_i (a b : Int) : keyB (.int .i64 a) (.int .i64 b) = decide (a = b) := by
 show (IntKind.i64 == IntKind.i64 && a == b) = decide (a = b)
 by_cases h : a = b <;> simp [h]
theorem fnd_kvE (v : Int) : ∀ (E : PE) (i : Nat), (fnd (.int .i64 v) (kvE E) i).map (·.2) = (fndE E v).map (·.v)
 | [], i => rfl
 | e :: E, i => by
  have ih := fnd_kvE v E (i + 1)
  simp only [kvE, List.map_cons, fnd, fndE, keyB_i]
  by_cases h : v = e.1
  ·
   rw [decide_eq_true h, if_pos h]; rfl
  ·
   rw [decide_eq_false h, if_neg h]
   exact ih
theorem mget_kvE (E : PE) (v : Int) : mget (kvE E) (.int .i64 v) = (fndE E v).map (·.v) := fnd_kvE v E 0
theorem keys_kvE (E : PE) : (kvE E).all (fun p => isKey (.int .i64) p.1) = true := by
 rw [List.all_eq_true]
 intro p hp
 unfold kvE at hp
 obtain ⟨e, _, rfl⟩ := List.mem_map.1 hp
 rfl
theorem fndE_mid {v : Int} {r : FRow} {B : PE} : ∀ {A : PE}, fndE A v = none → fndE (A ++ (v, r) :: B) v = some r
 | [], _ => by simp [fndE]
 | e :: A, h => by
  simp only [fndE] at h
  split at h
  ·
   cases h
  ·
   rename_i hne
   simp only [List.cons_append, fndE, if_neg hne]
   exact fndE_mid h
theorem fndE_other {v w : Int} (h : w ≠ v) {r : FRow} {B : PE} : ∀ {A : PE}, fndE (A ++ (v, r) :: B) w = fndE (A ++ B) w
 | [] => by simp [fndE, h]
 | e :: A => by simp only [List.cons_append, fndE, fndE_other h (A := A)]
theorem mset_mid {v : Int} {z : Value} {r r' : FRow} (hz : r'.v = z) {B : PE} : ∀ {A : PE}, fndE A v = none → mset (kvE (A ++ (v, r) :: B)) (.int .i64 v) z = kvE (A ++ (v, r') :: B)
 | [], _ => by
  simp [kvE, mset, keyB_i, hz]
 | e :: A, h => by
  simp only [fndE] at h
  split at h
  ·
   cases h
  ·
   rename_i hne
   have ih := mset_mid (z := z) (r := r) (r' := r') hz (B := B) h
   simp only [List.cons_append, kvE, List.map_cons, mset, keyB_i]
   rw [decide_eq_false hne]
   simp only
   congr 1
theorem mset_end {v : Int} {z : Value} {r' : FRow} (hz : r'.v = z) : ∀ {A : PE}, fndE A v = none → mset (kvE A) (.int .i64 v) z = kvE (A ++ [(v, r')])
 | [], _ => by simp [kvE, mset, hz]
 | e :: A, h => by
  simp only [fndE] at h
  split at h
  ·
   cases h
  ·
   rename_i hne
   have ih := mset_end (z := z) (r' := r') hz h
   simp only [List.cons_append, kvE, List.map_cons, mset, keyB_i]
   rw [decide_eq_false hne]
   simp only
   congr 1
theorem fndE_split {v : Int} : ∀ {E : PE} {r : FRow}, fndE E v = some r → ∃ A B, E = A ++ (v, r) :: B ∧ fndE A v = none
 | [], r, h => by cases h
 | e :: E, r, h => by
  simp only [fndE] at h
  split at h
  ·
   rename_i he
   cases h
   exact ⟨[], E, by rw [he]; rfl, rfl⟩
  ·
   rename_i hne
   obtain ⟨A, B, h1, h2⟩ := fndE_split h
   exact ⟨e :: A, B, by rw [h1]; rfl, by simp only [fndE, if_neg hne]; exact h2⟩
def PlM (E : PE) (ys : List Int) (j : Nat) : Prop := ∀ v, match fndE E v with
 | some r => r.n = (posL ys j v).length ∧ r.xs = natC (posL ys j v)
 | none => posL ys j v = []
theorem natC_snoc (l : List Nat) (j : Nat) : natC (l ++ [j]) = natC l ++ [.int .i64 (j : Int)] := by simp [natC]
theorem PlM.step {E : PE} {ys : List Int} {j : Nat} {v : Int} (h : PlM E ys j) (hv : ys[j]? = some v) : ∃ A B vx n xs,
  (rowsE E = rowsE A ++ ⟨vx, n, xs⟩ :: rowsE B ∨ (rowsE E = rowsE A ++ rowsE B ∧ vx = .slice none 0 0 ∧ n = 0 ∧ xs = [])) ∧ n = (posL ys j v).length ∧ (mget (kvE E) (.int .i64 v)).getD (.slice none 0 0) = vx ∧
  ∀ z, mset (kvE E) (.int .i64 v) z = kvE (A ++ (v, ⟨z, n + 1, xs ++ [.int .i64 (j : Int)]⟩) :: B) ∧ PlM (A ++ (v, ⟨z, n + 1, xs ++ [.int .i64 (j : Int)]⟩) :: B) ys (j + 1) := by
 have other : ∀ w, w ≠ v → posL ys (j + 1) w = posL ys j w := fun w hw => by
  rw [posL_succ, if_neg (fun e => by rw [hv] at e; exact hw (Option.some.inj e).symm), List.append_nil]
 have mine : posL ys (j + 1) v = posL ys j v ++ [j] := by rw [posL_succ, if_pos hv]
 have hm := h v
 cases hf : fndE E v with
 | some r =>
  rw [hf] at hm
  obtain ⟨A, B, rfl, hA⟩ := fndE_split hf
  obtain ⟨vx, n, xs⟩ := r
  simp only at hm
  refine ⟨A, B, vx, n, xs, .inl (by simp [rowsE]), hm.1, by rw [mget_kvE, hf]; rfl, fun z => ⟨mset_mid (r' := ⟨z, n + 1, xs ++ [.int .i64 (j : Int)]⟩) rfl hA, fun w => ?_⟩⟩
  by_cases e : w = v
  ·
   subst e
   rw [fndE_mid hA]
   simp only
   rw [mine, natC_snoc, List.length_append, hm.1, hm.2]
   exact ⟨rfl, rfl⟩
  ·
   rw [fndE_other e, ← fndE_other e (r := ⟨vx, n, xs⟩), other w e]
   exact h w
 | none =>
  rw [hf] at hm
  simp only at hm
  refine ⟨E, [], .slice none 0 0, 0, [], .inr ⟨by simp [rowsE], rfl, rfl, rfl⟩, by rw [hm]; rfl, by rw [mget_kvE, hf]; rfl, fun z => ⟨mset_end (r' := ⟨z, 0 + 1, [] ++ [.int .i64 (j : Int)]⟩) rfl hf, fun w => ?_⟩⟩
  by_cases e : w = v
  ·
   subst e
   rw [fndE_mid hf]
   simp only
   rw [mine, hm]
   exact ⟨rfl, rfl⟩
  ·
   rw [fndE_other e, List.append_nil, other w e]
   exact h w
theorem PlM.get {E : PE} {ys : List Int} {j : Nat} (h : PlM E ys j) {u : View} (hs : ∀ r ∈ rowsE E, IsSl u r.v r.n 1 r.xs) (v : Int) : IsSl u ((mget (kvE E) (.int .i64 v)).getD (.slice none 0 0)) (posL ys j v).length 1 (natC (posL ys j v)) := by
 have hm := h v
 rw [mget_kvE]
 cases hf : fndE E v with
 | some r =>
  rw [hf] at hm
  obtain ⟨A, B, rfl, hA⟩ := fndE_split hf
  have := hs r (by simp [rowsE])
  rw [hm.1, hm.2] at this
  exact this
 | none =>
  rw [hf] at hm
  simp only at hm
  rw [hm]
  exact ⟨none, 0, rfl, by simp [natC], by simp, by unfold maxLen; omega, fun h => absurd rfl h⟩
def optI : Option Nat → Int
 | none => -1
 | some y => (y : Int)
theorem rows_split (same : Nat → Nat → Bool) (n m c x k left : Nat) : rows same n m (c + 1) x k left = pickY same n m x k left :: (match pickY same n m x k left with | none => rows same n m c (x + 1) k left | some y => rows same n m c (x + 1) (y + 1) (left - 1)) := by
 simp only [rows]
 cases pickY same n m x k left <;> rfl
end Go.Proofs.Ytekkhlepbacapaa
namespace Go.Proofs.Ytekkhlepbacapaa
open Go Go.Eng
set_option linter.unusedSimpArgs false
set_option linter.unusedVariables false
set_option maxRecDepth 4000
theorem rowsE_app (A B : PE) (v : Int) (r : FRow) : rowsE (A ++ (v, r) :: B) = rowsE A ++ r :: rowsE B := by simp [rowsE]
theorem cF_upI2 (n i : Nat) (x : Int) (h : Nat → Int) : cF n (fun k => if k = i then Value.int .i64 x else if k = i then Value.int .i64 (-1) else Value.int .i64 (h k)) = cF n (fun k => Value.int .i64 (if k = i then x else h k)) := by
 refine cF_ext fun k hk => ?_
 split <;> rfl
set_option maxHeartbeats 8000000 in
theorem rest_fn (xs ys : List Int) (n m : Nat) (hxs : xs.length = n) (hys : ys.length = m) (hn : n ≤ 31) (hm : m ≤ 31) (va vb : Value) (u : View) (ha : IsSl u va n 1 (intC xs)) (hb : IsSl u vb m 1 (intC ys)) :
  FnP Tryd.prog 39 [va, vb] u fun r u' => IsSl u' r n 1 (intC ((mat (sameI xs ys) n m).map optI)) := by
 obtain ⟨aA, cA, rfl, hA⟩ := ha
 obtain ⟨aB, cB, rfl, hB⟩ := hb
 refine FnP.intro [.tmp 4] Tryd.func39 rfl rfl rfl ?_
 intro w0 D hw0
 refine Ze (Zb (ya rfl rfl (Zf (ρ' := [(0, _), (1, _)]) ⟨rfl, rfl, trivial⟩ ?_)))
 refine Zd (Ze (Zb (ym rfl rfl (ym rfl rfl (Zt rfl rfl ?_)))))
 refine Zba (caps := []) trivial rfl rfl Tryd.c54 rfl (FnP.mono (newTable_fn xs ys n m hxs hys hn hm _ _ u ⟨_, _, rfl, hA⟩ ⟨_, _, rfl, hB⟩) ?_)
 rintro v uT hle0 hT hleT
 have hT2 := hT
 obtain ⟨aT, cT, rowsT, rfl, -, -⟩ := hT2
 refine Zt rfl rfl ?_
 refine Zau trivial Tryd.z100 rfl rfl rfl ?_
 refine Zt rfl rfl ?_
 refine Zao trivial rfl Tryd.k100 rfl rfl rfl (vs := [_]) rfl rfl (by first | rfl | assumption | simp [Value.oneCell', str]) (Nat.le_of_ble_eq_true rfl) rfl ?_
 refine Zf (ρ' := [(0, _), (1, _), (5, _)]) ⟨rfl, rfl, rfl, trivial⟩ ?_
 refine Zd (Ze (Zb (Zt rfl rfl ?_)))
 refine do_makeMap trivial rfl rfl rfl ?_
 refine ya rfl rfl ?_
 refine rl_famNil 901 3 1 rfl rfl ?_
 refine Zf (ρ' := [(0, _), (1, _), (5, _), (6, _)]) ⟨rfl, rfl, rfl, rfl, trivial⟩ ?_
 refine Zd (Ze (Ze (Zb (ym rfl rfl (Zg (Zx rfl rfl Tryd.s58 rfl) rfl (ym rfl rfl (Zf (ρ' := [(0, _), (5, _), (6, _), (21, _), (22, _), (23, _)]) ⟨rfl, rfl, rfl, rfl, rfl, rfl, trivial⟩ ?_)))))))
 refine Zd (Zq ?_)
 refine Zaq (fun m_0 ρ σ u' => ∃ j : Nat, j + m_0 = m ∧ VLe uT u' ∧ ∃ (E : PE), σ = [(5, (none, .box [.slice aT (n + 1) cT])), (20, (none, .mp (kvE E))), (901, (none, fam 3 1 (rowsE E)))] ∧ ρ = [(0, .v (.slice aA n cA)), (5, .p 5 0), (6, .m 20), (21, .v (.slice aB m cB)), (22, .v (.int .i64 m)), (23, .v (.int .i64 j))] ∧ (PlM E ys j)) (m) ?_ ?_
 ·
  refine ⟨[(0, _), (5, _), (6, _), (21, _), (22, _), (23, _)], [(5, _), (20, _), (901, _)], ⟨rfl, rfl, rfl, rfl, rfl, rfl, trivial⟩, ⟨rfl, rfl, rfl, trivial⟩, 0, by omega, VLe.refl _, [], (by first | rfl | simp), (by first | rfl | (simp only [List.cons.injEq, Prod.mk.injEq, SV.v.injEq, Value.int.injEq, true_and, and_true]; omega) | simp), ?_⟩
  exact fun v => by simp [fndE, posL]
 ·
  rintro mj ρ σ u' ⟨j, hi4, hle4, E, rfl, rfl, hE⟩
  refine Ze (Zb (Zg (Zav rfl rfl rfl) rfl (Zf (ρ' := [(0, _), (5, _), (6, _), (21, _), (22, _), (23, _), (24, _)]) ⟨rfl, rfl, rfl, rfl, rfl, rfl, rfl, trivial⟩ ?_)))
  refine Zd (Ze ?_)
  refine Zw rfl (fun hb4 => ?_) (fun hb4 => ?_)
  ·
   have h4 := of_decide_eq_true hb4
   obtain ⟨v, hv⟩ : ∃ v, ys[j]? = some v := ⟨_, List.getElem?_eq_getElem (by omega)⟩
   have hkeys := keys_kvE E
   have hpl := posL_len ys j v
   obtain ⟨A, B, vx, nn, xx, hL, hnn, hmg, hst⟩ := hE.step hv
   refine Zv (Zd (Ze (Zq (Ze (Zb (ym rfl rfl (Zg (Zs rfl Tryd.s58 rfl rfl (hB.mono (hleT.trans hle4)) rfl (by omega)) rfl ?_)))))))
   refine Zg (Zr rfl Tryd.k3 rfl (hB.mono (hleT.trans hle4)) (by omega) (intC_cut hv) (vs := [_]) rfl rfl rfl rfl) rfl ?_
   refine ya rfl rfl (ya rfl rfl (Zf (ρ' := [(0, _), (5, _), (6, _), (7, _), (8, _), (21, _), (22, _), (23, _)]) ⟨rfl, rfl, rfl, rfl, rfl, rfl, rfl, rfl, trivial⟩ ?_))
   refine Zd (Zb (ym rfl rfl (ym rfl rfl (ym rfl rfl (ym rfl rfl (Zg (y_lookup rfl Tryd.m102 Tryd.u3 Tryd.v58 rfl rfl rfl rfl rfl (by assumption)) rfl ?_))))))
   rw [hmg]
   refine ym rfl rfl (Zt rfl rfl ?_)
   refine Zai trivial Tryd.s58 Tryd.z3 (ps := [(_, _)]) rfl (xs := [_]) rfl rfl rfl rfl rfl rfl rfl ?_
   refine Zt rfl rfl ?_
   refine do_append_fam 901 902 hL rfl Tryd.s58 Tryd.z3 rfl rfl rfl rfl rfl rfl rfl rfl rfl rfl rfl rfl rfl (by omega) (by omega) rfl ?_
   intro ad35 cap35
   obtain ⟨hst1, hst2⟩ := hst (.slice ad35 (nn + 1) cap35)
   refine Zt rfl rfl ?_
   refine do_mapUpdate trivial rfl Tryd.m102 Tryd.u3 rfl rfl rfl rfl rfl (by assumption) ?_
   rw [hst1, ← rowsE_app]
   refine Zf (ρ' := [(0, _), (5, _), (6, _), (21, _), (22, _), (23, _)]) ⟨rfl, rfl, rfl, rfl, rfl, rfl, trivial⟩ ?_
   refine Zah (Zd (Zb (Zg (Zap rfl rfl rfl (Zk (by omega))) rfl ?_)))
   refine ym rfl rfl (Zf (ρ' := [(0, _), (5, _), (6, _), (21, _), (22, _), (23, _)]) ⟨rfl, rfl, rfl, rfl, rfl, rfl, trivial⟩ ?_)
   refine Zab ?_
   refine ⟨mj - 1, [(0, _), (5, _), (6, _), (21, _), (22, _), (23, _)], [(5, _), (20, _), (901, _)], by omega, ⟨rfl, rfl, rfl, rfl, rfl, rfl, trivial⟩, ⟨rfl, rfl, rfl, trivial⟩, j + 1, by omega, hle4, _, (by first | rfl | simp), (by first | rfl | (simp only [List.cons.injEq, Prod.mk.injEq, SV.v.injEq, Value.int.injEq, true_and, and_true]; omega) | simp), ?_⟩
   exact hst2
  ·
   have h4 := of_decide_eq_false hb4
   have hjm : j = m := by omega
   rw [hjm] at hE
   refine Zan ?_
   refine Zh (Zh ?_)
   refine Zu ?_
   refine Zd (Ze (Zb ?_))
   refine rl_famFreeze 901 rfl ?_
   intro uP hleP hsP
   refine ym rfl rfl (Zg (Zx rfl rfl Tryd.s58 rfl) rfl (Zt rfl rfl ?_))
   refine Zbr (n) trivial Tryd.s58 Tryd.z3 rfl rfl (by first | rfl | omega) (by first | rfl | omega) (by omega) (by omega) rfl rfl rfl ?_
   intro ad39
   rw [rep_cF]
   refine ya rfl rfl (Zf (ρ' := [(0, _), (5, _), (6, _), (9, _)]) ⟨rfl, rfl, rfl, rfl, trivial⟩ ?_)
   refine Zd (Ze (Zb (ya rfl rfl (Zf (ρ' := [(0, _), (5, _), (6, _), (9, _), (10, _)]) ⟨rfl, rfl, rfl, rfl, rfl, trivial⟩ ?_))))
   refine Zd (Ze (Zb (Zg (Zl rfl Tryd.k100 rfl rfl rfl (vs := [_]) rfl rfl rfl) rfl (Zt rfl rfl ?_))))
   refine Zac (caps := []) trivial rfl rfl Tryd.c55 rfl (FnP.mono (longest_fn (sameI xs ys) n m 0 0 _ uP ((hT.mono hle4).mono hleP) (by omega) (by omega) hn hm) ?_)
   rintro v u1 hle1 rfl
   have hlM := best_leM (sameI xs ys) n m _ 0 0 (Nat.le_refl _)
   refine ya rfl rfl (Zf (ρ' := [(0, _), (5, _), (6, _), (9, _), (10, _), (11, _)]) ⟨rfl, rfl, rfl, rfl, rfl, rfl, trivial⟩ ?_)
   refine Zd (Ze (Ze (Zb (ym rfl rfl (Zg (Zx rfl rfl Tryd.s58 rfl) rfl (ym rfl rfl (Zf (ρ' := [(5, _), (6, _), (9, _), (10, _), (11, _), (42, _), (43, _), (44, _)]) ⟨rfl, rfl, rfl, rfl, rfl, rfl, rfl, rfl, trivial⟩ ?_)))))))
   refine Zd (Zq ?_)
   refine Zaq (fun m_0 ρ σ u' => ∃ x : Nat, x + m_0 = n ∧ VLe uP u' ∧ ∃ (q left : Nat) (h : Nat → Int) (P : List (Option Nat)), σ = [(5, (none, .box [.slice aT (n + 1) cT])), (20, (none, .mp (kvE E))), (39, (none, .rwv (.slice ad39 n n) 3 1 n (cF n (fun k => Value.int .i64 (h k)))))] ∧ ρ = [(5, .p 5 0), (6, .m 20), (9, .v (.slice ad39 n n)), (10, .v (.int .i64 (q : Nat))), (11, .v (.int .i64 (left : Nat))), (42, .v (.slice aA n cA)), (43, .v (.int .i64 n)), (44, .v (.int .i64 x))] ∧ (q ≤ m ∧ left ≤ m ∧ P.length = x ∧ mat (sameI xs ys) n m = P ++ rows (sameI xs ys) n m (n - x) x q left ∧ ∀ k, k < x → (P[k]?).map optI = some (h k))) (n) ?_ ?_
   ·
    refine ⟨[(5, _), (6, _), (9, _), (10, _), (11, _), (42, _), (43, _), (44, _)], [(5, _), (20, _), (39, _)], ⟨rfl, rfl, rfl, rfl, rfl, rfl, rfl, rfl, trivial⟩, ⟨rfl, rfl, rfl, trivial⟩, 0, by omega, VLe.refl _, 0, best (sameI xs ys) n m 0 0, fun _ => 0, [], (by first | rfl | simp), (by first | rfl | (simp only [List.cons.injEq, Prod.mk.injEq, SV.v.injEq, Value.int.injEq, true_and, and_true]; omega) | simp), ?_⟩
    exact ⟨by omega, by omega, rfl, rfl, fun k hk => by omega⟩
   ·
    rintro mx ρ σ u' ⟨x, hi12, hle12, q, left, h, P, rfl, rfl, ⟨hq, hleft, hPl, hPm, hPk⟩⟩
    refine Ze (Zb (Zg (Zav rfl rfl rfl) rfl (Zf (ρ' := [(5, _), (6, _), (9, _), (10, _), (11, _), (42, _), (43, _), (44, _), (45, _)]) ⟨rfl, rfl, rfl, rfl, rfl, rfl, rfl, rfl, rfl, trivial⟩ ?_)))
    refine Zd (Ze ?_)
    refine Zw rfl (fun hb12 => ?_) (fun hb12 => ?_)
    ·
     have h12 := of_decide_eq_true hb12
     obtain ⟨v, hv⟩ : ∃ v, xs[x]? = some v := ⟨_, List.getElem?_eq_getElem (by omega)⟩
     have hkeys := keys_kvE E
     have hlk : IsSl u' ((mget (kvE E) (.int .i64 v)).getD (.slice none 0 0)) (posL ys m v).length 1 (natC (posL ys m v)) := (hE.get hsP v).mono hle12
     have hpl := posL_len ys m v
     have hTu := ((hT.mono hle4).mono hleP).mono hle12
     obtain ⟨c, hc⟩ : ∃ c, n - x = c + 1 := ⟨n - x - 1, by omega⟩
     have hc2 : n - (x + 1) = c := by omega
     rw [hc, rows_split] at hPm
     obtain ⟨vl, hvl⟩ : ∃ vl, (mget (kvE E) (.int .i64 v)).getD (.slice none 0 0) = vl := ⟨_, rfl⟩
     rw [hvl] at hlk
     obtain ⟨adl, capl, rfl, hl⟩ := hlk
     refine Zv (Zd ?_)
     refine wc_cut (fun ρ σ uc22 => ∃ (q2 left2 : Nat) (o : Option Nat), VLe u' uc22 ∧ σ = [(5, (none, .box [.slice aT (n + 1) cT])), (20, (none, .mp (kvE E))), (39, (none, .rwv (.slice ad39 n n) 3 1 n (cF n (fun k => Value.int .i64 (if k = x then optI o else h k)))))] ∧ ρ = [(5, .p 5 0), (6, .m 20), (9, .v (.slice ad39 n n)), (10, .v (.int .i64 (q2 : Nat))), (11, .v (.int .i64 (left2 : Nat))), (42, .v (.slice aA n cA)), (43, .v (.int .i64 n)), (44, .v (.int .i64 x))] ∧ (q2 ≤ m ∧ left2 ≤ m ∧ mat (sameI xs ys) n m = P ++ o :: rows (sameI xs ys) n m c (x + 1) q2 left2)) ?_ ?_
     ·
      refine Zq (Ze (Zb (ym rfl rfl (Zg (Zs rfl Tryd.s58 rfl rfl (hA.mono (((hleT.trans hle4).trans hleP).trans hle12)) rfl (by omega)) rfl ?_))))
      refine Zg (Zr rfl Tryd.k3 rfl (hA.mono (((hleT.trans hle4).trans hleP).trans hle12)) (by omega) (intC_cut hv) (vs := [_]) rfl rfl rfl rfl) rfl ?_
      refine ya rfl rfl (ya rfl rfl (Zf (ρ' := [(5, _), (6, _), (9, _), (10, _), (11, _), (12, _), (13, _), (42, _), (43, _), (44, _)]) ⟨rfl, rfl, rfl, rfl, rfl, rfl, rfl, rfl, rfl, rfl, trivial⟩ ?_))
      refine Zd (Ze (Zb (ym rfl rfl (ym rfl rfl (Zg (Zas 39 rfl Tryd.s58 rfl rfl rfl (j := x) (by first | rfl | omega) (by omega)) rfl (Zt rfl rfl ?_))))))
      refine Zbe trivial rfl Tryd.k3 rfl rfl rfl (vs := [_]) rfl rfl (by first | rfl | assumption | simp [Value.oneCell', str]) (by first | omega | (rw [cF_len]; omega) | simp) (by first | exact cF_set (by omega) | rfl) ?_
      refine Zf (ρ' := [(5, _), (6, _), (9, _), (10, _), (11, _), (12, _), (13, _), (42, _), (43, _), (44, _)]) ⟨rfl, rfl, rfl, rfl, rfl, rfl, rfl, rfl, rfl, rfl, trivial⟩ ?_
      refine Zd (Ze (Zb (ym rfl rfl (ym rfl rfl (Zg (y_lookup rfl Tryd.m102 Tryd.u3 Tryd.v58 rfl rfl rfl rfl rfl (by assumption)) rfl ?_)))))
      rw [hvl]
      refine ya rfl rfl (Zf (ρ' := [(5, _), (6, _), (9, _), (10, _), (11, _), (12, _), (14, _), (42, _), (43, _), (44, _)]) ⟨rfl, rfl, rfl, rfl, rfl, rfl, rfl, rfl, rfl, rfl, trivial⟩ ?_)
      refine Zd (Ze (Zb (ym rfl rfl (ym rfl rfl (Zt rfl rfl ?_)))))
      refine Zac (caps := []) trivial rfl rfl Tryd.c56 rfl (FnP.mono (bsearch_fn (posL ys m v) (posL_asc ys m v) q (by omega) _ u' ⟨_, _, rfl, hl⟩) ?_)
      rintro v u1 hle1 ⟨k, bb, rfl, hk, hlo, hhi⟩
      have hfy := firstY_pos (xs := xs) hys hv hk hlo hhi
      refine ym rfl rfl (Zg (y_extract rfl rfl rfl) rfl (Zg (y_extract rfl rfl rfl) rfl (ya rfl rfl (ya rfl rfl (Zf (ρ' := [(5, _), (6, _), (9, _), (10, _), (11, _), (12, _), (14, _), (15, _), (42, _), (43, _), (44, _)]) ⟨rfl, rfl, rfl, rfl, rfl, rfl, rfl, rfl, rfl, rfl, rfl, trivial⟩ ?_)))))
      refine Zd (Ze (Ze ?_))
      refine Zbd 68 (decide (left = 0 ∨ k = (posL ys m v).length)) (ρk := [(5, _), (6, _), (9, _), (10, _), (11, _), (12, _), (14, _), (15, _), (42, _), (43, _), (44, _)]) ⟨rfl, rfl, rfl, rfl, rfl, rfl, rfl, rfl, rfl, rfl, rfl, trivial⟩ ?_ ?_
      ·
       refine Zb (ym rfl rfl (Zg (Zbl rfl rfl rfl) rfl (ym rfl rfl ?_)))
       refine Zar 63 rfl (fun hg17_2 => ?_) (fun hg17_2 => ?_)
       ·
        iterate 4 refine Zaf rfl rfl rfl rfl ?_
        refine Zg (Zo rfl rfl rfl) rfl ?_
        exact Zam rfl ⟨rfl, rfl, rfl, rfl, rfl, rfl, rfl, rfl, rfl, rfl, rfl, trivial⟩ (by
        first
        | (refine (decide_eq_true (.inl ?_)).symm; have := of_decide_eq_true hg17_2; omega)
        | (refine decide_eq_decide.2 ?_; have := of_decide_eq_false hg17_2; omega))
       ·
        refine Zp rfl rfl (ym rfl rfl (Zp rfl rfl (ym rfl rfl (Zp rfl rfl (Zg (Zx rfl rfl Tryd.s58 rfl) rfl (Zp rfl rfl (Zg (Zbl rfl rfl rfl) rfl ?_)))))))
        refine Zg (Zad rfl rfl rfl) rfl ?_
        exact Zam rfl ⟨rfl, rfl, rfl, rfl, rfl, rfl, rfl, rfl, rfl, rfl, rfl, trivial⟩ (by
        first
        | (refine (decide_eq_true (.inl ?_)).symm; have := of_decide_eq_true hg17_2; omega)
        | (refine decide_eq_decide.2 ?_; have := of_decide_eq_false hg17_2; omega))
      refine Zd ?_
      refine Zw rfl (fun hb17 => ?_) (fun hb17 => ?_)
      ·
       have h17 := of_decide_eq_true hb17
       have hpk : pickY (sameI xs ys) n m x q left = none := by
        unfold pickY
        by_cases e : left = 0
        ·
         rw [if_pos e]
        ·
         rw [if_neg e, hfy, List.getElem?_eq_none (by omega)]
       rw [hpk] at hPm
       simp only at hPm
       refine Zan ?_
       refine Zh ?_
       refine Zu ?_
       refine Zab ?_
       first
        | (refine ⟨[(5, _), (6, _), (9, _), (10, _), (11, _), (42, _), (43, _), (44, _)], [(5, _), (20, _), (39, _)], ⟨rfl, rfl, rfl, rfl, rfl, rfl, rfl, rfl, trivial⟩, ⟨rfl, rfl, rfl, trivial⟩, q, left, none, (VLe.refl _), (by first | (rw [cF_upI2]; rfl) | (rw [cF_upI]; rfl)), (by first | rfl | (simp only [List.cons.injEq, Prod.mk.injEq, SV.v.injEq, Value.int.injEq, true_and, and_true]; omega)), ?_⟩
           exact ⟨hq, hleft, hPm⟩)
        | (refine ⟨[(5, _), (6, _), (9, _), (10, _), (11, _), (42, _), (43, _), (44, _)], [(5, _), (20, _), (39, _)], ⟨rfl, rfl, rfl, rfl, rfl, rfl, rfl, rfl, trivial⟩, ⟨rfl, rfl, rfl, trivial⟩, y + 1, left - 1, some y, (VLe.refl _), (by first | (rw [cF_upI2]; rfl) | (rw [cF_upI]; rfl)), (by first | rfl | (simp only [List.cons.injEq, Prod.mk.injEq, SV.v.injEq, Value.int.injEq, true_and, and_true]; omega)), ?_⟩
           exact ⟨by omega, by omega, hPm⟩)
      ·
       have h17 := of_decide_eq_false hb17
       have hkl : k < (posL ys m v).length := by omega
       have hcut := natC_cut (l := posL ys m v) (t := k) hkl
       obtain ⟨y, hy⟩ : ∃ y, (posL ys m v).getD k 0 = y := ⟨_, rfl⟩
       have hy2 : (posL ys m v)[k]? = some y := by rw [← hy]; simp [List.getD_eq_getElem?_getD, hkl]
       have hym := (posL_mem.1 (List.mem_of_getElem? hy2)).1
       rw [hy] at hcut
       rw [hy2] at hfy
       have hbl := best_leM (sameI xs ys) n m _ (x + 1) (y + 1) (Nat.le_refl _)
       refine Zv (Zd (Ze ?_))
       refine Zbb Tryd.mixed rfl [(5, _)] ⟨rfl, trivial⟩ ?_
       refine Zak 0 rfl (by kernel_rfl) (Za (Zc (Za (Za (Zc (Za (Zn))))))) (Zl rfl Tryd.k100 rfl rfl rfl (vs := [_]) rfl rfl rfl) rfl ?_
       refine Zak 1 rfl (by kernel_rfl) (Za (Zc (Za (Za (Zc (Za (Zn))))))) (Zae rfl rfl) rfl ?_
       refine Zak 2 rfl (by kernel_rfl) (Za (Zc (Za (Za (Zc (Za (Zn))))))) (Zap rfl rfl rfl (Zk (by omega))) rfl ?_
       refine Zak 3 rfl (by kernel_rfl) (Za (Zc (Za (Za (Zc (Za (Zn))))))) (Zae rfl rfl) rfl (Zak 4 rfl (by kernel_rfl) (Za (Zc (Za (Za (Zc (Za (Zn))))))) (Zae rfl rfl) rfl ?_)
       refine Zak 5 rfl (by kernel_rfl) (Za (Zc (Za (Za (Zc (Za (Zn))))))) (Zs rfl Tryd.s58 rfl rfl (by assumption) (by first | rfl | omega) (by omega)) rfl ?_
       refine Zak 6 rfl (by kernel_rfl) (Za (Zc (Za (Za (Zc (Za (Zn))))))) (Zr rfl Tryd.k3 rfl (by assumption) (by omega) (by assumption) (vs := [_]) rfl rfl rfl rfl) rfl ?_
       refine Zak 7 rfl (by kernel_rfl) (Za (Zc (Za (Za (Zc (Za (Zn))))))) (Zap rfl rfl rfl (Zk (by omega))) rfl ?_
       refine Zak 10 rfl (by kernel_rfl) (Za (Zc (Za (Za (Zc (Za (Zn))))))) (Zae rfl rfl) rfl ?_
       refine Zbi (i := 8) rfl rfl (by kernel_rfl) ?_
       refine Zac (caps := []) ⟨rfl, trivial⟩ rfl rfl Tryd.c55 rfl (FnP.mono (longest_fn (sameI xs ys) n m (x + 1) (y + 1) _ u' hTu (by omega) (by omega) hn hm) ?_)
       rintro v u1 hle1 rfl
       refine Zak 9 rfl (by kernel_rfl) (Za (Zc (Za (Za (Zc (Za (Zn))))))) (Zap rfl rfl rfl (Zk (by omega))) rfl ?_
       refine Zak 11 rfl (by kernel_rfl) (Za (Zc (Za (Za (Zc (Za (Zn))))))) (Zbl rfl rfl rfl) rfl ?_
       refine Zbn (by kernel_rfl) (ρ' := [(5, _), (6, _), (9, _), (10, _), (11, _), (12, _), (14, _), (15, _), (42, _), (43, _), (44, _), (80, _)]) ⟨rfl, rfl, rfl, rfl, rfl, rfl, rfl, rfl, rfl, rfl, rfl, rfl, trivial⟩ ?_
       refine Zd ?_
       refine Zw rfl (fun hb18 => ?_) (fun hb18 => ?_)
       ·
        have h18 := of_decide_eq_true hb18
        have hpk : pickY (sameI xs ys) n m x q left = some y := by
         unfold pickY
         rw [if_neg (by omega), hfy]
         simp only
         rw [if_pos (by omega)]
        rw [hpk] at hPm
        simp only at hPm
        refine Ze (Zb (ym rfl rfl (ym rfl rfl (ym rfl rfl (ym rfl rfl (Zg (Zs rfl Tryd.s58 rfl rfl (by assumption) (by first | rfl | omega) (by omega)) rfl (Zg (Zr rfl Tryd.k3 rfl (by assumption) (by omega) (by assumption) (vs := [_]) rfl rfl rfl rfl) rfl ?_)))))))
        refine Zg (Zas 39 rfl Tryd.s58 rfl rfl rfl (j := x) (by first | rfl | omega) (by omega)) rfl (Zt rfl rfl ?_)
        refine Zbe trivial rfl Tryd.k3 rfl rfl rfl (vs := [_]) rfl rfl (by first | rfl | assumption | simp [Value.oneCell', str]) (by first | omega | (rw [cF_len]; omega) | simp) (by first | exact cF_set (by omega) | rfl) ?_
        refine Zf (ρ' := [(5, _), (6, _), (9, _), (11, _), (14, _), (15, _), (42, _), (43, _), (44, _)]) ⟨rfl, rfl, rfl, rfl, rfl, rfl, rfl, rfl, rfl, trivial⟩ ?_
        refine Zd (Ze (Zb (ym rfl rfl (ym rfl rfl (Zg (Zs rfl Tryd.s58 rfl rfl (by assumption) (by first | rfl | omega) (by omega)) rfl (Zg (Zr rfl Tryd.k3 rfl (by assumption) (by omega) (by assumption) (vs := [_]) rfl rfl rfl rfl) rfl (Zg (Zap rfl rfl rfl (Zk (by omega))) rfl ?_)))))))
        refine ya rfl rfl (Zf (ρ' := [(5, _), (6, _), (9, _), (10, _), (11, _), (42, _), (43, _), (44, _)]) ⟨rfl, rfl, rfl, rfl, rfl, rfl, rfl, rfl, trivial⟩ ?_)
        refine Zd (Zb (ym rfl rfl (Zg (y_sub rfl rfl rfl (Zk (by omega))) rfl ?_)))
        refine ya rfl rfl (Zf (ρ' := [(5, _), (6, _), (9, _), (10, _), (11, _), (42, _), (43, _), (44, _)]) ⟨rfl, rfl, rfl, rfl, rfl, rfl, rfl, rfl, trivial⟩ ?_)
        refine Zah (Zab ?_)
        first
         | (refine ⟨[(5, _), (6, _), (9, _), (10, _), (11, _), (42, _), (43, _), (44, _)], [(5, _), (20, _), (39, _)], ⟨rfl, rfl, rfl, rfl, rfl, rfl, rfl, rfl, trivial⟩, ⟨rfl, rfl, rfl, trivial⟩, q, left, none, (VLe.refl _), (by first | (rw [cF_upI2]; rfl) | (rw [cF_upI]; rfl)), (by first | rfl | (simp only [List.cons.injEq, Prod.mk.injEq, SV.v.injEq, Value.int.injEq, true_and, and_true]; omega)), ?_⟩
            exact ⟨hq, hleft, hPm⟩)
         | (refine ⟨[(5, _), (6, _), (9, _), (10, _), (11, _), (42, _), (43, _), (44, _)], [(5, _), (20, _), (39, _)], ⟨rfl, rfl, rfl, rfl, rfl, rfl, rfl, rfl, trivial⟩, ⟨rfl, rfl, rfl, trivial⟩, y + 1, left - 1, some y, (VLe.refl _), (by first | (rw [cF_upI2]; rfl) | (rw [cF_upI]; rfl)), (by first | rfl | (simp only [List.cons.injEq, Prod.mk.injEq, SV.v.injEq, Value.int.injEq, true_and, and_true]; omega)), ?_⟩
            exact ⟨by omega, by omega, hPm⟩)
       ·
        have h18 := of_decide_eq_false hb18
        have hpk : pickY (sameI xs ys) n m x q left = none := by
         unfold pickY
         rw [if_neg (by omega), hfy]
         simp only
         rw [if_neg (by omega)]
        rw [hpk] at hPm
        simp only at hPm
        refine Zv (Zah (Zab ?_))
        first
         | (refine ⟨[(5, _), (6, _), (9, _), (10, _), (11, _), (42, _), (43, _), (44, _)], [(5, _), (20, _), (39, _)], ⟨rfl, rfl, rfl, rfl, rfl, rfl, rfl, rfl, trivial⟩, ⟨rfl, rfl, rfl, trivial⟩, q, left, none, (VLe.refl _), (by first | (rw [cF_upI2]; rfl) | (rw [cF_upI]; rfl)), (by first | rfl | (simp only [List.cons.injEq, Prod.mk.injEq, SV.v.injEq, Value.int.injEq, true_and, and_true]; omega)), ?_⟩
            exact ⟨hq, hleft, hPm⟩)
         | (refine ⟨[(5, _), (6, _), (9, _), (10, _), (11, _), (42, _), (43, _), (44, _)], [(5, _), (20, _), (39, _)], ⟨rfl, rfl, rfl, rfl, rfl, rfl, rfl, rfl, trivial⟩, ⟨rfl, rfl, rfl, trivial⟩, y + 1, left - 1, some y, (VLe.refl _), (by first | (rw [cF_upI2]; rfl) | (rw [cF_upI]; rfl)), (by first | rfl | (simp only [List.cons.injEq, Prod.mk.injEq, SV.v.injEq, Value.int.injEq, true_and, and_true]; omega)), ?_⟩
            exact ⟨by omega, by omega, hPm⟩)
     ·
      rintro ρ σ uc22 ⟨q2, left2, o, hlc22, rfl, rfl, ⟨hq2, hleft2, hP2⟩⟩
      refine Zb (Zg (Zap rfl rfl rfl (Zk (by omega))) rfl ?_)
      refine ym rfl rfl (Zf (ρ' := [(5, _), (6, _), (9, _), (10, _), (11, _), (42, _), (43, _), (44, _)]) ⟨rfl, rfl, rfl, rfl, rfl, rfl, rfl, rfl, trivial⟩ ?_)
      refine Zab ?_
      refine ⟨mx - 1, [(5, _), (6, _), (9, _), (10, _), (11, _), (42, _), (43, _), (44, _)], [(5, _), (20, _), (39, _)], by omega, ⟨rfl, rfl, rfl, rfl, rfl, rfl, rfl, rfl, trivial⟩, ⟨rfl, rfl, rfl, trivial⟩, x + 1, by omega, (hle12.trans hlc22), q2, left2, fun k => if k = x then optI o else h k, P ++ [o], (by first | rfl | simp), (by first | rfl | (simp only [List.cons.injEq, Prod.mk.injEq, SV.v.injEq, Value.int.injEq, true_and, and_true]; omega) | simp), ?_⟩
      refine ⟨hq2, hleft2, by simp [hPl], by rw [hP2, hc2]; simp, fun k hk => ?_⟩
      by_cases e : k = x
      ·
       subst e
       rw [List.getElem?_append_right (by omega), hPl, Nat.sub_self]
       simp
      ·
       rw [List.getElem?_append_left (by omega), hPk k (by omega)]
       simp [e]
    ·
     have h12 := of_decide_eq_false hb12
     refine Zan ?_
     refine Zh (Zh ?_)
     refine Zu ?_
     refine Zd (Ze (Zb (ym rfl rfl ?_)))
     rw [cF_int]
     refine Zbj 39 rfl ?_
     intro uF hleF hF
     refine ya rfl rfl (Zf (ρ' := [(4, _)]) ⟨rfl, trivial⟩ ?_)
     refine Zd (Zaj (Zbf (.tmp rfl) ?_))
     have hxn : x = n := by omega
     have e1 : (List.range n).map h = (mat (sameI xs ys) n m).map optI := by
      rw [hPm, hxn, Nat.sub_self]
      have e0 : rows (sameI xs ys) n m 0 n q left = [] := rfl
      rw [e0, List.append_nil]
      apply List.ext_getElem?
      intro k
      by_cases hk : k < n
      ·
       rw [List.getElem?_map, List.getElem?_map, hPk k (by omega)]
       simp [hk]
      ·
       rw [List.getElem?_eq_none (by simp; omega), List.getElem?_eq_none (by simp; omega)]
     rw [e1] at hF
     exact hF
end Go.Proofs.Ytekkhlepbacapaa
namespace Go.Proofs.Ytekkhlepbacapaa
open Go Go.Eng
set_option linter.unusedSimpArgs false
set_option linter.unusedVariables false
set_option maxRecDepth 4000
theorem valid_lt {same : Nat → Nat → Bool} {m : Nat} : ∀ {w : List (Option Nat)} {x k : Nat}, Valid same m w x k → ∀ (t y : Nat), w[t]? = some (some y) → y < m
 | [], x, k, _, t, y, h => by simp at h
 | none :: w, x, k, hv, t, y, h => by
  cases t with
  | zero => simp at h
  | succ t => exact valid_lt (w := w) hv t y (by simpa using h)
 | some z :: w, x, k, hv, t, y, h => by
  cases t with
  | zero => simp at h; subst h; exact hv.2.1
  | succ t => exact valid_lt (w := w) hv.2.2.2 t y (by simpa using h)
theorem mat_lt {same : Nat → Nat → Bool} {n m t y : Nat} (h : (mat same n m)[t]? = some (some y)) : y < m := valid_lt (rows_valid same n m n 0 0 _) t y h
theorem mat_len (same : Nat → Nat → Bool) (n m : Nat) : (mat same n m).length = n := rows_len same n m n 0 0 _
theorem range_snoc (i : Nat) : intC (((List.range (i + 1)).map some).map optI) = intC (((List.range i).map some).map optI) ++ [Value.int .i64 (i : Int)] := by simp [List.range_succ, intC, optI]
theorem take_snoc {A W : List (Option Nat)} {g : Option Nat → Option Nat} {i : Nat} {o : Option Nat} (h : W[i]? = some o) : intC ((A ++ (W.take (i + 1)).map g).map optI) = intC ((A ++ (W.take i).map g).map optI) ++ [Value.int .i64 (optI (g o))] := by
 obtain ⟨hlt, rfl⟩ := List.getElem?_eq_some_iff.1 h
 rw [List.take_succ_eq_append_getElem hlt]
 simp only [List.map_append, intC, ← List.append_assoc, List.map_cons, List.map_nil]
theorem intC_drop (l : List Int) (p : Nat) : (intC l).drop (p * 1) = intC (l.drop p) := by simp [intC, List.map_drop]
theorem same_drop (xs ys : List Int) (p : Nat) : sameI (xs.drop p) (ys.drop p) = fun a b => sameI xs ys (a + p) (b + p) := by
 funext a b
 simp [sameI, List.getElem?_drop, Nat.add_comm]
set_option maxHeartbeats 8000000 in
theorem matching_fn (xs ys : List Int) (n m : Nat) (hxs : xs.length = n) (hys : ys.length = m) (hn : n ≤ 31) (hm : m ≤ 31) (va vb : Value) (u : View) (ha : IsSl u va n 1 (intC xs)) (hb : IsSl u vb m 1 (intC ys)) :
  FnP Tryd.prog 28 [va, vb] u fun r u' => IsSl u' r n 1 (intC ((mat (sameI xs ys) n m).map optI)) := by
 obtain ⟨aA, cA, rfl, hA⟩ := ha
 obtain ⟨aB, cB, rfl, hB⟩ := hb
 refine FnP.intro [.tmp 4] Tryd.func28 rfl rfl rfl ?_
 intro w0 D hw0
 refine Ze (Zb (ya rfl rfl (Zf (ρ' := [(0, _), (1, _)]) ⟨rfl, rfl, trivial⟩ ?_)))
 refine Zd (Ze (Zb (ya rfl rfl (Zf (ρ' := [(0, _), (1, _), (5, _)]) ⟨rfl, rfl, rfl, trivial⟩ ?_))))
 refine Zd (Ze (Zq ?_))
 refine Zaq (fun m_0 ρ σ u' => ∃ p : Nat, p + m_0 = n ∧ VLe u u' ∧ σ = [] ∧ ρ = [(0, .v (.slice aA n cA)), (1, .v (.slice aB m cB)), (5, .v (.int .i64 p))] ∧ (p ≤ m ∧ ∀ t, t < p → sameI xs ys t t = true)) (n) ?_ ?_
 ·
  refine ⟨[(0, _), (1, _), (5, _)], [], ⟨rfl, rfl, rfl, trivial⟩, trivial, 0, by omega, VLe.refl _, (by first | rfl | simp), (by first | rfl | (simp only [List.cons.injEq, Prod.mk.injEq, SV.v.injEq, Value.int.injEq, true_and, and_true]; omega) | simp), ?_⟩
  exact ⟨by omega, fun t ht => by omega⟩
 ·
  rintro mp ρ σ u' ⟨p, hi2, hle2, rfl, rfl, ⟨hpm, hpre⟩⟩
  refine Ze (Ze ?_)
  refine Zbd 30 (decide (p < n ∧ p < m ∧ xs[p]? = ys[p]?)) (ρk := [(0, _), (1, _), (5, _)]) ⟨rfl, rfl, rfl, trivial⟩ ?_ ?_
  ·
   refine Zbb Tryd.mixed rfl [] trivial ?_
   refine Zak 0 rfl (by kernel_rfl) (Zj) (Zae rfl rfl) rfl (Zak 1 rfl (by kernel_rfl) (Zj) (Zae rfl rfl) rfl ?_)
   refine Zak 2 rfl (by kernel_rfl) (Zj) (Zx rfl rfl Tryd.s58 rfl) rfl ?_
   refine Zak 3 rfl (by kernel_rfl) (Zj) (Zav rfl rfl rfl) rfl ?_
   refine Zak 4 rfl (by kernel_rfl) (Zj) (Zae rfl rfl) rfl ?_
   refine ra_case 14 rfl (fun hg2_4 => ?_) (fun hg2_4 => ?_)
   ·
    refine Zaw 5 rfl rfl rfl (by kernel_rfl) (Zj) (Zae rfl rfl) rfl (Zaw 6 rfl rfl rfl (by kernel_rfl) (Zj) (Zae rfl rfl) rfl ?_)
    refine Zaw 7 rfl rfl rfl (by kernel_rfl) (Zj) (Zx rfl rfl Tryd.s58 rfl) rfl ?_
    refine Zaw 8 rfl rfl rfl (by kernel_rfl) (Zj) (Zav rfl rfl rfl) rfl ?_
    refine Zak 9 rfl (by kernel_rfl) (Zj) (Zo rfl rfl rfl) rfl ?_
    refine Zak 10 rfl (by kernel_rfl) (Zj) (Zae rfl rfl) rfl ?_
    refine ra_case 20 rfl (fun hg2_10 => ?_) (fun hg2_10 => ?_)
    ·
     refine Zaw 11 rfl rfl rfl (by kernel_rfl) (Zj) (Zae rfl rfl) rfl (Zaw 12 rfl rfl rfl (by kernel_rfl) (Zj) (Zae rfl rfl) rfl ?_)
     have hpn : p < n := by have := of_decide_eq_true hg2_4; omega
     have hpm2 : p < m := by have := of_decide_eq_true hg2_10; omega
     obtain ⟨xp, hxp⟩ : ∃ x, xs[p]? = some x := ⟨_, List.getElem?_eq_getElem (by omega)⟩
     obtain ⟨yp, hyp⟩ : ∃ x, ys[p]? = some x := ⟨_, List.getElem?_eq_getElem (by omega)⟩
     refine Zaw 13 rfl rfl rfl (by kernel_rfl) (Zj) (Zs rfl Tryd.s58 rfl rfl (hA.mono hle2) rfl (by omega)) rfl ?_
     refine Zaw 14 rfl rfl rfl (by kernel_rfl) (Zj) (Zr rfl Tryd.k3 rfl (hA.mono hle2) (by omega) (intC_cut hxp) (vs := [_]) rfl rfl rfl rfl) rfl ?_
     refine Zaw 15 rfl rfl rfl (by kernel_rfl) (Zj) (Zae rfl rfl) rfl (Zaw 16 rfl rfl rfl (by kernel_rfl) (Zj) (Zae rfl rfl) rfl ?_)
     refine Zaw 17 rfl rfl rfl (by kernel_rfl) (Zj) (Zs rfl Tryd.s58 rfl rfl (hB.mono hle2) rfl (by omega)) rfl ?_
     refine Zaw 18 rfl rfl rfl (by kernel_rfl) (Zj) (Zr rfl Tryd.k3 rfl (hB.mono hle2) (by omega) (intC_cut hyp) (vs := [_]) rfl rfl rfl rfl) rfl ?_
     refine Zaw 19 rfl rfl rfl (by kernel_rfl) (Zj) (Zbl rfl rfl rfl) rfl ?_
     refine Zak 20 rfl (by kernel_rfl) (Zj) (Zo rfl rfl rfl) rfl ?_
     exact Zbq (by kernel_rfl) rfl ⟨rfl, rfl, rfl, trivial⟩ (by
     first
     | (refine (decide_eq_false fun h => ?_).symm; have := of_decide_eq_false hg2_4; omega)
     | (refine (decide_eq_false fun h => ?_).symm; have := of_decide_eq_false hg2_10; omega)
     | (refine decide_eq_decide.2 ?_; rw [hxp, hyp]; exact ⟨fun h => ⟨hpn, hpm2, by rw [h]⟩, fun h => Option.some.inj h.2.2⟩))
    ·
     refine Zag 11 rfl rfl rfl rfl (by kernel_rfl) (Zj) rfl (Zag 12 rfl rfl rfl rfl (by kernel_rfl) (Zj) rfl (Zag 13 rfl rfl rfl rfl (by kernel_rfl) (Zj) rfl (Zag 14 rfl rfl rfl rfl (by kernel_rfl) (Zj) rfl (Zag 15 rfl rfl rfl rfl (by kernel_rfl) (Zj) rfl (Zag 16 rfl rfl rfl rfl (by kernel_rfl) (Zj) rfl (Zag 17 rfl rfl rfl rfl (by kernel_rfl) (Zj) rfl (Zag 18 rfl rfl rfl rfl (by kernel_rfl) (Zj) rfl ?_)))))))
     refine Zag 19 rfl rfl rfl rfl (by kernel_rfl) (Zj) rfl ?_
     refine Zak 20 rfl (by kernel_rfl) (Zj) (Zad rfl rfl rfl) rfl ?_
     exact Zbq (by kernel_rfl) rfl ⟨rfl, rfl, rfl, trivial⟩ (by
     first
     | (refine (decide_eq_false fun h => ?_).symm; have := of_decide_eq_false hg2_4; omega)
     | (refine (decide_eq_false fun h => ?_).symm; have := of_decide_eq_false hg2_10; omega)
     | (refine decide_eq_decide.2 ?_; rw [hxp, hyp]; exact ⟨fun h => ⟨hpn, hpm2, by rw [h]⟩, fun h => Option.some.inj h.2.2⟩))
   ·
    refine Zag 5 rfl rfl rfl rfl (by kernel_rfl) (Zj) rfl (Zag 6 rfl rfl rfl rfl (by kernel_rfl) (Zj) rfl (Zag 7 rfl rfl rfl rfl (by kernel_rfl) (Zj) rfl (Zag 8 rfl rfl rfl rfl (by kernel_rfl) (Zj) rfl ?_)))
    refine Zak 9 rfl (by kernel_rfl) (Zj) (Zad rfl rfl rfl) rfl ?_
    refine Zak 10 rfl (by kernel_rfl) (Zj) (Zae rfl rfl) rfl (Zag 11 rfl rfl rfl rfl (by kernel_rfl) (Zj) rfl (Zag 12 rfl rfl rfl rfl (by kernel_rfl) (Zj) rfl (Zag 13 rfl rfl rfl rfl (by kernel_rfl) (Zj) rfl (Zag 14 rfl rfl rfl rfl (by kernel_rfl) (Zj) rfl (Zag 15 rfl rfl rfl rfl (by kernel_rfl) (Zj) rfl (Zag 16 rfl rfl rfl rfl (by kernel_rfl) (Zj) rfl (Zag 17 rfl rfl rfl rfl (by kernel_rfl) (Zj) rfl ?_)))))))
    refine Zag 18 rfl rfl rfl rfl (by kernel_rfl) (Zj) rfl (Zag 19 rfl rfl rfl rfl (by kernel_rfl) (Zj) rfl ?_)
    refine Zak 20 rfl (by kernel_rfl) (Zj) (Zad rfl rfl rfl) rfl ?_
    exact Zbq (by kernel_rfl) rfl ⟨rfl, rfl, rfl, trivial⟩ (by
    first
    | (refine (decide_eq_false fun h => ?_).symm; have := of_decide_eq_false hg2_4; omega)
    | (refine (decide_eq_false fun h => ?_).symm; have := of_decide_eq_false hg2_10; omega)
    | (refine decide_eq_decide.2 ?_; rw [hxp, hyp]; exact ⟨fun h => ⟨hpn, hpm2, by rw [h]⟩, fun h => Option.some.inj h.2.2⟩))
  refine Zd ?_
  refine Zw rfl (fun hb2 => ?_) (fun hb2 => ?_)
  ·
   have h2 := of_decide_eq_true hb2
   refine Zv (Zd (Zq (Zb (ym rfl rfl (Zg (Zap rfl rfl rfl (Zk (by omega))) rfl ?_)))))
   refine ya rfl rfl (Zf (ρ' := [(0, _), (1, _), (5, _)]) ⟨rfl, rfl, rfl, trivial⟩ ?_)
   refine Zah (Zab ?_)
   refine ⟨mp - 1, [(0, _), (1, _), (5, _)], [], by omega, ⟨rfl, rfl, rfl, trivial⟩, trivial, p + 1, by omega, hle2, (by first | rfl | simp), (by first | rfl | (simp only [List.cons.injEq, Prod.mk.injEq, SV.v.injEq, Value.int.injEq, true_and, and_true]; omega) | simp), ?_⟩
   refine ⟨by omega, fun t ht => ?_⟩
   by_cases e : t = p
   ·
    rw [e]; exact decide_eq_true h2.2.2
   ·
    exact hpre t (by omega)
  ·
   have h2 := of_decide_eq_false hb2
   obtain ⟨uO, huO⟩ : ∃ x, x = u' := ⟨_, rfl⟩
   subst huO
   have hpn : p ≤ n := by omega
   have hA2 := (hA.mono hle2).from hpn
   have hB2 := (hB.mono hle2).from hpm
   rw [intC_drop] at hA2 hB2
   have hmr := mat_rest (sameI xs ys) n m p hpn hpm hpre
   rw [← same_drop] at hmr
   obtain ⟨W, hW⟩ : ∃ W, W = mat (sameI (xs.drop p) (ys.drop p)) (n - p) (m - p) := ⟨_, rfl⟩
   have hWl : W.length = n - p := by rw [hW, mat_len]
   have hWy : ∀ (t y : Nat), W[t]? = some (some y) → y < m - p := fun t y h => by rw [hW] at h; exact mat_lt h
   rw [← hW] at hmr
   refine Zan ?_
   refine Zh (Zh ?_)
   refine Zu ?_
   refine Zd (Ze (Zb (ym rfl rfl (Zg (Zx rfl rfl Tryd.s58 rfl) rfl (Zt rfl rfl ?_)))))
   refine do_make0 trivial Tryd.s58 Tryd.z3 rfl rfl (by omega) (by omega) rfl rfl rfl ?_
   refine ya rfl rfl ?_
   refine Zbu 35 506 rfl rfl rfl ?_
   refine Zf (ρ' := [(0, _), (1, _), (5, _), (6, _)]) ⟨rfl, rfl, rfl, rfl, trivial⟩ ?_
   refine Zd (Ze (Ze (Zb (ym rfl rfl (ym rfl rfl (Zf (ρ' := [(0, _), (1, _), (5, _), (6, _), (36, _), (37, _)]) ⟨rfl, rfl, rfl, rfl, rfl, rfl, trivial⟩ ?_))))))
   refine Zd (Zq ?_)
   refine Zaq (fun m_0 ρ σ u' => ∃ q : Nat, q + m_0 = p ∧ VLe uO u' ∧ σ = [(506, (none, .row 3 1 q (intC (((List.range q).map some).map optI))))] ∧ ρ = [(0, .v (.slice aA n cA)), (1, .v (.slice aB m cB)), (5, .v (.int .i64 p)), (6, .s 506), (36, .v (.int .i64 p)), (37, .v (.int .i64 q))] ∧ (True)) (p) ?_ ?_
   ·
    refine ⟨[(0, _), (1, _), (5, _), (6, _), (36, _), (37, _)], [(506, _)], ⟨rfl, rfl, rfl, rfl, rfl, rfl, trivial⟩, ⟨rfl, trivial⟩, 0, by omega, VLe.refl _, (by first | rfl | simp), (by first | rfl | (simp only [List.cons.injEq, Prod.mk.injEq, SV.v.injEq, Value.int.injEq, true_and, and_true]; omega) | simp), ?_⟩
    trivial
   ·
    rintro mq ρ σ u' ⟨q, hi6, hle6, rfl, rfl, hinv6⟩
    refine Ze (Zb (Zg (Zav rfl rfl rfl) rfl (Zf (ρ' := [(0, _), (1, _), (5, _), (6, _), (36, _), (37, _), (38, _)]) ⟨rfl, rfl, rfl, rfl, rfl, rfl, rfl, trivial⟩ ?_)))
    refine Zd (Ze ?_)
    refine Zw rfl (fun hb6 => ?_) (fun hb6 => ?_)
    ·
     have h6 := of_decide_eq_true hb6
     refine Zv (Zd (Ze (Zq (Ze (Zb (ym rfl rfl (ya rfl rfl (Zf (ρ' := [(0, _), (1, _), (5, _), (6, _), (7, _), (36, _), (37, _)]) ⟨rfl, rfl, rfl, rfl, rfl, rfl, rfl, trivial⟩ ?_))))))))
     refine Zd (Zb (ym rfl rfl (ym rfl rfl (Zt rfl rfl ?_))))
     refine Zai trivial Tryd.s58 Tryd.z3 (ps := [(_, _)]) rfl (xs := [_]) rfl rfl rfl rfl rfl rfl rfl ?_
     refine Zt rfl rfl ?_
     refine Zay trivial rfl rfl Tryd.s58 Tryd.z3 rfl rfl rfl rfl rfl rfl (by first | rfl | assumption | simp [Value.oneCell', str]) (by omega) (by omega) (ρ' := [(0, _), (1, _), (5, _), (36, _), (37, _)]) ⟨rfl, rfl, rfl, rfl, rfl, trivial⟩ rfl rfl rfl ?_
     refine ya rfl rfl ?_
     refine Zbu 43 506 rfl rfl rfl ?_
     refine Zf (ρ' := [(0, _), (1, _), (5, _), (6, _), (36, _), (37, _)]) ⟨rfl, rfl, rfl, rfl, rfl, rfl, trivial⟩ ?_
     refine Zah (Zd (Zb (Zg (Zap rfl rfl rfl (Zk (by omega))) rfl ?_)))
     refine ym rfl rfl (Zf (ρ' := [(0, _), (1, _), (5, _), (6, _), (36, _), (37, _)]) ⟨rfl, rfl, rfl, rfl, rfl, rfl, trivial⟩ ?_)
     refine Zab ?_
     refine ⟨mq - 1, [(0, _), (1, _), (5, _), (6, _), (36, _), (37, _)], [(506, _)], by omega, ⟨rfl, rfl, rfl, rfl, rfl, rfl, trivial⟩, ⟨rfl, trivial⟩, q + 1, by omega, hle6, (by rw [range_snoc]), (by first | rfl | simp), ?_⟩
     trivial
    ·
     have hip : q = p := by have := of_decide_eq_false hb6; omega
     refine Zan ?_
     refine Zh (Zh ?_)
     refine Zu ?_
     refine Zd (Ze (Ze ?_))
     refine Zbb Tryd.mixed rfl [] trivial ?_
     refine Zak 0 rfl (by kernel_rfl) (Za (Za (Zn))) (Zae rfl rfl) rfl (Zak 1 rfl (by kernel_rfl) (Za (Za (Zn))) (Zae rfl rfl) rfl ?_)
     refine Zak 2 rfl (by kernel_rfl) (Za (Za (Zn))) (y_slice_v (i := p) rfl Tryd.s58 rfl rfl rfl (by omega)) rfl ?_
     refine Zak 3 rfl (by kernel_rfl) (Za (Za (Zn))) (Zae rfl rfl) rfl (Zak 4 rfl (by kernel_rfl) (Za (Za (Zn))) (Zae rfl rfl) rfl ?_)
     refine Zak 5 rfl (by kernel_rfl) (Za (Za (Zn))) (y_slice_v (i := p) rfl Tryd.s58 rfl rfl rfl (by omega)) rfl ?_
     refine Zak 8 rfl (by kernel_rfl) (Za (Za (Zn))) (Zae rfl rfl) rfl ?_
     refine Zbi (i := 6) rfl rfl (by kernel_rfl) ?_
     refine Zba (caps := []) trivial rfl rfl Tryd.c39 rfl (FnP.mono (rest_fn (xs.drop p) (ys.drop p) (n - p) (m - p) (by simp; omega) (by simp; omega) (by omega) (by omega) _ _ u' ⟨_, _, rfl, hA2.mono hle6⟩ ⟨_, _, rfl, hB2.mono hle6⟩) ?_)
     rintro v uR hle0 ⟨aR, cR, rfl, hRs⟩ hleR
     rw [← hW] at hRs
     rw [hip]
     refine Zak 7 rfl (by kernel_rfl) (Za (Za (Zn))) (Zx rfl rfl Tryd.s58 rfl) rfl ?_
     refine Zbn (by kernel_rfl) (ρ' := [(5, _), (6, _), (51, _), (52, _), (53, _)]) ⟨rfl, rfl, rfl, rfl, rfl, trivial⟩ ?_
     refine Zd (Zq ?_)
     refine Zaq (fun m_0 ρ σ u' => ∃ j : Nat, j + m_0 = n - p ∧ VLe uR u' ∧ σ = [(506, (none, .row 3 1 (p + j) (intC (((List.range p).map some ++ (W.take j).map (·.map (· + p))).map optI))))] ∧ ρ = [(5, .v (.int .i64 p)), (6, .s 506), (51, .v (.slice aR (n - p) cR)), (52, .v (.int .i64 ((n - p : Nat) : Int))), (53, .v (.int .i64 j))] ∧ (True)) (n - p) ?_ ?_
     ·
      refine ⟨[(5, _), (6, _), (51, _), (52, _), (53, _)], [(506, _)], ⟨rfl, rfl, rfl, rfl, rfl, trivial⟩, ⟨rfl, trivial⟩, 0, by omega, VLe.refl _, (by simp), (by first | rfl | simp), ?_⟩
      trivial
     ·
      rintro mj ρ σ u' ⟨j, hi11, hle11, rfl, rfl, hinv11⟩
      refine Ze (Zb (Zg (Zav rfl rfl rfl) rfl (Zf (ρ' := [(5, _), (6, _), (51, _), (52, _), (53, _), (54, _)]) ⟨rfl, rfl, rfl, rfl, rfl, rfl, trivial⟩ ?_)))
      refine Zd (Ze ?_)
      refine Zw rfl (fun hb11 => ?_) (fun hb11 => ?_)
      ·
       have h11 := of_decide_eq_true hb11
       obtain ⟨o, ho⟩ : ∃ o, W[j]? = some o := ⟨_, List.getElem?_eq_getElem (by omega)⟩
       have hcut := intC_cut (l := W.map optI) (t := j) (x := optI o) (by simp [ho])
       have hRs2 := hRs.mono hle11
       refine Zv (Zd (Ze (Zq (Ze (Zb (Zg (Zs rfl Tryd.s58 rfl rfl hRs2 rfl (by omega)) rfl (Zg (Zr rfl Tryd.k3 rfl hRs2 (by omega) hcut (vs := [_]) rfl rfl rfl rfl) rfl ?_)))))))
       refine ya rfl rfl (Zf (ρ' := [(5, _), (6, _), (9, _), (51, _), (52, _), (53, _)]) ⟨rfl, rfl, rfl, rfl, rfl, rfl, trivial⟩ ?_)
       refine Zd (Ze (Ze (Zb (ym rfl rfl (Zg (y_geq rfl rfl rfl) rfl (Zf (ρ' := [(5, _), (6, _), (9, _), (51, _), (52, _), (53, _), (58, _)]) ⟨rfl, rfl, rfl, rfl, rfl, rfl, rfl, trivial⟩ ?_))))))
       refine Zd ?_
       refine Zw rfl (fun hb13 => ?_) (fun hb13 => ?_)
       ·
        obtain ⟨y, rfl⟩ : ∃ y, o = some y := by
         cases o with
         | none => exact absurd (of_decide_eq_true hb13) (by decide)
         | some y => exact ⟨y, rfl⟩
        have hy := hWy j y ho
        refine Zb (ym rfl rfl (ym rfl rfl (Zg (Zap (r := ((y + p : Nat) : Int)) rfl rfl rfl ((Zk (e := (y : Int) + (p : Int)) (by omega)).trans (by omega))) rfl ?_)))
        refine ya rfl rfl (Zf (ρ' := [(5, _), (6, _), (9, _), (51, _), (52, _), (53, _)]) ⟨rfl, rfl, rfl, rfl, rfl, rfl, trivial⟩ ?_)
        refine Zd (Zb (ym rfl rfl (ym rfl rfl (Zt rfl rfl ?_))))
        refine Zai trivial Tryd.s58 Tryd.z3 (ps := [(_, _)]) rfl (xs := [_]) rfl rfl rfl rfl rfl rfl rfl ?_
        refine Zt rfl rfl ?_
        refine Zay trivial rfl rfl Tryd.s58 Tryd.z3 rfl rfl rfl rfl rfl rfl (by first | rfl | assumption | simp [Value.oneCell', str]) (by omega) (by omega) (ρ' := [(5, _), (51, _), (52, _), (53, _)]) ⟨rfl, rfl, rfl, rfl, trivial⟩ rfl rfl rfl ?_
        refine ya rfl rfl ?_
        refine Zbu 65 506 rfl rfl rfl ?_
        refine Zf (ρ' := [(5, _), (6, _), (51, _), (52, _), (53, _)]) ⟨rfl, rfl, rfl, rfl, rfl, trivial⟩ ?_
        refine Zah (Zd (Zb (Zg (Zap rfl rfl rfl (Zk (by omega))) rfl ?_)))
        refine ym rfl rfl (Zf (ρ' := [(5, _), (6, _), (51, _), (52, _), (53, _)]) ⟨rfl, rfl, rfl, rfl, rfl, trivial⟩ ?_)
        refine Zab ?_
        refine ⟨mj - 1, [(5, _), (6, _), (51, _), (52, _), (53, _)], [(506, _)], by omega, ⟨rfl, rfl, rfl, rfl, rfl, trivial⟩, ⟨rfl, trivial⟩, j + 1, by omega, hle11, (by rw [take_snoc ho]; rfl), (by first | rfl | simp), ?_⟩
        trivial
       ·
        obtain rfl : o = none := by
         cases o with
         | none => rfl
         | some y => exact absurd (Int.natCast_nonneg y) (of_decide_eq_false hb13)
        refine Zv (Zd (Zb (ym rfl rfl (ym rfl rfl (Zt rfl rfl ?_)))))
        refine Zai trivial Tryd.s58 Tryd.z3 (ps := [(_, _)]) rfl (xs := [_]) rfl rfl rfl rfl rfl rfl rfl ?_
        refine Zt rfl rfl ?_
        refine Zay trivial rfl rfl Tryd.s58 Tryd.z3 rfl rfl rfl rfl rfl rfl (by first | rfl | assumption | simp [Value.oneCell', str]) (by omega) (by omega) (ρ' := [(5, _), (51, _), (52, _), (53, _)]) ⟨rfl, rfl, rfl, rfl, trivial⟩ rfl rfl rfl ?_
        refine ya rfl rfl ?_
        refine Zbu 65 506 rfl rfl rfl ?_
        refine Zf (ρ' := [(5, _), (6, _), (51, _), (52, _), (53, _)]) ⟨rfl, rfl, rfl, rfl, rfl, trivial⟩ ?_
        refine Zah (Zd (Zb (Zg (Zap rfl rfl rfl (Zk (by omega))) rfl ?_)))
        refine ym rfl rfl (Zf (ρ' := [(5, _), (6, _), (51, _), (52, _), (53, _)]) ⟨rfl, rfl, rfl, rfl, rfl, trivial⟩ ?_)
        refine Zab ?_
        refine ⟨mj - 1, [(5, _), (6, _), (51, _), (52, _), (53, _)], [(506, _)], by omega, ⟨rfl, rfl, rfl, rfl, rfl, trivial⟩, ⟨rfl, trivial⟩, j + 1, by omega, hle11, (by rw [take_snoc ho]; rfl), (by first | rfl | simp), ?_⟩
        trivial
      ·
       have h11 := of_decide_eq_false hb11
       refine Zan ?_
       refine Zh (Zh ?_)
       refine Zu ?_
       refine Zd (Ze (Zb (ym rfl rfl ?_)))
       refine Zaz 506 rfl ?_
       intro ad506 cap506 uF hleF hF
       refine ya rfl rfl (Zf (ρ' := [(4, _)]) ⟨rfl, trivial⟩ ?_)
       refine Zd (Zaj (Zbf (.tmp rfl) ?_))
       have hj : j = n - p := by omega
       rw [List.take_of_length_le (by omega), ← hmr] at hF
       have : p + j = n := by omega
       rw [this] at hF ⊢
       exact ⟨_, _, rfl, hF⟩
end Go.Proofs.Ytekkhlepbacapaa
namespace Go.Proofs.Ytekkhlepbacapaa
open Go Go.Eng
set_option linter.unusedSimpArgs false
set_option linter.unusedVariables false
set_option maxRecDepth 4000
def chgC (c : Chg) : List Value := [.int .i64 c.kind, .int .i64 c.src, .int .i64 c.dst]
def chgsC (l : List Chg) : List Value := l.flatMap chgC
def ChS (u : View) (v : Value) (l : List Chg) : Prop := IsSl u v l.length 3 (chgsC l)
theorem ChS.mono {u u' : View} {v : Value} {l : List Chg} (h : ChS u v l) (hu : VLe u u') : ChS u' v l := IsSl.mono h hu
theorem chgsC_app (a b : List Chg) : chgsC (a ++ b) = chgsC a ++ chgsC b := by simp [chgsC]
theorem chgsC_len (l : List Chg) : (chgsC l).length = l.length * 3 := by
 induction l with
 | nil => rfl
 | cons c l ih =>
  have : chgsC (c :: l) = chgC c ++ chgsC l := rfl
  rw [this, List.length_append, ih]
  simp [chgC]
  omega
theorem chgsC_cut {l : List Chg} {t : Nat} {c : Chg} (h : l[t]? = some c) : cut (chgsC l) (t * 3) 3 = chgC c := by
 obtain ⟨hlt, rfl⟩ := List.getElem?_eq_some_iff.1 h
 have e : chgsC l = chgsC (l.take t) ++ (chgC l[t] ++ chgsC (l.drop (t + 1))) := by
  conv => lhs; rw [← List.take_append_drop t l, List.drop_eq_getElem_cons hlt]
  rw [chgsC_app]
  rfl
 have hl : (chgsC (l.take t)).length = t * 3 := by rw [chgsC_len, List.length_take, Nat.min_eq_left (by omega)]
 unfold cut
 rw [e, ← hl, List.drop_left]
 rfl
abbrev boxI (b : Nat) (i : Nat) : PO := (some b, .box [.int .i64 (i : Int)])
set_option maxHeartbeats 4000000 in
theorem gap_fn (bi bl bj : Nat) (i k x y : Nat) (L : List Chg) (ao : Option Addr) (co : Nat) (hx : x ≤ 100000) (hy : y ≤ 100000) (hi : i ≤ 100000) (hk : k ≤ 100000) (hL : L.length ≤ 100000) (u : View) :
  FnO Tryd.prog 30 [.int .i64 (x : Nat), .int .i64 (y : Nat), .pointer (some ⟨bi, 0, none⟩), .pointer (some ⟨bl, 0, none⟩), .pointer (some ⟨bj, 0, none⟩)] u
   [boxI bi i, (some bl, .box [.slice ao L.length co]), boxI bj k, (none, .rwv (.slice ao L.length co) 51 3 L.length (chgsC L))]
   fun r u' l' => ∃ ac cc, l' = [boxI bi (i + (x - i)), (some bl, .box [.slice ac (L ++ goneL i x ++ newL k y).length cc]), boxI bj (k + (y - k)), (none, .rwv (.slice ac (L ++ goneL i x ++ newL k y).length cc) 51 3 (L ++ goneL i x ++ newL k y).length (chgsC (L ++ goneL i x ++ newL k y)))] := by
 refine FnO.intro [] Tryd.func30 rfl rfl rfl ?_
 intro w0 D hw0
 refine wc_pin 2 1000 _ 0 rfl rfl ?_
 refine wc_pin 3 1001 _ 0 rfl rfl ?_
 refine wc_pin 4 1002 _ 0 rfl rfl ?_
 refine Ze (Zq ?_)
 refine Zaq (fun m_0 ρ σ u' => ∃ c : Nat, c + m_0 = x - i ∧ VLe u u' ∧ ∃ (ac : Option Addr) (cc : Nat), σ = [(1000, (some bi, .box [.int .i64 ((i + c : Nat) : Int)])), (1001, (some bl, .box [.slice ac (L ++ goneL i (i + c)).length cc])), (1002, (some bj, .box [.int .i64 (k : Int)])), (1003, (none, .rwv (.slice ac (L ++ goneL i (i + c)).length cc) 51 3 (L ++ goneL i (i + c)).length (chgsC (L ++ goneL i (i + c)))))] ∧ ρ = [(0, .v (.int .i64 (x : Nat))), (1, .v (.int .i64 (y : Nat))), (2, .p 1000 0), (3, .p 1001 0), (4, .p 1002 0)] ∧ (True)) (x - i) ?_ ?_
 ·
  refine ⟨[(0, _), (1, _), (2, _), (3, _), (4, _)], [(1000, _), (1001, _), (1002, _), (1003, _)], ⟨rfl, rfl, rfl, rfl, rfl, trivial⟩, ⟨rfl, rfl, rfl, rfl, trivial⟩, 0, by omega, VLe.refl _, ao, co, (by rw [goneL_nil (by omega : i + 0 ≤ i), List.append_nil]; rfl), rfl, ?_⟩
  trivial
 ·
  rintro mc ρ σ u' ⟨c, hi0, hle0, ac, cc, rfl, rfl, hinv0⟩
  refine Ze (Ze (Zb (Zg (Zl rfl Tryd.k3 rfl rfl rfl (vs := [_]) rfl rfl rfl) rfl (ym rfl rfl (Zg (Zav rfl rfl rfl) rfl (Zf (ρ' := [(0, _), (1, _), (2, _), (3, _), (4, _), (9, _)]) ⟨rfl, rfl, rfl, rfl, rfl, rfl, trivial⟩ ?_))))))
  refine Zd ?_
  refine Zw rfl (fun hb0 => ?_) (fun hb0 => ?_)
  ·
   have h0 := of_decide_eq_true hb0
   have hgl := goneL_len i (i + c)
   have hsn := goneL_snoc (show i ≤ i + c by omega)
   have hAl : (L ++ goneL i (i + c)).length = L.length + c := by rw [List.length_append, hgl]; omega
   obtain ⟨A, hA⟩ : ∃ A, A = L ++ goneL i (i + c) := ⟨_, rfl⟩
   rw [← hA] at hAl ⊢
   have hnx : L ++ goneL i (i + (c + 1)) = A ++ [⟨2, ((i + c : Nat) : Int), -1⟩] := by rw [← Nat.add_assoc, hsn, hA, List.append_assoc]
   refine Zv (Zd (Ze (Zq (Zb (Zg (Zl rfl Tryd.k26 rfl rfl rfl (vs := [_]) rfl rfl rfl) rfl (Zg (Zl rfl Tryd.k3 rfl rfl rfl (vs := [_]) rfl rfl rfl) rfl (Zg (Zbh rfl Tryd.f51' Tryd.z51 (ps := [(_, _), (_, _), (_, _)]) rfl (vs := [_, _, _]) rfl) rfl ?_)))))))
   refine Zt rfl rfl ?_
   refine Zai trivial Tryd.s26 Tryd.z51 (ps := [(_, _)]) rfl (xs := [_, _, _]) rfl rfl rfl rfl rfl rfl rfl ?_
   refine Zt rfl rfl ?_
   refine Zbs 1003 trivial rfl rfl Tryd.s26 Tryd.z51 rfl rfl rfl rfl rfl rfl (by first | rfl | assumption | simp [Value.oneCell', str]) (by omega) (by omega) rfl rfl ?_
   intro ad16 cap16
   refine Zt rfl rfl ?_
   refine Zao trivial rfl Tryd.k26 rfl rfl rfl (vs := [_]) rfl rfl (by first | rfl | assumption | simp [Value.oneCell', str]) (Nat.le_of_ble_eq_true rfl) rfl ?_
   refine Zf (ρ' := [(0, _), (1, _), (2, _), (3, _), (4, _)]) ⟨rfl, rfl, rfl, rfl, rfl, trivial⟩ ?_
   refine Zah (Zd (Zb (Zg (Zl rfl Tryd.k3 rfl rfl rfl (vs := [_]) rfl rfl rfl) rfl (Zg (Zap rfl rfl rfl (Zk (by omega))) rfl ?_))))
   refine Zt rfl rfl ?_
   refine Zao trivial rfl Tryd.k3 rfl rfl rfl (vs := [_]) rfl rfl (by first | rfl | assumption | simp [Value.oneCell', str]) (Nat.le_of_ble_eq_true rfl) rfl ?_
   refine Zf (ρ' := [(0, _), (1, _), (2, _), (3, _), (4, _)]) ⟨rfl, rfl, rfl, rfl, rfl, trivial⟩ ?_
   refine Zab ?_
   refine ⟨mc - 1, [(0, _), (1, _), (2, _), (3, _), (4, _)], [(1000, _), (1001, _), (1002, _), (1003, _)], by omega, ⟨rfl, rfl, rfl, rfl, rfl, trivial⟩, ⟨rfl, rfl, rfl, rfl, trivial⟩, c + 1, by omega, hle0, _, _, (by rw [hnx, chgsC_app, List.length_append]; rfl), (by first | rfl | simp), ?_⟩
   trivial
  ·
   have h0 := of_decide_eq_false hb0
   have hgx : goneL i (i + c) = goneL i x := by
    by_cases e : i ≤ x
    ·
     rw [show i + c = x by omega]
    ·
     rw [goneL_nil (by omega), goneL_nil (by omega)]
   have hgl := goneL_len i x
   have hAl : (L ++ goneL i x).length = L.length + (x - i) := by rw [List.length_append, hgl]
   obtain ⟨A, hA⟩ : ∃ A, A = L ++ goneL i x := ⟨_, rfl⟩
   rw [hgx, ← hA, show c = x - i by omega]
   rw [← hA] at hAl
   refine Zan ?_
   refine Zh (Zh ?_)
   refine Zu ?_
   refine Zd (Zq ?_)
   refine Zaq (fun m_0 ρ σ u' => ∃ e : Nat, e + m_0 = y - k ∧ VLe u' u' ∧ ∃ (ae : Option Addr) (ce : Nat), σ = [(1000, (some bi, .box [.int .i64 ((i + (x - i) : Nat) : Int)])), (1001, (some bl, .box [.slice ae (A ++ newL k (k + e)).length ce])), (1002, (some bj, .box [.int .i64 ((k + e : Nat) : Int)])), (1003, (none, .rwv (.slice ae (A ++ newL k (k + e)).length ce) 51 3 (A ++ newL k (k + e)).length (chgsC (A ++ newL k (k + e)))))] ∧ ρ = [(0, .v (.int .i64 (x : Nat))), (1, .v (.int .i64 (y : Nat))), (2, .p 1000 0), (3, .p 1001 0), (4, .p 1002 0)] ∧ (True)) (y - k) ?_ ?_
   ·
    refine ⟨[(0, _), (1, _), (2, _), (3, _), (4, _)], [(1000, _), (1001, _), (1002, _), (1003, _)], ⟨rfl, rfl, rfl, rfl, rfl, trivial⟩, ⟨rfl, rfl, rfl, rfl, trivial⟩, 0, by omega, VLe.refl _, ac, cc, (by rw [newL_nil (by omega : k + 0 ≤ k), List.append_nil]; rfl), rfl, ?_⟩
    trivial
   ·
    rintro me ρ σ u' ⟨e, hi3, hle3, ae, ce, rfl, rfl, hinv3⟩
    refine Ze (Ze (Zb (Zg (Zl rfl Tryd.k3 rfl rfl rfl (vs := [_]) rfl rfl rfl) rfl (ym rfl rfl (Zg (Zav rfl rfl rfl) rfl (Zf (ρ' := [(0, _), (1, _), (2, _), (3, _), (4, _), (19, _)]) ⟨rfl, rfl, rfl, rfl, rfl, rfl, trivial⟩ ?_))))))
    refine Zd ?_
    refine Zw rfl (fun hb3 => ?_) (fun hb3 => ?_)
    ·
     have h3 := of_decide_eq_true hb3
     have hgl := newL_len k (k + e)
     have hsn := newL_snoc (show k ≤ k + e by omega)
     have hBl : (A ++ newL k (k + e)).length = A.length + e := by rw [List.length_append, hgl]; omega
     obtain ⟨B, hB⟩ : ∃ B, B = A ++ newL k (k + e) := ⟨_, rfl⟩
     rw [← hB] at hBl ⊢
     have hnx : A ++ newL k (k + (e + 1)) = B ++ [⟨3, -1, ((k + e : Nat) : Int)⟩] := by rw [← Nat.add_assoc, hsn, hB, List.append_assoc]
     refine Zv (Zd (Ze (Zq (Zb (Zg (Zl rfl Tryd.k26 rfl rfl rfl (vs := [_]) rfl rfl rfl) rfl (Zg (Zl rfl Tryd.k3 rfl rfl rfl (vs := [_]) rfl rfl rfl) rfl (Zg (Zbh rfl Tryd.f51' Tryd.z51 (ps := [(_, _), (_, _), (_, _)]) rfl (vs := [_, _, _]) rfl) rfl ?_)))))))
     refine Zt rfl rfl ?_
     refine Zai trivial Tryd.s26 Tryd.z51 (ps := [(_, _)]) rfl (xs := [_, _, _]) rfl rfl rfl rfl rfl rfl rfl ?_
     refine Zt rfl rfl ?_
     refine Zbs 1003 trivial rfl rfl Tryd.s26 Tryd.z51 rfl rfl rfl rfl rfl rfl (by first | rfl | assumption | simp [Value.oneCell', str]) (by omega) (by omega) rfl rfl ?_
     intro ad26 cap26
     refine Zt rfl rfl ?_
     refine Zao trivial rfl Tryd.k26 rfl rfl rfl (vs := [_]) rfl rfl (by first | rfl | assumption | simp [Value.oneCell', str]) (Nat.le_of_ble_eq_true rfl) rfl ?_
     refine Zf (ρ' := [(0, _), (1, _), (2, _), (3, _), (4, _)]) ⟨rfl, rfl, rfl, rfl, rfl, trivial⟩ ?_
     refine Zah (Zd (Zb (Zg (Zl rfl Tryd.k3 rfl rfl rfl (vs := [_]) rfl rfl rfl) rfl (Zg (Zap rfl rfl rfl (Zk (by omega))) rfl ?_))))
     refine Zt rfl rfl ?_
     refine Zao trivial rfl Tryd.k3 rfl rfl rfl (vs := [_]) rfl rfl (by first | rfl | assumption | simp [Value.oneCell', str]) (Nat.le_of_ble_eq_true rfl) rfl ?_
     refine Zf (ρ' := [(0, _), (1, _), (2, _), (3, _), (4, _)]) ⟨rfl, rfl, rfl, rfl, rfl, trivial⟩ ?_
     refine Zab ?_
     refine ⟨me - 1, [(0, _), (1, _), (2, _), (3, _), (4, _)], [(1000, _), (1001, _), (1002, _), (1003, _)], by omega, ⟨rfl, rfl, rfl, rfl, rfl, trivial⟩, ⟨rfl, rfl, rfl, rfl, trivial⟩, e + 1, by omega, hle3, _, _, (by rw [hnx, chgsC_app, List.length_append]; rfl), (by first | rfl | simp), ?_⟩
     trivial
    ·
     have h3 := of_decide_eq_false hb3
     have hgx : newL k (k + e) = newL k y := by
      by_cases e2 : k ≤ y
      ·
       rw [show k + e = y by omega]
      ·
       rw [newL_nil (by omega), newL_nil (by omega)]
     rw [hgx, show e = y - k by omega]
     refine Zan ?_
     refine Zh (Zh ?_)
     refine Zu ?_
     refine finO0n [1000, 1001, 1002, 1003]  rfl rfl ?_
     exact ⟨_, _, rfl⟩
end Go.Proofs.Ytekkhlepbacapaa
