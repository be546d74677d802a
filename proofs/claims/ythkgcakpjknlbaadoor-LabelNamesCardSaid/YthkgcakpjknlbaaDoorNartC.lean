/- Texts for a law, part 3: they walk the functions that the law reaches, and state what holds of them; without conditions beyond each theorem's own. -/
import Derived.Test.YthkgcakpjknlbaaDoorNartB
import Derived.Test.YthkgcakpjknlbaaDoorProg
namespace Go.Proofs
open Go Go.Eng
theorem Tryd.k2 : tyK Tryd.prog 2 = some (false, 1) := by kernel_rfl
theorem Tryd.z2 : tyZ Tryd.prog 2 = some [.int .i64 0] := by kernel_rfl
theorem Tryd.u2 : Tryd.prog.underlying 2 = some (.int .i64) := by kernel_rfl
theorem Tryd.k3 : tyK Tryd.prog 3 = some (false, 1) := by kernel_rfl
theorem Tryd.z3 : tyZ Tryd.prog 3 = some [.int .i64 0] := by kernel_rfl
theorem Tryd.u3 : Tryd.prog.underlying 3 = some (.int .i64) := by kernel_rfl
theorem Tryd.z4 : tyZ Tryd.prog 4 = some [.bool false] := by kernel_rfl
theorem Tryd.b4 : Tryd.prog.underlying 4 = some .bool := by kernel_rfl
theorem Tryd.z5 : tyZ Tryd.prog 5 = some [.int .u8 0] := by kernel_rfl
theorem Tryd.u5 : Tryd.prog.underlying 5 = some (.int .u8) := by kernel_rfl
theorem Tryd.k9 : tyK Tryd.prog 9 = some (false, 1) := by kernel_rfl
theorem Tryd.z9 : tyZ Tryd.prog 9 = some [str []] := by kernel_rfl
theorem Tryd.str9 : Tryd.prog.underlying 9 = some .string := by kernel_rfl
theorem Tryd.k22 : tyK Tryd.prog 22 = some (false, 1) := by kernel_rfl
theorem Tryd.s22 : tyS Tryd.prog 22 = some (48, 2, 32) := by kernel_rfl
theorem Tryd.k23 : tyK Tryd.prog 23 = some (false, 1) := by kernel_rfl
theorem Tryd.s23 : tyS Tryd.prog 23 = some (42, 11, 192) := by kernel_rfl
theorem Tryd.k25 : tyK Tryd.prog 25 = some (true, 2) := by kernel_rfl
theorem Tryd.z25 : tyZ Tryd.prog 25 = some [.slice none 0 0, .slice none 0 0] := by kernel_rfl
theorem Tryd.f25' : tyF Tryd.prog 25 = some [(0, 1), (1, 1)] := by kernel_rfl
theorem Tryd.k29 : tyK Tryd.prog 29 = some (false, 1) := by kernel_rfl
theorem Tryd.z29 : tyZ Tryd.prog 29 = some [.slice none 0 0] := by kernel_rfl
theorem Tryd.s29 : tyS Tryd.prog 29 = some (9, 1, 16) := by kernel_rfl
theorem Tryd.z31 : tyZ Tryd.prog 31 = some [.int .i64 0] := by kernel_rfl
theorem Tryd.k39 : tyK Tryd.prog 39 = some (true, 3) := by kernel_rfl
theorem Tryd.z39 : tyZ Tryd.prog 39 = some [str [], .slice none 0 0, .slice none 0 0] := by kernel_rfl
theorem Tryd.f39' : tyF Tryd.prog 39 = some [(0, 1), (1, 1), (2, 1)] := by kernel_rfl
theorem Tryd.k40 : tyK Tryd.prog 40 = some (false, 1) := by kernel_rfl
theorem Tryd.z40 : tyZ Tryd.prog 40 = some [.slice none 0 0] := by kernel_rfl
theorem Tryd.s40 : tyS Tryd.prog 40 = some (46, 10, 192) := by kernel_rfl
theorem Tryd.k42 : tyK Tryd.prog 42 = some (true, 11) := by kernel_rfl
theorem Tryd.z42 : tyZ Tryd.prog 42 = some [.int .i64 0, .int .i64 0, str [], str [], str [], str [], str [], .slice none 0 0, .slice none 0 0, .slice none 0 0, .slice none 0 0] := by kernel_rfl
theorem Tryd.f42' : tyF Tryd.prog 42 = some [(0, 1), (1, 1), (2, 1), (3, 1), (4, 1), (5, 1), (6, 3), (9, 1), (10, 1)] := by kernel_rfl
theorem Tryd.k44 : tyK Tryd.prog 44 = some (false, 1) := by kernel_rfl
theorem Tryd.s44 : tyS Tryd.prog 44 = some (86, 4, 56) := by kernel_rfl
theorem Tryd.k46 : tyK Tryd.prog 46 = some (true, 10) := by kernel_rfl
theorem Tryd.z46 : tyZ Tryd.prog 46 = some [.int .i64 0, str [], str [], str [], str [], .slice none 0 0, .slice none 0 0, .slice none 0 0, .slice none 0 0, .slice none 0 0] := by kernel_rfl
theorem Tryd.f46' : tyF Tryd.prog 46 = some [(0, 1), (1, 1), (2, 1), (3, 1), (4, 3), (7, 1), (8, 1), (9, 1)] := by kernel_rfl
theorem Tryd.k48 : tyK Tryd.prog 48 = some (true, 2) := by kernel_rfl
theorem Tryd.z48 : tyZ Tryd.prog 48 = some [str [], str []] := by kernel_rfl
theorem Tryd.f48' : tyF Tryd.prog 48 = some [(0, 1), (1, 1)] := by kernel_rfl
theorem Tryd.k52 : tyK Tryd.prog 52 = some (false, 1) := by kernel_rfl
theorem Tryd.z52 : tyZ Tryd.prog 52 = some [.nilFunc] := by kernel_rfl
theorem Tryd.z53 : tyZ Tryd.prog 53 = some [.pointer none] := by kernel_rfl
theorem Tryd.k54 : tyK Tryd.prog 54 = some (false, 1) := by kernel_rfl
theorem Tryd.k56 : tyK Tryd.prog 56 = some (false, 1) := by kernel_rfl
theorem Tryd.k58 : tyK Tryd.prog 58 = some (true, 2) := by kernel_rfl
theorem Tryd.z58 : tyZ Tryd.prog 58 = some [.nilFunc, .nilFunc] := by kernel_rfl
theorem Tryd.f58' : tyF Tryd.prog 58 = some [(0, 1), (1, 1)] := by kernel_rfl
theorem Tryd.k59 : tyK Tryd.prog 59 = some (false, 1) := by kernel_rfl
theorem Tryd.z59 : tyZ Tryd.prog 59 = some [.nilFunc] := by kernel_rfl
theorem Tryd.k61 : tyK Tryd.prog 61 = some (false, 1) := by kernel_rfl
theorem Tryd.z61 : tyZ Tryd.prog 61 = some [.map none] := by kernel_rfl
theorem Tryd.m61 : Tryd.prog.underlying 61 = some (.map 9 4) := by kernel_rfl
theorem Tryd.v4 : tyV Tryd.prog 4 = some (.bool false) := by kernel_rfl
theorem Tryd.k66 : tyK Tryd.prog 66 = some (false, 1) := by kernel_rfl
theorem Tryd.k75 : tyK Tryd.prog 75 = some (false, 1) := by kernel_rfl
theorem Tryd.z75 : tyZ Tryd.prog 75 = some [.pointer none] := by kernel_rfl
theorem Tryd.k77 : tyK Tryd.prog 77 = some (false, 1) := by kernel_rfl
theorem Tryd.z77 : tyZ Tryd.prog 77 = some [.nilFunc] := by kernel_rfl
theorem Tryd.k78 : tyK Tryd.prog 78 = some (false, 1) := by kernel_rfl
theorem Tryd.z78 : tyZ Tryd.prog 78 = some [.nilFunc] := by kernel_rfl
theorem Tryd.k86 : tyK Tryd.prog 86 = some (true, 4) := by kernel_rfl
theorem Tryd.z86 : tyZ Tryd.prog 86 = some [str [], str [], str [], .bool false] := by kernel_rfl
theorem Tryd.f86' : tyF Tryd.prog 86 = some [(0, 1), (1, 1), (2, 1), (3, 1)] := by kernel_rfl
theorem Tryd.k87 : tyK Tryd.prog 87 = some (false, 1) := by kernel_rfl
theorem Tryd.m87 : Tryd.prog.underlying 87 = some (.map 9 95) := by kernel_rfl
theorem Tryd.v95 : tyV Tryd.prog 95 = some (.agg #[str [], str [], str [], .slice none 0 0]) := by kernel_rfl
theorem Tryd.k88 : tyK Tryd.prog 88 = some (false, 1) := by kernel_rfl
theorem Tryd.m88 : Tryd.prog.underlying 88 = some (.map 9 40) := by kernel_rfl
theorem Tryd.v40 : tyV Tryd.prog 40 = some (.slice none 0 0) := by kernel_rfl
theorem Tryd.k89 : tyK Tryd.prog 89 = some (false, 1) := by kernel_rfl
theorem Tryd.m89 : Tryd.prog.underlying 89 = some (.map 9 9) := by kernel_rfl
theorem Tryd.v9 : tyV Tryd.prog 9 = some (str []) := by kernel_rfl
theorem Tryd.z91 : tyZ Tryd.prog 91 = some [str [], .map none, .map none, .map none, .map none] := by kernel_rfl
theorem Tryd.f91' : tyF Tryd.prog 91 = some [(0, 1), (1, 1), (2, 1), (3, 1), (4, 1)] := by kernel_rfl
theorem Tryd.k92 : tyK Tryd.prog 92 = some (false, 1) := by kernel_rfl
theorem Tryd.z92 : tyZ Tryd.prog 92 = some [.slice none 0 0] := by kernel_rfl
theorem Tryd.s92 : tyS Tryd.prog 92 = some (95, 4, 72) := by kernel_rfl
theorem Tryd.k95 : tyK Tryd.prog 95 = some (true, 4) := by kernel_rfl
theorem Tryd.z95 : tyZ Tryd.prog 95 = some [str [], str [], str [], .slice none 0 0] := by kernel_rfl
theorem Tryd.f95' : tyF Tryd.prog 95 = some [(0, 1), (1, 1), (2, 1), (3, 1)] := by kernel_rfl
theorem Tryd.k98 : tyK Tryd.prog 98 = some (false, 1) := by kernel_rfl
theorem Tryd.z98 : tyZ Tryd.prog 98 = some [.nilFunc] := by kernel_rfl
theorem Tryd.k99 : tyK Tryd.prog 99 = some (false, 1) := by kernel_rfl
theorem Tryd.z99 : tyZ Tryd.prog 99 = some [.nilFunc] := by kernel_rfl
theorem Tryd.z102 : tyZ Tryd.prog 102 = some [.int .i64 0, .int .i64 0, .int .i64 0, .int .i64 0, .int .i64 0, .int .i64 0] := by kernel_rfl
theorem Tryd.a102 : tyA Tryd.prog 102 = some (6, 3, 1) := by kernel_rfl
theorem Tryd.k103 : tyK Tryd.prog 103 = some (false, 1) := by kernel_rfl
theorem Tryd.z103 : tyZ Tryd.prog 103 = some [.map none] := by kernel_rfl
theorem Tryd.m103 : Tryd.prog.underlying 103 = some (.map 9 3) := by kernel_rfl
theorem Tryd.v3 : tyV Tryd.prog 3 = some (.int .i64 0) := by kernel_rfl
theorem Tryd.k105 : tyK Tryd.prog 105 = some (false, 1) := by kernel_rfl
theorem Tryd.z105 : tyZ Tryd.prog 105 = some [.nilFunc] := by kernel_rfl
theorem Tryd.k113 : tyK Tryd.prog 113 = some (true, 3) := by kernel_rfl
theorem Tryd.z113 : tyZ Tryd.prog 113 = some [str [], str [], str []] := by kernel_rfl
theorem Tryd.a113 : tyA Tryd.prog 113 = some (3, 9, 1) := by kernel_rfl
theorem Tryd.k114 : tyK Tryd.prog 114 = some (false, 1) := by kernel_rfl
theorem Tryd.k115 : tyK Tryd.prog 115 = some (false, 1) := by kernel_rfl
theorem Tryd.s115 : tyS Tryd.prog 115 = some (5, 1, 1) := by kernel_rfl
theorem Tryd.k117 : tyK Tryd.prog 117 = some (true, 2) := by kernel_rfl
theorem Tryd.z117 : tyZ Tryd.prog 117 = some [.pointer none, .slice none 0 0] := by kernel_rfl
theorem Tryd.f117' : tyF Tryd.prog 117 = some [(0, 1), (1, 1)] := by kernel_rfl
theorem Tryd.k126 : tyK Tryd.prog 126 = some (false, 1) := by kernel_rfl
theorem Tryd.z126 : tyZ Tryd.prog 126 = some [.nilFunc] := by kernel_rfl
theorem Tryd.c8 : canCall Tryd.prog 8 = true := by kernel_rfl
theorem Tryd.c9 : canCall Tryd.prog 9 = true := by kernel_rfl
theorem Tryd.c10 : canCall Tryd.prog 10 = true := by kernel_rfl
theorem Tryd.c11 : canCall Tryd.prog 11 = true := by kernel_rfl
theorem Tryd.c12 : canCall Tryd.prog 12 = true := by kernel_rfl
theorem Tryd.c13 : canCall Tryd.prog 13 = true := by kernel_rfl
theorem Tryd.c20 : canCall Tryd.prog 20 = true := by kernel_rfl
theorem Tryd.c22 : canCall Tryd.prog 22 = true := by kernel_rfl
theorem Tryd.c23 : canCall Tryd.prog 23 = true := by kernel_rfl
theorem Tryd.c24 : canCall Tryd.prog 24 = true := by kernel_rfl
theorem Tryd.c25 : canCall Tryd.prog 25 = true := by kernel_rfl
theorem Tryd.c26 : canCall Tryd.prog 26 = true := by kernel_rfl
theorem Tryd.c27 : canCall Tryd.prog 27 = true := by kernel_rfl
theorem Tryd.c28 : canCall Tryd.prog 28 = true := by kernel_rfl
theorem Tryd.c29 : canCall Tryd.prog 29 = true := by kernel_rfl
theorem Tryd.c30 : canCall Tryd.prog 30 = true := by kernel_rfl
theorem Tryd.c36 : canCall Tryd.prog 36 = true := by kernel_rfl
theorem Tryd.c37 : canCall Tryd.prog 37 = true := by kernel_rfl
theorem Tryd.c41 : canCall Tryd.prog 41 = true := by kernel_rfl
theorem Tryd.c42 : canCall Tryd.prog 42 = true := by kernel_rfl
theorem Tryd.c43 : canCall Tryd.prog 43 = true := by kernel_rfl
theorem Tryd.c44 : canCall Tryd.prog 44 = true := by kernel_rfl
theorem Tryd.c45 : canCall Tryd.prog 45 = true := by kernel_rfl
theorem Tryd.c46 : canCall Tryd.prog 46 = true := by kernel_rfl
theorem Tryd.c47 : canCall Tryd.prog 47 = true := by kernel_rfl
theorem Tryd.c48 : canCall Tryd.prog 48 = true := by kernel_rfl
theorem Tryd.c49 : canCall Tryd.prog 49 = true := by kernel_rfl
theorem Tryd.c50 : canCall Tryd.prog 50 = true := by kernel_rfl
theorem Tryd.c51 : canCall Tryd.prog 51 = true := by kernel_rfl
theorem Tryd.c52 : canCall Tryd.prog 52 = true := by kernel_rfl
theorem Tryd.c56 : canCall Tryd.prog 56 = true := by kernel_rfl
theorem Tryd.c57 : canCall Tryd.prog 57 = true := by kernel_rfl
theorem Tryd.c58 : canCall Tryd.prog 58 = true := by kernel_rfl
theorem Tryd.c59 : canCall Tryd.prog 59 = true := by kernel_rfl
theorem Tryd.c60 : canCall Tryd.prog 60 = true := by kernel_rfl
theorem Tryd.c63 : canCall Tryd.prog 63 = true := by kernel_rfl
theorem Tryd.c64 : canCall Tryd.prog 64 = true := by kernel_rfl
theorem Tryd.c65 : canCall Tryd.prog 65 = true := by kernel_rfl
theorem Tryd.c66 : canCall Tryd.prog 66 = true := by kernel_rfl
theorem Tryd.c67 : canCall Tryd.prog 67 = true := by kernel_rfl
theorem Tryd.c68 : canCall Tryd.prog 68 = true := by kernel_rfl
theorem Tryd.c69 : canCall Tryd.prog 69 = true := by kernel_rfl
theorem Tryd.c70 : canCall Tryd.prog 70 = true := by kernel_rfl
theorem Tryd.c71 : canCall Tryd.prog 71 = true := by kernel_rfl
theorem Tryd.c72 : canCall Tryd.prog 72 = true := by kernel_rfl
theorem Tryd.c74 : canCall Tryd.prog 74 = true := by kernel_rfl
theorem Tryd.c75 : canCall Tryd.prog 75 = true := by kernel_rfl
theorem Tryd.c76 : canCall Tryd.prog 76 = true := by kernel_rfl
theorem Tryd.c77 : canCall Tryd.prog 77 = true := by kernel_rfl
theorem Tryd.c78 : canCall Tryd.prog 78 = true := by kernel_rfl
theorem Tryd.c81 : canCall Tryd.prog 81 = true := by kernel_rfl
theorem Tryd.c82 : canCall Tryd.prog 82 = true := by kernel_rfl
theorem Tryd.c83 : canCall Tryd.prog 83 = true := by kernel_rfl
theorem Tryd.c84 : canCall Tryd.prog 84 = true := by kernel_rfl
theorem Tryd.c85 : canCall Tryd.prog 85 = true := by kernel_rfl
theorem Tryd.c86 : canCall Tryd.prog 86 = true := by kernel_rfl
theorem Tryd.c87 : canCall Tryd.prog 87 = true := by kernel_rfl
theorem Tryd.c88 : canCall Tryd.prog 88 = true := by kernel_rfl
theorem Tryd.c89 : canCall Tryd.prog 89 = true := by kernel_rfl
theorem Tryd.c94 : canCall Tryd.prog 94 = true := by kernel_rfl
theorem Tryd.c96 : canCall Tryd.prog 96 = true := by kernel_rfl
theorem Tryd.mixed : Tryd.prog.follows .mixedOrders = true := by kernel_rfl
end Go.Proofs
namespace Go.Eng
open Go Go.RowKit
set_option linter.unusedSimpArgs false
set_option linter.unusedVariables false
structure DNum where
 id : Bs
 kind : Bs
 value : Bs
 line : List Inl
def NumC (u : View) (x : DNum) (cs : List Value) : Prop := ∃ vl, cs = [str x.id, str x.kind, str x.value, vl] ∧ InlS u vl x.line
def NumsC (u : View) : List DNum → List Value → Prop
 | [], cs => cs = []
 | x :: xs, cs => ∃ c r, cs = c ++ r ∧ NumC u x c ∧ NumsC u xs r
def NumS (u : View) (v : Value) (xs : List DNum) : Prop := ∃ cs, IsSl u v xs.length 4 cs ∧ NumsC u xs cs
theorem NumC.mono {u u' : View} {x : DNum} {cs : List Value} (h : NumC u x cs) (hu : VLe u u') : NumC u' x cs := let ⟨vl, h1, h2⟩ := h; ⟨vl, h1, h2.mono hu⟩
theorem NumsC.mono {u u' : View} (hu : VLe u u') : ∀ {xs : List DNum} {cs : List Value}, NumsC u xs cs → NumsC u' xs cs
 | [], cs, h => h
 | x :: xs, cs, h => let ⟨c, r, h1, h2, h3⟩ := h; ⟨c, r, h1, h2.mono hu, NumsC.mono hu h3⟩
theorem NumS.mono {u u' : View} {v : Value} {xs : List DNum} (h : NumS u v xs) (hu : VLe u u') : NumS u' v xs := let ⟨cs, h1, h2⟩ := h; ⟨cs, h1.mono hu, h2.mono hu⟩
theorem NumC.len {u : View} {x : DNum} {cs : List Value} (h : NumC u x cs) : cs.length = 4 := by obtain ⟨_, rfl, _⟩ := h; rfl
theorem NumsC.len {u : View} : ∀ {xs : List DNum} {cs : List Value}, NumsC u xs cs → cs.length = xs.length * 4
 | [], cs, h => by simp only [NumsC] at h; subst h; rfl
 | x :: xs, cs, h => by
  obtain ⟨c, r, rfl, h2, h3⟩ := h
  simp [h2.len, h3.len, Nat.add_mul]; omega
theorem NumsC.append {u : View} : ∀ {xs ys : List DNum} {cs ds : List Value}, NumsC u xs cs → NumsC u ys ds → NumsC u (xs ++ ys) (cs ++ ds)
 | [], ys, cs, ds, h, k => by simp only [NumsC] at h; subst h; simpa using k
 | x :: xs, ys, cs, ds, h, k => by
  obtain ⟨c, r, rfl, h2, h3⟩ := h
  exact ⟨c, r ++ ds, by simp, h2, h3.append k⟩
theorem NumsC.get {u : View} : ∀ {xs : List DNum} {cs : List Value} (i : Nat) (x : DNum), NumsC u xs cs → xs[i]? = some x → NumC u x (cut cs (i * 4) 4)
 | [], cs, i, x, _, hi => by simp at hi
 | y :: ys, cs, i, x, h, hi => by
  obtain ⟨c, r, rfl, h2, h3⟩ := h
  have hl := h2.len
  cases i with
  | zero =>
   simp at hi
   subst hi
   have : cut (c ++ r) (0 * 4) 4 = c := by unfold cut; simp [← hl]
   rw [this]; exact h2
  | succ i =>
   have ih := NumsC.get i x h3 (by simpa using hi)
   have : cut (c ++ r) ((i + 1) * 4) 4 = cut r (i * 4) 4 := by
    unfold cut
    rw [show (i + 1) * 4 = c.length + i * 4 by omega, List.drop_append, List.drop_eq_nil_of_le (by omega), List.nil_append, Nat.add_sub_cancel_left]
   rw [this]; exact ih
theorem NumsC.at {u : View} {xs : List DNum} {cs : List Value} (h : NumsC u xs cs) {i : Nat} (hi : i < xs.length) :
  ∃ x vl, xs[i]? = some x ∧ cut cs (i * 4) 4 = [str x.id, str x.kind, str x.value, vl] ∧ InlS u vl x.line := by
 obtain ⟨vl, h1, h2⟩ := h.get i _ (List.getElem?_eq_getElem hi)
 exact ⟨_, vl, List.getElem?_eq_getElem hi, h1, h2⟩
theorem NumC.one {u : View} {x : DNum} {cs : List Value} (h : NumC u x cs) : cs.all Value.oneCell' = true := by
 obtain ⟨vl, rfl, ⟨ks, h5, _⟩⟩ := h
 simp [IsSl.one h5]
 simp [str, Value.oneCell']
theorem NumsC.ones {u : View} : ∀ {xs : List DNum} {cs : List Value}, NumsC u xs cs → cs.all Value.oneCell' = true
 | [], cs, h => by simp only [NumsC] at h; subst h; rfl
 | x :: xs, cs, h => by
  obtain ⟨c, r, rfl, h2, h3⟩ := h
  rw [List.all_append, h2.one, h3.ones]; rfl
theorem NumsC.one {u : View} {x : DNum} {c : List Value} (h : NumC u x c) : NumsC u [x] c := ⟨c, [], by simp, h, rfl⟩
end Go.Eng
namespace Go.Proofs.Ythkgcakpjknlbaa
open Go Go.Eng
set_option linter.unusedSimpArgs false
set_option linter.unusedVariables false
set_option maxRecDepth 4000
end Go.Proofs.Ythkgcakpjknlbaa
namespace Go.Proofs.Ythkgcakpjknlbaa
open Go Go.Eng
set_option linter.unusedSimpArgs false
set_option linter.unusedVariables false
set_option maxRecDepth 4000
def longN (a : DAttr) : Nat := a.id.length + (a.classes.map List.length).sum + (a.pairs.map fun p => p.1.length + p.2.length).sum
theorem sum_take {α : Type} (f : α → Nat) {xs : List α} {i : Nat} {x : α} (h : xs[i]? = some x) : ((xs.take (i + 1)).map f).sum = ((xs.take i).map f).sum + f x := by
 obtain ⟨hlt, rfl⟩ := List.getElem?_eq_some_iff.1 h
 rw [List.take_succ_eq_append_getElem hlt, List.map_append, List.sum_append]
 simp only [List.map_cons, List.map_nil, List.sum_cons, List.sum_nil, Nat.add_zero]
theorem sum_le {α : Type} (f : α → Nat) (B : Nat) : ∀ (xs : List α), (∀ x ∈ xs, f x ≤ B) → (xs.map f).sum ≤ xs.length * B
 | [], _ => by simp
 | x :: xs, h => by
  have := sum_le f B xs (fun y hy => h y (by simp [hy]))
  have := h x (by simp)
  simp only [List.map_cons, List.sum_cons, List.length_cons, Nat.add_mul]
  omega
theorem sum_take_le {α : Type} (f : α → Nat) (B : Nat) (xs : List α) (i : Nat) (h : ∀ x ∈ xs, f x ≤ B) : ((xs.take i).map f).sum ≤ xs.length * B := by
 refine Nat.le_trans (sum_le f B _ fun x hx => h x (List.mem_of_mem_take hx)) ?_
 exact Nat.mul_le_mul_right _ (by simp; omega)
theorem long_fn (a : DAttr) (vc vp : Value) (u : View) (hok : AttrOk a) (h1 : StrS u vc a.classes) (h2 : PrS u vp a.pairs) :
  FnP Tryd.prog 41 [.agg #[str a.id, vc, vp]] u fun v _ => v = .bool (decide (40 < a.classes.length ∨ 40 < a.pairs.length ∨ 600 < longN a)) := by
 obtain ⟨ad, cap, rfl, h1⟩ := h1
 obtain ⟨ad2, cap2, rfl, h2⟩ := h2
 obtain ⟨hid, ⟨hcl, hcs⟩, ⟨hpl, hps⟩⟩ := hok
 refine FnP.intro [.tmp 2] Tryd.func41 rfl rfl rfl ?_
 intro w0 D hw0
 refine wc_seq ?_
 refine wc_region ?_
 refine rl_do rfl rfl ?_
 refine do_box trivial rfl (cs := [_, _, _]) rfl rfl rfl rfl ?_
 refine ya rfl rfl ?_
 refine rl_end (ρ' := [(1, _)]) ⟨rfl, trivial⟩ ?_
 refine q_then ?_
 refine wc_seq ?_
 refine wc_region ?_
 refine rl_y (y_field_p rfl Tryd.f39' rfl (by decide) rfl) rfl ?_
 refine rl_y (y_load_p rfl Tryd.k9 rfl rfl rfl (vs := [_]) rfl rfl rfl) rfl ?_
 refine rl_y (y_len_str rfl rfl Tryd.str9 rfl) rfl ?_
 refine ya rfl rfl ?_
 refine rl_end (ρ' := [(1, _), (3, _)]) ⟨rfl, rfl, trivial⟩ ?_
 refine q_then ?_
 refine wc_seq ?_
 refine wc_seq ?_
 refine wc_cutB 18 ((decide (40 < a.classes.length ∨ 40 < a.pairs.length))) (ρk := [(1, _), (3, _)]) ⟨rfl, rfl, trivial⟩ ?_ ?_
 ·
  refine wc_region ?_
  refine rl_y (y_field_p rfl Tryd.f39' rfl (by decide) rfl) rfl ?_
  refine rl_y (y_load_p rfl Tryd.k29 rfl rfl rfl (vs := [_]) rfl rfl rfl) rfl ?_
  refine rl_y (y_len_v rfl rfl Tryd.s29 rfl) rfl ?_
  refine rl_y (y_gtr rfl rfl rfl) rfl ?_
  refine ym rfl rfl ?_
  rcases Bool.eq_false_or_eq_true (decide ((40 : Int) < a.classes.length)) with hg2_4 | hg2_4
  ·
   simp only [hg2_4]
   refine rl_off rfl rfl rfl rfl ?_
   refine rl_off rfl rfl rfl rfl ?_
   refine rl_off rfl rfl rfl rfl ?_
   refine rl_off rfl rfl rfl rfl ?_
   refine rl_y (y_pick_t rfl rfl rfl) rfl ?_
   exact cutB_end rfl ⟨rfl, rfl, trivial⟩ (by (first | refine (decide_eq_true ?_).symm | refine (decide_eq_false ?_).symm | refine decide_eq_decide.2 ?_ | refine decide_eq_true ?_ | refine decide_eq_false ?_) <;> (try unfold longN) <;> (try simp only [decide_eq_true_eq, decide_eq_false_iff_not] at *) <;> omega)
  ·
   simp only [hg2_4]
   refine rl_on rfl rfl ?_
   refine rl_y (y_field_p rfl Tryd.f39' rfl (by decide) rfl) rfl ?_
   refine rl_on rfl rfl ?_
   refine rl_y (y_load_p rfl Tryd.k22 rfl rfl rfl (vs := [_]) rfl rfl rfl) rfl ?_
   refine rl_on rfl rfl ?_
   refine rl_y (y_len_v rfl rfl Tryd.s22 rfl) rfl ?_
   refine rl_on rfl rfl ?_
   refine rl_y (y_gtr rfl rfl rfl) rfl ?_
   refine rl_y (y_pick_f rfl rfl rfl) rfl ?_
   exact cutB_end rfl ⟨rfl, rfl, trivial⟩ (by (first | refine (decide_eq_true ?_).symm | refine (decide_eq_false ?_).symm | refine decide_eq_decide.2 ?_ | refine decide_eq_true ?_ | refine decide_eq_false ?_) <;> (try unfold longN) <;> (try simp only [decide_eq_true_eq, decide_eq_false_iff_not] at *) <;> omega)
 refine q_then ?_
 refine wc_cond rfl (fun hb2 => ?_) (fun hb2 => ?_)
 ·
  refine wc_seq ?_
  refine wc_region ?_
  refine ya rfl rfl ?_
  refine rl_end (ρ' := [(2, _)]) ⟨rfl, trivial⟩ ?_
  refine q_then ?_
  refine wc_ret ?_
  refine q_then_ret ?_
  refine fin1 (.tmp rfl) ?_
  have := of_decide_eq_true hb2
  rw [decide_eq_true]
  omega
 ·
  refine wc_skip ?_
  refine q_then ?_
  refine wc_seq ?_
  refine wc_seq ?_
  refine wc_region ?_
  refine ya rfl rfl ?_
  refine rl_end (ρ' := [(1, _), (3, _), (4, _)]) ⟨rfl, rfl, rfl, trivial⟩ ?_
  refine q_then ?_
  refine wc_block ?_
  refine wc_loop (fun m ρ σ u' => ∃ i : Nat, i + m = a.classes.length ∧ VLe u u' ∧ σ = [(1, (none, .box [str a.id, .slice ad a.classes.length cap, .slice ad2 a.pairs.length cap2]))] ∧ ρ = [(1, .p 1 0), (3, .v (.int .i64 (a.id.length + ((a.classes.take i).map List.length).sum : Nat))), (4, .v (.int .i64 i))] ∧ (u = u')) (a.classes.length) ?_ ?_
  ·
   refine ⟨[(1, _), (3, _), (4, _)], [(1, _)], ⟨rfl, rfl, rfl, trivial⟩, ⟨rfl, trivial⟩, 0, by omega, VLe.refl _, (by first | rfl | simp), (by first | rfl | (simp only [List.cons.injEq, Prod.mk.injEq, SV.v.injEq, Value.int.injEq, true_and, and_true]; omega) | simp), ?_⟩
   rfl
  ·
   rintro m ρ σ u' ⟨i, hi5, hle5, rfl, rfl, rfl⟩
   refine wc_seq ?_
   refine wc_seq ?_
   refine wc_region ?_
   refine ym rfl rfl ?_
   refine rl_y (y_field_p rfl Tryd.f39' rfl (by decide) rfl) rfl ?_
   refine rl_y (y_load_p rfl Tryd.k29 rfl rfl rfl (vs := [_]) rfl rfl rfl) rfl ?_
   refine rl_y (y_len_v rfl rfl Tryd.s29 rfl) rfl ?_
   refine rl_y (y_lss rfl rfl rfl) rfl ?_
   refine rl_end (ρ' := [(1, _), (3, _), (4, _), (23, _)]) ⟨rfl, rfl, rfl, rfl, trivial⟩ ?_
   refine q_then ?_
   refine wc_cond rfl (fun hb5 => ?_) (fun hb5 => ?_)
   ·
    refine wc_skip ?_
    refine q_then ?_
    refine wc_seq ?_
    refine wc_block ?_
    have hlt : i < a.classes.length := by have := of_decide_eq_true hb5; omega
    have h40 := of_decide_eq_false hb2
    have hg := List.getElem?_eq_getElem hlt
    have hc := cut_strsC hg
    have hst := sum_take List.length hg
    have hb := sum_take_le List.length _ a.classes i hcs
    have hcb := hcs _ (List.mem_of_getElem? hg)
    refine wc_region ?_
    refine ym rfl rfl ?_
    refine rl_y (y_field_p rfl Tryd.f39' rfl (by decide) rfl) rfl ?_
    refine rl_y (y_load_p rfl Tryd.k29 rfl rfl rfl (vs := [_]) rfl rfl rfl) rfl ?_
    refine ym rfl rfl ?_
    refine rl_y (y_index_e rfl Tryd.s29 rfl rfl (by assumption) (by first | rfl | omega) (by omega)) rfl ?_
    refine rl_y (y_load_el rfl Tryd.k9 rfl (by assumption) (by omega) (by assumption) (vs := [_]) rfl rfl rfl rfl) rfl ?_
    refine rl_y (y_len_str rfl rfl Tryd.str9 rfl) rfl ?_
    refine rl_y (y_add rfl rfl rfl (wrap64_id (by omega))) rfl ?_
    refine ya rfl rfl ?_
    refine rl_end (ρ' := [(1, _), (3, _), (4, _)]) ⟨rfl, rfl, rfl, trivial⟩ ?_
    refine q_block ?_
    refine q_then ?_
    refine wc_region ?_
    refine ym rfl rfl ?_
    refine rl_y (y_add rfl rfl rfl (wrap64_id (by omega))) rfl ?_
    refine ya rfl rfl ?_
    refine rl_end (ρ' := [(1, _), (3, _), (4, _)]) ⟨rfl, rfl, rfl, trivial⟩ ?_
    refine q_thenK ?_
    refine ⟨m - 1, [(1, _), (3, _), (4, _)], [(1, _)], by omega, ⟨rfl, rfl, rfl, trivial⟩, ⟨rfl, trivial⟩, i + 1, by omega, hle5, (by first | rfl | simp), (by first | rfl | (simp only [List.cons.injEq, Prod.mk.injEq, SV.v.injEq, Value.int.injEq, true_and, and_true]; omega) | simp), ?_⟩
    rfl
   ·
    refine wc_exit ?_
    refine q_then_exit ?_
    refine q_then_exit ?_
    refine q_block_hit ?_
    refine q_then ?_
    refine wc_seq ?_
    refine wc_seq ?_
    refine wc_region ?_
    refine ya rfl rfl ?_
    refine rl_end (ρ' := [(1, _), (3, _), (5, _)]) ⟨rfl, rfl, rfl, trivial⟩ ?_
    refine q_then ?_
    refine wc_block ?_
    refine wc_loop (fun m ρ σ u' => ∃ i : Nat, i + m = a.pairs.length ∧ VLe u u' ∧ σ = [(1, (none, .box [str a.id, .slice ad a.classes.length cap, .slice ad2 a.pairs.length cap2]))] ∧ ρ = [(1, .p 1 0), (3, .v (.int .i64 (a.id.length + (a.classes.map List.length).sum + ((a.pairs.take i).map fun p => p.1.length + p.2.length).sum : Nat))), (5, .v (.int .i64 i))] ∧ (u = u')) (a.pairs.length) ?_ ?_
    ·
     refine ⟨[(1, _), (3, _), (5, _)], [(1, _)], ⟨rfl, rfl, rfl, trivial⟩, ⟨rfl, trivial⟩, 0, by omega, VLe.refl _, rfl, (by have hge := of_decide_eq_false hb5; rw [List.take_of_length_le (l := a.classes) (by omega)]; simp), ?_⟩
     rfl
    ·
     rintro m ρ σ u' ⟨i, hi9, hle9, rfl, rfl, rfl⟩
     refine wc_seq ?_
     refine wc_seq ?_
     refine wc_region ?_
     refine ym rfl rfl ?_
     refine rl_y (y_field_p rfl Tryd.f39' rfl (by decide) rfl) rfl ?_
     refine rl_y (y_load_p rfl Tryd.k22 rfl rfl rfl (vs := [_]) rfl rfl rfl) rfl ?_
     refine rl_y (y_len_v rfl rfl Tryd.s22 rfl) rfl ?_
     refine rl_y (y_lss rfl rfl rfl) rfl ?_
     refine rl_end (ρ' := [(1, _), (3, _), (5, _), (38, _)]) ⟨rfl, rfl, rfl, rfl, trivial⟩ ?_
     refine q_then ?_
     refine wc_cond rfl (fun hb9 => ?_) (fun hb9 => ?_)
     ·
      refine wc_skip ?_
      refine q_then ?_
      refine wc_seq ?_
      refine wc_block ?_
      have hlt : i < a.pairs.length := by have := of_decide_eq_true hb9; omega
      have h40 := of_decide_eq_false hb2
      have hg := List.getElem?_eq_getElem hlt
      have hc := cut_pairsC hg
      have hst := sum_take (fun p : Bs × Bs => p.1.length + p.2.length) hg
      have hb := sum_take_le List.length _ a.classes a.classes.length hcs
      rw [List.take_of_length_le (Nat.le_refl _)] at hb
      have hb2' := sum_take_le (fun p : Bs × Bs => p.1.length + p.2.length) 281474976702464 a.pairs i (fun p hp => by have := hps p hp; omega)
      have hcb := hps _ (List.mem_of_getElem? hg)
      refine wc_draw Tryd.mixed rfl [(1, _)] ⟨rfl, trivial⟩ ?_
      refine ra_y (i := 0) rfl (by kernel_rfl) (by kernel_rfl) (by kernel_rfl) (np_block (np_then (np_then (np_block (np_then (np_fin)))))) (y_move rfl rfl) rfl ?_
      refine ra_y (i := 1) rfl (by kernel_rfl) (by kernel_rfl) (by kernel_rfl) (np_block (np_then (np_then (np_block (np_then (np_fin)))))) (y_field_p rfl Tryd.f39' rfl (by decide) rfl) rfl ?_
      refine ra_y (i := 2) rfl (by kernel_rfl) (by kernel_rfl) (by kernel_rfl) (np_block (np_then (np_then (np_block (np_then (np_fin)))))) (y_load_p rfl Tryd.k22 rfl rfl rfl (vs := [_]) rfl rfl rfl) rfl ?_
      refine ra_y (i := 3) rfl (by kernel_rfl) (by kernel_rfl) (by kernel_rfl) (np_block (np_then (np_then (np_block (np_then (np_fin)))))) (y_move rfl rfl) rfl ?_
      refine ra_y (i := 4) rfl (by kernel_rfl) (by kernel_rfl) (by kernel_rfl) (np_block (np_then (np_then (np_block (np_then (np_fin)))))) (y_index_e rfl Tryd.s22 rfl rfl (by assumption) (by first | rfl | omega) (by omega)) rfl ?_
      refine ra_y (i := 5) rfl (by kernel_rfl) (by kernel_rfl) (by kernel_rfl) (np_block (np_then (np_then (np_block (np_then (np_fin)))))) (y_field_e rfl Tryd.f48' rfl (by decide) rfl) rfl ?_
      refine ra_y (i := 6) rfl (by kernel_rfl) (by kernel_rfl) (by kernel_rfl) (np_block (np_then (np_then (np_block (np_then (np_fin)))))) (y_load_el rfl Tryd.k9 rfl (by assumption) (by omega) (by assumption) (vs := [_]) rfl rfl rfl rfl) rfl ?_
      refine ra_y (i := 7) rfl (by kernel_rfl) (by kernel_rfl) (by kernel_rfl) (np_block (np_then (np_then (np_block (np_then (np_fin)))))) (y_len_str rfl rfl Tryd.str9 rfl) rfl ?_
      refine ra_y (i := 8) rfl (by kernel_rfl) (by kernel_rfl) (by kernel_rfl) (np_block (np_then (np_then (np_block (np_then (np_fin)))))) (y_field_p rfl Tryd.f39' rfl (by decide) rfl) rfl ?_
      refine ra_y (i := 9) rfl (by kernel_rfl) (by kernel_rfl) (by kernel_rfl) (np_block (np_then (np_then (np_block (np_then (np_fin)))))) (y_load_p rfl Tryd.k22 rfl rfl rfl (vs := [_]) rfl rfl rfl) rfl ?_
      refine ra_y (i := 10) rfl (by kernel_rfl) (by kernel_rfl) (by kernel_rfl) (np_block (np_then (np_then (np_block (np_then (np_fin)))))) (y_move rfl rfl) rfl ?_
      refine ra_y (i := 11) rfl (by kernel_rfl) (by kernel_rfl) (by kernel_rfl) (np_block (np_then (np_then (np_block (np_then (np_fin)))))) (y_index_e rfl Tryd.s22 rfl rfl (by assumption) (by first | rfl | omega) (by omega)) rfl ?_
      refine ra_y (i := 12) rfl (by kernel_rfl) (by kernel_rfl) (by kernel_rfl) (np_block (np_then (np_then (np_block (np_then (np_fin)))))) (y_field_e rfl Tryd.f48' rfl (by decide) rfl) rfl ?_
      refine ra_y (i := 13) rfl (by kernel_rfl) (by kernel_rfl) (by kernel_rfl) (np_block (np_then (np_then (np_block (np_then (np_fin)))))) (y_load_el rfl Tryd.k9 rfl (by assumption) (by omega) (by assumption) (vs := [_]) rfl rfl rfl rfl) rfl ?_
      refine ra_y (i := 14) rfl (by kernel_rfl) (by kernel_rfl) (by kernel_rfl) (np_block (np_then (np_then (np_block (np_then (np_fin)))))) (y_len_str rfl rfl Tryd.str9 rfl) rfl ?_
      refine ra_y (i := 15) rfl (by kernel_rfl) (by kernel_rfl) (by kernel_rfl) (np_block (np_then (np_then (np_block (np_then (np_fin)))))) (y_add rfl rfl rfl (wrap64_id (by omega))) rfl ?_
      refine ra_y (i := 16) rfl (by kernel_rfl) (by kernel_rfl) (by kernel_rfl) (np_block (np_then (np_then (np_block (np_then (np_fin)))))) (y_add rfl rfl rfl (wrap64_id (by omega))) rfl ?_
      refine ra_y (i := 17) rfl (by kernel_rfl) (by kernel_rfl) (by kernel_rfl) (np_block (np_then (np_then (np_block (np_then (np_fin)))))) (y_assign rfl rfl) rfl ?_
      refine ra_end (by kernel_rfl) (ρ' := [(1, _), (3, _), (5, _)]) ⟨rfl, rfl, rfl, trivial⟩ ?_
      refine q_block ?_
      refine q_then ?_
      refine wc_region ?_
      refine ym rfl rfl ?_
      refine rl_y (y_add rfl rfl rfl (wrap64_id (by omega))) rfl ?_
      refine ya rfl rfl ?_
      refine rl_end (ρ' := [(1, _), (3, _), (5, _)]) ⟨rfl, rfl, rfl, trivial⟩ ?_
      refine q_thenK ?_
      refine ⟨m - 1, [(1, _), (3, _), (5, _)], [(1, _)], by omega, ⟨rfl, rfl, rfl, trivial⟩, ⟨rfl, trivial⟩, i + 1, by omega, hle9, (by first | rfl | simp), (by first | rfl | (simp only [List.cons.injEq, Prod.mk.injEq, SV.v.injEq, Value.int.injEq, true_and, and_true]; omega) | simp), ?_⟩
      rfl
     ·
      refine wc_exit ?_
      refine q_then_exit ?_
      refine q_then_exit ?_
      refine q_block_hit ?_
      refine q_then ?_
      refine wc_seq ?_
      have h40 := of_decide_eq_false hb2
      have hge := of_decide_eq_false hb9
      have hfull : ((a.pairs.take i).map fun p => p.1.length + p.2.length) = (a.pairs.map fun p => p.1.length + p.2.length) := by rw [List.take_of_length_le (by omega)]
      rw [hfull]
      refine wc_region ?_
      refine ym rfl rfl ?_
      refine rl_y (y_gtr rfl rfl rfl) rfl ?_
      refine ya rfl rfl ?_
      refine rl_end (ρ' := [(2, _)]) ⟨rfl, trivial⟩ ?_
      refine q_then ?_
      refine wc_ret ?_
      refine fin1 (.tmp rfl) ?_
      congr 1
      refine decide_eq_decide.2 ?_
      unfold longN
      omega
end Go.Proofs.Ythkgcakpjknlbaa
namespace Go.Proofs.Ythkgcakpjknlbaa
open Go Go.Eng
set_option linter.unusedSimpArgs false
set_option linter.unusedVariables false
set_option maxRecDepth 4000
def NodeSm (t d ti : Bs) (a : DAttr) (args : List Bs) (cites : List DCite) : Prop :=
 t.length + d.length + ti.length ≤ 300 ∧ a.classes.length ≤ 40 ∧ a.pairs.length ≤ 40 ∧ longN a ≤ 600 ∧ args.length ≤ 9 ∧ cites.length ≤ 9 ∧ (∀ s ∈ args, s.length ≤ 50000) ∧ ∀ c ∈ cites, c.key.length + c.pre.length + c.suf.length ≤ 50000
mutual
def smI1 : Inl → Prop
 | .mk _ t d ti a args cites kids => NodeSm t d ti a args cites ∧ smI kids
def smI : List Inl → Prop
 | [] => True
 | x :: xs => smI1 x ∧ smI xs
end
theorem szI_append : ∀ (xs ys : List Inl), szI (xs ++ ys) = szI xs + szI ys
 | [], ys => by simp [szI]
 | x :: xs, ys => by
  rw [List.cons_append]
  simp only [szI, szI_append xs ys, Nat.add_assoc]
theorem szI_take {xs : List Inl} {i : Nat} {x : Inl} (h : xs[i]? = some x) : szI (xs.take (i + 1)) = szI (xs.take i) + sz1 x := by
 obtain ⟨hlt, rfl⟩ := List.getElem?_eq_some_iff.1 h
 rw [List.take_succ_eq_append_getElem hlt, szI_append]
 simp [szI]
theorem mem_take_succ {α : Type} {xs : List α} {i : Nat} {x y : α} (h : xs[i]? = some x) (hy : y ∈ xs.take (i + 1)) : y ∈ xs.take i ∨ y = x := by
 obtain ⟨hlt, rfl⟩ := List.getElem?_eq_some_iff.1 h
 rw [List.take_succ_eq_append_getElem hlt] at hy
 rcases List.mem_append.1 hy with h | h
 ·
  exact .inl h
 ·
  exact .inr (List.mem_singleton.1 h)
mutual
def smB1 : Blk → Prop
 | .mk _ _ inf t d ti a line kids => inf.length + t.length + d.length + ti.length ≤ 300 ∧ a.classes.length ≤ 40 ∧ a.pairs.length ≤ 40 ∧ longN a ≤ 600 ∧ smI line ∧ smB kids
def smB : List Blk → Prop
 | [] => True
 | x :: xs => smB1 x ∧ smB xs
end
theorem szB_append : ∀ (xs ys : List Blk), szB (xs ++ ys) = szB xs + szB ys
 | [], ys => by simp [szB]
 | x :: xs, ys => by
  rw [List.cons_append]
  simp only [szB, szB_append xs ys, Nat.add_assoc]
theorem szB_take {xs : List Blk} {i : Nat} {x : Blk} (h : xs[i]? = some x) : szB (xs.take (i + 1)) = szB (xs.take i) + szb x := by
 obtain ⟨hlt, rfl⟩ := List.getElem?_eq_some_iff.1 h
 rw [List.take_succ_eq_append_getElem hlt, szB_append]
 simp [szB]
theorem smI_get : ∀ {xs : List Inl} {i : Nat} {x : Inl}, smI xs → xs[i]? = some x → smI1 x
 | [], i, x, _, h => by simp at h
 | y :: ys, 0, x, h, hi => by
  simp at hi; subst hi
  unfold smI at h; exact h.1
 | y :: ys, i + 1, x, h, hi => by
  unfold smI at h
  exact smI_get h.2 (by simpa using hi)
theorem smB_get : ∀ {xs : List Blk} {i : Nat} {x : Blk}, smB xs → xs[i]? = some x → smB1 x
 | [], i, x, _, h => by simp at h
 | y :: ys, 0, x, h, hi => by
  simp at hi; subst hi
  unfold smB at h; exact h.1
 | y :: ys, i + 1, x, h, hi => by
  unfold smB at h
  exact smB_get h.2 (by simpa using hi)
end Go.Proofs.Ythkgcakpjknlbaa
namespace Go.Proofs.Ythkgcakpjknlbaa
open Go Go.Eng
set_option linter.unusedSimpArgs false
set_option linter.unusedVariables false
set_option maxRecDepth 4000
mutual
def deep1 : Inl → List Inl
 | .mk k t d ti a args cites kids => .mk k t d ti a args cites kids :: deep kids
def deep : List Inl → List Inl
 | [] => []
 | x :: xs => deep1 x ++ deep xs
end
mutual
def listb : Blk → List Blk
 | .mk k lv inf t d ti a line kids => .mk k lv inf t d ti a line kids :: listB kids
def listB : List Blk → List Blk
 | [] => []
 | x :: xs => listb x ++ listB xs
end
theorem deep_append : ∀ (xs ys : List Inl), deep (xs ++ ys) = deep xs ++ deep ys
 | [], ys => by simp [deep]
 | x :: xs, ys => by
  rw [List.cons_append]
  simp only [deep, deep_append xs ys, List.append_assoc]
theorem listB_append : ∀ (xs ys : List Blk), listB (xs ++ ys) = listB xs ++ listB ys
 | [], ys => by simp [listB]
 | x :: xs, ys => by
  rw [List.cons_append]
  simp only [listB, listB_append xs ys, List.append_assoc]
theorem deep_take {xs : List Inl} {i : Nat} {x : Inl} (h : xs[i]? = some x) : deep (xs.take (i + 1)) = deep (xs.take i) ++ deep1 x := by
 obtain ⟨hlt, rfl⟩ := List.getElem?_eq_some_iff.1 h
 rw [List.take_succ_eq_append_getElem hlt, deep_append]
 simp [deep]
theorem listB_take {xs : List Blk} {i : Nat} {x : Blk} (h : xs[i]? = some x) : listB (xs.take (i + 1)) = listB (xs.take i) ++ listb x := by
 obtain ⟨hlt, rfl⟩ := List.getElem?_eq_some_iff.1 h
 rw [List.take_succ_eq_append_getElem hlt, listB_append]
 simp [listB]
mutual
theorem deep1_len : ∀ x : Inl, (deep1 x).length = sz1 x
 | .mk k t d ti a args cites kids => by simp only [deep1, sz1, List.length_cons, deep_len kids]; omega
theorem deep_len : ∀ xs : List Inl, (deep xs).length = szI xs
 | [] => rfl
 | x :: xs => by simp only [deep, szI, List.length_append, deep1_len x, deep_len xs]
end
mutual
theorem listb_len : ∀ x : Blk, (listb x).length ≤ szb x
 | .mk k lv inf t d ti a line kids => by have := listB_len kids; simp only [listb, szb, List.length_cons]; omega
theorem listB_len : ∀ xs : List Blk, (listB xs).length ≤ szB xs
 | [] => Nat.le_refl _
 | x :: xs => by have := listb_len x; have := listB_len xs; simp only [listB, szB, List.length_append]; omega
end
theorem szI_take_le : ∀ (xs : List Inl) (i : Nat), szI (xs.take i) ≤ szI xs
 | [], i => by simp
 | x :: xs, 0 => by simp [szI]
 | x :: xs, i + 1 => by have := szI_take_le xs i; simp only [List.take_succ_cons, szI]; omega
theorem szB_take_le : ∀ (xs : List Blk) (i : Nat), szB (xs.take i) ≤ szB xs
 | [], i => by simp
 | x :: xs, 0 => by simp [szB]
 | x :: xs, i + 1 => by have := szB_take_le xs i; simp only [List.take_succ_cons, szB]; omega
theorem inlS_of {u : View} {ad : Option Addr} {cap n : Nat} {xs : List Inl} {cs : List Value} (hn : n = xs.length) (h : SlC u ad n cap 10 cs) (hc : InlsC u xs cs) : InlS u (.slice ad n cap) xs := by
 subst hn
 exact ⟨cs, ⟨ad, cap, rfl, h⟩, hc⟩
theorem blkS_of {u : View} {ad : Option Addr} {cap n : Nat} {xs : List Blk} {cs : List Value} (hn : n = xs.length) (h : SlC u ad n cap 11 cs) (hc : BlksC u xs cs) : BlkS u (.slice ad n cap) xs := by
 subst hn
 exact ⟨cs, ⟨ad, cap, rfl, h⟩, hc⟩
theorem deep_fn (n : Nat) : ∀ (v : Value) (xs : List Inl) (u : View), szI xs ≤ n → szI xs ≤ 1000000 → InlS u v xs →
  FnP Tryd.prog 29 [v] u fun r u' => InlS u' r (deep xs) := by
 induction n using Nat.strongRecOn with
 | _ n ih =>
 intro v xs u hsz hbig ha
 have hlx := len_szI xs
 obtain ⟨cs, ⟨ad, cap, rfl, h1⟩, hc1⟩ := ha
 refine FnP.intro [.tmp 2] Tryd.func29 rfl rfl rfl ?_
 intro w0 D hw0
 refine wc_seq ?_
 refine wc_region ?_
 refine ya rfl rfl ?_
 refine rl_end (ρ' := [(0, _)]) ⟨rfl, trivial⟩ ?_
 refine q_then ?_
 refine wc_seq ?_
 refine wc_region ?_
 refine ya rfl rfl ?_
 refine rl_own_nil 3 503 46 10 rfl rfl rfl ?_
 refine rl_end (ρ' := [(0, _), (3, _)]) ⟨rfl, rfl, trivial⟩ ?_
 refine q_then ?_
 refine wc_seq ?_
 refine wc_seq ?_
 refine wc_region ?_
 refine ya rfl rfl ?_
 refine rl_end (ρ' := [(0, _), (3, _), (4, _)]) ⟨rfl, rfl, rfl, trivial⟩ ?_
 refine q_then ?_
 refine wc_block ?_
 refine wc_loop (fun m ρ σ u' => ∃ i : Nat, i + m = xs.length ∧ VLe u u' ∧ ∃ (acc : List Value), σ = [(503, (none, .row 46 10 (deep (xs.take i)).length acc))] ∧ ρ = [(0, .v (.slice ad xs.length cap)), (3, .s 503), (4, .v (.int .i64 i))] ∧ (InlsC u' (deep (xs.take i)) acc)) (xs.length) ?_ ?_
 ·
  refine ⟨[(0, _), (3, _), (4, _)], [(503, _)], ⟨rfl, rfl, rfl, trivial⟩, ⟨rfl, trivial⟩, 0, by omega, VLe.refl _, [], (by first | rfl | simp), (by first | rfl | (simp only [List.cons.injEq, Prod.mk.injEq, SV.v.injEq, Value.int.injEq, true_and, and_true]; omega) | simp), ?_⟩
  exact InlsC.nil
 ·
  rintro m ρ σ u' ⟨i, hi3, hle3, acc, rfl, rfl, hacc⟩
  have h1' := h1.mono hle3
  have hc1' := hc1.mono hle3
  refine wc_seq ?_
  refine wc_seq ?_
  refine wc_region ?_
  refine ym rfl rfl ?_
  refine ym rfl rfl ?_
  refine rl_y (y_len_v rfl rfl Tryd.s40 rfl) rfl ?_
  refine rl_y (y_lss rfl rfl rfl) rfl ?_
  refine rl_end (ρ' := [(0, _), (3, _), (4, _), (8, _)]) ⟨rfl, rfl, rfl, rfl, trivial⟩ ?_
  refine q_then ?_
  refine wc_cond rfl (fun hb3 => ?_) (fun hb3 => ?_)
  ·
   refine wc_skip ?_
   refine q_then ?_
   refine wc_seq ?_
   refine wc_block ?_
   refine wc_seq ?_
   have hlt : i < xs.length := by have := of_decide_eq_true hb3; omega
   obtain ⟨k, t, d, ti, a, args, cites, kids, vc, vp, va, vt, vk, hg, hcut1, s1, s2, s3, s4, s5, hok⟩ := hc1'.at hlt
   have hx := hc1'.get i _ hg
   rw [hcut1] at hx
   have oneAll := hx.one
   have hkid := szI_kids hg
   have hst := szI_take hg
   have hs1 := szI_take_le xs i
   have hs2 := szI_take_le xs (i + 1)
   have hdl := deep_len (xs.take i)
   have hdk := deep_len kids
   simp only [sz1] at hst
   refine wc_region ?_
   refine ym rfl rfl ?_
   refine ym rfl rfl ?_
   refine ym rfl rfl ?_
   refine rl_y (y_index_e rfl Tryd.s40 rfl rfl (by assumption) (by first | rfl | omega) (by omega)) rfl ?_
   refine rl_y (y_load_el rfl Tryd.k46 rfl (by assumption) (by omega) (by assumption) (vs := [_, _, _, _, _, _, _, _, _, _]) rfl rfl rfl rfl) rfl ?_
   refine rl_do rfl rfl ?_
   refine do_buildSlice trivial Tryd.s40 Tryd.z46 (ps := [(_, _)]) rfl (xs := [_, _, _, _, _, _, _, _, _, _]) rfl rfl rfl rfl rfl rfl rfl ?_
   refine rl_do rfl rfl ?_
   refine do_append_s trivial rfl rfl Tryd.s40 Tryd.z46 rfl rfl rfl rfl rfl rfl (by first | rfl | assumption | simp [Value.oneCell', str]) (by omega) (by omega) (ρ' := [(0, _), (4, _)]) ⟨rfl, rfl, trivial⟩ rfl rfl rfl ?_
   refine ya rfl rfl ?_
   refine rl_ren 17 503 rfl rfl rfl ?_
   refine rl_end (ρ' := [(0, _), (3, _), (4, _)]) ⟨rfl, rfl, rfl, trivial⟩ ?_
   refine q_then ?_
   refine wc_region ?_
   refine ym rfl rfl ?_
   refine ym rfl rfl ?_
   refine ym rfl rfl ?_
   refine rl_y (y_index_e rfl Tryd.s40 rfl rfl (by assumption) (by first | rfl | omega) (by omega)) rfl ?_
   refine rl_y (y_field_e rfl Tryd.f46' rfl (by decide) rfl) rfl ?_
   refine rl_y (y_load_el rfl Tryd.k40 rfl (by assumption) (by omega) (by assumption) (vs := [_]) rfl rfl rfl rfl) rfl ?_
   refine rl_do rfl rfl ?_
   refine do_call (caps := []) trivial rfl rfl Tryd.c29 rfl (FnP.mono (ih (szI kids) (by omega) vk kids u' (Nat.le_refl _) (by omega) s5) ?_)
   rintro v u1 hle0 ⟨ks, ⟨adk, capk, rfl, hk⟩, hkc⟩ hle1
   refine rl_do rfl rfl ?_
   refine do_append_v trivial rfl rfl Tryd.s40 Tryd.z46 rfl rfl rfl rfl rfl (by assumption) hkc.ones (by omega) (by omega) (ρ' := [(0, _), (4, _)]) ⟨rfl, rfl, trivial⟩ rfl rfl rfl ?_
   refine ya rfl rfl ?_
   refine rl_ren 25 503 rfl rfl rfl ?_
   refine rl_end (ρ' := [(0, _), (3, _), (4, _)]) ⟨rfl, rfl, rfl, trivial⟩ ?_
   refine q_block ?_
   refine q_then ?_
   refine wc_region ?_
   refine ym rfl rfl ?_
   refine rl_y (y_add rfl rfl rfl (wrap64_id (by omega))) rfl ?_
   refine ya rfl rfl ?_
   refine rl_end (ρ' := [(0, _), (3, _), (4, _)]) ⟨rfl, rfl, rfl, trivial⟩ ?_
   refine q_thenK ?_
   refine ⟨m - 1, [(0, _), (3, _), (4, _)], [(503, _)], by omega, ⟨rfl, rfl, rfl, trivial⟩, ⟨rfl, trivial⟩, i + 1, by omega, (hle3.trans hle1), _, (by rw [deep_take hg]; simp only [deep1, List.length_append, List.length_cons]; congr 4; omega), (by first | rfl | simp), ?_⟩
   rw [deep_take hg]
   simp only [deep1]
   rw [List.append_assoc]
   exact (hacc.mono hle1).append ((InlsC.one (hx.mono hle1)).append hkc)
  ·
   refine wc_exit ?_
   refine q_then_exit ?_
   refine q_then_exit ?_
   refine q_block_hit ?_
   refine q_then ?_
   refine wc_seq ?_
   refine wc_region ?_
   refine ym rfl rfl ?_
   refine ya rfl rfl ?_
   refine rl_freeze 503 rfl ?_
   intro ad503 cap503 u503 hle503z hsl503
   refine rl_end (ρ' := [(2, _)]) ⟨rfl, trivial⟩ ?_
   refine q_then ?_
   refine wc_ret ?_
   refine fin1 (.tmp rfl) ?_
   have hge := of_decide_eq_false hb3
   rw [List.take_of_length_le (by omega)] at hacc hsl503 ⊢
   exact inlS_of rfl hsl503 (hacc.mono hle503z)
theorem list_fn (n : Nat) : ∀ (v : Value) (xs : List Blk) (u : View), szB xs ≤ n → szB xs ≤ 1000000 → BlkS u v xs →
  FnP Tryd.prog 20 [v] u fun r u' => BlkS u' r (listB xs) := by
 induction n using Nat.strongRecOn with
 | _ n ih =>
 intro v xs u hsz hbig ha
 have hlx := len_szB xs
 obtain ⟨cs, ⟨ad, cap, rfl, h1⟩, hc1⟩ := ha
 refine FnP.intro [.tmp 2] Tryd.func20 rfl rfl rfl ?_
 intro w0 D hw0
 refine wc_seq ?_
 refine wc_region ?_
 refine ya rfl rfl ?_
 refine rl_end (ρ' := [(0, _)]) ⟨rfl, trivial⟩ ?_
 refine q_then ?_
 refine wc_seq ?_
 refine wc_region ?_
 refine ya rfl rfl ?_
 refine rl_own_nil 3 503 42 11 rfl rfl rfl ?_
 refine rl_end (ρ' := [(0, _), (3, _)]) ⟨rfl, rfl, trivial⟩ ?_
 refine q_then ?_
 refine wc_seq ?_
 refine wc_seq ?_
 refine wc_region ?_
 refine ya rfl rfl ?_
 refine rl_end (ρ' := [(0, _), (3, _), (4, _)]) ⟨rfl, rfl, rfl, trivial⟩ ?_
 refine q_then ?_
 refine wc_block ?_
 refine wc_loop (fun m ρ σ u' => ∃ i : Nat, i + m = xs.length ∧ VLe u u' ∧ ∃ (acc : List Value), σ = [(503, (none, .row 42 11 (listB (xs.take i)).length acc))] ∧ ρ = [(0, .v (.slice ad xs.length cap)), (3, .s 503), (4, .v (.int .i64 i))] ∧ (BlksC u' (listB (xs.take i)) acc)) (xs.length) ?_ ?_
 ·
  refine ⟨[(0, _), (3, _), (4, _)], [(503, _)], ⟨rfl, rfl, rfl, trivial⟩, ⟨rfl, trivial⟩, 0, by omega, VLe.refl _, [], (by first | rfl | simp), (by first | rfl | (simp only [List.cons.injEq, Prod.mk.injEq, SV.v.injEq, Value.int.injEq, true_and, and_true]; omega) | simp), ?_⟩
  exact BlksC.nil
 ·
  rintro m ρ σ u' ⟨i, hi3, hle3, acc, rfl, rfl, hacc⟩
  have h1' := h1.mono hle3
  have hc1' := hc1.mono hle3
  refine wc_seq ?_
  refine wc_seq ?_
  refine wc_region ?_
  refine ym rfl rfl ?_
  refine ym rfl rfl ?_
  refine rl_y (y_len_v rfl rfl Tryd.s23 rfl) rfl ?_
  refine rl_y (y_lss rfl rfl rfl) rfl ?_
  refine rl_end (ρ' := [(0, _), (3, _), (4, _), (8, _)]) ⟨rfl, rfl, rfl, rfl, trivial⟩ ?_
  refine q_then ?_
  refine wc_cond rfl (fun hb3 => ?_) (fun hb3 => ?_)
  ·
   refine wc_skip ?_
   refine q_then ?_
   refine wc_seq ?_
   refine wc_block ?_
   refine wc_seq ?_
   have hlt : i < xs.length := by have := of_decide_eq_true hb3; omega
   obtain ⟨k, lv, inf, t, d, ti, a, line, kids, vc, vp, vl, vk, hg, hcut1, s1, s2, s3, s4, hok⟩ := hc1'.at hlt
   have hx := hc1'.get i _ hg
   rw [hcut1] at hx
   have oneAll := hx.one
   have hkid := (szB_kids hg).1
   have hst := szB_take hg
   have hs1 := szB_take_le xs i
   have hs2 := szB_take_le xs (i + 1)
   have hdl := listB_len (xs.take i)
   have hdk := listB_len kids
   simp only [szb] at hst
   refine wc_region ?_
   refine ym rfl rfl ?_
   refine ym rfl rfl ?_
   refine ym rfl rfl ?_
   refine rl_y (y_index_e rfl Tryd.s23 rfl rfl (by assumption) (by first | rfl | omega) (by omega)) rfl ?_
   refine rl_y (y_load_el rfl Tryd.k42 rfl (by assumption) (by omega) (by assumption) (vs := [_, _, _, _, _, _, _, _, _, _, _]) rfl rfl rfl rfl) rfl ?_
   refine rl_do rfl rfl ?_
   refine do_buildSlice trivial Tryd.s23 Tryd.z42 (ps := [(_, _)]) rfl (xs := [_, _, _, _, _, _, _, _, _, _, _]) rfl rfl rfl rfl rfl rfl rfl ?_
   refine rl_do rfl rfl ?_
   refine do_append_s trivial rfl rfl Tryd.s23 Tryd.z42 rfl rfl rfl rfl rfl rfl (by first | rfl | assumption | simp [Value.oneCell', str]) (by omega) (by omega) (ρ' := [(0, _), (4, _)]) ⟨rfl, rfl, trivial⟩ rfl rfl rfl ?_
   refine ya rfl rfl ?_
   refine rl_ren 17 503 rfl rfl rfl ?_
   refine rl_end (ρ' := [(0, _), (3, _), (4, _)]) ⟨rfl, rfl, rfl, trivial⟩ ?_
   refine q_then ?_
   refine wc_region ?_
   refine ym rfl rfl ?_
   refine ym rfl rfl ?_
   refine ym rfl rfl ?_
   refine rl_y (y_index_e rfl Tryd.s23 rfl rfl (by assumption) (by first | rfl | omega) (by omega)) rfl ?_
   refine rl_y (y_field_e rfl Tryd.f42' rfl (by decide) rfl) rfl ?_
   refine rl_y (y_load_el rfl Tryd.k23 rfl (by assumption) (by omega) (by assumption) (vs := [_]) rfl rfl rfl rfl) rfl ?_
   refine rl_do rfl rfl ?_
   refine do_call (caps := []) trivial rfl rfl Tryd.c20 rfl (FnP.mono (ih (szB kids) (by omega) vk kids u' (Nat.le_refl _) (by omega) s4) ?_)
   rintro v u1 hle0 ⟨ks, ⟨adk, capk, rfl, hk⟩, hkc⟩ hle1
   refine rl_do rfl rfl ?_
   refine do_append_v trivial rfl rfl Tryd.s23 Tryd.z42 rfl rfl rfl rfl rfl (by assumption) hkc.ones (by omega) (by omega) (ρ' := [(0, _), (4, _)]) ⟨rfl, rfl, trivial⟩ rfl rfl rfl ?_
   refine ya rfl rfl ?_
   refine rl_ren 25 503 rfl rfl rfl ?_
   refine rl_end (ρ' := [(0, _), (3, _), (4, _)]) ⟨rfl, rfl, rfl, trivial⟩ ?_
   refine q_block ?_
   refine q_then ?_
   refine wc_region ?_
   refine ym rfl rfl ?_
   refine rl_y (y_add rfl rfl rfl (wrap64_id (by omega))) rfl ?_
   refine ya rfl rfl ?_
   refine rl_end (ρ' := [(0, _), (3, _), (4, _)]) ⟨rfl, rfl, rfl, trivial⟩ ?_
   refine q_thenK ?_
   refine ⟨m - 1, [(0, _), (3, _), (4, _)], [(503, _)], by omega, ⟨rfl, rfl, rfl, trivial⟩, ⟨rfl, trivial⟩, i + 1, by omega, (hle3.trans hle1), _, (by rw [listB_take hg]; simp only [listb, List.length_append, List.length_cons]; congr 4; omega), (by first | rfl | simp), ?_⟩
   rw [listB_take hg]
   simp only [listb]
   rw [List.append_assoc]
   exact (hacc.mono hle1).append ((BlksC.one (hx.mono hle1)).append hkc)
  ·
   refine wc_exit ?_
   refine q_then_exit ?_
   refine q_then_exit ?_
   refine q_block_hit ?_
   refine q_then ?_
   refine wc_seq ?_
   refine wc_region ?_
   refine ym rfl rfl ?_
   refine ya rfl rfl ?_
   refine rl_freeze 503 rfl ?_
   intro ad503 cap503 u503 hle503z hsl503
   refine rl_end (ρ' := [(2, _)]) ⟨rfl, trivial⟩ ?_
   refine q_then ?_
   refine wc_ret ?_
   refine fin1 (.tmp rfl) ?_
   have hge := of_decide_eq_false hb3
   rw [List.take_of_length_le (by omega)] at hacc hsl503 ⊢
   exact blkS_of rfl hsl503 (hacc.mono hle503z)
def lineOf : Blk → List Inl
 | .mk _ _ _ _ _ _ _ line _ => line
def szL (L : List Blk) : Nat := (L.map fun b => szI (lineOf b)).sum
def inls (L : List Blk) : List Inl := L.flatMap fun b => deep (lineOf b)
theorem szL_append (a b : List Blk) : szL (a ++ b) = szL a + szL b := by simp [szL]
theorem szL_cons (a : Blk) (b : List Blk) : szL (a :: b) = szI (lineOf a) + szL b := by simp [szL]
mutual
theorem szL_listb : ∀ x : Blk, szL (listb x) ≤ szb x
 | .mk k lv inf t d ti a line kids => by have := szL_listB kids; simp only [listb, szb, szL_cons, lineOf]; omega
theorem szL_listB : ∀ xs : List Blk, szL (listB xs) ≤ szB xs
 | [] => by simp [listB, szL]
 | x :: xs => by have := szL_listb x; have := szL_listB xs; simp only [listB, szB, szL_append]; omega
end
theorem inls_len (L : List Blk) : (inls L).length = szL L := by
 unfold inls szL
 rw [List.length_flatMap]
 simp only [deep_len]
def noteName : Blk → Option Bs
 | .mk k _ inf _ _ _ _ _ _ => if k = 14 then some inf else none
def noteNames (L : List Blk) : List Bs := L.filterMap noteName
end Go.Proofs.Ythkgcakpjknlbaa
namespace Go.Proofs.Ythkgcakpjknlbaa
open Go Go.Eng
set_option linter.unusedSimpArgs false
set_option linter.unusedVariables false
set_option maxRecDepth 4000
abbrev Ev := Blk ⊕ Inl
def idB : Blk → Bs
 | .mk _ _ _ _ _ _ a _ _ => a.id
def kindB : Blk → Int
 | .mk k _ _ _ _ _ _ _ _ => k
def idI : Inl → Bs
 | .mk _ _ _ _ a _ _ _ => a.id
def kidsI : Inl → List Inl
 | .mk _ _ _ _ _ _ _ kids => kids
def evI (xs : List Inl) : List Ev := (deep xs).map Sum.inr
def evL (L : List Blk) : List Ev := L.flatMap fun b => Sum.inl b :: evI (lineOf b)
def evB (bs : List Blk) : List Ev := evL (listB bs)
theorem evI_take {xs : List Inl} {i : Nat} {x : Inl} (h : xs[i]? = some x) : evI (xs.take (i + 1)) = evI (xs.take i) ++ Sum.inr x :: evI (kidsI x) := by
 unfold evI
 rw [deep_take h]
 cases x
 simp [deep1, kidsI]
theorem evL_append (a b : List Blk) : evL (a ++ b) = evL a ++ evL b := by simp [evL]
theorem evL_take {L : List Blk} {i : Nat} {x : Blk} (h : L[i]? = some x) : evL (L.take (i + 1)) = evL (L.take i) ++ Sum.inl x :: evI (lineOf x) := by
 obtain ⟨hlt, rfl⟩ := List.getElem?_eq_some_iff.1 h
 rw [List.take_succ_eq_append_getElem hlt, evL_append]
 simp [evL]
def kidsB : Blk → List Blk
 | .mk _ _ _ _ _ _ _ _ kids => kids
theorem evB_take {bs : List Blk} {i : Nat} {x : Blk} (h : bs[i]? = some x) : evB (bs.take (i + 1)) = evB (bs.take i) ++ Sum.inl x :: evI (lineOf x) ++ evB (kidsB x) := by
 unfold evB
 rw [listB_take h, evL_append]
 cases x
 simp [listb, evL, kidsB, lineOf]
theorem evI_len (xs : List Inl) : (evI xs).length = szI xs := by simp [evI, deep_len]
mutual
theorem evb_len : ∀ x : Blk, (evL (listb x)).length = szb x
 | .mk k lv inf t d ti a line kids => by
  have := evB_len kids
  unfold evB at this
  rw [listb, szb, evL, List.flatMap_cons, List.length_append, List.length_cons]
  show _ + (evL (listB kids)).length = _
  rw [this, evI_len, lineOf]; omega
theorem evB_len : ∀ xs : List Blk, (evB xs).length = szB xs
 | [] => rfl
 | x :: xs => by
  have h1 := evb_len x
  have h2 := evB_len xs
  unfold evB at h2 ⊢
  rw [listB, evL_append, List.length_append, szB, h1, h2]
end
def nz (s : Bs) : List Bs := if s = [] then [] else [s]
def evId : Ev → Bs
 | .inl b => idB b
 | .inr x => idI x
def namesE (l : List Ev) : List Bs := l.flatMap fun e => nz (evId e)
theorem namesE_append (a b : List Ev) : namesE (a ++ b) = namesE a ++ namesE b := by simp [namesE]
theorem namesE_len (l : List Ev) : (namesE l).length ≤ l.length := by
 induction l with
 | nil => simp [namesE]
 | cons x l ih =>
  have h : (nz (evId x)).length ≤ 1 := by unfold nz; split <;> simp
  have e : namesE (x :: l) = nz (evId x) ++ namesE l := rfl
  rw [e, List.length_append, List.length_cons]; omega
def namesOf (bs : List Blk) : List Bs := namesE (evB bs)
def evNote : Ev → List Bs
 | .inl b => (noteName b).toList
 | .inr _ => []
theorem evNote_all (bs : List Blk) : (evB bs).flatMap evNote = noteNames (listB bs) := by
 unfold evB
 generalize listB bs = L
 induction L with
 | nil => rfl
 | cons b L ih =>
  have h1 : ∀ xs : List Inl, (evI xs).flatMap evNote = [] := by intro xs; simp [evI, List.flatMap_map, evNote]
  have e : evL (b :: L) = Sum.inl b :: evI (lineOf b) ++ evL L := rfl
  rw [e, List.flatMap_append, List.flatMap_cons, h1, List.append_nil, ih]
  unfold noteNames
  rw [List.filterMap_cons]
  cases h : noteName b <;> simp [evNote, h]
def missEv (D N : List Bs) : Ev → List Bs
 | .inl _ => []
 | .inr (.mk k t d _ _ _ _ _) =>
  if k = 14 then (if t ∈ D then [] else [t])
  else if k = 12 then (if t ∈ N then [] else [t])
  else if k = 9 ∧ t = [] ∧ d.head? = some 35 then (if d.tail ∈ D then [] else [d.tail])
  else []
theorem missEv_len (D N : List Bs) (e : Ev) : (missEv D N e).length ≤ 1 := by
 rcases e with b | ⟨k, t, d, ti, a, args, cites, kids⟩
 ·
  simp [missEv]
 ·
  simp only [missEv]
  repeat' split
  all_goals simp
def missE (D N : List Bs) (l : List Ev) : List Bs := l.flatMap (missEv D N)
theorem missE_len (D N : List Bs) (l : List Ev) : (missE D N l).length ≤ l.length := by
 induction l with
 | nil => simp [missE]
 | cons x l ih =>
  have h := missEv_len D N x
  have e : missE D N (x :: l) = missEv D N x ++ missE D N l := rfl
  rw [e, List.length_append, List.length_cons]; omega
def missOf (bs : List Blk) : List Bs := missE (namesOf bs) (noteNames (listB bs)) (evB bs)
def twice : List Bs → List Bs → Option Bs
 | _, [] => none
 | seen, x :: xs => if x ∈ seen then some x else twice (seen ++ [x]) xs
def checkOf (bs : List Blk) : Bs × Int := match twice [] (namesOf bs) with
 | some s => (s, 7)
 | none => match missOf bs with
  | [] => ([], 0)
  | s :: _ => (s, 12)
theorem twice_take {xs : List Bs} {i : Nat} {x : Bs} (h : xs[i]? = some x) (hn : x ∉ xs.take i) (k : twice [] xs = twice (xs.take i) (xs.drop i)) : twice [] xs = twice (xs.take (i + 1)) (xs.drop (i + 1)) := by
 obtain ⟨hlt, rfl⟩ := List.getElem?_eq_some_iff.1 h
 rw [k, List.drop_eq_getElem_cons hlt, twice, if_neg hn, List.take_succ_eq_append_getElem hlt]
theorem twice_hit {xs : List Bs} {i : Nat} {x : Bs} (h : xs[i]? = some x) (hn : x ∈ xs.take i) (k : twice [] xs = twice (xs.take i) (xs.drop i)) : twice [] xs = some x := by
 obtain ⟨hlt, rfl⟩ := List.getElem?_eq_some_iff.1 h
 rw [k, List.drop_eq_getElem_cons hlt, twice, if_pos hn]
end Go.Proofs.Ythkgcakpjknlbaa
namespace Go.Proofs.Ythkgcakpjknlbaa
open Go Go.Eng
set_option linter.unusedSimpArgs false
set_option linter.unusedVariables false
set_option maxRecDepth 4000
mutual
def plain1 : Inl → Bs
 | .mk k t d _ _ _ _ kids =>
  if k = 1 ∨ k = 4 ∨ k = 5 then t
  else if k = 2 ∨ k = 3 then [32]
  else if 6 ≤ k ∧ k ≤ 11 then plain kids
  else if k = 16 then d
  else []
def plain : List Inl → Bs
 | [] => []
 | x :: xs => plain1 x ++ plain xs
end
theorem plain_append : ∀ (xs ys : List Inl), plain (xs ++ ys) = plain xs ++ plain ys
 | [], ys => by simp [plain]
 | x :: xs, ys => by
  rw [List.cons_append]
  simp only [plain, plain_append xs ys, List.append_assoc]
theorem plain_take {xs : List Inl} {i : Nat} {x : Inl} (h : xs[i]? = some x) : plain (xs.take (i + 1)) = plain (xs.take i) ++ plain1 x := by
 obtain ⟨hlt, rfl⟩ := List.getElem?_eq_some_iff.1 h
 rw [List.take_succ_eq_append_getElem hlt, plain_append]
 simp [plain]
/- texts of at most B bytes -/
mutual
def txI1 (B : Nat) : Inl → Prop
 | .mk _ t d ti _ _ _ kids => t.length ≤ B ∧ d.length ≤ B ∧ ti.length ≤ B ∧ txI B kids
def txI (B : Nat) : List Inl → Prop
 | [] => True
 | x :: xs => txI1 B x ∧ txI B xs
end
mutual
theorem plain1_len (B : Nat) (hB : 1 ≤ B) : ∀ x : Inl, txI1 B x → (plain1 x).length ≤ B * sz1 x
 | .mk k t d ti a args cites kids, h => by
  unfold txI1 at h
  have ih := plain_len B hB kids h.2.2.2
  have e : B * sz1 (.mk k t d ti a args cites kids) = B + B * szI kids := by simp only [sz1, Nat.mul_add, Nat.mul_one]
  rw [e]
  simp only [plain1]
  repeat' split
  ·
   omega
  ·
   simp; omega
  ·
   omega
  ·
   omega
  ·
   simp
theorem plain_len (B : Nat) (hB : 1 ≤ B) : ∀ xs : List Inl, txI B xs → (plain xs).length ≤ B * szI xs
 | [], _ => by simp [plain]
 | x :: xs, h => by
  unfold txI at h
  have h1 := plain1_len B hB x h.1
  have h2 := plain_len B hB xs h.2
  simp only [plain, szI, List.length_append, Nat.mul_add]; omega
end
theorem txI_get {B : Nat} : ∀ {xs : List Inl} {i : Nat} {x : Inl}, txI B xs → xs[i]? = some x → txI1 B x
 | [], i, x, _, h => by simp at h
 | y :: ys, 0, x, h, hi => by
  simp at hi; subst hi
  unfold txI at h; exact h.1
 | y :: ys, i + 1, x, h, hi => by
  unfold txI at h
  exact txI_get h.2 (by simpa using hi)
end Go.Proofs.Ythkgcakpjknlbaa
namespace Go.Proofs.Ythkgcakpjknlbaa
open Go Go.Eng
set_option linter.unusedSimpArgs false
set_option linter.unusedVariables false
set_option maxRecDepth 4000
mutual
def rebb (kp : Blk → Bool) (g : List Inl → List Inl) : Blk → List Blk
 | .mk k lv inf t d ti a line kids => if kp (.mk k lv inf t d ti a line kids) = true then [.mk k lv inf t d ti a (g line) (rebB kp g kids)] else []
def rebB (kp : Blk → Bool) (g : List Inl → List Inl) : List Blk → List Blk
 | [] => []
 | x :: xs => rebb kp g x ++ rebB kp g xs
end
mutual
def evRb (kp : Blk → Bool) (ev : List Inl → List Inl) : Blk → List Inl
 | .mk k lv inf t d ti a line kids => if kp (.mk k lv inf t d ti a line kids) = true then ev line ++ evRB kp ev kids else []
def evRB (kp : Blk → Bool) (ev : List Inl → List Inl) : List Blk → List Inl
 | [] => []
 | x :: xs => evRb kp ev x ++ evRB kp ev xs
end
theorem rebB_append (kp : Blk → Bool) (g : List Inl → List Inl) : ∀ (xs ys : List Blk), rebB kp g (xs ++ ys) = rebB kp g xs ++ rebB kp g ys
 | [], ys => by simp [rebB]
 | x :: xs, ys => by
  rw [List.cons_append]
  simp only [rebB, rebB_append kp g xs ys, List.append_assoc]
theorem evRB_append (kp : Blk → Bool) (g : List Inl → List Inl) : ∀ (xs ys : List Blk), evRB kp g (xs ++ ys) = evRB kp g xs ++ evRB kp g ys
 | [], ys => by simp [evRB]
 | x :: xs, ys => by
  rw [List.cons_append]
  simp only [evRB, evRB_append kp g xs ys, List.append_assoc]
theorem rebB_take (kp : Blk → Bool) (g : List Inl → List Inl) {xs : List Blk} {i : Nat} {x : Blk} (h : xs[i]? = some x) : rebB kp g (xs.take (i + 1)) = rebB kp g (xs.take i) ++ rebb kp g x := by
 obtain ⟨hlt, rfl⟩ := List.getElem?_eq_some_iff.1 h
 rw [List.take_succ_eq_append_getElem hlt, rebB_append]
 simp [rebB]
theorem evRB_take (kp : Blk → Bool) (g : List Inl → List Inl) {xs : List Blk} {i : Nat} {x : Blk} (h : xs[i]? = some x) : evRB kp g (xs.take (i + 1)) = evRB kp g (xs.take i) ++ evRb kp g x := by
 obtain ⟨hlt, rfl⟩ := List.getElem?_eq_some_iff.1 h
 rw [List.take_succ_eq_append_getElem hlt, evRB_append]
 simp [evRB]
theorem rebb_len (kp : Blk → Bool) (g : List Inl → List Inl) (x : Blk) : (rebb kp g x).length ≤ 1 := by
 cases x
 simp only [rebb]
 split <;> simp
theorem rebB_len (kp : Blk → Bool) (g : List Inl → List Inl) : ∀ xs : List Blk, (rebB kp g xs).length ≤ xs.length
 | [] => by simp [rebB]
 | x :: xs => by
  have := rebb_len kp g x
  have := rebB_len kp g xs
  simp only [rebB, List.length_append, List.length_cons]; omega
def attrZ : DAttr := ⟨[], [], []⟩
def textI (s : Bs) : Inl := .mk 1 s [] [] attrZ [] [] []
def linkI (t s : Bs) : Inl := .mk 9 [] (35 :: t) [] attrZ [] [] [textI s]
mutual
def resI1 (f : Bs → Bs → Bs) : Inl → Inl
 | .mk k t d ti a args cites kids => if k = 14 then linkI t (f t ti) else .mk k t d ti a args cites (resI f kids)
def resI (f : Bs → Bs → Bs) : List Inl → List Inl
 | [] => []
 | x :: xs => resI1 f x :: resI f xs
end
theorem resI_append (f : Bs → Bs → Bs) : ∀ (xs ys : List Inl), resI f (xs ++ ys) = resI f xs ++ resI f ys
 | [], ys => by simp [resI]
 | x :: xs, ys => by
  rw [List.cons_append]
  simp only [resI, resI_append f xs ys, List.cons_append]
theorem resI_take (f : Bs → Bs → Bs) {xs : List Inl} {i : Nat} {x : Inl} (h : xs[i]? = some x) : resI f (xs.take (i + 1)) = resI f (xs.take i) ++ [resI1 f x] := by
 obtain ⟨hlt, rfl⟩ := List.getElem?_eq_some_iff.1 h
 rw [List.take_succ_eq_append_getElem hlt, resI_append]
 simp [resI]
theorem resI_len (f : Bs → Bs → Bs) : ∀ xs : List Inl, (resI f xs).length = xs.length
 | [] => rfl
 | x :: xs => by simp [resI, resI_len f xs]
def repR (f : Bs → Bs → Bs) : Inl → Inl
 | .mk k t d ti a args cites kids => if k = 14 then linkI t (f t ti) else .mk k t d ti a args cites kids
def setK : Inl → List Inl → Inl
 | .mk k t d ti a args cites _, ks => .mk k t d ti a args cites ks
theorem resI1_rep (f : Bs → Bs → Bs) (x : Inl) : resI1 f x = setK (repR f x) (resI f (kidsI (repR f x))) := by
 obtain ⟨k, t, d, ti, a, args, cites, kids⟩ := x
 simp only [resI1, repR]
 by_cases h : k = 14
 ·
  rw [if_pos h, if_pos h]
  simp [linkI, textI, kidsI, setK, resI, resI1]
 ·
  rw [if_neg h, if_neg h]
  simp [kidsI, setK]
/- how much is still to be replaced -/
mutual
def mR1 : Inl → Nat
 | .mk k _ _ _ _ _ _ kids => if k = 14 then 3 else 2 + mRI kids
def mRI : List Inl → Nat
 | [] => 0
 | x :: xs => mR1 x + mRI xs
end
theorem mRI_get : ∀ {xs : List Inl} {i : Nat} {x : Inl}, xs[i]? = some x → mR1 x ≤ mRI xs
 | [], i, x, h => by simp at h
 | y :: ys, 0, x, h => by simp at h; subst h; simp [mRI]
 | y :: ys, i + 1, x, h => by
  have := mRI_get (xs := ys) (i := i) (x := x) (by simpa using h)
  simp only [mRI]; omega
theorem mRI_rep (f : Bs → Bs → Bs) (x : Inl) : mRI (kidsI (repR f x)) < mR1 x := by
 obtain ⟨k, t, d, ti, a, args, cites, kids⟩ := x
 simp only [repR, mR1]
 by_cases h : k = 14
 ·
  rw [if_pos h, if_pos h]; simp [linkI, textI, kidsI, mRI, mR1]
 ·
  rw [if_neg h, if_neg h]; simp only [kidsI]; omega
def destO : Option Blk → Bs
 | some (.mk _ _ _ _ d _ _ _ _) => d
 | none => []
def titleO : Option Blk → Bs
 | some (.mk _ _ _ _ _ ti _ _ _) => ti
 | none => []
def infB : Blk → Bs
 | .mk _ _ inf _ _ _ _ _ _ => inf
def defOf (L : List Blk) (t : Bs) : Option Blk := L.find? fun b => decide (kindB b = 15 ∧ infB b = t)
end Go.Proofs.Ythkgcakpjknlbaa
namespace Go.Proofs.Ythkgcakpjknlbaa
open Go Go.Eng
set_option linter.unusedSimpArgs false
set_option linter.unusedVariables false
set_option maxRecDepth 4000
end Go.Proofs.Ythkgcakpjknlbaa
namespace Go.Proofs.Ythkgcakpjknlbaa
open Go Go.Eng
set_option linter.unusedSimpArgs false
set_option linter.unusedVariables false
set_option maxRecDepth 4000
def PtrB (u : View) (p : Value) (x : Blk) : Prop := ∃ b off c T fr, p = .pointer (some ⟨b, off, none⟩) ∧ u b = some (.cells c T fr) ∧ BlkC u x (cut c.toList off 11)
def PtrI (u : View) (p : Value) (x : Inl) : Prop := ∃ b off c T fr, p = .pointer (some ⟨b, off, none⟩) ∧ u b = some (.cells c T fr) ∧ InlC u x (cut c.toList off 10)
abbrev Ys := View → List Ev → OO → Prop
def MonoY (Y : Ys) : Prop := ∀ u u' pre o, VLe u u' → Y u pre o → Y u' pre o
def CbB (fb : Value) (b0 : Nat) (u : View) (Y : Ys) : Prop :=
 (fb = .nilFunc ∧ ∀ u' pre o x, Y u' pre o → Y u' (pre ++ [Sum.inl x]) o) ∨
 ∃ f caps, fb = .func (.func f) #[] caps.toArray ∧ canCall Tryd.prog f = true ∧ ∀ pre o u' p x, VLe u u' → pre.length ≤ 200000 → Y u' pre o → PtrB u' p x →
  FnO Tryd.prog f (p :: caps) u' [(some b0, o)] fun r u'' l' => r = .tuple #[] ∧ ∃ o', l' = [(some b0, o')] ∧ Y u'' (pre ++ [Sum.inl x]) o'
def CbI (fl : Value) (b0 : Nat) (u : View) (Y : Ys) : Prop :=
 (fl = .nilFunc ∧ ∀ u' pre o x, Y u' pre o → Y u' (pre ++ [Sum.inr x]) o) ∨
 ∃ f caps, fl = .func (.func f) #[] caps.toArray ∧ canCall Tryd.prog f = true ∧ ∀ pre o u' p x, VLe u u' → pre.length ≤ 200000 → Y u' pre o → PtrI u' p x →
  FnO Tryd.prog f (p :: caps) u' [(some b0, o)] fun r u'' l' => r = .tuple #[] ∧ ∃ o', l' = [(some b0, o')] ∧ Y u'' (pre ++ [Sum.inr x]) o'
theorem CbB.mono {fb : Value} {b0 : Nat} {u u2 : View} {Y : Ys} (h : CbB fb b0 u Y) (hu : VLe u u2) : CbB fb b0 u2 Y := by
 rcases h with h | ⟨f, caps, h1, h2, h3⟩
 ·
  exact .inl h
 ·
  exact .inr ⟨f, caps, h1, h2, fun pre o u' p x hle => h3 pre o u' p x (hu.trans hle)⟩
theorem CbI.mono {fb : Value} {b0 : Nat} {u u2 : View} {Y : Ys} (h : CbI fb b0 u Y) (hu : VLe u u2) : CbI fb b0 u2 Y := by
 rcases h with h | ⟨f, caps, h1, h2, h3⟩
 ·
  exact .inl h
 ·
  exact .inr ⟨f, caps, h1, h2, fun pre o u' p x hle => h3 pre o u' p x (hu.trans hle)⟩
theorem CbB.fv {fb : Value} {b0 : Nat} {u : View} {Y : Ys} (h : CbB fb b0 u Y) : isFv fb = true := by
 rcases h with ⟨rfl, _⟩ | ⟨f, caps, rfl, _⟩ <;> rfl
theorem CbI.fv {fb : Value} {b0 : Nat} {u : View} {Y : Ys} (h : CbI fb b0 u Y) : isFv fb = true := by
 rcases h with ⟨rfl, _⟩ | ⟨f, caps, rfl, _⟩ <;> rfl
theorem ptrI_of {u : View} {xs : List Inl} {cs : List Value} {b off i : Nat} {c : Array Value} {T : TypeId} {fr : Nat × Nat} {x : Inl} (hc : InlsC u xs cs) (hu : u b = some (.cells c T fr)) (hcut : cut c.toList off (xs.length * 10) = cs) (hg : xs[i]? = some x) : PtrI u (.pointer (some ⟨b, off + i * 10 + 0, none⟩)) x := by
 have hlt : i < xs.length := (List.getElem?_eq_some_iff.1 hg).1
 refine ⟨b, off + i * 10 + 0, c, T, fr, rfl, hu, ?_⟩
 have := hc.get i x hg
 rw [← hcut, cut_cut (by have := Nat.mul_le_mul_right 10 hlt; rw [Nat.succ_mul] at this; omega)] at this
 exact this
theorem ptrB_of {u : View} {xs : List Blk} {cs : List Value} {b off i : Nat} {c : Array Value} {T : TypeId} {fr : Nat × Nat} {x : Blk} (hc : BlksC u xs cs) (hu : u b = some (.cells c T fr)) (hcut : cut c.toList off (xs.length * 11) = cs) (hg : xs[i]? = some x) : PtrB u (.pointer (some ⟨b, off + i * 11 + 0, none⟩)) x := by
 have hlt : i < xs.length := (List.getElem?_eq_some_iff.1 hg).1
 refine ⟨b, off + i * 11 + 0, c, T, fr, rfl, hu, ?_⟩
 have := hc.get i x hg
 rw [← hcut, cut_cut (by have := Nat.mul_le_mul_right 11 hlt; rw [Nat.succ_mul] at this; omega)] at this
 exact this
set_option maxHeartbeats 2000000 in
theorem vInl_fn (fb fl : Value) (b0 : Nat) (Y : Ys) (hM : MonoY Y) (n : Nat) : ∀ (v : Value) (xs : List Inl) (pre : List Ev) (o : OO) (u : View), szI xs ≤ n → pre.length + szI xs ≤ 200000 → InlS u v xs → CbI fl b0 u Y → Y u pre o →
  FnO Tryd.prog 47 [.agg #[fb, fl], v] u [(some b0, o)] fun r u' l' => r = .tuple #[] ∧ ∃ o', l' = [(some b0, o')] ∧ Y u' (pre ++ evI xs) o' := by
 induction n using Nat.strongRecOn with
 | _ n ih =>
 intro v xs pre o u hsz hbig ha hI hY
 have hlx := len_szI xs
 have hfv := hI.fv
 obtain ⟨cs, ⟨ad, cap, rfl, h1⟩, hc1⟩ := ha
 refine FnO.intro [] Tryd.func47 rfl rfl rfl ?_
 intro w0 D hw0
 refine wc_seq ?_
 refine wc_region ?_
 refine rl_do rfl rfl ?_
 refine do_box trivial rfl (cs := [_, _]) rfl rfl rfl rfl ?_
 refine rl_end (ρ' := [(1, _), (2, _)]) ⟨rfl, rfl, trivial⟩ ?_
 refine q_then ?_
 refine wc_seq ?_
 refine wc_region ?_
 refine ym rfl rfl ?_
 refine rl_y (y_len_v rfl rfl Tryd.s40 rfl) rfl ?_
 refine ym rfl rfl ?_
 refine rl_end (ρ' := [(1, _), (2, _), (6, _), (7, _)]) ⟨rfl, rfl, rfl, rfl, trivial⟩ ?_
 refine q_then ?_
 refine wc_block ?_
 refine wc_loop (fun m ρ σ u' => ∃ i : Nat, i + m = xs.length ∧ VLe u u' ∧ ∃ (oi : OO), σ = [(2, (none, .box [fb, fl])), (1000, (some b0, oi))] ∧ ρ = [(1, .v (.slice ad xs.length cap)), (2, .p 2 0), (6, .v (.int .i64 xs.length)), (7, .v (.int .i64 i))] ∧ (Y u' (pre ++ evI (xs.take i)) oi)) (xs.length) ?_ ?_
 ·
  refine ⟨[(1, _), (2, _), (6, _), (7, _)], [(2, _), (1000, _)], ⟨rfl, rfl, rfl, rfl, trivial⟩, ⟨rfl, rfl, trivial⟩, 0, by omega, VLe.refl _, o, rfl, rfl, ?_⟩
  simpa [evI, deep] using hY
 ·
  rintro m ρ σ u' ⟨i, hi2, hle2, oi, rfl, rfl, hYi⟩
  refine wc_seq ?_
  refine wc_region ?_
  refine rl_y (y_lss rfl rfl rfl) rfl ?_
  refine rl_end (ρ' := [(1, _), (2, _), (6, _), (7, _), (8, _)]) ⟨rfl, rfl, rfl, rfl, rfl, trivial⟩ ?_
  refine q_then ?_
  refine wc_seq ?_
  refine wc_cond rfl (fun hb2 => ?_) (fun hb2 => ?_)
  ·
   refine wc_skip ?_
   refine q_then ?_
   refine wc_seq ?_
   refine wc_block ?_
   refine wc_seq ?_
   have hlt : i < xs.length := by have := of_decide_eq_true hb2; omega
   have h1 := h1.mono hle2
   have hc1 := hc1.mono hle2
   have hI := hI.mono hle2
   obtain ⟨k, t, d, ti, a, args, cites, kids, vc, vp, va, vt, vk, hg, hcut1, s1, s2, s3, s4, s5, hok⟩ := hc1.at hlt
   have oneAll := (hc1.get i _ hg).one
   rw [hcut1] at oneAll
   have hszk := szI_kids hg
   have hst := szI_take hg
   have hs2 := szI_take_le xs (i + 1)
   have hel := evI_len (xs.take i)
   have het := evI_take hg
   simp only [sz1] at hst
   obtain ⟨b1, off1, c1, T1, fr1, rfl, hu1, hcut2⟩ := h1.block (by omega)
   have hP := ptrI_of hc1 hu1 hcut2 hg
   refine wc_region ?_
   refine ym rfl rfl ?_
   refine ya rfl rfl ?_
   refine rl_end (ρ' := [(1, _), (2, _), (4, _), (6, _), (7, _)]) ⟨rfl, rfl, rfl, rfl, rfl, trivial⟩ ?_
   refine q_then ?_
   refine wc_cut (fun ρ σ uc6 => ∃ (o6 : OO), VLe u' uc6 ∧ σ = [(2, (none, .box [fb, fl])), (1000, (some b0, o6))] ∧ ρ = [(1, .v (.slice (some ⟨b1, off1, none⟩) xs.length cap)), (2, .p 2 0), (4, .v (.int .i64 i)), (6, .v (.int .i64 xs.length)), (7, .v (.int .i64 i))] ∧ (Y uc6 (pre ++ evI (xs.take i) ++ [Sum.inr (.mk k t d ti a args cites kids)]) o6)) ?_ ?_
   ·
    refine wc_seq ?_
    refine wc_region ?_
    refine rl_y (y_field_p rfl Tryd.f58' rfl (by decide) rfl) rfl ?_
    refine rl_y (y_load_p rfl Tryd.k56 rfl rfl rfl (vs := [_]) rfl rfl rfl) rfl ?_
    refine rl_y (y_fn_neqG rfl (by kernel_rfl) rfl rfl hfv) rfl ?_
    refine rl_end (ρ' := [(1, _), (2, _), (4, _), (6, _), (7, _), (12, _)]) ⟨rfl, rfl, rfl, rfl, rfl, rfl, trivial⟩ ?_
    refine q_then ?_
    refine wc_cond rfl (fun hb4 => ?_) (fun hb4 => ?_)
    ·
     rcases hI with ⟨rfl, hI⟩ | ⟨fB, cB, rfl, hcB, hI⟩; exact absurd hb4 (by decide)
     refine wc_draw Tryd.mixed rfl [(2, _)] ⟨rfl, trivial⟩ ?_
     refine ra_y (i := 0) rfl (by kernel_rfl) (by kernel_rfl) (by kernel_rfl) (np_then (np_block (np_then (np_then (np_block (np_finO)))))) (y_field_p rfl Tryd.f58' rfl (by decide) rfl) rfl ?_
     refine ra_y (i := 1) rfl (by kernel_rfl) (by kernel_rfl) (by kernel_rfl) (np_then (np_block (np_then (np_then (np_block (np_finO)))))) (y_load_p rfl Tryd.k56 rfl rfl rfl (vs := [_]) rfl rfl rfl) rfl ?_
     refine ra_y (i := 2) rfl (by kernel_rfl) (by kernel_rfl) (by kernel_rfl) (np_then (np_block (np_then (np_then (np_block (np_finO)))))) (y_move rfl rfl) rfl ?_
     refine ra_y (i := 3) rfl (by kernel_rfl) (by kernel_rfl) (by kernel_rfl) (np_then (np_block (np_then (np_then (np_block (np_finO)))))) (y_move rfl rfl) rfl ?_
     refine ra_y (i := 4) rfl (by kernel_rfl) (by kernel_rfl) (by kernel_rfl) (np_then (np_block (np_then (np_then (np_block (np_finO)))))) (y_index_e rfl Tryd.s40 rfl rfl (by assumption) (by first | rfl | omega) (by omega)) rfl ?_
     refine ra_e2v 17 rfl ?_
     refine ra_do (i := 5) rfl rfl (by kernel_rfl) ?_
     refine do_call_o (caps := cB) (ρ' := [(1, _), (2, _), (4, _), (6, _), (7, _)]) [1000] [] ⟨rfl, trivial⟩ rfl rfl rfl hcB rfl rfl ⟨rfl, rfl, rfl, rfl, rfl, trivial⟩ rfl rfl rfl (FnO.mono (hI (pre ++ evI (xs.take i)) oi u' _ _ (VLe.refl _) (by rw [List.length_append]; omega) hYi hP) ?_)
     rintro v uQ l1 hleQ ⟨rfl, oQ, rfl, hYQ⟩ -
     refine ⟨⟨fun _ h => h, trivial⟩, ?_⟩
     refine ra_end (by kernel_rfl) (ρ' := [(1, _), (2, _), (4, _), (6, _), (7, _)]) ⟨rfl, rfl, rfl, rfl, rfl, trivial⟩ ?_
     refine q_thenK ?_
     first
      | (refine ⟨[(1, _), (2, _), (4, _), (6, _), (7, _)], [(2, _), (1000, _)], ⟨rfl, rfl, rfl, rfl, rfl, trivial⟩, ⟨rfl, rfl, trivial⟩, oQ, hleQ, (by first | rfl | simp), (by first | rfl | (simp only [List.cons.injEq, Prod.mk.injEq, SV.v.injEq, Value.int.injEq, true_and, and_true]; omega) | simp), ?_⟩
         exact hYQ)
      | (refine ⟨[(1, _), (2, _), (4, _), (6, _), (7, _)], [(2, _), (1000, _)], ⟨rfl, rfl, rfl, rfl, rfl, trivial⟩, ⟨rfl, rfl, trivial⟩, oi, (VLe.refl _), (by first | rfl | simp), (by first | rfl | (simp only [List.cons.injEq, Prod.mk.injEq, SV.v.injEq, Value.int.injEq, true_and, and_true]; omega) | simp), ?_⟩
         exact hYs)
    ·
     have hYs : Y u' (pre ++ evI (xs.take i) ++ [Sum.inr (.mk k t d ti a args cites kids)]) oi := (by rcases hI with ⟨rfl, hNx⟩ | ⟨fB, cB, rfl, hcB, hI⟩; exact hNx _ _ _ _ hYi; cases hb4)
     refine wc_skip ?_
     refine q_thenK ?_
     first
      | (refine ⟨[(1, _), (2, _), (4, _), (6, _), (7, _)], [(2, _), (1000, _)], ⟨rfl, rfl, rfl, rfl, rfl, trivial⟩, ⟨rfl, rfl, trivial⟩, oQ, hleQ, (by first | rfl | simp), (by first | rfl | (simp only [List.cons.injEq, Prod.mk.injEq, SV.v.injEq, Value.int.injEq, true_and, and_true]; omega) | simp), ?_⟩
         exact hYQ)
      | (refine ⟨[(1, _), (2, _), (4, _), (6, _), (7, _)], [(2, _), (1000, _)], ⟨rfl, rfl, rfl, rfl, rfl, trivial⟩, ⟨rfl, rfl, trivial⟩, oi, (VLe.refl _), (by first | rfl | simp), (by first | rfl | (simp only [List.cons.injEq, Prod.mk.injEq, SV.v.injEq, Value.int.injEq, true_and, and_true]; omega) | simp), ?_⟩
         exact hYs)
   ·
    rintro ρ σ uc6 ⟨o6, hlc6, rfl, rfl, hY6⟩
    have h1 := h1.mono hlc6
    have hc1 := hc1.mono hlc6
    refine wc_draw Tryd.mixed rfl [(2, _)] ⟨rfl, trivial⟩ ?_
    refine ra_y (i := 0) rfl (by kernel_rfl) (by kernel_rfl) (by kernel_rfl) (np_block (np_then (np_then (np_block (np_finO))))) (y_load_p rfl Tryd.k58 rfl rfl rfl (vs := [_, _]) rfl rfl rfl) rfl ?_
    refine ra_y (i := 1) rfl (by kernel_rfl) (by kernel_rfl) (by kernel_rfl) (np_block (np_then (np_then (np_block (np_finO))))) (y_move rfl rfl) rfl ?_
    refine ra_y (i := 2) rfl (by kernel_rfl) (by kernel_rfl) (by kernel_rfl) (np_block (np_then (np_then (np_block (np_finO))))) (y_move rfl rfl) rfl ?_
    refine ra_y (i := 3) rfl (by kernel_rfl) (by kernel_rfl) (by kernel_rfl) (np_block (np_then (np_then (np_block (np_finO))))) (y_index_e rfl Tryd.s40 rfl rfl (by assumption) (by first | rfl | omega) (by omega)) rfl ?_
    refine ra_y (i := 4) rfl (by kernel_rfl) (by kernel_rfl) (by kernel_rfl) (np_block (np_then (np_then (np_block (np_finO))))) (y_field_e rfl Tryd.f46' rfl (by decide) rfl) rfl ?_
    refine ra_y (i := 5) rfl (by kernel_rfl) (by kernel_rfl) (by kernel_rfl) (np_block (np_then (np_then (np_block (np_finO))))) (y_load_el rfl Tryd.k40 rfl (by assumption) (by omega) (by assumption) (vs := [_]) rfl rfl rfl rfl) rfl ?_
    refine ra_do (i := 6) rfl rfl (by kernel_rfl) ?_
    refine do_call_o (caps := []) (ρ' := [(1, _), (2, _), (6, _), (7, _)]) [1000] [] ⟨rfl, trivial⟩ rfl rfl rfl Tryd.c47 rfl rfl ⟨rfl, rfl, rfl, rfl, trivial⟩ rfl rfl rfl (FnO.mono (ih (szI kids) (by omega) vk kids _ o6 uc6 (Nat.le_refl _) (by simp only [List.length_append, List.length_cons, List.length_nil]; omega) (s5.mono hlc6) (hI.mono hlc6) hY6) ?_)
    rintro v uK l1 hleK ⟨rfl, oK, rfl, hYK⟩ -
    refine ⟨⟨fun _ h => h, trivial⟩, ?_⟩
    refine ra_end (by kernel_rfl) (ρ' := [(1, _), (2, _), (6, _), (7, _)]) ⟨rfl, rfl, rfl, rfl, trivial⟩ ?_
    refine q_block ?_
    refine q_then ?_
    refine wc_region ?_
    refine rl_y (y_add rfl rfl rfl (wrap64_id (by omega))) rfl ?_
    refine ym rfl rfl ?_
    refine rl_end (ρ' := [(1, _), (2, _), (6, _), (7, _)]) ⟨rfl, rfl, rfl, rfl, trivial⟩ ?_
    refine q_thenK ?_
    refine ⟨m - 1, [(1, _), (2, _), (6, _), (7, _)], [(2, _), (1000, _)], by omega, ⟨rfl, rfl, rfl, rfl, trivial⟩, ⟨rfl, rfl, trivial⟩, i + 1, by omega, (hle2.trans (hlc6.trans hleK)), oK, rfl, (by first | rfl | simp), ?_⟩
    rw [het]
    simpa [kidsI] using hYK
  ·
   refine wc_exit ?_
   refine q_then_exit ?_
   refine q_then_exit ?_
   refine q_block_hit ?_
   refine finO0n [1000]  rfl rfl ?_
   have hge := of_decide_eq_false hb2
   rw [List.take_of_length_le (by omega)] at hYi
   exact ⟨rfl, _, rfl, hYi⟩
set_option maxHeartbeats 2000000 in
theorem vBlk_fn (fb fl : Value) (b0 : Nat) (Y : Ys) (hM : MonoY Y) (n : Nat) : ∀ (v : Value) (xs : List Blk) (pre : List Ev) (o : OO) (u : View), szB xs ≤ n → pre.length + szB xs ≤ 200000 → BlkS u v xs → CbB fb b0 u Y → CbI fl b0 u Y → Y u pre o →
  FnO Tryd.prog 28 [.agg #[fb, fl], v] u [(some b0, o)] fun r u' l' => r = .tuple #[] ∧ ∃ o', l' = [(some b0, o')] ∧ Y u' (pre ++ evB xs) o' := by
 induction n using Nat.strongRecOn with
 | _ n ih =>
 intro v xs pre o u hsz hbig ha hB hI hY
 have hlx := len_szB xs
 have hfv := hB.fv
 obtain ⟨cs, ⟨ad, cap, rfl, h1⟩, hc1⟩ := ha
 refine FnO.intro [] Tryd.func28 rfl rfl rfl ?_
 intro w0 D hw0
 refine wc_seq ?_
 refine wc_region ?_
 refine rl_do rfl rfl ?_
 refine do_box trivial rfl (cs := [_, _]) rfl rfl rfl rfl ?_
 refine rl_end (ρ' := [(1, _), (2, _)]) ⟨rfl, rfl, trivial⟩ ?_
 refine q_then ?_
 refine wc_seq ?_
 refine wc_region ?_
 refine ym rfl rfl ?_
 refine rl_y (y_len_v rfl rfl Tryd.s23 rfl) rfl ?_
 refine ym rfl rfl ?_
 refine rl_end (ρ' := [(1, _), (2, _), (6, _), (7, _)]) ⟨rfl, rfl, rfl, rfl, trivial⟩ ?_
 refine q_then ?_
 refine wc_block ?_
 refine wc_loop (fun m ρ σ u' => ∃ i : Nat, i + m = xs.length ∧ VLe u u' ∧ ∃ (oi : OO), σ = [(2, (none, .box [fb, fl])), (1000, (some b0, oi))] ∧ ρ = [(1, .v (.slice ad xs.length cap)), (2, .p 2 0), (6, .v (.int .i64 xs.length)), (7, .v (.int .i64 i))] ∧ (Y u' (pre ++ evB (xs.take i)) oi)) (xs.length) ?_ ?_
 ·
  refine ⟨[(1, _), (2, _), (6, _), (7, _)], [(2, _), (1000, _)], ⟨rfl, rfl, rfl, rfl, trivial⟩, ⟨rfl, rfl, trivial⟩, 0, by omega, VLe.refl _, o, rfl, rfl, ?_⟩
  simpa [evB, evL, listB] using hY
 ·
  rintro m ρ σ u' ⟨i, hi2, hle2, oi, rfl, rfl, hYi⟩
  refine wc_seq ?_
  refine wc_region ?_
  refine rl_y (y_lss rfl rfl rfl) rfl ?_
  refine rl_end (ρ' := [(1, _), (2, _), (6, _), (7, _), (8, _)]) ⟨rfl, rfl, rfl, rfl, rfl, trivial⟩ ?_
  refine q_then ?_
  refine wc_seq ?_
  refine wc_cond rfl (fun hb2 => ?_) (fun hb2 => ?_)
  ·
   refine wc_skip ?_
   refine q_then ?_
   refine wc_seq ?_
   refine wc_block ?_
   refine wc_seq ?_
   have hlt : i < xs.length := by have := of_decide_eq_true hb2; omega
   have h1 := h1.mono hle2
   have hc1 := hc1.mono hle2
   have hI := hI.mono hle2
   have hB := hB.mono hle2
   obtain ⟨k, lv, inf, t, d, ti, a, line, kids, vc, vp, vl, vk, hg, hcut1, s1, s2, s3, s4, hok⟩ := hc1.at hlt
   have oneAll := (hc1.get i _ hg).one
   rw [hcut1] at oneAll
   have hszk := szB_kids hg
   have hst := szB_take hg
   have hs2 := szB_take_le xs (i + 1)
   have hel := evB_len (xs.take i)
   have het := evB_take hg
   have hll := evI_len line
   simp only [szb] at hst
   obtain ⟨b1, off1, c1, T1, fr1, rfl, hu1, hcut2⟩ := h1.block (by omega)
   have hP := ptrB_of hc1 hu1 hcut2 hg
   refine wc_region ?_
   refine ym rfl rfl ?_
   refine ya rfl rfl ?_
   refine rl_end (ρ' := [(1, _), (2, _), (4, _), (6, _), (7, _)]) ⟨rfl, rfl, rfl, rfl, rfl, trivial⟩ ?_
   refine q_then ?_
   refine wc_cut (fun ρ σ uc6 => ∃ (o6 : OO), VLe u' uc6 ∧ σ = [(2, (none, .box [fb, fl])), (1000, (some b0, o6))] ∧ ρ = [(1, .v (.slice (some ⟨b1, off1, none⟩) xs.length cap)), (2, .p 2 0), (4, .v (.int .i64 i)), (6, .v (.int .i64 xs.length)), (7, .v (.int .i64 i))] ∧ (Y uc6 (pre ++ evB (xs.take i) ++ [Sum.inl (.mk k lv inf t d ti a line kids)]) o6)) ?_ ?_
   ·
    refine wc_seq ?_
    refine wc_region ?_
    refine rl_y (y_field_p rfl Tryd.f58' rfl (by decide) rfl) rfl ?_
    refine rl_y (y_load_p rfl Tryd.k54 rfl rfl rfl (vs := [_]) rfl rfl rfl) rfl ?_
    refine rl_y (y_fn_neqG rfl (by kernel_rfl) rfl rfl hfv) rfl ?_
    refine rl_end (ρ' := [(1, _), (2, _), (4, _), (6, _), (7, _), (12, _)]) ⟨rfl, rfl, rfl, rfl, rfl, rfl, trivial⟩ ?_
    refine q_then ?_
    refine wc_cond rfl (fun hb4 => ?_) (fun hb4 => ?_)
    ·
     rcases hB with ⟨rfl, hB⟩ | ⟨fB, cB, rfl, hcB, hB⟩; exact absurd hb4 (by decide)
     refine wc_draw Tryd.mixed rfl [(2, _)] ⟨rfl, trivial⟩ ?_
     refine ra_y (i := 0) rfl (by kernel_rfl) (by kernel_rfl) (by kernel_rfl) (np_then (np_block (np_then (np_then (np_block (np_finO)))))) (y_field_p rfl Tryd.f58' rfl (by decide) rfl) rfl ?_
     refine ra_y (i := 1) rfl (by kernel_rfl) (by kernel_rfl) (by kernel_rfl) (np_then (np_block (np_then (np_then (np_block (np_finO)))))) (y_load_p rfl Tryd.k54 rfl rfl rfl (vs := [_]) rfl rfl rfl) rfl ?_
     refine ra_y (i := 2) rfl (by kernel_rfl) (by kernel_rfl) (by kernel_rfl) (np_then (np_block (np_then (np_then (np_block (np_finO)))))) (y_move rfl rfl) rfl ?_
     refine ra_y (i := 3) rfl (by kernel_rfl) (by kernel_rfl) (by kernel_rfl) (np_then (np_block (np_then (np_then (np_block (np_finO)))))) (y_move rfl rfl) rfl ?_
     refine ra_y (i := 4) rfl (by kernel_rfl) (by kernel_rfl) (by kernel_rfl) (np_then (np_block (np_then (np_then (np_block (np_finO)))))) (y_index_e rfl Tryd.s23 rfl rfl (by assumption) (by first | rfl | omega) (by omega)) rfl ?_
     refine ra_e2v 17 rfl ?_
     refine ra_do (i := 5) rfl rfl (by kernel_rfl) ?_
     refine do_call_o (caps := cB) (ρ' := [(1, _), (2, _), (4, _), (6, _), (7, _)]) [1000] [] ⟨rfl, trivial⟩ rfl rfl rfl hcB rfl rfl ⟨rfl, rfl, rfl, rfl, rfl, trivial⟩ rfl rfl rfl (FnO.mono (hB (pre ++ evB (xs.take i)) oi u' _ _ (VLe.refl _) (by rw [List.length_append]; omega) hYi hP) ?_)
     rintro v uQ l1 hleQ ⟨rfl, oQ, rfl, hYQ⟩ -
     refine ⟨⟨fun _ h => h, trivial⟩, ?_⟩
     refine ra_end (by kernel_rfl) (ρ' := [(1, _), (2, _), (4, _), (6, _), (7, _)]) ⟨rfl, rfl, rfl, rfl, rfl, trivial⟩ ?_
     refine q_thenK ?_
     first
      | (refine ⟨[(1, _), (2, _), (4, _), (6, _), (7, _)], [(2, _), (1000, _)], ⟨rfl, rfl, rfl, rfl, rfl, trivial⟩, ⟨rfl, rfl, trivial⟩, oQ, hleQ, (by first | rfl | simp), (by first | rfl | (simp only [List.cons.injEq, Prod.mk.injEq, SV.v.injEq, Value.int.injEq, true_and, and_true]; omega) | simp), ?_⟩
         exact hYQ)
      | (refine ⟨[(1, _), (2, _), (4, _), (6, _), (7, _)], [(2, _), (1000, _)], ⟨rfl, rfl, rfl, rfl, rfl, trivial⟩, ⟨rfl, rfl, trivial⟩, oi, (VLe.refl _), (by first | rfl | simp), (by first | rfl | (simp only [List.cons.injEq, Prod.mk.injEq, SV.v.injEq, Value.int.injEq, true_and, and_true]; omega) | simp), ?_⟩
         exact hYs)
    ·
     have hYs : Y u' (pre ++ evB (xs.take i) ++ [Sum.inl (.mk k lv inf t d ti a line kids)]) oi := (by rcases hB with ⟨rfl, hNx⟩ | ⟨fB, cB, rfl, hcB, hB⟩; exact hNx _ _ _ _ hYi; cases hb4)
     refine wc_skip ?_
     refine q_thenK ?_
     first
      | (refine ⟨[(1, _), (2, _), (4, _), (6, _), (7, _)], [(2, _), (1000, _)], ⟨rfl, rfl, rfl, rfl, rfl, trivial⟩, ⟨rfl, rfl, trivial⟩, oQ, hleQ, (by first | rfl | simp), (by first | rfl | (simp only [List.cons.injEq, Prod.mk.injEq, SV.v.injEq, Value.int.injEq, true_and, and_true]; omega) | simp), ?_⟩
         exact hYQ)
      | (refine ⟨[(1, _), (2, _), (4, _), (6, _), (7, _)], [(2, _), (1000, _)], ⟨rfl, rfl, rfl, rfl, rfl, trivial⟩, ⟨rfl, rfl, trivial⟩, oi, (VLe.refl _), (by first | rfl | simp), (by first | rfl | (simp only [List.cons.injEq, Prod.mk.injEq, SV.v.injEq, Value.int.injEq, true_and, and_true]; omega) | simp), ?_⟩
         exact hYs)
   ·
    rintro ρ σ uc6 ⟨o6, hlc6, rfl, rfl, hY6⟩
    have h1 := h1.mono hlc6
    have hc1 := hc1.mono hlc6
    refine wc_seq ?_
    refine wc_draw Tryd.mixed rfl [(2, _)] ⟨rfl, trivial⟩ ?_
    refine ra_y (i := 0) rfl (by kernel_rfl) (by kernel_rfl) (by kernel_rfl) (np_then (np_block (np_then (np_then (np_block (np_finO)))))) (y_load_p rfl Tryd.k58 rfl rfl rfl (vs := [_, _]) rfl rfl rfl) rfl ?_
    refine ra_y (i := 1) rfl (by kernel_rfl) (by kernel_rfl) (by kernel_rfl) (np_then (np_block (np_then (np_then (np_block (np_finO)))))) (y_move rfl rfl) rfl ?_
    refine ra_y (i := 2) rfl (by kernel_rfl) (by kernel_rfl) (by kernel_rfl) (np_then (np_block (np_then (np_then (np_block (np_finO)))))) (y_move rfl rfl) rfl ?_
    refine ra_y (i := 3) rfl (by kernel_rfl) (by kernel_rfl) (by kernel_rfl) (np_then (np_block (np_then (np_then (np_block (np_finO)))))) (y_index_e rfl Tryd.s23 rfl rfl (by assumption) (by first | rfl | omega) (by omega)) rfl ?_
    refine ra_y (i := 4) rfl (by kernel_rfl) (by kernel_rfl) (by kernel_rfl) (np_then (np_block (np_then (np_then (np_block (np_finO)))))) (y_field_e rfl Tryd.f42' rfl (by decide) rfl) rfl ?_
    refine ra_y (i := 5) rfl (by kernel_rfl) (by kernel_rfl) (by kernel_rfl) (np_then (np_block (np_then (np_then (np_block (np_finO)))))) (y_load_el rfl Tryd.k40 rfl (by assumption) (by omega) (by assumption) (vs := [_]) rfl rfl rfl rfl) rfl ?_
    refine ra_do (i := 6) rfl rfl (by kernel_rfl) ?_
    refine do_call_o (caps := []) (ρ' := [(1, _), (2, _), (4, _), (6, _), (7, _)]) [1000] [] ⟨rfl, trivial⟩ rfl rfl rfl Tryd.c47 rfl rfl ⟨rfl, rfl, rfl, rfl, rfl, trivial⟩ rfl rfl rfl (FnO.mono (vInl_fn fb fl b0 Y hM (szI line) vl line _ o6 uc6 (Nat.le_refl _) (by simp only [List.length_append, List.length_cons, List.length_nil]; omega) (s3.mono hlc6) (hI.mono hlc6) hY6) ?_)
    rintro v uK l1 hleK ⟨rfl, oK, rfl, hYK⟩ -
    refine ⟨⟨fun _ h => h, trivial⟩, ?_⟩
    have h1 := h1.mono hleK
    have hc1 := hc1.mono hleK
    refine ra_end (by kernel_rfl) (ρ' := [(1, _), (2, _), (4, _), (6, _), (7, _)]) ⟨rfl, rfl, rfl, rfl, rfl, trivial⟩ ?_
    refine q_then ?_
    refine wc_draw Tryd.mixed rfl [(2, _)] ⟨rfl, trivial⟩ ?_
    refine ra_y (i := 0) rfl (by kernel_rfl) (by kernel_rfl) (by kernel_rfl) (np_block (np_then (np_then (np_block (np_finO))))) (y_load_p rfl Tryd.k58 rfl rfl rfl (vs := [_, _]) rfl rfl rfl) rfl ?_
    refine ra_y (i := 1) rfl (by kernel_rfl) (by kernel_rfl) (by kernel_rfl) (np_block (np_then (np_then (np_block (np_finO))))) (y_move rfl rfl) rfl ?_
    refine ra_y (i := 2) rfl (by kernel_rfl) (by kernel_rfl) (by kernel_rfl) (np_block (np_then (np_then (np_block (np_finO))))) (y_move rfl rfl) rfl ?_
    refine ra_y (i := 3) rfl (by kernel_rfl) (by kernel_rfl) (by kernel_rfl) (np_block (np_then (np_then (np_block (np_finO))))) (y_index_e rfl Tryd.s23 rfl rfl (by assumption) (by first | rfl | omega) (by omega)) rfl ?_
    refine ra_y (i := 4) rfl (by kernel_rfl) (by kernel_rfl) (by kernel_rfl) (np_block (np_then (np_then (np_block (np_finO))))) (y_field_e rfl Tryd.f42' rfl (by decide) rfl) rfl ?_
    refine ra_y (i := 5) rfl (by kernel_rfl) (by kernel_rfl) (by kernel_rfl) (np_block (np_then (np_then (np_block (np_finO))))) (y_load_el rfl Tryd.k23 rfl (by assumption) (by omega) (by assumption) (vs := [_]) rfl rfl rfl rfl) rfl ?_
    refine ra_do (i := 6) rfl rfl (by kernel_rfl) ?_
    refine do_call_o (caps := []) (ρ' := [(1, _), (2, _), (6, _), (7, _)]) [1000] [] ⟨rfl, trivial⟩ rfl rfl rfl Tryd.c28 rfl rfl ⟨rfl, rfl, rfl, rfl, trivial⟩ rfl rfl rfl (FnO.mono (ih (szB kids) (by omega) vk kids _ oK uK (Nat.le_refl _) (by simp only [List.length_append, List.length_cons, List.length_nil]; omega) ((s4.mono hlc6).mono hleK) ((hB.mono hlc6).mono hleK) ((hI.mono hlc6).mono hleK) hYK) ?_)
    rintro v uR l1 hleR ⟨rfl, oR, rfl, hYR⟩ -
    refine ⟨⟨fun _ h => h, trivial⟩, ?_⟩
    refine ra_end (by kernel_rfl) (ρ' := [(1, _), (2, _), (6, _), (7, _)]) ⟨rfl, rfl, rfl, rfl, trivial⟩ ?_
    refine q_block ?_
    refine q_then ?_
    refine wc_region ?_
    refine rl_y (y_add rfl rfl rfl (wrap64_id (by omega))) rfl ?_
    refine ym rfl rfl ?_
    refine rl_end (ρ' := [(1, _), (2, _), (6, _), (7, _)]) ⟨rfl, rfl, rfl, rfl, trivial⟩ ?_
    refine q_thenK ?_
    refine ⟨m - 1, [(1, _), (2, _), (6, _), (7, _)], [(2, _), (1000, _)], by omega, ⟨rfl, rfl, rfl, rfl, trivial⟩, ⟨rfl, rfl, trivial⟩, i + 1, by omega, (hle2.trans (hlc6.trans (hleK.trans hleR))), oR, rfl, (by first | rfl | simp), ?_⟩
    rw [het]
    simpa [kidsB, lineOf] using hYR
  ·
   refine wc_exit ?_
   refine q_then_exit ?_
   refine q_then_exit ?_
   refine q_block_hit ?_
   refine finO0n [1000]  rfl rfl ?_
   have hge := of_decide_eq_false hb2
   rw [List.take_of_length_le (by omega)] at hYi
   exact ⟨rfl, _, rfl, hYi⟩
end Go.Proofs.Ythkgcakpjknlbaa
namespace Go.Proofs.Ythkgcakpjknlbaa
open Go Go.Eng
set_option linter.unusedSimpArgs false
set_option linter.unusedVariables false
set_option maxRecDepth 4000
theorem labCopyAttr_fn (a : DAttr) (vc vp : Value) (u : View) (hc : a.classes.length ≤ 1000000) (hp : a.pairs.length ≤ 1000000) (h1 : StrS u vc a.classes) (h2 : PrS u vp a.pairs) :
  FnP Tryd.prog 51 [.agg #[str a.id, vc, vp]] u fun r u' => ∃ vc' vp', r = .agg #[str a.id, vc', vp'] ∧ StrS u' vc' a.classes ∧ PrS u' vp' a.pairs := by
 obtain ⟨ad, cap, rfl, h1⟩ := h1
 obtain ⟨ad2, cap2, rfl, h2⟩ := h2
 refine FnP.intro [.cell 2 39] Tryd.func51 rfl rfl rfl ?_
 intro w0 D hw0
 refine wc_seq ?_
 refine wc_region ?_
 refine rl_do rfl rfl ?_
 refine do_box trivial rfl (cs := [_, _, _]) rfl rfl rfl rfl ?_
 refine rl_do rfl rfl ?_
 refine do_alloc trivial Tryd.z39 rfl rfl rfl ?_
 refine rl_end (ρ' := [(1, _), (2, _)]) ⟨rfl, rfl, trivial⟩ ?_
 refine q_then ?_
 refine wc_seq ?_
 refine wc_draw Tryd.mixed rfl [(1, _)] ⟨rfl, trivial⟩ ?_
 refine ra_y (i := 0) rfl (by kernel_rfl) (by kernel_rfl) (by kernel_rfl) (np_then (np_fin)) (y_field_p rfl Tryd.f39' rfl (by decide) rfl) rfl ?_
 refine ra_y (i := 1) rfl (by kernel_rfl) (by kernel_rfl) (by kernel_rfl) (np_then (np_fin)) (y_load_p rfl Tryd.k9 rfl rfl rfl (vs := [_]) rfl rfl rfl) rfl ?_
 refine ra_y (i := 2) rfl (by kernel_rfl) (by kernel_rfl) (by kernel_rfl) (np_then (np_fin)) (y_field_p rfl Tryd.f39' rfl (by decide) rfl) rfl ?_
 refine ra_y (i := 3) rfl (by kernel_rfl) (by kernel_rfl) (by kernel_rfl) (np_then (np_fin)) (y_load_p rfl Tryd.k29 rfl rfl rfl (vs := [_]) rfl rfl rfl) rfl ?_
 refine ra_y (i := 5) rfl (by kernel_rfl) (by kernel_rfl) (by kernel_rfl) (np_then (np_fin)) (y_field_p rfl Tryd.f39' rfl (by decide) rfl) rfl ?_
 refine ra_y (i := 6) rfl (by kernel_rfl) (by kernel_rfl) (by kernel_rfl) (np_then (np_fin)) (y_load_p rfl Tryd.k22 rfl rfl rfl (vs := [_]) rfl rfl rfl) rfl ?_
 refine ra_do (i := 4) rfl rfl (by kernel_rfl) ?_
 refine do_append_nil_v ⟨rfl, trivial⟩ rfl Tryd.s29 Tryd.z9 rfl rfl rfl rfl (by assumption) (oneCell_strs _) (by omega) (by omega) rfl rfl rfl ?_
 refine ra_freeze 7 rfl ?_
 intro ad7 cap7 u7 hle7z hsl7
 have h2 := h2.mono (by first | exact hle7z | exact hle10z.trans hle7z)
 refine ra_do (i := 7) rfl rfl (by kernel_rfl) ?_
 refine do_append_nil_v ⟨rfl, trivial⟩ rfl Tryd.s22 Tryd.z48 rfl rfl rfl rfl (by assumption) (oneCell_pairs _) (by omega) (by omega) rfl rfl rfl ?_
 refine ra_freeze 10 rfl ?_
 intro ad10 cap10 u10 hle10z hsl10
 have h1 := h1.mono (by first | exact hle10z | exact hle7z.trans hle10z)
 refine ra_y (i := 8) rfl (by kernel_rfl) (by kernel_rfl) (by kernel_rfl) (np_then (np_fin)) (y_build rfl Tryd.f39' Tryd.z39 (ps := [(_, _), (_, _), (_, _)]) rfl (vs := [_, _, _]) rfl) rfl ?_
 refine ra_do (i := 9) rfl rfl (by kernel_rfl) ?_
 refine do_store_p ⟨rfl, trivial⟩ rfl Tryd.k39 rfl rfl rfl (vs := [_, _, _]) rfl rfl (by first | rfl | assumption | simp [Value.oneCell', str]) (Nat.le_of_ble_eq_true rfl) rfl ?_
 refine ra_end (by kernel_rfl) (ρ' := [(2, _)]) ⟨rfl, trivial⟩ ?_
 refine q_then ?_
 refine wc_ret ?_
 refine fin1 (.cell rfl rfl Tryd.k39 (cs := _) (vs := [_, _, _]) rfl rfl rfl) ?_
 exact ⟨_, _, rfl, ⟨_, _, rfl, by first | exact hsl7 | exact hsl7.mono hle10z⟩, ⟨_, _, rfl, by first | exact hsl10 | exact hsl10.mono hle7z⟩⟩
theorem labCopyMeta_fn (v : Value) (xs : List (Bs × Bs)) (hx : xs.length ≤ 1000000) (u : View) (ha : PrS u v xs) : FnP Tryd.prog 37 [v] u fun r u' => PrS u' r xs := by
 obtain ⟨ad, cap, rfl, h1⟩ := ha
 refine FnP.intro [.tmp 2] Tryd.func37 rfl rfl rfl ?_
 intro w0 D hw0
 refine wc_seq ?_
 refine wc_region ?_
 refine ya rfl rfl ?_
 refine rl_end (ρ' := [(0, _)]) ⟨rfl, trivial⟩ ?_
 refine q_then ?_
 refine wc_seq ?_
 refine wc_region ?_
 refine ym rfl rfl ?_
 refine rl_do rfl rfl ?_
 refine do_append_nil_v trivial rfl Tryd.s22 Tryd.z48 rfl rfl rfl rfl (by assumption) (oneCell_pairs _) (by omega) (by omega) rfl rfl rfl ?_
 refine rl_freeze 4 rfl ?_
 intro ad4 cap4 u4 hle4z hsl4
 refine ya rfl rfl ?_
 refine rl_end (ρ' := [(2, _)]) ⟨rfl, trivial⟩ ?_
 refine q_then ?_
 refine wc_ret ?_
 refine fin1 (.tmp rfl) ?_
 exact ⟨_, _, rfl, hsl4⟩
def NodeCp : Inl → Prop
 | .mk _ _ _ _ a args cites _ => a.classes.length ≤ 1000 ∧ a.pairs.length ≤ 1000 ∧ args.length ≤ 1000 ∧ cites.length ≤ 1000
abbrev YI := View → List Inl → OO → Prop
structure RepI where
 rep : Inl → Inl
 g : List Inl → List Inl
 ev : List Inl → List Inl
 mm : List Inl → Nat
 Gd : List Inl → Prop
 Gx : Inl → Prop
 g0 : g [] = []
 ev0 : ev [] = []
 gs : ∀ (xs : List Inl) (i : Nat) (x : Inl), xs[i]? = some x → g (xs.take (i + 1)) = g (xs.take i) ++ [setK (rep x) (g (kidsI (rep x)))]
 evs : ∀ (xs : List Inl) (i : Nat) (x : Inl), xs[i]? = some x → ev (xs.take (i + 1)) = ev (xs.take i) ++ x :: ev (kidsI (rep x))
 gl : ∀ xs : List Inl, (g xs).length = xs.length
 down : ∀ (xs : List Inl) (i : Nat) (x : Inl), Gd xs → xs[i]? = some x → mm (kidsI (rep x)) < mm xs ∧ Gd (kidsI (rep x)) ∧ NodeCp (rep x) ∧ Gx x
 len : ∀ xs : List Inl, Gd xs → xs.length ≤ 100000
def CbR (R : RepI) (fr : Value) (b0 : Nat) (u : View) (Y : YI) : Prop :=
 ∃ f caps, fr = .func (.func f) #[] caps.toArray ∧ canCall Tryd.prog f = true ∧ ∀ pre o u' x cs, VLe u u' → Y u' pre o → R.Gx x → InlC u' x cs →
  FnO Tryd.prog f (.agg cs.toArray :: caps) u' [(some b0, o)] fun r u'' l' => (∃ cs', r = .agg cs'.toArray ∧ InlC u'' (R.rep x) cs') ∧ ∃ o', l' = [(some b0, o')] ∧ Y u'' (pre ++ [x]) o'
theorem CbR.mono {R : RepI} {fr : Value} {b0 : Nat} {u u2 : View} {Y : YI} (h : CbR R fr b0 u Y) (hu : VLe u u2) : CbR R fr b0 u2 Y := by
 obtain ⟨f, caps, h1, h2, h3⟩ := h
 exact ⟨f, caps, h1, h2, fun pre o u' x cs hle => h3 pre o u' x cs (hu.trans hle)⟩
set_option maxHeartbeats 4000000 in
theorem rebLine_fn (R : RepI) (f : FuncId) (caps : List Value) (b0 : Nat) (Y : YI) (hM : ∀ u u' pre o, VLe u u' → Y u pre o → Y u' pre o) (hcF : canCall Tryd.prog f = true) (n : Nat) :
  ∀ (v : Value) (xs pre : List Inl) (o : OO) (u : View), R.mm xs ≤ n → R.Gd xs → InlS u v xs → CbR R (.func (.func f) #[] caps.toArray) b0 u Y → Y u pre o →
   FnO Tryd.prog 52 [v, .func (.func f) #[] caps.toArray] u [(some b0, o)] fun r u' l' => InlS u' r (R.g xs) ∧ ∃ o', l' = [(some b0, o')] ∧ Y u' (pre ++ R.ev xs) o' := by
 induction n using Nat.strongRecOn with
 | _ n ih =>
 intro v xs pre o u hsz hgd ha hR hY
 have hlx := R.len xs hgd
 obtain ⟨cs, ⟨ad, cap, rfl, h1⟩, hc1⟩ := ha
 refine FnO.intro [.tmp 4] Tryd.func52 rfl rfl rfl ?_
 intro w0 D hw0
 refine wc_seq ?_
 refine wc_region ?_
 refine ya rfl rfl ?_
 refine rl_end (ρ' := [(0, _), (1, _)]) ⟨rfl, rfl, trivial⟩ ?_
 refine q_then ?_
 refine wc_seq ?_
 refine wc_region ?_
 refine ya rfl rfl ?_
 refine rl_own_nil 5 505 46 10 rfl rfl rfl ?_
 refine rl_end (ρ' := [(0, _), (1, _), (5, _)]) ⟨rfl, rfl, rfl, trivial⟩ ?_
 refine q_then ?_
 refine wc_seq ?_
 refine wc_seq ?_
 refine wc_region ?_
 refine ym rfl rfl ?_
 refine rl_y (y_len_v rfl rfl Tryd.s40 rfl) rfl ?_
 refine ym rfl rfl ?_
 refine rl_end (ρ' := [(1, _), (5, _), (8, _), (9, _), (10, _)]) ⟨rfl, rfl, rfl, rfl, rfl, trivial⟩ ?_
 refine q_then ?_
 refine wc_block ?_
 refine wc_loop (fun m ρ σ u' => ∃ i : Nat, i + m = xs.length ∧ VLe u u' ∧ ∃ (acc : List Value) (oi : OO), σ = [(505, (none, .row 46 10 (R.g (xs.take i)).length acc)), (1000, (some b0, oi))] ∧ ρ = [(1, .v (.func (.func f) #[] caps.toArray)), (5, .s 505), (8, .v (.slice ad xs.length cap)), (9, .v (.int .i64 xs.length)), (10, .v (.int .i64 i))] ∧ (InlsC u' (R.g (xs.take i)) acc ∧ Y u' (pre ++ R.ev (xs.take i)) oi)) (xs.length) ?_ ?_
 ·
  refine ⟨[(1, _), (5, _), (8, _), (9, _), (10, _)], [(505, _), (1000, _)], ⟨rfl, rfl, rfl, rfl, rfl, trivial⟩, ⟨rfl, rfl, trivial⟩, 0, by omega, VLe.refl _, [], o, (by simp [R.g0]), rfl, ?_⟩
  exact ⟨by rw [List.take_zero, R.g0]; exact InlsC.nil, by rw [List.take_zero, R.ev0, List.append_nil]; exact hY⟩
 ·
  rintro m ρ σ u' ⟨i, hi3, hle3, acc, oi, rfl, rfl, ⟨hacc, hYi⟩⟩
  refine wc_seq ?_
  refine wc_region ?_
  refine rl_y (y_lss rfl rfl rfl) rfl ?_
  refine rl_end (ρ' := [(1, _), (5, _), (8, _), (9, _), (10, _), (11, _)]) ⟨rfl, rfl, rfl, rfl, rfl, rfl, trivial⟩ ?_
  refine q_then ?_
  refine wc_seq ?_
  refine wc_cond rfl (fun hb3 => ?_) (fun hb3 => ?_)
  ·
   have hlt : i < xs.length := by have := of_decide_eq_true hb3; omega
   have h1 := h1.mono hle3
   obtain ⟨k, t, d, ti, a, args, cites, kids, vc, vp, va, vt, vk, hg, hcut1, s1, s2, s3, s4, s5, hok⟩ := (hc1.mono hle3).at hlt
   have hx := (hc1.mono hle3).get i _ hg
   rw [hcut1] at hx
   have oneAll := hx.one
   obtain ⟨hdn, hgk, hcp, hgx⟩ := R.down xs i _ hgd hg
   have hgs := R.gs xs i _ hg
   have hevs := R.evs xs i _ hg
   have hgl := R.gl (xs.take i)
   have htl : (xs.take i).length ≤ i := by simp; omega
   have hRu := hR.mono hle3
   obtain ⟨f', caps', hfe, _, hcall⟩ := hRu
   obtain ⟨rfl, hce⟩ : f = f' ∧ caps = caps' := by simpa using hfe
   subst hce
   generalize hz : Inl.mk k t d ti a args cites kids = z at *
   refine wc_skip ?_
   refine q_then ?_
   refine wc_seq ?_
   refine wc_block ?_
   refine wc_seq ?_
   refine wc_region ?_
   refine rl_y (y_index_e rfl Tryd.s40 rfl rfl (by assumption) (by first | rfl | omega) (by omega)) rfl ?_
   refine rl_y (y_load_el rfl Tryd.k46 rfl (by assumption) (by omega) (by assumption) (vs := [_, _, _, _, _, _, _, _, _, _]) rfl rfl rfl rfl) rfl ?_
   refine rl_do rfl rfl ?_
   refine do_alloc trivial Tryd.z46 rfl rfl rfl ?_
   refine rl_do rfl rfl ?_
   refine do_store_p trivial rfl Tryd.k46 rfl rfl rfl (vs := [_, _, _, _, _, _, _, _, _, _]) rfl rfl (by first | rfl | assumption | simp [Value.oneCell', str]) (Nat.le_of_ble_eq_true rfl) rfl ?_
   refine rl_end (ρ' := [(1, _), (5, _), (7, _), (8, _), (9, _), (10, _)]) ⟨rfl, rfl, rfl, rfl, rfl, rfl, trivial⟩ ?_
   refine q_then ?_
   refine wc_seq ?_
   refine wc_region ?_
   refine ym rfl rfl ?_
   refine rl_y (y_load_p rfl Tryd.k46 rfl rfl rfl (vs := [_, _, _, _, _, _, _, _, _, _]) rfl rfl rfl) rfl ?_
   refine rl_do rfl rfl ?_
   refine do_call_o (caps := caps) (ρ' := [(1, _), (5, _), (7, _), (8, _), (9, _), (10, _)]) [1000] [] trivial rfl rfl rfl hcF rfl rfl ⟨rfl, rfl, rfl, rfl, rfl, rfl, trivial⟩ rfl rfl rfl (FnO.mono (hcall (pre ++ R.ev (xs.take i)) oi u' z _ (VLe.refl _) hYi hgx hx) ?_)
   rintro v uC l1 hleC ⟨⟨cs2, rfl, hx2⟩, oC, rfl, hYC⟩ -
   refine ⟨⟨fun _ h => h, trivial⟩, ?_⟩
   generalize R.rep z = y at *
   obtain ⟨k2, t2, d2, ti2, a2, args2, cites2, kids2⟩ := y
   obtain ⟨vc2, vp2, va2, vt2, vk2, rfl, q1, q2, q3, q4, q5, hok2⟩ := hx2.cells
   have oneAll2 := hx2.one
   obtain ⟨p1, p2, p3, p4⟩ := hcp
   simp only [kidsI] at hdn hgk hgs hevs
   have q3' := q3
   have q4' := q4
   obtain ⟨ad3, cap3, rfl, q3⟩ := q3
   obtain ⟨ad4, cap4, rfl, q4⟩ := q4
   refine rl_do rfl rfl ?_
   refine do_store_p trivial rfl Tryd.k46 rfl rfl rfl (vs := [_, _, _, _, _, _, _, _, _, _]) rfl rfl (by first | rfl | assumption | simp [Value.oneCell', str]) (Nat.le_of_ble_eq_true rfl) rfl ?_
   refine rl_end (ρ' := [(1, _), (5, _), (7, _), (8, _), (9, _), (10, _)]) ⟨rfl, rfl, rfl, rfl, rfl, rfl, trivial⟩ ?_
   refine q_then ?_
   refine wc_seq ?_
   refine wc_region ?_
   refine rl_y (y_field_p rfl Tryd.f46' rfl (by decide) rfl) rfl ?_
   refine rl_y (y_load_p rfl Tryd.k39 rfl rfl rfl (vs := [_, _, _]) rfl rfl rfl) rfl ?_
   refine rl_do rfl rfl ?_
   refine do_call (caps := []) trivial rfl rfl Tryd.c51 rfl (FnP.mono (labCopyAttr_fn a2 _ _ _ (by omega) (by omega) q1 q2) ?_)
   rintro v uA hle0 ⟨vc3, vp3, rfl, ⟨ad5, cap5, rfl, w1⟩, ⟨ad6, cap6, rfl, w2⟩⟩ hleA
   refine rl_y (y_field_p rfl Tryd.f46' rfl (by decide) rfl) rfl ?_
   refine rl_do rfl rfl ?_
   refine do_store_p trivial rfl Tryd.k39 rfl rfl rfl (vs := [_, _, _]) rfl rfl (by first | rfl | assumption | simp [Value.oneCell', str]) (Nat.le_of_ble_eq_true rfl) rfl ?_
   refine rl_end (ρ' := [(1, _), (5, _), (7, _), (8, _), (9, _), (10, _)]) ⟨rfl, rfl, rfl, rfl, rfl, rfl, trivial⟩ ?_
   refine q_then ?_
   refine wc_seq ?_
   have q3 := q3.mono hleA
   refine wc_region ?_
   refine rl_y (y_field_p rfl Tryd.f46' rfl (by decide) rfl) rfl ?_
   refine rl_y (y_load_p rfl Tryd.k29 rfl rfl rfl (vs := [_]) rfl rfl rfl) rfl ?_
   refine rl_do rfl rfl ?_
   refine do_append_nil_v trivial rfl Tryd.s29 Tryd.z9 rfl rfl rfl rfl (by assumption) (oneCell_strs _) (by omega) (by omega) rfl rfl rfl ?_
   refine rl_freeze 23 rfl ?_
   intro ad23 cap23 u23 hle23z hsl23
   refine rl_y (y_field_p rfl Tryd.f46' rfl (by decide) rfl) rfl ?_
   refine rl_do rfl rfl ?_
   refine do_store_p trivial rfl Tryd.k29 rfl rfl rfl (vs := [_]) rfl rfl (by first | rfl | assumption | simp [Value.oneCell', str]) (Nat.le_of_ble_eq_true rfl) rfl ?_
   refine rl_end (ρ' := [(1, _), (5, _), (7, _), (8, _), (9, _), (10, _)]) ⟨rfl, rfl, rfl, rfl, rfl, rfl, trivial⟩ ?_
   refine q_then ?_
   refine wc_seq ?_
   have q4 := (q4.mono hleA).mono hle23z
   refine wc_region ?_
   refine rl_y (y_field_p rfl Tryd.f46' rfl (by decide) rfl) rfl ?_
   refine rl_y (y_load_p rfl Tryd.k44 rfl rfl rfl (vs := [_]) rfl rfl rfl) rfl ?_
   refine rl_do rfl rfl ?_
   refine do_append_nil_v trivial rfl Tryd.s44 Tryd.z86 rfl rfl rfl rfl (by assumption) (oneCell_cites _) (by omega) (by omega) rfl rfl rfl ?_
   refine rl_freeze 27 rfl ?_
   intro ad27 cap27 u27 hle27z hsl27
   refine rl_y (y_field_p rfl Tryd.f46' rfl (by decide) rfl) rfl ?_
   refine rl_do rfl rfl ?_
   refine do_store_p trivial rfl Tryd.k44 rfl rfl rfl (vs := [_]) rfl rfl (by first | rfl | assumption | simp [Value.oneCell', str]) (Nat.le_of_ble_eq_true rfl) rfl ?_
   refine rl_end (ρ' := [(1, _), (5, _), (7, _), (8, _), (9, _), (10, _)]) ⟨rfl, rfl, rfl, rfl, rfl, rfl, trivial⟩ ?_
   refine q_then ?_
   refine wc_seq ?_
   refine wc_region ?_
   refine rl_y (y_field_p rfl Tryd.f46' rfl (by decide) rfl) rfl ?_
   refine rl_y (y_load_p rfl Tryd.k40 rfl rfl rfl (vs := [_]) rfl rfl rfl) rfl ?_
   refine ym rfl rfl ?_
   refine rl_do rfl rfl ?_
   refine do_call_o (caps := []) (ρ' := [(1, _), (5, _), (7, _), (8, _), (9, _), (10, _)]) [1000] [] trivial rfl rfl rfl Tryd.c52 rfl rfl ⟨rfl, rfl, rfl, rfl, rfl, rfl, trivial⟩ rfl rfl rfl (FnO.mono (ih (R.mm kids2) (by omega) vk2 kids2 _ oC u27 (Nat.le_refl _) hgk (((q5.mono hleA).mono hle23z).mono hle27z) ((hR.mono (hle3.trans hleC)).mono (hleA.trans (hle23z.trans hle27z))) (hM _ _ _ _ (hleA.trans (hle23z.trans hle27z)) hYC)) ?_)
   rintro v uK l1 hleK ⟨⟨kcs, ⟨kad, kcap, rfl, hk1⟩, hk2⟩, oK, rfl, hYK⟩ -
   refine ⟨⟨fun _ h => h, trivial⟩, ?_⟩
   refine rl_y (y_field_p rfl Tryd.f46' rfl (by decide) rfl) rfl ?_
   refine rl_do rfl rfl ?_
   refine do_store_p trivial rfl Tryd.k40 rfl rfl rfl (vs := [_]) rfl rfl (by first | rfl | assumption | simp [Value.oneCell', str]) (Nat.le_of_ble_eq_true rfl) rfl ?_
   refine rl_end (ρ' := [(1, _), (5, _), (7, _), (8, _), (9, _), (10, _)]) ⟨rfl, rfl, rfl, rfl, rfl, rfl, trivial⟩ ?_
   refine q_then ?_
   refine wc_region ?_
   refine ym rfl rfl ?_
   refine rl_y (y_load_p rfl Tryd.k46 rfl rfl rfl (vs := [_, _, _, _, _, _, _, _, _, _]) rfl rfl rfl) rfl ?_
   refine rl_do rfl rfl ?_
   refine do_buildSlice trivial Tryd.s40 Tryd.z46 (ps := [(_, _)]) rfl (xs := [_, _, _, _, _, _, _, _, _, _]) rfl rfl rfl rfl rfl rfl rfl ?_
   refine rl_do rfl rfl ?_
   refine do_append_s trivial rfl rfl Tryd.s40 Tryd.z46 rfl rfl rfl rfl rfl rfl (by first | rfl | assumption | simp [Value.oneCell', str]) (by omega) (by omega) (ρ' := [(1, _), (8, _), (9, _), (10, _)]) ⟨rfl, rfl, rfl, rfl, trivial⟩ rfl rfl rfl ?_
   refine ya rfl rfl ?_
   refine rl_ren 37 505 rfl rfl rfl ?_
   refine rl_end (ρ' := [(1, _), (5, _), (8, _), (9, _), (10, _)]) ⟨rfl, rfl, rfl, rfl, rfl, trivial⟩ ?_
   refine q_block ?_
   refine q_then ?_
   refine wc_region ?_
   refine rl_y (y_add rfl rfl rfl (wrap64_id (by omega))) rfl ?_
   refine ym rfl rfl ?_
   refine rl_end (ρ' := [(1, _), (5, _), (8, _), (9, _), (10, _)]) ⟨rfl, rfl, rfl, rfl, rfl, trivial⟩ ?_
   refine q_thenK ?_
   refine ⟨m - 1, [(1, _), (5, _), (8, _), (9, _), (10, _)], [(505, _), (1000, _)], by omega, ⟨rfl, rfl, rfl, rfl, rfl, trivial⟩, ⟨rfl, rfl, trivial⟩, i + 1, by omega, (hle3.trans (hleC.trans (hleA.trans (hle23z.trans (hle27z.trans hleK))))), _, oK, (by rw [hgs, List.length_append]; rfl), (by first | rfl | simp), ?_⟩
   rw [hgs, hevs]
   refine ⟨(hacc.mono (hleC.trans (hleA.trans (hle23z.trans (hle27z.trans hleK))))).append (InlsC.one ?_), by simpa using hYK⟩
   have hok3 : InlOk (.mk k2 t2 d2 ti2 a2 args2 cites2 (R.g kids2)) := by
    obtain ⟨o1, o2, o3, o4, o5, o6, o7, o8⟩ := hok2
    exact ⟨o1, o2, o3, o4, o5, o6, o7, by rw [R.gl]; exact o8⟩
   have hw := hle23z.trans (hle27z.trans hleK)
   exact InlC.mk' (StrS.mono ⟨_, _, rfl, w1⟩ hw) (PrS.mono ⟨_, _, rfl, w2⟩ hw) (StrS.mono ⟨_, _, rfl, hsl23⟩ (hle27z.trans hleK)) (CiS.mono ⟨_, _, rfl, hsl27⟩ hleK) ⟨kcs, ⟨kad, kcap, rfl, hk1⟩, hk2⟩ hok3
  ·
   have hge := of_decide_eq_false hb3
   refine wc_exit ?_
   refine q_then_exit ?_
   refine q_then_exit ?_
   refine q_block_hit ?_
   refine q_then ?_
   refine wc_seq ?_
   refine wc_region ?_
   refine ym rfl rfl ?_
   refine rl_freeze 505 rfl ?_
   intro ad505 cap505 u505 hle505z hsl505
   refine ya rfl rfl ?_
   refine rl_end (ρ' := [(4, _)]) ⟨rfl, trivial⟩ ?_
   refine q_then ?_
   refine wc_ret ?_
   refine finO1 [1000] (.tmp rfl) rfl rfl ?_
   rw [List.take_of_length_le (by omega)] at hacc hYi hsl505
   exact ⟨⟨_, ⟨_, _, by rw [List.take_of_length_le (by omega)], hsl505⟩, hacc.mono hle505z⟩, oi, rfl, hM _ _ _ _ hle505z hYi⟩
end Go.Proofs.Ythkgcakpjknlbaa
namespace Go.Proofs.Ythkgcakpjknlbaa
open Go Go.Eng
set_option linter.unusedSimpArgs false
set_option linter.unusedVariables false
set_option maxRecDepth 4000
def GdB (R : RepI) (kp : Blk → Bool) (bs : List Blk) : Prop := ∀ x ∈ listB bs, R.Gd (lineOf x) ∧ (match x with | .mk _ _ _ _ _ _ a _ _ => a.classes.length ≤ 1000 ∧ a.pairs.length ≤ 1000)
theorem GdB.at {R : RepI} {kp : Blk → Bool} {bs : List Blk} (h : GdB R kp bs) {i : Nat} {k lv : Int} {inf t d ti : Bs} {a : DAttr} {line : List Inl} {kids : List Blk} (hg : bs[i]? = some (.mk k lv inf t d ti a line kids)) :
  R.Gd line ∧ a.classes.length ≤ 1000 ∧ a.pairs.length ≤ 1000 ∧ GdB R kp kids := by
 have hmem : ∀ y ∈ listb (.mk k lv inf t d ti a line kids), y ∈ listB bs := by
  intro y hy
  have : ∀ (bs : List Blk) (i : Nat), bs[i]? = some (.mk k lv inf t d ti a line kids) → y ∈ listB bs := by
   intro bs
   induction bs with
   | nil => intro i h; simp at h
   | cons b bs ih =>
    intro i h
    rw [listB, List.mem_append]
    cases i with
    | zero => simp at h; subst h; exact .inl hy
    | succ i => exact .inr (ih i (by simpa using h))
  exact this bs i hg
 have h0 := h _ (hmem _ (by rw [listb]; exact List.mem_cons_self))
 exact ⟨h0.1, h0.2.1, h0.2.2, fun y hy => h y (hmem y (by rw [listb]; exact List.mem_cons_of_mem _ hy))⟩
def CbK (kp : Blk → Bool) (kf : FuncId) (kc : List Value) : Prop := canCall Tryd.prog kf = true ∧ ∀ u x cs, BlkC u x cs → FnP Tryd.prog kf (.agg cs.toArray :: kc) u fun r _ => r = .bool (kp x)
theorem rebb_eq (kp : Blk → Bool) (g : List Inl → List Inl) (k lv : Int) (inf t d ti : Bs) (a : DAttr) (line : List Inl) (kids : List Blk) : rebb kp g (.mk k lv inf t d ti a line kids) = if kp (.mk k lv inf t d ti a line kids) = true then [.mk k lv inf t d ti a (g line) (rebB kp g kids)] else [] := by rw [rebb]
theorem evRb_eq (kp : Blk → Bool) (g : List Inl → List Inl) (k lv : Int) (inf t d ti : Bs) (a : DAttr) (line : List Inl) (kids : List Blk) : evRb kp g (.mk k lv inf t d ti a line kids) = if kp (.mk k lv inf t d ti a line kids) = true then g line ++ evRB kp g kids else [] := by rw [evRb]
set_option maxHeartbeats 8000000 in
theorem rebuild_fn (R : RepI) (kp : Blk → Bool) (kf : FuncId) (kc : List Value) (hK : CbK kp kf kc) (f : FuncId) (caps : List Value) (b0 : Nat) (Y : YI) (hM : ∀ u u' pre o, VLe u u' → Y u pre o → Y u' pre o) (hcF : canCall Tryd.prog f = true) (n : Nat) :
  ∀ (v : Value) (xs : List Blk) (pre : List Inl) (o : OO) (u : View), szB xs ≤ n → szB xs ≤ 100000 → GdB R kp xs → BlkS u v xs → CbR R (.func (.func f) #[] caps.toArray) b0 u Y → Y u pre o →
   FnO Tryd.prog 36 [v, .func (.func kf) #[] kc.toArray, .func (.func f) #[] caps.toArray] u [(some b0, o)] fun r u' l' => BlkS u' r (rebB kp R.g xs) ∧ ∃ o', l' = [(some b0, o')] ∧ Y u' (pre ++ evRB kp R.ev xs) o' := by
 induction n using Nat.strongRecOn with
 | _ n ih =>
 intro v xs pre o u hsz hbig hgd ha hR hY
 have hlx := len_szB xs
 obtain ⟨hcK, hK2⟩ := hK
 obtain ⟨cs, ⟨ad, cap, rfl, h1⟩, hc1⟩ := ha
 refine FnO.intro [.tmp 6] Tryd.func36 rfl rfl rfl ?_
 intro w0 D hw0
 refine wc_seq ?_
 refine wc_region ?_
 refine ya rfl rfl ?_
 refine rl_end (ρ' := [(0, _), (1, _), (2, _)]) ⟨rfl, rfl, rfl, trivial⟩ ?_
 refine q_then ?_
 refine wc_seq ?_
 refine wc_region ?_
 refine ya rfl rfl ?_
 refine rl_own_nil 7 507 42 11 rfl rfl rfl ?_
 refine rl_end (ρ' := [(0, _), (1, _), (2, _), (7, _)]) ⟨rfl, rfl, rfl, rfl, trivial⟩ ?_
 refine q_then ?_
 refine wc_seq ?_
 refine wc_seq ?_
 refine wc_region ?_
 refine ym rfl rfl ?_
 refine rl_y (y_len_v rfl rfl Tryd.s23 rfl) rfl ?_
 refine ym rfl rfl ?_
 refine rl_end (ρ' := [(1, _), (2, _), (7, _), (10, _), (11, _), (12, _)]) ⟨rfl, rfl, rfl, rfl, rfl, rfl, trivial⟩ ?_
 refine q_then ?_
 refine wc_block ?_
 refine wc_loop (fun m ρ σ u' => ∃ i : Nat, i + m = xs.length ∧ VLe u u' ∧ ∃ (acc : List Value) (oi : OO), σ = [(507, (none, .row 42 11 (rebB kp R.g (xs.take i)).length acc)), (1000, (some b0, oi))] ∧ ρ = [(1, .v (.func (.func kf) #[] kc.toArray)), (2, .v (.func (.func f) #[] caps.toArray)), (7, .s 507), (10, .v (.slice ad xs.length cap)), (11, .v (.int .i64 xs.length)), (12, .v (.int .i64 i))] ∧ (BlksC u' (rebB kp R.g (xs.take i)) acc ∧ Y u' (pre ++ evRB kp R.ev (xs.take i)) oi)) (xs.length) ?_ ?_
 ·
  refine ⟨[(1, _), (2, _), (7, _), (10, _), (11, _), (12, _)], [(507, _), (1000, _)], ⟨rfl, rfl, rfl, rfl, rfl, rfl, trivial⟩, ⟨rfl, rfl, trivial⟩, 0, by omega, VLe.refl _, [], o, (by simp [rebB]), rfl, ?_⟩
  exact ⟨by rw [List.take_zero, rebB]; exact BlksC.nil, by rw [List.take_zero, evRB, List.append_nil]; exact hY⟩
 ·
  rintro m ρ σ u' ⟨i, hi3, hle3, acc, oi, rfl, rfl, ⟨hacc, hYi⟩⟩
  refine wc_seq ?_
  refine wc_region ?_
  refine rl_y (y_lss rfl rfl rfl) rfl ?_
  refine rl_end (ρ' := [(1, _), (2, _), (7, _), (10, _), (11, _), (12, _), (13, _)]) ⟨rfl, rfl, rfl, rfl, rfl, rfl, rfl, trivial⟩ ?_
  refine q_then ?_
  refine wc_seq ?_
  refine wc_cond rfl (fun hb3 => ?_) (fun hb3 => ?_)
  ·
   have hlt : i < xs.length := by have := of_decide_eq_true hb3; omega
   have h1 := h1.mono hle3
   obtain ⟨k, lv, inf, t, d, ti, a, line, kids, vc, vp, vl, vk, hg, hcut1, s1, s2, s3, s4, hok⟩ := (hc1.mono hle3).at hlt
   have hx := (hc1.mono hle3).get i _ hg
   rw [hcut1] at hx
   have oneAll := hx.one
   obtain ⟨hgl, hca, hcp, hgk⟩ := hgd.at hg
   have hbs := rebB_take kp R.g hg
   have hes := evRB_take kp R.ev hg
   rw [rebb_eq] at hbs
   rw [evRb_eq] at hes
   have hszk := szB_kids hg
   have hrl := rebB_len kp R.g (xs.take i)
   have hrk := rebB_len kp R.g kids
   have htl : (xs.take i).length ≤ i := by simp; omega
   have hgll := R.gl line
   have hlll := R.len line hgl
   have hkl := len_szB kids
   refine wc_skip ?_
   refine q_then ?_
   refine wc_seq ?_
   refine wc_block ?_
   refine wc_seq ?_
   refine wc_region ?_
   refine rl_y (y_index_e rfl Tryd.s23 rfl rfl (by assumption) (by first | rfl | omega) (by omega)) rfl ?_
   refine rl_y (y_load_el rfl Tryd.k42 rfl (by assumption) (by omega) (by assumption) (vs := [_, _, _, _, _, _, _, _, _, _, _]) rfl rfl rfl rfl) rfl ?_
   refine rl_do rfl rfl ?_
   refine do_alloc trivial Tryd.z42 rfl rfl rfl ?_
   refine rl_do rfl rfl ?_
   refine do_store_p trivial rfl Tryd.k42 rfl rfl rfl (vs := [_, _, _, _, _, _, _, _, _, _, _]) rfl rfl (by first | rfl | assumption | simp [Value.oneCell', str]) (Nat.le_of_ble_eq_true rfl) rfl ?_
   refine rl_end (ρ' := [(1, _), (2, _), (7, _), (9, _), (10, _), (11, _), (12, _)]) ⟨rfl, rfl, rfl, rfl, rfl, rfl, rfl, trivial⟩ ?_
   refine q_then ?_
   refine wc_seq ?_
   refine wc_seq ?_
   refine wc_region ?_
   refine ym rfl rfl ?_
   refine rl_y (y_load_p rfl Tryd.k42 rfl rfl rfl (vs := [_, _, _, _, _, _, _, _, _, _, _]) rfl rfl rfl) rfl ?_
   refine rl_do rfl rfl ?_
   refine do_call_f (caps := kc) trivial rfl rfl hcK rfl (FnP.mono (hK2 u' _ _ hx) ?_)
   rintro v u1 hle1 rfl
   refine rl_y (y_not rfl rfl) rfl ?_
   refine rl_end (ρ' := [(1, _), (2, _), (7, _), (9, _), (10, _), (11, _), (12, _), (19, _)]) ⟨rfl, rfl, rfl, rfl, rfl, rfl, rfl, rfl, trivial⟩ ?_
   refine q_then ?_
   refine wc_cond rfl (fun hb5 => ?_) (fun hb5 => ?_)
   ·
    have h5 : ¬ kp (.mk k lv inf t d ti a line kids) = true := by simpa using hb5
    rw [if_neg h5, List.append_nil] at hbs hes
    refine wc_exit ?_
    refine q_then_exit ?_
    refine q_block_hit ?_
    refine q_then ?_
    refine wc_region ?_
    refine rl_y (y_add rfl rfl rfl (wrap64_id (by omega))) rfl ?_
    refine ym rfl rfl ?_
    refine rl_end (ρ' := [(1, _), (2, _), (7, _), (10, _), (11, _), (12, _)]) ⟨rfl, rfl, rfl, rfl, rfl, rfl, trivial⟩ ?_
    refine q_thenK ?_
    refine ⟨m - 1, [(1, _), (2, _), (7, _), (10, _), (11, _), (12, _)], [(507, _), (1000, _)], by omega, ⟨rfl, rfl, rfl, rfl, rfl, rfl, trivial⟩, ⟨rfl, rfl, trivial⟩, i + 1, by omega, (by first | exact hle3.trans hlc7 | exact hle3), _, _, (by first | (rw [hbs, List.length_append]; rfl) | (rw [hbs])), (by first | rfl | simp), ?_⟩
    first
     | (refine ⟨?_, ?_⟩; rw [hbs]; exact (hacc.mono hlc7).append (BlksC.one hx7); exact hY7)
     | (refine ⟨?_, ?_⟩; rw [hbs]; exact hacc; rw [hes]; exact hYi)
   ·
    have h5 : kp (.mk k lv inf t d ti a line kids) = true := by simpa using hb5
    rw [if_pos h5] at hbs hes
    refine wc_skip ?_
    refine q_then ?_
    refine wc_cut (fun ρ σ uc7 => ∃ (w1 w2 : Value) (w3 : Option Addr) (w4 : Nat) (w5 : Option Addr) (w6 : Nat) (o7 : OO), VLe u' uc7 ∧ σ = [(9, (none, .box (blkV k lv inf t d ti a.id w1 w2 (.slice w3 (R.g line).length w4) (.slice w5 (rebB kp R.g kids).length w6)))), (507, (none, .row 42 11 (rebB kp R.g (xs.take i)).length acc)), (1000, (some b0, o7))] ∧ ρ = [(1, .v (.func (.func kf) #[] kc.toArray)), (2, .v (.func (.func f) #[] caps.toArray)), (7, .s 507), (9, .p 9 0), (10, .v (.slice ad xs.length cap)), (11, .v (.int .i64 xs.length)), (12, .v (.int .i64 i))] ∧ (BlkC uc7 (.mk k lv inf t d ti a (R.g line) (rebB kp R.g kids)) (blkV k lv inf t d ti a.id w1 w2 (.slice w3 (R.g line).length w4) (.slice w5 (rebB kp R.g kids).length w6)) ∧ Y uc7 (pre ++ evRB kp R.ev (xs.take (i + 1))) o7)) ?_ ?_
    ·
     refine wc_draw Tryd.mixed rfl [] trivial ?_
     refine ra_y (i := 0) rfl (by kernel_rfl) (by kernel_rfl) (by kernel_rfl) (np_then (np_block (np_then (np_then (np_block (np_then (np_finO))))))) (y_field_p rfl Tryd.f42' rfl (by decide) rfl) rfl ?_
     refine ra_y (i := 3) rfl (by kernel_rfl) (by kernel_rfl) (by kernel_rfl) (np_then (np_block (np_then (np_then (np_block (np_then (np_finO))))))) (y_field_p rfl Tryd.f42' rfl (by decide) rfl) rfl ?_
     refine ra_y (i := 5) rfl (by kernel_rfl) (by kernel_rfl) (by kernel_rfl) (np_then (np_block (np_then (np_then (np_block (np_then (np_finO))))))) (y_move rfl rfl) rfl ?_
     refine ra_y (i := 7) rfl (by kernel_rfl) (by kernel_rfl) (by kernel_rfl) (np_then (np_block (np_then (np_then (np_block (np_then (np_finO))))))) (y_field_p rfl Tryd.f42' rfl (by decide) rfl) rfl ?_
     refine ra_y (i := 9) rfl (by kernel_rfl) (by kernel_rfl) (by kernel_rfl) (np_then (np_block (np_then (np_then (np_block (np_then (np_finO))))))) (y_move rfl rfl) rfl ?_
     refine ra_y (i := 10) rfl (by kernel_rfl) (by kernel_rfl) (by kernel_rfl) (np_then (np_block (np_then (np_then (np_block (np_then (np_finO))))))) (y_move rfl rfl) rfl ?_
     refine ra_all (is := [1, 4, 8]) (by kernel_rfl) rfl ?_
     refine raall_cons rfl rfl ?_ ?_
     ·
      refine do_y (y_load_p rfl Tryd.k39 rfl rfl rfl (vs := [_, _, _]) rfl rfl rfl) rfl ?_
      refine ra_all (is := [2, 4, 8]) (by kernel_rfl) rfl ?_
      refine raall_cons rfl rfl ?_ ?_
      ·
       refine do_call (caps := []) trivial rfl rfl Tryd.c51 rfl (FnP.mono (labCopyAttr_fn a _ _ _ (by omega) (by omega) s1 s2) ?_)
       rintro v uA hle0 ⟨vc3, vp3, rfl, ⟨ad5, cap5, rfl, w1⟩, ⟨ad6, cap6, rfl, w2⟩⟩ hleA
       refine ra_all (is := [4, 8]) (by kernel_rfl) rfl ?_
       refine raall_cons rfl rfl ?_ ?_
       ·
        refine do_y (y_load_p rfl Tryd.k40 rfl rfl rfl (vs := [_]) rfl rfl rfl) rfl ?_
        refine ra_all (is := [6, 8]) (by kernel_rfl) rfl ?_
        refine raall_cons rfl rfl ?_ ?_
        ·
         refine do_call_o (caps := []) (ρ' := [(1, _), (2, _), (7, _), (9, _), (10, _), (11, _), (12, _), (22, _), (27, _), (29, _), (30, _)]) [1000] [] trivial rfl rfl rfl Tryd.c52 rfl rfl ⟨rfl, rfl, rfl, rfl, rfl, rfl, rfl, rfl, rfl, rfl, rfl, trivial⟩ rfl rfl rfl (FnO.mono (rebLine_fn R f caps b0 Y hM hcF (R.mm line) vl line _ oi uA (Nat.le_refl _) hgl (s3.mono hleA) ((hR.mono hle3).mono hleA) (hM _ _ _ _ hleA hYi)) ?_)
         rintro v uK l1 hleK ⟨⟨lcs, ⟨lad, lcap, rfl, hl1⟩, hl2⟩, oK, rfl, hYK⟩ -
         refine ⟨⟨fun _ h => h, trivial⟩, ?_⟩
         refine ra_do (i := 8) rfl rfl (by kernel_rfl) ?_
         refine do_y (y_load_p rfl Tryd.k23 rfl rfl rfl (vs := [_]) rfl rfl rfl) rfl ?_
         refine ra_y (i := 12) rfl (by kernel_rfl) (by kernel_rfl) (by kernel_rfl) (np_then (np_block (np_then (np_then (np_block (np_then (np_finO))))))) (y_field_p rfl Tryd.f42' rfl (by decide) rfl) rfl ?_
         refine ra_do (i := 11) rfl rfl (by kernel_rfl) ?_
         refine do_call_o (caps := []) (ρ' := [(1, _), (2, _), (7, _), (9, _), (10, _), (11, _), (12, _), (22, _), (26, _), (32, _)]) [1000] [] trivial rfl rfl rfl Tryd.c36 rfl rfl ⟨rfl, rfl, rfl, rfl, rfl, rfl, rfl, rfl, rfl, rfl, trivial⟩ rfl rfl rfl (FnO.mono (ih (szB kids) (by omega) vk kids _ oK uK (Nat.le_refl _) (by omega) hgk ((s4.mono hleA).mono hleK) (((hR.mono hle3).mono hleA).mono hleK) hYK) ?_)
         rintro v uQ l1 hleQ ⟨⟨kcs, ⟨kad, kcap, rfl, hk1⟩, hk2⟩, oQ, rfl, hYQ⟩ -
         refine ⟨⟨fun _ h => h, trivial⟩, ?_⟩
         refine ra_do (i := 13) rfl rfl (by kernel_rfl) ?_
         refine do_store_p trivial rfl Tryd.k39 rfl rfl rfl (vs := [_, _, _]) rfl rfl (by first | rfl | assumption | simp [Value.oneCell', str]) (Nat.le_of_ble_eq_true rfl) rfl ?_
         refine ra_y (i := 14) rfl (by kernel_rfl) (by kernel_rfl) (by kernel_rfl) (np_then (np_block (np_then (np_then (np_block (np_then (np_finO))))))) (y_field_p rfl Tryd.f42' rfl (by decide) rfl) rfl ?_
         refine ra_do (i := 15) rfl rfl (by kernel_rfl) ?_
         refine do_store_p trivial rfl Tryd.k40 rfl rfl rfl (vs := [_]) rfl rfl (by first | rfl | assumption | simp [Value.oneCell', str]) (Nat.le_of_ble_eq_true rfl) rfl ?_
         refine ra_y (i := 16) rfl (by kernel_rfl) (by kernel_rfl) (by kernel_rfl) (np_then (np_block (np_then (np_then (np_block (np_then (np_finO))))))) (y_field_p rfl Tryd.f42' rfl (by decide) rfl) rfl ?_
         refine ra_do (i := 17) rfl rfl (by kernel_rfl) ?_
         refine do_store_p trivial rfl Tryd.k23 rfl rfl rfl (vs := [_]) rfl rfl (by first | rfl | assumption | simp [Value.oneCell', str]) (Nat.le_of_ble_eq_true rfl) rfl ?_
         refine ra_end (by kernel_rfl) (ρ' := [(1, _), (2, _), (7, _), (9, _), (10, _), (11, _), (12, _)]) ⟨rfl, rfl, rfl, rfl, rfl, rfl, rfl, trivial⟩ ?_
         refine q_thenK ?_
         refine ⟨[(1, _), (2, _), (7, _), (9, _), (10, _), (11, _), (12, _)], [(9, _), (507, _), (1000, _)], ⟨rfl, rfl, rfl, rfl, rfl, rfl, rfl, trivial⟩, ⟨rfl, rfl, rfl, trivial⟩, _, _, lad, lcap, kad, kcap, oQ, (hleA.trans (hleK.trans hleQ)), (by first | rfl | simp), (by first | rfl | (simp only [List.cons.injEq, Prod.mk.injEq, SV.v.injEq, Value.int.injEq, true_and, and_true]; omega) | simp), ?_⟩
         refine ⟨BlkC.mk' (StrS.mono ⟨_, _, rfl, w1⟩ (hleK.trans hleQ)) (PrS.mono ⟨_, _, rfl, w2⟩ (hleK.trans hleQ)) (InlS.mono ⟨lcs, ⟨lad, lcap, rfl, hl1⟩, hl2⟩ hleQ) ⟨kcs, ⟨kad, kcap, rfl, hk1⟩, hk2⟩ (by obtain ⟨o1, o2, o3, o4, o5, o6, o7, o8, o9⟩ := hok; exact ⟨o1, o2, o3, o4, o5, o6, o7, by omega, by omega⟩), by rw [hes]; simpa [List.append_assoc] using hYQ⟩
        refine raall_cons rfl rfl ?_ ?_
        ·
         refine do_y (y_load_p rfl Tryd.k23 rfl rfl rfl (vs := [_]) rfl rfl rfl) rfl ?_
         refine ra_y (i := 12) rfl (by kernel_rfl) (by kernel_rfl) (by kernel_rfl) (np_then (np_block (np_then (np_then (np_block (np_then (np_finO))))))) (y_field_p rfl Tryd.f42' rfl (by decide) rfl) rfl ?_
         refine ra_do (i := 6) rfl rfl (by kernel_rfl) ?_
         refine do_call_o (caps := []) (ρ' := [(1, _), (2, _), (7, _), (9, _), (10, _), (11, _), (12, _), (22, _), (28, _), (29, _), (30, _), (32, _)]) [1000] [] trivial rfl rfl rfl Tryd.c52 rfl rfl ⟨rfl, rfl, rfl, rfl, rfl, rfl, rfl, rfl, rfl, rfl, rfl, rfl, trivial⟩ rfl rfl rfl (FnO.mono (rebLine_fn R f caps b0 Y hM hcF (R.mm line) vl line _ oi uA (Nat.le_refl _) hgl (s3.mono hleA) ((hR.mono hle3).mono hleA) (hM _ _ _ _ hleA hYi)) ?_)
         rintro v uK l1 hleK ⟨⟨lcs, ⟨lad, lcap, rfl, hl1⟩, hl2⟩, oK, rfl, hYK⟩ -
         refine ⟨⟨fun _ h => h, trivial⟩, ?_⟩
         refine ra_do (i := 11) rfl rfl (by kernel_rfl) ?_
         refine do_call_o (caps := []) (ρ' := [(1, _), (2, _), (7, _), (9, _), (10, _), (11, _), (12, _), (22, _), (26, _), (32, _)]) [1000] [] trivial rfl rfl rfl Tryd.c36 rfl rfl ⟨rfl, rfl, rfl, rfl, rfl, rfl, rfl, rfl, rfl, rfl, trivial⟩ rfl rfl rfl (FnO.mono (ih (szB kids) (by omega) vk kids _ oK uK (Nat.le_refl _) (by omega) hgk ((s4.mono hleA).mono hleK) (((hR.mono hle3).mono hleA).mono hleK) hYK) ?_)
         rintro v uQ l1 hleQ ⟨⟨kcs, ⟨kad, kcap, rfl, hk1⟩, hk2⟩, oQ, rfl, hYQ⟩ -
         refine ⟨⟨fun _ h => h, trivial⟩, ?_⟩
         refine ra_do (i := 13) rfl rfl (by kernel_rfl) ?_
         refine do_store_p trivial rfl Tryd.k39 rfl rfl rfl (vs := [_, _, _]) rfl rfl (by first | rfl | assumption | simp [Value.oneCell', str]) (Nat.le_of_ble_eq_true rfl) rfl ?_
         refine ra_y (i := 14) rfl (by kernel_rfl) (by kernel_rfl) (by kernel_rfl) (np_then (np_block (np_then (np_then (np_block (np_then (np_finO))))))) (y_field_p rfl Tryd.f42' rfl (by decide) rfl) rfl ?_
         refine ra_do (i := 15) rfl rfl (by kernel_rfl) ?_
         refine do_store_p trivial rfl Tryd.k40 rfl rfl rfl (vs := [_]) rfl rfl (by first | rfl | assumption | simp [Value.oneCell', str]) (Nat.le_of_ble_eq_true rfl) rfl ?_
         refine ra_y (i := 16) rfl (by kernel_rfl) (by kernel_rfl) (by kernel_rfl) (np_then (np_block (np_then (np_then (np_block (np_then (np_finO))))))) (y_field_p rfl Tryd.f42' rfl (by decide) rfl) rfl ?_
         refine ra_do (i := 17) rfl rfl (by kernel_rfl) ?_
         refine do_store_p trivial rfl Tryd.k23 rfl rfl rfl (vs := [_]) rfl rfl (by first | rfl | assumption | simp [Value.oneCell', str]) (Nat.le_of_ble_eq_true rfl) rfl ?_
         refine ra_end (by kernel_rfl) (ρ' := [(1, _), (2, _), (7, _), (9, _), (10, _), (11, _), (12, _)]) ⟨rfl, rfl, rfl, rfl, rfl, rfl, rfl, trivial⟩ ?_
         refine q_thenK ?_
         refine ⟨[(1, _), (2, _), (7, _), (9, _), (10, _), (11, _), (12, _)], [(9, _), (507, _), (1000, _)], ⟨rfl, rfl, rfl, rfl, rfl, rfl, rfl, trivial⟩, ⟨rfl, rfl, rfl, trivial⟩, _, _, lad, lcap, kad, kcap, oQ, (hleA.trans (hleK.trans hleQ)), (by first | rfl | simp), (by first | rfl | (simp only [List.cons.injEq, Prod.mk.injEq, SV.v.injEq, Value.int.injEq, true_and, and_true]; omega) | simp), ?_⟩
         refine ⟨BlkC.mk' (StrS.mono ⟨_, _, rfl, w1⟩ (hleK.trans hleQ)) (PrS.mono ⟨_, _, rfl, w2⟩ (hleK.trans hleQ)) (InlS.mono ⟨lcs, ⟨lad, lcap, rfl, hl1⟩, hl2⟩ hleQ) ⟨kcs, ⟨kad, kcap, rfl, hk1⟩, hk2⟩ (by obtain ⟨o1, o2, o3, o4, o5, o6, o7, o8, o9⟩ := hok; exact ⟨o1, o2, o3, o4, o5, o6, o7, by omega, by omega⟩), by rw [hes]; simpa [List.append_assoc] using hYQ⟩
        exact raall_nil
       refine raall_cons rfl rfl ?_ ?_
       ·
        refine do_y (y_load_p rfl Tryd.k23 rfl rfl rfl (vs := [_]) rfl rfl rfl) rfl ?_
        refine ra_do (i := 4) rfl rfl (by kernel_rfl) ?_
        refine do_y (y_load_p rfl Tryd.k40 rfl rfl rfl (vs := [_]) rfl rfl rfl) rfl ?_
        refine ra_y (i := 12) rfl (by kernel_rfl) (by kernel_rfl) (by kernel_rfl) (np_then (np_block (np_then (np_then (np_block (np_then (np_finO))))))) (y_field_p rfl Tryd.f42' rfl (by decide) rfl) rfl ?_
        refine ra_do (i := 6) rfl rfl (by kernel_rfl) ?_
        refine do_call_o (caps := []) (ρ' := [(1, _), (2, _), (7, _), (9, _), (10, _), (11, _), (12, _), (22, _), (28, _), (29, _), (30, _), (32, _)]) [1000] [] trivial rfl rfl rfl Tryd.c52 rfl rfl ⟨rfl, rfl, rfl, rfl, rfl, rfl, rfl, rfl, rfl, rfl, rfl, rfl, trivial⟩ rfl rfl rfl (FnO.mono (rebLine_fn R f caps b0 Y hM hcF (R.mm line) vl line _ oi uA (Nat.le_refl _) hgl (s3.mono hleA) ((hR.mono hle3).mono hleA) (hM _ _ _ _ hleA hYi)) ?_)
        rintro v uK l1 hleK ⟨⟨lcs, ⟨lad, lcap, rfl, hl1⟩, hl2⟩, oK, rfl, hYK⟩ -
        refine ⟨⟨fun _ h => h, trivial⟩, ?_⟩
        refine ra_do (i := 11) rfl rfl (by kernel_rfl) ?_
        refine do_call_o (caps := []) (ρ' := [(1, _), (2, _), (7, _), (9, _), (10, _), (11, _), (12, _), (22, _), (26, _), (32, _)]) [1000] [] trivial rfl rfl rfl Tryd.c36 rfl rfl ⟨rfl, rfl, rfl, rfl, rfl, rfl, rfl, rfl, rfl, rfl, trivial⟩ rfl rfl rfl (FnO.mono (ih (szB kids) (by omega) vk kids _ oK uK (Nat.le_refl _) (by omega) hgk ((s4.mono hleA).mono hleK) (((hR.mono hle3).mono hleA).mono hleK) hYK) ?_)
        rintro v uQ l1 hleQ ⟨⟨kcs, ⟨kad, kcap, rfl, hk1⟩, hk2⟩, oQ, rfl, hYQ⟩ -
        refine ⟨⟨fun _ h => h, trivial⟩, ?_⟩
        refine ra_do (i := 13) rfl rfl (by kernel_rfl) ?_
        refine do_store_p trivial rfl Tryd.k39 rfl rfl rfl (vs := [_, _, _]) rfl rfl (by first | rfl | assumption | simp [Value.oneCell', str]) (Nat.le_of_ble_eq_true rfl) rfl ?_
        refine ra_y (i := 14) rfl (by kernel_rfl) (by kernel_rfl) (by kernel_rfl) (np_then (np_block (np_then (np_then (np_block (np_then (np_finO))))))) (y_field_p rfl Tryd.f42' rfl (by decide) rfl) rfl ?_
        refine ra_do (i := 15) rfl rfl (by kernel_rfl) ?_
        refine do_store_p trivial rfl Tryd.k40 rfl rfl rfl (vs := [_]) rfl rfl (by first | rfl | assumption | simp [Value.oneCell', str]) (Nat.le_of_ble_eq_true rfl) rfl ?_
        refine ra_y (i := 16) rfl (by kernel_rfl) (by kernel_rfl) (by kernel_rfl) (np_then (np_block (np_then (np_then (np_block (np_then (np_finO))))))) (y_field_p rfl Tryd.f42' rfl (by decide) rfl) rfl ?_
        refine ra_do (i := 17) rfl rfl (by kernel_rfl) ?_
        refine do_store_p trivial rfl Tryd.k23 rfl rfl rfl (vs := [_]) rfl rfl (by first | rfl | assumption | simp [Value.oneCell', str]) (Nat.le_of_ble_eq_true rfl) rfl ?_
        refine ra_end (by kernel_rfl) (ρ' := [(1, _), (2, _), (7, _), (9, _), (10, _), (11, _), (12, _)]) ⟨rfl, rfl, rfl, rfl, rfl, rfl, rfl, trivial⟩ ?_
        refine q_thenK ?_
        refine ⟨[(1, _), (2, _), (7, _), (9, _), (10, _), (11, _), (12, _)], [(9, _), (507, _), (1000, _)], ⟨rfl, rfl, rfl, rfl, rfl, rfl, rfl, trivial⟩, ⟨rfl, rfl, rfl, trivial⟩, _, _, lad, lcap, kad, kcap, oQ, (hleA.trans (hleK.trans hleQ)), (by first | rfl | simp), (by first | rfl | (simp only [List.cons.injEq, Prod.mk.injEq, SV.v.injEq, Value.int.injEq, true_and, and_true]; omega) | simp), ?_⟩
        refine ⟨BlkC.mk' (StrS.mono ⟨_, _, rfl, w1⟩ (hleK.trans hleQ)) (PrS.mono ⟨_, _, rfl, w2⟩ (hleK.trans hleQ)) (InlS.mono ⟨lcs, ⟨lad, lcap, rfl, hl1⟩, hl2⟩ hleQ) ⟨kcs, ⟨kad, kcap, rfl, hk1⟩, hk2⟩ (by obtain ⟨o1, o2, o3, o4, o5, o6, o7, o8, o9⟩ := hok; exact ⟨o1, o2, o3, o4, o5, o6, o7, by omega, by omega⟩), by rw [hes]; simpa [List.append_assoc] using hYQ⟩
       exact raall_nil
      refine raall_cons rfl rfl ?_ ?_
      ·
       refine do_y (y_load_p rfl Tryd.k40 rfl rfl rfl (vs := [_]) rfl rfl rfl) rfl ?_
       refine ra_all (is := [2, 8]) (by kernel_rfl) rfl ?_
       refine raall_cons rfl rfl ?_ ?_
       ·
        refine do_call (caps := []) trivial rfl rfl Tryd.c51 rfl (FnP.mono (labCopyAttr_fn a _ _ _ (by omega) (by omega) s1 s2) ?_)
        rintro v uA hle0 ⟨vc3, vp3, rfl, ⟨ad5, cap5, rfl, w1⟩, ⟨ad6, cap6, rfl, w2⟩⟩ hleA
        refine ra_all (is := [6, 8]) (by kernel_rfl) rfl ?_
        refine raall_cons rfl rfl ?_ ?_
        ·
         refine do_call_o (caps := []) (ρ' := [(1, _), (2, _), (7, _), (9, _), (10, _), (11, _), (12, _), (22, _), (27, _), (29, _), (30, _)]) [1000] [] trivial rfl rfl rfl Tryd.c52 rfl rfl ⟨rfl, rfl, rfl, rfl, rfl, rfl, rfl, rfl, rfl, rfl, rfl, trivial⟩ rfl rfl rfl (FnO.mono (rebLine_fn R f caps b0 Y hM hcF (R.mm line) vl line _ oi uA (Nat.le_refl _) hgl (s3.mono hleA) ((hR.mono hle3).mono hleA) (hM _ _ _ _ hleA hYi)) ?_)
         rintro v uK l1 hleK ⟨⟨lcs, ⟨lad, lcap, rfl, hl1⟩, hl2⟩, oK, rfl, hYK⟩ -
         refine ⟨⟨fun _ h => h, trivial⟩, ?_⟩
         refine ra_do (i := 8) rfl rfl (by kernel_rfl) ?_
         refine do_y (y_load_p rfl Tryd.k23 rfl rfl rfl (vs := [_]) rfl rfl rfl) rfl ?_
         refine ra_y (i := 12) rfl (by kernel_rfl) (by kernel_rfl) (by kernel_rfl) (np_then (np_block (np_then (np_then (np_block (np_then (np_finO))))))) (y_field_p rfl Tryd.f42' rfl (by decide) rfl) rfl ?_
         refine ra_do (i := 11) rfl rfl (by kernel_rfl) ?_
         refine do_call_o (caps := []) (ρ' := [(1, _), (2, _), (7, _), (9, _), (10, _), (11, _), (12, _), (22, _), (26, _), (32, _)]) [1000] [] trivial rfl rfl rfl Tryd.c36 rfl rfl ⟨rfl, rfl, rfl, rfl, rfl, rfl, rfl, rfl, rfl, rfl, trivial⟩ rfl rfl rfl (FnO.mono (ih (szB kids) (by omega) vk kids _ oK uK (Nat.le_refl _) (by omega) hgk ((s4.mono hleA).mono hleK) (((hR.mono hle3).mono hleA).mono hleK) hYK) ?_)
         rintro v uQ l1 hleQ ⟨⟨kcs, ⟨kad, kcap, rfl, hk1⟩, hk2⟩, oQ, rfl, hYQ⟩ -
         refine ⟨⟨fun _ h => h, trivial⟩, ?_⟩
         refine ra_do (i := 13) rfl rfl (by kernel_rfl) ?_
         refine do_store_p trivial rfl Tryd.k39 rfl rfl rfl (vs := [_, _, _]) rfl rfl (by first | rfl | assumption | simp [Value.oneCell', str]) (Nat.le_of_ble_eq_true rfl) rfl ?_
         refine ra_y (i := 14) rfl (by kernel_rfl) (by kernel_rfl) (by kernel_rfl) (np_then (np_block (np_then (np_then (np_block (np_then (np_finO))))))) (y_field_p rfl Tryd.f42' rfl (by decide) rfl) rfl ?_
         refine ra_do (i := 15) rfl rfl (by kernel_rfl) ?_
         refine do_store_p trivial rfl Tryd.k40 rfl rfl rfl (vs := [_]) rfl rfl (by first | rfl | assumption | simp [Value.oneCell', str]) (Nat.le_of_ble_eq_true rfl) rfl ?_
         refine ra_y (i := 16) rfl (by kernel_rfl) (by kernel_rfl) (by kernel_rfl) (np_then (np_block (np_then (np_then (np_block (np_then (np_finO))))))) (y_field_p rfl Tryd.f42' rfl (by decide) rfl) rfl ?_
         refine ra_do (i := 17) rfl rfl (by kernel_rfl) ?_
         refine do_store_p trivial rfl Tryd.k23 rfl rfl rfl (vs := [_]) rfl rfl (by first | rfl | assumption | simp [Value.oneCell', str]) (Nat.le_of_ble_eq_true rfl) rfl ?_
         refine ra_end (by kernel_rfl) (ρ' := [(1, _), (2, _), (7, _), (9, _), (10, _), (11, _), (12, _)]) ⟨rfl, rfl, rfl, rfl, rfl, rfl, rfl, trivial⟩ ?_
         refine q_thenK ?_
         refine ⟨[(1, _), (2, _), (7, _), (9, _), (10, _), (11, _), (12, _)], [(9, _), (507, _), (1000, _)], ⟨rfl, rfl, rfl, rfl, rfl, rfl, rfl, trivial⟩, ⟨rfl, rfl, rfl, trivial⟩, _, _, lad, lcap, kad, kcap, oQ, (hleA.trans (hleK.trans hleQ)), (by first | rfl | simp), (by first | rfl | (simp only [List.cons.injEq, Prod.mk.injEq, SV.v.injEq, Value.int.injEq, true_and, and_true]; omega) | simp), ?_⟩
         refine ⟨BlkC.mk' (StrS.mono ⟨_, _, rfl, w1⟩ (hleK.trans hleQ)) (PrS.mono ⟨_, _, rfl, w2⟩ (hleK.trans hleQ)) (InlS.mono ⟨lcs, ⟨lad, lcap, rfl, hl1⟩, hl2⟩ hleQ) ⟨kcs, ⟨kad, kcap, rfl, hk1⟩, hk2⟩ (by obtain ⟨o1, o2, o3, o4, o5, o6, o7, o8, o9⟩ := hok; exact ⟨o1, o2, o3, o4, o5, o6, o7, by omega, by omega⟩), by rw [hes]; simpa [List.append_assoc] using hYQ⟩
        refine raall_cons rfl rfl ?_ ?_
        ·
         refine do_y (y_load_p rfl Tryd.k23 rfl rfl rfl (vs := [_]) rfl rfl rfl) rfl ?_
         refine ra_y (i := 12) rfl (by kernel_rfl) (by kernel_rfl) (by kernel_rfl) (np_then (np_block (np_then (np_then (np_block (np_then (np_finO))))))) (y_field_p rfl Tryd.f42' rfl (by decide) rfl) rfl ?_
         refine ra_do (i := 6) rfl rfl (by kernel_rfl) ?_
         refine do_call_o (caps := []) (ρ' := [(1, _), (2, _), (7, _), (9, _), (10, _), (11, _), (12, _), (22, _), (28, _), (29, _), (30, _), (32, _)]) [1000] [] trivial rfl rfl rfl Tryd.c52 rfl rfl ⟨rfl, rfl, rfl, rfl, rfl, rfl, rfl, rfl, rfl, rfl, rfl, rfl, trivial⟩ rfl rfl rfl (FnO.mono (rebLine_fn R f caps b0 Y hM hcF (R.mm line) vl line _ oi uA (Nat.le_refl _) hgl (s3.mono hleA) ((hR.mono hle3).mono hleA) (hM _ _ _ _ hleA hYi)) ?_)
         rintro v uK l1 hleK ⟨⟨lcs, ⟨lad, lcap, rfl, hl1⟩, hl2⟩, oK, rfl, hYK⟩ -
         refine ⟨⟨fun _ h => h, trivial⟩, ?_⟩
         refine ra_do (i := 11) rfl rfl (by kernel_rfl) ?_
         refine do_call_o (caps := []) (ρ' := [(1, _), (2, _), (7, _), (9, _), (10, _), (11, _), (12, _), (22, _), (26, _), (32, _)]) [1000] [] trivial rfl rfl rfl Tryd.c36 rfl rfl ⟨rfl, rfl, rfl, rfl, rfl, rfl, rfl, rfl, rfl, rfl, trivial⟩ rfl rfl rfl (FnO.mono (ih (szB kids) (by omega) vk kids _ oK uK (Nat.le_refl _) (by omega) hgk ((s4.mono hleA).mono hleK) (((hR.mono hle3).mono hleA).mono hleK) hYK) ?_)
         rintro v uQ l1 hleQ ⟨⟨kcs, ⟨kad, kcap, rfl, hk1⟩, hk2⟩, oQ, rfl, hYQ⟩ -
         refine ⟨⟨fun _ h => h, trivial⟩, ?_⟩
         refine ra_do (i := 13) rfl rfl (by kernel_rfl) ?_
         refine do_store_p trivial rfl Tryd.k39 rfl rfl rfl (vs := [_, _, _]) rfl rfl (by first | rfl | assumption | simp [Value.oneCell', str]) (Nat.le_of_ble_eq_true rfl) rfl ?_
         refine ra_y (i := 14) rfl (by kernel_rfl) (by kernel_rfl) (by kernel_rfl) (np_then (np_block (np_then (np_then (np_block (np_then (np_finO))))))) (y_field_p rfl Tryd.f42' rfl (by decide) rfl) rfl ?_
         refine ra_do (i := 15) rfl rfl (by kernel_rfl) ?_
         refine do_store_p trivial rfl Tryd.k40 rfl rfl rfl (vs := [_]) rfl rfl (by first | rfl | assumption | simp [Value.oneCell', str]) (Nat.le_of_ble_eq_true rfl) rfl ?_
         refine ra_y (i := 16) rfl (by kernel_rfl) (by kernel_rfl) (by kernel_rfl) (np_then (np_block (np_then (np_then (np_block (np_then (np_finO))))))) (y_field_p rfl Tryd.f42' rfl (by decide) rfl) rfl ?_
         refine ra_do (i := 17) rfl rfl (by kernel_rfl) ?_
         refine do_store_p trivial rfl Tryd.k23 rfl rfl rfl (vs := [_]) rfl rfl (by first | rfl | assumption | simp [Value.oneCell', str]) (Nat.le_of_ble_eq_true rfl) rfl ?_
         refine ra_end (by kernel_rfl) (ρ' := [(1, _), (2, _), (7, _), (9, _), (10, _), (11, _), (12, _)]) ⟨rfl, rfl, rfl, rfl, rfl, rfl, rfl, trivial⟩ ?_
         refine q_thenK ?_
         refine ⟨[(1, _), (2, _), (7, _), (9, _), (10, _), (11, _), (12, _)], [(9, _), (507, _), (1000, _)], ⟨rfl, rfl, rfl, rfl, rfl, rfl, rfl, trivial⟩, ⟨rfl, rfl, rfl, trivial⟩, _, _, lad, lcap, kad, kcap, oQ, (hleA.trans (hleK.trans hleQ)), (by first | rfl | simp), (by first | rfl | (simp only [List.cons.injEq, Prod.mk.injEq, SV.v.injEq, Value.int.injEq, true_and, and_true]; omega) | simp), ?_⟩
         refine ⟨BlkC.mk' (StrS.mono ⟨_, _, rfl, w1⟩ (hleK.trans hleQ)) (PrS.mono ⟨_, _, rfl, w2⟩ (hleK.trans hleQ)) (InlS.mono ⟨lcs, ⟨lad, lcap, rfl, hl1⟩, hl2⟩ hleQ) ⟨kcs, ⟨kad, kcap, rfl, hk1⟩, hk2⟩ (by obtain ⟨o1, o2, o3, o4, o5, o6, o7, o8, o9⟩ := hok; exact ⟨o1, o2, o3, o4, o5, o6, o7, by omega, by omega⟩), by rw [hes]; simpa [List.append_assoc] using hYQ⟩
        exact raall_nil
       refine raall_cons rfl rfl ?_ ?_
       ·
        refine do_y (y_load_p rfl Tryd.k23 rfl rfl rfl (vs := [_]) rfl rfl rfl) rfl ?_
        refine ra_do (i := 2) rfl rfl (by kernel_rfl) ?_
        refine do_call (caps := []) trivial rfl rfl Tryd.c51 rfl (FnP.mono (labCopyAttr_fn a _ _ _ (by omega) (by omega) s1 s2) ?_)
        rintro v uA hle0 ⟨vc3, vp3, rfl, ⟨ad5, cap5, rfl, w1⟩, ⟨ad6, cap6, rfl, w2⟩⟩ hleA
        refine ra_y (i := 12) rfl (by kernel_rfl) (by kernel_rfl) (by kernel_rfl) (np_then (np_block (np_then (np_then (np_block (np_then (np_finO))))))) (y_field_p rfl Tryd.f42' rfl (by decide) rfl) rfl ?_
        refine ra_do (i := 6) rfl rfl (by kernel_rfl) ?_
        refine do_call_o (caps := []) (ρ' := [(1, _), (2, _), (7, _), (9, _), (10, _), (11, _), (12, _), (22, _), (28, _), (29, _), (30, _), (32, _)]) [1000] [] trivial rfl rfl rfl Tryd.c52 rfl rfl ⟨rfl, rfl, rfl, rfl, rfl, rfl, rfl, rfl, rfl, rfl, rfl, rfl, trivial⟩ rfl rfl rfl (FnO.mono (rebLine_fn R f caps b0 Y hM hcF (R.mm line) vl line _ oi uA (Nat.le_refl _) hgl (s3.mono hleA) ((hR.mono hle3).mono hleA) (hM _ _ _ _ hleA hYi)) ?_)
        rintro v uK l1 hleK ⟨⟨lcs, ⟨lad, lcap, rfl, hl1⟩, hl2⟩, oK, rfl, hYK⟩ -
        refine ⟨⟨fun _ h => h, trivial⟩, ?_⟩
        refine ra_do (i := 11) rfl rfl (by kernel_rfl) ?_
        refine do_call_o (caps := []) (ρ' := [(1, _), (2, _), (7, _), (9, _), (10, _), (11, _), (12, _), (22, _), (26, _), (32, _)]) [1000] [] trivial rfl rfl rfl Tryd.c36 rfl rfl ⟨rfl, rfl, rfl, rfl, rfl, rfl, rfl, rfl, rfl, rfl, trivial⟩ rfl rfl rfl (FnO.mono (ih (szB kids) (by omega) vk kids _ oK uK (Nat.le_refl _) (by omega) hgk ((s4.mono hleA).mono hleK) (((hR.mono hle3).mono hleA).mono hleK) hYK) ?_)
        rintro v uQ l1 hleQ ⟨⟨kcs, ⟨kad, kcap, rfl, hk1⟩, hk2⟩, oQ, rfl, hYQ⟩ -
        refine ⟨⟨fun _ h => h, trivial⟩, ?_⟩
        refine ra_do (i := 13) rfl rfl (by kernel_rfl) ?_
        refine do_store_p trivial rfl Tryd.k39 rfl rfl rfl (vs := [_, _, _]) rfl rfl (by first | rfl | assumption | simp [Value.oneCell', str]) (Nat.le_of_ble_eq_true rfl) rfl ?_
        refine ra_y (i := 14) rfl (by kernel_rfl) (by kernel_rfl) (by kernel_rfl) (np_then (np_block (np_then (np_then (np_block (np_then (np_finO))))))) (y_field_p rfl Tryd.f42' rfl (by decide) rfl) rfl ?_
        refine ra_do (i := 15) rfl rfl (by kernel_rfl) ?_
        refine do_store_p trivial rfl Tryd.k40 rfl rfl rfl (vs := [_]) rfl rfl (by first | rfl | assumption | simp [Value.oneCell', str]) (Nat.le_of_ble_eq_true rfl) rfl ?_
        refine ra_y (i := 16) rfl (by kernel_rfl) (by kernel_rfl) (by kernel_rfl) (np_then (np_block (np_then (np_then (np_block (np_then (np_finO))))))) (y_field_p rfl Tryd.f42' rfl (by decide) rfl) rfl ?_
        refine ra_do (i := 17) rfl rfl (by kernel_rfl) ?_
        refine do_store_p trivial rfl Tryd.k23 rfl rfl rfl (vs := [_]) rfl rfl (by first | rfl | assumption | simp [Value.oneCell', str]) (Nat.le_of_ble_eq_true rfl) rfl ?_
        refine ra_end (by kernel_rfl) (ρ' := [(1, _), (2, _), (7, _), (9, _), (10, _), (11, _), (12, _)]) ⟨rfl, rfl, rfl, rfl, rfl, rfl, rfl, trivial⟩ ?_
        refine q_thenK ?_
        refine ⟨[(1, _), (2, _), (7, _), (9, _), (10, _), (11, _), (12, _)], [(9, _), (507, _), (1000, _)], ⟨rfl, rfl, rfl, rfl, rfl, rfl, rfl, trivial⟩, ⟨rfl, rfl, rfl, trivial⟩, _, _, lad, lcap, kad, kcap, oQ, (hleA.trans (hleK.trans hleQ)), (by first | rfl | simp), (by first | rfl | (simp only [List.cons.injEq, Prod.mk.injEq, SV.v.injEq, Value.int.injEq, true_and, and_true]; omega) | simp), ?_⟩
        refine ⟨BlkC.mk' (StrS.mono ⟨_, _, rfl, w1⟩ (hleK.trans hleQ)) (PrS.mono ⟨_, _, rfl, w2⟩ (hleK.trans hleQ)) (InlS.mono ⟨lcs, ⟨lad, lcap, rfl, hl1⟩, hl2⟩ hleQ) ⟨kcs, ⟨kad, kcap, rfl, hk1⟩, hk2⟩ (by obtain ⟨o1, o2, o3, o4, o5, o6, o7, o8, o9⟩ := hok; exact ⟨o1, o2, o3, o4, o5, o6, o7, by omega, by omega⟩), by rw [hes]; simpa [List.append_assoc] using hYQ⟩
       exact raall_nil
      refine raall_cons rfl rfl ?_ ?_
      ·
       refine do_y (y_load_p rfl Tryd.k23 rfl rfl rfl (vs := [_]) rfl rfl rfl) rfl ?_
       refine ra_all (is := [2, 4]) (by kernel_rfl) rfl ?_
       refine raall_cons rfl rfl ?_ ?_
       ·
        refine do_call (caps := []) trivial rfl rfl Tryd.c51 rfl (FnP.mono (labCopyAttr_fn a _ _ _ (by omega) (by omega) s1 s2) ?_)
        rintro v uA hle0 ⟨vc3, vp3, rfl, ⟨ad5, cap5, rfl, w1⟩, ⟨ad6, cap6, rfl, w2⟩⟩ hleA
        refine ra_do (i := 4) rfl rfl (by kernel_rfl) ?_
        refine do_y (y_load_p rfl Tryd.k40 rfl rfl rfl (vs := [_]) rfl rfl rfl) rfl ?_
        refine ra_y (i := 12) rfl (by kernel_rfl) (by kernel_rfl) (by kernel_rfl) (np_then (np_block (np_then (np_then (np_block (np_then (np_finO))))))) (y_field_p rfl Tryd.f42' rfl (by decide) rfl) rfl ?_
        refine ra_do (i := 6) rfl rfl (by kernel_rfl) ?_
        refine do_call_o (caps := []) (ρ' := [(1, _), (2, _), (7, _), (9, _), (10, _), (11, _), (12, _), (22, _), (28, _), (29, _), (30, _), (32, _)]) [1000] [] trivial rfl rfl rfl Tryd.c52 rfl rfl ⟨rfl, rfl, rfl, rfl, rfl, rfl, rfl, rfl, rfl, rfl, rfl, rfl, trivial⟩ rfl rfl rfl (FnO.mono (rebLine_fn R f caps b0 Y hM hcF (R.mm line) vl line _ oi uA (Nat.le_refl _) hgl (s3.mono hleA) ((hR.mono hle3).mono hleA) (hM _ _ _ _ hleA hYi)) ?_)
        rintro v uK l1 hleK ⟨⟨lcs, ⟨lad, lcap, rfl, hl1⟩, hl2⟩, oK, rfl, hYK⟩ -
        refine ⟨⟨fun _ h => h, trivial⟩, ?_⟩
        refine ra_do (i := 11) rfl rfl (by kernel_rfl) ?_
        refine do_call_o (caps := []) (ρ' := [(1, _), (2, _), (7, _), (9, _), (10, _), (11, _), (12, _), (22, _), (26, _), (32, _)]) [1000] [] trivial rfl rfl rfl Tryd.c36 rfl rfl ⟨rfl, rfl, rfl, rfl, rfl, rfl, rfl, rfl, rfl, rfl, trivial⟩ rfl rfl rfl (FnO.mono (ih (szB kids) (by omega) vk kids _ oK uK (Nat.le_refl _) (by omega) hgk ((s4.mono hleA).mono hleK) (((hR.mono hle3).mono hleA).mono hleK) hYK) ?_)
        rintro v uQ l1 hleQ ⟨⟨kcs, ⟨kad, kcap, rfl, hk1⟩, hk2⟩, oQ, rfl, hYQ⟩ -
        refine ⟨⟨fun _ h => h, trivial⟩, ?_⟩
        refine ra_do (i := 13) rfl rfl (by kernel_rfl) ?_
        refine do_store_p trivial rfl Tryd.k39 rfl rfl rfl (vs := [_, _, _]) rfl rfl (by first | rfl | assumption | simp [Value.oneCell', str]) (Nat.le_of_ble_eq_true rfl) rfl ?_
        refine ra_y (i := 14) rfl (by kernel_rfl) (by kernel_rfl) (by kernel_rfl) (np_then (np_block (np_then (np_then (np_block (np_then (np_finO))))))) (y_field_p rfl Tryd.f42' rfl (by decide) rfl) rfl ?_
        refine ra_do (i := 15) rfl rfl (by kernel_rfl) ?_
        refine do_store_p trivial rfl Tryd.k40 rfl rfl rfl (vs := [_]) rfl rfl (by first | rfl | assumption | simp [Value.oneCell', str]) (Nat.le_of_ble_eq_true rfl) rfl ?_
        refine ra_y (i := 16) rfl (by kernel_rfl) (by kernel_rfl) (by kernel_rfl) (np_then (np_block (np_then (np_then (np_block (np_then (np_finO))))))) (y_field_p rfl Tryd.f42' rfl (by decide) rfl) rfl ?_
        refine ra_do (i := 17) rfl rfl (by kernel_rfl) ?_
        refine do_store_p trivial rfl Tryd.k23 rfl rfl rfl (vs := [_]) rfl rfl (by first | rfl | assumption | simp [Value.oneCell', str]) (Nat.le_of_ble_eq_true rfl) rfl ?_
        refine ra_end (by kernel_rfl) (ρ' := [(1, _), (2, _), (7, _), (9, _), (10, _), (11, _), (12, _)]) ⟨rfl, rfl, rfl, rfl, rfl, rfl, rfl, trivial⟩ ?_
        refine q_thenK ?_
        refine ⟨[(1, _), (2, _), (7, _), (9, _), (10, _), (11, _), (12, _)], [(9, _), (507, _), (1000, _)], ⟨rfl, rfl, rfl, rfl, rfl, rfl, rfl, trivial⟩, ⟨rfl, rfl, rfl, trivial⟩, _, _, lad, lcap, kad, kcap, oQ, (hleA.trans (hleK.trans hleQ)), (by first | rfl | simp), (by first | rfl | (simp only [List.cons.injEq, Prod.mk.injEq, SV.v.injEq, Value.int.injEq, true_and, and_true]; omega) | simp), ?_⟩
        refine ⟨BlkC.mk' (StrS.mono ⟨_, _, rfl, w1⟩ (hleK.trans hleQ)) (PrS.mono ⟨_, _, rfl, w2⟩ (hleK.trans hleQ)) (InlS.mono ⟨lcs, ⟨lad, lcap, rfl, hl1⟩, hl2⟩ hleQ) ⟨kcs, ⟨kad, kcap, rfl, hk1⟩, hk2⟩ (by obtain ⟨o1, o2, o3, o4, o5, o6, o7, o8, o9⟩ := hok; exact ⟨o1, o2, o3, o4, o5, o6, o7, by omega, by omega⟩), by rw [hes]; simpa [List.append_assoc] using hYQ⟩
       refine raall_cons rfl rfl ?_ ?_
       ·
        refine do_y (y_load_p rfl Tryd.k40 rfl rfl rfl (vs := [_]) rfl rfl rfl) rfl ?_
        refine ra_do (i := 2) rfl rfl (by kernel_rfl) ?_
        refine do_call (caps := []) trivial rfl rfl Tryd.c51 rfl (FnP.mono (labCopyAttr_fn a _ _ _ (by omega) (by omega) s1 s2) ?_)
        rintro v uA hle0 ⟨vc3, vp3, rfl, ⟨ad5, cap5, rfl, w1⟩, ⟨ad6, cap6, rfl, w2⟩⟩ hleA
        refine ra_y (i := 12) rfl (by kernel_rfl) (by kernel_rfl) (by kernel_rfl) (np_then (np_block (np_then (np_then (np_block (np_then (np_finO))))))) (y_field_p rfl Tryd.f42' rfl (by decide) rfl) rfl ?_
        refine ra_do (i := 6) rfl rfl (by kernel_rfl) ?_
        refine do_call_o (caps := []) (ρ' := [(1, _), (2, _), (7, _), (9, _), (10, _), (11, _), (12, _), (22, _), (28, _), (29, _), (30, _), (32, _)]) [1000] [] trivial rfl rfl rfl Tryd.c52 rfl rfl ⟨rfl, rfl, rfl, rfl, rfl, rfl, rfl, rfl, rfl, rfl, rfl, rfl, trivial⟩ rfl rfl rfl (FnO.mono (rebLine_fn R f caps b0 Y hM hcF (R.mm line) vl line _ oi uA (Nat.le_refl _) hgl (s3.mono hleA) ((hR.mono hle3).mono hleA) (hM _ _ _ _ hleA hYi)) ?_)
        rintro v uK l1 hleK ⟨⟨lcs, ⟨lad, lcap, rfl, hl1⟩, hl2⟩, oK, rfl, hYK⟩ -
        refine ⟨⟨fun _ h => h, trivial⟩, ?_⟩
        refine ra_do (i := 11) rfl rfl (by kernel_rfl) ?_
        refine do_call_o (caps := []) (ρ' := [(1, _), (2, _), (7, _), (9, _), (10, _), (11, _), (12, _), (22, _), (26, _), (32, _)]) [1000] [] trivial rfl rfl rfl Tryd.c36 rfl rfl ⟨rfl, rfl, rfl, rfl, rfl, rfl, rfl, rfl, rfl, rfl, trivial⟩ rfl rfl rfl (FnO.mono (ih (szB kids) (by omega) vk kids _ oK uK (Nat.le_refl _) (by omega) hgk ((s4.mono hleA).mono hleK) (((hR.mono hle3).mono hleA).mono hleK) hYK) ?_)
        rintro v uQ l1 hleQ ⟨⟨kcs, ⟨kad, kcap, rfl, hk1⟩, hk2⟩, oQ, rfl, hYQ⟩ -
        refine ⟨⟨fun _ h => h, trivial⟩, ?_⟩
        refine ra_do (i := 13) rfl rfl (by kernel_rfl) ?_
        refine do_store_p trivial rfl Tryd.k39 rfl rfl rfl (vs := [_, _, _]) rfl rfl (by first | rfl | assumption | simp [Value.oneCell', str]) (Nat.le_of_ble_eq_true rfl) rfl ?_
        refine ra_y (i := 14) rfl (by kernel_rfl) (by kernel_rfl) (by kernel_rfl) (np_then (np_block (np_then (np_then (np_block (np_then (np_finO))))))) (y_field_p rfl Tryd.f42' rfl (by decide) rfl) rfl ?_
        refine ra_do (i := 15) rfl rfl (by kernel_rfl) ?_
        refine do_store_p trivial rfl Tryd.k40 rfl rfl rfl (vs := [_]) rfl rfl (by first | rfl | assumption | simp [Value.oneCell', str]) (Nat.le_of_ble_eq_true rfl) rfl ?_
        refine ra_y (i := 16) rfl (by kernel_rfl) (by kernel_rfl) (by kernel_rfl) (np_then (np_block (np_then (np_then (np_block (np_then (np_finO))))))) (y_field_p rfl Tryd.f42' rfl (by decide) rfl) rfl ?_
        refine ra_do (i := 17) rfl rfl (by kernel_rfl) ?_
        refine do_store_p trivial rfl Tryd.k23 rfl rfl rfl (vs := [_]) rfl rfl (by first | rfl | assumption | simp [Value.oneCell', str]) (Nat.le_of_ble_eq_true rfl) rfl ?_
        refine ra_end (by kernel_rfl) (ρ' := [(1, _), (2, _), (7, _), (9, _), (10, _), (11, _), (12, _)]) ⟨rfl, rfl, rfl, rfl, rfl, rfl, rfl, trivial⟩ ?_
        refine q_thenK ?_
        refine ⟨[(1, _), (2, _), (7, _), (9, _), (10, _), (11, _), (12, _)], [(9, _), (507, _), (1000, _)], ⟨rfl, rfl, rfl, rfl, rfl, rfl, rfl, trivial⟩, ⟨rfl, rfl, rfl, trivial⟩, _, _, lad, lcap, kad, kcap, oQ, (hleA.trans (hleK.trans hleQ)), (by first | rfl | simp), (by first | rfl | (simp only [List.cons.injEq, Prod.mk.injEq, SV.v.injEq, Value.int.injEq, true_and, and_true]; omega) | simp), ?_⟩
        refine ⟨BlkC.mk' (StrS.mono ⟨_, _, rfl, w1⟩ (hleK.trans hleQ)) (PrS.mono ⟨_, _, rfl, w2⟩ (hleK.trans hleQ)) (InlS.mono ⟨lcs, ⟨lad, lcap, rfl, hl1⟩, hl2⟩ hleQ) ⟨kcs, ⟨kad, kcap, rfl, hk1⟩, hk2⟩ (by obtain ⟨o1, o2, o3, o4, o5, o6, o7, o8, o9⟩ := hok; exact ⟨o1, o2, o3, o4, o5, o6, o7, by omega, by omega⟩), by rw [hes]; simpa [List.append_assoc] using hYQ⟩
       exact raall_nil
      exact raall_nil
     refine raall_cons rfl rfl ?_ ?_
     ·
      refine do_y (y_load_p rfl Tryd.k40 rfl rfl rfl (vs := [_]) rfl rfl rfl) rfl ?_
      refine ra_all (is := [1, 8]) (by kernel_rfl) rfl ?_
      refine raall_cons rfl rfl ?_ ?_
      ·
       refine do_y (y_load_p rfl Tryd.k39 rfl rfl rfl (vs := [_, _, _]) rfl rfl rfl) rfl ?_
       refine ra_all (is := [2, 8]) (by kernel_rfl) rfl ?_
       refine raall_cons rfl rfl ?_ ?_
       ·
        refine do_call (caps := []) trivial rfl rfl Tryd.c51 rfl (FnP.mono (labCopyAttr_fn a _ _ _ (by omega) (by omega) s1 s2) ?_)
        rintro v uA hle0 ⟨vc3, vp3, rfl, ⟨ad5, cap5, rfl, w1⟩, ⟨ad6, cap6, rfl, w2⟩⟩ hleA
        refine ra_all (is := [6, 8]) (by kernel_rfl) rfl ?_
        refine raall_cons rfl rfl ?_ ?_
        ·
         refine do_call_o (caps := []) (ρ' := [(1, _), (2, _), (7, _), (9, _), (10, _), (11, _), (12, _), (22, _), (27, _), (29, _), (30, _)]) [1000] [] trivial rfl rfl rfl Tryd.c52 rfl rfl ⟨rfl, rfl, rfl, rfl, rfl, rfl, rfl, rfl, rfl, rfl, rfl, trivial⟩ rfl rfl rfl (FnO.mono (rebLine_fn R f caps b0 Y hM hcF (R.mm line) vl line _ oi uA (Nat.le_refl _) hgl (s3.mono hleA) ((hR.mono hle3).mono hleA) (hM _ _ _ _ hleA hYi)) ?_)
         rintro v uK l1 hleK ⟨⟨lcs, ⟨lad, lcap, rfl, hl1⟩, hl2⟩, oK, rfl, hYK⟩ -
         refine ⟨⟨fun _ h => h, trivial⟩, ?_⟩
         refine ra_do (i := 8) rfl rfl (by kernel_rfl) ?_
         refine do_y (y_load_p rfl Tryd.k23 rfl rfl rfl (vs := [_]) rfl rfl rfl) rfl ?_
         refine ra_y (i := 12) rfl (by kernel_rfl) (by kernel_rfl) (by kernel_rfl) (np_then (np_block (np_then (np_then (np_block (np_then (np_finO))))))) (y_field_p rfl Tryd.f42' rfl (by decide) rfl) rfl ?_
         refine ra_do (i := 11) rfl rfl (by kernel_rfl) ?_
         refine do_call_o (caps := []) (ρ' := [(1, _), (2, _), (7, _), (9, _), (10, _), (11, _), (12, _), (22, _), (26, _), (32, _)]) [1000] [] trivial rfl rfl rfl Tryd.c36 rfl rfl ⟨rfl, rfl, rfl, rfl, rfl, rfl, rfl, rfl, rfl, rfl, trivial⟩ rfl rfl rfl (FnO.mono (ih (szB kids) (by omega) vk kids _ oK uK (Nat.le_refl _) (by omega) hgk ((s4.mono hleA).mono hleK) (((hR.mono hle3).mono hleA).mono hleK) hYK) ?_)
         rintro v uQ l1 hleQ ⟨⟨kcs, ⟨kad, kcap, rfl, hk1⟩, hk2⟩, oQ, rfl, hYQ⟩ -
         refine ⟨⟨fun _ h => h, trivial⟩, ?_⟩
         refine ra_do (i := 13) rfl rfl (by kernel_rfl) ?_
         refine do_store_p trivial rfl Tryd.k39 rfl rfl rfl (vs := [_, _, _]) rfl rfl (by first | rfl | assumption | simp [Value.oneCell', str]) (Nat.le_of_ble_eq_true rfl) rfl ?_
         refine ra_y (i := 14) rfl (by kernel_rfl) (by kernel_rfl) (by kernel_rfl) (np_then (np_block (np_then (np_then (np_block (np_then (np_finO))))))) (y_field_p rfl Tryd.f42' rfl (by decide) rfl) rfl ?_
         refine ra_do (i := 15) rfl rfl (by kernel_rfl) ?_
         refine do_store_p trivial rfl Tryd.k40 rfl rfl rfl (vs := [_]) rfl rfl (by first | rfl | assumption | simp [Value.oneCell', str]) (Nat.le_of_ble_eq_true rfl) rfl ?_
         refine ra_y (i := 16) rfl (by kernel_rfl) (by kernel_rfl) (by kernel_rfl) (np_then (np_block (np_then (np_then (np_block (np_then (np_finO))))))) (y_field_p rfl Tryd.f42' rfl (by decide) rfl) rfl ?_
         refine ra_do (i := 17) rfl rfl (by kernel_rfl) ?_
         refine do_store_p trivial rfl Tryd.k23 rfl rfl rfl (vs := [_]) rfl rfl (by first | rfl | assumption | simp [Value.oneCell', str]) (Nat.le_of_ble_eq_true rfl) rfl ?_
         refine ra_end (by kernel_rfl) (ρ' := [(1, _), (2, _), (7, _), (9, _), (10, _), (11, _), (12, _)]) ⟨rfl, rfl, rfl, rfl, rfl, rfl, rfl, trivial⟩ ?_
         refine q_thenK ?_
         refine ⟨[(1, _), (2, _), (7, _), (9, _), (10, _), (11, _), (12, _)], [(9, _), (507, _), (1000, _)], ⟨rfl, rfl, rfl, rfl, rfl, rfl, rfl, trivial⟩, ⟨rfl, rfl, rfl, trivial⟩, _, _, lad, lcap, kad, kcap, oQ, (hleA.trans (hleK.trans hleQ)), (by first | rfl | simp), (by first | rfl | (simp only [List.cons.injEq, Prod.mk.injEq, SV.v.injEq, Value.int.injEq, true_and, and_true]; omega) | simp), ?_⟩
         refine ⟨BlkC.mk' (StrS.mono ⟨_, _, rfl, w1⟩ (hleK.trans hleQ)) (PrS.mono ⟨_, _, rfl, w2⟩ (hleK.trans hleQ)) (InlS.mono ⟨lcs, ⟨lad, lcap, rfl, hl1⟩, hl2⟩ hleQ) ⟨kcs, ⟨kad, kcap, rfl, hk1⟩, hk2⟩ (by obtain ⟨o1, o2, o3, o4, o5, o6, o7, o8, o9⟩ := hok; exact ⟨o1, o2, o3, o4, o5, o6, o7, by omega, by omega⟩), by rw [hes]; simpa [List.append_assoc] using hYQ⟩
        refine raall_cons rfl rfl ?_ ?_
        ·
         refine do_y (y_load_p rfl Tryd.k23 rfl rfl rfl (vs := [_]) rfl rfl rfl) rfl ?_
         refine ra_y (i := 12) rfl (by kernel_rfl) (by kernel_rfl) (by kernel_rfl) (np_then (np_block (np_then (np_then (np_block (np_then (np_finO))))))) (y_field_p rfl Tryd.f42' rfl (by decide) rfl) rfl ?_
         refine ra_do (i := 6) rfl rfl (by kernel_rfl) ?_
         refine do_call_o (caps := []) (ρ' := [(1, _), (2, _), (7, _), (9, _), (10, _), (11, _), (12, _), (22, _), (28, _), (29, _), (30, _), (32, _)]) [1000] [] trivial rfl rfl rfl Tryd.c52 rfl rfl ⟨rfl, rfl, rfl, rfl, rfl, rfl, rfl, rfl, rfl, rfl, rfl, rfl, trivial⟩ rfl rfl rfl (FnO.mono (rebLine_fn R f caps b0 Y hM hcF (R.mm line) vl line _ oi uA (Nat.le_refl _) hgl (s3.mono hleA) ((hR.mono hle3).mono hleA) (hM _ _ _ _ hleA hYi)) ?_)
         rintro v uK l1 hleK ⟨⟨lcs, ⟨lad, lcap, rfl, hl1⟩, hl2⟩, oK, rfl, hYK⟩ -
         refine ⟨⟨fun _ h => h, trivial⟩, ?_⟩
         refine ra_do (i := 11) rfl rfl (by kernel_rfl) ?_
         refine do_call_o (caps := []) (ρ' := [(1, _), (2, _), (7, _), (9, _), (10, _), (11, _), (12, _), (22, _), (26, _), (32, _)]) [1000] [] trivial rfl rfl rfl Tryd.c36 rfl rfl ⟨rfl, rfl, rfl, rfl, rfl, rfl, rfl, rfl, rfl, rfl, trivial⟩ rfl rfl rfl (FnO.mono (ih (szB kids) (by omega) vk kids _ oK uK (Nat.le_refl _) (by omega) hgk ((s4.mono hleA).mono hleK) (((hR.mono hle3).mono hleA).mono hleK) hYK) ?_)
         rintro v uQ l1 hleQ ⟨⟨kcs, ⟨kad, kcap, rfl, hk1⟩, hk2⟩, oQ, rfl, hYQ⟩ -
         refine ⟨⟨fun _ h => h, trivial⟩, ?_⟩
         refine ra_do (i := 13) rfl rfl (by kernel_rfl) ?_
         refine do_store_p trivial rfl Tryd.k39 rfl rfl rfl (vs := [_, _, _]) rfl rfl (by first | rfl | assumption | simp [Value.oneCell', str]) (Nat.le_of_ble_eq_true rfl) rfl ?_
         refine ra_y (i := 14) rfl (by kernel_rfl) (by kernel_rfl) (by kernel_rfl) (np_then (np_block (np_then (np_then (np_block (np_then (np_finO))))))) (y_field_p rfl Tryd.f42' rfl (by decide) rfl) rfl ?_
         refine ra_do (i := 15) rfl rfl (by kernel_rfl) ?_
         refine do_store_p trivial rfl Tryd.k40 rfl rfl rfl (vs := [_]) rfl rfl (by first | rfl | assumption | simp [Value.oneCell', str]) (Nat.le_of_ble_eq_true rfl) rfl ?_
         refine ra_y (i := 16) rfl (by kernel_rfl) (by kernel_rfl) (by kernel_rfl) (np_then (np_block (np_then (np_then (np_block (np_then (np_finO))))))) (y_field_p rfl Tryd.f42' rfl (by decide) rfl) rfl ?_
         refine ra_do (i := 17) rfl rfl (by kernel_rfl) ?_
         refine do_store_p trivial rfl Tryd.k23 rfl rfl rfl (vs := [_]) rfl rfl (by first | rfl | assumption | simp [Value.oneCell', str]) (Nat.le_of_ble_eq_true rfl) rfl ?_
         refine ra_end (by kernel_rfl) (ρ' := [(1, _), (2, _), (7, _), (9, _), (10, _), (11, _), (12, _)]) ⟨rfl, rfl, rfl, rfl, rfl, rfl, rfl, trivial⟩ ?_
         refine q_thenK ?_
         refine ⟨[(1, _), (2, _), (7, _), (9, _), (10, _), (11, _), (12, _)], [(9, _), (507, _), (1000, _)], ⟨rfl, rfl, rfl, rfl, rfl, rfl, rfl, trivial⟩, ⟨rfl, rfl, rfl, trivial⟩, _, _, lad, lcap, kad, kcap, oQ, (hleA.trans (hleK.trans hleQ)), (by first | rfl | simp), (by first | rfl | (simp only [List.cons.injEq, Prod.mk.injEq, SV.v.injEq, Value.int.injEq, true_and, and_true]; omega) | simp), ?_⟩
         refine ⟨BlkC.mk' (StrS.mono ⟨_, _, rfl, w1⟩ (hleK.trans hleQ)) (PrS.mono ⟨_, _, rfl, w2⟩ (hleK.trans hleQ)) (InlS.mono ⟨lcs, ⟨lad, lcap, rfl, hl1⟩, hl2⟩ hleQ) ⟨kcs, ⟨kad, kcap, rfl, hk1⟩, hk2⟩ (by obtain ⟨o1, o2, o3, o4, o5, o6, o7, o8, o9⟩ := hok; exact ⟨o1, o2, o3, o4, o5, o6, o7, by omega, by omega⟩), by rw [hes]; simpa [List.append_assoc] using hYQ⟩
        exact raall_nil
       refine raall_cons rfl rfl ?_ ?_
       ·
        refine do_y (y_load_p rfl Tryd.k23 rfl rfl rfl (vs := [_]) rfl rfl rfl) rfl ?_
        refine ra_do (i := 2) rfl rfl (by kernel_rfl) ?_
        refine do_call (caps := []) trivial rfl rfl Tryd.c51 rfl (FnP.mono (labCopyAttr_fn a _ _ _ (by omega) (by omega) s1 s2) ?_)
        rintro v uA hle0 ⟨vc3, vp3, rfl, ⟨ad5, cap5, rfl, w1⟩, ⟨ad6, cap6, rfl, w2⟩⟩ hleA
        refine ra_y (i := 12) rfl (by kernel_rfl) (by kernel_rfl) (by kernel_rfl) (np_then (np_block (np_then (np_then (np_block (np_then (np_finO))))))) (y_field_p rfl Tryd.f42' rfl (by decide) rfl) rfl ?_
        refine ra_do (i := 6) rfl rfl (by kernel_rfl) ?_
        refine do_call_o (caps := []) (ρ' := [(1, _), (2, _), (7, _), (9, _), (10, _), (11, _), (12, _), (22, _), (28, _), (29, _), (30, _), (32, _)]) [1000] [] trivial rfl rfl rfl Tryd.c52 rfl rfl ⟨rfl, rfl, rfl, rfl, rfl, rfl, rfl, rfl, rfl, rfl, rfl, rfl, trivial⟩ rfl rfl rfl (FnO.mono (rebLine_fn R f caps b0 Y hM hcF (R.mm line) vl line _ oi uA (Nat.le_refl _) hgl (s3.mono hleA) ((hR.mono hle3).mono hleA) (hM _ _ _ _ hleA hYi)) ?_)
        rintro v uK l1 hleK ⟨⟨lcs, ⟨lad, lcap, rfl, hl1⟩, hl2⟩, oK, rfl, hYK⟩ -
        refine ⟨⟨fun _ h => h, trivial⟩, ?_⟩
        refine ra_do (i := 11) rfl rfl (by kernel_rfl) ?_
        refine do_call_o (caps := []) (ρ' := [(1, _), (2, _), (7, _), (9, _), (10, _), (11, _), (12, _), (22, _), (26, _), (32, _)]) [1000] [] trivial rfl rfl rfl Tryd.c36 rfl rfl ⟨rfl, rfl, rfl, rfl, rfl, rfl, rfl, rfl, rfl, rfl, trivial⟩ rfl rfl rfl (FnO.mono (ih (szB kids) (by omega) vk kids _ oK uK (Nat.le_refl _) (by omega) hgk ((s4.mono hleA).mono hleK) (((hR.mono hle3).mono hleA).mono hleK) hYK) ?_)
        rintro v uQ l1 hleQ ⟨⟨kcs, ⟨kad, kcap, rfl, hk1⟩, hk2⟩, oQ, rfl, hYQ⟩ -
        refine ⟨⟨fun _ h => h, trivial⟩, ?_⟩
        refine ra_do (i := 13) rfl rfl (by kernel_rfl) ?_
        refine do_store_p trivial rfl Tryd.k39 rfl rfl rfl (vs := [_, _, _]) rfl rfl (by first | rfl | assumption | simp [Value.oneCell', str]) (Nat.le_of_ble_eq_true rfl) rfl ?_
        refine ra_y (i := 14) rfl (by kernel_rfl) (by kernel_rfl) (by kernel_rfl) (np_then (np_block (np_then (np_then (np_block (np_then (np_finO))))))) (y_field_p rfl Tryd.f42' rfl (by decide) rfl) rfl ?_
        refine ra_do (i := 15) rfl rfl (by kernel_rfl) ?_
        refine do_store_p trivial rfl Tryd.k40 rfl rfl rfl (vs := [_]) rfl rfl (by first | rfl | assumption | simp [Value.oneCell', str]) (Nat.le_of_ble_eq_true rfl) rfl ?_
        refine ra_y (i := 16) rfl (by kernel_rfl) (by kernel_rfl) (by kernel_rfl) (np_then (np_block (np_then (np_then (np_block (np_then (np_finO))))))) (y_field_p rfl Tryd.f42' rfl (by decide) rfl) rfl ?_
        refine ra_do (i := 17) rfl rfl (by kernel_rfl) ?_
        refine do_store_p trivial rfl Tryd.k23 rfl rfl rfl (vs := [_]) rfl rfl (by first | rfl | assumption | simp [Value.oneCell', str]) (Nat.le_of_ble_eq_true rfl) rfl ?_
        refine ra_end (by kernel_rfl) (ρ' := [(1, _), (2, _), (7, _), (9, _), (10, _), (11, _), (12, _)]) ⟨rfl, rfl, rfl, rfl, rfl, rfl, rfl, trivial⟩ ?_
        refine q_thenK ?_
        refine ⟨[(1, _), (2, _), (7, _), (9, _), (10, _), (11, _), (12, _)], [(9, _), (507, _), (1000, _)], ⟨rfl, rfl, rfl, rfl, rfl, rfl, rfl, trivial⟩, ⟨rfl, rfl, rfl, trivial⟩, _, _, lad, lcap, kad, kcap, oQ, (hleA.trans (hleK.trans hleQ)), (by first | rfl | simp), (by first | rfl | (simp only [List.cons.injEq, Prod.mk.injEq, SV.v.injEq, Value.int.injEq, true_and, and_true]; omega) | simp), ?_⟩
        refine ⟨BlkC.mk' (StrS.mono ⟨_, _, rfl, w1⟩ (hleK.trans hleQ)) (PrS.mono ⟨_, _, rfl, w2⟩ (hleK.trans hleQ)) (InlS.mono ⟨lcs, ⟨lad, lcap, rfl, hl1⟩, hl2⟩ hleQ) ⟨kcs, ⟨kad, kcap, rfl, hk1⟩, hk2⟩ (by obtain ⟨o1, o2, o3, o4, o5, o6, o7, o8, o9⟩ := hok; exact ⟨o1, o2, o3, o4, o5, o6, o7, by omega, by omega⟩), by rw [hes]; simpa [List.append_assoc] using hYQ⟩
       exact raall_nil
      refine raall_cons rfl rfl ?_ ?_
      ·
       refine do_y (y_load_p rfl Tryd.k23 rfl rfl rfl (vs := [_]) rfl rfl rfl) rfl ?_
       refine ra_do (i := 1) rfl rfl (by kernel_rfl) ?_
       refine do_y (y_load_p rfl Tryd.k39 rfl rfl rfl (vs := [_, _, _]) rfl rfl rfl) rfl ?_
       refine ra_do (i := 2) rfl rfl (by kernel_rfl) ?_
       refine do_call (caps := []) trivial rfl rfl Tryd.c51 rfl (FnP.mono (labCopyAttr_fn a _ _ _ (by omega) (by omega) s1 s2) ?_)
       rintro v uA hle0 ⟨vc3, vp3, rfl, ⟨ad5, cap5, rfl, w1⟩, ⟨ad6, cap6, rfl, w2⟩⟩ hleA
       refine ra_y (i := 12) rfl (by kernel_rfl) (by kernel_rfl) (by kernel_rfl) (np_then (np_block (np_then (np_then (np_block (np_then (np_finO))))))) (y_field_p rfl Tryd.f42' rfl (by decide) rfl) rfl ?_
       refine ra_do (i := 6) rfl rfl (by kernel_rfl) ?_
       refine do_call_o (caps := []) (ρ' := [(1, _), (2, _), (7, _), (9, _), (10, _), (11, _), (12, _), (22, _), (28, _), (29, _), (30, _), (32, _)]) [1000] [] trivial rfl rfl rfl Tryd.c52 rfl rfl ⟨rfl, rfl, rfl, rfl, rfl, rfl, rfl, rfl, rfl, rfl, rfl, rfl, trivial⟩ rfl rfl rfl (FnO.mono (rebLine_fn R f caps b0 Y hM hcF (R.mm line) vl line _ oi uA (Nat.le_refl _) hgl (s3.mono hleA) ((hR.mono hle3).mono hleA) (hM _ _ _ _ hleA hYi)) ?_)
       rintro v uK l1 hleK ⟨⟨lcs, ⟨lad, lcap, rfl, hl1⟩, hl2⟩, oK, rfl, hYK⟩ -
       refine ⟨⟨fun _ h => h, trivial⟩, ?_⟩
       refine ra_do (i := 11) rfl rfl (by kernel_rfl) ?_
       refine do_call_o (caps := []) (ρ' := [(1, _), (2, _), (7, _), (9, _), (10, _), (11, _), (12, _), (22, _), (26, _), (32, _)]) [1000] [] trivial rfl rfl rfl Tryd.c36 rfl rfl ⟨rfl, rfl, rfl, rfl, rfl, rfl, rfl, rfl, rfl, rfl, trivial⟩ rfl rfl rfl (FnO.mono (ih (szB kids) (by omega) vk kids _ oK uK (Nat.le_refl _) (by omega) hgk ((s4.mono hleA).mono hleK) (((hR.mono hle3).mono hleA).mono hleK) hYK) ?_)
       rintro v uQ l1 hleQ ⟨⟨kcs, ⟨kad, kcap, rfl, hk1⟩, hk2⟩, oQ, rfl, hYQ⟩ -
       refine ⟨⟨fun _ h => h, trivial⟩, ?_⟩
       refine ra_do (i := 13) rfl rfl (by kernel_rfl) ?_
       refine do_store_p trivial rfl Tryd.k39 rfl rfl rfl (vs := [_, _, _]) rfl rfl (by first | rfl | assumption | simp [Value.oneCell', str]) (Nat.le_of_ble_eq_true rfl) rfl ?_
       refine ra_y (i := 14) rfl (by kernel_rfl) (by kernel_rfl) (by kernel_rfl) (np_then (np_block (np_then (np_then (np_block (np_then (np_finO))))))) (y_field_p rfl Tryd.f42' rfl (by decide) rfl) rfl ?_
       refine ra_do (i := 15) rfl rfl (by kernel_rfl) ?_
       refine do_store_p trivial rfl Tryd.k40 rfl rfl rfl (vs := [_]) rfl rfl (by first | rfl | assumption | simp [Value.oneCell', str]) (Nat.le_of_ble_eq_true rfl) rfl ?_
       refine ra_y (i := 16) rfl (by kernel_rfl) (by kernel_rfl) (by kernel_rfl) (np_then (np_block (np_then (np_then (np_block (np_then (np_finO))))))) (y_field_p rfl Tryd.f42' rfl (by decide) rfl) rfl ?_
       refine ra_do (i := 17) rfl rfl (by kernel_rfl) ?_
       refine do_store_p trivial rfl Tryd.k23 rfl rfl rfl (vs := [_]) rfl rfl (by first | rfl | assumption | simp [Value.oneCell', str]) (Nat.le_of_ble_eq_true rfl) rfl ?_
       refine ra_end (by kernel_rfl) (ρ' := [(1, _), (2, _), (7, _), (9, _), (10, _), (11, _), (12, _)]) ⟨rfl, rfl, rfl, rfl, rfl, rfl, rfl, trivial⟩ ?_
       refine q_thenK ?_
       refine ⟨[(1, _), (2, _), (7, _), (9, _), (10, _), (11, _), (12, _)], [(9, _), (507, _), (1000, _)], ⟨rfl, rfl, rfl, rfl, rfl, rfl, rfl, trivial⟩, ⟨rfl, rfl, rfl, trivial⟩, _, _, lad, lcap, kad, kcap, oQ, (hleA.trans (hleK.trans hleQ)), (by first | rfl | simp), (by first | rfl | (simp only [List.cons.injEq, Prod.mk.injEq, SV.v.injEq, Value.int.injEq, true_and, and_true]; omega) | simp), ?_⟩
       refine ⟨BlkC.mk' (StrS.mono ⟨_, _, rfl, w1⟩ (hleK.trans hleQ)) (PrS.mono ⟨_, _, rfl, w2⟩ (hleK.trans hleQ)) (InlS.mono ⟨lcs, ⟨lad, lcap, rfl, hl1⟩, hl2⟩ hleQ) ⟨kcs, ⟨kad, kcap, rfl, hk1⟩, hk2⟩ (by obtain ⟨o1, o2, o3, o4, o5, o6, o7, o8, o9⟩ := hok; exact ⟨o1, o2, o3, o4, o5, o6, o7, by omega, by omega⟩), by rw [hes]; simpa [List.append_assoc] using hYQ⟩
      exact raall_nil
     refine raall_cons rfl rfl ?_ ?_
     ·
      refine do_y (y_load_p rfl Tryd.k23 rfl rfl rfl (vs := [_]) rfl rfl rfl) rfl ?_
      refine ra_all (is := [1, 4]) (by kernel_rfl) rfl ?_
      refine raall_cons rfl rfl ?_ ?_
      ·
       refine do_y (y_load_p rfl Tryd.k39 rfl rfl rfl (vs := [_, _, _]) rfl rfl rfl) rfl ?_
       refine ra_all (is := [2, 4]) (by kernel_rfl) rfl ?_
       refine raall_cons rfl rfl ?_ ?_
       ·
        refine do_call (caps := []) trivial rfl rfl Tryd.c51 rfl (FnP.mono (labCopyAttr_fn a _ _ _ (by omega) (by omega) s1 s2) ?_)
        rintro v uA hle0 ⟨vc3, vp3, rfl, ⟨ad5, cap5, rfl, w1⟩, ⟨ad6, cap6, rfl, w2⟩⟩ hleA
        refine ra_do (i := 4) rfl rfl (by kernel_rfl) ?_
        refine do_y (y_load_p rfl Tryd.k40 rfl rfl rfl (vs := [_]) rfl rfl rfl) rfl ?_
        refine ra_y (i := 12) rfl (by kernel_rfl) (by kernel_rfl) (by kernel_rfl) (np_then (np_block (np_then (np_then (np_block (np_then (np_finO))))))) (y_field_p rfl Tryd.f42' rfl (by decide) rfl) rfl ?_
        refine ra_do (i := 6) rfl rfl (by kernel_rfl) ?_
        refine do_call_o (caps := []) (ρ' := [(1, _), (2, _), (7, _), (9, _), (10, _), (11, _), (12, _), (22, _), (28, _), (29, _), (30, _), (32, _)]) [1000] [] trivial rfl rfl rfl Tryd.c52 rfl rfl ⟨rfl, rfl, rfl, rfl, rfl, rfl, rfl, rfl, rfl, rfl, rfl, rfl, trivial⟩ rfl rfl rfl (FnO.mono (rebLine_fn R f caps b0 Y hM hcF (R.mm line) vl line _ oi uA (Nat.le_refl _) hgl (s3.mono hleA) ((hR.mono hle3).mono hleA) (hM _ _ _ _ hleA hYi)) ?_)
        rintro v uK l1 hleK ⟨⟨lcs, ⟨lad, lcap, rfl, hl1⟩, hl2⟩, oK, rfl, hYK⟩ -
        refine ⟨⟨fun _ h => h, trivial⟩, ?_⟩
        refine ra_do (i := 11) rfl rfl (by kernel_rfl) ?_
        refine do_call_o (caps := []) (ρ' := [(1, _), (2, _), (7, _), (9, _), (10, _), (11, _), (12, _), (22, _), (26, _), (32, _)]) [1000] [] trivial rfl rfl rfl Tryd.c36 rfl rfl ⟨rfl, rfl, rfl, rfl, rfl, rfl, rfl, rfl, rfl, rfl, trivial⟩ rfl rfl rfl (FnO.mono (ih (szB kids) (by omega) vk kids _ oK uK (Nat.le_refl _) (by omega) hgk ((s4.mono hleA).mono hleK) (((hR.mono hle3).mono hleA).mono hleK) hYK) ?_)
        rintro v uQ l1 hleQ ⟨⟨kcs, ⟨kad, kcap, rfl, hk1⟩, hk2⟩, oQ, rfl, hYQ⟩ -
        refine ⟨⟨fun _ h => h, trivial⟩, ?_⟩
        refine ra_do (i := 13) rfl rfl (by kernel_rfl) ?_
        refine do_store_p trivial rfl Tryd.k39 rfl rfl rfl (vs := [_, _, _]) rfl rfl (by first | rfl | assumption | simp [Value.oneCell', str]) (Nat.le_of_ble_eq_true rfl) rfl ?_
        refine ra_y (i := 14) rfl (by kernel_rfl) (by kernel_rfl) (by kernel_rfl) (np_then (np_block (np_then (np_then (np_block (np_then (np_finO))))))) (y_field_p rfl Tryd.f42' rfl (by decide) rfl) rfl ?_
        refine ra_do (i := 15) rfl rfl (by kernel_rfl) ?_
        refine do_store_p trivial rfl Tryd.k40 rfl rfl rfl (vs := [_]) rfl rfl (by first | rfl | assumption | simp [Value.oneCell', str]) (Nat.le_of_ble_eq_true rfl) rfl ?_
        refine ra_y (i := 16) rfl (by kernel_rfl) (by kernel_rfl) (by kernel_rfl) (np_then (np_block (np_then (np_then (np_block (np_then (np_finO))))))) (y_field_p rfl Tryd.f42' rfl (by decide) rfl) rfl ?_
        refine ra_do (i := 17) rfl rfl (by kernel_rfl) ?_
        refine do_store_p trivial rfl Tryd.k23 rfl rfl rfl (vs := [_]) rfl rfl (by first | rfl | assumption | simp [Value.oneCell', str]) (Nat.le_of_ble_eq_true rfl) rfl ?_
        refine ra_end (by kernel_rfl) (ρ' := [(1, _), (2, _), (7, _), (9, _), (10, _), (11, _), (12, _)]) ⟨rfl, rfl, rfl, rfl, rfl, rfl, rfl, trivial⟩ ?_
        refine q_thenK ?_
        refine ⟨[(1, _), (2, _), (7, _), (9, _), (10, _), (11, _), (12, _)], [(9, _), (507, _), (1000, _)], ⟨rfl, rfl, rfl, rfl, rfl, rfl, rfl, trivial⟩, ⟨rfl, rfl, rfl, trivial⟩, _, _, lad, lcap, kad, kcap, oQ, (hleA.trans (hleK.trans hleQ)), (by first | rfl | simp), (by first | rfl | (simp only [List.cons.injEq, Prod.mk.injEq, SV.v.injEq, Value.int.injEq, true_and, and_true]; omega) | simp), ?_⟩
        refine ⟨BlkC.mk' (StrS.mono ⟨_, _, rfl, w1⟩ (hleK.trans hleQ)) (PrS.mono ⟨_, _, rfl, w2⟩ (hleK.trans hleQ)) (InlS.mono ⟨lcs, ⟨lad, lcap, rfl, hl1⟩, hl2⟩ hleQ) ⟨kcs, ⟨kad, kcap, rfl, hk1⟩, hk2⟩ (by obtain ⟨o1, o2, o3, o4, o5, o6, o7, o8, o9⟩ := hok; exact ⟨o1, o2, o3, o4, o5, o6, o7, by omega, by omega⟩), by rw [hes]; simpa [List.append_assoc] using hYQ⟩
       refine raall_cons rfl rfl ?_ ?_
       ·
        refine do_y (y_load_p rfl Tryd.k40 rfl rfl rfl (vs := [_]) rfl rfl rfl) rfl ?_
        refine ra_do (i := 2) rfl rfl (by kernel_rfl) ?_
        refine do_call (caps := []) trivial rfl rfl Tryd.c51 rfl (FnP.mono (labCopyAttr_fn a _ _ _ (by omega) (by omega) s1 s2) ?_)
        rintro v uA hle0 ⟨vc3, vp3, rfl, ⟨ad5, cap5, rfl, w1⟩, ⟨ad6, cap6, rfl, w2⟩⟩ hleA
        refine ra_y (i := 12) rfl (by kernel_rfl) (by kernel_rfl) (by kernel_rfl) (np_then (np_block (np_then (np_then (np_block (np_then (np_finO))))))) (y_field_p rfl Tryd.f42' rfl (by decide) rfl) rfl ?_
        refine ra_do (i := 6) rfl rfl (by kernel_rfl) ?_
        refine do_call_o (caps := []) (ρ' := [(1, _), (2, _), (7, _), (9, _), (10, _), (11, _), (12, _), (22, _), (28, _), (29, _), (30, _), (32, _)]) [1000] [] trivial rfl rfl rfl Tryd.c52 rfl rfl ⟨rfl, rfl, rfl, rfl, rfl, rfl, rfl, rfl, rfl, rfl, rfl, rfl, trivial⟩ rfl rfl rfl (FnO.mono (rebLine_fn R f caps b0 Y hM hcF (R.mm line) vl line _ oi uA (Nat.le_refl _) hgl (s3.mono hleA) ((hR.mono hle3).mono hleA) (hM _ _ _ _ hleA hYi)) ?_)
        rintro v uK l1 hleK ⟨⟨lcs, ⟨lad, lcap, rfl, hl1⟩, hl2⟩, oK, rfl, hYK⟩ -
        refine ⟨⟨fun _ h => h, trivial⟩, ?_⟩
        refine ra_do (i := 11) rfl rfl (by kernel_rfl) ?_
        refine do_call_o (caps := []) (ρ' := [(1, _), (2, _), (7, _), (9, _), (10, _), (11, _), (12, _), (22, _), (26, _), (32, _)]) [1000] [] trivial rfl rfl rfl Tryd.c36 rfl rfl ⟨rfl, rfl, rfl, rfl, rfl, rfl, rfl, rfl, rfl, rfl, trivial⟩ rfl rfl rfl (FnO.mono (ih (szB kids) (by omega) vk kids _ oK uK (Nat.le_refl _) (by omega) hgk ((s4.mono hleA).mono hleK) (((hR.mono hle3).mono hleA).mono hleK) hYK) ?_)
        rintro v uQ l1 hleQ ⟨⟨kcs, ⟨kad, kcap, rfl, hk1⟩, hk2⟩, oQ, rfl, hYQ⟩ -
        refine ⟨⟨fun _ h => h, trivial⟩, ?_⟩
        refine ra_do (i := 13) rfl rfl (by kernel_rfl) ?_
        refine do_store_p trivial rfl Tryd.k39 rfl rfl rfl (vs := [_, _, _]) rfl rfl (by first | rfl | assumption | simp [Value.oneCell', str]) (Nat.le_of_ble_eq_true rfl) rfl ?_
        refine ra_y (i := 14) rfl (by kernel_rfl) (by kernel_rfl) (by kernel_rfl) (np_then (np_block (np_then (np_then (np_block (np_then (np_finO))))))) (y_field_p rfl Tryd.f42' rfl (by decide) rfl) rfl ?_
        refine ra_do (i := 15) rfl rfl (by kernel_rfl) ?_
        refine do_store_p trivial rfl Tryd.k40 rfl rfl rfl (vs := [_]) rfl rfl (by first | rfl | assumption | simp [Value.oneCell', str]) (Nat.le_of_ble_eq_true rfl) rfl ?_
        refine ra_y (i := 16) rfl (by kernel_rfl) (by kernel_rfl) (by kernel_rfl) (np_then (np_block (np_then (np_then (np_block (np_then (np_finO))))))) (y_field_p rfl Tryd.f42' rfl (by decide) rfl) rfl ?_
        refine ra_do (i := 17) rfl rfl (by kernel_rfl) ?_
        refine do_store_p trivial rfl Tryd.k23 rfl rfl rfl (vs := [_]) rfl rfl (by first | rfl | assumption | simp [Value.oneCell', str]) (Nat.le_of_ble_eq_true rfl) rfl ?_
        refine ra_end (by kernel_rfl) (ρ' := [(1, _), (2, _), (7, _), (9, _), (10, _), (11, _), (12, _)]) ⟨rfl, rfl, rfl, rfl, rfl, rfl, rfl, trivial⟩ ?_
        refine q_thenK ?_
        refine ⟨[(1, _), (2, _), (7, _), (9, _), (10, _), (11, _), (12, _)], [(9, _), (507, _), (1000, _)], ⟨rfl, rfl, rfl, rfl, rfl, rfl, rfl, trivial⟩, ⟨rfl, rfl, rfl, trivial⟩, _, _, lad, lcap, kad, kcap, oQ, (hleA.trans (hleK.trans hleQ)), (by first | rfl | simp), (by first | rfl | (simp only [List.cons.injEq, Prod.mk.injEq, SV.v.injEq, Value.int.injEq, true_and, and_true]; omega) | simp), ?_⟩
        refine ⟨BlkC.mk' (StrS.mono ⟨_, _, rfl, w1⟩ (hleK.trans hleQ)) (PrS.mono ⟨_, _, rfl, w2⟩ (hleK.trans hleQ)) (InlS.mono ⟨lcs, ⟨lad, lcap, rfl, hl1⟩, hl2⟩ hleQ) ⟨kcs, ⟨kad, kcap, rfl, hk1⟩, hk2⟩ (by obtain ⟨o1, o2, o3, o4, o5, o6, o7, o8, o9⟩ := hok; exact ⟨o1, o2, o3, o4, o5, o6, o7, by omega, by omega⟩), by rw [hes]; simpa [List.append_assoc] using hYQ⟩
       exact raall_nil
      refine raall_cons rfl rfl ?_ ?_
      ·
       refine do_y (y_load_p rfl Tryd.k40 rfl rfl rfl (vs := [_]) rfl rfl rfl) rfl ?_
       refine ra_do (i := 1) rfl rfl (by kernel_rfl) ?_
       refine do_y (y_load_p rfl Tryd.k39 rfl rfl rfl (vs := [_, _, _]) rfl rfl rfl) rfl ?_
       refine ra_do (i := 2) rfl rfl (by kernel_rfl) ?_
       refine do_call (caps := []) trivial rfl rfl Tryd.c51 rfl (FnP.mono (labCopyAttr_fn a _ _ _ (by omega) (by omega) s1 s2) ?_)
       rintro v uA hle0 ⟨vc3, vp3, rfl, ⟨ad5, cap5, rfl, w1⟩, ⟨ad6, cap6, rfl, w2⟩⟩ hleA
       refine ra_y (i := 12) rfl (by kernel_rfl) (by kernel_rfl) (by kernel_rfl) (np_then (np_block (np_then (np_then (np_block (np_then (np_finO))))))) (y_field_p rfl Tryd.f42' rfl (by decide) rfl) rfl ?_
       refine ra_do (i := 6) rfl rfl (by kernel_rfl) ?_
       refine do_call_o (caps := []) (ρ' := [(1, _), (2, _), (7, _), (9, _), (10, _), (11, _), (12, _), (22, _), (28, _), (29, _), (30, _), (32, _)]) [1000] [] trivial rfl rfl rfl Tryd.c52 rfl rfl ⟨rfl, rfl, rfl, rfl, rfl, rfl, rfl, rfl, rfl, rfl, rfl, rfl, trivial⟩ rfl rfl rfl (FnO.mono (rebLine_fn R f caps b0 Y hM hcF (R.mm line) vl line _ oi uA (Nat.le_refl _) hgl (s3.mono hleA) ((hR.mono hle3).mono hleA) (hM _ _ _ _ hleA hYi)) ?_)
       rintro v uK l1 hleK ⟨⟨lcs, ⟨lad, lcap, rfl, hl1⟩, hl2⟩, oK, rfl, hYK⟩ -
       refine ⟨⟨fun _ h => h, trivial⟩, ?_⟩
       refine ra_do (i := 11) rfl rfl (by kernel_rfl) ?_
       refine do_call_o (caps := []) (ρ' := [(1, _), (2, _), (7, _), (9, _), (10, _), (11, _), (12, _), (22, _), (26, _), (32, _)]) [1000] [] trivial rfl rfl rfl Tryd.c36 rfl rfl ⟨rfl, rfl, rfl, rfl, rfl, rfl, rfl, rfl, rfl, rfl, trivial⟩ rfl rfl rfl (FnO.mono (ih (szB kids) (by omega) vk kids _ oK uK (Nat.le_refl _) (by omega) hgk ((s4.mono hleA).mono hleK) (((hR.mono hle3).mono hleA).mono hleK) hYK) ?_)
       rintro v uQ l1 hleQ ⟨⟨kcs, ⟨kad, kcap, rfl, hk1⟩, hk2⟩, oQ, rfl, hYQ⟩ -
       refine ⟨⟨fun _ h => h, trivial⟩, ?_⟩
       refine ra_do (i := 13) rfl rfl (by kernel_rfl) ?_
       refine do_store_p trivial rfl Tryd.k39 rfl rfl rfl (vs := [_, _, _]) rfl rfl (by first | rfl | assumption | simp [Value.oneCell', str]) (Nat.le_of_ble_eq_true rfl) rfl ?_
       refine ra_y (i := 14) rfl (by kernel_rfl) (by kernel_rfl) (by kernel_rfl) (np_then (np_block (np_then (np_then (np_block (np_then (np_finO))))))) (y_field_p rfl Tryd.f42' rfl (by decide) rfl) rfl ?_
       refine ra_do (i := 15) rfl rfl (by kernel_rfl) ?_
       refine do_store_p trivial rfl Tryd.k40 rfl rfl rfl (vs := [_]) rfl rfl (by first | rfl | assumption | simp [Value.oneCell', str]) (Nat.le_of_ble_eq_true rfl) rfl ?_
       refine ra_y (i := 16) rfl (by kernel_rfl) (by kernel_rfl) (by kernel_rfl) (np_then (np_block (np_then (np_then (np_block (np_then (np_finO))))))) (y_field_p rfl Tryd.f42' rfl (by decide) rfl) rfl ?_
       refine ra_do (i := 17) rfl rfl (by kernel_rfl) ?_
       refine do_store_p trivial rfl Tryd.k23 rfl rfl rfl (vs := [_]) rfl rfl (by first | rfl | assumption | simp [Value.oneCell', str]) (Nat.le_of_ble_eq_true rfl) rfl ?_
       refine ra_end (by kernel_rfl) (ρ' := [(1, _), (2, _), (7, _), (9, _), (10, _), (11, _), (12, _)]) ⟨rfl, rfl, rfl, rfl, rfl, rfl, rfl, trivial⟩ ?_
       refine q_thenK ?_
       refine ⟨[(1, _), (2, _), (7, _), (9, _), (10, _), (11, _), (12, _)], [(9, _), (507, _), (1000, _)], ⟨rfl, rfl, rfl, rfl, rfl, rfl, rfl, trivial⟩, ⟨rfl, rfl, rfl, trivial⟩, _, _, lad, lcap, kad, kcap, oQ, (hleA.trans (hleK.trans hleQ)), (by first | rfl | simp), (by first | rfl | (simp only [List.cons.injEq, Prod.mk.injEq, SV.v.injEq, Value.int.injEq, true_and, and_true]; omega) | simp), ?_⟩
       refine ⟨BlkC.mk' (StrS.mono ⟨_, _, rfl, w1⟩ (hleK.trans hleQ)) (PrS.mono ⟨_, _, rfl, w2⟩ (hleK.trans hleQ)) (InlS.mono ⟨lcs, ⟨lad, lcap, rfl, hl1⟩, hl2⟩ hleQ) ⟨kcs, ⟨kad, kcap, rfl, hk1⟩, hk2⟩ (by obtain ⟨o1, o2, o3, o4, o5, o6, o7, o8, o9⟩ := hok; exact ⟨o1, o2, o3, o4, o5, o6, o7, by omega, by omega⟩), by rw [hes]; simpa [List.append_assoc] using hYQ⟩
      exact raall_nil
     exact raall_nil
    ·
     rintro ρ σ uc7 ⟨w1, w2, w3, w4, w5, w6, o7, hlc7, rfl, rfl, ⟨hx7, hY7⟩⟩
     have oneAll7 := hx7.one
     refine wc_region ?_
     refine ym rfl rfl ?_
     refine rl_y (y_load_p rfl Tryd.k42 rfl rfl rfl (vs := [_, _, _, _, _, _, _, _, _, _, _]) rfl rfl rfl) rfl ?_
     refine rl_do rfl rfl ?_
     refine do_buildSlice trivial Tryd.s23 Tryd.z42 (ps := [(_, _)]) rfl (xs := [_, _, _, _, _, _, _, _, _, _, _]) rfl rfl rfl rfl rfl rfl rfl ?_
     refine rl_do rfl rfl ?_
     refine do_append_s trivial rfl rfl Tryd.s23 Tryd.z42 rfl rfl rfl rfl rfl rfl oneAll7 (by omega) (by omega) (ρ' := [(1, _), (2, _), (10, _), (11, _), (12, _)]) ⟨rfl, rfl, rfl, rfl, rfl, trivial⟩ rfl rfl rfl ?_
     refine ya rfl rfl ?_
     refine rl_ren 38 507 rfl rfl rfl ?_
     refine rl_end (ρ' := [(1, _), (2, _), (7, _), (10, _), (11, _), (12, _)]) ⟨rfl, rfl, rfl, rfl, rfl, rfl, trivial⟩ ?_
     refine q_block ?_
     refine q_then ?_
     refine wc_region ?_
     refine rl_y (y_add rfl rfl rfl (wrap64_id (by omega))) rfl ?_
     refine ym rfl rfl ?_
     refine rl_end (ρ' := [(1, _), (2, _), (7, _), (10, _), (11, _), (12, _)]) ⟨rfl, rfl, rfl, rfl, rfl, rfl, trivial⟩ ?_
     refine q_thenK ?_
     refine ⟨m - 1, [(1, _), (2, _), (7, _), (10, _), (11, _), (12, _)], [(507, _), (1000, _)], by omega, ⟨rfl, rfl, rfl, rfl, rfl, rfl, trivial⟩, ⟨rfl, rfl, trivial⟩, i + 1, by omega, (by first | exact hle3.trans hlc7 | exact hle3), _, _, (by first | (rw [hbs, List.length_append]; rfl) | (rw [hbs])), (by first | rfl | simp), ?_⟩
     first
      | (refine ⟨?_, ?_⟩; rw [hbs]; exact (hacc.mono hlc7).append (BlksC.one hx7); exact hY7)
      | (refine ⟨?_, ?_⟩; rw [hbs]; exact hacc; rw [hes]; exact hYi)
  ·
   have hge := of_decide_eq_false hb3
   refine wc_exit ?_
   refine q_then_exit ?_
   refine q_then_exit ?_
   refine q_block_hit ?_
   refine q_then ?_
   refine wc_seq ?_
   refine wc_region ?_
   refine ym rfl rfl ?_
   refine rl_freeze 507 rfl ?_
   intro ad507 cap507 u507 hle507z hsl507
   refine ya rfl rfl ?_
   refine rl_end (ρ' := [(6, _)]) ⟨rfl, trivial⟩ ?_
   refine q_then ?_
   refine wc_ret ?_
   refine finO1 [1000] (.tmp rfl) rfl rfl ?_
   rw [List.take_of_length_le (by omega)] at hacc hYi hsl507
   exact ⟨⟨_, ⟨_, _, by rw [List.take_of_length_le (by omega)], hsl507⟩, hacc.mono hle507z⟩, oi, rfl, hM _ _ _ _ hle507z hYi⟩
end Go.Proofs.Ythkgcakpjknlbaa
namespace Go.Proofs.Ythkgcakpjknlbaa
open Go Go.Eng
set_option linter.unusedSimpArgs false
set_option linter.unusedVariables false
set_option maxRecDepth 4000
theorem strS_of' {u : View} {ad : Option Addr} {cap n : Nat} {xs : List Bs} (hn : n = xs.length) (h : SlC u ad n cap 1 (strsC xs)) : StrS u (.slice ad n cap) xs := by
 subst hn
 exact ⟨ad, cap, rfl, h⟩
abbrev txtO (l : List Bs) : OO := .rb 9 1 l.length (strsC l)
theorem add_fn (b0 : Nat) (l : List Bs) (id : Bs) (hl : l.length ≤ 1000000) (u : View) :
  FnO Tryd.prog 25 [str id, .pointer (some ⟨b0, 0, none⟩)] u [(some b0, txtO l)] fun r u' l' => r = .tuple #[] ∧ l' = [(some b0, txtO (l ++ nz id))] := by
 refine FnO.intro [] Tryd.func25 rfl rfl rfl ?_
 intro w0 D hw0
 refine wc_pin 1 1000 _ 0 rfl rfl ?_
 refine wc_seq ?_
 refine wc_region ?_
 refine ym rfl rfl ?_
 refine rl_y (y_str_neq rfl rfl rfl) rfl ?_
 refine rl_end (ρ' := [(0, _), (1, _), (4, _)]) ⟨rfl, rfl, rfl, trivial⟩ ?_
 refine q_then ?_
 refine wc_cond rfl (fun hb0 => ?_) (fun hb0 => ?_)
 ·
  have h0 := of_decide_eq_true hb0; have hz : nz id = [id] := if_neg h0
  refine wc_region ?_
  refine rl_y (y_load_rb rfl Tryd.k29 rfl rfl rfl) rfl ?_
  refine ym rfl rfl ?_
  refine rl_do rfl rfl ?_
  refine do_buildSlice trivial Tryd.s29 Tryd.z9 (ps := [(_, _)]) rfl (xs := [_]) rfl rfl rfl rfl rfl rfl rfl ?_
  refine rl_do rfl rfl ?_
  refine do_append_rb_s trivial rfl rfl Tryd.s29 Tryd.z9 rfl rfl rfl rfl rfl rfl (by first | rfl | assumption | simp [Value.oneCell', str]) (by omega) (by omega) (ρ' := [(1, _)]) ⟨rfl, trivial⟩ rfl rfl rfl rfl ?_
  refine rl_do rfl rfl ?_
  refine do_store_rb (ρ' := []) trivial rfl Tryd.k29 rfl rfl rfl rfl trivial rfl rfl rfl ?_
  refine rl_end (ρ' := []) trivial ?_
  refine finO0n [1000]  rfl rfl ?_
  rw [hz]
  first
   | (refine ⟨rfl, ?_⟩; simp [txtO, strsC]; done)
   | (refine ⟨rfl, ?_⟩; rfl)
 ·
  have h0 := of_decide_eq_false hb0; have hz : nz id = [] := if_pos (Decidable.of_not_not h0)
  refine wc_skip ?_
  refine finO0n [1000]  rfl rfl ?_
  rw [hz]
  first
   | (refine ⟨rfl, ?_⟩; simp [txtO, strsC]; done)
   | (refine ⟨rfl, ?_⟩; rfl)
def namesY (b0 : Nat) : Ys := fun _ pre o => o = txtO (namesE pre)
theorem namesB_fn (ba b0 : Nat) (u : View) (T : TypeId) (fr : Nat × Nat) (hba : u ba = some (.cells [.func (.func 25) #[] #[.pointer (some ⟨b0, 0, none⟩)]].toArray T fr)) (pre : List Ev) (o : OO) (u' : View) (p : Value) (x : Blk) (hle : VLe u u') (hl : pre.length ≤ 200000) (hY : namesY b0 u' pre o) (hp : PtrB u' p x) :
  FnO Tryd.prog 26 [p, .pointer (some ⟨ba, 0, none⟩)] u' [(some b0, o)] fun r u'' l' => r = .tuple #[] ∧ ∃ o', l' = [(some b0, o')] ∧ namesY b0 u'' (pre ++ [Sum.inl x]) o' := by
 obtain ⟨b, off, c, Tp, frp, rfl, hu1, hc⟩ := hp
 obtain ⟨k, lv, inf, t, d, ti, a, line, kids⟩ := x
 obtain ⟨vc, vp, vl, vk, hP, _⟩ := hc.cells
 have hba := hle _ _ hba
 have hln := namesE_len pre
 subst hY
 refine FnO.intro [] Tryd.func26 rfl rfl rfl ?_
 intro w0 D hw0
 refine wc_draw Tryd.mixed rfl [] trivial ?_
 refine ra_y (i := 0) rfl (by kernel_rfl) (by kernel_rfl) (by kernel_rfl) (np_finO) (y_load_v rfl Tryd.k52 rfl (by assumption) (vs := [_]) (by first | rfl | exact hP | exact cut_at hP rfl (Nat.le_of_ble_eq_true rfl) rfl) rfl rfl) rfl ?_
 refine ra_y (i := 1) rfl (by kernel_rfl) (by kernel_rfl) (by kernel_rfl) (np_finO) (y_move rfl rfl) rfl ?_
 refine ra_y (i := 2) rfl (by kernel_rfl) (by kernel_rfl) (by kernel_rfl) (np_finO) (y_nilCheck_v rfl rfl) rfl ?_
 refine ra_y (i := 3) rfl (by kernel_rfl) (by kernel_rfl) (by kernel_rfl) (np_finO) (y_field_v rfl Tryd.f42' rfl (by decide) rfl) rfl ?_
 refine ra_y (i := 4) rfl (by kernel_rfl) (by kernel_rfl) (by kernel_rfl) (np_finO) (y_field_v rfl Tryd.f39' rfl (by decide) rfl) rfl ?_
 refine ra_y (i := 5) rfl (by kernel_rfl) (by kernel_rfl) (by kernel_rfl) (np_finO) (y_load_v rfl Tryd.k9 rfl (by assumption) (vs := [_]) (by first | rfl | exact hP | exact cut_at hP rfl (Nat.le_of_ble_eq_true rfl) rfl) rfl rfl) rfl ?_
 refine ra_do (i := 6) rfl rfl (by kernel_rfl) ?_
 refine do_call_o (caps := [.pointer (some ⟨b0, 0, none⟩)]) (ρ' := []) [1000] [] trivial rfl rfl rfl Tryd.c25 rfl rfl trivial rfl rfl rfl (FnO.mono (add_fn b0 (namesE pre) a.id (by omega) u') ?_)
 rintro v u1 l1 hle1 ⟨rfl, rfl⟩ -
 refine ⟨⟨fun _ h => h, trivial⟩, ?_⟩
 refine ra_end (by kernel_rfl) (ρ' := []) trivial ?_
 refine finO0n [1000]  rfl rfl ?_
 exact ⟨rfl, _, rfl, by unfold namesY; rw [namesE_append]; simp [namesE, evId, idB]⟩
theorem namesI_fn (ba b0 : Nat) (u : View) (T : TypeId) (fr : Nat × Nat) (hba : u ba = some (.cells [.func (.func 25) #[] #[.pointer (some ⟨b0, 0, none⟩)]].toArray T fr)) (pre : List Ev) (o : OO) (u' : View) (p : Value) (x : Inl) (hle : VLe u u') (hl : pre.length ≤ 200000) (hY : namesY b0 u' pre o) (hp : PtrI u' p x) :
  FnO Tryd.prog 27 [p, .pointer (some ⟨ba, 0, none⟩)] u' [(some b0, o)] fun r u'' l' => r = .tuple #[] ∧ ∃ o', l' = [(some b0, o')] ∧ namesY b0 u'' (pre ++ [Sum.inr x]) o' := by
 obtain ⟨b, off, c, Tp, frp, rfl, hu1, hc⟩ := hp
 obtain ⟨k, t, d, ti, a, args, cites, kids⟩ := x
 obtain ⟨vc, vp, va, vt, vk, hP, _⟩ := hc.cells
 have hba := hle _ _ hba
 have hln := namesE_len pre
 subst hY
 refine FnO.intro [] Tryd.func27 rfl rfl rfl ?_
 intro w0 D hw0
 refine wc_draw Tryd.mixed rfl [] trivial ?_
 refine ra_y (i := 0) rfl (by kernel_rfl) (by kernel_rfl) (by kernel_rfl) (np_finO) (y_load_v rfl Tryd.k52 rfl (by assumption) (vs := [_]) (by first | rfl | exact hP | exact cut_at hP rfl (Nat.le_of_ble_eq_true rfl) rfl) rfl rfl) rfl ?_
 refine ra_y (i := 1) rfl (by kernel_rfl) (by kernel_rfl) (by kernel_rfl) (np_finO) (y_move rfl rfl) rfl ?_
 refine ra_y (i := 2) rfl (by kernel_rfl) (by kernel_rfl) (by kernel_rfl) (np_finO) (y_nilCheck_v rfl rfl) rfl ?_
 refine ra_y (i := 3) rfl (by kernel_rfl) (by kernel_rfl) (by kernel_rfl) (np_finO) (y_field_v rfl Tryd.f46' rfl (by decide) rfl) rfl ?_
 refine ra_y (i := 4) rfl (by kernel_rfl) (by kernel_rfl) (by kernel_rfl) (np_finO) (y_field_v rfl Tryd.f39' rfl (by decide) rfl) rfl ?_
 refine ra_y (i := 5) rfl (by kernel_rfl) (by kernel_rfl) (by kernel_rfl) (np_finO) (y_load_v rfl Tryd.k9 rfl (by assumption) (vs := [_]) (by first | rfl | exact hP | exact cut_at hP rfl (Nat.le_of_ble_eq_true rfl) rfl) rfl rfl) rfl ?_
 refine ra_do (i := 6) rfl rfl (by kernel_rfl) ?_
 refine do_call_o (caps := [.pointer (some ⟨b0, 0, none⟩)]) (ρ' := []) [1000] [] trivial rfl rfl rfl Tryd.c25 rfl rfl trivial rfl rfl rfl (FnO.mono (add_fn b0 (namesE pre) a.id (by omega) u') ?_)
 rintro v u1 l1 hle1 ⟨rfl, rfl⟩ -
 refine ⟨⟨fun _ h => h, trivial⟩, ?_⟩
 refine ra_end (by kernel_rfl) (ρ' := []) trivial ?_
 refine finO0n [1000]  rfl rfl ?_
 exact ⟨rfl, _, rfl, by unfold namesY; rw [namesE_append]; simp [namesE, evId, idI]⟩
theorem labNames_fn (vm vb : Value) (bs : List Blk) (u : View) (hbig : szB bs ≤ 100000) (ha : BlkS u vb bs) :
  FnP Tryd.prog 11 [.agg #[vm, vb]] u fun r u' => StrS u' r (namesOf bs) := by
 have ha2 := ha
 obtain ⟨cs, ⟨ad, cap, rfl, h1⟩, hc1⟩ := ha2
 refine FnP.intro [.tmp 2] Tryd.func11 rfl rfl rfl ?_
 intro w0 D hw0
 refine wc_seq ?_
 refine wc_region ?_
 refine rl_do rfl rfl ?_
 refine do_box trivial rfl (cs := [_, _]) rfl rfl rfl rfl ?_
 refine ya rfl rfl ?_
 refine rl_end (ρ' := [(1, _)]) ⟨rfl, trivial⟩ ?_
 refine q_then ?_
 refine wc_seq ?_
 refine wc_region ?_
 refine rl_do rfl rfl ?_
 refine do_alloc_rb 9 1 trivial Tryd.z29 rfl rfl rfl ?_
 refine rl_end (ρ' := [(1, _), (3, _)]) ⟨rfl, rfl, trivial⟩ ?_
 refine q_then ?_
 refine wc_seq ?_
 refine wc_region ?_
 refine rl_name 3 rfl ⟨3, _, .inl rfl⟩ ?_
 intro b3
 refine rl_y (y_makeFunc rfl rfl rfl) rfl ?_
 refine rl_do rfl rfl ?_
 refine do_alloc trivial Tryd.z52 rfl rfl rfl ?_
 refine rl_do rfl rfl ?_
 refine do_store_p trivial rfl Tryd.k52 rfl rfl rfl (vs := [_]) rfl rfl (by first | rfl | assumption | simp [Value.oneCell', str]) (Nat.le_of_ble_eq_true rfl) rfl ?_
 refine rl_reveal 4 rfl ?_
 intro b4 T4 u4 hle4z hu4 hpn4
 refine rl_end (ρ' := [(1, _), (3, _), (4, _)]) ⟨rfl, rfl, rfl, trivial⟩ ?_
 refine q_then ?_
 refine wc_seq ?_
 refine wc_region ?_
 refine rl_y (y_makeFunc rfl rfl rfl) rfl ?_
 refine rl_y (y_makeFunc rfl rfl rfl) rfl ?_
 refine rl_y (y_build rfl Tryd.f58' Tryd.z58 (ps := [(_, _), (_, _)]) rfl (vs := [_, _]) rfl) rfl ?_
 refine rl_y (y_field_p rfl Tryd.f25' rfl (by decide) rfl) rfl ?_
 refine rl_y (y_load_p rfl Tryd.k23 rfl rfl rfl (vs := [_]) rfl rfl rfl) rfl ?_
 refine rl_do rfl rfl ?_
 refine do_call_o (caps := []) (ρ' := [(3, _)]) [3] [] trivial rfl rfl rfl Tryd.c28 rfl rfl ⟨rfl, trivial⟩ rfl rfl rfl (FnO.mono (vBlk_fn _ _ b3 (namesY b3) (fun _ _ _ _ _ h ↦ h) (szB bs) _ bs [] _ u4 (Nat.le_refl _) (by simp; omega) (ha.mono hle4z) (.inr ⟨26, [.pointer (some ⟨b4, 0, none⟩)], rfl, Tryd.c26, fun pre o u' p x hle hl hY hp ↦ namesB_fn b4 b3 u4 _ _ hu4 pre o u' p x hle hl hY hp⟩) (.inr ⟨27, [.pointer (some ⟨b4, 0, none⟩)], rfl, Tryd.c27, fun pre o u' p x hle hl hY hp ↦ namesI_fn b4 b3 u4 _ _ hu4 pre o u' p x hle hl hY hp⟩) rfl) ?_)
 rintro v uV l1 hleV ⟨rfl, o3, rfl, rfl⟩ -
 refine ⟨⟨fun _ h => h, trivial⟩, ?_⟩
 refine rl_end (ρ' := [(3, _)]) ⟨rfl, trivial⟩ ?_
 refine q_then ?_
 refine wc_seq ?_
 refine wc_region ?_
 refine rl_y (y_load_rb rfl Tryd.k29 rfl rfl rfl) rfl ?_
 refine rl_freeze_rb 3 rfl ?_
 intro ad3 cap3 u3 hle3z hsl3
 refine ya rfl rfl ?_
 refine rl_end (ρ' := [(2, _)]) ⟨rfl, trivial⟩ ?_
 refine q_then ?_
 refine wc_ret ?_
 refine fin1 (.tmp rfl) ?_
 exact strS_of' rfl (by simpa [namesOf] using hsl3)
end Go.Proofs.Ythkgcakpjknlbaa
namespace Go.Eng
open Go Go.RowKit
set_option linter.unusedSimpArgs false
set_option linter.unusedVariables false
theorem keyB_str (a b : List UInt8) : keyB (str a) (str b) = decide (a = b) := by
 have h : keyB (str a) (str b) = ((⟨a.toArray⟩ : ByteArray) == ⟨b.toArray⟩) := rfl
 have h2 : ((⟨a.toArray⟩ : ByteArray) == ⟨b.toArray⟩) = (a.toArray == b.toArray) := rfl
 rw [h, h2]
 by_cases e : a = b
 ·
  subst e; simp
 ·
  rw [decide_eq_false e]; simpa using e
theorem fnd_shift (k : Value) : ∀ (l : List (Value × Value)) (i j : Nat), (fnd k l i).map (·.2) = (fnd k l j).map (·.2)
 | [], i, j => rfl
 | p :: r, i, j => by
  simp only [fnd]
  cases keyB k p.1 with
  | true => rfl
  | false => exact fnd_shift k r (i + 1) (j + 1)
theorem mget_nil (k : Value) : mget [] k = none := rfl
theorem mget_cons (p : Value × Value) (r : List (Value × Value)) (k : Value) : mget (p :: r) k = if keyB k p.1 = true then some p.2 else mget r k := by
 unfold mget
 simp only [fnd]
 cases keyB k p.1 with
 | true => simp
 | false => simpa using fnd_shift k r 1 0
def SKeys (kvs : List (Value × Value)) : Prop := kvs.all (fun p => isKey .string p.1) = true
theorem isKey_str {v : Value} (h : isKey .string v = true) : ∃ s, v = str s := by
 cases v with
 | string b => exact ⟨b.data.toList, by cases b; simp [str]⟩
 | _ => simp [isKey] at h
theorem mget_mset : ∀ (kvs : List (Value × Value)) (a b : List UInt8) (v : Value), SKeys kvs → mget (mset kvs (str a) v) (str b) = if b = a then some v else mget kvs (str b)
 | [], a, b, v, _ => by
  simp only [mset, mget_cons, mget_nil, keyB_str]
  by_cases h : b = a <;> simp [h]
 | p :: r, a, b, v, h => by
  have h0 : isKey .string p.1 = true := by have := List.all_eq_true.1 h p (by simp); exact this
  have hr : SKeys r := List.all_eq_true.2 fun x hx => List.all_eq_true.1 h x (by simp [hx])
  obtain ⟨s, hs⟩ := isKey_str h0
  obtain ⟨p1, p2⟩ := p
  simp only at hs
  subst hs
  simp only [mset, keyB_str]
  by_cases hs : a = s
  ·
   subst hs
   simp only [decide_true, mget_cons, keyB_str]
   by_cases h : b = a <;> simp [h]
  ·
   rw [decide_eq_false hs]
   simp only [mget_cons, keyB_str, mget_mset r a b v hr]
   by_cases h : b = a
   ·
    subst h; simp [hs]
   ·
    simp [h]
theorem SKeys.mset {a : List UInt8} {v : Value} : ∀ {kvs : List (Value × Value)}, SKeys kvs → SKeys (Eng.mset kvs (str a) v)
 | [], _ => by simp [Eng.mset, SKeys, isKey, str]
 | p :: r, h => by
  have h0 : isKey .string p.1 = true := by have := List.all_eq_true.1 h p (by simp); exact this
  have hr : SKeys r := List.all_eq_true.2 fun x hx => List.all_eq_true.1 h x (by simp [hx])
  simp only [Eng.mset]
  cases keyB (str a) p.1 with
  | true =>
   refine List.all_eq_true.2 fun x hx => ?_
   rcases List.mem_cons.1 hx with rfl | hx
   ·
    simp [isKey, str]
   ·
    exact List.all_eq_true.1 hr x hx
  | false =>
   refine List.all_eq_true.2 fun x hx => ?_
   rcases List.mem_cons.1 hx with rfl | hx
   ·
    exact h0
   ·
    exact List.all_eq_true.1 (SKeys.mset (a := a) (v := v) hr) x hx
end Go.Eng
namespace Go.Proofs.Ythkgcakpjknlbaa
open Go Go.Eng
set_option linter.unusedSimpArgs false
set_option linter.unusedVariables false
set_option maxRecDepth 4000
def SetM (kvs : List (Value × Value)) (Dn : List Bs) : Prop := kvs.all (fun p => isKey .string p.1) = true ∧ ∀ s, (mget kvs (str s)).getD (.bool false) = .bool (decide (s ∈ Dn))
theorem SetM.nil : SetM [] [] := ⟨rfl, fun s => by simp [mget_nil]⟩
theorem SetM.add {kvs : List (Value × Value)} {Dn : List Bs} (h : SetM kvs Dn) (t : Bs) : SetM (mset kvs (str t) (.bool true)) (Dn ++ [t]) := by
 refine ⟨SKeys.mset h.1, fun s => ?_⟩
 rw [mget_mset _ _ _ _ h.1]
 by_cases e : s = t
 ·
  subst e; simp
 ·
  rw [if_neg e, h.2 s]; simp [e]
theorem SetM.congr {kvs : List (Value × Value)} {Dn E : List Bs} (h : SetM kvs Dn) (e : ∀ s, s ∈ Dn ↔ s ∈ E) : SetM kvs E := ⟨h.1, fun s => by rw [h.2 s]; simp [e s]⟩
theorem u8_35 (c : UInt8) : decide ((c.toNat : Int) = 35) = decide (c = 35) := by
 refine decide_eq_decide.2 ⟨fun h => ?_, fun h => by rw [h]; rfl⟩
 have : c.toNat = 35 := by omega
 exact UInt8.toNat_inj.1 this
theorem tail_take (d : Bs) : (d.drop 1).take (d.length - 1) = d.tail := by
 cases d with
 | nil => rfl
 | cons c d => simp
theorem chk_fn (b0 bm : Nat) (kvs : List (Value × Value)) (Dn : List Bs) (l : List Bs) (name : Bs) (hl : l.length ≤ 1000000) (u : View) (hm : MapV u bm kvs) (hs : SetM kvs Dn) :
  FnO Tryd.prog 49 [str name, .map (some bm), .pointer (some ⟨b0, 0, none⟩)] u [(some b0, txtO l)] fun r u' l' => r = .tuple #[] ∧ l' = [(some b0, txtO (l ++ if name ∈ Dn then [] else [name]))] := by
 refine FnO.intro [] Tryd.func49 rfl rfl rfl ?_
 intro w0 D hw0
 refine wc_pin 2 1000 _ 0 rfl rfl ?_
 refine wc_seq ?_
 refine wc_region ?_
 refine ym rfl rfl ?_
 refine ym rfl rfl ?_
 refine rl_y (y_lookup_v rfl Tryd.m61 Tryd.str9 Tryd.v4 rfl hm rfl rfl hs.1) rfl ?_
 rw [hs.2 name]
 refine rl_y (y_not rfl rfl) rfl ?_
 refine rl_end (ρ' := [(0, _), (2, _), (8, _)]) ⟨rfl, rfl, rfl, trivial⟩ ?_
 refine q_then ?_
 refine wc_cond rfl (fun hb0 => ?_) (fun hb0 => ?_)
 ·
  have h0 : name ∉ Dn := (by simpa using hb0)
  refine wc_region ?_
  refine rl_y (y_load_rb rfl Tryd.k29 rfl rfl rfl) rfl ?_
  refine ym rfl rfl ?_
  refine rl_do rfl rfl ?_
  refine do_buildSlice trivial Tryd.s29 Tryd.z9 (ps := [(_, _)]) rfl (xs := [_]) rfl rfl rfl rfl rfl rfl rfl ?_
  refine rl_do rfl rfl ?_
  refine do_append_rb_s trivial rfl rfl Tryd.s29 Tryd.z9 rfl rfl rfl rfl rfl rfl (by first | rfl | assumption | simp [Value.oneCell', str]) (by omega) (by omega) (ρ' := [(2, _)]) ⟨rfl, trivial⟩ rfl rfl rfl rfl ?_
  refine rl_do rfl rfl ?_
  refine do_store_rb (ρ' := []) trivial rfl Tryd.k29 rfl rfl rfl rfl trivial rfl rfl rfl ?_
  refine rl_end (ρ' := []) trivial ?_
  refine finO0n [1000]  rfl rfl ?_
  first
   | (rw [if_neg h0]; refine ⟨rfl, ?_⟩; simp [txtO, strsC]; done)
   | (rw [if_pos h0, List.append_nil]; exact ⟨rfl, rfl⟩)
 ·
  have h0 : name ∈ Dn := (by simpa using hb0)
  refine wc_skip ?_
  refine finO0n [1000]  rfl rfl ?_
  first
   | (rw [if_neg h0]; refine ⟨rfl, ?_⟩; simp [txtO, strsC]; done)
   | (rw [if_pos h0, List.append_nil]; exact ⟨rfl, rfl⟩)
def notesY : Ys := fun _ pre o => ∃ kvs, o = .mp kvs ∧ SetM kvs (pre.flatMap evNote)
theorem missN_fn (bx bm : Nat) (u : View) (T : TypeId) (fr : Nat × Nat) (hbx : u bx = some (.cells [.map (some bm)].toArray T fr)) (pre : List Ev) (o : OO) (u' : View) (p : Value) (x : Blk) (hle : VLe u u') (hl : pre.length ≤ 200000) (hY : notesY u' pre o) (hp : PtrB u' p x) :
  FnO Tryd.prog 48 [p, .pointer (some ⟨bx, 0, none⟩)] u' [(some bm, o)] fun r u'' l' => r = .tuple #[] ∧ ∃ o', l' = [(some bm, o')] ∧ notesY u'' (pre ++ [Sum.inl x]) o' := by
 obtain ⟨b, off, c, Tp, frp, rfl, hu1, hc⟩ := hp
 obtain ⟨k, lv, inf, t, d, ti, a, line, kids⟩ := x
 obtain ⟨vc, vp, vl, vk, hP, _⟩ := hc.cells
 have hbx := hle _ _ hbx
 obtain ⟨kvs, rfl, hs⟩ := hY
 have hk := hs.1
 refine FnO.intro [] Tryd.func48 rfl rfl rfl ?_
 intro w0 D hw0
 refine wc_seq ?_
 refine wc_region ?_
 refine ym rfl rfl ?_
 refine rl_y (y_nilCheck_v rfl rfl) rfl ?_
 refine rl_y (y_field_v rfl Tryd.f42' rfl (by decide) rfl) rfl ?_
 refine rl_y (y_load_v rfl Tryd.k3 rfl (by assumption) (vs := [_]) (by first | rfl | exact hP | exact cut_at hP rfl (Nat.le_of_ble_eq_true rfl) rfl) rfl rfl) rfl ?_
 refine rl_y (y_eql rfl rfl rfl) rfl ?_
 refine rl_end (ρ' := [(0, _), (1, _), (7, _)]) ⟨rfl, rfl, rfl, trivial⟩ ?_
 refine q_then ?_
 refine wc_cond rfl (fun hb0 => ?_) (fun hb0 => ?_)
 ·
  have h0 := of_decide_eq_true hb0
  refine wc_draw Tryd.mixed rfl [] trivial ?_
  refine ra_y (i := 0) rfl (by kernel_rfl) (by kernel_rfl) (by kernel_rfl) (np_finO) (y_load_v rfl Tryd.k61 rfl (by assumption) (vs := [_]) (by first | rfl | exact hP | exact cut_at hP rfl (Nat.le_of_ble_eq_true rfl) rfl) rfl rfl) rfl ?_
  refine ra_pinSM 8 1000 bm rfl rfl ?_
  refine ra_y (i := 1) rfl (by kernel_rfl) (by kernel_rfl) (by kernel_rfl) (np_finO) (y_move rfl rfl) rfl ?_
  refine ra_y (i := 2) rfl (by kernel_rfl) (by kernel_rfl) (by kernel_rfl) (np_finO) (y_nilCheck_v rfl rfl) rfl ?_
  refine ra_y (i := 3) rfl (by kernel_rfl) (by kernel_rfl) (by kernel_rfl) (np_finO) (y_field_v rfl Tryd.f42' rfl (by decide) rfl) rfl ?_
  refine ra_y (i := 4) rfl (by kernel_rfl) (by kernel_rfl) (by kernel_rfl) (np_finO) (y_load_v rfl Tryd.k9 rfl (by assumption) (vs := [_]) (by first | rfl | exact hP | exact cut_at hP rfl (Nat.le_of_ble_eq_true rfl) rfl) rfl rfl) rfl ?_
  refine ra_do (i := 5) rfl rfl (by kernel_rfl) ?_
  refine do_mapUpdate trivial rfl Tryd.m61 Tryd.str9 rfl rfl rfl rfl rfl (by assumption) ?_
  refine ra_end (by kernel_rfl) (ρ' := []) trivial ?_
  refine finO0n [1000]  rfl rfl ?_
  refine ⟨rfl, _, rfl, ?_⟩
  first
   | exact ⟨_, rfl, by simpa [evNote, noteName, h0] using hs.add inf⟩
   | exact ⟨_, rfl, by simpa [evNote, noteName, h0] using hs⟩
 ·
  have h0 := of_decide_eq_false hb0
  refine wc_skip ?_
  refine finO0n [1000]  rfl rfl ?_
  refine ⟨rfl, _, rfl, ?_⟩
  first
   | exact ⟨_, rfl, by simpa [evNote, noteName, h0] using hs.add inf⟩
   | exact ⟨_, rfl, by simpa [evNote, noteName, h0] using hs⟩
def missY (Dn N : List Bs) : Ys := fun _ pre o => o = txtO (missE Dn N pre)
set_option maxHeartbeats 1000000 in
theorem missI_fn (bc bi bn b0 mi mn : Nat) (ki kn : List (Value × Value)) (Dn N : List Bs) (u : View) (T1 T2 T3 : TypeId) (f1 f2 f3 : Nat × Nat) (hbc : u bc = some (.cells [.func (.func 49) #[] #[.pointer (some ⟨b0, 0, none⟩)]].toArray T1 f1))
  (hbi : u bi = some (.cells [.map (some mi)].toArray T2 f2)) (hbn : u bn = some (.cells [.map (some mn)].toArray T3 f3)) (hmi : MapV u mi ki) (hmn : MapV u mn kn) (hsi : SetM ki Dn) (hsn : SetM kn N)
  (pre : List Ev) (o : OO) (u' : View) (p : Value) (x : Inl) (hle : VLe u u') (hl : pre.length ≤ 200000) (hY : missY Dn N u' pre o) (hp : PtrI u' p x) :
  FnO Tryd.prog 50 [p, .pointer (some ⟨bc, 0, none⟩), .pointer (some ⟨bi, 0, none⟩), .pointer (some ⟨bn, 0, none⟩)] u' [(some b0, o)] fun r u'' l' => r = .tuple #[] ∧ ∃ o', l' = [(some b0, o')] ∧ missY Dn N u'' (pre ++ [Sum.inr x]) o' := by
 obtain ⟨b, off, c, Tp, frp, rfl, hu1, hc⟩ := hp
 obtain ⟨k, t, d, ti, a, args, cites, kids⟩ := x
 obtain ⟨vc, vp, va, vt, vk, hP, _, _, _, _, _, hok⟩ := hc.cells
 obtain ⟨_, okt, okd, _⟩ := hok
 have hbc := hle _ _ hbc
 have hbi := hle _ _ hbi
 have hbn := hle _ _ hbn
 have hmi := hmi.mono hle
 have hmn := hmn.mono hle
 have hln := missE_len Dn N pre
 have hst : missE Dn N (pre ++ [Sum.inr (.mk k t d ti a args cites kids)]) = missE Dn N pre ++ (if k = 14 then (if t ∈ Dn then [] else [t]) else if k = 12 then (if t ∈ N then [] else [t]) else if k = 9 ∧ t = [] ∧ d.head? = some 35 then (if d.tail ∈ Dn then [] else [d.tail]) else []) := by simp [missE, missEv]
 subst hY
 refine FnO.intro [] Tryd.func50 rfl rfl rfl ?_
 intro w0 D hw0
 refine wc_seq ?_
 refine wc_region ?_
 refine ym rfl rfl ?_
 refine rl_y (y_nilCheck_v rfl rfl) rfl ?_
 refine rl_y (y_field_v rfl Tryd.f46' rfl (by decide) rfl) rfl ?_
 refine rl_y (y_load_v rfl Tryd.k3 rfl (by assumption) (vs := [_]) (by first | rfl | exact hP | exact cut_at hP rfl (Nat.le_of_ble_eq_true rfl) rfl) rfl rfl) rfl ?_
 refine rl_end (ρ' := [(0, _), (1, _), (2, _), (3, _), (8, _)]) ⟨rfl, rfl, rfl, rfl, rfl, trivial⟩ ?_
 refine q_then ?_
 refine wc_block ?_
 refine wc_seq ?_
 refine wc_region ?_
 refine rl_y (y_eql rfl rfl rfl) rfl ?_
 refine ya rfl rfl ?_
 refine rl_end (ρ' := [(0, _), (1, _), (2, _), (3, _), (8, _), (9, _)]) ⟨rfl, rfl, rfl, rfl, rfl, rfl, trivial⟩ ?_
 refine q_then ?_
 refine wc_cond rfl (fun hb1 => ?_) (fun hb1 => ?_)
 ·
  have h1 := of_decide_eq_true hb1
  refine wc_draw Tryd.mixed rfl [] trivial ?_
  refine ra_y (i := 0) rfl (by kernel_rfl) (by kernel_rfl) (by kernel_rfl) (np_block (np_finO)) (y_load_v rfl Tryd.k78 rfl (by assumption) (vs := [_]) (by first | rfl | exact hP | exact cut_at hP rfl (Nat.le_of_ble_eq_true rfl) rfl) rfl rfl) rfl ?_
  refine ra_y (i := 1) rfl (by kernel_rfl) (by kernel_rfl) (by kernel_rfl) (np_block (np_finO)) (y_move rfl rfl) rfl ?_
  refine ra_y (i := 2) rfl (by kernel_rfl) (by kernel_rfl) (by kernel_rfl) (np_block (np_finO)) (y_nilCheck_v rfl rfl) rfl ?_
  refine ra_y (i := 3) rfl (by kernel_rfl) (by kernel_rfl) (by kernel_rfl) (np_block (np_finO)) (y_field_v rfl Tryd.f46' rfl (by decide) rfl) rfl ?_
  refine ra_y (i := 4) rfl (by kernel_rfl) (by kernel_rfl) (by kernel_rfl) (np_block (np_finO)) (y_load_v rfl Tryd.k9 rfl (by assumption) (vs := [_]) (by first | rfl | exact hP | exact cut_at hP rfl (Nat.le_of_ble_eq_true rfl) rfl) rfl rfl) rfl ?_
  refine ra_y (i := 5) rfl (by kernel_rfl) (by kernel_rfl) (by kernel_rfl) (np_block (np_finO)) (y_load_v rfl Tryd.k61 rfl (by assumption) (vs := [_]) (by first | rfl | exact hP | exact cut_at hP rfl (Nat.le_of_ble_eq_true rfl) rfl) rfl rfl) rfl ?_
  refine ra_do (i := 6) rfl rfl (by kernel_rfl) ?_
  refine do_call_o (caps := [.pointer (some ⟨b0, 0, none⟩)]) (ρ' := []) [1000] [] trivial rfl rfl rfl Tryd.c49 rfl rfl trivial rfl rfl rfl (FnO.mono (chk_fn b0 mi ki Dn (missE Dn N pre) t (by omega) u' hmi hsi) ?_)
  rintro v u1 l1 hle1 ⟨rfl, rfl⟩ -
  refine ⟨⟨fun _ h => h, trivial⟩, ?_⟩
  refine ra_end (by kernel_rfl) (ρ' := []) trivial ?_
  refine q_block ?_
  refine finO0n [1000]  rfl rfl ?_
  refine ⟨rfl, _, rfl, ?_⟩
  unfold missY
  rw [hst, if_pos h1]
 ·
  have h1 := of_decide_eq_false hb1
  refine wc_seq ?_
  refine wc_region ?_
  refine rl_y (y_eql rfl rfl rfl) rfl ?_
  refine ya rfl rfl ?_
  refine rl_end (ρ' := [(0, _), (1, _), (2, _), (3, _), (8, _), (18, _)]) ⟨rfl, rfl, rfl, rfl, rfl, rfl, trivial⟩ ?_
  refine q_then ?_
  refine wc_cond rfl (fun hb3 => ?_) (fun hb3 => ?_)
  ·
   have h3 := of_decide_eq_true hb3
   refine wc_draw Tryd.mixed rfl [] trivial ?_
   refine ra_y (i := 0) rfl (by kernel_rfl) (by kernel_rfl) (by kernel_rfl) (np_block (np_finO)) (y_load_v rfl Tryd.k78 rfl (by assumption) (vs := [_]) (by first | rfl | exact hP | exact cut_at hP rfl (Nat.le_of_ble_eq_true rfl) rfl) rfl rfl) rfl ?_
   refine ra_y (i := 1) rfl (by kernel_rfl) (by kernel_rfl) (by kernel_rfl) (np_block (np_finO)) (y_move rfl rfl) rfl ?_
   refine ra_y (i := 2) rfl (by kernel_rfl) (by kernel_rfl) (by kernel_rfl) (np_block (np_finO)) (y_nilCheck_v rfl rfl) rfl ?_
   refine ra_y (i := 3) rfl (by kernel_rfl) (by kernel_rfl) (by kernel_rfl) (np_block (np_finO)) (y_field_v rfl Tryd.f46' rfl (by decide) rfl) rfl ?_
   refine ra_y (i := 4) rfl (by kernel_rfl) (by kernel_rfl) (by kernel_rfl) (np_block (np_finO)) (y_load_v rfl Tryd.k9 rfl (by assumption) (vs := [_]) (by first | rfl | exact hP | exact cut_at hP rfl (Nat.le_of_ble_eq_true rfl) rfl) rfl rfl) rfl ?_
   refine ra_y (i := 5) rfl (by kernel_rfl) (by kernel_rfl) (by kernel_rfl) (np_block (np_finO)) (y_load_v rfl Tryd.k61 rfl (by assumption) (vs := [_]) (by first | rfl | exact hP | exact cut_at hP rfl (Nat.le_of_ble_eq_true rfl) rfl) rfl rfl) rfl ?_
   refine ra_do (i := 6) rfl rfl (by kernel_rfl) ?_
   refine do_call_o (caps := [.pointer (some ⟨b0, 0, none⟩)]) (ρ' := []) [1000] [] trivial rfl rfl rfl Tryd.c49 rfl rfl trivial rfl rfl rfl (FnO.mono (chk_fn b0 mn kn N (missE Dn N pre) t (by omega) u' hmn hsn) ?_)
   rintro v u1 l1 hle1 ⟨rfl, rfl⟩ -
   refine ⟨⟨fun _ h => h, trivial⟩, ?_⟩
   refine ra_end (by kernel_rfl) (ρ' := []) trivial ?_
   refine q_block ?_
   refine finO0n [1000]  rfl rfl ?_
   refine ⟨rfl, _, rfl, ?_⟩
   unfold missY
   rw [hst, if_neg h1, if_pos h3]
  ·
   have h3 := of_decide_eq_false hb3
   refine wc_seq ?_
   refine wc_region ?_
   refine rl_y (y_eql rfl rfl rfl) rfl ?_
   refine ya rfl rfl ?_
   refine rl_end (ρ' := [(0, _), (1, _), (2, _), (27, _)]) ⟨rfl, rfl, rfl, rfl, trivial⟩ ?_
   refine q_then ?_
   refine wc_cond rfl (fun hb5 => ?_) (fun hb5 => ?_)
   ·
    have h5 := of_decide_eq_true hb5
    refine wc_seq ?_
    refine wc_cutB 48 (decide (t = [] ∧ d.head? = some 35)) (ρk := [(0, _), (1, _), (2, _)]) ⟨rfl, rfl, rfl, trivial⟩ ?_ ?_
    ·
     refine wc_region ?_
     refine ym rfl rfl ?_
     refine rl_y (y_nilCheck_v rfl rfl) rfl ?_
     refine rl_y (y_field_v rfl Tryd.f46' rfl (by decide) rfl) rfl ?_
     refine rl_y (y_load_v rfl Tryd.k9 rfl (by assumption) (vs := [_]) (by first | rfl | exact hP | exact cut_at hP rfl (Nat.le_of_ble_eq_true rfl) rfl) rfl rfl) rfl ?_
     refine rl_y (y_str_eql rfl rfl rfl) rfl ?_
     refine ym rfl rfl ?_
     rcases Bool.eq_false_or_eq_true (decide (t = [])) with hg6_5 | hg6_5
     ·
      simp only [hg6_5]
      refine rl_on rfl rfl ?_
      refine ym rfl rfl ?_
      refine rl_on rfl rfl ?_
      refine rl_y (y_nilCheck_v rfl rfl) rfl ?_
      refine rl_on rfl rfl ?_
      refine rl_y (y_field_v rfl Tryd.f46' rfl (by decide) rfl) rfl ?_
      refine rl_on rfl rfl ?_
      refine rl_y (y_load_v rfl Tryd.k9 rfl (by assumption) (vs := [_]) (by first | rfl | exact hP | exact cut_at hP rfl (Nat.le_of_ble_eq_true rfl) rfl) rfl rfl) rfl ?_
      refine rl_on rfl rfl ?_
      refine rl_y (y_str_neq rfl rfl rfl) rfl ?_
      refine rl_y (y_pick_t rfl rfl rfl) rfl ?_
      refine ym rfl rfl ?_
      rcases Bool.eq_false_or_eq_true (decide (d ≠ [])) with hg6_12 | hg6_12
      ·
       simp only [hg6_12]
       refine rl_on rfl rfl ?_
       refine ym rfl rfl ?_
       refine rl_on rfl rfl ?_
       refine rl_y (y_nilCheck_v rfl rfl) rfl ?_
       refine rl_on rfl rfl ?_
       refine rl_y (y_field_v rfl Tryd.f46' rfl (by decide) rfl) rfl ?_
       refine rl_on rfl rfl ?_
       refine rl_y (y_load_v rfl Tryd.k9 rfl (by assumption) (vs := [_]) (by first | rfl | exact hP | exact cut_at hP rfl (Nat.le_of_ble_eq_true rfl) rfl) rfl rfl) rfl ?_
       obtain ⟨c0, hc0⟩ : ∃ c0, d[0]? = some c0 := by
        cases d with
        | nil => simp at hg6_12
        | cons x d => exact ⟨x, rfl⟩
       have hd0 : d.head? = some c0 := by rw [← hc0]; cases d <;> rfl
       refine rl_on rfl rfl ?_
       refine rl_y (y_index_str rfl Tryd.str9 rfl rfl (by first | rfl | omega) (by assumption)) rfl ?_
       refine rl_on rfl rfl ?_
       refine rl_y (y_eql rfl rfl rfl) rfl ?_
       rw [u8_35]
       refine rl_y (y_pick_t rfl rfl rfl) rfl ?_
       exact cutB_end rfl ⟨rfl, rfl, rfl, trivial⟩ (by first | (cases d <;> simp_all; done) | simp_all)
      ·
       simp only [hg6_12]
       refine rl_off rfl rfl rfl rfl ?_
       refine rl_off rfl rfl rfl rfl ?_
       refine rl_off rfl rfl rfl rfl ?_
       refine rl_off rfl rfl rfl rfl ?_
       refine rl_off rfl rfl rfl rfl ?_
       refine rl_off rfl rfl rfl rfl ?_
       refine rl_y (y_pick_f rfl rfl rfl) rfl ?_
       exact cutB_end rfl ⟨rfl, rfl, rfl, trivial⟩ (by first | (cases d <;> simp_all; done) | simp_all)
     ·
      simp only [hg6_5]
      refine rl_off rfl rfl rfl rfl ?_
      refine rl_off rfl rfl rfl rfl ?_
      refine rl_off rfl rfl rfl rfl ?_
      refine rl_off rfl rfl rfl rfl ?_
      refine rl_off rfl rfl rfl rfl ?_
      refine rl_y (y_pick_f rfl rfl rfl) rfl ?_
      refine ym rfl rfl ?_
      refine rl_off rfl rfl rfl rfl ?_
      refine rl_off rfl rfl rfl rfl ?_
      refine rl_off rfl rfl rfl rfl ?_
      refine rl_off rfl rfl rfl rfl ?_
      refine rl_off rfl rfl rfl rfl ?_
      refine rl_off rfl rfl rfl rfl ?_
      refine rl_y (y_pick_f rfl rfl rfl) rfl ?_
      exact cutB_end rfl ⟨rfl, rfl, rfl, trivial⟩ (by first | (cases d <;> simp_all; done) | simp_all)
    refine q_then ?_
    refine wc_cond rfl (fun hb6 => ?_) (fun hb6 => ?_)
    ·
     have h6 := of_decide_eq_true hb6; have hdl : 1 ≤ d.length := (by cases d with | nil => simp at h6 | cons x d => simp)
     refine wc_draw Tryd.mixed rfl [] trivial ?_
     refine ra_y (i := 0) rfl (by kernel_rfl) (by kernel_rfl) (by kernel_rfl) (np_block (np_finO)) (y_load_v rfl Tryd.k78 rfl (by assumption) (vs := [_]) (by first | rfl | exact hP | exact cut_at hP rfl (Nat.le_of_ble_eq_true rfl) rfl) rfl rfl) rfl ?_
     refine ra_y (i := 1) rfl (by kernel_rfl) (by kernel_rfl) (by kernel_rfl) (np_block (np_finO)) (y_move rfl rfl) rfl ?_
     refine ra_y (i := 2) rfl (by kernel_rfl) (by kernel_rfl) (by kernel_rfl) (np_block (np_finO)) (y_nilCheck_v rfl rfl) rfl ?_
     refine ra_y (i := 3) rfl (by kernel_rfl) (by kernel_rfl) (by kernel_rfl) (np_block (np_finO)) (y_field_v rfl Tryd.f46' rfl (by decide) rfl) rfl ?_
     refine ra_y (i := 4) rfl (by kernel_rfl) (by kernel_rfl) (by kernel_rfl) (np_block (np_finO)) (y_load_v rfl Tryd.k9 rfl (by assumption) (vs := [_]) (by first | rfl | exact hP | exact cut_at hP rfl (Nat.le_of_ble_eq_true rfl) rfl) rfl rfl) rfl ?_
     refine ra_y (i := 5) rfl (by kernel_rfl) (by kernel_rfl) (by kernel_rfl) (np_block (np_finO)) (y_slice_str (i := 1) (j := d.length) (k' := .i64) rfl Tryd.str9 rfl rfl rfl hdl (Nat.le_refl _)) rfl ?_
     rw [tail_take]
     refine ra_y (i := 6) rfl (by kernel_rfl) (by kernel_rfl) (by kernel_rfl) (np_block (np_finO)) (y_load_v rfl Tryd.k61 rfl (by assumption) (vs := [_]) (by first | rfl | exact hP | exact cut_at hP rfl (Nat.le_of_ble_eq_true rfl) rfl) rfl rfl) rfl ?_
     refine ra_do (i := 7) rfl rfl (by kernel_rfl) ?_
     refine do_call_o (caps := [.pointer (some ⟨b0, 0, none⟩)]) (ρ' := []) [1000] [] trivial rfl rfl rfl Tryd.c49 rfl rfl trivial rfl rfl rfl (FnO.mono (chk_fn b0 mi ki Dn (missE Dn N pre) d.tail (by omega) u' hmi hsi) ?_)
     rintro v u1 l1 hle1 ⟨rfl, rfl⟩ -
     refine ⟨⟨fun _ h => h, trivial⟩, ?_⟩
     refine ra_end (by kernel_rfl) (ρ' := []) trivial ?_
     refine q_block ?_
     refine finO0n [1000]  rfl rfl ?_
     refine ⟨rfl, _, rfl, ?_⟩
     unfold missY
     rw [hst, if_neg h1, if_neg h3, if_pos (c := k = 9 ∧ t = [] ∧ d.head? = some 35) ⟨h5, h6⟩]
    ·
     have h6 := of_decide_eq_false hb6
     refine wc_skip ?_
     refine q_block ?_
     refine finO0n [1000]  rfl rfl ?_
     refine ⟨rfl, _, rfl, ?_⟩
     unfold missY
     rw [hst, if_neg h1, if_neg h3, if_neg (fun h => h6 h.2), List.append_nil]
   ·
    have h5 := of_decide_eq_false hb5
    refine wc_skip ?_
    refine q_block ?_
    refine finO0n [1000]  rfl rfl ?_
    refine ⟨rfl, _, rfl, ?_⟩
    unfold missY
    rw [hst, if_neg h1, if_neg h3, if_neg (fun h => h5 h.1), List.append_nil]
set_option maxHeartbeats 1000000 in
theorem missing_fn (vm vb : Value) (bs : List Blk) (u : View) (hbig : szB bs ≤ 100000) (ha : BlkS u vb bs) :
  FnP Tryd.prog 30 [.agg #[vm, vb]] u fun r u' => StrS u' r (missOf bs) := by
 have hnl := namesE_len (evB bs)
 rw [evB_len] at hnl
 have hnl : (namesOf bs).length ≤ szB bs := hnl
 refine FnP.intro [.tmp 2] Tryd.func30 rfl rfl rfl ?_
 intro w0 D hw0
 refine wc_seq ?_
 refine wc_region ?_
 refine rl_do rfl rfl ?_
 refine do_box trivial rfl (cs := [_, _]) rfl rfl rfl rfl ?_
 refine ya rfl rfl ?_
 refine rl_end (ρ' := [(1, _)]) ⟨rfl, trivial⟩ ?_
 refine q_then ?_
 refine wc_seq ?_
 refine wc_region ?_
 refine rl_do rfl rfl ?_
 refine do_makeMap trivial rfl rfl rfl ?_
 refine rl_do rfl rfl ?_
 refine do_makeMap trivial rfl rfl rfl ?_
 refine rl_do rfl rfl ?_
 refine do_alloc trivial Tryd.z61 rfl rfl rfl ?_
 refine rl_do rfl rfl ?_
 refine do_alloc trivial Tryd.z61 rfl rfl rfl ?_
 refine rl_name 9 rfl ⟨9, 0, .inr rfl⟩ ?_
 intro b9
 refine rl_do rfl rfl ?_
 refine do_store_p trivial rfl Tryd.k61 rfl rfl rfl (vs := [_]) rfl rfl (by first | rfl | assumption | simp [Value.oneCell', str]) (Nat.le_of_ble_eq_true rfl) rfl ?_
 refine rl_name 10 rfl ⟨10, 0, .inr rfl⟩ ?_
 intro b10
 refine rl_do rfl rfl ?_
 refine do_store_p trivial rfl Tryd.k61 rfl rfl rfl (vs := [_]) rfl rfl (by first | rfl | assumption | simp [Value.oneCell', str]) (Nat.le_of_ble_eq_true rfl) rfl ?_
 refine rl_reveal 4 rfl ?_
 intro b4 T4 u4 hle4z hu4 hpn4
 refine rl_end (ρ' := [(1, _), (3, _), (4, _)]) ⟨rfl, rfl, rfl, trivial⟩ ?_
 refine q_then ?_
 refine wc_seq ?_
 refine wc_seq ?_
 refine wc_region ?_
 refine rl_y (y_load_p rfl Tryd.k25 rfl rfl rfl (vs := [_, _]) rfl rfl rfl) rfl ?_
 refine rl_do rfl rfl ?_
 refine do_call (caps := []) trivial rfl rfl Tryd.c11 rfl (FnP.mono (labNames_fn vm vb bs _ hbig (ha.mono hle4z)) ?_)
 rintro v uN hle0 ⟨adn, capn, rfl, hn⟩ hleN
 refine rl_y (y_len_v rfl rfl Tryd.s29 rfl) rfl ?_
 refine ym rfl rfl ?_
 refine rl_end (ρ' := [(1, _), (3, _), (4, _), (12, _), (13, _), (14, _)]) ⟨rfl, rfl, rfl, rfl, rfl, rfl, trivial⟩ ?_
 refine q_then ?_
 refine wc_block ?_
 refine wc_loop (fun m ρ σ u' => ∃ i : Nat, i + m = (namesOf bs).length ∧ VLe uN u' ∧ ∃ (ki : List (Value × Value)), σ = [(1, (none, .box [vm, vb])), (3, (none, .box [.map (some b9)])), (9, (some b9, .mp ki)), (10, (some b10, .mp []))] ∧ ρ = [(1, .p 1 0), (3, .p 3 0), (4, .v (.pointer (some ⟨b4, 0, none⟩))), (12, .v (.slice adn (namesOf bs).length capn)), (13, .v (.int .i64 (namesOf bs).length)), (14, .v (.int .i64 i))] ∧ (uN = u' ∧ SetM ki ((namesOf bs).take i))) ((namesOf bs).length) ?_ ?_
 ·
  refine ⟨[(1, _), (3, _), (4, _), (12, _), (13, _), (14, _)], [(1, _), (3, _), (9, _), (10, _)], ⟨rfl, rfl, rfl, rfl, rfl, rfl, trivial⟩, ⟨rfl, rfl, rfl, rfl, trivial⟩, 0, by omega, VLe.refl _, [], rfl, rfl, ?_⟩
  exact ⟨rfl, SetM.nil⟩
 ·
  rintro m ρ σ u' ⟨i, hi3, hle3, ki, rfl, rfl, ⟨rfl, hSi⟩⟩
  refine wc_seq ?_
  refine wc_region ?_
  refine rl_y (y_lss rfl rfl rfl) rfl ?_
  refine rl_end (ρ' := [(1, _), (3, _), (4, _), (12, _), (13, _), (14, _), (15, _)]) ⟨rfl, rfl, rfl, rfl, rfl, rfl, rfl, trivial⟩ ?_
  refine q_then ?_
  refine wc_seq ?_
  refine wc_cond rfl (fun hb3 => ?_) (fun hb3 => ?_)
  ·
   have hlt : i < (namesOf bs).length := (by have := of_decide_eq_true hb3; omega); have hg := List.getElem?_eq_getElem hlt; have hcut := cut_strsC hg; have hk := hSi.1
   refine wc_skip ?_
   refine q_then ?_
   refine wc_seq ?_
   refine wc_block ?_
   refine wc_seq ?_
   refine wc_region ?_
   refine rl_y (y_index_e rfl Tryd.s29 rfl rfl (by assumption) (by first | rfl | omega) (by omega)) rfl ?_
   refine rl_y (y_load_el rfl Tryd.k9 rfl (by assumption) (by omega) (by assumption) (vs := [_]) rfl rfl rfl rfl) rfl ?_
   refine ya rfl rfl ?_
   refine rl_end (ρ' := [(1, _), (3, _), (4, _), (6, _), (12, _), (13, _), (14, _)]) ⟨rfl, rfl, rfl, rfl, rfl, rfl, rfl, trivial⟩ ?_
   refine q_then ?_
   refine wc_region ?_
   refine rl_y (y_load_bm (id2 := 9) rfl Tryd.k61 rfl rfl rfl rfl rfl) rfl ?_
   refine ym rfl rfl ?_
   refine rl_do rfl rfl ?_
   refine do_mapUpdate trivial rfl Tryd.m61 Tryd.str9 rfl rfl rfl rfl rfl (by assumption) ?_
   refine rl_end (ρ' := [(1, _), (3, _), (4, _), (12, _), (13, _), (14, _)]) ⟨rfl, rfl, rfl, rfl, rfl, rfl, trivial⟩ ?_
   refine q_block ?_
   refine q_then ?_
   refine wc_region ?_
   refine rl_y (y_add rfl rfl rfl (wrap64_id (by omega))) rfl ?_
   refine ym rfl rfl ?_
   refine rl_end (ρ' := [(1, _), (3, _), (4, _), (12, _), (13, _), (14, _)]) ⟨rfl, rfl, rfl, rfl, rfl, rfl, trivial⟩ ?_
   refine q_thenK ?_
   refine ⟨m - 1, [(1, _), (3, _), (4, _), (12, _), (13, _), (14, _)], [(1, _), (3, _), (9, _), (10, _)], by omega, ⟨rfl, rfl, rfl, rfl, rfl, rfl, trivial⟩, ⟨rfl, rfl, rfl, rfl, trivial⟩, i + 1, by omega, hle3, _, (by first | rfl | simp), (by first | rfl | (simp only [List.cons.injEq, Prod.mk.injEq, SV.v.injEq, Value.int.injEq, true_and, and_true]; omega) | simp), ?_⟩
   exact ⟨rfl, by rw [List.take_succ_eq_append_getElem hlt]; exact hSi.add _⟩
  ·
   have hge := of_decide_eq_false hb3; rw [List.take_of_length_le (by omega)] at hSi
   refine wc_exit ?_
   refine q_then_exit ?_
   refine q_then_exit ?_
   refine q_block_hit ?_
   refine q_then ?_
   refine wc_seq ?_
   have hu4 := hleN _ _ hu4
   refine wc_region ?_
   refine rl_y (y_makeFunc rfl rfl rfl) rfl ?_
   refine rl_y (y_build rfl Tryd.f58' Tryd.z58 (ps := [(_, _)]) rfl (vs := [_, _]) rfl) rfl ?_
   refine rl_y (y_field_p rfl Tryd.f25' rfl (by decide) rfl) rfl ?_
   refine rl_y (y_load_p rfl Tryd.k23 rfl rfl rfl (vs := [_]) rfl rfl rfl) rfl ?_
   refine rl_do rfl rfl ?_
   refine do_call_o (caps := []) (ρ' := [(1, _), (3, _), (4, _)]) [10] [] trivial rfl rfl rfl Tryd.c28 rfl rfl ⟨rfl, rfl, rfl, trivial⟩ rfl rfl rfl (FnO.mono (vBlk_fn _ _ b10 notesY (fun _ _ _ _ _ h ↦ h) (szB bs) _ bs [] _ uN (Nat.le_refl _) (by simp; omega) ((ha.mono hle4z).mono hleN) (.inr ⟨48, [.pointer (some ⟨b4, 0, none⟩)], rfl, Tryd.c48, fun pre o u' p x hle hl hY hp ↦ missN_fn b4 b10 uN _ _ hu4 pre o u' p x hle hl hY hp⟩) (.inl ⟨rfl, fun u' pre o x ⟨kvs, h1, h2⟩ ↦ ⟨kvs, h1, by simpa [evNote] using h2⟩⟩) ⟨[], rfl, SetM.nil⟩) ?_)
   rintro v uV l1 hleV ⟨rfl, oV, rfl, ⟨kn, rfl, hkn⟩⟩ -
   refine ⟨⟨fun _ h => h, trivial⟩, ?_⟩
   refine rl_end (ρ' := [(1, _), (3, _), (4, _)]) ⟨rfl, rfl, rfl, trivial⟩ ?_
   refine q_then ?_
   refine wc_seq ?_
   refine wc_region ?_
   refine rl_do rfl rfl ?_
   refine do_alloc_rb 9 1 trivial Tryd.z29 rfl rfl rfl ?_
   refine rl_reveal 3 rfl ?_
   intro b3 T3 u3 hle3z hu3 hpn3
   refine rl_freezeM 9 rfl ?_
   intro b9 u9 hle9z hm9 hpn9
   refine rl_freezeM 10 rfl ?_
   intro b10 u10 hle10z hm10 hpn10
   obtain rfl := hpn9 _ rfl
   obtain rfl := hpn10 _ rfl
   have hSN : SetM kn (noteNames (listB bs)) := by rw [← evNote_all]; simpa using hkn
   have ha2 := ((((((ha.mono hle4z).mono hleN).mono hleV).mono hle3z).mono hle9z).mono hle10z)
   have hu4 := hle10z _ _ (hle9z _ _ (hle3z _ _ (hleV _ _ hu4)))
   have hu3 := hle10z _ _ (hle9z _ _ hu3)
   have hm9 := hm9.mono hle10z
   refine rl_end (ρ' := [(1, _), (3, _), (4, _), (7, _)]) ⟨rfl, rfl, rfl, rfl, trivial⟩ ?_
   refine q_then ?_
   refine wc_seq ?_
   refine wc_region ?_
   refine rl_name 7 rfl ⟨7, _, .inl rfl⟩ ?_
   intro b7
   refine rl_y (y_makeFunc rfl rfl rfl) rfl ?_
   refine rl_do rfl rfl ?_
   refine do_alloc trivial Tryd.z78 rfl rfl rfl ?_
   refine rl_do rfl rfl ?_
   refine do_store_p trivial rfl Tryd.k78 rfl rfl rfl (vs := [_]) rfl rfl (by first | rfl | assumption | simp [Value.oneCell', str]) (Nat.le_of_ble_eq_true rfl) rfl ?_
   refine rl_reveal 8 rfl ?_
   intro b8 T8 u8 hle8z hu8 hpn8
   have ha2 := ha2.mono hle8z
   have hu4 := hle8z _ _ hu4
   have hu3 := hle8z _ _ hu3
   have hm9 := hm9.mono hle8z
   have hm10 := hm10.mono hle8z
   refine rl_end (ρ' := [(1, _), (3, _), (4, _), (7, _), (8, _)]) ⟨rfl, rfl, rfl, rfl, rfl, trivial⟩ ?_
   refine q_then ?_
   refine wc_seq ?_
   refine wc_region ?_
   refine rl_y (y_makeFunc rfl rfl rfl) rfl ?_
   refine rl_y (y_build rfl Tryd.f58' Tryd.z58 (ps := [(_, _)]) rfl (vs := [_, _]) rfl) rfl ?_
   refine rl_y (y_field_p rfl Tryd.f25' rfl (by decide) rfl) rfl ?_
   refine rl_y (y_load_p rfl Tryd.k23 rfl rfl rfl (vs := [_]) rfl rfl rfl) rfl ?_
   refine rl_do rfl rfl ?_
   refine do_call_o (caps := []) (ρ' := [(7, _)]) [7] [] trivial rfl rfl rfl Tryd.c28 rfl rfl ⟨rfl, trivial⟩ rfl rfl rfl (FnO.mono (vBlk_fn _ _ b7 (missY (namesOf bs) (noteNames (listB bs))) (fun _ _ _ _ _ h ↦ h) (szB bs) _ bs [] _ u8 (Nat.le_refl _) (by simp; omega) ha2 (.inl ⟨rfl, fun u' pre o x h ↦ by unfold missY at h ⊢; rw [h]; simp [missE, missEv]⟩) (.inr ⟨50, [.pointer (some ⟨b8, 0, none⟩), .pointer (some ⟨b3, 0, none⟩), .pointer (some ⟨b4, 0, none⟩)], rfl, Tryd.c50, fun pre o u' p x hle hl hY hp ↦ missI_fn b8 b3 b4 b7 _ _ ki kn (namesOf bs) (noteNames (listB bs)) u8 _ _ _ _ _ _ hu8 hu3 hu4 hm9 hm10 hSi hSN pre o u' p x hle hl hY hp⟩) rfl) ?_)
   rintro v uW l1 hleW ⟨rfl, oW, rfl, rfl⟩ -
   refine ⟨⟨fun _ h => h, trivial⟩, ?_⟩
   refine rl_end (ρ' := [(7, _)]) ⟨rfl, trivial⟩ ?_
   refine q_then ?_
   refine wc_seq ?_
   refine wc_region ?_
   refine rl_y (y_load_rb rfl Tryd.k29 rfl rfl rfl) rfl ?_
   refine rl_freeze_rb 7 rfl ?_
   intro ad7 cap7 u7 hle7z hsl7
   refine ya rfl rfl ?_
   refine rl_end (ρ' := [(2, _)]) ⟨rfl, trivial⟩ ?_
   refine q_then ?_
   refine wc_ret ?_
   refine fin1 (.tmp rfl) ?_
   exact strS_of' rfl (by simpa [missOf] using hsl7)
end Go.Proofs.Ythkgcakpjknlbaa
namespace Go.Proofs.Ythkgcakpjknlbaa
open Go Go.Eng
set_option linter.unusedSimpArgs false
set_option linter.unusedVariables false
set_option maxRecDepth 4000
theorem smB_mem : ∀ (n : Nat) (bs : List Blk), szB bs ≤ n → smB bs → ∀ x ∈ listB bs, smB1 x ∧ szI (lineOf x) ≤ szB bs := by
 intro n
 induction n with
 | zero =>
  intro bs hn _ x hx
  cases bs with
  | nil => simp [listB] at hx
  | cons y ys => cases y; simp [szB, szb] at hn
 | succ n ih =>
  intro bs hn hs x hx
  cases bs with
  | nil => simp [listB] at hx
  | cons y ys =>
   unfold smB at hs
   have h0 := hs.1
   obtain ⟨k, lv, inf, t, d, ti, a, line, kids⟩ := y
   simp only [szB, szb] at hn ⊢
   rw [listB, listb, List.cons_append] at hx
   rcases List.mem_cons.1 hx with rfl | hx
   ·
    exact ⟨h0, by simp only [lineOf]; omega⟩
   ·
    have h1 := h0
    unfold smB1 at h1
    rcases List.mem_append.1 hx with hx | hx
    ·
     obtain ⟨q1, q2⟩ := ih kids (by omega) h1.2.2.2.2.2 x hx
     exact ⟨q1, by omega⟩
    ·
     obtain ⟨q1, q2⟩ := ih ys (by omega) hs.2 x hx
     exact ⟨q1, by omega⟩
theorem gdB_of (R : RepI) (kp : Blk → Bool) (bs : List Blk) (hs : smB bs) (hbig : szB bs ≤ 100000) (hR : ∀ xs, smI xs → szI xs ≤ 100000 → R.Gd xs) : GdB R kp bs := by
 intro x hx
 obtain ⟨h1, h2⟩ := smB_mem _ bs (Nat.le_refl _) hs x hx
 obtain ⟨k, lv, inf, t, d, ti, a, line, kids⟩ := x
 unfold smB1 at h1
 exact ⟨hR _ h1.2.2.2.2.1 (by simp only [lineOf] at h2 ⊢; omega), by omega, by omega⟩
def DefM (u : View) (kvs : List (Value × Value)) (L : List Blk) : Prop := kvs.all (fun p => isKey .string p.1) = true ∧ ∀ s, match defOf L s with
 | none => mget kvs (str s) = none
 | some b => ∃ cs, mget kvs (str s) = some (.agg cs.toArray) ∧ BlkC u b cs
theorem DefM.mono {u u' : View} {kvs : List (Value × Value)} {L : List Blk} (h : DefM u kvs L) (hu : VLe u u') : DefM u' kvs L := by
 refine ⟨h.1, fun s => ?_⟩
 have := h.2 s
 cases hd : defOf L s with
 | none => rw [hd] at this; exact this
 | some b => rw [hd] at this; obtain ⟨cs, h1, h2⟩ := this; exact ⟨cs, h1, h2.mono hu⟩
abbrev zeroB : List Value := [.int .i64 0, .int .i64 0, str [], str [], str [], str [], str [], .slice none 0 0, .slice none 0 0, .slice none 0 0, .slice none 0 0]
theorem DefM.val {u : View} {kvs : List (Value × Value)} {L : List Blk} (h : DefM u kvs L) (s : Bs) : ∃ k lv inf t d ti id vc vp vl vk, (mget kvs (str s)).getD (.agg zeroB.toArray) = .agg (blkV k lv inf t d ti id vc vp vl vk).toArray ∧ (mget kvs (str s)).isSome = (defOf L s).isSome ∧ d = destO (defOf L s) ∧ ti = titleO (defOf L s) ∧ d.length ≤ 140737488351232 ∧ ti.length ≤ 140737488351232 ∧ (blkV k lv inf t d ti id vc vp vl vk).all Value.oneCell' = true := by
 have := h.2 s
 cases hd : defOf L s with
 | none =>
  rw [hd] at this
  rw [this]
  exact ⟨_, _, _, _, _, _, _, _, _, _, _, rfl, rfl, rfl, rfl, by simp, by simp, rfl⟩
 | some b =>
  rw [hd] at this
  obtain ⟨cs, h1, h2⟩ := this
  rw [h1]
  obtain ⟨k, lv, inf, t, d, ti, a, line, kids⟩ := b
  have one := h2.one
  obtain ⟨vc, vp, vl, vk, rfl, _, _, _, _, hok⟩ := h2.cells
  obtain ⟨_, _, _, _, o5, o6, _⟩ := hok
  exact ⟨k, lv, inf, t, d, ti, a.id, vc, vp, vl, vk, rfl, rfl, rfl, rfl, o5, o6, one⟩
end Go.Proofs.Ythkgcakpjknlbaa
namespace Go.Proofs.Ythkgcakpjknlbaa
open Go Go.Eng
set_option linter.unusedSimpArgs false
set_option linter.unusedVariables false
set_option maxRecDepth 4000
abbrev bldL (b : Nat) (q : Option Addr) (ad : Option Addr) (cap : Nat) (l : Bs) : List PO := [(some b, .bt 117 [.pointer q, .slice ad l.length cap]), (none, .rwv (.slice ad l.length cap) 5 1 l.length (bytesC l))]
abbrev selfQ (b : Nat) : Option Addr := some ⟨b, 0, none⟩
def QOk (b : Nat) (q : Option Addr) : Prop := q = none ∨ q = selfQ b
theorem copyCheck0_fn (b : Nat) (v : Value) (hv : Value.oneCell' v = true) (u : View) :
  FnO Tryd.prog 94 [.pointer (some ⟨b, 0, none⟩)] u [(some b, .bt 117 [.pointer none, v])] fun r u' l' => r = .tuple #[] ∧ l' = [(some b, .bt 117 [.pointer (selfQ b), v])] := by
 refine FnO.intro [] Tryd.func94 rfl rfl rfl ?_
 intro w0 D hw0
 refine wc_pin 0 1000 _ 0 rfl rfl ?_
 refine wc_seq ?_
 refine wc_region ?_
 refine ym rfl rfl ?_
 refine rl_y (y_nilCheck_p rfl rfl) rfl ?_
 refine rl_y (y_field_p rfl Tryd.f117' rfl (by decide) rfl) rfl ?_
 refine rl_y (y_load_t rfl Tryd.k114 rfl rfl rfl (vs := [_]) rfl rfl rfl) rfl ?_
 refine rl_y (y_ptr_eql_nil (e := 117) rfl (by kernel_rfl) rfl rfl) rfl ?_
 refine rl_end (ρ' := [(0, _), (6, _)]) ⟨rfl, rfl, trivial⟩ ?_
 refine q_then ?_
 refine wc_cond_t rfl (rfl) ?_
 refine wc_region ?_
 refine ym rfl rfl ?_
 refine ym rfl rfl ?_
 refine rl_y (y_to_unsafe (t := 117) rfl (by kernel_rfl) (by kernel_rfl) Tryd.k117 rfl rfl rfl rfl rfl) rfl ?_
 refine rl_y (y_noEscape rfl ⟨_, Tryd.func102, by kernel_rfl, by kernel_rfl, by kernel_rfl, by kernel_rfl⟩ rfl) rfl ?_
 refine rl_y (y_from_unsafe (t := 117) rfl (by kernel_rfl) (by kernel_rfl) Tryd.k117 rfl rfl rfl (by kernel_rfl)) rfl ?_
 refine rl_y (y_nilCheck_p rfl rfl) rfl ?_
 refine rl_y (y_field_p rfl Tryd.f117' rfl (by decide) rfl) rfl ?_
 refine rl_do rfl rfl ?_
 refine do_store_t trivial rfl Tryd.k114 rfl rfl rfl (vs := [_]) rfl rfl rfl (Nat.le_of_ble_eq_true rfl) rfl ?_
 refine rl_end (ρ' := []) trivial ?_
 refine finO0n [1000]  rfl rfl ?_
 exact ⟨rfl, rfl⟩
theorem copyCheck1_fn (b : Nat) (v : Value) (u : View) :
  FnO Tryd.prog 94 [.pointer (some ⟨b, 0, none⟩)] u [(some b, .bt 117 [.pointer (selfQ b), v])] fun r u' l' => r = .tuple #[] ∧ l' = [(some b, .bt 117 [.pointer (selfQ b), v])] := by
 refine FnO.intro [] Tryd.func94 rfl rfl rfl ?_
 intro w0 D hw0
 refine wc_pin 0 1000 _ 0 rfl rfl ?_
 refine wc_seq ?_
 refine wc_region ?_
 refine ym rfl rfl ?_
 refine rl_y (y_nilCheck_p rfl rfl) rfl ?_
 refine rl_y (y_field_p rfl Tryd.f117' rfl (by decide) rfl) rfl ?_
 refine rl_y (y_load_t rfl Tryd.k114 rfl rfl rfl (vs := [_]) rfl rfl rfl) rfl ?_
 refine rl_y (y_ptr_eql_nil (e := 117) rfl (by kernel_rfl) rfl rfl) rfl ?_
 refine rl_end (ρ' := [(0, _), (6, _)]) ⟨rfl, rfl, trivial⟩ ?_
 refine q_then ?_
 refine wc_cond_f rfl (rfl) ?_
 refine wc_seq ?_
 refine wc_region ?_
 refine ym rfl rfl ?_
 refine rl_y (y_nilCheck_p rfl rfl) rfl ?_
 refine rl_y (y_field_p rfl Tryd.f117' rfl (by decide) rfl) rfl ?_
 refine rl_y (y_load_t rfl Tryd.k114 rfl rfl rfl (vs := [_]) rfl rfl rfl) rfl ?_
 refine ym rfl rfl ?_
 refine rl_y (y_ptr_neq_self (e := 117) rfl (by kernel_rfl) Tryd.k117 rfl rfl) rfl ?_
 refine rl_end (ρ' := [(19, _)]) ⟨rfl, trivial⟩ ?_
 refine q_then ?_
 refine wc_cond_f rfl (rfl) ?_
 refine wc_skip ?_
 refine finO0n [1000]  rfl rfl ?_
 exact ⟨rfl, rfl⟩
theorem copyCheck_fn (b : Nat) (q : Option Addr) (hq : QOk b q) (v : Value) (hv : Value.oneCell' v = true) (u : View) :
  FnO Tryd.prog 94 [.pointer (some ⟨b, 0, none⟩)] u [(some b, .bt 117 [.pointer q, v])] fun r u' l' => r = .tuple #[] ∧ l' = [(some b, .bt 117 [.pointer (selfQ b), v])] := by
 rcases hq with rfl | rfl
 ·
  exact copyCheck0_fn b v hv u
 ·
  exact copyCheck1_fn b v u
theorem writeString_fn (b : Nat) (q : Option Addr) (hq : QOk b q) (ad : Option Addr) (cap : Nat) (l s : Bs) (hl : l.length + s.length ≤ 1000000000) (u : View) :
  FnO Tryd.prog 81 [.pointer (some ⟨b, 0, none⟩), str s] u (bldL b q ad cap l) fun r u' l' => r = .tuple #[.int .i64 s.length, .nilIface] ∧ ∃ ad' cap', l' = bldL b (selfQ b) ad' cap' (l ++ s) := by
 refine FnO.intro [.tmp 4, .tmp 5] Tryd.func81 rfl rfl rfl ?_
 intro w0 D hw0
 refine wc_pin 0 1000 _ 0 rfl rfl ?_
 refine wc_seq ?_
 refine wc_region ?_
 refine ya rfl rfl ?_
 refine ya rfl rfl ?_
 refine rl_end (ρ' := [(0, _), (1, _)]) ⟨rfl, rfl, trivial⟩ ?_
 refine q_then ?_
 refine wc_seq ?_
 refine wc_region ?_
 refine ym rfl rfl ?_
 refine rl_do rfl rfl ?_
 refine do_call_o (caps := []) (ρ' := [(0, _), (1, _)]) [1000] [] trivial rfl rfl rfl Tryd.c94 rfl rfl ⟨rfl, rfl, trivial⟩ rfl rfl rfl (FnO.mono (copyCheck_fn b q hq (.slice ad l.length cap) rfl u) ?_)
 rintro v u1 l1 hle1 ⟨rfl, rfl⟩ -
 refine ⟨⟨fun _ h => h, trivial⟩, ?_⟩
 refine rl_end (ρ' := [(0, _), (1, _)]) ⟨rfl, rfl, trivial⟩ ?_
 refine q_then ?_
 refine wc_seq ?_
 refine wc_region ?_
 refine ym rfl rfl ?_
 refine ym rfl rfl ?_
 refine rl_y (y_nilCheck_p rfl rfl) rfl ?_
 refine rl_y (y_field_p rfl Tryd.f117' rfl (by decide) rfl) rfl ?_
 refine rl_y (y_load_t rfl Tryd.k115 rfl rfl rfl (vs := [_]) rfl rfl rfl) rfl ?_
 refine ym rfl rfl ?_
 refine rl_do rfl rfl ?_
 refine do_append_str 1001 trivial rfl rfl Tryd.s115 (by kernel_rfl) rfl (by kernel_rfl) rfl rfl rfl rfl rfl (by omega) ?_
 intro ad' cap'
 refine rl_y (y_nilCheck_p rfl rfl) rfl ?_
 refine rl_y (y_field_p rfl Tryd.f117' rfl (by decide) rfl) rfl ?_
 refine rl_do rfl rfl ?_
 refine do_store_t trivial rfl Tryd.k115 rfl rfl rfl (vs := [_]) rfl rfl rfl (Nat.le_of_ble_eq_true rfl) rfl ?_
 refine rl_end (ρ' := [(1, _)]) ⟨rfl, trivial⟩ ?_
 refine q_then ?_
 refine wc_seq ?_
 refine wc_region ?_
 refine ym rfl rfl ?_
 refine rl_y (y_len_str rfl rfl Tryd.str9 rfl) rfl ?_
 refine ya rfl rfl ?_
 refine ya rfl rfl ?_
 refine rl_end (ρ' := [(4, _), (5, _)]) ⟨rfl, rfl, trivial⟩ ?_
 refine q_then ?_
 refine wc_ret ?_
 refine finO2 [1000, 1001] (.tmp rfl) (.tmp rfl) rfl rfl ?_
 exact ⟨rfl, ad', cap', by simp [bldL, bytesC_append]; rfl⟩
theorem writeByte_fn (b : Nat) (q : Option Addr) (hq : QOk b q) (ad : Option Addr) (cap : Nat) (l : Bs) (c : UInt8) (hl : l.length + 1 ≤ 1000000000) (u : View) :
  FnO Tryd.prog 89 [.pointer (some ⟨b, 0, none⟩), .int .u8 c.toNat] u (bldL b q ad cap l) fun r u' l' => r = .nilIface ∧ ∃ ad' cap', l' = bldL b (selfQ b) ad' cap' (l ++ [c]) := by
 refine FnO.intro [.tmp 4] Tryd.func89 rfl rfl rfl ?_
 intro w0 D hw0
 refine wc_pin 0 1000 _ 0 rfl rfl ?_
 refine wc_seq ?_
 refine wc_region ?_
 refine ya rfl rfl ?_
 refine rl_end (ρ' := [(0, _), (1, _)]) ⟨rfl, rfl, trivial⟩ ?_
 refine q_then ?_
 refine wc_seq ?_
 refine wc_region ?_
 refine ym rfl rfl ?_
 refine rl_do rfl rfl ?_
 refine do_call_o (caps := []) (ρ' := [(0, _), (1, _)]) [1000] [] trivial rfl rfl rfl Tryd.c94 rfl rfl ⟨rfl, rfl, trivial⟩ rfl rfl rfl (FnO.mono (copyCheck_fn b q hq (.slice ad l.length cap) rfl u) ?_)
 rintro v u1 l1 hle1 ⟨rfl, rfl⟩ -
 refine ⟨⟨fun _ h => h, trivial⟩, ?_⟩
 refine rl_end (ρ' := [(0, _), (1, _)]) ⟨rfl, rfl, trivial⟩ ?_
 refine q_then ?_
 refine wc_seq ?_
 refine wc_region ?_
 refine ym rfl rfl ?_
 refine ym rfl rfl ?_
 refine rl_y (y_nilCheck_p rfl rfl) rfl ?_
 refine rl_y (y_field_p rfl Tryd.f117' rfl (by decide) rfl) rfl ?_
 refine rl_y (y_load_t rfl Tryd.k115 rfl rfl rfl (vs := [_]) rfl rfl rfl) rfl ?_
 refine ym rfl rfl ?_
 refine rl_do rfl rfl ?_
 refine do_buildSlice trivial Tryd.s115 Tryd.z5 (ps := [(_, _)]) rfl (xs := [_]) rfl rfl rfl rfl rfl rfl rfl ?_
 refine rl_do rfl rfl ?_
 refine do_append_w_s 1001 trivial rfl rfl Tryd.s115 Tryd.z5 rfl rfl rfl rfl rfl rfl rfl (by omega) (by omega) rfl rfl ?_
 intro ad' cap'
 refine rl_y (y_nilCheck_p rfl rfl) rfl ?_
 refine rl_y (y_field_p rfl Tryd.f117' rfl (by decide) rfl) rfl ?_
 refine rl_do rfl rfl ?_
 refine do_store_t trivial rfl Tryd.k115 rfl rfl rfl (vs := [_]) rfl rfl rfl (Nat.le_of_ble_eq_true rfl) rfl ?_
 refine rl_end (ρ' := []) trivial ?_
 refine q_then ?_
 refine wc_seq ?_
 refine wc_region ?_
 refine ya rfl rfl ?_
 refine rl_end (ρ' := [(4, _)]) ⟨rfl, trivial⟩ ?_
 refine q_then ?_
 refine wc_ret ?_
 refine finO1 [1000, 1001] (.tmp rfl) rfl rfl ?_
 exact ⟨rfl, ad', cap', by simp [bldL, bytesC_append]; exact ⟨rfl, rfl⟩⟩
theorem bldString_fn (b : Nat) (q : Option Addr) (ad : Option Addr) (cap : Nat) (l : Bs) (hl : l.length ≤ 1000000000) (u : View) :
  FnO Tryd.prog 78 [.pointer (some ⟨b, 0, none⟩)] u (bldL b q ad cap l) fun r u' l' => r = str l ∧ ∃ o2, l' = [(some b, .bt 117 [.pointer q, .slice ad l.length cap]), (none, o2)] := by
 refine FnO.intro [.tmp 2] Tryd.func78 rfl rfl rfl ?_
 intro w0 D hw0
 refine wc_pin 0 1000 _ 0 rfl rfl ?_
 refine wc_seq ?_
 refine wc_region ?_
 refine ya rfl rfl ?_
 refine rl_end (ρ' := [(0, _)]) ⟨rfl, trivial⟩ ?_
 refine q_then ?_
 refine wc_seq ?_
 refine wc_draw Tryd.mixed rfl [(1000, _)] ⟨rfl, trivial⟩ ?_
 refine ra_y (i := 0) rfl (by kernel_rfl) (by kernel_rfl) (by kernel_rfl) (np_then (np_finO)) (y_move rfl rfl) rfl ?_
 refine ra_y (i := 1) rfl (by kernel_rfl) (by kernel_rfl) (by kernel_rfl) (np_then (np_finO)) (y_nilCheck_p rfl rfl) rfl ?_
 refine ra_y (i := 2) rfl (by kernel_rfl) (by kernel_rfl) (by kernel_rfl) (np_then (np_finO)) (y_field_p rfl Tryd.f117' rfl (by decide) rfl) rfl ?_
 refine ra_y (i := 3) rfl (by kernel_rfl) (by kernel_rfl) (by kernel_rfl) (np_then (np_finO)) (y_load_t rfl Tryd.k115 rfl rfl rfl (vs := [_]) rfl rfl rfl) rfl ?_
 refine ra_y (i := 5) rfl (by kernel_rfl) (by kernel_rfl) (by kernel_rfl) (np_then (np_finO)) (y_move rfl rfl) rfl ?_
 refine ra_y (i := 6) rfl (by kernel_rfl) (by kernel_rfl) (by kernel_rfl) (np_then (np_finO)) (y_nilCheck_p rfl rfl) rfl ?_
 refine ra_y (i := 7) rfl (by kernel_rfl) (by kernel_rfl) (by kernel_rfl) (np_then (np_finO)) (y_field_p rfl Tryd.f117' rfl (by decide) rfl) rfl ?_
 refine ra_y (i := 8) rfl (by kernel_rfl) (by kernel_rfl) (by kernel_rfl) (np_then (np_finO)) (y_load_t rfl Tryd.k115 rfl rfl rfl (vs := [_]) rfl rfl rfl) rfl ?_
 refine ra_y (i := 9) rfl (by kernel_rfl) (by kernel_rfl) (by kernel_rfl) (np_then (np_finO)) (y_len_v rfl rfl Tryd.s115 rfl) rfl ?_
 refine ra_do (i := 4) rfl rfl (by kernel_rfl) ?_
 refine do_sliceData (e := 5) 1001 ⟨rfl, trivial⟩ (by kernel_rfl) rfl rfl rfl ?_
 intro p7 hp7
 refine ra_do (i := 10) rfl rfl (by kernel_rfl) ?_
 refine do_unsafeString 1001 ⟨rfl, trivial⟩ rfl rfl (by kernel_rfl) (by kernel_rfl) rfl rfl rfl rfl hp7 rfl (by omega) rfl ?_
 refine ra_y (i := 11) rfl (by kernel_rfl) (by kernel_rfl) (by kernel_rfl) (np_then (np_finO)) (y_assign rfl rfl) rfl ?_
 refine ra_end (by kernel_rfl) (ρ' := [(2, _)]) ⟨rfl, trivial⟩ ?_
 refine q_then ?_
 refine wc_ret ?_
 refine finO1 [1000, 1001] (.tmp rfl) rfl rfl ?_
 exact ⟨rfl, _, rfl⟩
end Go.Proofs.Ythkgcakpjknlbaa
