/- Texts for a law, part 3: they walk the functions that the law reaches, and state what holds of them; without conditions beyond each theorem's own. -/
import Derived.Test.YthkgcakpjknlbaaGreatDoorSartB
import Derived.Test.YthkgcakpjknlbaaGreatDoorProg
namespace Go.Proofs
open Go Go.Eng
theorem Tryz.k2 : tyK Tryz.prog 2 = some (false, 1) := by kernel_rfl
theorem Tryz.z2 : tyZ Tryz.prog 2 = some [.int .i64 0] := by kernel_rfl
theorem Tryz.u2 : Tryz.prog.underlying 2 = some (.int .i64) := by kernel_rfl
theorem Tryz.k3 : tyK Tryz.prog 3 = some (false, 1) := by kernel_rfl
theorem Tryz.z3 : tyZ Tryz.prog 3 = some [.int .i64 0] := by kernel_rfl
theorem Tryz.u3 : Tryz.prog.underlying 3 = some (.int .i64) := by kernel_rfl
theorem Tryz.k4 : tyK Tryz.prog 4 = some (false, 1) := by kernel_rfl
theorem Tryz.z4 : tyZ Tryz.prog 4 = some [.bool false] := by kernel_rfl
theorem Tryz.b4 : Tryz.prog.underlying 4 = some .bool := by kernel_rfl
theorem Tryz.z5 : tyZ Tryz.prog 5 = some [.int .u8 0] := by kernel_rfl
theorem Tryz.u5 : Tryz.prog.underlying 5 = some (.int .u8) := by kernel_rfl
theorem Tryz.k9 : tyK Tryz.prog 9 = some (false, 1) := by kernel_rfl
theorem Tryz.z9 : tyZ Tryz.prog 9 = some [str []] := by kernel_rfl
theorem Tryz.str9 : Tryz.prog.underlying 9 = some .string := by kernel_rfl
theorem Tryz.k22 : tyK Tryz.prog 22 = some (false, 1) := by kernel_rfl
theorem Tryz.s22 : tyS Tryz.prog 22 = some (56, 2, 32) := by kernel_rfl
theorem Tryz.k23 : tyK Tryz.prog 23 = some (false, 1) := by kernel_rfl
theorem Tryz.s23 : tyS Tryz.prog 23 = some (59, 11, 192) := by kernel_rfl
theorem Tryz.k25 : tyK Tryz.prog 25 = some (true, 2) := by kernel_rfl
theorem Tryz.z25 : tyZ Tryz.prog 25 = some [.slice none 0 0, .slice none 0 0] := by kernel_rfl
theorem Tryz.f25' : tyF Tryz.prog 25 = some [(0, 1), (1, 1)] := by kernel_rfl
theorem Tryz.k35 : tyK Tryz.prog 35 = some (false, 1) := by kernel_rfl
theorem Tryz.z35 : tyZ Tryz.prog 35 = some [.slice none 0 0] := by kernel_rfl
theorem Tryz.s35 : tyS Tryz.prog 35 = some (42, 10, 192) := by kernel_rfl
theorem Tryz.k37 : tyK Tryz.prog 37 = some (false, 1) := by kernel_rfl
theorem Tryz.z37 : tyZ Tryz.prog 37 = some [.slice none 0 0] := by kernel_rfl
theorem Tryz.s37 : tyS Tryz.prog 37 = some (9, 1, 16) := by kernel_rfl
theorem Tryz.k39 : tyK Tryz.prog 39 = some (true, 3) := by kernel_rfl
theorem Tryz.z39 : tyZ Tryz.prog 39 = some [str [], .slice none 0 0, .slice none 0 0] := by kernel_rfl
theorem Tryz.f39' : tyF Tryz.prog 39 = some [(0, 1), (1, 1), (2, 1)] := by kernel_rfl
theorem Tryz.k40 : tyK Tryz.prog 40 = some (false, 1) := by kernel_rfl
theorem Tryz.s40 : tyS Tryz.prog 40 = some (124, 4, 56) := by kernel_rfl
theorem Tryz.k42 : tyK Tryz.prog 42 = some (true, 10) := by kernel_rfl
theorem Tryz.z42 : tyZ Tryz.prog 42 = some [.int .i64 0, str [], str [], str [], str [], .slice none 0 0, .slice none 0 0, .slice none 0 0, .slice none 0 0, .slice none 0 0] := by kernel_rfl
theorem Tryz.f42' : tyF Tryz.prog 42 = some [(0, 1), (1, 1), (2, 1), (3, 1), (4, 3), (7, 1), (8, 1), (9, 1)] := by kernel_rfl
theorem Tryz.k47 : tyK Tryz.prog 47 = some (false, 1) := by kernel_rfl
theorem Tryz.z47 : tyZ Tryz.prog 47 = some [.slice none 0 0] := by kernel_rfl
theorem Tryz.s47 : tyS Tryz.prog 47 = some (50, 4, 72) := by kernel_rfl
theorem Tryz.k50 : tyK Tryz.prog 50 = some (true, 4) := by kernel_rfl
theorem Tryz.z50 : tyZ Tryz.prog 50 = some [str [], str [], str [], .slice none 0 0] := by kernel_rfl
theorem Tryz.f50' : tyF Tryz.prog 50 = some [(0, 1), (1, 1), (2, 1), (3, 1)] := by kernel_rfl
theorem Tryz.k56 : tyK Tryz.prog 56 = some (true, 2) := by kernel_rfl
theorem Tryz.z56 : tyZ Tryz.prog 56 = some [str [], str []] := by kernel_rfl
theorem Tryz.f56' : tyF Tryz.prog 56 = some [(0, 1), (1, 1)] := by kernel_rfl
theorem Tryz.k59 : tyK Tryz.prog 59 = some (true, 11) := by kernel_rfl
theorem Tryz.z59 : tyZ Tryz.prog 59 = some [.int .i64 0, .int .i64 0, str [], str [], str [], str [], str [], .slice none 0 0, .slice none 0 0, .slice none 0 0, .slice none 0 0] := by kernel_rfl
theorem Tryz.f59' : tyF Tryz.prog 59 = some [(0, 1), (1, 1), (2, 1), (3, 1), (4, 1), (5, 1), (6, 3), (9, 1), (10, 1)] := by kernel_rfl
theorem Tryz.k61 : tyK Tryz.prog 61 = some (false, 1) := by kernel_rfl
theorem Tryz.z61 : tyZ Tryz.prog 61 = some [.pointer none] := by kernel_rfl
theorem Tryz.k64 : tyK Tryz.prog 64 = some (false, 1) := by kernel_rfl
theorem Tryz.k75 : tyK Tryz.prog 75 = some (false, 1) := by kernel_rfl
theorem Tryz.z75 : tyZ Tryz.prog 75 = some [.map none] := by kernel_rfl
theorem Tryz.m75 : Tryz.prog.underlying 75 = some (.map 9 4) := by kernel_rfl
theorem Tryz.v4 : tyV Tryz.prog 4 = some (.bool false) := by kernel_rfl
theorem Tryz.k76 : tyK Tryz.prog 76 = some (false, 1) := by kernel_rfl
theorem Tryz.z76 : tyZ Tryz.prog 76 = some [.nilFunc] := by kernel_rfl
theorem Tryz.k78 : tyK Tryz.prog 78 = some (false, 1) := by kernel_rfl
theorem Tryz.k80 : tyK Tryz.prog 80 = some (false, 1) := by kernel_rfl
theorem Tryz.k82 : tyK Tryz.prog 82 = some (true, 2) := by kernel_rfl
theorem Tryz.z82 : tyZ Tryz.prog 82 = some [.nilFunc, .nilFunc] := by kernel_rfl
theorem Tryz.f82' : tyF Tryz.prog 82 = some [(0, 1), (1, 1)] := by kernel_rfl
theorem Tryz.k83 : tyK Tryz.prog 83 = some (false, 1) := by kernel_rfl
theorem Tryz.z83 : tyZ Tryz.prog 83 = some [.nilFunc] := by kernel_rfl
theorem Tryz.z85 : tyZ Tryz.prog 85 = some [.int .i64 0, .int .i64 0, .int .i64 0, .int .i64 0, .int .i64 0, .int .i64 0] := by kernel_rfl
theorem Tryz.a85 : tyA Tryz.prog 85 = some (6, 3, 1) := by kernel_rfl
theorem Tryz.k86 : tyK Tryz.prog 86 = some (false, 1) := by kernel_rfl
theorem Tryz.z86 : tyZ Tryz.prog 86 = some [.map none] := by kernel_rfl
theorem Tryz.m86 : Tryz.prog.underlying 86 = some (.map 9 3) := by kernel_rfl
theorem Tryz.v3 : tyV Tryz.prog 3 = some (.int .i64 0) := by kernel_rfl
theorem Tryz.k88 : tyK Tryz.prog 88 = some (false, 1) := by kernel_rfl
theorem Tryz.z88 : tyZ Tryz.prog 88 = some [.nilFunc] := by kernel_rfl
theorem Tryz.k89 : tyK Tryz.prog 89 = some (false, 1) := by kernel_rfl
theorem Tryz.z89 : tyZ Tryz.prog 89 = some [.nilFunc] := by kernel_rfl
theorem Tryz.k93 : tyK Tryz.prog 93 = some (false, 1) := by kernel_rfl
theorem Tryz.m93 : Tryz.prog.underlying 93 = some (.map 9 50) := by kernel_rfl
theorem Tryz.v50 : tyV Tryz.prog 50 = some (.agg #[str [], str [], str [], .slice none 0 0]) := by kernel_rfl
theorem Tryz.k94 : tyK Tryz.prog 94 = some (false, 1) := by kernel_rfl
theorem Tryz.m94 : Tryz.prog.underlying 94 = some (.map 9 35) := by kernel_rfl
theorem Tryz.v35 : tyV Tryz.prog 35 = some (.slice none 0 0) := by kernel_rfl
theorem Tryz.k95 : tyK Tryz.prog 95 = some (false, 1) := by kernel_rfl
theorem Tryz.m95 : Tryz.prog.underlying 95 = some (.map 9 9) := by kernel_rfl
theorem Tryz.v9 : tyV Tryz.prog 9 = some (str []) := by kernel_rfl
theorem Tryz.z97 : tyZ Tryz.prog 97 = some [str [], .map none, .map none, .map none, .map none] := by kernel_rfl
theorem Tryz.f97' : tyF Tryz.prog 97 = some [(0, 1), (1, 1), (2, 1), (3, 1), (4, 1)] := by kernel_rfl
theorem Tryz.k100 : tyK Tryz.prog 100 = some (false, 1) := by kernel_rfl
theorem Tryz.z100 : tyZ Tryz.prog 100 = some [.nilFunc] := by kernel_rfl
theorem Tryz.k116 : tyK Tryz.prog 116 = some (false, 1) := by kernel_rfl
theorem Tryz.z116 : tyZ Tryz.prog 116 = some [.nilFunc] := by kernel_rfl
theorem Tryz.k117 : tyK Tryz.prog 117 = some (false, 1) := by kernel_rfl
theorem Tryz.z117 : tyZ Tryz.prog 117 = some [.nilFunc] := by kernel_rfl
theorem Tryz.k124 : tyK Tryz.prog 124 = some (true, 4) := by kernel_rfl
theorem Tryz.z124 : tyZ Tryz.prog 124 = some [str [], str [], str [], .bool false] := by kernel_rfl
theorem Tryz.f124' : tyF Tryz.prog 124 = some [(0, 1), (1, 1), (2, 1), (3, 1)] := by kernel_rfl
theorem Tryz.s132 : tyS Tryz.prog 132 = some (135, 2, 16) := by kernel_rfl
theorem Tryz.k135 : tyK Tryz.prog 135 = some (true, 2) := by kernel_rfl
theorem Tryz.z135 : tyZ Tryz.prog 135 = some [.int .i64 0, .int .i64 0] := by kernel_rfl
theorem Tryz.f135' : tyF Tryz.prog 135 = some [(0, 1), (1, 1)] := by kernel_rfl
theorem Tryz.k140 : tyK Tryz.prog 140 = some (false, 1) := by kernel_rfl
theorem Tryz.k141 : tyK Tryz.prog 141 = some (false, 1) := by kernel_rfl
theorem Tryz.s141 : tyS Tryz.prog 141 = some (5, 1, 1) := by kernel_rfl
theorem Tryz.k143 : tyK Tryz.prog 143 = some (true, 2) := by kernel_rfl
theorem Tryz.z143 : tyZ Tryz.prog 143 = some [.pointer none, .slice none 0 0] := by kernel_rfl
theorem Tryz.f143' : tyF Tryz.prog 143 = some [(0, 1), (1, 1)] := by kernel_rfl
theorem Tryz.k150 : tyK Tryz.prog 150 = some (false, 1) := by kernel_rfl
theorem Tryz.z150 : tyZ Tryz.prog 150 = some [.nilFunc] := by kernel_rfl
theorem Tryz.k153 : tyK Tryz.prog 153 = some (true, 3) := by kernel_rfl
theorem Tryz.z153 : tyZ Tryz.prog 153 = some [str [], str [], str []] := by kernel_rfl
theorem Tryz.a153 : tyA Tryz.prog 153 = some (3, 9, 1) := by kernel_rfl
theorem Tryz.s158 : tyS Tryz.prog 158 = some (3, 1, 8) := by kernel_rfl
theorem Tryz.k190 : tyK Tryz.prog 190 = some (true, 2) := by kernel_rfl
theorem Tryz.z190 : tyZ Tryz.prog 190 = some [.int .i64 0, .int .i64 0] := by kernel_rfl
theorem Tryz.f190' : tyF Tryz.prog 190 = some [(0, 1), (1, 1)] := by kernel_rfl
theorem Tryz.s191 : tyS Tryz.prog 191 = some (190, 2, 16) := by kernel_rfl
theorem Tryz.c6 : canCall Tryz.prog 6 = true := by kernel_rfl
theorem Tryz.c7 : canCall Tryz.prog 7 = true := by kernel_rfl
theorem Tryz.c8 : canCall Tryz.prog 8 = true := by kernel_rfl
theorem Tryz.c9 : canCall Tryz.prog 9 = true := by kernel_rfl
theorem Tryz.c11 : canCall Tryz.prog 11 = true := by kernel_rfl
theorem Tryz.c12 : canCall Tryz.prog 12 = true := by kernel_rfl
theorem Tryz.c13 : canCall Tryz.prog 13 = true := by kernel_rfl
theorem Tryz.c14 : canCall Tryz.prog 14 = true := by kernel_rfl
theorem Tryz.c16 : canCall Tryz.prog 16 = true := by kernel_rfl
theorem Tryz.c17 : canCall Tryz.prog 17 = true := by kernel_rfl
theorem Tryz.c18 : canCall Tryz.prog 18 = true := by kernel_rfl
theorem Tryz.c19 : canCall Tryz.prog 19 = true := by kernel_rfl
theorem Tryz.c20 : canCall Tryz.prog 20 = true := by kernel_rfl
theorem Tryz.c21 : canCall Tryz.prog 21 = true := by kernel_rfl
theorem Tryz.c22 : canCall Tryz.prog 22 = true := by kernel_rfl
theorem Tryz.c23 : canCall Tryz.prog 23 = true := by kernel_rfl
theorem Tryz.c24 : canCall Tryz.prog 24 = true := by kernel_rfl
theorem Tryz.c25 : canCall Tryz.prog 25 = true := by kernel_rfl
theorem Tryz.c26 : canCall Tryz.prog 26 = true := by kernel_rfl
theorem Tryz.c27 : canCall Tryz.prog 27 = true := by kernel_rfl
theorem Tryz.c33 : canCall Tryz.prog 33 = true := by kernel_rfl
theorem Tryz.c34 : canCall Tryz.prog 34 = true := by kernel_rfl
theorem Tryz.c35 : canCall Tryz.prog 35 = true := by kernel_rfl
theorem Tryz.c36 : canCall Tryz.prog 36 = true := by kernel_rfl
theorem Tryz.c37 : canCall Tryz.prog 37 = true := by kernel_rfl
theorem Tryz.c38 : canCall Tryz.prog 38 = true := by kernel_rfl
theorem Tryz.c39 : canCall Tryz.prog 39 = true := by kernel_rfl
theorem Tryz.c40 : canCall Tryz.prog 40 = true := by kernel_rfl
theorem Tryz.c41 : canCall Tryz.prog 41 = true := by kernel_rfl
theorem Tryz.c42 : canCall Tryz.prog 42 = true := by kernel_rfl
theorem Tryz.c43 : canCall Tryz.prog 43 = true := by kernel_rfl
theorem Tryz.c44 : canCall Tryz.prog 44 = true := by kernel_rfl
theorem Tryz.c45 : canCall Tryz.prog 45 = true := by kernel_rfl
theorem Tryz.c46 : canCall Tryz.prog 46 = true := by kernel_rfl
theorem Tryz.c47 : canCall Tryz.prog 47 = true := by kernel_rfl
theorem Tryz.c48 : canCall Tryz.prog 48 = true := by kernel_rfl
theorem Tryz.c49 : canCall Tryz.prog 49 = true := by kernel_rfl
theorem Tryz.c50 : canCall Tryz.prog 50 = true := by kernel_rfl
theorem Tryz.c51 : canCall Tryz.prog 51 = true := by kernel_rfl
theorem Tryz.c52 : canCall Tryz.prog 52 = true := by kernel_rfl
theorem Tryz.c53 : canCall Tryz.prog 53 = true := by kernel_rfl
theorem Tryz.c54 : canCall Tryz.prog 54 = true := by kernel_rfl
theorem Tryz.c55 : canCall Tryz.prog 55 = true := by kernel_rfl
theorem Tryz.c56 : canCall Tryz.prog 56 = true := by kernel_rfl
theorem Tryz.c57 : canCall Tryz.prog 57 = true := by kernel_rfl
theorem Tryz.c58 : canCall Tryz.prog 58 = true := by kernel_rfl
theorem Tryz.c59 : canCall Tryz.prog 59 = true := by kernel_rfl
theorem Tryz.c60 : canCall Tryz.prog 60 = true := by kernel_rfl
theorem Tryz.c70 : canCall Tryz.prog 70 = true := by kernel_rfl
theorem Tryz.c71 : canCall Tryz.prog 71 = true := by kernel_rfl
theorem Tryz.c72 : canCall Tryz.prog 72 = true := by kernel_rfl
theorem Tryz.c73 : canCall Tryz.prog 73 = true := by kernel_rfl
theorem Tryz.c74 : canCall Tryz.prog 74 = true := by kernel_rfl
theorem Tryz.c75 : canCall Tryz.prog 75 = true := by kernel_rfl
theorem Tryz.c76 : canCall Tryz.prog 76 = true := by kernel_rfl
theorem Tryz.c77 : canCall Tryz.prog 77 = true := by kernel_rfl
theorem Tryz.c78 : canCall Tryz.prog 78 = true := by kernel_rfl
theorem Tryz.c80 : canCall Tryz.prog 80 = true := by kernel_rfl
theorem Tryz.c81 : canCall Tryz.prog 81 = true := by kernel_rfl
theorem Tryz.c82 : canCall Tryz.prog 82 = true := by kernel_rfl
theorem Tryz.c83 : canCall Tryz.prog 83 = true := by kernel_rfl
theorem Tryz.c84 : canCall Tryz.prog 84 = true := by kernel_rfl
theorem Tryz.c93 : canCall Tryz.prog 93 = true := by kernel_rfl
theorem Tryz.c94 : canCall Tryz.prog 94 = true := by kernel_rfl
theorem Tryz.c95 : canCall Tryz.prog 95 = true := by kernel_rfl
theorem Tryz.c96 : canCall Tryz.prog 96 = true := by kernel_rfl
theorem Tryz.c97 : canCall Tryz.prog 97 = true := by kernel_rfl
theorem Tryz.c98 : canCall Tryz.prog 98 = true := by kernel_rfl
theorem Tryz.c99 : canCall Tryz.prog 99 = true := by kernel_rfl
theorem Tryz.c102 : canCall Tryz.prog 102 = true := by kernel_rfl
theorem Tryz.c103 : canCall Tryz.prog 103 = true := by kernel_rfl
theorem Tryz.c104 : canCall Tryz.prog 104 = true := by kernel_rfl
theorem Tryz.c105 : canCall Tryz.prog 105 = true := by kernel_rfl
theorem Tryz.c106 : canCall Tryz.prog 106 = true := by kernel_rfl
theorem Tryz.c107 : canCall Tryz.prog 107 = true := by kernel_rfl
theorem Tryz.c108 : canCall Tryz.prog 108 = true := by kernel_rfl
theorem Tryz.c109 : canCall Tryz.prog 109 = true := by kernel_rfl
theorem Tryz.c110 : canCall Tryz.prog 110 = true := by kernel_rfl
theorem Tryz.c111 : canCall Tryz.prog 111 = true := by kernel_rfl
theorem Tryz.c115 : canCall Tryz.prog 115 = true := by kernel_rfl
theorem Tryz.c116 : canCall Tryz.prog 116 = true := by kernel_rfl
theorem Tryz.c117 : canCall Tryz.prog 117 = true := by kernel_rfl
theorem Tryz.c118 : canCall Tryz.prog 118 = true := by kernel_rfl
theorem Tryz.c119 : canCall Tryz.prog 119 = true := by kernel_rfl
theorem Tryz.c120 : canCall Tryz.prog 120 = true := by kernel_rfl
theorem Tryz.c121 : canCall Tryz.prog 121 = true := by kernel_rfl
theorem Tryz.c122 : canCall Tryz.prog 122 = true := by kernel_rfl
theorem Tryz.c123 : canCall Tryz.prog 123 = true := by kernel_rfl
theorem Tryz.c128 : canCall Tryz.prog 128 = true := by kernel_rfl
theorem Tryz.c130 : canCall Tryz.prog 130 = true := by kernel_rfl
theorem Tryz.c131 : canCall Tryz.prog 131 = true := by kernel_rfl
theorem Tryz.c132 : canCall Tryz.prog 132 = true := by kernel_rfl
theorem Tryz.c133 : canCall Tryz.prog 133 = true := by kernel_rfl
theorem Tryz.c134 : canCall Tryz.prog 134 = true := by kernel_rfl
theorem Tryz.c135 : canCall Tryz.prog 135 = true := by kernel_rfl
theorem Tryz.c136 : canCall Tryz.prog 136 = true := by kernel_rfl
theorem Tryz.c137 : canCall Tryz.prog 137 = true := by kernel_rfl
theorem Tryz.c138 : canCall Tryz.prog 138 = true := by kernel_rfl
theorem Tryz.c139 : canCall Tryz.prog 139 = true := by kernel_rfl
theorem Tryz.c140 : canCall Tryz.prog 140 = true := by kernel_rfl
theorem Tryz.c141 : canCall Tryz.prog 141 = true := by kernel_rfl
theorem Tryz.c142 : canCall Tryz.prog 142 = true := by kernel_rfl
theorem Tryz.c143 : canCall Tryz.prog 143 = true := by kernel_rfl
theorem Tryz.c144 : canCall Tryz.prog 144 = true := by kernel_rfl
theorem Tryz.c145 : canCall Tryz.prog 145 = true := by kernel_rfl
theorem Tryz.c153 : canCall Tryz.prog 153 = true := by kernel_rfl
theorem Tryz.c154 : canCall Tryz.prog 154 = true := by kernel_rfl
theorem Tryz.c155 : canCall Tryz.prog 155 = true := by kernel_rfl
theorem Tryz.c156 : canCall Tryz.prog 156 = true := by kernel_rfl
theorem Tryz.c157 : canCall Tryz.prog 157 = true := by kernel_rfl
theorem Tryz.c158 : canCall Tryz.prog 158 = true := by kernel_rfl
theorem Tryz.c159 : canCall Tryz.prog 159 = true := by kernel_rfl
theorem Tryz.c162 : canCall Tryz.prog 162 = true := by kernel_rfl
theorem Tryz.c163 : canCall Tryz.prog 163 = true := by kernel_rfl
theorem Tryz.c164 : canCall Tryz.prog 164 = true := by kernel_rfl
theorem Tryz.c165 : canCall Tryz.prog 165 = true := by kernel_rfl
theorem Tryz.c166 : canCall Tryz.prog 166 = true := by kernel_rfl
theorem Tryz.c167 : canCall Tryz.prog 167 = true := by kernel_rfl
theorem Tryz.c168 : canCall Tryz.prog 168 = true := by kernel_rfl
theorem Tryz.c169 : canCall Tryz.prog 169 = true := by kernel_rfl
theorem Tryz.c170 : canCall Tryz.prog 170 = true := by kernel_rfl
theorem Tryz.c171 : canCall Tryz.prog 171 = true := by kernel_rfl
theorem Tryz.mixed : Tryz.prog.follows .mixedOrders = true := by kernel_rfl
end Go.Proofs
namespace Go.Eng
open Go Go.RowKit
set_option linter.unusedSimpArgs false
set_option linter.unusedVariables false
structure DNum where
 id : Bs
 kind : Bs
 value : Bs
 line : List Inl
def NumC (u : View) (x : DNum) (cs : List Value) : Prop := ∃ vl, cs = [str x.id, str x.kind, str x.value, vl] ∧ InlS u vl x.line
def NumsC (u : View) : List DNum → List Value → Prop
 | [], cs => cs = []
 | x :: xs, cs => ∃ c r, cs = c ++ r ∧ NumC u x c ∧ NumsC u xs r
def NumS (u : View) (v : Value) (xs : List DNum) : Prop := ∃ cs, IsSl u v xs.length 4 cs ∧ NumsC u xs cs
theorem NumC.mono {u u' : View} {x : DNum} {cs : List Value} (h : NumC u x cs) (hu : VLe u u') : NumC u' x cs := let ⟨vl, h1, h2⟩ := h; ⟨vl, h1, h2.mono hu⟩
theorem NumsC.mono {u u' : View} (hu : VLe u u') : ∀ {xs : List DNum} {cs : List Value}, NumsC u xs cs → NumsC u' xs cs
 | [], cs, h => h
 | x :: xs, cs, h => let ⟨c, r, h1, h2, h3⟩ := h; ⟨c, r, h1, h2.mono hu, NumsC.mono hu h3⟩
theorem NumS.mono {u u' : View} {v : Value} {xs : List DNum} (h : NumS u v xs) (hu : VLe u u') : NumS u' v xs := let ⟨cs, h1, h2⟩ := h; ⟨cs, h1.mono hu, h2.mono hu⟩
theorem NumC.len {u : View} {x : DNum} {cs : List Value} (h : NumC u x cs) : cs.length = 4 := by obtain ⟨_, rfl, _⟩ := h; rfl
theorem NumsC.len {u : View} : ∀ {xs : List DNum} {cs : List Value}, NumsC u xs cs → cs.length = xs.length * 4
 | [], cs, h => by simp only [NumsC] at h; subst h; rfl
 | x :: xs, cs, h => by
  obtain ⟨c, r, rfl, h2, h3⟩ := h
  simp [h2.len, h3.len, Nat.add_mul]; omega
theorem NumsC.append {u : View} : ∀ {xs ys : List DNum} {cs ds : List Value}, NumsC u xs cs → NumsC u ys ds → NumsC u (xs ++ ys) (cs ++ ds)
 | [], ys, cs, ds, h, k => by simp only [NumsC] at h; subst h; simpa using k
 | x :: xs, ys, cs, ds, h, k => by
  obtain ⟨c, r, rfl, h2, h3⟩ := h
  exact ⟨c, r ++ ds, by simp, h2, h3.append k⟩
theorem NumsC.get {u : View} : ∀ {xs : List DNum} {cs : List Value} (i : Nat) (x : DNum), NumsC u xs cs → xs[i]? = some x → NumC u x (cut cs (i * 4) 4)
 | [], cs, i, x, _, hi => by simp at hi
 | y :: ys, cs, i, x, h, hi => by
  obtain ⟨c, r, rfl, h2, h3⟩ := h
  have hl := h2.len
  cases i with
  | zero =>
   simp at hi
   subst hi
   have : cut (c ++ r) (0 * 4) 4 = c := by unfold cut; simp [← hl]
   rw [this]; exact h2
  | succ i =>
   have ih := NumsC.get i x h3 (by simpa using hi)
   have : cut (c ++ r) ((i + 1) * 4) 4 = cut r (i * 4) 4 := by
    unfold cut
    rw [show (i + 1) * 4 = c.length + i * 4 by omega, List.drop_append, List.drop_eq_nil_of_le (by omega), List.nil_append, Nat.add_sub_cancel_left]
   rw [this]; exact ih
theorem NumsC.at {u : View} {xs : List DNum} {cs : List Value} (h : NumsC u xs cs) {i : Nat} (hi : i < xs.length) :
  ∃ x vl, xs[i]? = some x ∧ cut cs (i * 4) 4 = [str x.id, str x.kind, str x.value, vl] ∧ InlS u vl x.line := by
 obtain ⟨vl, h1, h2⟩ := h.get i _ (List.getElem?_eq_getElem hi)
 exact ⟨_, vl, List.getElem?_eq_getElem hi, h1, h2⟩
theorem NumC.one {u : View} {x : DNum} {cs : List Value} (h : NumC u x cs) : cs.all Value.oneCell' = true := by
 obtain ⟨vl, rfl, ⟨ks, h5, _⟩⟩ := h
 simp [IsSl.one h5]
 simp [str, Value.oneCell']
theorem NumsC.ones {u : View} : ∀ {xs : List DNum} {cs : List Value}, NumsC u xs cs → cs.all Value.oneCell' = true
 | [], cs, h => by simp only [NumsC] at h; subst h; rfl
 | x :: xs, cs, h => by
  obtain ⟨c, r, rfl, h2, h3⟩ := h
  rw [List.all_append, h2.one, h3.ones]; rfl
theorem NumsC.one {u : View} {x : DNum} {c : List Value} (h : NumC u x c) : NumsC u [x] c := ⟨c, [], by simp, h, rfl⟩
end Go.Eng
namespace Go.Proofs.Ythkgcakpjknlbaa
open Go Go.Eng
set_option linter.unusedSimpArgs false
set_option linter.unusedVariables false
set_option maxRecDepth 4000
end Go.Proofs.Ythkgcakpjknlbaa
namespace Go.Proofs.Ythkgcakpjknlbaa
open Go Go.Eng
set_option linter.unusedSimpArgs false
set_option linter.unusedVariables false
set_option maxRecDepth 4000
def longN (a : DAttr) : Nat := a.id.length + (a.classes.map List.length).sum + (a.pairs.map fun p => p.1.length + p.2.length).sum
theorem sum_take {α : Type} (f : α → Nat) {xs : List α} {i : Nat} {x : α} (h : xs[i]? = some x) : ((xs.take (i + 1)).map f).sum = ((xs.take i).map f).sum + f x := by
 obtain ⟨hlt, rfl⟩ := List.getElem?_eq_some_iff.1 h
 rw [List.take_succ_eq_append_getElem hlt, List.map_append, List.sum_append]
 simp only [List.map_cons, List.map_nil, List.sum_cons, List.sum_nil, Nat.add_zero]
theorem sum_le {α : Type} (f : α → Nat) (B : Nat) : ∀ (xs : List α), (∀ x ∈ xs, f x ≤ B) → (xs.map f).sum ≤ xs.length * B
 | [], _ => by simp
 | x :: xs, h => by
  have := sum_le f B xs (fun y hy => h y (by simp [hy]))
  have := h x (by simp)
  simp only [List.map_cons, List.sum_cons, List.length_cons, Nat.add_mul]
  omega
theorem sum_take_le {α : Type} (f : α → Nat) (B : Nat) (xs : List α) (i : Nat) (h : ∀ x ∈ xs, f x ≤ B) : ((xs.take i).map f).sum ≤ xs.length * B := by
 refine Nat.le_trans (sum_le f B _ fun x hx => h x (List.mem_of_mem_take hx)) ?_
 exact Nat.mul_le_mul_right _ (by simp; omega)
theorem long_fn (a : DAttr) (vc vp : Value) (u : View) (hok : AttrOk a) (h1 : StrS u vc a.classes) (h2 : PrS u vp a.pairs) :
  FnP Tryz.prog 53 [.agg #[str a.id, vc, vp]] u fun v _ => v = .bool (decide (40 < a.classes.length ∨ 40 < a.pairs.length ∨ 600 < longN a)) := by
 obtain ⟨ad, cap, rfl, h1⟩ := h1
 obtain ⟨ad2, cap2, rfl, h2⟩ := h2
 obtain ⟨hid, ⟨hcl, hcs⟩, ⟨hpl, hps⟩⟩ := hok
 refine FnP.intro [.tmp 2] Tryz.func53 rfl rfl rfl ?_
 intro w0 D hw0
 refine Zd (Za (Zv rfl rfl ?_))
 refine Zbx trivial rfl (cs := [_, _, _]) rfl rfl rfl rfl ?_
 refine ya rfl rfl (Zf (ρ' := [(1, _)]) ⟨rfl, trivial⟩ ?_)
 refine Zc (Zd (Za (Zg (Zh rfl Tryz.f39' rfl (by decide) rfl) rfl (Zg (Zi rfl Tryz.k9 rfl rfl rfl (vs := [_]) rfl rfl rfl) rfl (Zg (Zao rfl rfl Tryz.str9 rfl) rfl (ya rfl rfl (Zf (ρ' := [(1, _), (3, _)]) ⟨rfl, rfl, trivial⟩ ?_)))))))
 refine Zc (Zd (Zd ?_))
 refine Zcj 18 ((decide (40 < a.classes.length ∨ 40 < a.pairs.length))) (ρk := [(1, _), (3, _)]) ⟨rfl, rfl, trivial⟩ ?_ ?_
 ·
  refine Za (Zg (Zh rfl Tryz.f39' rfl (by decide) rfl) rfl (Zg (Zi rfl Tryz.k37 rfl rfl rfl (vs := [_]) rfl rfl rfl) rfl (Zg (Zaq rfl rfl Tryz.s37 rfl) rfl (Zg (Zcn rfl rfl rfl) rfl (ym rfl rfl ?_)))))
  rcases Bool.eq_false_or_eq_true (decide ((40 : Int) < a.classes.length)) with hg2_4 | hg2_4
  ·
   simp only [hg2_4]
   iterate 4 refine Zt rfl rfl rfl rfl ?_
   refine Zg (Zl rfl rfl rfl) rfl ?_
   exact Zam rfl ⟨rfl, rfl, trivial⟩ (by (first | refine (decide_eq_true ?_).symm | refine (decide_eq_false ?_).symm | refine decide_eq_decide.2 ?_ | refine decide_eq_true ?_ | refine decide_eq_false ?_) <;> (try unfold longN) <;> (try simp only [decide_eq_true_eq, decide_eq_false_iff_not] at *) <;> omega)
  ·
   simp only [hg2_4]
   refine Zk rfl rfl (Zg (Zh rfl Tryz.f39' rfl (by decide) rfl) rfl (Zk rfl rfl (Zg (Zi rfl Tryz.k22 rfl rfl rfl (vs := [_]) rfl rfl rfl) rfl (Zk rfl rfl (Zg (Zaq rfl rfl Tryz.s22 rfl) rfl (Zk rfl rfl (Zg (Zcn rfl rfl rfl) rfl ?_)))))))
   refine Zg (Zn rfl rfl rfl) rfl ?_
   exact Zam rfl ⟨rfl, rfl, trivial⟩ (by (first | refine (decide_eq_true ?_).symm | refine (decide_eq_false ?_).symm | refine decide_eq_decide.2 ?_ | refine decide_eq_true ?_ | refine decide_eq_false ?_) <;> (try unfold longN) <;> (try simp only [decide_eq_true_eq, decide_eq_false_iff_not] at *) <;> omega)
 refine Zc ?_
 refine Zo rfl (fun hb2 => ?_) (fun hb2 => ?_)
 ·
  refine Zd (Za (ya rfl rfl (Zf (ρ' := [(2, _)]) ⟨rfl, trivial⟩ ?_)))
  refine Zc (Zw (Zj (Zbe (.tmp rfl) ?_)))
  have := of_decide_eq_true hb2
  rw [decide_eq_true]
  omega
 ·
  refine Zr (Zc (Zd (Zd (Za (ya rfl rfl (Zf (ρ' := [(1, _), (3, _), (4, _)]) ⟨rfl, rfl, rfl, trivial⟩ ?_))))))
  refine Zc (Zad ?_)
  refine Zbc (fun m ρ σ u' => ∃ i : Nat, i + m = a.classes.length ∧ VLe u u' ∧ σ = [(1, (none, .box [str a.id, .slice ad a.classes.length cap, .slice ad2 a.pairs.length cap2]))] ∧ ρ = [(1, .p 1 0), (3, .v (.int .i64 (a.id.length + ((a.classes.take i).map List.length).sum : Nat))), (4, .v (.int .i64 i))] ∧ (u = u')) (a.classes.length) ?_ ?_
  ·
   refine ⟨[(1, _), (3, _), (4, _)], [(1, _)], ⟨rfl, rfl, rfl, trivial⟩, ⟨rfl, trivial⟩, 0, by omega, VLe.refl _, (by first | rfl | simp), (by first | rfl | (simp only [List.cons.injEq, Prod.mk.injEq, SV.v.injEq, Value.int.injEq, true_and, and_true]; omega) | simp), ?_⟩
   rfl
  ·
   rintro m ρ σ u' ⟨i, hi5, hle5, rfl, rfl, rfl⟩
   refine Zd (Zd (Za (ym rfl rfl (Zg (Zh rfl Tryz.f39' rfl (by decide) rfl) rfl (Zg (Zi rfl Tryz.k37 rfl rfl rfl (vs := [_]) rfl rfl rfl) rfl (Zg (Zaq rfl rfl Tryz.s37 rfl) rfl (Zg (Zbn rfl rfl rfl) rfl (Zf (ρ' := [(1, _), (3, _), (4, _), (23, _)]) ⟨rfl, rfl, rfl, rfl, trivial⟩ ?_))))))))
   refine Zc ?_
   refine Zo rfl (fun hb5 => ?_) (fun hb5 => ?_)
   ·
    refine Zr (Zc (Zd (Zad ?_)))
    have hlt : i < a.classes.length := by have := of_decide_eq_true hb5; omega
    have h40 := of_decide_eq_false hb2
    have hg := List.getElem?_eq_getElem hlt
    have hc := cut_strsC hg
    have hst := sum_take List.length hg
    have hb := sum_take_le List.length _ a.classes i hcs
    have hcb := hcs _ (List.mem_of_getElem? hg)
    refine Za (ym rfl rfl (Zg (Zh rfl Tryz.f39' rfl (by decide) rfl) rfl (Zg (Zi rfl Tryz.k37 rfl rfl rfl (vs := [_]) rfl rfl rfl) rfl (ym rfl rfl (Zg (Zai rfl Tryz.s37 rfl rfl (by assumption) (by first | rfl | omega) (by omega)) rfl (Zg (Zag rfl Tryz.k9 rfl (by assumption) (by omega) (by assumption) (vs := [_]) rfl rfl rfl rfl) rfl (Zg (Zao rfl rfl Tryz.str9 rfl) rfl (Zg (Zav rfl rfl rfl (Zs (by omega))) rfl ?_))))))))
    refine ya rfl rfl (Zf (ρ' := [(1, _), (3, _), (4, _)]) ⟨rfl, rfl, rfl, trivial⟩ ?_)
    refine Zah (Zc (Za (ym rfl rfl (Zg (Zav rfl rfl rfl (Zs (by omega))) rfl ?_))))
    refine ya rfl rfl (Zf (ρ' := [(1, _), (3, _), (4, _)]) ⟨rfl, rfl, rfl, trivial⟩ ?_)
    refine Zab ?_
    refine ⟨m - 1, [(1, _), (3, _), (4, _)], [(1, _)], by omega, ⟨rfl, rfl, rfl, trivial⟩, ⟨rfl, trivial⟩, i + 1, by omega, hle5, (by first | rfl | simp), (by first | rfl | (simp only [List.cons.injEq, Prod.mk.injEq, SV.v.injEq, Value.int.injEq, true_and, and_true]; omega) | simp), ?_⟩
    rfl
   ·
    refine Zax ?_
    refine Zq (Zq ?_)
    refine Zaf ?_
    refine Zc (Zd (Zd (Za (ya rfl rfl (Zf (ρ' := [(1, _), (3, _), (5, _)]) ⟨rfl, rfl, rfl, trivial⟩ ?_)))))
    refine Zc (Zad ?_)
    refine Zbc (fun m ρ σ u' => ∃ i : Nat, i + m = a.pairs.length ∧ VLe u u' ∧ σ = [(1, (none, .box [str a.id, .slice ad a.classes.length cap, .slice ad2 a.pairs.length cap2]))] ∧ ρ = [(1, .p 1 0), (3, .v (.int .i64 (a.id.length + (a.classes.map List.length).sum + ((a.pairs.take i).map fun p => p.1.length + p.2.length).sum : Nat))), (5, .v (.int .i64 i))] ∧ (u = u')) (a.pairs.length) ?_ ?_
    ·
     refine ⟨[(1, _), (3, _), (5, _)], [(1, _)], ⟨rfl, rfl, rfl, trivial⟩, ⟨rfl, trivial⟩, 0, by omega, VLe.refl _, rfl, (by have hge := of_decide_eq_false hb5; rw [List.take_of_length_le (l := a.classes) (by omega)]; simp), ?_⟩
     rfl
    ·
     rintro m ρ σ u' ⟨i, hi9, hle9, rfl, rfl, rfl⟩
     refine Zd (Zd (Za (ym rfl rfl (Zg (Zh rfl Tryz.f39' rfl (by decide) rfl) rfl (Zg (Zi rfl Tryz.k22 rfl rfl rfl (vs := [_]) rfl rfl rfl) rfl (Zg (Zaq rfl rfl Tryz.s22 rfl) rfl (Zg (Zbn rfl rfl rfl) rfl (Zf (ρ' := [(1, _), (3, _), (5, _), (38, _)]) ⟨rfl, rfl, rfl, rfl, trivial⟩ ?_))))))))
     refine Zc ?_
     refine Zo rfl (fun hb9 => ?_) (fun hb9 => ?_)
     ·
      refine Zr (Zc (Zd (Zad ?_)))
      have hlt : i < a.pairs.length := by have := of_decide_eq_true hb9; omega
      have h40 := of_decide_eq_false hb2
      have hg := List.getElem?_eq_getElem hlt
      have hc := cut_pairsC hg
      have hst := sum_take (fun p : Bs × Bs => p.1.length + p.2.length) hg
      have hb := sum_take_le List.length _ a.classes a.classes.length hcs
      rw [List.take_of_length_le (Nat.le_refl _)] at hb
      have hb2' := sum_take_le (fun p : Bs × Bs => p.1.length + p.2.length) 281474976702464 a.pairs i (fun p hp => by have := hps p hp; omega)
      have hcb := hps _ (List.mem_of_getElem? hg)
      refine Zbk Tryz.mixed rfl [(1, _)] ⟨rfl, trivial⟩ ?_
      refine Zal 0 rfl (by kernel_rfl) (Ze (Zb (Zb (Ze (Zb (Zan)))))) (Zap rfl rfl) rfl ?_
      refine Zal 1 rfl (by kernel_rfl) (Ze (Zb (Zb (Ze (Zb (Zan)))))) (Zh rfl Tryz.f39' rfl (by decide) rfl) rfl ?_
      refine Zal 2 rfl (by kernel_rfl) (Ze (Zb (Zb (Ze (Zb (Zan)))))) (Zi rfl Tryz.k22 rfl rfl rfl (vs := [_]) rfl rfl rfl) rfl ?_
      refine Zal 3 rfl (by kernel_rfl) (Ze (Zb (Zb (Ze (Zb (Zan)))))) (Zap rfl rfl) rfl ?_
      refine Zal 4 rfl (by kernel_rfl) (Ze (Zb (Zb (Ze (Zb (Zan)))))) (Zai rfl Tryz.s22 rfl rfl (by assumption) (by first | rfl | omega) (by omega)) rfl ?_
      refine Zal 5 rfl (by kernel_rfl) (Ze (Zb (Zb (Ze (Zb (Zan)))))) (Zau rfl Tryz.f56' rfl (by decide) rfl) rfl ?_
      refine Zal 6 rfl (by kernel_rfl) (Ze (Zb (Zb (Ze (Zb (Zan)))))) (Zag rfl Tryz.k9 rfl (by assumption) (by omega) (by assumption) (vs := [_]) rfl rfl rfl rfl) rfl ?_
      refine Zal 7 rfl (by kernel_rfl) (Ze (Zb (Zb (Ze (Zb (Zan)))))) (Zao rfl rfl Tryz.str9 rfl) rfl ?_
      refine Zal 8 rfl (by kernel_rfl) (Ze (Zb (Zb (Ze (Zb (Zan)))))) (Zh rfl Tryz.f39' rfl (by decide) rfl) rfl ?_
      refine Zal 9 rfl (by kernel_rfl) (Ze (Zb (Zb (Ze (Zb (Zan)))))) (Zi rfl Tryz.k22 rfl rfl rfl (vs := [_]) rfl rfl rfl) rfl ?_
      refine Zal 10 rfl (by kernel_rfl) (Ze (Zb (Zb (Ze (Zb (Zan)))))) (Zap rfl rfl) rfl ?_
      refine Zal 11 rfl (by kernel_rfl) (Ze (Zb (Zb (Ze (Zb (Zan)))))) (Zai rfl Tryz.s22 rfl rfl (by assumption) (by first | rfl | omega) (by omega)) rfl ?_
      refine Zal 12 rfl (by kernel_rfl) (Ze (Zb (Zb (Ze (Zb (Zan)))))) (Zau rfl Tryz.f56' rfl (by decide) rfl) rfl ?_
      refine Zal 13 rfl (by kernel_rfl) (Ze (Zb (Zb (Ze (Zb (Zan)))))) (Zag rfl Tryz.k9 rfl (by assumption) (by omega) (by assumption) (vs := [_]) rfl rfl rfl rfl) rfl ?_
      refine Zal 14 rfl (by kernel_rfl) (Ze (Zb (Zb (Ze (Zb (Zan)))))) (Zao rfl rfl Tryz.str9 rfl) rfl ?_
      refine Zal 15 rfl (by kernel_rfl) (Ze (Zb (Zb (Ze (Zb (Zan)))))) (Zav rfl rfl rfl (Zs (by omega))) rfl ?_
      refine Zal 16 rfl (by kernel_rfl) (Ze (Zb (Zb (Ze (Zb (Zan)))))) (Zav rfl rfl rfl (Zs (by omega))) rfl ?_
      refine Zal 17 rfl (by kernel_rfl) (Ze (Zb (Zb (Ze (Zb (Zan)))))) (Zcf rfl rfl) rfl ?_
      refine Zbl (by kernel_rfl) (ρ' := [(1, _), (3, _), (5, _)]) ⟨rfl, rfl, rfl, trivial⟩ ?_
      refine Zah (Zc (Za (ym rfl rfl (Zg (Zav rfl rfl rfl (Zs (by omega))) rfl ?_))))
      refine ya rfl rfl (Zf (ρ' := [(1, _), (3, _), (5, _)]) ⟨rfl, rfl, rfl, trivial⟩ ?_)
      refine Zab ?_
      refine ⟨m - 1, [(1, _), (3, _), (5, _)], [(1, _)], by omega, ⟨rfl, rfl, rfl, trivial⟩, ⟨rfl, trivial⟩, i + 1, by omega, hle9, (by first | rfl | simp), (by first | rfl | (simp only [List.cons.injEq, Prod.mk.injEq, SV.v.injEq, Value.int.injEq, true_and, and_true]; omega) | simp), ?_⟩
      rfl
     ·
      refine Zax ?_
      refine Zq (Zq ?_)
      refine Zaf ?_
      refine Zc (Zd ?_)
      have h40 := of_decide_eq_false hb2
      have hge := of_decide_eq_false hb9
      have hfull : ((a.pairs.take i).map fun p => p.1.length + p.2.length) = (a.pairs.map fun p => p.1.length + p.2.length) := by rw [List.take_of_length_le (by omega)]
      rw [hfull]
      refine Za (ym rfl rfl (Zg (Zcn rfl rfl rfl) rfl (ya rfl rfl (Zf (ρ' := [(2, _)]) ⟨rfl, trivial⟩ ?_))))
      refine Zc (Zw (Zbe (.tmp rfl) ?_))
      congr 1
      refine decide_eq_decide.2 ?_
      unfold longN
      omega
end Go.Proofs.Ythkgcakpjknlbaa
namespace Go.Proofs.Ythkgcakpjknlbaa
open Go Go.Eng
set_option linter.unusedSimpArgs false
set_option linter.unusedVariables false
set_option maxRecDepth 4000
def NodeSm (t d ti : Bs) (a : DAttr) (args : List Bs) (cites : List DCite) : Prop :=
 t.length + d.length + ti.length ≤ 300 ∧ a.classes.length ≤ 40 ∧ a.pairs.length ≤ 40 ∧ longN a ≤ 600 ∧ args.length ≤ 9 ∧ cites.length ≤ 9 ∧ (∀ s ∈ args, s.length ≤ 50000) ∧ ∀ c ∈ cites, c.key.length + c.pre.length + c.suf.length ≤ 50000
mutual
def smI1 : Inl → Prop
 | .mk _ t d ti a args cites kids => NodeSm t d ti a args cites ∧ smI kids
def smI : List Inl → Prop
 | [] => True
 | x :: xs => smI1 x ∧ smI xs
end
theorem smI_append : ∀ {xs ys : List Inl}, smI xs → smI ys → smI (xs ++ ys)
 | [], ys, _, k => k
 | x :: xs, ys, h, k => by
  unfold smI at h
  rw [List.cons_append]
  unfold smI
  exact ⟨h.1, smI_append h.2 k⟩
theorem szI_append : ∀ (xs ys : List Inl), szI (xs ++ ys) = szI xs + szI ys
 | [], ys => by simp [szI]
 | x :: xs, ys => by
  rw [List.cons_append]
  simp only [szI, szI_append xs ys, Nat.add_assoc]
theorem szI_take {xs : List Inl} {i : Nat} {x : Inl} (h : xs[i]? = some x) : szI (xs.take (i + 1)) = szI (xs.take i) + sz1 x := by
 obtain ⟨hlt, rfl⟩ := List.getElem?_eq_some_iff.1 h
 rw [List.take_succ_eq_append_getElem hlt, szI_append]
 simp [szI]
theorem smI_take {xs : List Inl} {i : Nat} {x : Inl} (h : xs[i]? = some x) (h1 : smI (xs.take i)) (h2 : smI1 x) : smI (xs.take (i + 1)) := by
 obtain ⟨hlt, rfl⟩ := List.getElem?_eq_some_iff.1 h
 rw [List.take_succ_eq_append_getElem hlt]
 exact smI_append h1 (by unfold smI; exact ⟨h2, by unfold smI; trivial⟩)
theorem mem_take_succ {α : Type} {xs : List α} {i : Nat} {x y : α} (h : xs[i]? = some x) (hy : y ∈ xs.take (i + 1)) : y ∈ xs.take i ∨ y = x := by
 obtain ⟨hlt, rfl⟩ := List.getElem?_eq_some_iff.1 h
 rw [List.take_succ_eq_append_getElem hlt] at hy
 rcases List.mem_append.1 hy with h | h
 ·
  exact .inl h
 ·
  exact .inr (List.mem_singleton.1 h)
theorem weight_fn (fuel : Nat) : fuel ≤ 21 → ∀ (dp : Int) (v : Value) (xs : List Inl) (u : View), dp = 21 - fuel → xs.length ≤ 140737488351232 → InlS u v xs →
  FnP Tryz.prog 54 [v, .int .i64 dp] u fun r _ => ∃ n : Int, r = .int .i64 n ∧ 0 ≤ n ∧ n ≤ 1000 + fuel * 200000000000000 ∧ (n < 1000 → szI xs ≤ n ∧ smI xs) := by
 induction fuel using Nat.strongRecOn with
 | _ fuel ih =>
 intro hf dp v xs u hdp hx ha
 obtain ⟨cs, ⟨ad, cap, rfl, h1⟩, hc1⟩ := ha
 refine FnP.intro [.tmp 4] Tryz.func54 rfl rfl rfl ?_
 intro w0 D hw0
 refine Zd (Za (ya rfl rfl (Zf (ρ' := [(0, _), (1, _)]) ⟨rfl, rfl, trivial⟩ ?_)))
 refine Zc (Zd (Za (ym rfl rfl (Zg (Zaq rfl rfl Tryz.s35 rfl) rfl (ya rfl rfl (Zf (ρ' := [(0, _), (1, _), (5, _)]) ⟨rfl, rfl, rfl, trivial⟩ ?_))))))
 refine Zc (Zd (Zd ?_))
 refine Zcj 18 (decide (20 < dp ∨ 200 < xs.length)) (ρk := [(0, _), (1, _), (5, _)]) ⟨rfl, rfl, rfl, trivial⟩ ?_ ?_
 ·
  refine Za (ym rfl rfl (Zg (Zcn rfl rfl rfl) rfl (ym rfl rfl ?_)))
  rcases Bool.eq_false_or_eq_true (decide ((20 : Int) < dp)) with hg2_2 | hg2_2
  ·
   simp only [hg2_2]
   refine Zt rfl rfl rfl rfl (Zt rfl rfl rfl rfl (Zg (Zl rfl rfl rfl) rfl ?_))
   exact Zam rfl ⟨rfl, rfl, rfl, trivial⟩ (by (first | refine (decide_eq_true ?_).symm | refine (decide_eq_false ?_).symm | refine decide_eq_decide.2 ?_ | refine decide_eq_true ?_ | refine decide_eq_false ?_) <;> (try unfold longN) <;> (try simp only [decide_eq_true_eq, decide_eq_false_iff_not] at *) <;> omega)
  ·
   simp only [hg2_2]
   refine Zk rfl rfl (ym rfl rfl (Zk rfl rfl (Zg (Zcn rfl rfl rfl) rfl (Zg (Zn rfl rfl rfl) rfl ?_))))
   exact Zam rfl ⟨rfl, rfl, rfl, trivial⟩ (by (first | refine (decide_eq_true ?_).symm | refine (decide_eq_false ?_).symm | refine decide_eq_decide.2 ?_ | refine decide_eq_true ?_ | refine decide_eq_false ?_) <;> (try unfold longN) <;> (try simp only [decide_eq_true_eq, decide_eq_false_iff_not] at *) <;> omega)
 refine Zc ?_
 refine Zo rfl (fun hb2 => ?_) (fun hb2 => ?_)
 ·
  refine Zd (Za (ya rfl rfl (Zf (ρ' := [(4, _)]) ⟨rfl, trivial⟩ ?_)))
  refine Zc (Zw (Zj (Zbe (.tmp rfl) ?_)))
  exact ⟨1000, rfl, by omega, by omega, fun h => absurd h (by omega)⟩
 ·
  refine Zr (Zc (Zd (Zd (Za (ya rfl rfl (Zf (ρ' := [(0, _), (1, _), (5, _), (6, _)]) ⟨rfl, rfl, rfl, rfl, trivial⟩ ?_))))))
  refine Zc (Zad ?_)
  refine Zbc (fun m ρ σ u' => ∃ i : Nat, i + m = xs.length ∧ VLe u u' ∧ ∃ (n : Int), σ = [] ∧ ρ = [(0, .v (.slice ad xs.length cap)), (1, .v (.int .i64 dp)), (5, .v (.int .i64 n)), (6, .v (.int .i64 i))] ∧ (u = u' ∧ 0 ≤ n ∧ n ≤ 1000 + fuel * 200000000000000 ∧ (n < 1000 → xs.length + szI (xs.take i) ≤ n + i ∧ smI (xs.take i)))) (xs.length) ?_ ?_
  ·
   refine ⟨[(0, _), (1, _), (5, _), (6, _)], [], ⟨rfl, rfl, rfl, rfl, trivial⟩, trivial, 0, by omega, VLe.refl _, _, (by first | rfl | simp), (by first | rfl | (simp only [List.cons.injEq, Prod.mk.injEq, SV.v.injEq, Value.int.injEq, true_and, and_true]; omega) | simp), ?_⟩
   have := of_decide_eq_false hb2; exact ⟨rfl, by omega, by omega, fun _ => ⟨by simp [szI], by simp [smI]⟩⟩
  ·
   rintro m ρ σ u' ⟨i, hi5, hle5, n, rfl, rfl, ⟨rfl, hn0, hnb, hinv⟩⟩
   refine Zd (Zd ?_)
   refine Zcj 26 (decide (i < xs.length ∧ n < 1000)) (ρk := [(0, _), (1, _), (5, _), (6, _)]) ⟨rfl, rfl, rfl, rfl, trivial⟩ ?_ ?_
   ·
    refine Za (ym rfl rfl (ym rfl rfl (Zg (Zaq rfl rfl Tryz.s35 rfl) rfl (Zg (Zbn rfl rfl rfl) rfl (ym rfl rfl ?_)))))
    rcases Bool.eq_false_or_eq_true (decide ((i : Int) < xs.length)) with hg5_4 | hg5_4
    ·
     simp only [hg5_4]
     refine Zk rfl rfl (ym rfl rfl (Zk rfl rfl (Zg (Zbn rfl rfl rfl) rfl (Zg (Zl rfl rfl rfl) rfl ?_))))
     exact Zam rfl ⟨rfl, rfl, rfl, rfl, trivial⟩ (by (first | refine (decide_eq_true ?_).symm | refine (decide_eq_false ?_).symm | refine decide_eq_decide.2 ?_ | refine decide_eq_true ?_ | refine decide_eq_false ?_) <;> (try unfold longN) <;> (try simp only [decide_eq_true_eq, decide_eq_false_iff_not] at *) <;> omega)
    ·
     simp only [hg5_4]
     refine Zt rfl rfl rfl rfl (Zt rfl rfl rfl rfl (Zg (Zn rfl rfl rfl) rfl ?_))
     exact Zam rfl ⟨rfl, rfl, rfl, rfl, trivial⟩ (by (first | refine (decide_eq_true ?_).symm | refine (decide_eq_false ?_).symm | refine decide_eq_decide.2 ?_ | refine decide_eq_true ?_ | refine decide_eq_false ?_) <;> (try unfold longN) <;> (try simp only [decide_eq_true_eq, decide_eq_false_iff_not] at *) <;> omega)
   refine Zc ?_
   refine Zo rfl (fun hb5 => ?_) (fun hb5 => ?_)
   ·
    refine Zr (Zc (Zd (Zad (Zd ?_))))
    have hb := of_decide_eq_true hb5
    have hb2 := of_decide_eq_false hb2
    have hlt : i < xs.length := hb.1
    obtain ⟨k, t, d, ti, a, args, cites, kids, vc, vp, va, vt, vk, hg, hcut1, s1, s2, s3, s4, s5, hok⟩ := hc1.at hlt
    have oneAll := (hc1.get i _ hg).one
    rw [hcut1] at oneAll
    obtain ⟨okk0, okt, okd, okti, oka, ⟨okargs, okargs2⟩, ⟨okcites, okcites2⟩, okk⟩ := hok
    obtain ⟨adt, capt, rfl, h4⟩ := s4
    obtain ⟨ada, capa, rfl, h3⟩ := s3
    obtain ⟨hinv1, hinv2⟩ := hinv hb.2
    have hsz := szI_take hg
    have hln := len_szI xs
    refine Za (ym rfl rfl (ym rfl rfl (Zg (Zai rfl Tryz.s35 rfl rfl (by assumption) (by first | rfl | omega) (by omega)) rfl (Zg (Zag rfl Tryz.k42 rfl (by assumption) (by omega) (by assumption) (vs := [_, _, _, _, _, _, _, _, _, _]) rfl rfl rfl rfl) rfl (Zv rfl rfl ?_)))))
    refine Zas trivial Tryz.z42 rfl rfl rfl ?_
    refine Zv rfl rfl ?_
    refine Zm trivial rfl Tryz.k42 rfl rfl rfl (vs := [_, _, _, _, _, _, _, _, _, _]) rfl rfl (by first | rfl | assumption | simp [Value.oneCell', str]) (Nat.le_of_ble_eq_true rfl) rfl ?_
    refine Zf (ρ' := [(0, _), (1, _), (5, _), (6, _), (7, _)]) ⟨rfl, rfl, rfl, rfl, rfl, trivial⟩ ?_
    refine Zc (Zd (Zd ?_))
    refine Zcj 61 (decide (300 < t.length + d.length + ti.length ∨ (40 < a.classes.length ∨ 40 < a.pairs.length ∨ 600 < longN a) ∨ 9 < args.length ∨ 9 < cites.length)) (ρk := [(0, _), (1, _), (5, _), (6, _), (7, _)]) ⟨rfl, rfl, rfl, rfl, rfl, trivial⟩ ?_ ?_
    ·
     refine Za (Zg (Zh rfl Tryz.f42' rfl (by decide) rfl) rfl (Zg (Zi rfl Tryz.k9 rfl rfl rfl (vs := [_]) rfl rfl rfl) rfl (Zg (Zao rfl rfl Tryz.str9 rfl) rfl (Zg (Zh rfl Tryz.f42' rfl (by decide) rfl) rfl (Zg (Zi rfl Tryz.k9 rfl rfl rfl (vs := [_]) rfl rfl rfl) rfl (Zg (Zao rfl rfl Tryz.str9 rfl) rfl (Zg (Zav rfl rfl rfl (Zs (by omega))) rfl ?_)))))))
     refine Zg (Zh rfl Tryz.f42' rfl (by decide) rfl) rfl (Zg (Zi rfl Tryz.k9 rfl rfl rfl (vs := [_]) rfl rfl rfl) rfl (Zg (Zao rfl rfl Tryz.str9 rfl) rfl (Zg (Zav rfl rfl rfl (Zs (by omega))) rfl ?_)))
     refine Zg (Zcn rfl rfl rfl) rfl (ym rfl rfl ?_)
     rcases Bool.eq_false_or_eq_true (decide ((300 : Int) < (t.length : Int) + d.length + ti.length)) with hg8_12 | hg8_12
     ·
      simp only [hg8_12]
      iterate 3 refine Zt rfl rfl rfl rfl ?_
      refine Zg (Zl rfl rfl rfl) rfl (ym rfl rfl ?_)
      iterate 4 refine Zt rfl rfl rfl rfl ?_
      refine Zg (Zl rfl rfl rfl) rfl (ym rfl rfl ?_)
      iterate 4 refine Zt rfl rfl rfl rfl ?_
      refine Zg (Zl rfl rfl rfl) rfl ?_
      exact Zam rfl ⟨rfl, rfl, rfl, rfl, rfl, trivial⟩ (by (first | refine (decide_eq_true ?_).symm | refine (decide_eq_false ?_).symm | refine decide_eq_decide.2 ?_ | refine decide_eq_true ?_ | refine decide_eq_false ?_) <;> (try unfold NodeSm) <;> (try simp only [decide_eq_true_eq, decide_eq_false_iff_not] at *) <;> omega)
     ·
      simp only [hg8_12]
      refine Zk rfl rfl (Zg (Zh rfl Tryz.f42' rfl (by decide) rfl) rfl (Zk rfl rfl (Zg (Zi rfl Tryz.k39 rfl rfl rfl (vs := [_, _, _]) rfl rfl rfl) rfl (Zk rfl rfl (Zv rfl rfl ?_)))))
      refine Zaa (caps := []) trivial rfl rfl Tryz.c53 rfl (FnP.mono (long_fn a _ _ u oka s1 s2) ?_)
      rintro v u1 hle1 rfl
      refine Zg (Zn rfl rfl rfl) rfl (ym rfl rfl ?_)
      rcases Bool.eq_false_or_eq_true (decide (40 < a.classes.length ∨ 40 < a.pairs.length ∨ 600 < longN a)) with hg8_17 | hg8_17
      ·
       simp only [hg8_17]
       iterate 4 refine Zt rfl rfl rfl rfl ?_
       refine Zg (Zl rfl rfl rfl) rfl (ym rfl rfl ?_)
       iterate 4 refine Zt rfl rfl rfl rfl ?_
       refine Zg (Zl rfl rfl rfl) rfl ?_
       exact Zam rfl ⟨rfl, rfl, rfl, rfl, rfl, trivial⟩ (by (first | refine (decide_eq_true ?_).symm | refine (decide_eq_false ?_).symm | refine decide_eq_decide.2 ?_ | refine decide_eq_true ?_ | refine decide_eq_false ?_) <;> (try unfold NodeSm) <;> (try simp only [decide_eq_true_eq, decide_eq_false_iff_not] at *) <;> omega)
      ·
       simp only [hg8_17]
       refine Zk rfl rfl (Zg (Zh rfl Tryz.f42' rfl (by decide) rfl) rfl (Zk rfl rfl (Zg (Zi rfl Tryz.k37 rfl rfl rfl (vs := [_]) rfl rfl rfl) rfl (Zk rfl rfl (Zg (Zaq rfl rfl Tryz.s37 rfl) rfl (Zk rfl rfl (Zg (Zcn rfl rfl rfl) rfl ?_)))))))
       refine Zg (Zn rfl rfl rfl) rfl (ym rfl rfl ?_)
       rcases Bool.eq_false_or_eq_true (decide ((9 : Int) < args.length)) with hg8_23 | hg8_23
       ·
        simp only [hg8_23]
        iterate 4 refine Zt rfl rfl rfl rfl ?_
        refine Zg (Zl rfl rfl rfl) rfl ?_
        exact Zam rfl ⟨rfl, rfl, rfl, rfl, rfl, trivial⟩ (by (first | refine (decide_eq_true ?_).symm | refine (decide_eq_false ?_).symm | refine decide_eq_decide.2 ?_ | refine decide_eq_true ?_ | refine decide_eq_false ?_) <;> (try unfold NodeSm) <;> (try simp only [decide_eq_true_eq, decide_eq_false_iff_not] at *) <;> omega)
       ·
        simp only [hg8_23]
        refine Zk rfl rfl (Zg (Zh rfl Tryz.f42' rfl (by decide) rfl) rfl (Zk rfl rfl (Zg (Zi rfl Tryz.k40 rfl rfl rfl (vs := [_]) rfl rfl rfl) rfl (Zk rfl rfl (Zg (Zaq rfl rfl Tryz.s40 rfl) rfl (Zk rfl rfl (Zg (Zcn rfl rfl rfl) rfl ?_)))))))
        refine Zg (Zn rfl rfl rfl) rfl ?_
        exact Zam rfl ⟨rfl, rfl, rfl, rfl, rfl, trivial⟩ (by (first | refine (decide_eq_true ?_).symm | refine (decide_eq_false ?_).symm | refine decide_eq_decide.2 ?_ | refine decide_eq_true ?_ | refine decide_eq_false ?_) <;> (try unfold NodeSm) <;> (try simp only [decide_eq_true_eq, decide_eq_false_iff_not] at *) <;> omega)
    refine Zc ?_
    refine Zo rfl (fun hb8 => ?_) (fun hb8 => ?_)
    ·
     refine Zd (Za (ya rfl rfl (Zf (ρ' := [(4, _)]) ⟨rfl, trivial⟩ ?_)))
     refine Zc (Zw (Zj (Zu (Zj (Zj (Zu (Zj ?_)))))))
     refine Zbe (.tmp rfl) ?_
     exact ⟨1000, rfl, by omega, by omega, fun h => absurd h (by omega)⟩
    ·
     refine Zr (Zc (Zd (Zd (Za (ya rfl rfl (Zf (ρ' := [(0, _), (1, _), (5, _), (6, _), (7, _), (8, _)]) ⟨rfl, rfl, rfl, rfl, rfl, rfl, trivial⟩ ?_))))))
     refine Zc (Zad ?_)
     refine Zbc (fun m ρ σ u' => ∃ j : Nat, j + m = args.length ∧ VLe u u' ∧ ∃ (n2 : Int), σ = [(7, (none, .box (inlV k t d ti a.id vc vp (.slice ada args.length capa) (.slice adt cites.length capt) vk)))] ∧ ρ = [(0, .v (.slice ad xs.length cap)), (1, .v (.int .i64 dp)), (5, .v (.int .i64 n2)), (6, .v (.int .i64 i)), (7, .p 7 0), (8, .v (.int .i64 j))] ∧ (u = u' ∧ n ≤ n2 ∧ n2 ≤ n + j * 3518437208781 ∧ (n2 < 1000 → ∀ s ∈ args.take j, s.length ≤ 50000))) (args.length) ?_ ?_
     ·
      refine ⟨[(0, _), (1, _), (5, _), (6, _), (7, _), (8, _)], [(7, _)], ⟨rfl, rfl, rfl, rfl, rfl, rfl, trivial⟩, ⟨rfl, trivial⟩, 0, by omega, VLe.refl _, n, (by first | rfl | simp), (by first | rfl | (simp only [List.cons.injEq, Prod.mk.injEq, SV.v.injEq, Value.int.injEq, true_and, and_true]; omega) | simp), ?_⟩
      exact ⟨rfl, by omega, by omega, fun _ s hs => by simp at hs⟩
     ·
      rintro mj ρ σ u' ⟨j, hi11, hle11, n2, rfl, rfl, ⟨rfl, hn1, hn2, hq2⟩⟩
      refine Zd (Zd (Za (ym rfl rfl (Zg (Zh rfl Tryz.f42' rfl (by decide) rfl) rfl (Zg (Zi rfl Tryz.k37 rfl rfl rfl (vs := [_]) rfl rfl rfl) rfl (Zg (Zaq rfl rfl Tryz.s37 rfl) rfl (Zg (Zbn rfl rfl rfl) rfl (Zf (ρ' := [(0, _), (1, _), (5, _), (6, _), (7, _), (8, _), (66, _)]) ⟨rfl, rfl, rfl, rfl, rfl, rfl, rfl, trivial⟩ ?_))))))))
      refine Zc ?_
      refine Zo rfl (fun hb11 => ?_) (fun hb11 => ?_)
      ·
       refine Zr (Zc (Zd (Zad ?_)))
       have hlt2 : j < args.length := by have := of_decide_eq_true hb11; omega
       have hga := List.getElem?_eq_getElem hlt2
       have hcc := cut_strsC hga
       have hsl := okargs2 _ (List.mem_of_getElem? hga)
       have h8 := of_decide_eq_false hb8
       refine Za (ym rfl rfl (Zg (Zh rfl Tryz.f42' rfl (by decide) rfl) rfl (Zg (Zi rfl Tryz.k37 rfl rfl rfl (vs := [_]) rfl rfl rfl) rfl (ym rfl rfl (Zg (Zai rfl Tryz.s37 rfl rfl (by assumption) (by first | rfl | omega) (by omega)) rfl (Zg (Zag rfl Tryz.k9 rfl (by assumption) (by omega) (by assumption) (vs := [_]) rfl rfl rfl rfl) rfl (Zg (Zao rfl rfl Tryz.str9 rfl) rfl ?_)))))))
       refine Zg (y_quoE rfl rfl rfl (by omega) (by omega) (by omega)) rfl (Zg (Zav rfl rfl rfl (Zs (by omega))) rfl ?_)
       refine ya rfl rfl (Zf (ρ' := [(0, _), (1, _), (5, _), (6, _), (7, _), (8, _)]) ⟨rfl, rfl, rfl, rfl, rfl, rfl, trivial⟩ ?_)
       refine Zah (Zc (Za (ym rfl rfl (Zg (Zav rfl rfl rfl (Zs (by omega))) rfl ?_))))
       refine ya rfl rfl (Zf (ρ' := [(0, _), (1, _), (5, _), (6, _), (7, _), (8, _)]) ⟨rfl, rfl, rfl, rfl, rfl, rfl, trivial⟩ ?_)
       refine Zab ?_
       refine ⟨mj - 1, [(0, _), (1, _), (5, _), (6, _), (7, _), (8, _)], [(7, _)], by omega, ⟨rfl, rfl, rfl, rfl, rfl, rfl, trivial⟩, ⟨rfl, trivial⟩, j + 1, by omega, hle11, _, (by first | rfl | simp), (by first | rfl | (simp only [List.cons.injEq, Prod.mk.injEq, SV.v.injEq, Value.int.injEq, true_and, and_true]; omega) | simp), ?_⟩
       refine ⟨rfl, by omega, by omega, fun h s hs => ?_⟩; rcases mem_take_succ hga hs with hs | rfl; exact hq2 (by omega) s hs; omega
      ·
       refine Zax ?_
       refine Zq (Zq ?_)
       refine Zaf ?_
       refine Zc (Zd (Zd (Za (ya rfl rfl (Zf (ρ' := [(0, _), (1, _), (5, _), (6, _), (7, _), (9, _)]) ⟨rfl, rfl, rfl, rfl, rfl, rfl, trivial⟩ ?_)))))
       refine Zc (Zad ?_)
       refine Zbc (fun m ρ σ u' => ∃ j : Nat, j + m = cites.length ∧ VLe u u' ∧ ∃ (n3 : Int), σ = [(7, (none, .box (inlV k t d ti a.id vc vp (.slice ada args.length capa) (.slice adt cites.length capt) vk)))] ∧ ρ = [(0, .v (.slice ad xs.length cap)), (1, .v (.int .i64 dp)), (5, .v (.int .i64 n3)), (6, .v (.int .i64 i)), (7, .p 7 0), (9, .v (.int .i64 j))] ∧ (u = u' ∧ n2 ≤ n3 ∧ n3 ≤ n2 + j * 10555311626345 ∧ (n3 < 1000 → ∀ c ∈ cites.take j, c.key.length + c.pre.length + c.suf.length ≤ 50000))) (cites.length) ?_ ?_
       ·
        refine ⟨[(0, _), (1, _), (5, _), (6, _), (7, _), (9, _)], [(7, _)], ⟨rfl, rfl, rfl, rfl, rfl, rfl, trivial⟩, ⟨rfl, trivial⟩, 0, by omega, VLe.refl _, n2, (by first | rfl | simp), (by first | rfl | (simp only [List.cons.injEq, Prod.mk.injEq, SV.v.injEq, Value.int.injEq, true_and, and_true]; omega) | simp), ?_⟩
        exact ⟨rfl, by omega, by omega, fun _ s hs => by simp at hs⟩
       ·
        rintro mj ρ σ u' ⟨j, hi15, hle15, n3, rfl, rfl, ⟨rfl, hn3, hn4, hq3⟩⟩
        refine Zd (Zd (Za (ym rfl rfl (Zg (Zh rfl Tryz.f42' rfl (by decide) rfl) rfl (Zg (Zi rfl Tryz.k40 rfl rfl rfl (vs := [_]) rfl rfl rfl) rfl (Zg (Zaq rfl rfl Tryz.s40 rfl) rfl (Zg (Zbn rfl rfl rfl) rfl (Zf (ρ' := [(0, _), (1, _), (5, _), (6, _), (7, _), (9, _), (82, _)]) ⟨rfl, rfl, rfl, rfl, rfl, rfl, rfl, trivial⟩ ?_))))))))
        refine Zc ?_
        refine Zo rfl (fun hb15 => ?_) (fun hb15 => ?_)
        ·
         refine Zr (Zc (Zd (Zad (Zd ?_))))
         have hlt3 : j < cites.length := by have := of_decide_eq_true hb15; omega
         have hgc := List.getElem?_eq_getElem hlt3
         have hcc := cut_citesC hgc
         have hsl := okcites2 _ (List.mem_of_getElem? hgc)
         have h8 := of_decide_eq_false hb8
         have h11 := of_decide_eq_false hb11
         refine Za (Zg (Zh rfl Tryz.f42' rfl (by decide) rfl) rfl (Zg (Zi rfl Tryz.k40 rfl rfl rfl (vs := [_]) rfl rfl rfl) rfl (ym rfl rfl (Zg (Zai rfl Tryz.s40 rfl rfl (by assumption) (by first | rfl | omega) (by omega)) rfl (Zg (Zag rfl Tryz.k124 rfl (by assumption) (by omega) (by assumption) (vs := [_, _, _, _]) rfl rfl rfl rfl) rfl (Zv rfl rfl ?_))))))
         refine Zas trivial Tryz.z124 rfl rfl rfl ?_
         refine Zv rfl rfl ?_
         refine Zm trivial rfl Tryz.k124 rfl rfl rfl (vs := [_, _, _, _]) rfl rfl (by first | rfl | assumption | simp [Value.oneCell', str]) (Nat.le_of_ble_eq_true rfl) rfl ?_
         refine Zf (ρ' := [(0, _), (1, _), (5, _), (6, _), (7, _), (9, _), (10, _)]) ⟨rfl, rfl, rfl, rfl, rfl, rfl, rfl, trivial⟩ ?_
         refine Zc (Za (ym rfl rfl (Zg (Zh rfl Tryz.f124' rfl (by decide) rfl) rfl (Zg (Zi rfl Tryz.k9 rfl rfl rfl (vs := [_]) rfl rfl rfl) rfl (Zg (Zao rfl rfl Tryz.str9 rfl) rfl (Zg (Zh rfl Tryz.f124' rfl (by decide) rfl) rfl (Zg (Zi rfl Tryz.k9 rfl rfl rfl (vs := [_]) rfl rfl rfl) rfl ?_)))))))
         refine Zg (Zao rfl rfl Tryz.str9 rfl) rfl (Zg (Zav rfl rfl rfl (Zs (by omega))) rfl ?_)
         refine Zg (Zh rfl Tryz.f124' rfl (by decide) rfl) rfl (Zg (Zi rfl Tryz.k9 rfl rfl rfl (vs := [_]) rfl rfl rfl) rfl (Zg (Zao rfl rfl Tryz.str9 rfl) rfl (Zg (Zav rfl rfl rfl (Zs (by omega))) rfl ?_)))
         refine Zg (y_quoE rfl rfl rfl (by omega) (by omega) (by omega)) rfl (Zg (Zav rfl rfl rfl (Zs (by omega))) rfl ?_)
         refine ya rfl rfl (Zf (ρ' := [(0, _), (1, _), (5, _), (6, _), (7, _), (9, _)]) ⟨rfl, rfl, rfl, rfl, rfl, rfl, trivial⟩ ?_)
         refine Zah (Zc (Za (ym rfl rfl (Zg (Zav rfl rfl rfl (Zs (by omega))) rfl ?_))))
         refine ya rfl rfl (Zf (ρ' := [(0, _), (1, _), (5, _), (6, _), (7, _), (9, _)]) ⟨rfl, rfl, rfl, rfl, rfl, rfl, trivial⟩ ?_)
         refine Zab ?_
         refine ⟨mj - 1, [(0, _), (1, _), (5, _), (6, _), (7, _), (9, _)], [(7, _)], by omega, ⟨rfl, rfl, rfl, rfl, rfl, rfl, trivial⟩, ⟨rfl, trivial⟩, j + 1, by omega, hle15, _, (by first | rfl | simp), (by first | rfl | (simp only [List.cons.injEq, Prod.mk.injEq, SV.v.injEq, Value.int.injEq, true_and, and_true]; omega) | simp), ?_⟩
         refine ⟨rfl, by omega, by omega, fun h s hs => ?_⟩; rcases mem_take_succ hgc hs with hs | rfl; exact hq3 (by omega) s hs; omega
        ·
         refine Zax ?_
         refine Zq (Zq ?_)
         refine Zaf ?_
         refine Zc ?_
         have h8 := of_decide_eq_false hb8
         have h11 := of_decide_eq_false hb11
         have h15 := of_decide_eq_false hb15
         rw [List.take_of_length_le (by omega)] at hq2 hq3
         refine Za (ym rfl rfl (Zg (Zh rfl Tryz.f42' rfl (by decide) rfl) rfl (Zg (Zi rfl Tryz.k35 rfl rfl rfl (vs := [_]) rfl rfl rfl) rfl (ym rfl rfl (Zg (Zav rfl rfl rfl (Zs (by omega))) rfl ?_)))))
         refine Zv rfl rfl ?_
         refine Zaa (caps := []) trivial rfl rfl Tryz.c54 rfl (FnP.mono (ih (fuel - 1) (by omega) (by omega) (dp + 1) vk kids u (by omega) okk s5) ?_)
         rintro v u1 hle1 ⟨n4, rfl, hn40, hn4b, hn4q⟩
         refine Zg (Zav rfl rfl rfl (Zs (by omega))) rfl ?_
         refine ya rfl rfl (Zf (ρ' := [(0, _), (1, _), (5, _), (6, _)]) ⟨rfl, rfl, rfl, rfl, trivial⟩ ?_)
         refine Zah (Zc (Za (ym rfl rfl (Zg (Zav rfl rfl rfl (Zs (by omega))) rfl ?_))))
         refine ya rfl rfl (Zf (ρ' := [(0, _), (1, _), (5, _), (6, _)]) ⟨rfl, rfl, rfl, rfl, trivial⟩ ?_)
         refine Zab ?_
         refine ⟨m - 1, [(0, _), (1, _), (5, _), (6, _)], [], by omega, ⟨rfl, rfl, rfl, rfl, trivial⟩, trivial, i + 1, by omega, hle5, _, (by first | rfl | simp), (by first | rfl | (simp only [List.cons.injEq, Prod.mk.injEq, SV.v.injEq, Value.int.injEq, true_and, and_true]; omega) | simp), ?_⟩
         refine ⟨rfl, by omega, by omega, fun h => ?_⟩
         obtain ⟨q1, q2⟩ := hn4q (by omega)
         refine ⟨by simp only [sz1] at hsz; omega, smI_take hg hinv2 ?_⟩
         unfold smI1 NodeSm
         exact ⟨⟨by omega, by omega, by omega, by omega, by omega, by omega, hq2 (by omega), hq3 (by omega)⟩, q2⟩
   ·
    refine Zax ?_
    refine Zq (Zq ?_)
    refine Zaf ?_
    refine Zc (Zd (Za (ym rfl rfl (ya rfl rfl (Zf (ρ' := [(4, _)]) ⟨rfl, trivial⟩ ?_)))))
    refine Zc (Zw (Zbe (.tmp rfl) ?_))
    have hge := of_decide_eq_false hb5
    refine ⟨n, rfl, hn0, hnb, fun h => ?_⟩
    obtain ⟨q1, q2⟩ := hinv h
    rw [List.take_of_length_le (by omega)] at q1 q2
    exact ⟨by omega, q2⟩
mutual
def smB1 : Blk → Prop
 | .mk _ _ inf t d ti a line kids => inf.length + t.length + d.length + ti.length ≤ 300 ∧ a.classes.length ≤ 40 ∧ a.pairs.length ≤ 40 ∧ longN a ≤ 600 ∧ smI line ∧ smB kids
def smB : List Blk → Prop
 | [] => True
 | x :: xs => smB1 x ∧ smB xs
end
theorem smB_append : ∀ {xs ys : List Blk}, smB xs → smB ys → smB (xs ++ ys)
 | [], ys, _, k => k
 | x :: xs, ys, h, k => by
  unfold smB at h
  rw [List.cons_append]
  unfold smB
  exact ⟨h.1, smB_append h.2 k⟩
theorem szB_append : ∀ (xs ys : List Blk), szB (xs ++ ys) = szB xs + szB ys
 | [], ys => by simp [szB]
 | x :: xs, ys => by
  rw [List.cons_append]
  simp only [szB, szB_append xs ys, Nat.add_assoc]
theorem szB_take {xs : List Blk} {i : Nat} {x : Blk} (h : xs[i]? = some x) : szB (xs.take (i + 1)) = szB (xs.take i) + szb x := by
 obtain ⟨hlt, rfl⟩ := List.getElem?_eq_some_iff.1 h
 rw [List.take_succ_eq_append_getElem hlt, szB_append]
 simp [szB]
theorem smB_take {xs : List Blk} {i : Nat} {x : Blk} (h : xs[i]? = some x) (h1 : smB (xs.take i)) (h2 : smB1 x) : smB (xs.take (i + 1)) := by
 obtain ⟨hlt, rfl⟩ := List.getElem?_eq_some_iff.1 h
 rw [List.take_succ_eq_append_getElem hlt]
 exact smB_append h1 (by unfold smB; exact ⟨h2, by unfold smB; trivial⟩)
theorem smI_get : ∀ {xs : List Inl} {i : Nat} {x : Inl}, smI xs → xs[i]? = some x → smI1 x
 | [], i, x, _, h => by simp at h
 | y :: ys, 0, x, h, hi => by
  simp at hi; subst hi
  unfold smI at h; exact h.1
 | y :: ys, i + 1, x, h, hi => by
  unfold smI at h
  exact smI_get h.2 (by simpa using hi)
theorem smB_get : ∀ {xs : List Blk} {i : Nat} {x : Blk}, smB xs → xs[i]? = some x → smB1 x
 | [], i, x, _, h => by simp at h
 | y :: ys, 0, x, h, hi => by
  simp at hi; subst hi
  unfold smB at h; exact h.1
 | y :: ys, i + 1, x, h, hi => by
  unfold smB at h
  exact smB_get h.2 (by simpa using hi)
theorem heavy_fn (fuel : Nat) : fuel ≤ 21 → ∀ (dp : Int) (v : Value) (xs : List Blk) (u : View), dp = 21 - fuel → xs.length ≤ 140737488351232 → BlkS u v xs →
  FnP Tryz.prog 20 [v, .int .i64 dp] u fun r _ => ∃ n : Int, r = .int .i64 n ∧ 0 ≤ n ∧ n ≤ 1000 + fuel * 5000000000000000 ∧ (n < 1000 → szB xs ≤ n ∧ smB xs) := by
 induction fuel using Nat.strongRecOn with
 | _ fuel ih =>
 intro hf dp v xs u hdp hx ha
 obtain ⟨cs, ⟨ad, cap, rfl, h1⟩, hc1⟩ := ha
 refine FnP.intro [.tmp 4] Tryz.func20 rfl rfl rfl ?_
 intro w0 D hw0
 refine Zd (Za (ya rfl rfl (Zf (ρ' := [(0, _), (1, _)]) ⟨rfl, rfl, trivial⟩ ?_)))
 refine Zc (Zd (Za (ym rfl rfl (Zg (Zaq rfl rfl Tryz.s23 rfl) rfl (ya rfl rfl (Zf (ρ' := [(0, _), (1, _), (5, _)]) ⟨rfl, rfl, rfl, trivial⟩ ?_))))))
 refine Zc (Zd (Zd ?_))
 refine Zcj 15 (decide (20 < dp ∨ 200 < xs.length)) (ρk := [(0, _), (1, _), (5, _)]) ⟨rfl, rfl, rfl, trivial⟩ ?_ ?_
 ·
  refine Za (ym rfl rfl (Zg (Zcn rfl rfl rfl) rfl (ym rfl rfl ?_)))
  rcases Bool.eq_false_or_eq_true (decide ((20 : Int) < dp)) with hg2_2 | hg2_2
  ·
   simp only [hg2_2]
   refine Zt rfl rfl rfl rfl (Zt rfl rfl rfl rfl (Zg (Zl rfl rfl rfl) rfl ?_))
   exact Zam rfl ⟨rfl, rfl, rfl, trivial⟩ (by (first | refine (decide_eq_true ?_).symm | refine (decide_eq_false ?_).symm | refine decide_eq_decide.2 ?_ | refine decide_eq_true ?_ | refine decide_eq_false ?_) <;> (try unfold longN) <;> (try simp only [decide_eq_true_eq, decide_eq_false_iff_not] at *) <;> omega)
  ·
   simp only [hg2_2]
   refine Zk rfl rfl (ym rfl rfl (Zk rfl rfl (Zg (Zcn rfl rfl rfl) rfl (Zg (Zn rfl rfl rfl) rfl ?_))))
   exact Zam rfl ⟨rfl, rfl, rfl, trivial⟩ (by (first | refine (decide_eq_true ?_).symm | refine (decide_eq_false ?_).symm | refine decide_eq_decide.2 ?_ | refine decide_eq_true ?_ | refine decide_eq_false ?_) <;> (try unfold longN) <;> (try simp only [decide_eq_true_eq, decide_eq_false_iff_not] at *) <;> omega)
 refine Zc ?_
 refine Zo rfl (fun hb2 => ?_) (fun hb2 => ?_)
 ·
  refine Zd (Za (ya rfl rfl (Zf (ρ' := [(4, _)]) ⟨rfl, trivial⟩ ?_)))
  refine Zc (Zw (Zj (Zbe (.tmp rfl) ?_)))
  exact ⟨1000, rfl, by omega, by omega, fun h => absurd h (by omega)⟩
 ·
  refine Zr (Zc (Zd (Zd (Za (ya rfl rfl (Zf (ρ' := [(0, _), (1, _), (5, _), (6, _)]) ⟨rfl, rfl, rfl, rfl, trivial⟩ ?_))))))
  refine Zc (Zad ?_)
  refine Zbc (fun m ρ σ u' => ∃ i : Nat, i + m = xs.length ∧ VLe u u' ∧ ∃ (n : Int), σ = [] ∧ ρ = [(0, .v (.slice ad xs.length cap)), (1, .v (.int .i64 dp)), (5, .v (.int .i64 n)), (6, .v (.int .i64 i))] ∧ (u = u' ∧ 0 ≤ n ∧ n ≤ 1000 + fuel * 5000000000000000 ∧ (n < 1000 → xs.length + szB (xs.take i) ≤ n + i ∧ smB (xs.take i)))) (xs.length) ?_ ?_
  ·
   refine ⟨[(0, _), (1, _), (5, _), (6, _)], [], ⟨rfl, rfl, rfl, rfl, trivial⟩, trivial, 0, by omega, VLe.refl _, _, (by first | rfl | simp), (by first | rfl | (simp only [List.cons.injEq, Prod.mk.injEq, SV.v.injEq, Value.int.injEq, true_and, and_true]; omega) | simp), ?_⟩
   have := of_decide_eq_false hb2; exact ⟨rfl, by omega, by omega, fun _ => ⟨by simp [szB], by simp [smB]⟩⟩
  ·
   rintro m ρ σ u' ⟨i, hi5, hle5, n, rfl, rfl, ⟨rfl, hn0, hnb, hinv⟩⟩
   refine Zd (Zd ?_)
   refine Zcj 23 (decide (i < xs.length ∧ n < 1000)) (ρk := [(0, _), (1, _), (5, _), (6, _)]) ⟨rfl, rfl, rfl, rfl, trivial⟩ ?_ ?_
   ·
    refine Za (ym rfl rfl (ym rfl rfl (Zg (Zaq rfl rfl Tryz.s23 rfl) rfl (Zg (Zbn rfl rfl rfl) rfl (ym rfl rfl ?_)))))
    rcases Bool.eq_false_or_eq_true (decide ((i : Int) < xs.length)) with hg5_4 | hg5_4
    ·
     simp only [hg5_4]
     refine Zk rfl rfl (ym rfl rfl (Zk rfl rfl (Zg (Zbn rfl rfl rfl) rfl (Zg (Zl rfl rfl rfl) rfl ?_))))
     exact Zam rfl ⟨rfl, rfl, rfl, rfl, trivial⟩ (by (first | refine (decide_eq_true ?_).symm | refine (decide_eq_false ?_).symm | refine decide_eq_decide.2 ?_ | refine decide_eq_true ?_ | refine decide_eq_false ?_) <;> (try unfold longN) <;> (try simp only [decide_eq_true_eq, decide_eq_false_iff_not] at *) <;> omega)
    ·
     simp only [hg5_4]
     refine Zt rfl rfl rfl rfl (Zt rfl rfl rfl rfl (Zg (Zn rfl rfl rfl) rfl ?_))
     exact Zam rfl ⟨rfl, rfl, rfl, rfl, trivial⟩ (by (first | refine (decide_eq_true ?_).symm | refine (decide_eq_false ?_).symm | refine decide_eq_decide.2 ?_ | refine decide_eq_true ?_ | refine decide_eq_false ?_) <;> (try unfold longN) <;> (try simp only [decide_eq_true_eq, decide_eq_false_iff_not] at *) <;> omega)
   refine Zc ?_
   refine Zo rfl (fun hb5 => ?_) (fun hb5 => ?_)
   ·
    refine Zr (Zc (Zd (Zad (Zd ?_))))
    have hb := of_decide_eq_true hb5
    have hb2 := of_decide_eq_false hb2
    have hlt : i < xs.length := hb.1
    obtain ⟨k, lv, inf, t, d, ti, a, line, kids, vc, vp, vl, vk, hg, hcut1, s1, s2, s3, s4, hok⟩ := hc1.at hlt
    have oneAll := (hc1.get i _ hg).one
    rw [hcut1] at oneAll
    obtain ⟨okk0, oklv, oki, okt, okd, okti, oka, okl, okk⟩ := hok
    obtain ⟨hinv1, hinv2⟩ := hinv hb.2
    have hsz := szB_take hg
    have hln := len_szB xs
    refine Za (ym rfl rfl (ym rfl rfl (Zg (Zai rfl Tryz.s23 rfl rfl (by assumption) (by first | rfl | omega) (by omega)) rfl (Zg (Zag rfl Tryz.k59 rfl (by assumption) (by omega) (by assumption) (vs := [_, _, _, _, _, _, _, _, _, _, _]) rfl rfl rfl rfl) rfl (Zv rfl rfl ?_)))))
    refine Zas trivial Tryz.z59 rfl rfl rfl ?_
    refine Zv rfl rfl ?_
    refine Zm trivial rfl Tryz.k59 rfl rfl rfl (vs := [_, _, _, _, _, _, _, _, _, _, _]) rfl rfl (by first | rfl | assumption | simp [Value.oneCell', str]) (Nat.le_of_ble_eq_true rfl) rfl ?_
    refine Zf (ρ' := [(0, _), (1, _), (5, _), (6, _), (7, _)]) ⟨rfl, rfl, rfl, rfl, rfl, trivial⟩ ?_
    refine Zc (Zd (Zd ?_))
    refine Zcj 50 (decide (300 < inf.length + t.length + d.length + ti.length ∨ 40 < a.classes.length ∨ 40 < a.pairs.length ∨ 600 < longN a)) (ρk := [(0, _), (1, _), (5, _), (6, _), (7, _)]) ⟨rfl, rfl, rfl, rfl, rfl, trivial⟩ ?_ ?_
    ·
     refine Za (Zg (Zh rfl Tryz.f59' rfl (by decide) rfl) rfl (Zg (Zi rfl Tryz.k9 rfl rfl rfl (vs := [_]) rfl rfl rfl) rfl (Zg (Zao rfl rfl Tryz.str9 rfl) rfl (Zg (Zh rfl Tryz.f59' rfl (by decide) rfl) rfl (Zg (Zi rfl Tryz.k9 rfl rfl rfl (vs := [_]) rfl rfl rfl) rfl (Zg (Zao rfl rfl Tryz.str9 rfl) rfl (Zg (Zav rfl rfl rfl (Zs (by omega))) rfl ?_)))))))
     refine Zg (Zh rfl Tryz.f59' rfl (by decide) rfl) rfl (Zg (Zi rfl Tryz.k9 rfl rfl rfl (vs := [_]) rfl rfl rfl) rfl (Zg (Zao rfl rfl Tryz.str9 rfl) rfl (Zg (Zav rfl rfl rfl (Zs (by omega))) rfl ?_)))
     refine Zg (Zh rfl Tryz.f59' rfl (by decide) rfl) rfl (Zg (Zi rfl Tryz.k9 rfl rfl rfl (vs := [_]) rfl rfl rfl) rfl (Zg (Zao rfl rfl Tryz.str9 rfl) rfl (Zg (Zav rfl rfl rfl (Zs (by omega))) rfl ?_)))
     refine Zg (Zcn rfl rfl rfl) rfl (ym rfl rfl ?_)
     rcases Bool.eq_false_or_eq_true (decide ((300 : Int) < (t.length : Int) + inf.length + d.length + ti.length)) with hg8_16 | hg8_16
     ·
      simp only [hg8_16]
      iterate 3 refine Zt rfl rfl rfl rfl ?_
      refine Zg (Zl rfl rfl rfl) rfl ?_
      exact Zam rfl ⟨rfl, rfl, rfl, rfl, rfl, trivial⟩ (by (first | refine (decide_eq_true ?_).symm | refine (decide_eq_false ?_).symm | refine decide_eq_decide.2 ?_ | refine decide_eq_true ?_ | refine decide_eq_false ?_) <;> (try unfold smB1) <;> (try simp only [decide_eq_true_eq, decide_eq_false_iff_not] at *) <;> omega)
     ·
      simp only [hg8_16]
      refine Zk rfl rfl (Zg (Zh rfl Tryz.f59' rfl (by decide) rfl) rfl (Zk rfl rfl (Zg (Zi rfl Tryz.k39 rfl rfl rfl (vs := [_, _, _]) rfl rfl rfl) rfl (Zk rfl rfl (Zv rfl rfl ?_)))))
      refine Zaa (caps := []) trivial rfl rfl Tryz.c53 rfl (FnP.mono (long_fn a _ _ u oka s1 s2) ?_)
      rintro v u1 hle1 rfl
      refine Zg (Zn rfl rfl rfl) rfl ?_
      exact Zam rfl ⟨rfl, rfl, rfl, rfl, rfl, trivial⟩ (by (first | refine (decide_eq_true ?_).symm | refine (decide_eq_false ?_).symm | refine decide_eq_decide.2 ?_ | refine decide_eq_true ?_ | refine decide_eq_false ?_) <;> (try unfold smB1) <;> (try simp only [decide_eq_true_eq, decide_eq_false_iff_not] at *) <;> omega)
    refine Zc ?_
    refine Zo rfl (fun hb8 => ?_) (fun hb8 => ?_)
    ·
     refine Zd (Za (ya rfl rfl (Zf (ρ' := [(4, _)]) ⟨rfl, trivial⟩ ?_)))
     refine Zc (Zw (Zj (Zu (Zj (Zj (Zu (Zj ?_)))))))
     refine Zbe (.tmp rfl) ?_
     exact ⟨1000, rfl, by omega, by omega, fun h => absurd h (by omega)⟩
    ·
     refine Zr (Zc ?_)
     refine Zbk Tryz.mixed rfl [(7, _)] ⟨rfl, trivial⟩ ?_
     refine Zal 0 rfl (by kernel_rfl) (Ze (Zb (Zb (Ze (Zb (Zan)))))) (Zap rfl rfl) rfl ?_
     refine Zal 1 rfl (by kernel_rfl) (Ze (Zb (Zb (Ze (Zb (Zan)))))) (Zh rfl Tryz.f59' rfl (by decide) rfl) rfl ?_
     refine Zal 2 rfl (by kernel_rfl) (Ze (Zb (Zb (Ze (Zb (Zan)))))) (Zi rfl Tryz.k35 rfl rfl rfl (vs := [_]) rfl rfl rfl) rfl ?_
     refine Zal 4 rfl (by kernel_rfl) (Ze (Zb (Zb (Ze (Zb (Zan)))))) (Zh rfl Tryz.f59' rfl (by decide) rfl) rfl ?_
     refine Zal 5 rfl (by kernel_rfl) (Ze (Zb (Zb (Ze (Zb (Zan)))))) (Zi rfl Tryz.k23 rfl rfl rfl (vs := [_]) rfl rfl rfl) rfl ?_
     refine Zal 6 rfl (by kernel_rfl) (Ze (Zb (Zb (Ze (Zb (Zan)))))) (Zap rfl rfl) rfl ?_
     refine Zal 7 rfl (by kernel_rfl) (Ze (Zb (Zb (Ze (Zb (Zan)))))) (Zav rfl rfl rfl (Zs (by omega))) rfl ?_
     refine Zar (i := 3) rfl rfl (by kernel_rfl) ?_
     refine Zaa (caps := []) ⟨rfl, trivial⟩ rfl rfl Tryz.c54 rfl (FnP.mono (weight_fn 21 (by omega) 0 vl line u (by omega) okl s3) ?_)
     rintro v u1 hle1 ⟨n4, rfl, hn40, hn4b, hn4q⟩
     refine Zar (i := 8) rfl rfl (by kernel_rfl) ?_
     refine Zaa (caps := []) ⟨rfl, trivial⟩ rfl rfl Tryz.c20 rfl (FnP.mono (ih (fuel - 1) (by omega) (by omega) (dp + 1) vk kids u (by omega) okk s4) ?_)
     rintro v u1 hle1 ⟨n5, rfl, hn50, hn5b, hn5q⟩
     refine Zal 9 rfl (by kernel_rfl) (Ze (Zb (Zb (Ze (Zb (Zan)))))) (Zav rfl rfl rfl (Zs (by omega))) rfl ?_
     refine Zal 10 rfl (by kernel_rfl) (Ze (Zb (Zb (Ze (Zb (Zan)))))) (Zav rfl rfl rfl (Zs (by omega))) rfl ?_
     refine Zal 11 rfl (by kernel_rfl) (Ze (Zb (Zb (Ze (Zb (Zan)))))) (Zcf rfl rfl) rfl ?_
     refine Zbl (by kernel_rfl) (ρ' := [(0, _), (1, _), (5, _), (6, _)]) ⟨rfl, rfl, rfl, rfl, trivial⟩ ?_
     refine Zah (Zc (Za (ym rfl rfl (Zg (Zav rfl rfl rfl (Zs (by omega))) rfl ?_))))
     refine ya rfl rfl (Zf (ρ' := [(0, _), (1, _), (5, _), (6, _)]) ⟨rfl, rfl, rfl, rfl, trivial⟩ ?_)
     refine Zab ?_
     refine ⟨m - 1, [(0, _), (1, _), (5, _), (6, _)], [], by omega, ⟨rfl, rfl, rfl, rfl, trivial⟩, trivial, i + 1, by omega, hle5, _, (by first | rfl | simp), (by first | rfl | (simp only [List.cons.injEq, Prod.mk.injEq, SV.v.injEq, Value.int.injEq, true_and, and_true]; omega) | simp), ?_⟩
     refine ⟨rfl, by omega, by omega, fun h => ?_⟩
     obtain ⟨q1, q2⟩ := hn4q (by omega)
     obtain ⟨q3, q4⟩ := hn5q (by omega)
     have h8 := of_decide_eq_false hb8
     refine ⟨by simp only [szb] at hsz; omega, smB_take hg hinv2 ?_⟩
     unfold smB1
     exact ⟨by omega, by omega, by omega, by omega, q2, q4⟩
   ·
    refine Zax ?_
    refine Zq (Zq ?_)
    refine Zaf ?_
    refine Zc (Zd (Za (ym rfl rfl (ya rfl rfl (Zf (ρ' := [(4, _)]) ⟨rfl, trivial⟩ ?_)))))
    refine Zc (Zw (Zbe (.tmp rfl) ?_))
    have hge := of_decide_eq_false hb5
    refine ⟨n, rfl, hn0, hnb, fun h => ?_⟩
    obtain ⟨q1, q2⟩ := hinv h
    rw [List.take_of_length_le (by omega)] at q1 q2
    exact ⟨by omega, q2⟩
def DSm (d : DDoc) : Prop := d.mts.length ≤ 70 ∧ (∀ p ∈ d.mts, p.1.length + p.2.length ≤ 300) ∧ szB d.blocks ≤ 120 ∧ smB d.blocks
theorem small_fn (d : DDoc) (vm vb : Value) (u : View) (hm : PrS u vm d.mts) (hbk : BlkS u vb d.blocks) (hok : DocOk d) :
  FnP Tryz.prog 6 [.agg #[vm, vb]] u fun r _ => ∃ b : Bool, r = .bool b ∧ (b = true → DSm d) := by
 obtain ⟨ad, cap, rfl, h1⟩ := hm
 obtain ⟨⟨okm, okm2⟩, okb⟩ := hok
 refine FnP.intro [.tmp 2] Tryz.func6 rfl rfl rfl ?_
 intro w0 D hw0
 refine Zd (Za (Zv rfl rfl ?_))
 refine Zbx trivial rfl (cs := [_, _]) rfl rfl rfl rfl ?_
 refine ya rfl rfl (Zf (ρ' := [(1, _)]) ⟨rfl, trivial⟩ ?_)
 refine Zc (Zd (Zd (Za (Zg (Zh rfl Tryz.f25' rfl (by decide) rfl) rfl (Zg (Zi rfl Tryz.k22 rfl rfl rfl (vs := [_]) rfl rfl rfl) rfl (Zg (Zaq rfl rfl Tryz.s22 rfl) rfl (Zg (Zcn rfl rfl rfl) rfl (Zf (ρ' := [(1, _), (7, _)]) ⟨rfl, rfl, trivial⟩ ?_))))))))
 refine Zc ?_
 refine Zo rfl (fun hb1 => ?_) (fun hb1 => ?_)
 ·
  refine Zd (Za (ya rfl rfl (Zf (ρ' := [(2, _)]) ⟨rfl, trivial⟩ ?_)))
  refine Zc (Zw (Zj (Zbe (.tmp rfl) ?_)))
  exact ⟨false, rfl, fun h => by cases h⟩
 ·
  refine Zr (Zc (Zd (Zd (Za (ya rfl rfl (Zf (ρ' := [(1, _), (3, _)]) ⟨rfl, rfl, trivial⟩ ?_))))))
  refine Zc (Zad ?_)
  refine Zbc (fun m ρ σ u' => ∃ i : Nat, i + m = d.mts.length ∧ VLe u u' ∧ σ = [(1, (none, .box [.slice ad d.mts.length cap, vb]))] ∧ ρ = [(1, .p 1 0), (3, .v (.int .i64 i))] ∧ (u = u' ∧ ∀ p ∈ d.mts.take i, p.1.length + p.2.length ≤ 300)) (d.mts.length) ?_ ?_
  ·
   refine ⟨[(1, _), (3, _)], [(1, _)], ⟨rfl, rfl, trivial⟩, ⟨rfl, trivial⟩, 0, by omega, VLe.refl _, (by first | rfl | simp), (by first | rfl | (simp only [List.cons.injEq, Prod.mk.injEq, SV.v.injEq, Value.int.injEq, true_and, and_true]; omega) | simp), ?_⟩
   exact ⟨rfl, fun p hp => by simp at hp⟩
  ·
   rintro m ρ σ u' ⟨i, hi4, hle4, rfl, rfl, ⟨rfl, hinv⟩⟩
   refine Zd (Zd (Za (ym rfl rfl (Zg (Zh rfl Tryz.f25' rfl (by decide) rfl) rfl (Zg (Zi rfl Tryz.k22 rfl rfl rfl (vs := [_]) rfl rfl rfl) rfl (Zg (Zaq rfl rfl Tryz.s22 rfl) rfl (Zg (Zbn rfl rfl rfl) rfl (Zf (ρ' := [(1, _), (3, _), (12, _)]) ⟨rfl, rfl, rfl, trivial⟩ ?_))))))))
   refine Zc ?_
   refine Zo rfl (fun hb4 => ?_) (fun hb4 => ?_)
   ·
    refine Zr (Zc (Zd (Zad (Zd ?_))))
    have hlt : i < d.mts.length := by have := of_decide_eq_true hb4; omega
    have hg := List.getElem?_eq_getElem hlt
    have hcc := cut_pairsC hg
    have hsl := okm2 _ (List.mem_of_getElem? hg)
    refine Zbk Tryz.mixed rfl [(1, _)] ⟨rfl, trivial⟩ ?_
    refine Zal 0 rfl (by kernel_rfl) (Zb (Ze (Zb (Zb (Ze (Zb (Zan))))))) (Zh rfl Tryz.f25' rfl (by decide) rfl) rfl ?_
    refine Zal 1 rfl (by kernel_rfl) (Zb (Ze (Zb (Zb (Ze (Zb (Zan))))))) (Zi rfl Tryz.k22 rfl rfl rfl (vs := [_]) rfl rfl rfl) rfl ?_
    refine Zal 2 rfl (by kernel_rfl) (Zb (Ze (Zb (Zb (Ze (Zb (Zan))))))) (Zap rfl rfl) rfl ?_
    refine Zal 3 rfl (by kernel_rfl) (Zb (Ze (Zb (Zb (Ze (Zb (Zan))))))) (Zai rfl Tryz.s22 rfl rfl (by assumption) (by first | rfl | omega) (by omega)) rfl ?_
    refine Zal 4 rfl (by kernel_rfl) (Zb (Ze (Zb (Zb (Ze (Zb (Zan))))))) (Zau rfl Tryz.f56' rfl (by decide) rfl) rfl ?_
    refine Zal 5 rfl (by kernel_rfl) (Zb (Ze (Zb (Zb (Ze (Zb (Zan))))))) (Zag rfl Tryz.k9 rfl (by assumption) (by omega) (by assumption) (vs := [_]) rfl rfl rfl rfl) rfl ?_
    refine Zal 6 rfl (by kernel_rfl) (Zb (Ze (Zb (Zb (Ze (Zb (Zan))))))) (Zao rfl rfl Tryz.str9 rfl) rfl ?_
    refine Zal 7 rfl (by kernel_rfl) (Zb (Ze (Zb (Zb (Ze (Zb (Zan))))))) (Zh rfl Tryz.f25' rfl (by decide) rfl) rfl ?_
    refine Zal 8 rfl (by kernel_rfl) (Zb (Ze (Zb (Zb (Ze (Zb (Zan))))))) (Zi rfl Tryz.k22 rfl rfl rfl (vs := [_]) rfl rfl rfl) rfl ?_
    refine Zal 9 rfl (by kernel_rfl) (Zb (Ze (Zb (Zb (Ze (Zb (Zan))))))) (Zap rfl rfl) rfl ?_
    refine Zal 10 rfl (by kernel_rfl) (Zb (Ze (Zb (Zb (Ze (Zb (Zan))))))) (Zai rfl Tryz.s22 rfl rfl (by assumption) (by first | rfl | omega) (by omega)) rfl ?_
    refine Zal 11 rfl (by kernel_rfl) (Zb (Ze (Zb (Zb (Ze (Zb (Zan))))))) (Zau rfl Tryz.f56' rfl (by decide) rfl) rfl ?_
    refine Zal 12 rfl (by kernel_rfl) (Zb (Ze (Zb (Zb (Ze (Zb (Zan))))))) (Zag rfl Tryz.k9 rfl (by assumption) (by omega) (by assumption) (vs := [_]) rfl rfl rfl rfl) rfl ?_
    refine Zal 13 rfl (by kernel_rfl) (Zb (Ze (Zb (Zb (Ze (Zb (Zan))))))) (Zao rfl rfl Tryz.str9 rfl) rfl ?_
    refine Zal 14 rfl (by kernel_rfl) (Zb (Ze (Zb (Zb (Ze (Zb (Zan))))))) (Zav rfl rfl rfl (Zs (by omega))) rfl ?_
    refine Zal 15 rfl (by kernel_rfl) (Zb (Ze (Zb (Zb (Ze (Zb (Zan))))))) (Zcn rfl rfl rfl) rfl ?_
    refine Zbl (by kernel_rfl) (ρ' := [(1, _), (3, _), (30, _)]) ⟨rfl, rfl, rfl, trivial⟩ ?_
    refine Zc ?_
    refine Zo rfl (fun hb6 => ?_) (fun hb6 => ?_)
    ·
     refine Zd (Za (ya rfl rfl (Zf (ρ' := [(2, _)]) ⟨rfl, trivial⟩ ?_)))
     refine Zc (Zw (Zu (Zj (Zj (Zu (Zj (Zbe (.tmp rfl) ?_)))))))
     exact ⟨false, rfl, fun h => by cases h⟩
    ·
     refine Zr (Zah (Zc (Za (ym rfl rfl (Zg (Zav rfl rfl rfl (Zs (by omega))) rfl ?_)))))
     refine ya rfl rfl (Zf (ρ' := [(1, _), (3, _)]) ⟨rfl, rfl, trivial⟩ ?_)
     refine Zab ?_
     refine ⟨m - 1, [(1, _), (3, _)], [(1, _)], by omega, ⟨rfl, rfl, trivial⟩, ⟨rfl, trivial⟩, i + 1, by omega, hle4, (by first | rfl | simp), (by first | rfl | (simp only [List.cons.injEq, Prod.mk.injEq, SV.v.injEq, Value.int.injEq, true_and, and_true]; omega) | simp), ?_⟩
     have h6 := of_decide_eq_false hb6; refine ⟨rfl, fun p hp => ?_⟩; rcases mem_take_succ hg hp with hs | rfl; exact hinv p hs; omega
   ·
    refine Zax ?_
    refine Zq (Zq ?_)
    refine Zaf ?_
    refine Zc (Zd (Za (Zg (Zh rfl Tryz.f25' rfl (by decide) rfl) rfl (Zg (Zi rfl Tryz.k23 rfl rfl rfl (vs := [_]) rfl rfl rfl) rfl (Zv rfl rfl ?_)))))
    refine Zaa (caps := []) trivial rfl rfl Tryz.c20 rfl (FnP.mono (heavy_fn 21 (by omega) 0 vb d.blocks u (by omega) okb hbk) ?_)
    rintro v u1 hle1 ⟨n, rfl, hn0, hnb, hnq⟩
    refine Zg (y_leq rfl rfl rfl) rfl (ya rfl rfl (Zf (ρ' := [(2, _)]) ⟨rfl, trivial⟩ ?_))
    refine Zc (Zw (Zbe (.tmp rfl) ?_))
    have h1 := of_decide_eq_false hb1
    have h4 := of_decide_eq_false hb4
    rw [List.take_of_length_le (by omega)] at hinv
    refine ⟨_, rfl, fun h => ?_⟩
    have h := of_decide_eq_true h
    obtain ⟨q1, q2⟩ := hnq (by omega)
    exact ⟨by omega, hinv, by omega, q2⟩
end Go.Proofs.Ythkgcakpjknlbaa
namespace Go.Proofs.Ythkgcakpjknlbaa
open Go Go.Eng
set_option linter.unusedSimpArgs false
set_option linter.unusedVariables false
set_option maxRecDepth 4000
mutual
def deep1 : Inl → List Inl
 | .mk k t d ti a args cites kids => .mk k t d ti a args cites kids :: deep kids
def deep : List Inl → List Inl
 | [] => []
 | x :: xs => deep1 x ++ deep xs
end
mutual
def listb : Blk → List Blk
 | .mk k lv inf t d ti a line kids => .mk k lv inf t d ti a line kids :: listB kids
def listB : List Blk → List Blk
 | [] => []
 | x :: xs => listb x ++ listB xs
end
theorem deep_append : ∀ (xs ys : List Inl), deep (xs ++ ys) = deep xs ++ deep ys
 | [], ys => by simp [deep]
 | x :: xs, ys => by
  rw [List.cons_append]
  simp only [deep, deep_append xs ys, List.append_assoc]
theorem listB_append : ∀ (xs ys : List Blk), listB (xs ++ ys) = listB xs ++ listB ys
 | [], ys => by simp [listB]
 | x :: xs, ys => by
  rw [List.cons_append]
  simp only [listB, listB_append xs ys, List.append_assoc]
theorem deep_take {xs : List Inl} {i : Nat} {x : Inl} (h : xs[i]? = some x) : deep (xs.take (i + 1)) = deep (xs.take i) ++ deep1 x := by
 obtain ⟨hlt, rfl⟩ := List.getElem?_eq_some_iff.1 h
 rw [List.take_succ_eq_append_getElem hlt, deep_append]
 simp [deep]
theorem listB_take {xs : List Blk} {i : Nat} {x : Blk} (h : xs[i]? = some x) : listB (xs.take (i + 1)) = listB (xs.take i) ++ listb x := by
 obtain ⟨hlt, rfl⟩ := List.getElem?_eq_some_iff.1 h
 rw [List.take_succ_eq_append_getElem hlt, listB_append]
 simp [listB]
mutual
theorem deep1_len : ∀ x : Inl, (deep1 x).length = sz1 x
 | .mk k t d ti a args cites kids => by simp only [deep1, sz1, List.length_cons, deep_len kids]; omega
theorem deep_len : ∀ xs : List Inl, (deep xs).length = szI xs
 | [] => rfl
 | x :: xs => by simp only [deep, szI, List.length_append, deep1_len x, deep_len xs]
end
mutual
theorem listb_len : ∀ x : Blk, (listb x).length ≤ szb x
 | .mk k lv inf t d ti a line kids => by have := listB_len kids; simp only [listb, szb, List.length_cons]; omega
theorem listB_len : ∀ xs : List Blk, (listB xs).length ≤ szB xs
 | [] => Nat.le_refl _
 | x :: xs => by have := listb_len x; have := listB_len xs; simp only [listB, szB, List.length_append]; omega
end
theorem szI_take_le : ∀ (xs : List Inl) (i : Nat), szI (xs.take i) ≤ szI xs
 | [], i => by simp
 | x :: xs, 0 => by simp [szI]
 | x :: xs, i + 1 => by have := szI_take_le xs i; simp only [List.take_succ_cons, szI]; omega
theorem szB_take_le : ∀ (xs : List Blk) (i : Nat), szB (xs.take i) ≤ szB xs
 | [], i => by simp
 | x :: xs, 0 => by simp [szB]
 | x :: xs, i + 1 => by have := szB_take_le xs i; simp only [List.take_succ_cons, szB]; omega
theorem inlS_of {u : View} {ad : Option Addr} {cap n : Nat} {xs : List Inl} {cs : List Value} (hn : n = xs.length) (h : SlC u ad n cap 10 cs) (hc : InlsC u xs cs) : InlS u (.slice ad n cap) xs := by
 subst hn
 exact ⟨cs, ⟨ad, cap, rfl, h⟩, hc⟩
theorem blkS_of {u : View} {ad : Option Addr} {cap n : Nat} {xs : List Blk} {cs : List Value} (hn : n = xs.length) (h : SlC u ad n cap 11 cs) (hc : BlksC u xs cs) : BlkS u (.slice ad n cap) xs := by
 subst hn
 exact ⟨cs, ⟨ad, cap, rfl, h⟩, hc⟩
theorem deep_fn (n : Nat) : ∀ (v : Value) (xs : List Inl) (u : View), szI xs ≤ n → szI xs ≤ 1000000 → InlS u v xs →
  FnP Tryz.prog 39 [v] u fun r u' => InlS u' r (deep xs) := by
 induction n using Nat.strongRecOn with
 | _ n ih =>
 intro v xs u hsz hbig ha
 have hlx := len_szI xs
 obtain ⟨cs, ⟨ad, cap, rfl, h1⟩, hc1⟩ := ha
 refine FnP.intro [.tmp 2] Tryz.func39 rfl rfl rfl ?_
 intro w0 D hw0
 refine Zd (Za (ya rfl rfl (Zf (ρ' := [(0, _)]) ⟨rfl, trivial⟩ ?_)))
 refine Zc (Zd (Za (ya rfl rfl ?_)))
 refine Zch 3 503 42 10 rfl rfl rfl ?_
 refine Zf (ρ' := [(0, _), (3, _)]) ⟨rfl, rfl, trivial⟩ ?_
 refine Zc (Zd (Zd (Za (ya rfl rfl (Zf (ρ' := [(0, _), (3, _), (4, _)]) ⟨rfl, rfl, rfl, trivial⟩ ?_)))))
 refine Zc (Zad ?_)
 refine Zbc (fun m ρ σ u' => ∃ i : Nat, i + m = xs.length ∧ VLe u u' ∧ ∃ (acc : List Value), σ = [(503, (none, .row 42 10 (deep (xs.take i)).length acc))] ∧ ρ = [(0, .v (.slice ad xs.length cap)), (3, .s 503), (4, .v (.int .i64 i))] ∧ (InlsC u' (deep (xs.take i)) acc)) (xs.length) ?_ ?_
 ·
  refine ⟨[(0, _), (3, _), (4, _)], [(503, _)], ⟨rfl, rfl, rfl, trivial⟩, ⟨rfl, trivial⟩, 0, by omega, VLe.refl _, [], (by first | rfl | simp), (by first | rfl | (simp only [List.cons.injEq, Prod.mk.injEq, SV.v.injEq, Value.int.injEq, true_and, and_true]; omega) | simp), ?_⟩
  exact InlsC.nil
 ·
  rintro m ρ σ u' ⟨i, hi3, hle3, acc, rfl, rfl, hacc⟩
  have h1' := h1.mono hle3
  have hc1' := hc1.mono hle3
  refine Zd (Zd (Za (ym rfl rfl (ym rfl rfl (Zg (Zaq rfl rfl Tryz.s35 rfl) rfl (Zg (Zbn rfl rfl rfl) rfl (Zf (ρ' := [(0, _), (3, _), (4, _), (8, _)]) ⟨rfl, rfl, rfl, rfl, trivial⟩ ?_)))))))
  refine Zc ?_
  refine Zo rfl (fun hb3 => ?_) (fun hb3 => ?_)
  ·
   refine Zr (Zc (Zd (Zad (Zd ?_))))
   have hlt : i < xs.length := by have := of_decide_eq_true hb3; omega
   obtain ⟨k, t, d, ti, a, args, cites, kids, vc, vp, va, vt, vk, hg, hcut1, s1, s2, s3, s4, s5, hok⟩ := hc1'.at hlt
   have hx := hc1'.get i _ hg
   rw [hcut1] at hx
   have oneAll := hx.one
   have hkid := szI_kids hg
   have hst := szI_take hg
   have hs1 := szI_take_le xs i
   have hs2 := szI_take_le xs (i + 1)
   have hdl := deep_len (xs.take i)
   have hdk := deep_len kids
   simp only [sz1] at hst
   refine Za (ym rfl rfl (ym rfl rfl (ym rfl rfl (Zg (Zai rfl Tryz.s35 rfl rfl (by assumption) (by first | rfl | omega) (by omega)) rfl (Zg (Zag rfl Tryz.k42 rfl (by assumption) (by omega) (by assumption) (vs := [_, _, _, _, _, _, _, _, _, _]) rfl rfl rfl rfl) rfl (Zv rfl rfl ?_))))))
   refine Zak trivial Tryz.s35 Tryz.z42 (ps := [(_, _)]) rfl (xs := [_, _, _, _, _, _, _, _, _, _]) rfl rfl rfl rfl rfl rfl rfl ?_
   refine Zv rfl rfl ?_
   refine Zby trivial rfl rfl Tryz.s35 Tryz.z42 rfl rfl rfl rfl rfl rfl (by first | rfl | assumption | simp [Value.oneCell', str]) (by omega) (by omega) (ρ' := [(0, _), (4, _)]) ⟨rfl, rfl, trivial⟩ rfl rfl rfl ?_
   refine ya rfl rfl ?_
   refine rl_ren 17 503 rfl rfl rfl ?_
   refine Zf (ρ' := [(0, _), (3, _), (4, _)]) ⟨rfl, rfl, rfl, trivial⟩ ?_
   refine Zc (Za (ym rfl rfl (ym rfl rfl (ym rfl rfl (Zg (Zai rfl Tryz.s35 rfl rfl (by assumption) (by first | rfl | omega) (by omega)) rfl (Zg (Zau rfl Tryz.f42' rfl (by decide) rfl) rfl (Zg (Zag rfl Tryz.k35 rfl (by assumption) (by omega) (by assumption) (vs := [_]) rfl rfl rfl rfl) rfl (Zv rfl rfl ?_))))))))
   refine Zbm (caps := []) trivial rfl rfl Tryz.c39 rfl (FnP.mono (ih (szI kids) (by omega) vk kids u' (Nat.le_refl _) (by omega) s5) ?_)
   rintro v u1 hle0 ⟨ks, ⟨adk, capk, rfl, hk⟩, hkc⟩ hle1
   refine Zv rfl rfl ?_
   refine Zcp trivial rfl rfl Tryz.s35 Tryz.z42 rfl rfl rfl rfl rfl (by assumption) hkc.ones (by omega) (by omega) (ρ' := [(0, _), (4, _)]) ⟨rfl, rfl, trivial⟩ rfl rfl rfl ?_
   refine ya rfl rfl ?_
   refine rl_ren 25 503 rfl rfl rfl ?_
   refine Zf (ρ' := [(0, _), (3, _), (4, _)]) ⟨rfl, rfl, rfl, trivial⟩ ?_
   refine Zah (Zc (Za (ym rfl rfl (Zg (Zav rfl rfl rfl (Zs (by omega))) rfl ?_))))
   refine ya rfl rfl (Zf (ρ' := [(0, _), (3, _), (4, _)]) ⟨rfl, rfl, rfl, trivial⟩ ?_)
   refine Zab ?_
   refine ⟨m - 1, [(0, _), (3, _), (4, _)], [(503, _)], by omega, ⟨rfl, rfl, rfl, trivial⟩, ⟨rfl, trivial⟩, i + 1, by omega, (hle3.trans hle1), _, (by rw [deep_take hg]; simp only [deep1, List.length_append, List.length_cons]; congr 4; omega), (by first | rfl | simp), ?_⟩
   rw [deep_take hg]
   simp only [deep1]
   rw [List.append_assoc]
   exact (hacc.mono hle1).append ((InlsC.one (hx.mono hle1)).append hkc)
  ·
   refine Zax ?_
   refine Zq (Zq ?_)
   refine Zaf ?_
   refine Zc (Zd (Za (ym rfl rfl (ya rfl rfl ?_))))
   refine Zbo 503 rfl ?_
   intro ad503 cap503 u503 hle503z hsl503
   refine Zf (ρ' := [(2, _)]) ⟨rfl, trivial⟩ ?_
   refine Zc (Zw (Zbe (.tmp rfl) ?_))
   have hge := of_decide_eq_false hb3
   rw [List.take_of_length_le (by omega)] at hacc hsl503 ⊢
   exact inlS_of rfl hsl503 (hacc.mono hle503z)
theorem list_fn (n : Nat) : ∀ (v : Value) (xs : List Blk) (u : View), szB xs ≤ n → szB xs ≤ 1000000 → BlkS u v xs →
  FnP Tryz.prog 38 [v] u fun r u' => BlkS u' r (listB xs) := by
 induction n using Nat.strongRecOn with
 | _ n ih =>
 intro v xs u hsz hbig ha
 have hlx := len_szB xs
 obtain ⟨cs, ⟨ad, cap, rfl, h1⟩, hc1⟩ := ha
 refine FnP.intro [.tmp 2] Tryz.func38 rfl rfl rfl ?_
 intro w0 D hw0
 refine Zd (Za (ya rfl rfl (Zf (ρ' := [(0, _)]) ⟨rfl, trivial⟩ ?_)))
 refine Zc (Zd (Za (ya rfl rfl ?_)))
 refine Zch 3 503 59 11 rfl rfl rfl ?_
 refine Zf (ρ' := [(0, _), (3, _)]) ⟨rfl, rfl, trivial⟩ ?_
 refine Zc (Zd (Zd (Za (ya rfl rfl (Zf (ρ' := [(0, _), (3, _), (4, _)]) ⟨rfl, rfl, rfl, trivial⟩ ?_)))))
 refine Zc (Zad ?_)
 refine Zbc (fun m ρ σ u' => ∃ i : Nat, i + m = xs.length ∧ VLe u u' ∧ ∃ (acc : List Value), σ = [(503, (none, .row 59 11 (listB (xs.take i)).length acc))] ∧ ρ = [(0, .v (.slice ad xs.length cap)), (3, .s 503), (4, .v (.int .i64 i))] ∧ (BlksC u' (listB (xs.take i)) acc)) (xs.length) ?_ ?_
 ·
  refine ⟨[(0, _), (3, _), (4, _)], [(503, _)], ⟨rfl, rfl, rfl, trivial⟩, ⟨rfl, trivial⟩, 0, by omega, VLe.refl _, [], (by first | rfl | simp), (by first | rfl | (simp only [List.cons.injEq, Prod.mk.injEq, SV.v.injEq, Value.int.injEq, true_and, and_true]; omega) | simp), ?_⟩
  exact BlksC.nil
 ·
  rintro m ρ σ u' ⟨i, hi3, hle3, acc, rfl, rfl, hacc⟩
  have h1' := h1.mono hle3
  have hc1' := hc1.mono hle3
  refine Zd (Zd (Za (ym rfl rfl (ym rfl rfl (Zg (Zaq rfl rfl Tryz.s23 rfl) rfl (Zg (Zbn rfl rfl rfl) rfl (Zf (ρ' := [(0, _), (3, _), (4, _), (8, _)]) ⟨rfl, rfl, rfl, rfl, trivial⟩ ?_)))))))
  refine Zc ?_
  refine Zo rfl (fun hb3 => ?_) (fun hb3 => ?_)
  ·
   refine Zr (Zc (Zd (Zad (Zd ?_))))
   have hlt : i < xs.length := by have := of_decide_eq_true hb3; omega
   obtain ⟨k, lv, inf, t, d, ti, a, line, kids, vc, vp, vl, vk, hg, hcut1, s1, s2, s3, s4, hok⟩ := hc1'.at hlt
   have hx := hc1'.get i _ hg
   rw [hcut1] at hx
   have oneAll := hx.one
   have hkid := (szB_kids hg).1
   have hst := szB_take hg
   have hs1 := szB_take_le xs i
   have hs2 := szB_take_le xs (i + 1)
   have hdl := listB_len (xs.take i)
   have hdk := listB_len kids
   simp only [szb] at hst
   refine Za (ym rfl rfl (ym rfl rfl (ym rfl rfl (Zg (Zai rfl Tryz.s23 rfl rfl (by assumption) (by first | rfl | omega) (by omega)) rfl (Zg (Zag rfl Tryz.k59 rfl (by assumption) (by omega) (by assumption) (vs := [_, _, _, _, _, _, _, _, _, _, _]) rfl rfl rfl rfl) rfl (Zv rfl rfl ?_))))))
   refine Zak trivial Tryz.s23 Tryz.z59 (ps := [(_, _)]) rfl (xs := [_, _, _, _, _, _, _, _, _, _, _]) rfl rfl rfl rfl rfl rfl rfl ?_
   refine Zv rfl rfl ?_
   refine Zby trivial rfl rfl Tryz.s23 Tryz.z59 rfl rfl rfl rfl rfl rfl (by first | rfl | assumption | simp [Value.oneCell', str]) (by omega) (by omega) (ρ' := [(0, _), (4, _)]) ⟨rfl, rfl, trivial⟩ rfl rfl rfl ?_
   refine ya rfl rfl ?_
   refine rl_ren 17 503 rfl rfl rfl ?_
   refine Zf (ρ' := [(0, _), (3, _), (4, _)]) ⟨rfl, rfl, rfl, trivial⟩ ?_
   refine Zc (Za (ym rfl rfl (ym rfl rfl (ym rfl rfl (Zg (Zai rfl Tryz.s23 rfl rfl (by assumption) (by first | rfl | omega) (by omega)) rfl (Zg (Zau rfl Tryz.f59' rfl (by decide) rfl) rfl (Zg (Zag rfl Tryz.k23 rfl (by assumption) (by omega) (by assumption) (vs := [_]) rfl rfl rfl rfl) rfl (Zv rfl rfl ?_))))))))
   refine Zbm (caps := []) trivial rfl rfl Tryz.c38 rfl (FnP.mono (ih (szB kids) (by omega) vk kids u' (Nat.le_refl _) (by omega) s4) ?_)
   rintro v u1 hle0 ⟨ks, ⟨adk, capk, rfl, hk⟩, hkc⟩ hle1
   refine Zv rfl rfl ?_
   refine Zcp trivial rfl rfl Tryz.s23 Tryz.z59 rfl rfl rfl rfl rfl (by assumption) hkc.ones (by omega) (by omega) (ρ' := [(0, _), (4, _)]) ⟨rfl, rfl, trivial⟩ rfl rfl rfl ?_
   refine ya rfl rfl ?_
   refine rl_ren 25 503 rfl rfl rfl ?_
   refine Zf (ρ' := [(0, _), (3, _), (4, _)]) ⟨rfl, rfl, rfl, trivial⟩ ?_
   refine Zah (Zc (Za (ym rfl rfl (Zg (Zav rfl rfl rfl (Zs (by omega))) rfl ?_))))
   refine ya rfl rfl (Zf (ρ' := [(0, _), (3, _), (4, _)]) ⟨rfl, rfl, rfl, trivial⟩ ?_)
   refine Zab ?_
   refine ⟨m - 1, [(0, _), (3, _), (4, _)], [(503, _)], by omega, ⟨rfl, rfl, rfl, trivial⟩, ⟨rfl, trivial⟩, i + 1, by omega, (hle3.trans hle1), _, (by rw [listB_take hg]; simp only [listb, List.length_append, List.length_cons]; congr 4; omega), (by first | rfl | simp), ?_⟩
   rw [listB_take hg]
   simp only [listb]
   rw [List.append_assoc]
   exact (hacc.mono hle1).append ((BlksC.one (hx.mono hle1)).append hkc)
  ·
   refine Zax ?_
   refine Zq (Zq ?_)
   refine Zaf ?_
   refine Zc (Zd (Za (ym rfl rfl (ya rfl rfl ?_))))
   refine Zbo 503 rfl ?_
   intro ad503 cap503 u503 hle503z hsl503
   refine Zf (ρ' := [(2, _)]) ⟨rfl, trivial⟩ ?_
   refine Zc (Zw (Zbe (.tmp rfl) ?_))
   have hge := of_decide_eq_false hb3
   rw [List.take_of_length_le (by omega)] at hacc hsl503 ⊢
   exact blkS_of rfl hsl503 (hacc.mono hle503z)
def lineOf : Blk → List Inl
 | .mk _ _ _ _ _ _ _ line _ => line
def szL (L : List Blk) : Nat := (L.map fun b => szI (lineOf b)).sum
def inls (L : List Blk) : List Inl := L.flatMap fun b => deep (lineOf b)
theorem szL_append (a b : List Blk) : szL (a ++ b) = szL a + szL b := by simp [szL]
theorem szL_cons (a : Blk) (b : List Blk) : szL (a :: b) = szI (lineOf a) + szL b := by simp [szL]
mutual
theorem szL_listb : ∀ x : Blk, szL (listb x) ≤ szb x
 | .mk k lv inf t d ti a line kids => by have := szL_listB kids; simp only [listb, szb, szL_cons, lineOf]; omega
theorem szL_listB : ∀ xs : List Blk, szL (listB xs) ≤ szB xs
 | [] => by simp [listB, szL]
 | x :: xs => by have := szL_listb x; have := szL_listB xs; simp only [listB, szB, szL_append]; omega
end
theorem inls_take {L : List Blk} {i : Nat} {x : Blk} (h : L[i]? = some x) : inls (L.take (i + 1)) = inls (L.take i) ++ deep (lineOf x) := by
 obtain ⟨hlt, rfl⟩ := List.getElem?_eq_some_iff.1 h
 rw [List.take_succ_eq_append_getElem hlt]
 simp only [inls, List.flatMap_append, List.flatMap_cons, List.flatMap_nil, List.append_nil]
theorem inls_len (L : List Blk) : (inls L).length = szL L := by
 unfold inls szL
 rw [List.length_flatMap]
 simp only [deep_len]
theorem szL_take {L : List Blk} {i : Nat} {x : Blk} (h : L[i]? = some x) : szL (L.take (i + 1)) = szL (L.take i) + szI (lineOf x) := sum_take _ h
theorem szL_take_le (L : List Blk) (i : Nat) : szL (L.take i) ≤ szL L := by
 have := szL_append (L.take i) (L.drop i)
 rw [List.take_append_drop] at this
 omega
theorem inlines_fn (v : Value) (xs : List Blk) (u : View) (hbig : szB xs ≤ 1000000) (ha : BlkS u v xs) :
  FnP Tryz.prog 13 [v] u fun r u' => InlS u' r (inls (listB xs)) := by
 have hll := listB_len xs
 have hls := szL_listB xs
 refine FnP.intro [.tmp 2] Tryz.func13 rfl rfl rfl ?_
 intro w0 D hw0
 refine Zd (Za (ya rfl rfl (Zf (ρ' := [(0, _)]) ⟨rfl, trivial⟩ ?_)))
 refine Zc (Zd (Za (ya rfl rfl ?_)))
 refine Zch 3 503 42 10 rfl rfl rfl ?_
 refine Zf (ρ' := [(0, _), (3, _)]) ⟨rfl, rfl, trivial⟩ ?_
 refine Zc (Zd (Za (ym rfl rfl (Zv rfl rfl ?_))))
 refine Zbm (caps := []) trivial rfl rfl Tryz.c38 rfl (FnP.mono (list_fn _ v xs u (Nat.le_refl _) hbig ha) ?_)
 rintro v uL hle0 ⟨cs, ⟨ad, cap, rfl, h1⟩, hc1⟩ hleL
 refine ya rfl rfl (Zf (ρ' := [(3, _), (4, _)]) ⟨rfl, rfl, trivial⟩ ?_)
 refine Zc (Zd (Zd (Za (ya rfl rfl (Zf (ρ' := [(3, _), (4, _), (5, _)]) ⟨rfl, rfl, rfl, trivial⟩ ?_)))))
 refine Zc (Zad ?_)
 refine Zbc (fun m ρ σ u' => ∃ i : Nat, i + m = (listB xs).length ∧ VLe uL u' ∧ ∃ (acc : List Value), σ = [(503, (none, .row 42 10 (inls ((listB xs).take i)).length acc))] ∧ ρ = [(3, .s 503), (4, .v (.slice ad (listB xs).length cap)), (5, .v (.int .i64 i))] ∧ (InlsC u' (inls ((listB xs).take i)) acc)) ((listB xs).length) ?_ ?_
 ·
  refine ⟨[(3, _), (4, _), (5, _)], [(503, _)], ⟨rfl, rfl, rfl, trivial⟩, ⟨rfl, trivial⟩, 0, by omega, VLe.refl _, [], (by first | rfl | simp), (by first | rfl | (simp only [List.cons.injEq, Prod.mk.injEq, SV.v.injEq, Value.int.injEq, true_and, and_true]; omega) | simp), ?_⟩
  exact InlsC.nil
 ·
  rintro m ρ σ u' ⟨i, hi4, hle4, acc, rfl, rfl, hacc⟩
  have h1' := h1.mono hle4
  have hc1' := hc1.mono hle4
  refine Zd (Zd (Za (ym rfl rfl (ym rfl rfl (Zg (Zaq rfl rfl Tryz.s23 rfl) rfl (Zg (Zbn rfl rfl rfl) rfl (Zf (ρ' := [(3, _), (4, _), (5, _), (11, _)]) ⟨rfl, rfl, rfl, rfl, trivial⟩ ?_)))))))
  refine Zc ?_
  refine Zo rfl (fun hb4 => ?_) (fun hb4 => ?_)
  ·
   refine Zr (Zc (Zd (Zad ?_)))
   have hlt : i < (listB xs).length := by have := of_decide_eq_true hb4; omega
   obtain ⟨k, lv, inf, t, d, ti, a, line, kids, vc, vp, vl, vk, hg, hcut1, s1, s2, s3, s4, hok⟩ := hc1'.at hlt
   have hst := szL_take hg
   have hs1 := szL_take_le (listB xs) i
   have hs2 := szL_take_le (listB xs) (i + 1)
   have hdl := inls_len ((listB xs).take i)
   have hdk := deep_len line
   simp only [lineOf] at hst
   refine Za (ym rfl rfl (ym rfl rfl (ym rfl rfl (Zg (Zai rfl Tryz.s23 rfl rfl (by assumption) (by first | rfl | omega) (by omega)) rfl (Zg (Zau rfl Tryz.f59' rfl (by decide) rfl) rfl (Zg (Zag rfl Tryz.k35 rfl (by assumption) (by omega) (by assumption) (vs := [_]) rfl rfl rfl rfl) rfl (Zv rfl rfl ?_)))))))
   refine Zbm (caps := []) trivial rfl rfl Tryz.c39 rfl (FnP.mono (deep_fn _ vl line u' (Nat.le_refl _) (by omega) s3) ?_)
   rintro v u1 hle0 ⟨ks, ⟨adk, capk, rfl, hk⟩, hkc⟩ hle1
   refine Zv rfl rfl ?_
   refine Zcp trivial rfl rfl Tryz.s35 Tryz.z42 rfl rfl rfl rfl rfl (by assumption) hkc.ones (by omega) (by omega) (ρ' := [(4, _), (5, _)]) ⟨rfl, rfl, trivial⟩ rfl rfl rfl ?_
   refine ya rfl rfl ?_
   refine rl_ren 21 503 rfl rfl rfl ?_
   refine Zf (ρ' := [(3, _), (4, _), (5, _)]) ⟨rfl, rfl, rfl, trivial⟩ ?_
   refine Zah (Zc (Za (ym rfl rfl (Zg (Zav rfl rfl rfl (Zs (by omega))) rfl ?_))))
   refine ya rfl rfl (Zf (ρ' := [(3, _), (4, _), (5, _)]) ⟨rfl, rfl, rfl, trivial⟩ ?_)
   refine Zab ?_
   refine ⟨m - 1, [(3, _), (4, _), (5, _)], [(503, _)], by omega, ⟨rfl, rfl, rfl, trivial⟩, ⟨rfl, trivial⟩, i + 1, by omega, (hle4.trans hle1), _, (by rw [inls_take hg, List.length_append]; rfl), (by first | rfl | simp), ?_⟩
   rw [inls_take hg]
   exact (hacc.mono hle1).append hkc
  ·
   refine Zax ?_
   refine Zq (Zq ?_)
   refine Zaf ?_
   refine Zc (Zd (Za (ym rfl rfl (ya rfl rfl ?_))))
   refine Zbo 503 rfl ?_
   intro ad503 cap503 u503 hle503z hsl503
   refine Zf (ρ' := [(2, _)]) ⟨rfl, trivial⟩ ?_
   refine Zc (Zw (Zbe (.tmp rfl) ?_))
   have hge := of_decide_eq_false hb4
   rw [List.take_of_length_le (by omega)] at hacc hsl503 ⊢
   exact inlS_of rfl hsl503 (hacc.mono hle503z)
def noteName : Blk → Option Bs
 | .mk k _ inf _ _ _ _ _ _ => if k = 14 then some inf else none
def noteNames (L : List Blk) : List Bs := L.filterMap noteName
end Go.Proofs.Ythkgcakpjknlbaa
namespace Go.Proofs.Ythkgcakpjknlbaa
open Go Go.Eng
set_option linter.unusedSimpArgs false
set_option linter.unusedVariables false
set_option maxRecDepth 4000
abbrev Ev := Blk ⊕ Inl
def idB : Blk → Bs
 | .mk _ _ _ _ _ _ a _ _ => a.id
def kindB : Blk → Int
 | .mk k _ _ _ _ _ _ _ _ => k
def idI : Inl → Bs
 | .mk _ _ _ _ a _ _ _ => a.id
def kidsI : Inl → List Inl
 | .mk _ _ _ _ _ _ _ kids => kids
def evI (xs : List Inl) : List Ev := (deep xs).map Sum.inr
def evL (L : List Blk) : List Ev := L.flatMap fun b => Sum.inl b :: evI (lineOf b)
def evB (bs : List Blk) : List Ev := evL (listB bs)
theorem evI_take {xs : List Inl} {i : Nat} {x : Inl} (h : xs[i]? = some x) : evI (xs.take (i + 1)) = evI (xs.take i) ++ Sum.inr x :: evI (kidsI x) := by
 unfold evI
 rw [deep_take h]
 cases x
 simp [deep1, kidsI]
theorem evL_append (a b : List Blk) : evL (a ++ b) = evL a ++ evL b := by simp [evL]
def kidsB : Blk → List Blk
 | .mk _ _ _ _ _ _ _ _ kids => kids
theorem evB_take {bs : List Blk} {i : Nat} {x : Blk} (h : bs[i]? = some x) : evB (bs.take (i + 1)) = evB (bs.take i) ++ Sum.inl x :: evI (lineOf x) ++ evB (kidsB x) := by
 unfold evB
 rw [listB_take h, evL_append]
 cases x
 simp [listb, evL, kidsB, lineOf]
theorem evI_len (xs : List Inl) : (evI xs).length = szI xs := by simp [evI, deep_len]
mutual
theorem evb_len : ∀ x : Blk, (evL (listb x)).length = szb x
 | .mk k lv inf t d ti a line kids => by
  have := evB_len kids
  unfold evB at this
  rw [listb, szb, evL, List.flatMap_cons, List.length_append, List.length_cons]
  show _ + (evL (listB kids)).length = _
  rw [this, evI_len, lineOf]; omega
theorem evB_len : ∀ xs : List Blk, (evB xs).length = szB xs
 | [] => rfl
 | x :: xs => by
  have h1 := evb_len x
  have h2 := evB_len xs
  unfold evB at h2 ⊢
  rw [listB, evL_append, List.length_append, szB, h1, h2]
end
def nz (s : Bs) : List Bs := if s = [] then [] else [s]
def evId : Ev → Bs
 | .inl b => idB b
 | .inr x => idI x
def namesE (l : List Ev) : List Bs := l.flatMap fun e => nz (evId e)
theorem namesE_append (a b : List Ev) : namesE (a ++ b) = namesE a ++ namesE b := by simp [namesE]
theorem namesE_len (l : List Ev) : (namesE l).length ≤ l.length := by
 induction l with
 | nil => simp [namesE]
 | cons x l ih =>
  have h : (nz (evId x)).length ≤ 1 := by unfold nz; split <;> simp
  have e : namesE (x :: l) = nz (evId x) ++ namesE l := rfl
  rw [e, List.length_append, List.length_cons]; omega
def namesOf (bs : List Blk) : List Bs := namesE (evB bs)
def evNote : Ev → List Bs
 | .inl b => (noteName b).toList
 | .inr _ => []
theorem evNote_all (bs : List Blk) : (evB bs).flatMap evNote = noteNames (listB bs) := by
 unfold evB
 generalize listB bs = L
 induction L with
 | nil => rfl
 | cons b L ih =>
  have h1 : ∀ xs : List Inl, (evI xs).flatMap evNote = [] := by intro xs; simp [evI, List.flatMap_map, evNote]
  have e : evL (b :: L) = Sum.inl b :: evI (lineOf b) ++ evL L := rfl
  rw [e, List.flatMap_append, List.flatMap_cons, h1, List.append_nil, ih]
  unfold noteNames
  rw [List.filterMap_cons]
  cases h : noteName b <;> simp [evNote, h]
def missEv (D N : List Bs) : Ev → List Bs
 | .inl _ => []
 | .inr (.mk k t d _ _ _ _ _) =>
  if k = 14 then (if t ∈ D then [] else [t])
  else if k = 12 then (if t ∈ N then [] else [t])
  else if k = 9 ∧ t = [] ∧ d.head? = some 35 then (if d.tail ∈ D then [] else [d.tail])
  else []
theorem missEv_len (D N : List Bs) (e : Ev) : (missEv D N e).length ≤ 1 := by
 rcases e with b | ⟨k, t, d, ti, a, args, cites, kids⟩
 ·
  simp [missEv]
 ·
  simp only [missEv]
  repeat' split
  all_goals simp
def missE (D N : List Bs) (l : List Ev) : List Bs := l.flatMap (missEv D N)
theorem missE_len (D N : List Bs) (l : List Ev) : (missE D N l).length ≤ l.length := by
 induction l with
 | nil => simp [missE]
 | cons x l ih =>
  have h := missEv_len D N x
  have e : missE D N (x :: l) = missEv D N x ++ missE D N l := rfl
  rw [e, List.length_append, List.length_cons]; omega
def missOf (bs : List Blk) : List Bs := missE (namesOf bs) (noteNames (listB bs)) (evB bs)
def twice : List Bs → List Bs → Option Bs
 | _, [] => none
 | seen, x :: xs => if x ∈ seen then some x else twice (seen ++ [x]) xs
def checkOf (bs : List Blk) : Bs × Int := match twice [] (namesOf bs) with
 | some s => (s, 7)
 | none => match missOf bs with
  | [] => ([], 0)
  | s :: _ => (s, 12)
theorem twice_take {xs : List Bs} {i : Nat} {x : Bs} (h : xs[i]? = some x) (hn : x ∉ xs.take i) (k : twice [] xs = twice (xs.take i) (xs.drop i)) : twice [] xs = twice (xs.take (i + 1)) (xs.drop (i + 1)) := by
 obtain ⟨hlt, rfl⟩ := List.getElem?_eq_some_iff.1 h
 rw [k, List.drop_eq_getElem_cons hlt, twice, if_neg hn, List.take_succ_eq_append_getElem hlt]
theorem twice_hit {xs : List Bs} {i : Nat} {x : Bs} (h : xs[i]? = some x) (hn : x ∈ xs.take i) (k : twice [] xs = twice (xs.take i) (xs.drop i)) : twice [] xs = some x := by
 obtain ⟨hlt, rfl⟩ := List.getElem?_eq_some_iff.1 h
 rw [k, List.drop_eq_getElem_cons hlt, twice, if_pos hn]
end Go.Proofs.Ythkgcakpjknlbaa
namespace Go.Proofs.Ythkgcakpjknlbaa
open Go Go.Eng
set_option linter.unusedSimpArgs false
set_option linter.unusedVariables false
set_option maxRecDepth 4000
mutual
def plain1 : Inl → Bs
 | .mk k t d _ _ _ _ kids =>
  if k = 1 ∨ k = 4 ∨ k = 5 then t
  else if k = 2 ∨ k = 3 then [32]
  else if 6 ≤ k ∧ k ≤ 11 then plain kids
  else if k = 16 then d
  else []
def plain : List Inl → Bs
 | [] => []
 | x :: xs => plain1 x ++ plain xs
end
theorem plain_append : ∀ (xs ys : List Inl), plain (xs ++ ys) = plain xs ++ plain ys
 | [], ys => by simp [plain]
 | x :: xs, ys => by
  rw [List.cons_append]
  simp only [plain, plain_append xs ys, List.append_assoc]
theorem plain_take {xs : List Inl} {i : Nat} {x : Inl} (h : xs[i]? = some x) : plain (xs.take (i + 1)) = plain (xs.take i) ++ plain1 x := by
 obtain ⟨hlt, rfl⟩ := List.getElem?_eq_some_iff.1 h
 rw [List.take_succ_eq_append_getElem hlt, plain_append]
 simp [plain]
/- texts of at most B bytes -/
mutual
def txI1 (B : Nat) : Inl → Prop
 | .mk _ t d ti _ _ _ kids => t.length ≤ B ∧ d.length ≤ B ∧ ti.length ≤ B ∧ txI B kids
def txI (B : Nat) : List Inl → Prop
 | [] => True
 | x :: xs => txI1 B x ∧ txI B xs
end
mutual
theorem plain1_len (B : Nat) (hB : 1 ≤ B) : ∀ x : Inl, txI1 B x → (plain1 x).length ≤ B * sz1 x
 | .mk k t d ti a args cites kids, h => by
  unfold txI1 at h
  have ih := plain_len B hB kids h.2.2.2
  have e : B * sz1 (.mk k t d ti a args cites kids) = B + B * szI kids := by simp only [sz1, Nat.mul_add, Nat.mul_one]
  rw [e]
  simp only [plain1]
  repeat' split
  ·
   omega
  ·
   simp; omega
  ·
   omega
  ·
   omega
  ·
   simp
theorem plain_len (B : Nat) (hB : 1 ≤ B) : ∀ xs : List Inl, txI B xs → (plain xs).length ≤ B * szI xs
 | [], _ => by simp [plain]
 | x :: xs, h => by
  unfold txI at h
  have h1 := plain1_len B hB x h.1
  have h2 := plain_len B hB xs h.2
  simp only [plain, szI, List.length_append, Nat.mul_add]; omega
end
theorem txI_get {B : Nat} : ∀ {xs : List Inl} {i : Nat} {x : Inl}, txI B xs → xs[i]? = some x → txI1 B x
 | [], i, x, _, h => by simp at h
 | y :: ys, 0, x, h, hi => by
  simp at hi; subst hi
  unfold txI at h; exact h.1
 | y :: ys, i + 1, x, h, hi => by
  unfold txI at h
  exact txI_get h.2 (by simpa using hi)
end Go.Proofs.Ythkgcakpjknlbaa
namespace Go.Proofs.Ythkgcakpjknlbaa
open Go Go.Eng
set_option linter.unusedSimpArgs false
set_option linter.unusedVariables false
set_option maxRecDepth 4000
mutual
def rebb (kp : Blk → Bool) (g : List Inl → List Inl) : Blk → List Blk
 | .mk k lv inf t d ti a line kids => if kp (.mk k lv inf t d ti a line kids) = true then [.mk k lv inf t d ti a (g line) (rebB kp g kids)] else []
def rebB (kp : Blk → Bool) (g : List Inl → List Inl) : List Blk → List Blk
 | [] => []
 | x :: xs => rebb kp g x ++ rebB kp g xs
end
mutual
def evRb (kp : Blk → Bool) (ev : List Inl → List Inl) : Blk → List Inl
 | .mk k lv inf t d ti a line kids => if kp (.mk k lv inf t d ti a line kids) = true then ev line ++ evRB kp ev kids else []
def evRB (kp : Blk → Bool) (ev : List Inl → List Inl) : List Blk → List Inl
 | [] => []
 | x :: xs => evRb kp ev x ++ evRB kp ev xs
end
theorem rebB_append (kp : Blk → Bool) (g : List Inl → List Inl) : ∀ (xs ys : List Blk), rebB kp g (xs ++ ys) = rebB kp g xs ++ rebB kp g ys
 | [], ys => by simp [rebB]
 | x :: xs, ys => by
  rw [List.cons_append]
  simp only [rebB, rebB_append kp g xs ys, List.append_assoc]
theorem evRB_append (kp : Blk → Bool) (g : List Inl → List Inl) : ∀ (xs ys : List Blk), evRB kp g (xs ++ ys) = evRB kp g xs ++ evRB kp g ys
 | [], ys => by simp [evRB]
 | x :: xs, ys => by
  rw [List.cons_append]
  simp only [evRB, evRB_append kp g xs ys, List.append_assoc]
theorem rebB_take (kp : Blk → Bool) (g : List Inl → List Inl) {xs : List Blk} {i : Nat} {x : Blk} (h : xs[i]? = some x) : rebB kp g (xs.take (i + 1)) = rebB kp g (xs.take i) ++ rebb kp g x := by
 obtain ⟨hlt, rfl⟩ := List.getElem?_eq_some_iff.1 h
 rw [List.take_succ_eq_append_getElem hlt, rebB_append]
 simp [rebB]
theorem evRB_take (kp : Blk → Bool) (g : List Inl → List Inl) {xs : List Blk} {i : Nat} {x : Blk} (h : xs[i]? = some x) : evRB kp g (xs.take (i + 1)) = evRB kp g (xs.take i) ++ evRb kp g x := by
 obtain ⟨hlt, rfl⟩ := List.getElem?_eq_some_iff.1 h
 rw [List.take_succ_eq_append_getElem hlt, evRB_append]
 simp [evRB]
theorem rebb_len (kp : Blk → Bool) (g : List Inl → List Inl) (x : Blk) : (rebb kp g x).length ≤ 1 := by
 cases x
 simp only [rebb]
 split <;> simp
theorem rebB_len (kp : Blk → Bool) (g : List Inl → List Inl) : ∀ xs : List Blk, (rebB kp g xs).length ≤ xs.length
 | [] => by simp [rebB]
 | x :: xs => by
  have := rebb_len kp g x
  have := rebB_len kp g xs
  simp only [rebB, List.length_append, List.length_cons]; omega
def attrZ : DAttr := ⟨[], [], []⟩
def textI (s : Bs) : Inl := .mk 1 s [] [] attrZ [] [] []
def linkI (t s : Bs) : Inl := .mk 9 [] (35 :: t) [] attrZ [] [] [textI s]
mutual
def resI1 (f : Bs → Bs → Bs) : Inl → Inl
 | .mk k t d ti a args cites kids => if k = 14 then linkI t (f t ti) else .mk k t d ti a args cites (resI f kids)
def resI (f : Bs → Bs → Bs) : List Inl → List Inl
 | [] => []
 | x :: xs => resI1 f x :: resI f xs
end
theorem resI_append (f : Bs → Bs → Bs) : ∀ (xs ys : List Inl), resI f (xs ++ ys) = resI f xs ++ resI f ys
 | [], ys => by simp [resI]
 | x :: xs, ys => by
  rw [List.cons_append]
  simp only [resI, resI_append f xs ys, List.cons_append]
theorem resI_take (f : Bs → Bs → Bs) {xs : List Inl} {i : Nat} {x : Inl} (h : xs[i]? = some x) : resI f (xs.take (i + 1)) = resI f (xs.take i) ++ [resI1 f x] := by
 obtain ⟨hlt, rfl⟩ := List.getElem?_eq_some_iff.1 h
 rw [List.take_succ_eq_append_getElem hlt, resI_append]
 simp [resI]
theorem resI_len (f : Bs → Bs → Bs) : ∀ xs : List Inl, (resI f xs).length = xs.length
 | [] => rfl
 | x :: xs => by simp [resI, resI_len f xs]
def repR (f : Bs → Bs → Bs) : Inl → Inl
 | .mk k t d ti a args cites kids => if k = 14 then linkI t (f t ti) else .mk k t d ti a args cites kids
def setK : Inl → List Inl → Inl
 | .mk k t d ti a args cites _, ks => .mk k t d ti a args cites ks
theorem resI1_rep (f : Bs → Bs → Bs) (x : Inl) : resI1 f x = setK (repR f x) (resI f (kidsI (repR f x))) := by
 obtain ⟨k, t, d, ti, a, args, cites, kids⟩ := x
 simp only [resI1, repR]
 by_cases h : k = 14
 ·
  rw [if_pos h, if_pos h]
  simp [linkI, textI, kidsI, setK, resI, resI1]
 ·
  rw [if_neg h, if_neg h]
  simp [kidsI, setK]
/- how much is still to be replaced -/
mutual
def mR1 : Inl → Nat
 | .mk k _ _ _ _ _ _ kids => if k = 14 then 3 else 2 + mRI kids
def mRI : List Inl → Nat
 | [] => 0
 | x :: xs => mR1 x + mRI xs
end
theorem mRI_get : ∀ {xs : List Inl} {i : Nat} {x : Inl}, xs[i]? = some x → mR1 x ≤ mRI xs
 | [], i, x, h => by simp at h
 | y :: ys, 0, x, h => by simp at h; subst h; simp [mRI]
 | y :: ys, i + 1, x, h => by
  have := mRI_get (xs := ys) (i := i) (x := x) (by simpa using h)
  simp only [mRI]; omega
theorem mRI_rep (f : Bs → Bs → Bs) (x : Inl) : mRI (kidsI (repR f x)) < mR1 x := by
 obtain ⟨k, t, d, ti, a, args, cites, kids⟩ := x
 simp only [repR, mR1]
 by_cases h : k = 14
 ·
  rw [if_pos h, if_pos h]; simp [linkI, textI, kidsI, mRI, mR1]
 ·
  rw [if_neg h, if_neg h]; simp only [kidsI]; omega
def destO : Option Blk → Bs
 | some (.mk _ _ _ _ d _ _ _ _) => d
 | none => []
def titleO : Option Blk → Bs
 | some (.mk _ _ _ _ _ ti _ _ _) => ti
 | none => []
def infB : Blk → Bs
 | .mk _ _ inf _ _ _ _ _ _ => inf
def defOf (L : List Blk) (t : Bs) : Option Blk := L.find? fun b => decide (kindB b = 15 ∧ infB b = t)
end Go.Proofs.Ythkgcakpjknlbaa
namespace Go.Proofs.Ythkgcakpjknlbaa
open Go Go.Eng
set_option linter.unusedSimpArgs false
set_option linter.unusedVariables false
set_option maxRecDepth 4000
end Go.Proofs.Ythkgcakpjknlbaa
namespace Go.Proofs.Ythkgcakpjknlbaa
open Go Go.Eng
set_option linter.unusedSimpArgs false
set_option linter.unusedVariables false
set_option maxRecDepth 4000
def PtrB (u : View) (p : Value) (x : Blk) : Prop := ∃ b off c T fr, p = .pointer (some ⟨b, off, none⟩) ∧ u b = some (.cells c T fr) ∧ BlkC u x (cut c.toList off 11)
def PtrI (u : View) (p : Value) (x : Inl) : Prop := ∃ b off c T fr, p = .pointer (some ⟨b, off, none⟩) ∧ u b = some (.cells c T fr) ∧ InlC u x (cut c.toList off 10)
abbrev Ys := View → List Ev → OO → Prop
def MonoY (Y : Ys) : Prop := ∀ u u' pre o, VLe u u' → Y u pre o → Y u' pre o
def CbB (fb : Value) (b0 : Nat) (u : View) (Y : Ys) : Prop :=
 (fb = .nilFunc ∧ ∀ u' pre o x, Y u' pre o → Y u' (pre ++ [Sum.inl x]) o) ∨
 ∃ f caps, fb = .func (.func f) #[] caps.toArray ∧ canCall Tryz.prog f = true ∧ ∀ pre o u' p x, VLe u u' → pre.length ≤ 200000 → Y u' pre o → PtrB u' p x →
  FnO Tryz.prog f (p :: caps) u' [(some b0, o)] fun r u'' l' => r = .tuple #[] ∧ ∃ o', l' = [(some b0, o')] ∧ Y u'' (pre ++ [Sum.inl x]) o'
def CbI (fl : Value) (b0 : Nat) (u : View) (Y : Ys) : Prop :=
 (fl = .nilFunc ∧ ∀ u' pre o x, Y u' pre o → Y u' (pre ++ [Sum.inr x]) o) ∨
 ∃ f caps, fl = .func (.func f) #[] caps.toArray ∧ canCall Tryz.prog f = true ∧ ∀ pre o u' p x, VLe u u' → pre.length ≤ 200000 → Y u' pre o → PtrI u' p x →
  FnO Tryz.prog f (p :: caps) u' [(some b0, o)] fun r u'' l' => r = .tuple #[] ∧ ∃ o', l' = [(some b0, o')] ∧ Y u'' (pre ++ [Sum.inr x]) o'
theorem CbB.mono {fb : Value} {b0 : Nat} {u u2 : View} {Y : Ys} (h : CbB fb b0 u Y) (hu : VLe u u2) : CbB fb b0 u2 Y := by
 rcases h with h | ⟨f, caps, h1, h2, h3⟩
 ·
  exact .inl h
 ·
  exact .inr ⟨f, caps, h1, h2, fun pre o u' p x hle => h3 pre o u' p x (hu.trans hle)⟩
theorem CbI.mono {fb : Value} {b0 : Nat} {u u2 : View} {Y : Ys} (h : CbI fb b0 u Y) (hu : VLe u u2) : CbI fb b0 u2 Y := by
 rcases h with h | ⟨f, caps, h1, h2, h3⟩
 ·
  exact .inl h
 ·
  exact .inr ⟨f, caps, h1, h2, fun pre o u' p x hle => h3 pre o u' p x (hu.trans hle)⟩
theorem CbB.fv {fb : Value} {b0 : Nat} {u : View} {Y : Ys} (h : CbB fb b0 u Y) : isFv fb = true := by
 rcases h with ⟨rfl, _⟩ | ⟨f, caps, rfl, _⟩ <;> rfl
theorem CbI.fv {fb : Value} {b0 : Nat} {u : View} {Y : Ys} (h : CbI fb b0 u Y) : isFv fb = true := by
 rcases h with ⟨rfl, _⟩ | ⟨f, caps, rfl, _⟩ <;> rfl
theorem ptrI_of {u : View} {xs : List Inl} {cs : List Value} {b off i : Nat} {c : Array Value} {T : TypeId} {fr : Nat × Nat} {x : Inl} (hc : InlsC u xs cs) (hu : u b = some (.cells c T fr)) (hcut : cut c.toList off (xs.length * 10) = cs) (hg : xs[i]? = some x) : PtrI u (.pointer (some ⟨b, off + i * 10 + 0, none⟩)) x := by
 have hlt : i < xs.length := (List.getElem?_eq_some_iff.1 hg).1
 refine ⟨b, off + i * 10 + 0, c, T, fr, rfl, hu, ?_⟩
 have := hc.get i x hg
 rw [← hcut, cut_cut (by have := Nat.mul_le_mul_right 10 hlt; rw [Nat.succ_mul] at this; omega)] at this
 exact this
theorem ptrB_of {u : View} {xs : List Blk} {cs : List Value} {b off i : Nat} {c : Array Value} {T : TypeId} {fr : Nat × Nat} {x : Blk} (hc : BlksC u xs cs) (hu : u b = some (.cells c T fr)) (hcut : cut c.toList off (xs.length * 11) = cs) (hg : xs[i]? = some x) : PtrB u (.pointer (some ⟨b, off + i * 11 + 0, none⟩)) x := by
 have hlt : i < xs.length := (List.getElem?_eq_some_iff.1 hg).1
 refine ⟨b, off + i * 11 + 0, c, T, fr, rfl, hu, ?_⟩
 have := hc.get i x hg
 rw [← hcut, cut_cut (by have := Nat.mul_le_mul_right 11 hlt; rw [Nat.succ_mul] at this; omega)] at this
 exact this
set_option maxHeartbeats 2000000 in
theorem vInl_fn (fb fl : Value) (b0 : Nat) (Y : Ys) (hM : MonoY Y) (n : Nat) : ∀ (v : Value) (xs : List Inl) (pre : List Ev) (o : OO) (u : View), szI xs ≤ n → pre.length + szI xs ≤ 200000 → InlS u v xs → CbI fl b0 u Y → Y u pre o →
  FnO Tryz.prog 78 [.agg #[fb, fl], v] u [(some b0, o)] fun r u' l' => r = .tuple #[] ∧ ∃ o', l' = [(some b0, o')] ∧ Y u' (pre ++ evI xs) o' := by
 induction n using Nat.strongRecOn with
 | _ n ih =>
 intro v xs pre o u hsz hbig ha hI hY
 have hlx := len_szI xs
 have hfv := hI.fv
 obtain ⟨cs, ⟨ad, cap, rfl, h1⟩, hc1⟩ := ha
 refine FnO.intro [] Tryz.func78 rfl rfl rfl ?_
 intro w0 D hw0
 refine Zd (Za (Zv rfl rfl ?_))
 refine Zbx trivial rfl (cs := [_, _]) rfl rfl rfl rfl ?_
 refine Zf (ρ' := [(1, _), (2, _)]) ⟨rfl, rfl, trivial⟩ ?_
 refine Zc (Zd (Za (ym rfl rfl (Zg (Zaq rfl rfl Tryz.s35 rfl) rfl (ym rfl rfl (Zf (ρ' := [(1, _), (2, _), (6, _), (7, _)]) ⟨rfl, rfl, rfl, rfl, trivial⟩ ?_))))))
 refine Zc (Zad ?_)
 refine Zbc (fun m ρ σ u' => ∃ i : Nat, i + m = xs.length ∧ VLe u u' ∧ ∃ (oi : OO), σ = [(2, (none, .box [fb, fl])), (1000, (some b0, oi))] ∧ ρ = [(1, .v (.slice ad xs.length cap)), (2, .p 2 0), (6, .v (.int .i64 xs.length)), (7, .v (.int .i64 i))] ∧ (Y u' (pre ++ evI (xs.take i)) oi)) (xs.length) ?_ ?_
 ·
  refine ⟨[(1, _), (2, _), (6, _), (7, _)], [(2, _), (1000, _)], ⟨rfl, rfl, rfl, rfl, trivial⟩, ⟨rfl, rfl, trivial⟩, 0, by omega, VLe.refl _, o, rfl, rfl, ?_⟩
  simpa [evI, deep] using hY
 ·
  rintro m ρ σ u' ⟨i, hi2, hle2, oi, rfl, rfl, hYi⟩
  refine Zd (Za (Zg (Zbn rfl rfl rfl) rfl (Zf (ρ' := [(1, _), (2, _), (6, _), (7, _), (8, _)]) ⟨rfl, rfl, rfl, rfl, rfl, trivial⟩ ?_)))
  refine Zc (Zd ?_)
  refine Zo rfl (fun hb2 => ?_) (fun hb2 => ?_)
  ·
   refine Zr (Zc (Zd (Zad (Zd ?_))))
   have hlt : i < xs.length := by have := of_decide_eq_true hb2; omega
   have h1 := h1.mono hle2
   have hc1 := hc1.mono hle2
   have hI := hI.mono hle2
   obtain ⟨k, t, d, ti, a, args, cites, kids, vc, vp, va, vt, vk, hg, hcut1, s1, s2, s3, s4, s5, hok⟩ := hc1.at hlt
   have oneAll := (hc1.get i _ hg).one
   rw [hcut1] at oneAll
   have hszk := szI_kids hg
   have hst := szI_take hg
   have hs2 := szI_take_le xs (i + 1)
   have hel := evI_len (xs.take i)
   have het := evI_take hg
   simp only [sz1] at hst
   obtain ⟨b1, off1, c1, T1, fr1, rfl, hu1, hcut2⟩ := h1.block (by omega)
   have hP := ptrI_of hc1 hu1 hcut2 hg
   refine Za (ym rfl rfl (ya rfl rfl (Zf (ρ' := [(1, _), (2, _), (4, _), (6, _), (7, _)]) ⟨rfl, rfl, rfl, rfl, rfl, trivial⟩ ?_)))
   refine Zc ?_
   refine Zbu (fun ρ σ uc6 => ∃ (o6 : OO), VLe u' uc6 ∧ σ = [(2, (none, .box [fb, fl])), (1000, (some b0, o6))] ∧ ρ = [(1, .v (.slice (some ⟨b1, off1, none⟩) xs.length cap)), (2, .p 2 0), (4, .v (.int .i64 i)), (6, .v (.int .i64 xs.length)), (7, .v (.int .i64 i))] ∧ (Y uc6 (pre ++ evI (xs.take i) ++ [Sum.inr (.mk k t d ti a args cites kids)]) o6)) ?_ ?_
   ·
    refine Zd (Za (Zg (Zh rfl Tryz.f82' rfl (by decide) rfl) rfl (Zg (Zi rfl Tryz.k80 rfl rfl rfl (vs := [_]) rfl rfl rfl) rfl (Zg (y_fn_neqG rfl (by kernel_rfl) rfl rfl hfv) rfl (Zf (ρ' := [(1, _), (2, _), (4, _), (6, _), (7, _), (12, _)]) ⟨rfl, rfl, rfl, rfl, rfl, rfl, trivial⟩ ?_)))))
    refine Zc ?_
    refine Zo rfl (fun hb4 => ?_) (fun hb4 => ?_)
    ·
     rcases hI with ⟨rfl, hI⟩ | ⟨fB, cB, rfl, hcB, hI⟩; exact absurd hb4 (by decide)
     refine Zbk Tryz.mixed rfl [(2, _)] ⟨rfl, trivial⟩ ?_
     refine Zal 0 rfl (by kernel_rfl) (Zb (Ze (Zb (Zb (Ze (Zp)))))) (Zh rfl Tryz.f82' rfl (by decide) rfl) rfl ?_
     refine Zal 1 rfl (by kernel_rfl) (Zb (Ze (Zb (Zb (Ze (Zp)))))) (Zi rfl Tryz.k80 rfl rfl rfl (vs := [_]) rfl rfl rfl) rfl ?_
     refine Zal 2 rfl (by kernel_rfl) (Zb (Ze (Zb (Zb (Ze (Zp)))))) (Zap rfl rfl) rfl (Zal 3 rfl (by kernel_rfl) (Zb (Ze (Zb (Zb (Ze (Zp)))))) (Zap rfl rfl) rfl ?_)
     refine Zal 4 rfl (by kernel_rfl) (Zb (Ze (Zb (Zb (Ze (Zp)))))) (Zai rfl Tryz.s35 rfl rfl (by assumption) (by first | rfl | omega) (by omega)) rfl ?_
     refine ra_e2v 17 rfl ?_
     refine Zar (i := 5) rfl rfl (by kernel_rfl) ?_
     refine Zaj (caps := cB) (ρ' := [(1, _), (2, _), (4, _), (6, _), (7, _)]) [1000] [] ⟨rfl, trivial⟩ rfl rfl rfl hcB rfl rfl ⟨rfl, rfl, rfl, rfl, rfl, trivial⟩ rfl rfl rfl (FnO.mono (hI (pre ++ evI (xs.take i)) oi u' _ _ (VLe.refl _) (by rw [List.length_append]; omega) hYi hP) ?_)
     rintro v uQ l1 hleQ ⟨rfl, oQ, rfl, hYQ⟩ -
     refine ⟨⟨fun _ h => h, trivial⟩, ?_⟩
     refine Zbl (by kernel_rfl) (ρ' := [(1, _), (2, _), (4, _), (6, _), (7, _)]) ⟨rfl, rfl, rfl, rfl, rfl, trivial⟩ ?_
     refine Zab ?_
     first
      | (refine ⟨[(1, _), (2, _), (4, _), (6, _), (7, _)], [(2, _), (1000, _)], ⟨rfl, rfl, rfl, rfl, rfl, trivial⟩, ⟨rfl, rfl, trivial⟩, oQ, hleQ, (by first | rfl | simp), (by first | rfl | (simp only [List.cons.injEq, Prod.mk.injEq, SV.v.injEq, Value.int.injEq, true_and, and_true]; omega) | simp), ?_⟩
         exact hYQ)
      | (refine ⟨[(1, _), (2, _), (4, _), (6, _), (7, _)], [(2, _), (1000, _)], ⟨rfl, rfl, rfl, rfl, rfl, trivial⟩, ⟨rfl, rfl, trivial⟩, oi, (VLe.refl _), (by first | rfl | simp), (by first | rfl | (simp only [List.cons.injEq, Prod.mk.injEq, SV.v.injEq, Value.int.injEq, true_and, and_true]; omega) | simp), ?_⟩
         exact hYs)
    ·
     have hYs : Y u' (pre ++ evI (xs.take i) ++ [Sum.inr (.mk k t d ti a args cites kids)]) oi := (by rcases hI with ⟨rfl, hNx⟩ | ⟨fB, cB, rfl, hcB, hI⟩; exact hNx _ _ _ _ hYi; cases hb4)
     refine Zr (Zab ?_)
     first
      | (refine ⟨[(1, _), (2, _), (4, _), (6, _), (7, _)], [(2, _), (1000, _)], ⟨rfl, rfl, rfl, rfl, rfl, trivial⟩, ⟨rfl, rfl, trivial⟩, oQ, hleQ, (by first | rfl | simp), (by first | rfl | (simp only [List.cons.injEq, Prod.mk.injEq, SV.v.injEq, Value.int.injEq, true_and, and_true]; omega) | simp), ?_⟩
         exact hYQ)
      | (refine ⟨[(1, _), (2, _), (4, _), (6, _), (7, _)], [(2, _), (1000, _)], ⟨rfl, rfl, rfl, rfl, rfl, trivial⟩, ⟨rfl, rfl, trivial⟩, oi, (VLe.refl _), (by first | rfl | simp), (by first | rfl | (simp only [List.cons.injEq, Prod.mk.injEq, SV.v.injEq, Value.int.injEq, true_and, and_true]; omega) | simp), ?_⟩
         exact hYs)
   ·
    rintro ρ σ uc6 ⟨o6, hlc6, rfl, rfl, hY6⟩
    have h1 := h1.mono hlc6
    have hc1 := hc1.mono hlc6
    refine Zbk Tryz.mixed rfl [(2, _)] ⟨rfl, trivial⟩ ?_
    refine Zal 0 rfl (by kernel_rfl) (Ze (Zb (Zb (Ze (Zp))))) (Zi rfl Tryz.k82 rfl rfl rfl (vs := [_, _]) rfl rfl rfl) rfl ?_
    refine Zal 1 rfl (by kernel_rfl) (Ze (Zb (Zb (Ze (Zp))))) (Zap rfl rfl) rfl (Zal 2 rfl (by kernel_rfl) (Ze (Zb (Zb (Ze (Zp))))) (Zap rfl rfl) rfl ?_)
    refine Zal 3 rfl (by kernel_rfl) (Ze (Zb (Zb (Ze (Zp))))) (Zai rfl Tryz.s35 rfl rfl (by assumption) (by first | rfl | omega) (by omega)) rfl ?_
    refine Zal 4 rfl (by kernel_rfl) (Ze (Zb (Zb (Ze (Zp))))) (Zau rfl Tryz.f42' rfl (by decide) rfl) rfl ?_
    refine Zal 5 rfl (by kernel_rfl) (Ze (Zb (Zb (Ze (Zp))))) (Zag rfl Tryz.k35 rfl (by assumption) (by omega) (by assumption) (vs := [_]) rfl rfl rfl rfl) rfl ?_
    refine Zar (i := 6) rfl rfl (by kernel_rfl) ?_
    refine Zaj (caps := []) (ρ' := [(1, _), (2, _), (6, _), (7, _)]) [1000] [] ⟨rfl, trivial⟩ rfl rfl rfl Tryz.c78 rfl rfl ⟨rfl, rfl, rfl, rfl, trivial⟩ rfl rfl rfl (FnO.mono (ih (szI kids) (by omega) vk kids _ o6 uc6 (Nat.le_refl _) (by simp only [List.length_append, List.length_cons, List.length_nil]; omega) (s5.mono hlc6) (hI.mono hlc6) hY6) ?_)
    rintro v uK l1 hleK ⟨rfl, oK, rfl, hYK⟩ -
    refine ⟨⟨fun _ h => h, trivial⟩, ?_⟩
    refine Zbl (by kernel_rfl) (ρ' := [(1, _), (2, _), (6, _), (7, _)]) ⟨rfl, rfl, rfl, rfl, trivial⟩ ?_
    refine Zah (Zc (Za (Zg (Zav rfl rfl rfl (Zs (by omega))) rfl ?_)))
    refine ym rfl rfl (Zf (ρ' := [(1, _), (2, _), (6, _), (7, _)]) ⟨rfl, rfl, rfl, rfl, trivial⟩ ?_)
    refine Zab ?_
    refine ⟨m - 1, [(1, _), (2, _), (6, _), (7, _)], [(2, _), (1000, _)], by omega, ⟨rfl, rfl, rfl, rfl, trivial⟩, ⟨rfl, rfl, trivial⟩, i + 1, by omega, (hle2.trans (hlc6.trans hleK)), oK, rfl, (by first | rfl | simp), ?_⟩
    rw [het]
    simpa [kidsI] using hYK
  ·
   refine Zax ?_
   refine Zq (Zq ?_)
   refine Zaf ?_
   refine finO0n [1000]  rfl rfl ?_
   have hge := of_decide_eq_false hb2
   rw [List.take_of_length_le (by omega)] at hYi
   exact ⟨rfl, _, rfl, hYi⟩
set_option maxHeartbeats 2000000 in
theorem vBlk_fn (fb fl : Value) (b0 : Nat) (Y : Ys) (hM : MonoY Y) (n : Nat) : ∀ (v : Value) (xs : List Blk) (pre : List Ev) (o : OO) (u : View), szB xs ≤ n → pre.length + szB xs ≤ 200000 → BlkS u v xs → CbB fb b0 u Y → CbI fl b0 u Y → Y u pre o →
  FnO Tryz.prog 44 [.agg #[fb, fl], v] u [(some b0, o)] fun r u' l' => r = .tuple #[] ∧ ∃ o', l' = [(some b0, o')] ∧ Y u' (pre ++ evB xs) o' := by
 induction n using Nat.strongRecOn with
 | _ n ih =>
 intro v xs pre o u hsz hbig ha hB hI hY
 have hlx := len_szB xs
 have hfv := hB.fv
 obtain ⟨cs, ⟨ad, cap, rfl, h1⟩, hc1⟩ := ha
 refine FnO.intro [] Tryz.func44 rfl rfl rfl ?_
 intro w0 D hw0
 refine Zd (Za (Zv rfl rfl ?_))
 refine Zbx trivial rfl (cs := [_, _]) rfl rfl rfl rfl ?_
 refine Zf (ρ' := [(1, _), (2, _)]) ⟨rfl, rfl, trivial⟩ ?_
 refine Zc (Zd (Za (ym rfl rfl (Zg (Zaq rfl rfl Tryz.s23 rfl) rfl (ym rfl rfl (Zf (ρ' := [(1, _), (2, _), (6, _), (7, _)]) ⟨rfl, rfl, rfl, rfl, trivial⟩ ?_))))))
 refine Zc (Zad ?_)
 refine Zbc (fun m ρ σ u' => ∃ i : Nat, i + m = xs.length ∧ VLe u u' ∧ ∃ (oi : OO), σ = [(2, (none, .box [fb, fl])), (1000, (some b0, oi))] ∧ ρ = [(1, .v (.slice ad xs.length cap)), (2, .p 2 0), (6, .v (.int .i64 xs.length)), (7, .v (.int .i64 i))] ∧ (Y u' (pre ++ evB (xs.take i)) oi)) (xs.length) ?_ ?_
 ·
  refine ⟨[(1, _), (2, _), (6, _), (7, _)], [(2, _), (1000, _)], ⟨rfl, rfl, rfl, rfl, trivial⟩, ⟨rfl, rfl, trivial⟩, 0, by omega, VLe.refl _, o, rfl, rfl, ?_⟩
  simpa [evB, evL, listB] using hY
 ·
  rintro m ρ σ u' ⟨i, hi2, hle2, oi, rfl, rfl, hYi⟩
  refine Zd (Za (Zg (Zbn rfl rfl rfl) rfl (Zf (ρ' := [(1, _), (2, _), (6, _), (7, _), (8, _)]) ⟨rfl, rfl, rfl, rfl, rfl, trivial⟩ ?_)))
  refine Zc (Zd ?_)
  refine Zo rfl (fun hb2 => ?_) (fun hb2 => ?_)
  ·
   refine Zr (Zc (Zd (Zad (Zd ?_))))
   have hlt : i < xs.length := by have := of_decide_eq_true hb2; omega
   have h1 := h1.mono hle2
   have hc1 := hc1.mono hle2
   have hI := hI.mono hle2
   have hB := hB.mono hle2
   obtain ⟨k, lv, inf, t, d, ti, a, line, kids, vc, vp, vl, vk, hg, hcut1, s1, s2, s3, s4, hok⟩ := hc1.at hlt
   have oneAll := (hc1.get i _ hg).one
   rw [hcut1] at oneAll
   have hszk := szB_kids hg
   have hst := szB_take hg
   have hs2 := szB_take_le xs (i + 1)
   have hel := evB_len (xs.take i)
   have het := evB_take hg
   have hll := evI_len line
   simp only [szb] at hst
   obtain ⟨b1, off1, c1, T1, fr1, rfl, hu1, hcut2⟩ := h1.block (by omega)
   have hP := ptrB_of hc1 hu1 hcut2 hg
   refine Za (ym rfl rfl (ya rfl rfl (Zf (ρ' := [(1, _), (2, _), (4, _), (6, _), (7, _)]) ⟨rfl, rfl, rfl, rfl, rfl, trivial⟩ ?_)))
   refine Zc ?_
   refine Zbu (fun ρ σ uc6 => ∃ (o6 : OO), VLe u' uc6 ∧ σ = [(2, (none, .box [fb, fl])), (1000, (some b0, o6))] ∧ ρ = [(1, .v (.slice (some ⟨b1, off1, none⟩) xs.length cap)), (2, .p 2 0), (4, .v (.int .i64 i)), (6, .v (.int .i64 xs.length)), (7, .v (.int .i64 i))] ∧ (Y uc6 (pre ++ evB (xs.take i) ++ [Sum.inl (.mk k lv inf t d ti a line kids)]) o6)) ?_ ?_
   ·
    refine Zd (Za (Zg (Zh rfl Tryz.f82' rfl (by decide) rfl) rfl (Zg (Zi rfl Tryz.k78 rfl rfl rfl (vs := [_]) rfl rfl rfl) rfl (Zg (y_fn_neqG rfl (by kernel_rfl) rfl rfl hfv) rfl (Zf (ρ' := [(1, _), (2, _), (4, _), (6, _), (7, _), (12, _)]) ⟨rfl, rfl, rfl, rfl, rfl, rfl, trivial⟩ ?_)))))
    refine Zc ?_
    refine Zo rfl (fun hb4 => ?_) (fun hb4 => ?_)
    ·
     rcases hB with ⟨rfl, hB⟩ | ⟨fB, cB, rfl, hcB, hB⟩; exact absurd hb4 (by decide)
     refine Zbk Tryz.mixed rfl [(2, _)] ⟨rfl, trivial⟩ ?_
     refine Zal 0 rfl (by kernel_rfl) (Zb (Ze (Zb (Zb (Ze (Zp)))))) (Zh rfl Tryz.f82' rfl (by decide) rfl) rfl ?_
     refine Zal 1 rfl (by kernel_rfl) (Zb (Ze (Zb (Zb (Ze (Zp)))))) (Zi rfl Tryz.k78 rfl rfl rfl (vs := [_]) rfl rfl rfl) rfl ?_
     refine Zal 2 rfl (by kernel_rfl) (Zb (Ze (Zb (Zb (Ze (Zp)))))) (Zap rfl rfl) rfl (Zal 3 rfl (by kernel_rfl) (Zb (Ze (Zb (Zb (Ze (Zp)))))) (Zap rfl rfl) rfl ?_)
     refine Zal 4 rfl (by kernel_rfl) (Zb (Ze (Zb (Zb (Ze (Zp)))))) (Zai rfl Tryz.s23 rfl rfl (by assumption) (by first | rfl | omega) (by omega)) rfl ?_
     refine ra_e2v 17 rfl ?_
     refine Zar (i := 5) rfl rfl (by kernel_rfl) ?_
     refine Zaj (caps := cB) (ρ' := [(1, _), (2, _), (4, _), (6, _), (7, _)]) [1000] [] ⟨rfl, trivial⟩ rfl rfl rfl hcB rfl rfl ⟨rfl, rfl, rfl, rfl, rfl, trivial⟩ rfl rfl rfl (FnO.mono (hB (pre ++ evB (xs.take i)) oi u' _ _ (VLe.refl _) (by rw [List.length_append]; omega) hYi hP) ?_)
     rintro v uQ l1 hleQ ⟨rfl, oQ, rfl, hYQ⟩ -
     refine ⟨⟨fun _ h => h, trivial⟩, ?_⟩
     refine Zbl (by kernel_rfl) (ρ' := [(1, _), (2, _), (4, _), (6, _), (7, _)]) ⟨rfl, rfl, rfl, rfl, rfl, trivial⟩ ?_
     refine Zab ?_
     first
      | (refine ⟨[(1, _), (2, _), (4, _), (6, _), (7, _)], [(2, _), (1000, _)], ⟨rfl, rfl, rfl, rfl, rfl, trivial⟩, ⟨rfl, rfl, trivial⟩, oQ, hleQ, (by first | rfl | simp), (by first | rfl | (simp only [List.cons.injEq, Prod.mk.injEq, SV.v.injEq, Value.int.injEq, true_and, and_true]; omega) | simp), ?_⟩
         exact hYQ)
      | (refine ⟨[(1, _), (2, _), (4, _), (6, _), (7, _)], [(2, _), (1000, _)], ⟨rfl, rfl, rfl, rfl, rfl, trivial⟩, ⟨rfl, rfl, trivial⟩, oi, (VLe.refl _), (by first | rfl | simp), (by first | rfl | (simp only [List.cons.injEq, Prod.mk.injEq, SV.v.injEq, Value.int.injEq, true_and, and_true]; omega) | simp), ?_⟩
         exact hYs)
    ·
     have hYs : Y u' (pre ++ evB (xs.take i) ++ [Sum.inl (.mk k lv inf t d ti a line kids)]) oi := (by rcases hB with ⟨rfl, hNx⟩ | ⟨fB, cB, rfl, hcB, hB⟩; exact hNx _ _ _ _ hYi; cases hb4)
     refine Zr (Zab ?_)
     first
      | (refine ⟨[(1, _), (2, _), (4, _), (6, _), (7, _)], [(2, _), (1000, _)], ⟨rfl, rfl, rfl, rfl, rfl, trivial⟩, ⟨rfl, rfl, trivial⟩, oQ, hleQ, (by first | rfl | simp), (by first | rfl | (simp only [List.cons.injEq, Prod.mk.injEq, SV.v.injEq, Value.int.injEq, true_and, and_true]; omega) | simp), ?_⟩
         exact hYQ)
      | (refine ⟨[(1, _), (2, _), (4, _), (6, _), (7, _)], [(2, _), (1000, _)], ⟨rfl, rfl, rfl, rfl, rfl, trivial⟩, ⟨rfl, rfl, trivial⟩, oi, (VLe.refl _), (by first | rfl | simp), (by first | rfl | (simp only [List.cons.injEq, Prod.mk.injEq, SV.v.injEq, Value.int.injEq, true_and, and_true]; omega) | simp), ?_⟩
         exact hYs)
   ·
    rintro ρ σ uc6 ⟨o6, hlc6, rfl, rfl, hY6⟩
    have h1 := h1.mono hlc6
    have hc1 := hc1.mono hlc6
    refine Zd ?_
    refine Zbk Tryz.mixed rfl [(2, _)] ⟨rfl, trivial⟩ ?_
    refine Zal 0 rfl (by kernel_rfl) (Zb (Ze (Zb (Zb (Ze (Zp)))))) (Zi rfl Tryz.k82 rfl rfl rfl (vs := [_, _]) rfl rfl rfl) rfl ?_
    refine Zal 1 rfl (by kernel_rfl) (Zb (Ze (Zb (Zb (Ze (Zp)))))) (Zap rfl rfl) rfl (Zal 2 rfl (by kernel_rfl) (Zb (Ze (Zb (Zb (Ze (Zp)))))) (Zap rfl rfl) rfl ?_)
    refine Zal 3 rfl (by kernel_rfl) (Zb (Ze (Zb (Zb (Ze (Zp)))))) (Zai rfl Tryz.s23 rfl rfl (by assumption) (by first | rfl | omega) (by omega)) rfl ?_
    refine Zal 4 rfl (by kernel_rfl) (Zb (Ze (Zb (Zb (Ze (Zp)))))) (Zau rfl Tryz.f59' rfl (by decide) rfl) rfl ?_
    refine Zal 5 rfl (by kernel_rfl) (Zb (Ze (Zb (Zb (Ze (Zp)))))) (Zag rfl Tryz.k35 rfl (by assumption) (by omega) (by assumption) (vs := [_]) rfl rfl rfl rfl) rfl ?_
    refine Zar (i := 6) rfl rfl (by kernel_rfl) ?_
    refine Zaj (caps := []) (ρ' := [(1, _), (2, _), (4, _), (6, _), (7, _)]) [1000] [] ⟨rfl, trivial⟩ rfl rfl rfl Tryz.c78 rfl rfl ⟨rfl, rfl, rfl, rfl, rfl, trivial⟩ rfl rfl rfl (FnO.mono (vInl_fn fb fl b0 Y hM (szI line) vl line _ o6 uc6 (Nat.le_refl _) (by simp only [List.length_append, List.length_cons, List.length_nil]; omega) (s3.mono hlc6) (hI.mono hlc6) hY6) ?_)
    rintro v uK l1 hleK ⟨rfl, oK, rfl, hYK⟩ -
    refine ⟨⟨fun _ h => h, trivial⟩, ?_⟩
    have h1 := h1.mono hleK
    have hc1 := hc1.mono hleK
    refine Zbl (by kernel_rfl) (ρ' := [(1, _), (2, _), (4, _), (6, _), (7, _)]) ⟨rfl, rfl, rfl, rfl, rfl, trivial⟩ ?_
    refine Zc ?_
    refine Zbk Tryz.mixed rfl [(2, _)] ⟨rfl, trivial⟩ ?_
    refine Zal 0 rfl (by kernel_rfl) (Ze (Zb (Zb (Ze (Zp))))) (Zi rfl Tryz.k82 rfl rfl rfl (vs := [_, _]) rfl rfl rfl) rfl ?_
    refine Zal 1 rfl (by kernel_rfl) (Ze (Zb (Zb (Ze (Zp))))) (Zap rfl rfl) rfl (Zal 2 rfl (by kernel_rfl) (Ze (Zb (Zb (Ze (Zp))))) (Zap rfl rfl) rfl ?_)
    refine Zal 3 rfl (by kernel_rfl) (Ze (Zb (Zb (Ze (Zp))))) (Zai rfl Tryz.s23 rfl rfl (by assumption) (by first | rfl | omega) (by omega)) rfl ?_
    refine Zal 4 rfl (by kernel_rfl) (Ze (Zb (Zb (Ze (Zp))))) (Zau rfl Tryz.f59' rfl (by decide) rfl) rfl ?_
    refine Zal 5 rfl (by kernel_rfl) (Ze (Zb (Zb (Ze (Zp))))) (Zag rfl Tryz.k23 rfl (by assumption) (by omega) (by assumption) (vs := [_]) rfl rfl rfl rfl) rfl ?_
    refine Zar (i := 6) rfl rfl (by kernel_rfl) ?_
    refine Zaj (caps := []) (ρ' := [(1, _), (2, _), (6, _), (7, _)]) [1000] [] ⟨rfl, trivial⟩ rfl rfl rfl Tryz.c44 rfl rfl ⟨rfl, rfl, rfl, rfl, trivial⟩ rfl rfl rfl (FnO.mono (ih (szB kids) (by omega) vk kids _ oK uK (Nat.le_refl _) (by simp only [List.length_append, List.length_cons, List.length_nil]; omega) ((s4.mono hlc6).mono hleK) ((hB.mono hlc6).mono hleK) ((hI.mono hlc6).mono hleK) hYK) ?_)
    rintro v uR l1 hleR ⟨rfl, oR, rfl, hYR⟩ -
    refine ⟨⟨fun _ h => h, trivial⟩, ?_⟩
    refine Zbl (by kernel_rfl) (ρ' := [(1, _), (2, _), (6, _), (7, _)]) ⟨rfl, rfl, rfl, rfl, trivial⟩ ?_
    refine Zah (Zc (Za (Zg (Zav rfl rfl rfl (Zs (by omega))) rfl ?_)))
    refine ym rfl rfl (Zf (ρ' := [(1, _), (2, _), (6, _), (7, _)]) ⟨rfl, rfl, rfl, rfl, trivial⟩ ?_)
    refine Zab ?_
    refine ⟨m - 1, [(1, _), (2, _), (6, _), (7, _)], [(2, _), (1000, _)], by omega, ⟨rfl, rfl, rfl, rfl, trivial⟩, ⟨rfl, rfl, trivial⟩, i + 1, by omega, (hle2.trans (hlc6.trans (hleK.trans hleR))), oR, rfl, (by first | rfl | simp), ?_⟩
    rw [het]
    simpa [kidsB, lineOf] using hYR
  ·
   refine Zax ?_
   refine Zq (Zq ?_)
   refine Zaf ?_
   refine finO0n [1000]  rfl rfl ?_
   have hge := of_decide_eq_false hb2
   rw [List.take_of_length_le (by omega)] at hYi
   exact ⟨rfl, _, rfl, hYi⟩
end Go.Proofs.Ythkgcakpjknlbaa
namespace Go.Proofs.Ythkgcakpjknlbaa
open Go Go.Eng
set_option linter.unusedSimpArgs false
set_option linter.unusedVariables false
set_option maxRecDepth 4000
theorem labCopyAttr_fn (a : DAttr) (vc vp : Value) (u : View) (hc : a.classes.length ≤ 1000000) (hp : a.pairs.length ≤ 1000000) (h1 : StrS u vc a.classes) (h2 : PrS u vp a.pairs) :
  FnP Tryz.prog 59 [.agg #[str a.id, vc, vp]] u fun r u' => ∃ vc' vp', r = .agg #[str a.id, vc', vp'] ∧ StrS u' vc' a.classes ∧ PrS u' vp' a.pairs := by
 obtain ⟨ad, cap, rfl, h1⟩ := h1
 obtain ⟨ad2, cap2, rfl, h2⟩ := h2
 refine FnP.intro [.cell 2 39] Tryz.func59 rfl rfl rfl ?_
 intro w0 D hw0
 refine Zd (Za (Zv rfl rfl ?_))
 refine Zbx trivial rfl (cs := [_, _, _]) rfl rfl rfl rfl ?_
 refine Zv rfl rfl ?_
 refine Zas trivial Tryz.z39 rfl rfl rfl ?_
 refine Zf (ρ' := [(1, _), (2, _)]) ⟨rfl, rfl, trivial⟩ ?_
 refine Zc (Zd ?_)
 refine Zbk Tryz.mixed rfl [(1, _)] ⟨rfl, trivial⟩ ?_
 refine Zal 0 rfl (by kernel_rfl) (Zb (Zan)) (Zh rfl Tryz.f39' rfl (by decide) rfl) rfl ?_
 refine Zal 1 rfl (by kernel_rfl) (Zb (Zan)) (Zi rfl Tryz.k9 rfl rfl rfl (vs := [_]) rfl rfl rfl) rfl ?_
 refine Zal 2 rfl (by kernel_rfl) (Zb (Zan)) (Zh rfl Tryz.f39' rfl (by decide) rfl) rfl ?_
 refine Zal 3 rfl (by kernel_rfl) (Zb (Zan)) (Zi rfl Tryz.k37 rfl rfl rfl (vs := [_]) rfl rfl rfl) rfl ?_
 refine Zal 5 rfl (by kernel_rfl) (Zb (Zan)) (Zh rfl Tryz.f39' rfl (by decide) rfl) rfl ?_
 refine Zal 6 rfl (by kernel_rfl) (Zb (Zan)) (Zi rfl Tryz.k22 rfl rfl rfl (vs := [_]) rfl rfl rfl) rfl ?_
 refine Zar (i := 4) rfl rfl (by kernel_rfl) ?_
 refine Zbs ⟨rfl, trivial⟩ rfl Tryz.s37 Tryz.z9 rfl rfl rfl rfl (by assumption) (oneCell_strs _) (by omega) (by omega) rfl rfl rfl ?_
 refine ra_freeze 7 rfl ?_
 intro ad7 cap7 u7 hle7z hsl7
 have h2 := h2.mono (by first | exact hle7z | exact hle10z.trans hle7z)
 refine Zar (i := 7) rfl rfl (by kernel_rfl) ?_
 refine Zbs ⟨rfl, trivial⟩ rfl Tryz.s22 Tryz.z56 rfl rfl rfl rfl (by assumption) (oneCell_pairs _) (by omega) (by omega) rfl rfl rfl ?_
 refine ra_freeze 10 rfl ?_
 intro ad10 cap10 u10 hle10z hsl10
 have h1 := h1.mono (by first | exact hle10z | exact hle7z.trans hle10z)
 refine Zal 8 rfl (by kernel_rfl) (Zb (Zan)) (Zbf rfl Tryz.f39' Tryz.z39 (ps := [(_, _), (_, _), (_, _)]) rfl (vs := [_, _, _]) rfl) rfl ?_
 refine Zar (i := 9) rfl rfl (by kernel_rfl) ?_
 refine Zm ⟨rfl, trivial⟩ rfl Tryz.k39 rfl rfl rfl (vs := [_, _, _]) rfl rfl (by first | rfl | assumption | simp [Value.oneCell', str]) (Nat.le_of_ble_eq_true rfl) rfl ?_
 refine Zbl (by kernel_rfl) (ρ' := [(2, _)]) ⟨rfl, trivial⟩ ?_
 refine Zc (Zw ?_)
 refine Zbe (.cell rfl rfl Tryz.k39 (cs := _) (vs := [_, _, _]) rfl rfl rfl) ?_
 exact ⟨_, _, rfl, ⟨_, _, rfl, by first | exact hsl7 | exact hsl7.mono hle10z⟩, ⟨_, _, rfl, by first | exact hsl10 | exact hsl10.mono hle7z⟩⟩
theorem labCopyMeta_fn (v : Value) (xs : List (Bs × Bs)) (hx : xs.length ≤ 1000000) (u : View) (ha : PrS u v xs) : FnP Tryz.prog 26 [v] u fun r u' => PrS u' r xs := by
 obtain ⟨ad, cap, rfl, h1⟩ := ha
 refine FnP.intro [.tmp 2] Tryz.func26 rfl rfl rfl ?_
 intro w0 D hw0
 refine Zd (Za (ya rfl rfl (Zf (ρ' := [(0, _)]) ⟨rfl, trivial⟩ ?_)))
 refine Zc (Zd (Za (ym rfl rfl (Zv rfl rfl ?_))))
 refine Zbs trivial rfl Tryz.s22 Tryz.z56 rfl rfl rfl rfl (by assumption) (oneCell_pairs _) (by omega) (by omega) rfl rfl rfl ?_
 refine Zbo 4 rfl ?_
 intro ad4 cap4 u4 hle4z hsl4
 refine ya rfl rfl (Zf (ρ' := [(2, _)]) ⟨rfl, trivial⟩ ?_)
 refine Zc (Zw (Zbe (.tmp rfl) ?_))
 exact ⟨_, _, rfl, hsl4⟩
def NodeCp : Inl → Prop
 | .mk _ _ _ _ a args cites _ => a.classes.length ≤ 1000 ∧ a.pairs.length ≤ 1000 ∧ args.length ≤ 1000 ∧ cites.length ≤ 1000
abbrev YI := View → List Inl → OO → Prop
structure RepI where
 rep : Inl → Inl
 g : List Inl → List Inl
 ev : List Inl → List Inl
 mm : List Inl → Nat
 Gd : List Inl → Prop
 Gx : Inl → Prop
 g0 : g [] = []
 ev0 : ev [] = []
 gs : ∀ (xs : List Inl) (i : Nat) (x : Inl), xs[i]? = some x → g (xs.take (i + 1)) = g (xs.take i) ++ [setK (rep x) (g (kidsI (rep x)))]
 evs : ∀ (xs : List Inl) (i : Nat) (x : Inl), xs[i]? = some x → ev (xs.take (i + 1)) = ev (xs.take i) ++ x :: ev (kidsI (rep x))
 gl : ∀ xs : List Inl, (g xs).length = xs.length
 down : ∀ (xs : List Inl) (i : Nat) (x : Inl), Gd xs → xs[i]? = some x → mm (kidsI (rep x)) < mm xs ∧ Gd (kidsI (rep x)) ∧ NodeCp (rep x) ∧ Gx x
 len : ∀ xs : List Inl, Gd xs → xs.length ≤ 100000
def CbR (R : RepI) (fr : Value) (b0 : Nat) (u : View) (Y : YI) : Prop :=
 ∃ f caps, fr = .func (.func f) #[] caps.toArray ∧ canCall Tryz.prog f = true ∧ ∀ pre o u' x cs, VLe u u' → Y u' pre o → R.Gx x → InlC u' x cs →
  FnO Tryz.prog f (.agg cs.toArray :: caps) u' [(some b0, o)] fun r u'' l' => (∃ cs', r = .agg cs'.toArray ∧ InlC u'' (R.rep x) cs') ∧ ∃ o', l' = [(some b0, o')] ∧ Y u'' (pre ++ [x]) o'
theorem CbR.mono {R : RepI} {fr : Value} {b0 : Nat} {u u2 : View} {Y : YI} (h : CbR R fr b0 u Y) (hu : VLe u u2) : CbR R fr b0 u2 Y := by
 obtain ⟨f, caps, h1, h2, h3⟩ := h
 exact ⟨f, caps, h1, h2, fun pre o u' x cs hle => h3 pre o u' x cs (hu.trans hle)⟩
set_option maxHeartbeats 4000000 in
theorem rebLine_fn (R : RepI) (f : FuncId) (caps : List Value) (b0 : Nat) (Y : YI) (hM : ∀ u u' pre o, VLe u u' → Y u pre o → Y u' pre o) (hcF : canCall Tryz.prog f = true) (n : Nat) :
  ∀ (v : Value) (xs pre : List Inl) (o : OO) (u : View), R.mm xs ≤ n → R.Gd xs → InlS u v xs → CbR R (.func (.func f) #[] caps.toArray) b0 u Y → Y u pre o →
   FnO Tryz.prog 60 [v, .func (.func f) #[] caps.toArray] u [(some b0, o)] fun r u' l' => InlS u' r (R.g xs) ∧ ∃ o', l' = [(some b0, o')] ∧ Y u' (pre ++ R.ev xs) o' := by
 induction n using Nat.strongRecOn with
 | _ n ih =>
 intro v xs pre o u hsz hgd ha hR hY
 have hlx := R.len xs hgd
 obtain ⟨cs, ⟨ad, cap, rfl, h1⟩, hc1⟩ := ha
 refine FnO.intro [.tmp 4] Tryz.func60 rfl rfl rfl ?_
 intro w0 D hw0
 refine Zd (Za (ya rfl rfl (Zf (ρ' := [(0, _), (1, _)]) ⟨rfl, rfl, trivial⟩ ?_)))
 refine Zc (Zd (Za (ya rfl rfl ?_)))
 refine Zch 5 505 42 10 rfl rfl rfl ?_
 refine Zf (ρ' := [(0, _), (1, _), (5, _)]) ⟨rfl, rfl, rfl, trivial⟩ ?_
 refine Zc (Zd (Zd (Za (ym rfl rfl (Zg (Zaq rfl rfl Tryz.s35 rfl) rfl (ym rfl rfl (Zf (ρ' := [(1, _), (5, _), (8, _), (9, _), (10, _)]) ⟨rfl, rfl, rfl, rfl, rfl, trivial⟩ ?_)))))))
 refine Zc (Zad ?_)
 refine Zbc (fun m ρ σ u' => ∃ i : Nat, i + m = xs.length ∧ VLe u u' ∧ ∃ (acc : List Value) (oi : OO), σ = [(505, (none, .row 42 10 (R.g (xs.take i)).length acc)), (1000, (some b0, oi))] ∧ ρ = [(1, .v (.func (.func f) #[] caps.toArray)), (5, .s 505), (8, .v (.slice ad xs.length cap)), (9, .v (.int .i64 xs.length)), (10, .v (.int .i64 i))] ∧ (InlsC u' (R.g (xs.take i)) acc ∧ Y u' (pre ++ R.ev (xs.take i)) oi)) (xs.length) ?_ ?_
 ·
  refine ⟨[(1, _), (5, _), (8, _), (9, _), (10, _)], [(505, _), (1000, _)], ⟨rfl, rfl, rfl, rfl, rfl, trivial⟩, ⟨rfl, rfl, trivial⟩, 0, by omega, VLe.refl _, [], o, (by simp [R.g0]), rfl, ?_⟩
  exact ⟨by rw [List.take_zero, R.g0]; exact InlsC.nil, by rw [List.take_zero, R.ev0, List.append_nil]; exact hY⟩
 ·
  rintro m ρ σ u' ⟨i, hi3, hle3, acc, oi, rfl, rfl, ⟨hacc, hYi⟩⟩
  refine Zd (Za (Zg (Zbn rfl rfl rfl) rfl (Zf (ρ' := [(1, _), (5, _), (8, _), (9, _), (10, _), (11, _)]) ⟨rfl, rfl, rfl, rfl, rfl, rfl, trivial⟩ ?_)))
  refine Zc (Zd ?_)
  refine Zo rfl (fun hb3 => ?_) (fun hb3 => ?_)
  ·
   have hlt : i < xs.length := by have := of_decide_eq_true hb3; omega
   have h1 := h1.mono hle3
   obtain ⟨k, t, d, ti, a, args, cites, kids, vc, vp, va, vt, vk, hg, hcut1, s1, s2, s3, s4, s5, hok⟩ := (hc1.mono hle3).at hlt
   have hx := (hc1.mono hle3).get i _ hg
   rw [hcut1] at hx
   have oneAll := hx.one
   obtain ⟨hdn, hgk, hcp, hgx⟩ := R.down xs i _ hgd hg
   have hgs := R.gs xs i _ hg
   have hevs := R.evs xs i _ hg
   have hgl := R.gl (xs.take i)
   have htl : (xs.take i).length ≤ i := by simp; omega
   have hRu := hR.mono hle3
   obtain ⟨f', caps', hfe, _, hcall⟩ := hRu
   obtain ⟨rfl, hce⟩ : f = f' ∧ caps = caps' := by simpa using hfe
   subst hce
   generalize hz : Inl.mk k t d ti a args cites kids = z at *
   refine Zr (Zc (Zd (Zad (Zd (Za (Zg (Zai rfl Tryz.s35 rfl rfl (by assumption) (by first | rfl | omega) (by omega)) rfl (Zg (Zag rfl Tryz.k42 rfl (by assumption) (by omega) (by assumption) (vs := [_, _, _, _, _, _, _, _, _, _]) rfl rfl rfl rfl) rfl (Zv rfl rfl ?_))))))))
   refine Zas trivial Tryz.z42 rfl rfl rfl ?_
   refine Zv rfl rfl ?_
   refine Zm trivial rfl Tryz.k42 rfl rfl rfl (vs := [_, _, _, _, _, _, _, _, _, _]) rfl rfl (by first | rfl | assumption | simp [Value.oneCell', str]) (Nat.le_of_ble_eq_true rfl) rfl ?_
   refine Zf (ρ' := [(1, _), (5, _), (7, _), (8, _), (9, _), (10, _)]) ⟨rfl, rfl, rfl, rfl, rfl, rfl, trivial⟩ ?_
   refine Zc (Zd (Za (ym rfl rfl (Zg (Zi rfl Tryz.k42 rfl rfl rfl (vs := [_, _, _, _, _, _, _, _, _, _]) rfl rfl rfl) rfl (Zv rfl rfl ?_)))))
   refine Zaj (caps := caps) (ρ' := [(1, _), (5, _), (7, _), (8, _), (9, _), (10, _)]) [1000] [] trivial rfl rfl rfl hcF rfl rfl ⟨rfl, rfl, rfl, rfl, rfl, rfl, trivial⟩ rfl rfl rfl (FnO.mono (hcall (pre ++ R.ev (xs.take i)) oi u' z _ (VLe.refl _) hYi hgx hx) ?_)
   rintro v uC l1 hleC ⟨⟨cs2, rfl, hx2⟩, oC, rfl, hYC⟩ -
   refine ⟨⟨fun _ h => h, trivial⟩, ?_⟩
   generalize R.rep z = y at *
   obtain ⟨k2, t2, d2, ti2, a2, args2, cites2, kids2⟩ := y
   obtain ⟨vc2, vp2, va2, vt2, vk2, rfl, q1, q2, q3, q4, q5, hok2⟩ := hx2.cells
   have oneAll2 := hx2.one
   obtain ⟨p1, p2, p3, p4⟩ := hcp
   simp only [kidsI] at hdn hgk hgs hevs
   have q3' := q3
   have q4' := q4
   obtain ⟨ad3, cap3, rfl, q3⟩ := q3
   obtain ⟨ad4, cap4, rfl, q4⟩ := q4
   refine Zv rfl rfl ?_
   refine Zm trivial rfl Tryz.k42 rfl rfl rfl (vs := [_, _, _, _, _, _, _, _, _, _]) rfl rfl (by first | rfl | assumption | simp [Value.oneCell', str]) (Nat.le_of_ble_eq_true rfl) rfl ?_
   refine Zf (ρ' := [(1, _), (5, _), (7, _), (8, _), (9, _), (10, _)]) ⟨rfl, rfl, rfl, rfl, rfl, rfl, trivial⟩ ?_
   refine Zc (Zd (Za (Zg (Zh rfl Tryz.f42' rfl (by decide) rfl) rfl (Zg (Zi rfl Tryz.k39 rfl rfl rfl (vs := [_, _, _]) rfl rfl rfl) rfl (Zv rfl rfl ?_)))))
   refine Zbm (caps := []) trivial rfl rfl Tryz.c59 rfl (FnP.mono (labCopyAttr_fn a2 _ _ _ (by omega) (by omega) q1 q2) ?_)
   rintro v uA hle0 ⟨vc3, vp3, rfl, ⟨ad5, cap5, rfl, w1⟩, ⟨ad6, cap6, rfl, w2⟩⟩ hleA
   refine Zg (Zh rfl Tryz.f42' rfl (by decide) rfl) rfl (Zv rfl rfl ?_)
   refine Zm trivial rfl Tryz.k39 rfl rfl rfl (vs := [_, _, _]) rfl rfl (by first | rfl | assumption | simp [Value.oneCell', str]) (Nat.le_of_ble_eq_true rfl) rfl ?_
   refine Zf (ρ' := [(1, _), (5, _), (7, _), (8, _), (9, _), (10, _)]) ⟨rfl, rfl, rfl, rfl, rfl, rfl, trivial⟩ ?_
   refine Zc (Zd ?_)
   have q3 := q3.mono hleA
   refine Za (Zg (Zh rfl Tryz.f42' rfl (by decide) rfl) rfl (Zg (Zi rfl Tryz.k37 rfl rfl rfl (vs := [_]) rfl rfl rfl) rfl (Zv rfl rfl ?_)))
   refine Zbs trivial rfl Tryz.s37 Tryz.z9 rfl rfl rfl rfl (by assumption) (oneCell_strs _) (by omega) (by omega) rfl rfl rfl ?_
   refine Zbo 23 rfl ?_
   intro ad23 cap23 u23 hle23z hsl23
   refine Zg (Zh rfl Tryz.f42' rfl (by decide) rfl) rfl (Zv rfl rfl ?_)
   refine Zm trivial rfl Tryz.k37 rfl rfl rfl (vs := [_]) rfl rfl (by first | rfl | assumption | simp [Value.oneCell', str]) (Nat.le_of_ble_eq_true rfl) rfl ?_
   refine Zf (ρ' := [(1, _), (5, _), (7, _), (8, _), (9, _), (10, _)]) ⟨rfl, rfl, rfl, rfl, rfl, rfl, trivial⟩ ?_
   refine Zc (Zd ?_)
   have q4 := (q4.mono hleA).mono hle23z
   refine Za (Zg (Zh rfl Tryz.f42' rfl (by decide) rfl) rfl (Zg (Zi rfl Tryz.k40 rfl rfl rfl (vs := [_]) rfl rfl rfl) rfl (Zv rfl rfl ?_)))
   refine Zbs trivial rfl Tryz.s40 Tryz.z124 rfl rfl rfl rfl (by assumption) (oneCell_cites _) (by omega) (by omega) rfl rfl rfl ?_
   refine Zbo 27 rfl ?_
   intro ad27 cap27 u27 hle27z hsl27
   refine Zg (Zh rfl Tryz.f42' rfl (by decide) rfl) rfl (Zv rfl rfl ?_)
   refine Zm trivial rfl Tryz.k40 rfl rfl rfl (vs := [_]) rfl rfl (by first | rfl | assumption | simp [Value.oneCell', str]) (Nat.le_of_ble_eq_true rfl) rfl ?_
   refine Zf (ρ' := [(1, _), (5, _), (7, _), (8, _), (9, _), (10, _)]) ⟨rfl, rfl, rfl, rfl, rfl, rfl, trivial⟩ ?_
   refine Zc (Zd (Za (Zg (Zh rfl Tryz.f42' rfl (by decide) rfl) rfl (Zg (Zi rfl Tryz.k35 rfl rfl rfl (vs := [_]) rfl rfl rfl) rfl (ym rfl rfl (Zv rfl rfl ?_))))))
   refine Zaj (caps := []) (ρ' := [(1, _), (5, _), (7, _), (8, _), (9, _), (10, _)]) [1000] [] trivial rfl rfl rfl Tryz.c60 rfl rfl ⟨rfl, rfl, rfl, rfl, rfl, rfl, trivial⟩ rfl rfl rfl (FnO.mono (ih (R.mm kids2) (by omega) vk2 kids2 _ oC u27 (Nat.le_refl _) hgk (((q5.mono hleA).mono hle23z).mono hle27z) ((hR.mono (hle3.trans hleC)).mono (hleA.trans (hle23z.trans hle27z))) (hM _ _ _ _ (hleA.trans (hle23z.trans hle27z)) hYC)) ?_)
   rintro v uK l1 hleK ⟨⟨kcs, ⟨kad, kcap, rfl, hk1⟩, hk2⟩, oK, rfl, hYK⟩ -
   refine ⟨⟨fun _ h => h, trivial⟩, ?_⟩
   refine Zg (Zh rfl Tryz.f42' rfl (by decide) rfl) rfl (Zv rfl rfl ?_)
   refine Zm trivial rfl Tryz.k35 rfl rfl rfl (vs := [_]) rfl rfl (by first | rfl | assumption | simp [Value.oneCell', str]) (Nat.le_of_ble_eq_true rfl) rfl ?_
   refine Zf (ρ' := [(1, _), (5, _), (7, _), (8, _), (9, _), (10, _)]) ⟨rfl, rfl, rfl, rfl, rfl, rfl, trivial⟩ ?_
   refine Zc (Za (ym rfl rfl (Zg (Zi rfl Tryz.k42 rfl rfl rfl (vs := [_, _, _, _, _, _, _, _, _, _]) rfl rfl rfl) rfl (Zv rfl rfl ?_))))
   refine Zak trivial Tryz.s35 Tryz.z42 (ps := [(_, _)]) rfl (xs := [_, _, _, _, _, _, _, _, _, _]) rfl rfl rfl rfl rfl rfl rfl ?_
   refine Zv rfl rfl ?_
   refine Zby trivial rfl rfl Tryz.s35 Tryz.z42 rfl rfl rfl rfl rfl rfl (by first | rfl | assumption | simp [Value.oneCell', str]) (by omega) (by omega) (ρ' := [(1, _), (8, _), (9, _), (10, _)]) ⟨rfl, rfl, rfl, rfl, trivial⟩ rfl rfl rfl ?_
   refine ya rfl rfl ?_
   refine rl_ren 37 505 rfl rfl rfl ?_
   refine Zf (ρ' := [(1, _), (5, _), (8, _), (9, _), (10, _)]) ⟨rfl, rfl, rfl, rfl, rfl, trivial⟩ ?_
   refine Zah (Zc (Za (Zg (Zav rfl rfl rfl (Zs (by omega))) rfl ?_)))
   refine ym rfl rfl (Zf (ρ' := [(1, _), (5, _), (8, _), (9, _), (10, _)]) ⟨rfl, rfl, rfl, rfl, rfl, trivial⟩ ?_)
   refine Zab ?_
   refine ⟨m - 1, [(1, _), (5, _), (8, _), (9, _), (10, _)], [(505, _), (1000, _)], by omega, ⟨rfl, rfl, rfl, rfl, rfl, trivial⟩, ⟨rfl, rfl, trivial⟩, i + 1, by omega, (hle3.trans (hleC.trans (hleA.trans (hle23z.trans (hle27z.trans hleK))))), _, oK, (by rw [hgs, List.length_append]; rfl), (by first | rfl | simp), ?_⟩
   rw [hgs, hevs]
   refine ⟨(hacc.mono (hleC.trans (hleA.trans (hle23z.trans (hle27z.trans hleK))))).append (InlsC.one ?_), by simpa using hYK⟩
   have hok3 : InlOk (.mk k2 t2 d2 ti2 a2 args2 cites2 (R.g kids2)) := by
    obtain ⟨o1, o2, o3, o4, o5, o6, o7, o8⟩ := hok2
    exact ⟨o1, o2, o3, o4, o5, o6, o7, by rw [R.gl]; exact o8⟩
   have hw := hle23z.trans (hle27z.trans hleK)
   exact InlC.mk' (StrS.mono ⟨_, _, rfl, w1⟩ hw) (PrS.mono ⟨_, _, rfl, w2⟩ hw) (StrS.mono ⟨_, _, rfl, hsl23⟩ (hle27z.trans hleK)) (CiS.mono ⟨_, _, rfl, hsl27⟩ hleK) ⟨kcs, ⟨kad, kcap, rfl, hk1⟩, hk2⟩ hok3
  ·
   have hge := of_decide_eq_false hb3
   refine Zax ?_
   refine Zq (Zq ?_)
   refine Zaf ?_
   refine Zc (Zd (Za (ym rfl rfl ?_)))
   refine Zbo 505 rfl ?_
   intro ad505 cap505 u505 hle505z hsl505
   refine ya rfl rfl (Zf (ρ' := [(4, _)]) ⟨rfl, trivial⟩ ?_)
   refine Zc (Zw ?_)
   refine finO1 [1000] (.tmp rfl) rfl rfl ?_
   rw [List.take_of_length_le (by omega)] at hacc hYi hsl505
   exact ⟨⟨_, ⟨_, _, by rw [List.take_of_length_le (by omega)], hsl505⟩, hacc.mono hle505z⟩, oi, rfl, hM _ _ _ _ hle505z hYi⟩
end Go.Proofs.Ythkgcakpjknlbaa
namespace Go.Proofs.Ythkgcakpjknlbaa
open Go Go.Eng
set_option linter.unusedSimpArgs false
set_option linter.unusedVariables false
set_option maxRecDepth 4000
def GdB (R : RepI) (kp : Blk → Bool) (bs : List Blk) : Prop := ∀ x ∈ listB bs, R.Gd (lineOf x) ∧ (match x with | .mk _ _ _ _ _ _ a _ _ => a.classes.length ≤ 1000 ∧ a.pairs.length ≤ 1000)
theorem GdB.at {R : RepI} {kp : Blk → Bool} {bs : List Blk} (h : GdB R kp bs) {i : Nat} {k lv : Int} {inf t d ti : Bs} {a : DAttr} {line : List Inl} {kids : List Blk} (hg : bs[i]? = some (.mk k lv inf t d ti a line kids)) :
  R.Gd line ∧ a.classes.length ≤ 1000 ∧ a.pairs.length ≤ 1000 ∧ GdB R kp kids := by
 have hmem : ∀ y ∈ listb (.mk k lv inf t d ti a line kids), y ∈ listB bs := by
  intro y hy
  have : ∀ (bs : List Blk) (i : Nat), bs[i]? = some (.mk k lv inf t d ti a line kids) → y ∈ listB bs := by
   intro bs
   induction bs with
   | nil => intro i h; simp at h
   | cons b bs ih =>
    intro i h
    rw [listB, List.mem_append]
    cases i with
    | zero => simp at h; subst h; exact .inl hy
    | succ i => exact .inr (ih i (by simpa using h))
  exact this bs i hg
 have h0 := h _ (hmem _ (by rw [listb]; exact List.mem_cons_self))
 exact ⟨h0.1, h0.2.1, h0.2.2, fun y hy => h y (hmem y (by rw [listb]; exact List.mem_cons_of_mem _ hy))⟩
def CbK (kp : Blk → Bool) (kf : FuncId) (kc : List Value) : Prop := canCall Tryz.prog kf = true ∧ ∀ u x cs, BlkC u x cs → FnP Tryz.prog kf (.agg cs.toArray :: kc) u fun r _ => r = .bool (kp x)
theorem rebb_eq (kp : Blk → Bool) (g : List Inl → List Inl) (k lv : Int) (inf t d ti : Bs) (a : DAttr) (line : List Inl) (kids : List Blk) : rebb kp g (.mk k lv inf t d ti a line kids) = if kp (.mk k lv inf t d ti a line kids) = true then [.mk k lv inf t d ti a (g line) (rebB kp g kids)] else [] := by rw [rebb]
theorem evRb_eq (kp : Blk → Bool) (g : List Inl → List Inl) (k lv : Int) (inf t d ti : Bs) (a : DAttr) (line : List Inl) (kids : List Blk) : evRb kp g (.mk k lv inf t d ti a line kids) = if kp (.mk k lv inf t d ti a line kids) = true then g line ++ evRB kp g kids else [] := by rw [evRb]
set_option maxHeartbeats 8000000 in
theorem rebuild_fn (R : RepI) (kp : Blk → Bool) (kf : FuncId) (kc : List Value) (hK : CbK kp kf kc) (f : FuncId) (caps : List Value) (b0 : Nat) (Y : YI) (hM : ∀ u u' pre o, VLe u u' → Y u pre o → Y u' pre o) (hcF : canCall Tryz.prog f = true) (n : Nat) :
  ∀ (v : Value) (xs : List Blk) (pre : List Inl) (o : OO) (u : View), szB xs ≤ n → szB xs ≤ 100000 → GdB R kp xs → BlkS u v xs → CbR R (.func (.func f) #[] caps.toArray) b0 u Y → Y u pre o →
   FnO Tryz.prog 27 [v, .func (.func kf) #[] kc.toArray, .func (.func f) #[] caps.toArray] u [(some b0, o)] fun r u' l' => BlkS u' r (rebB kp R.g xs) ∧ ∃ o', l' = [(some b0, o')] ∧ Y u' (pre ++ evRB kp R.ev xs) o' := by
 induction n using Nat.strongRecOn with
 | _ n ih =>
 intro v xs pre o u hsz hbig hgd ha hR hY
 have hlx := len_szB xs
 obtain ⟨hcK, hK2⟩ := hK
 obtain ⟨cs, ⟨ad, cap, rfl, h1⟩, hc1⟩ := ha
 refine FnO.intro [.tmp 6] Tryz.func27 rfl rfl rfl ?_
 intro w0 D hw0
 refine Zd (Za (ya rfl rfl (Zf (ρ' := [(0, _), (1, _), (2, _)]) ⟨rfl, rfl, rfl, trivial⟩ ?_)))
 refine Zc (Zd (Za (ya rfl rfl ?_)))
 refine Zch 7 507 59 11 rfl rfl rfl ?_
 refine Zf (ρ' := [(0, _), (1, _), (2, _), (7, _)]) ⟨rfl, rfl, rfl, rfl, trivial⟩ ?_
 refine Zc (Zd (Zd (Za (ym rfl rfl (Zg (Zaq rfl rfl Tryz.s23 rfl) rfl (ym rfl rfl (Zf (ρ' := [(1, _), (2, _), (7, _), (10, _), (11, _), (12, _)]) ⟨rfl, rfl, rfl, rfl, rfl, rfl, trivial⟩ ?_)))))))
 refine Zc (Zad ?_)
 refine Zbc (fun m ρ σ u' => ∃ i : Nat, i + m = xs.length ∧ VLe u u' ∧ ∃ (acc : List Value) (oi : OO), σ = [(507, (none, .row 59 11 (rebB kp R.g (xs.take i)).length acc)), (1000, (some b0, oi))] ∧ ρ = [(1, .v (.func (.func kf) #[] kc.toArray)), (2, .v (.func (.func f) #[] caps.toArray)), (7, .s 507), (10, .v (.slice ad xs.length cap)), (11, .v (.int .i64 xs.length)), (12, .v (.int .i64 i))] ∧ (BlksC u' (rebB kp R.g (xs.take i)) acc ∧ Y u' (pre ++ evRB kp R.ev (xs.take i)) oi)) (xs.length) ?_ ?_
 ·
  refine ⟨[(1, _), (2, _), (7, _), (10, _), (11, _), (12, _)], [(507, _), (1000, _)], ⟨rfl, rfl, rfl, rfl, rfl, rfl, trivial⟩, ⟨rfl, rfl, trivial⟩, 0, by omega, VLe.refl _, [], o, (by simp [rebB]), rfl, ?_⟩
  exact ⟨by rw [List.take_zero, rebB]; exact BlksC.nil, by rw [List.take_zero, evRB, List.append_nil]; exact hY⟩
 ·
  rintro m ρ σ u' ⟨i, hi3, hle3, acc, oi, rfl, rfl, ⟨hacc, hYi⟩⟩
  refine Zd (Za (Zg (Zbn rfl rfl rfl) rfl (Zf (ρ' := [(1, _), (2, _), (7, _), (10, _), (11, _), (12, _), (13, _)]) ⟨rfl, rfl, rfl, rfl, rfl, rfl, rfl, trivial⟩ ?_)))
  refine Zc (Zd ?_)
  refine Zo rfl (fun hb3 => ?_) (fun hb3 => ?_)
  ·
   have hlt : i < xs.length := by have := of_decide_eq_true hb3; omega
   have h1 := h1.mono hle3
   obtain ⟨k, lv, inf, t, d, ti, a, line, kids, vc, vp, vl, vk, hg, hcut1, s1, s2, s3, s4, hok⟩ := (hc1.mono hle3).at hlt
   have hx := (hc1.mono hle3).get i _ hg
   rw [hcut1] at hx
   have oneAll := hx.one
   obtain ⟨hgl, hca, hcp, hgk⟩ := hgd.at hg
   have hbs := rebB_take kp R.g hg
   have hes := evRB_take kp R.ev hg
   rw [rebb_eq] at hbs
   rw [evRb_eq] at hes
   have hszk := szB_kids hg
   have hrl := rebB_len kp R.g (xs.take i)
   have hrk := rebB_len kp R.g kids
   have htl : (xs.take i).length ≤ i := by simp; omega
   have hgll := R.gl line
   have hlll := R.len line hgl
   have hkl := len_szB kids
   refine Zr (Zc (Zd (Zad (Zd (Za (Zg (Zai rfl Tryz.s23 rfl rfl (by assumption) (by first | rfl | omega) (by omega)) rfl (Zg (Zag rfl Tryz.k59 rfl (by assumption) (by omega) (by assumption) (vs := [_, _, _, _, _, _, _, _, _, _, _]) rfl rfl rfl rfl) rfl (Zv rfl rfl ?_))))))))
   refine Zas trivial Tryz.z59 rfl rfl rfl ?_
   refine Zv rfl rfl ?_
   refine Zm trivial rfl Tryz.k59 rfl rfl rfl (vs := [_, _, _, _, _, _, _, _, _, _, _]) rfl rfl (by first | rfl | assumption | simp [Value.oneCell', str]) (Nat.le_of_ble_eq_true rfl) rfl ?_
   refine Zf (ρ' := [(1, _), (2, _), (7, _), (9, _), (10, _), (11, _), (12, _)]) ⟨rfl, rfl, rfl, rfl, rfl, rfl, rfl, trivial⟩ ?_
   refine Zc (Zd (Zd (Za (ym rfl rfl (Zg (Zi rfl Tryz.k59 rfl rfl rfl (vs := [_, _, _, _, _, _, _, _, _, _, _]) rfl rfl rfl) rfl (Zv rfl rfl ?_))))))
   refine Zaa (caps := kc) trivial rfl rfl hcK rfl (FnP.mono (hK2 u' _ _ hx) ?_)
   rintro v u1 hle1 rfl
   refine Zg (Zbr rfl rfl) rfl (Zf (ρ' := [(1, _), (2, _), (7, _), (9, _), (10, _), (11, _), (12, _), (19, _)]) ⟨rfl, rfl, rfl, rfl, rfl, rfl, rfl, rfl, trivial⟩ ?_)
   refine Zc ?_
   refine Zo rfl (fun hb5 => ?_) (fun hb5 => ?_)
   ·
    have h5 : ¬ kp (.mk k lv inf t d ti a line kids) = true := by simpa using hb5
    rw [if_neg h5, List.append_nil] at hbs hes
    refine Zax ?_
    refine Zq ?_
    refine Zaf ?_
    refine Zc (Za (Zg (Zav rfl rfl rfl (Zs (by omega))) rfl ?_))
    refine ym rfl rfl (Zf (ρ' := [(1, _), (2, _), (7, _), (10, _), (11, _), (12, _)]) ⟨rfl, rfl, rfl, rfl, rfl, rfl, trivial⟩ ?_)
    refine Zab ?_
    refine ⟨m - 1, [(1, _), (2, _), (7, _), (10, _), (11, _), (12, _)], [(507, _), (1000, _)], by omega, ⟨rfl, rfl, rfl, rfl, rfl, rfl, trivial⟩, ⟨rfl, rfl, trivial⟩, i + 1, by omega, (by first | exact hle3.trans hlc7 | exact hle3), _, _, (by first | (rw [hbs, List.length_append]; rfl) | (rw [hbs])), (by first | rfl | simp), ?_⟩
    first
     | (refine ⟨?_, ?_⟩; rw [hbs]; exact (hacc.mono hlc7).append (BlksC.one hx7); exact hY7)
     | (refine ⟨?_, ?_⟩; rw [hbs]; exact hacc; rw [hes]; exact hYi)
   ·
    have h5 : kp (.mk k lv inf t d ti a line kids) = true := by simpa using hb5
    rw [if_pos h5] at hbs hes
    refine Zr (Zc ?_)
    refine Zbu (fun ρ σ uc7 => ∃ (w1 w2 : Value) (w3 : Option Addr) (w4 : Nat) (w5 : Option Addr) (w6 : Nat) (o7 : OO), VLe u' uc7 ∧ σ = [(9, (none, .box (blkV k lv inf t d ti a.id w1 w2 (.slice w3 (R.g line).length w4) (.slice w5 (rebB kp R.g kids).length w6)))), (507, (none, .row 59 11 (rebB kp R.g (xs.take i)).length acc)), (1000, (some b0, o7))] ∧ ρ = [(1, .v (.func (.func kf) #[] kc.toArray)), (2, .v (.func (.func f) #[] caps.toArray)), (7, .s 507), (9, .p 9 0), (10, .v (.slice ad xs.length cap)), (11, .v (.int .i64 xs.length)), (12, .v (.int .i64 i))] ∧ (BlkC uc7 (.mk k lv inf t d ti a (R.g line) (rebB kp R.g kids)) (blkV k lv inf t d ti a.id w1 w2 (.slice w3 (R.g line).length w4) (.slice w5 (rebB kp R.g kids).length w6)) ∧ Y uc7 (pre ++ evRB kp R.ev (xs.take (i + 1))) o7)) ?_ ?_
    ·
     refine Zbk Tryz.mixed rfl [] trivial ?_
     refine Zal 0 rfl (by kernel_rfl) (Zb (Ze (Zb (Zb (Ze (Zb (Zp))))))) (Zh rfl Tryz.f59' rfl (by decide) rfl) rfl ?_
     refine Zal 3 rfl (by kernel_rfl) (Zb (Ze (Zb (Zb (Ze (Zb (Zp))))))) (Zh rfl Tryz.f59' rfl (by decide) rfl) rfl ?_
     refine Zal 5 rfl (by kernel_rfl) (Zb (Ze (Zb (Zb (Ze (Zb (Zp))))))) (Zap rfl rfl) rfl ?_
     refine Zal 7 rfl (by kernel_rfl) (Zb (Ze (Zb (Zb (Ze (Zb (Zp))))))) (Zh rfl Tryz.f59' rfl (by decide) rfl) rfl ?_
     refine Zal 9 rfl (by kernel_rfl) (Zb (Ze (Zb (Zb (Ze (Zb (Zp))))))) (Zap rfl rfl) rfl (Zal 10 rfl (by kernel_rfl) (Zb (Ze (Zb (Zb (Ze (Zb (Zp))))))) (Zap rfl rfl) rfl ?_)
     refine ra_all (is := [1, 4, 8]) (by kernel_rfl) rfl ?_
     refine Zaz rfl rfl ?_ ?_
     ·
      refine do_y (Zi rfl Tryz.k39 rfl rfl rfl (vs := [_, _, _]) rfl rfl rfl) rfl ?_
      refine ra_all (is := [2, 4, 8]) (by kernel_rfl) rfl ?_
      refine Zaz rfl rfl ?_ ?_
      ·
       refine Zbm (caps := []) trivial rfl rfl Tryz.c59 rfl (FnP.mono (labCopyAttr_fn a _ _ _ (by omega) (by omega) s1 s2) ?_)
       rintro v uA hle0 ⟨vc3, vp3, rfl, ⟨ad5, cap5, rfl, w1⟩, ⟨ad6, cap6, rfl, w2⟩⟩ hleA
       refine ra_all (is := [4, 8]) (by kernel_rfl) rfl ?_
       refine Zaz rfl rfl ?_ ?_
       ·
        refine do_y (Zi rfl Tryz.k35 rfl rfl rfl (vs := [_]) rfl rfl rfl) rfl ?_
        refine ra_all (is := [6, 8]) (by kernel_rfl) rfl ?_
        refine Zaz rfl rfl ?_ ?_
        ·
         refine Zaj (caps := []) (ρ' := [(1, _), (2, _), (7, _), (9, _), (10, _), (11, _), (12, _), (22, _), (27, _), (29, _), (30, _)]) [1000] [] trivial rfl rfl rfl Tryz.c60 rfl rfl ⟨rfl, rfl, rfl, rfl, rfl, rfl, rfl, rfl, rfl, rfl, rfl, trivial⟩ rfl rfl rfl (FnO.mono (rebLine_fn R f caps b0 Y hM hcF (R.mm line) vl line _ oi uA (Nat.le_refl _) hgl (s3.mono hleA) ((hR.mono hle3).mono hleA) (hM _ _ _ _ hleA hYi)) ?_)
         rintro v uK l1 hleK ⟨⟨lcs, ⟨lad, lcap, rfl, hl1⟩, hl2⟩, oK, rfl, hYK⟩ -
         refine ⟨⟨fun _ h => h, trivial⟩, ?_⟩
         refine Zar (i := 8) rfl rfl (by kernel_rfl) ?_
         refine do_y (Zi rfl Tryz.k23 rfl rfl rfl (vs := [_]) rfl rfl rfl) rfl ?_
         refine Zal 12 rfl (by kernel_rfl) (Zb (Ze (Zb (Zb (Ze (Zb (Zp))))))) (Zh rfl Tryz.f59' rfl (by decide) rfl) rfl ?_
         refine Zar (i := 11) rfl rfl (by kernel_rfl) ?_
         refine Zaj (caps := []) (ρ' := [(1, _), (2, _), (7, _), (9, _), (10, _), (11, _), (12, _), (22, _), (26, _), (32, _)]) [1000] [] trivial rfl rfl rfl Tryz.c27 rfl rfl ⟨rfl, rfl, rfl, rfl, rfl, rfl, rfl, rfl, rfl, rfl, trivial⟩ rfl rfl rfl (FnO.mono (ih (szB kids) (by omega) vk kids _ oK uK (Nat.le_refl _) (by omega) hgk ((s4.mono hleA).mono hleK) (((hR.mono hle3).mono hleA).mono hleK) hYK) ?_)
         rintro v uQ l1 hleQ ⟨⟨kcs, ⟨kad, kcap, rfl, hk1⟩, hk2⟩, oQ, rfl, hYQ⟩ -
         refine ⟨⟨fun _ h => h, trivial⟩, ?_⟩
         refine Zar (i := 13) rfl rfl (by kernel_rfl) ?_
         refine Zm trivial rfl Tryz.k39 rfl rfl rfl (vs := [_, _, _]) rfl rfl (by first | rfl | assumption | simp [Value.oneCell', str]) (Nat.le_of_ble_eq_true rfl) rfl ?_
         refine Zal 14 rfl (by kernel_rfl) (Zb (Ze (Zb (Zb (Ze (Zb (Zp))))))) (Zh rfl Tryz.f59' rfl (by decide) rfl) rfl ?_
         refine Zar (i := 15) rfl rfl (by kernel_rfl) ?_
         refine Zm trivial rfl Tryz.k35 rfl rfl rfl (vs := [_]) rfl rfl (by first | rfl | assumption | simp [Value.oneCell', str]) (Nat.le_of_ble_eq_true rfl) rfl ?_
         refine Zal 16 rfl (by kernel_rfl) (Zb (Ze (Zb (Zb (Ze (Zb (Zp))))))) (Zh rfl Tryz.f59' rfl (by decide) rfl) rfl ?_
         refine Zar (i := 17) rfl rfl (by kernel_rfl) ?_
         refine Zm trivial rfl Tryz.k23 rfl rfl rfl (vs := [_]) rfl rfl (by first | rfl | assumption | simp [Value.oneCell', str]) (Nat.le_of_ble_eq_true rfl) rfl ?_
         refine Zbl (by kernel_rfl) (ρ' := [(1, _), (2, _), (7, _), (9, _), (10, _), (11, _), (12, _)]) ⟨rfl, rfl, rfl, rfl, rfl, rfl, rfl, trivial⟩ ?_
         refine Zab ?_
         refine ⟨[(1, _), (2, _), (7, _), (9, _), (10, _), (11, _), (12, _)], [(9, _), (507, _), (1000, _)], ⟨rfl, rfl, rfl, rfl, rfl, rfl, rfl, trivial⟩, ⟨rfl, rfl, rfl, trivial⟩, _, _, lad, lcap, kad, kcap, oQ, (hleA.trans (hleK.trans hleQ)), (by first | rfl | simp), (by first | rfl | (simp only [List.cons.injEq, Prod.mk.injEq, SV.v.injEq, Value.int.injEq, true_and, and_true]; omega) | simp), ?_⟩
         refine ⟨BlkC.mk' (StrS.mono ⟨_, _, rfl, w1⟩ (hleK.trans hleQ)) (PrS.mono ⟨_, _, rfl, w2⟩ (hleK.trans hleQ)) (InlS.mono ⟨lcs, ⟨lad, lcap, rfl, hl1⟩, hl2⟩ hleQ) ⟨kcs, ⟨kad, kcap, rfl, hk1⟩, hk2⟩ (by obtain ⟨o1, o2, o3, o4, o5, o6, o7, o8, o9⟩ := hok; exact ⟨o1, o2, o3, o4, o5, o6, o7, by omega, by omega⟩), by rw [hes]; simpa [List.append_assoc] using hYQ⟩
        refine Zaz rfl rfl ?_ ?_
        ·
         refine do_y (Zi rfl Tryz.k23 rfl rfl rfl (vs := [_]) rfl rfl rfl) rfl ?_
         refine Zal 12 rfl (by kernel_rfl) (Zb (Ze (Zb (Zb (Ze (Zb (Zp))))))) (Zh rfl Tryz.f59' rfl (by decide) rfl) rfl ?_
         refine Zar (i := 6) rfl rfl (by kernel_rfl) ?_
         refine Zaj (caps := []) (ρ' := [(1, _), (2, _), (7, _), (9, _), (10, _), (11, _), (12, _), (22, _), (28, _), (29, _), (30, _), (32, _)]) [1000] [] trivial rfl rfl rfl Tryz.c60 rfl rfl ⟨rfl, rfl, rfl, rfl, rfl, rfl, rfl, rfl, rfl, rfl, rfl, rfl, trivial⟩ rfl rfl rfl (FnO.mono (rebLine_fn R f caps b0 Y hM hcF (R.mm line) vl line _ oi uA (Nat.le_refl _) hgl (s3.mono hleA) ((hR.mono hle3).mono hleA) (hM _ _ _ _ hleA hYi)) ?_)
         rintro v uK l1 hleK ⟨⟨lcs, ⟨lad, lcap, rfl, hl1⟩, hl2⟩, oK, rfl, hYK⟩ -
         refine ⟨⟨fun _ h => h, trivial⟩, ?_⟩
         refine Zar (i := 11) rfl rfl (by kernel_rfl) ?_
         refine Zaj (caps := []) (ρ' := [(1, _), (2, _), (7, _), (9, _), (10, _), (11, _), (12, _), (22, _), (26, _), (32, _)]) [1000] [] trivial rfl rfl rfl Tryz.c27 rfl rfl ⟨rfl, rfl, rfl, rfl, rfl, rfl, rfl, rfl, rfl, rfl, trivial⟩ rfl rfl rfl (FnO.mono (ih (szB kids) (by omega) vk kids _ oK uK (Nat.le_refl _) (by omega) hgk ((s4.mono hleA).mono hleK) (((hR.mono hle3).mono hleA).mono hleK) hYK) ?_)
         rintro v uQ l1 hleQ ⟨⟨kcs, ⟨kad, kcap, rfl, hk1⟩, hk2⟩, oQ, rfl, hYQ⟩ -
         refine ⟨⟨fun _ h => h, trivial⟩, ?_⟩
         refine Zar (i := 13) rfl rfl (by kernel_rfl) ?_
         refine Zm trivial rfl Tryz.k39 rfl rfl rfl (vs := [_, _, _]) rfl rfl (by first | rfl | assumption | simp [Value.oneCell', str]) (Nat.le_of_ble_eq_true rfl) rfl ?_
         refine Zal 14 rfl (by kernel_rfl) (Zb (Ze (Zb (Zb (Ze (Zb (Zp))))))) (Zh rfl Tryz.f59' rfl (by decide) rfl) rfl ?_
         refine Zar (i := 15) rfl rfl (by kernel_rfl) ?_
         refine Zm trivial rfl Tryz.k35 rfl rfl rfl (vs := [_]) rfl rfl (by first | rfl | assumption | simp [Value.oneCell', str]) (Nat.le_of_ble_eq_true rfl) rfl ?_
         refine Zal 16 rfl (by kernel_rfl) (Zb (Ze (Zb (Zb (Ze (Zb (Zp))))))) (Zh rfl Tryz.f59' rfl (by decide) rfl) rfl ?_
         refine Zar (i := 17) rfl rfl (by kernel_rfl) ?_
         refine Zm trivial rfl Tryz.k23 rfl rfl rfl (vs := [_]) rfl rfl (by first | rfl | assumption | simp [Value.oneCell', str]) (Nat.le_of_ble_eq_true rfl) rfl ?_
         refine Zbl (by kernel_rfl) (ρ' := [(1, _), (2, _), (7, _), (9, _), (10, _), (11, _), (12, _)]) ⟨rfl, rfl, rfl, rfl, rfl, rfl, rfl, trivial⟩ ?_
         refine Zab ?_
         refine ⟨[(1, _), (2, _), (7, _), (9, _), (10, _), (11, _), (12, _)], [(9, _), (507, _), (1000, _)], ⟨rfl, rfl, rfl, rfl, rfl, rfl, rfl, trivial⟩, ⟨rfl, rfl, rfl, trivial⟩, _, _, lad, lcap, kad, kcap, oQ, (hleA.trans (hleK.trans hleQ)), (by first | rfl | simp), (by first | rfl | (simp only [List.cons.injEq, Prod.mk.injEq, SV.v.injEq, Value.int.injEq, true_and, and_true]; omega) | simp), ?_⟩
         refine ⟨BlkC.mk' (StrS.mono ⟨_, _, rfl, w1⟩ (hleK.trans hleQ)) (PrS.mono ⟨_, _, rfl, w2⟩ (hleK.trans hleQ)) (InlS.mono ⟨lcs, ⟨lad, lcap, rfl, hl1⟩, hl2⟩ hleQ) ⟨kcs, ⟨kad, kcap, rfl, hk1⟩, hk2⟩ (by obtain ⟨o1, o2, o3, o4, o5, o6, o7, o8, o9⟩ := hok; exact ⟨o1, o2, o3, o4, o5, o6, o7, by omega, by omega⟩), by rw [hes]; simpa [List.append_assoc] using hYQ⟩
        exact Zbw
       refine Zaz rfl rfl ?_ ?_
       ·
        refine do_y (Zi rfl Tryz.k23 rfl rfl rfl (vs := [_]) rfl rfl rfl) rfl ?_
        refine Zar (i := 4) rfl rfl (by kernel_rfl) ?_
        refine do_y (Zi rfl Tryz.k35 rfl rfl rfl (vs := [_]) rfl rfl rfl) rfl ?_
        refine Zal 12 rfl (by kernel_rfl) (Zb (Ze (Zb (Zb (Ze (Zb (Zp))))))) (Zh rfl Tryz.f59' rfl (by decide) rfl) rfl ?_
        refine Zar (i := 6) rfl rfl (by kernel_rfl) ?_
        refine Zaj (caps := []) (ρ' := [(1, _), (2, _), (7, _), (9, _), (10, _), (11, _), (12, _), (22, _), (28, _), (29, _), (30, _), (32, _)]) [1000] [] trivial rfl rfl rfl Tryz.c60 rfl rfl ⟨rfl, rfl, rfl, rfl, rfl, rfl, rfl, rfl, rfl, rfl, rfl, rfl, trivial⟩ rfl rfl rfl (FnO.mono (rebLine_fn R f caps b0 Y hM hcF (R.mm line) vl line _ oi uA (Nat.le_refl _) hgl (s3.mono hleA) ((hR.mono hle3).mono hleA) (hM _ _ _ _ hleA hYi)) ?_)
        rintro v uK l1 hleK ⟨⟨lcs, ⟨lad, lcap, rfl, hl1⟩, hl2⟩, oK, rfl, hYK⟩ -
        refine ⟨⟨fun _ h => h, trivial⟩, ?_⟩
        refine Zar (i := 11) rfl rfl (by kernel_rfl) ?_
        refine Zaj (caps := []) (ρ' := [(1, _), (2, _), (7, _), (9, _), (10, _), (11, _), (12, _), (22, _), (26, _), (32, _)]) [1000] [] trivial rfl rfl rfl Tryz.c27 rfl rfl ⟨rfl, rfl, rfl, rfl, rfl, rfl, rfl, rfl, rfl, rfl, trivial⟩ rfl rfl rfl (FnO.mono (ih (szB kids) (by omega) vk kids _ oK uK (Nat.le_refl _) (by omega) hgk ((s4.mono hleA).mono hleK) (((hR.mono hle3).mono hleA).mono hleK) hYK) ?_)
        rintro v uQ l1 hleQ ⟨⟨kcs, ⟨kad, kcap, rfl, hk1⟩, hk2⟩, oQ, rfl, hYQ⟩ -
        refine ⟨⟨fun _ h => h, trivial⟩, ?_⟩
        refine Zar (i := 13) rfl rfl (by kernel_rfl) ?_
        refine Zm trivial rfl Tryz.k39 rfl rfl rfl (vs := [_, _, _]) rfl rfl (by first | rfl | assumption | simp [Value.oneCell', str]) (Nat.le_of_ble_eq_true rfl) rfl ?_
        refine Zal 14 rfl (by kernel_rfl) (Zb (Ze (Zb (Zb (Ze (Zb (Zp))))))) (Zh rfl Tryz.f59' rfl (by decide) rfl) rfl ?_
        refine Zar (i := 15) rfl rfl (by kernel_rfl) ?_
        refine Zm trivial rfl Tryz.k35 rfl rfl rfl (vs := [_]) rfl rfl (by first | rfl | assumption | simp [Value.oneCell', str]) (Nat.le_of_ble_eq_true rfl) rfl ?_
        refine Zal 16 rfl (by kernel_rfl) (Zb (Ze (Zb (Zb (Ze (Zb (Zp))))))) (Zh rfl Tryz.f59' rfl (by decide) rfl) rfl ?_
        refine Zar (i := 17) rfl rfl (by kernel_rfl) ?_
        refine Zm trivial rfl Tryz.k23 rfl rfl rfl (vs := [_]) rfl rfl (by first | rfl | assumption | simp [Value.oneCell', str]) (Nat.le_of_ble_eq_true rfl) rfl ?_
        refine Zbl (by kernel_rfl) (ρ' := [(1, _), (2, _), (7, _), (9, _), (10, _), (11, _), (12, _)]) ⟨rfl, rfl, rfl, rfl, rfl, rfl, rfl, trivial⟩ ?_
        refine Zab ?_
        refine ⟨[(1, _), (2, _), (7, _), (9, _), (10, _), (11, _), (12, _)], [(9, _), (507, _), (1000, _)], ⟨rfl, rfl, rfl, rfl, rfl, rfl, rfl, trivial⟩, ⟨rfl, rfl, rfl, trivial⟩, _, _, lad, lcap, kad, kcap, oQ, (hleA.trans (hleK.trans hleQ)), (by first | rfl | simp), (by first | rfl | (simp only [List.cons.injEq, Prod.mk.injEq, SV.v.injEq, Value.int.injEq, true_and, and_true]; omega) | simp), ?_⟩
        refine ⟨BlkC.mk' (StrS.mono ⟨_, _, rfl, w1⟩ (hleK.trans hleQ)) (PrS.mono ⟨_, _, rfl, w2⟩ (hleK.trans hleQ)) (InlS.mono ⟨lcs, ⟨lad, lcap, rfl, hl1⟩, hl2⟩ hleQ) ⟨kcs, ⟨kad, kcap, rfl, hk1⟩, hk2⟩ (by obtain ⟨o1, o2, o3, o4, o5, o6, o7, o8, o9⟩ := hok; exact ⟨o1, o2, o3, o4, o5, o6, o7, by omega, by omega⟩), by rw [hes]; simpa [List.append_assoc] using hYQ⟩
       exact Zbw
      refine Zaz rfl rfl ?_ ?_
      ·
       refine do_y (Zi rfl Tryz.k35 rfl rfl rfl (vs := [_]) rfl rfl rfl) rfl ?_
       refine ra_all (is := [2, 8]) (by kernel_rfl) rfl ?_
       refine Zaz rfl rfl ?_ ?_
       ·
        refine Zbm (caps := []) trivial rfl rfl Tryz.c59 rfl (FnP.mono (labCopyAttr_fn a _ _ _ (by omega) (by omega) s1 s2) ?_)
        rintro v uA hle0 ⟨vc3, vp3, rfl, ⟨ad5, cap5, rfl, w1⟩, ⟨ad6, cap6, rfl, w2⟩⟩ hleA
        refine ra_all (is := [6, 8]) (by kernel_rfl) rfl ?_
        refine Zaz rfl rfl ?_ ?_
        ·
         refine Zaj (caps := []) (ρ' := [(1, _), (2, _), (7, _), (9, _), (10, _), (11, _), (12, _), (22, _), (27, _), (29, _), (30, _)]) [1000] [] trivial rfl rfl rfl Tryz.c60 rfl rfl ⟨rfl, rfl, rfl, rfl, rfl, rfl, rfl, rfl, rfl, rfl, rfl, trivial⟩ rfl rfl rfl (FnO.mono (rebLine_fn R f caps b0 Y hM hcF (R.mm line) vl line _ oi uA (Nat.le_refl _) hgl (s3.mono hleA) ((hR.mono hle3).mono hleA) (hM _ _ _ _ hleA hYi)) ?_)
         rintro v uK l1 hleK ⟨⟨lcs, ⟨lad, lcap, rfl, hl1⟩, hl2⟩, oK, rfl, hYK⟩ -
         refine ⟨⟨fun _ h => h, trivial⟩, ?_⟩
         refine Zar (i := 8) rfl rfl (by kernel_rfl) ?_
         refine do_y (Zi rfl Tryz.k23 rfl rfl rfl (vs := [_]) rfl rfl rfl) rfl ?_
         refine Zal 12 rfl (by kernel_rfl) (Zb (Ze (Zb (Zb (Ze (Zb (Zp))))))) (Zh rfl Tryz.f59' rfl (by decide) rfl) rfl ?_
         refine Zar (i := 11) rfl rfl (by kernel_rfl) ?_
         refine Zaj (caps := []) (ρ' := [(1, _), (2, _), (7, _), (9, _), (10, _), (11, _), (12, _), (22, _), (26, _), (32, _)]) [1000] [] trivial rfl rfl rfl Tryz.c27 rfl rfl ⟨rfl, rfl, rfl, rfl, rfl, rfl, rfl, rfl, rfl, rfl, trivial⟩ rfl rfl rfl (FnO.mono (ih (szB kids) (by omega) vk kids _ oK uK (Nat.le_refl _) (by omega) hgk ((s4.mono hleA).mono hleK) (((hR.mono hle3).mono hleA).mono hleK) hYK) ?_)
         rintro v uQ l1 hleQ ⟨⟨kcs, ⟨kad, kcap, rfl, hk1⟩, hk2⟩, oQ, rfl, hYQ⟩ -
         refine ⟨⟨fun _ h => h, trivial⟩, ?_⟩
         refine Zar (i := 13) rfl rfl (by kernel_rfl) ?_
         refine Zm trivial rfl Tryz.k39 rfl rfl rfl (vs := [_, _, _]) rfl rfl (by first | rfl | assumption | simp [Value.oneCell', str]) (Nat.le_of_ble_eq_true rfl) rfl ?_
         refine Zal 14 rfl (by kernel_rfl) (Zb (Ze (Zb (Zb (Ze (Zb (Zp))))))) (Zh rfl Tryz.f59' rfl (by decide) rfl) rfl ?_
         refine Zar (i := 15) rfl rfl (by kernel_rfl) ?_
         refine Zm trivial rfl Tryz.k35 rfl rfl rfl (vs := [_]) rfl rfl (by first | rfl | assumption | simp [Value.oneCell', str]) (Nat.le_of_ble_eq_true rfl) rfl ?_
         refine Zal 16 rfl (by kernel_rfl) (Zb (Ze (Zb (Zb (Ze (Zb (Zp))))))) (Zh rfl Tryz.f59' rfl (by decide) rfl) rfl ?_
         refine Zar (i := 17) rfl rfl (by kernel_rfl) ?_
         refine Zm trivial rfl Tryz.k23 rfl rfl rfl (vs := [_]) rfl rfl (by first | rfl | assumption | simp [Value.oneCell', str]) (Nat.le_of_ble_eq_true rfl) rfl ?_
         refine Zbl (by kernel_rfl) (ρ' := [(1, _), (2, _), (7, _), (9, _), (10, _), (11, _), (12, _)]) ⟨rfl, rfl, rfl, rfl, rfl, rfl, rfl, trivial⟩ ?_
         refine Zab ?_
         refine ⟨[(1, _), (2, _), (7, _), (9, _), (10, _), (11, _), (12, _)], [(9, _), (507, _), (1000, _)], ⟨rfl, rfl, rfl, rfl, rfl, rfl, rfl, trivial⟩, ⟨rfl, rfl, rfl, trivial⟩, _, _, lad, lcap, kad, kcap, oQ, (hleA.trans (hleK.trans hleQ)), (by first | rfl | simp), (by first | rfl | (simp only [List.cons.injEq, Prod.mk.injEq, SV.v.injEq, Value.int.injEq, true_and, and_true]; omega) | simp), ?_⟩
         refine ⟨BlkC.mk' (StrS.mono ⟨_, _, rfl, w1⟩ (hleK.trans hleQ)) (PrS.mono ⟨_, _, rfl, w2⟩ (hleK.trans hleQ)) (InlS.mono ⟨lcs, ⟨lad, lcap, rfl, hl1⟩, hl2⟩ hleQ) ⟨kcs, ⟨kad, kcap, rfl, hk1⟩, hk2⟩ (by obtain ⟨o1, o2, o3, o4, o5, o6, o7, o8, o9⟩ := hok; exact ⟨o1, o2, o3, o4, o5, o6, o7, by omega, by omega⟩), by rw [hes]; simpa [List.append_assoc] using hYQ⟩
        refine Zaz rfl rfl ?_ ?_
        ·
         refine do_y (Zi rfl Tryz.k23 rfl rfl rfl (vs := [_]) rfl rfl rfl) rfl ?_
         refine Zal 12 rfl (by kernel_rfl) (Zb (Ze (Zb (Zb (Ze (Zb (Zp))))))) (Zh rfl Tryz.f59' rfl (by decide) rfl) rfl ?_
         refine Zar (i := 6) rfl rfl (by kernel_rfl) ?_
         refine Zaj (caps := []) (ρ' := [(1, _), (2, _), (7, _), (9, _), (10, _), (11, _), (12, _), (22, _), (28, _), (29, _), (30, _), (32, _)]) [1000] [] trivial rfl rfl rfl Tryz.c60 rfl rfl ⟨rfl, rfl, rfl, rfl, rfl, rfl, rfl, rfl, rfl, rfl, rfl, rfl, trivial⟩ rfl rfl rfl (FnO.mono (rebLine_fn R f caps b0 Y hM hcF (R.mm line) vl line _ oi uA (Nat.le_refl _) hgl (s3.mono hleA) ((hR.mono hle3).mono hleA) (hM _ _ _ _ hleA hYi)) ?_)
         rintro v uK l1 hleK ⟨⟨lcs, ⟨lad, lcap, rfl, hl1⟩, hl2⟩, oK, rfl, hYK⟩ -
         refine ⟨⟨fun _ h => h, trivial⟩, ?_⟩
         refine Zar (i := 11) rfl rfl (by kernel_rfl) ?_
         refine Zaj (caps := []) (ρ' := [(1, _), (2, _), (7, _), (9, _), (10, _), (11, _), (12, _), (22, _), (26, _), (32, _)]) [1000] [] trivial rfl rfl rfl Tryz.c27 rfl rfl ⟨rfl, rfl, rfl, rfl, rfl, rfl, rfl, rfl, rfl, rfl, trivial⟩ rfl rfl rfl (FnO.mono (ih (szB kids) (by omega) vk kids _ oK uK (Nat.le_refl _) (by omega) hgk ((s4.mono hleA).mono hleK) (((hR.mono hle3).mono hleA).mono hleK) hYK) ?_)
         rintro v uQ l1 hleQ ⟨⟨kcs, ⟨kad, kcap, rfl, hk1⟩, hk2⟩, oQ, rfl, hYQ⟩ -
         refine ⟨⟨fun _ h => h, trivial⟩, ?_⟩
         refine Zar (i := 13) rfl rfl (by kernel_rfl) ?_
         refine Zm trivial rfl Tryz.k39 rfl rfl rfl (vs := [_, _, _]) rfl rfl (by first | rfl | assumption | simp [Value.oneCell', str]) (Nat.le_of_ble_eq_true rfl) rfl ?_
         refine Zal 14 rfl (by kernel_rfl) (Zb (Ze (Zb (Zb (Ze (Zb (Zp))))))) (Zh rfl Tryz.f59' rfl (by decide) rfl) rfl ?_
         refine Zar (i := 15) rfl rfl (by kernel_rfl) ?_
         refine Zm trivial rfl Tryz.k35 rfl rfl rfl (vs := [_]) rfl rfl (by first | rfl | assumption | simp [Value.oneCell', str]) (Nat.le_of_ble_eq_true rfl) rfl ?_
         refine Zal 16 rfl (by kernel_rfl) (Zb (Ze (Zb (Zb (Ze (Zb (Zp))))))) (Zh rfl Tryz.f59' rfl (by decide) rfl) rfl ?_
         refine Zar (i := 17) rfl rfl (by kernel_rfl) ?_
         refine Zm trivial rfl Tryz.k23 rfl rfl rfl (vs := [_]) rfl rfl (by first | rfl | assumption | simp [Value.oneCell', str]) (Nat.le_of_ble_eq_true rfl) rfl ?_
         refine Zbl (by kernel_rfl) (ρ' := [(1, _), (2, _), (7, _), (9, _), (10, _), (11, _), (12, _)]) ⟨rfl, rfl, rfl, rfl, rfl, rfl, rfl, trivial⟩ ?_
         refine Zab ?_
         refine ⟨[(1, _), (2, _), (7, _), (9, _), (10, _), (11, _), (12, _)], [(9, _), (507, _), (1000, _)], ⟨rfl, rfl, rfl, rfl, rfl, rfl, rfl, trivial⟩, ⟨rfl, rfl, rfl, trivial⟩, _, _, lad, lcap, kad, kcap, oQ, (hleA.trans (hleK.trans hleQ)), (by first | rfl | simp), (by first | rfl | (simp only [List.cons.injEq, Prod.mk.injEq, SV.v.injEq, Value.int.injEq, true_and, and_true]; omega) | simp), ?_⟩
         refine ⟨BlkC.mk' (StrS.mono ⟨_, _, rfl, w1⟩ (hleK.trans hleQ)) (PrS.mono ⟨_, _, rfl, w2⟩ (hleK.trans hleQ)) (InlS.mono ⟨lcs, ⟨lad, lcap, rfl, hl1⟩, hl2⟩ hleQ) ⟨kcs, ⟨kad, kcap, rfl, hk1⟩, hk2⟩ (by obtain ⟨o1, o2, o3, o4, o5, o6, o7, o8, o9⟩ := hok; exact ⟨o1, o2, o3, o4, o5, o6, o7, by omega, by omega⟩), by rw [hes]; simpa [List.append_assoc] using hYQ⟩
        exact Zbw
       refine Zaz rfl rfl ?_ ?_
       ·
        refine do_y (Zi rfl Tryz.k23 rfl rfl rfl (vs := [_]) rfl rfl rfl) rfl ?_
        refine Zar (i := 2) rfl rfl (by kernel_rfl) ?_
        refine Zbm (caps := []) trivial rfl rfl Tryz.c59 rfl (FnP.mono (labCopyAttr_fn a _ _ _ (by omega) (by omega) s1 s2) ?_)
        rintro v uA hle0 ⟨vc3, vp3, rfl, ⟨ad5, cap5, rfl, w1⟩, ⟨ad6, cap6, rfl, w2⟩⟩ hleA
        refine Zal 12 rfl (by kernel_rfl) (Zb (Ze (Zb (Zb (Ze (Zb (Zp))))))) (Zh rfl Tryz.f59' rfl (by decide) rfl) rfl ?_
        refine Zar (i := 6) rfl rfl (by kernel_rfl) ?_
        refine Zaj (caps := []) (ρ' := [(1, _), (2, _), (7, _), (9, _), (10, _), (11, _), (12, _), (22, _), (28, _), (29, _), (30, _), (32, _)]) [1000] [] trivial rfl rfl rfl Tryz.c60 rfl rfl ⟨rfl, rfl, rfl, rfl, rfl, rfl, rfl, rfl, rfl, rfl, rfl, rfl, trivial⟩ rfl rfl rfl (FnO.mono (rebLine_fn R f caps b0 Y hM hcF (R.mm line) vl line _ oi uA (Nat.le_refl _) hgl (s3.mono hleA) ((hR.mono hle3).mono hleA) (hM _ _ _ _ hleA hYi)) ?_)
        rintro v uK l1 hleK ⟨⟨lcs, ⟨lad, lcap, rfl, hl1⟩, hl2⟩, oK, rfl, hYK⟩ -
        refine ⟨⟨fun _ h => h, trivial⟩, ?_⟩
        refine Zar (i := 11) rfl rfl (by kernel_rfl) ?_
        refine Zaj (caps := []) (ρ' := [(1, _), (2, _), (7, _), (9, _), (10, _), (11, _), (12, _), (22, _), (26, _), (32, _)]) [1000] [] trivial rfl rfl rfl Tryz.c27 rfl rfl ⟨rfl, rfl, rfl, rfl, rfl, rfl, rfl, rfl, rfl, rfl, trivial⟩ rfl rfl rfl (FnO.mono (ih (szB kids) (by omega) vk kids _ oK uK (Nat.le_refl _) (by omega) hgk ((s4.mono hleA).mono hleK) (((hR.mono hle3).mono hleA).mono hleK) hYK) ?_)
        rintro v uQ l1 hleQ ⟨⟨kcs, ⟨kad, kcap, rfl, hk1⟩, hk2⟩, oQ, rfl, hYQ⟩ -
        refine ⟨⟨fun _ h => h, trivial⟩, ?_⟩
        refine Zar (i := 13) rfl rfl (by kernel_rfl) ?_
        refine Zm trivial rfl Tryz.k39 rfl rfl rfl (vs := [_, _, _]) rfl rfl (by first | rfl | assumption | simp [Value.oneCell', str]) (Nat.le_of_ble_eq_true rfl) rfl ?_
        refine Zal 14 rfl (by kernel_rfl) (Zb (Ze (Zb (Zb (Ze (Zb (Zp))))))) (Zh rfl Tryz.f59' rfl (by decide) rfl) rfl ?_
        refine Zar (i := 15) rfl rfl (by kernel_rfl) ?_
        refine Zm trivial rfl Tryz.k35 rfl rfl rfl (vs := [_]) rfl rfl (by first | rfl | assumption | simp [Value.oneCell', str]) (Nat.le_of_ble_eq_true rfl) rfl ?_
        refine Zal 16 rfl (by kernel_rfl) (Zb (Ze (Zb (Zb (Ze (Zb (Zp))))))) (Zh rfl Tryz.f59' rfl (by decide) rfl) rfl ?_
        refine Zar (i := 17) rfl rfl (by kernel_rfl) ?_
        refine Zm trivial rfl Tryz.k23 rfl rfl rfl (vs := [_]) rfl rfl (by first | rfl | assumption | simp [Value.oneCell', str]) (Nat.le_of_ble_eq_true rfl) rfl ?_
        refine Zbl (by kernel_rfl) (ρ' := [(1, _), (2, _), (7, _), (9, _), (10, _), (11, _), (12, _)]) ⟨rfl, rfl, rfl, rfl, rfl, rfl, rfl, trivial⟩ ?_
        refine Zab ?_
        refine ⟨[(1, _), (2, _), (7, _), (9, _), (10, _), (11, _), (12, _)], [(9, _), (507, _), (1000, _)], ⟨rfl, rfl, rfl, rfl, rfl, rfl, rfl, trivial⟩, ⟨rfl, rfl, rfl, trivial⟩, _, _, lad, lcap, kad, kcap, oQ, (hleA.trans (hleK.trans hleQ)), (by first | rfl | simp), (by first | rfl | (simp only [List.cons.injEq, Prod.mk.injEq, SV.v.injEq, Value.int.injEq, true_and, and_true]; omega) | simp), ?_⟩
        refine ⟨BlkC.mk' (StrS.mono ⟨_, _, rfl, w1⟩ (hleK.trans hleQ)) (PrS.mono ⟨_, _, rfl, w2⟩ (hleK.trans hleQ)) (InlS.mono ⟨lcs, ⟨lad, lcap, rfl, hl1⟩, hl2⟩ hleQ) ⟨kcs, ⟨kad, kcap, rfl, hk1⟩, hk2⟩ (by obtain ⟨o1, o2, o3, o4, o5, o6, o7, o8, o9⟩ := hok; exact ⟨o1, o2, o3, o4, o5, o6, o7, by omega, by omega⟩), by rw [hes]; simpa [List.append_assoc] using hYQ⟩
       exact Zbw
      refine Zaz rfl rfl ?_ ?_
      ·
       refine do_y (Zi rfl Tryz.k23 rfl rfl rfl (vs := [_]) rfl rfl rfl) rfl ?_
       refine ra_all (is := [2, 4]) (by kernel_rfl) rfl ?_
       refine Zaz rfl rfl ?_ ?_
       ·
        refine Zbm (caps := []) trivial rfl rfl Tryz.c59 rfl (FnP.mono (labCopyAttr_fn a _ _ _ (by omega) (by omega) s1 s2) ?_)
        rintro v uA hle0 ⟨vc3, vp3, rfl, ⟨ad5, cap5, rfl, w1⟩, ⟨ad6, cap6, rfl, w2⟩⟩ hleA
        refine Zar (i := 4) rfl rfl (by kernel_rfl) ?_
        refine do_y (Zi rfl Tryz.k35 rfl rfl rfl (vs := [_]) rfl rfl rfl) rfl ?_
        refine Zal 12 rfl (by kernel_rfl) (Zb (Ze (Zb (Zb (Ze (Zb (Zp))))))) (Zh rfl Tryz.f59' rfl (by decide) rfl) rfl ?_
        refine Zar (i := 6) rfl rfl (by kernel_rfl) ?_
        refine Zaj (caps := []) (ρ' := [(1, _), (2, _), (7, _), (9, _), (10, _), (11, _), (12, _), (22, _), (28, _), (29, _), (30, _), (32, _)]) [1000] [] trivial rfl rfl rfl Tryz.c60 rfl rfl ⟨rfl, rfl, rfl, rfl, rfl, rfl, rfl, rfl, rfl, rfl, rfl, rfl, trivial⟩ rfl rfl rfl (FnO.mono (rebLine_fn R f caps b0 Y hM hcF (R.mm line) vl line _ oi uA (Nat.le_refl _) hgl (s3.mono hleA) ((hR.mono hle3).mono hleA) (hM _ _ _ _ hleA hYi)) ?_)
        rintro v uK l1 hleK ⟨⟨lcs, ⟨lad, lcap, rfl, hl1⟩, hl2⟩, oK, rfl, hYK⟩ -
        refine ⟨⟨fun _ h => h, trivial⟩, ?_⟩
        refine Zar (i := 11) rfl rfl (by kernel_rfl) ?_
        refine Zaj (caps := []) (ρ' := [(1, _), (2, _), (7, _), (9, _), (10, _), (11, _), (12, _), (22, _), (26, _), (32, _)]) [1000] [] trivial rfl rfl rfl Tryz.c27 rfl rfl ⟨rfl, rfl, rfl, rfl, rfl, rfl, rfl, rfl, rfl, rfl, trivial⟩ rfl rfl rfl (FnO.mono (ih (szB kids) (by omega) vk kids _ oK uK (Nat.le_refl _) (by omega) hgk ((s4.mono hleA).mono hleK) (((hR.mono hle3).mono hleA).mono hleK) hYK) ?_)
        rintro v uQ l1 hleQ ⟨⟨kcs, ⟨kad, kcap, rfl, hk1⟩, hk2⟩, oQ, rfl, hYQ⟩ -
        refine ⟨⟨fun _ h => h, trivial⟩, ?_⟩
        refine Zar (i := 13) rfl rfl (by kernel_rfl) ?_
        refine Zm trivial rfl Tryz.k39 rfl rfl rfl (vs := [_, _, _]) rfl rfl (by first | rfl | assumption | simp [Value.oneCell', str]) (Nat.le_of_ble_eq_true rfl) rfl ?_
        refine Zal 14 rfl (by kernel_rfl) (Zb (Ze (Zb (Zb (Ze (Zb (Zp))))))) (Zh rfl Tryz.f59' rfl (by decide) rfl) rfl ?_
        refine Zar (i := 15) rfl rfl (by kernel_rfl) ?_
        refine Zm trivial rfl Tryz.k35 rfl rfl rfl (vs := [_]) rfl rfl (by first | rfl | assumption | simp [Value.oneCell', str]) (Nat.le_of_ble_eq_true rfl) rfl ?_
        refine Zal 16 rfl (by kernel_rfl) (Zb (Ze (Zb (Zb (Ze (Zb (Zp))))))) (Zh rfl Tryz.f59' rfl (by decide) rfl) rfl ?_
        refine Zar (i := 17) rfl rfl (by kernel_rfl) ?_
        refine Zm trivial rfl Tryz.k23 rfl rfl rfl (vs := [_]) rfl rfl (by first | rfl | assumption | simp [Value.oneCell', str]) (Nat.le_of_ble_eq_true rfl) rfl ?_
        refine Zbl (by kernel_rfl) (ρ' := [(1, _), (2, _), (7, _), (9, _), (10, _), (11, _), (12, _)]) ⟨rfl, rfl, rfl, rfl, rfl, rfl, rfl, trivial⟩ ?_
        refine Zab ?_
        refine ⟨[(1, _), (2, _), (7, _), (9, _), (10, _), (11, _), (12, _)], [(9, _), (507, _), (1000, _)], ⟨rfl, rfl, rfl, rfl, rfl, rfl, rfl, trivial⟩, ⟨rfl, rfl, rfl, trivial⟩, _, _, lad, lcap, kad, kcap, oQ, (hleA.trans (hleK.trans hleQ)), (by first | rfl | simp), (by first | rfl | (simp only [List.cons.injEq, Prod.mk.injEq, SV.v.injEq, Value.int.injEq, true_and, and_true]; omega) | simp), ?_⟩
        refine ⟨BlkC.mk' (StrS.mono ⟨_, _, rfl, w1⟩ (hleK.trans hleQ)) (PrS.mono ⟨_, _, rfl, w2⟩ (hleK.trans hleQ)) (InlS.mono ⟨lcs, ⟨lad, lcap, rfl, hl1⟩, hl2⟩ hleQ) ⟨kcs, ⟨kad, kcap, rfl, hk1⟩, hk2⟩ (by obtain ⟨o1, o2, o3, o4, o5, o6, o7, o8, o9⟩ := hok; exact ⟨o1, o2, o3, o4, o5, o6, o7, by omega, by omega⟩), by rw [hes]; simpa [List.append_assoc] using hYQ⟩
       refine Zaz rfl rfl ?_ ?_
       ·
        refine do_y (Zi rfl Tryz.k35 rfl rfl rfl (vs := [_]) rfl rfl rfl) rfl ?_
        refine Zar (i := 2) rfl rfl (by kernel_rfl) ?_
        refine Zbm (caps := []) trivial rfl rfl Tryz.c59 rfl (FnP.mono (labCopyAttr_fn a _ _ _ (by omega) (by omega) s1 s2) ?_)
        rintro v uA hle0 ⟨vc3, vp3, rfl, ⟨ad5, cap5, rfl, w1⟩, ⟨ad6, cap6, rfl, w2⟩⟩ hleA
        refine Zal 12 rfl (by kernel_rfl) (Zb (Ze (Zb (Zb (Ze (Zb (Zp))))))) (Zh rfl Tryz.f59' rfl (by decide) rfl) rfl ?_
        refine Zar (i := 6) rfl rfl (by kernel_rfl) ?_
        refine Zaj (caps := []) (ρ' := [(1, _), (2, _), (7, _), (9, _), (10, _), (11, _), (12, _), (22, _), (28, _), (29, _), (30, _), (32, _)]) [1000] [] trivial rfl rfl rfl Tryz.c60 rfl rfl ⟨rfl, rfl, rfl, rfl, rfl, rfl, rfl, rfl, rfl, rfl, rfl, rfl, trivial⟩ rfl rfl rfl (FnO.mono (rebLine_fn R f caps b0 Y hM hcF (R.mm line) vl line _ oi uA (Nat.le_refl _) hgl (s3.mono hleA) ((hR.mono hle3).mono hleA) (hM _ _ _ _ hleA hYi)) ?_)
        rintro v uK l1 hleK ⟨⟨lcs, ⟨lad, lcap, rfl, hl1⟩, hl2⟩, oK, rfl, hYK⟩ -
        refine ⟨⟨fun _ h => h, trivial⟩, ?_⟩
        refine Zar (i := 11) rfl rfl (by kernel_rfl) ?_
        refine Zaj (caps := []) (ρ' := [(1, _), (2, _), (7, _), (9, _), (10, _), (11, _), (12, _), (22, _), (26, _), (32, _)]) [1000] [] trivial rfl rfl rfl Tryz.c27 rfl rfl ⟨rfl, rfl, rfl, rfl, rfl, rfl, rfl, rfl, rfl, rfl, trivial⟩ rfl rfl rfl (FnO.mono (ih (szB kids) (by omega) vk kids _ oK uK (Nat.le_refl _) (by omega) hgk ((s4.mono hleA).mono hleK) (((hR.mono hle3).mono hleA).mono hleK) hYK) ?_)
        rintro v uQ l1 hleQ ⟨⟨kcs, ⟨kad, kcap, rfl, hk1⟩, hk2⟩, oQ, rfl, hYQ⟩ -
        refine ⟨⟨fun _ h => h, trivial⟩, ?_⟩
        refine Zar (i := 13) rfl rfl (by kernel_rfl) ?_
        refine Zm trivial rfl Tryz.k39 rfl rfl rfl (vs := [_, _, _]) rfl rfl (by first | rfl | assumption | simp [Value.oneCell', str]) (Nat.le_of_ble_eq_true rfl) rfl ?_
        refine Zal 14 rfl (by kernel_rfl) (Zb (Ze (Zb (Zb (Ze (Zb (Zp))))))) (Zh rfl Tryz.f59' rfl (by decide) rfl) rfl ?_
        refine Zar (i := 15) rfl rfl (by kernel_rfl) ?_
        refine Zm trivial rfl Tryz.k35 rfl rfl rfl (vs := [_]) rfl rfl (by first | rfl | assumption | simp [Value.oneCell', str]) (Nat.le_of_ble_eq_true rfl) rfl ?_
        refine Zal 16 rfl (by kernel_rfl) (Zb (Ze (Zb (Zb (Ze (Zb (Zp))))))) (Zh rfl Tryz.f59' rfl (by decide) rfl) rfl ?_
        refine Zar (i := 17) rfl rfl (by kernel_rfl) ?_
        refine Zm trivial rfl Tryz.k23 rfl rfl rfl (vs := [_]) rfl rfl (by first | rfl | assumption | simp [Value.oneCell', str]) (Nat.le_of_ble_eq_true rfl) rfl ?_
        refine Zbl (by kernel_rfl) (ρ' := [(1, _), (2, _), (7, _), (9, _), (10, _), (11, _), (12, _)]) ⟨rfl, rfl, rfl, rfl, rfl, rfl, rfl, trivial⟩ ?_
        refine Zab ?_
        refine ⟨[(1, _), (2, _), (7, _), (9, _), (10, _), (11, _), (12, _)], [(9, _), (507, _), (1000, _)], ⟨rfl, rfl, rfl, rfl, rfl, rfl, rfl, trivial⟩, ⟨rfl, rfl, rfl, trivial⟩, _, _, lad, lcap, kad, kcap, oQ, (hleA.trans (hleK.trans hleQ)), (by first | rfl | simp), (by first | rfl | (simp only [List.cons.injEq, Prod.mk.injEq, SV.v.injEq, Value.int.injEq, true_and, and_true]; omega) | simp), ?_⟩
        refine ⟨BlkC.mk' (StrS.mono ⟨_, _, rfl, w1⟩ (hleK.trans hleQ)) (PrS.mono ⟨_, _, rfl, w2⟩ (hleK.trans hleQ)) (InlS.mono ⟨lcs, ⟨lad, lcap, rfl, hl1⟩, hl2⟩ hleQ) ⟨kcs, ⟨kad, kcap, rfl, hk1⟩, hk2⟩ (by obtain ⟨o1, o2, o3, o4, o5, o6, o7, o8, o9⟩ := hok; exact ⟨o1, o2, o3, o4, o5, o6, o7, by omega, by omega⟩), by rw [hes]; simpa [List.append_assoc] using hYQ⟩
       exact Zbw
      exact Zbw
     refine Zaz rfl rfl ?_ ?_
     ·
      refine do_y (Zi rfl Tryz.k35 rfl rfl rfl (vs := [_]) rfl rfl rfl) rfl ?_
      refine ra_all (is := [1, 8]) (by kernel_rfl) rfl ?_
      refine Zaz rfl rfl ?_ ?_
      ·
       refine do_y (Zi rfl Tryz.k39 rfl rfl rfl (vs := [_, _, _]) rfl rfl rfl) rfl ?_
       refine ra_all (is := [2, 8]) (by kernel_rfl) rfl ?_
       refine Zaz rfl rfl ?_ ?_
       ·
        refine Zbm (caps := []) trivial rfl rfl Tryz.c59 rfl (FnP.mono (labCopyAttr_fn a _ _ _ (by omega) (by omega) s1 s2) ?_)
        rintro v uA hle0 ⟨vc3, vp3, rfl, ⟨ad5, cap5, rfl, w1⟩, ⟨ad6, cap6, rfl, w2⟩⟩ hleA
        refine ra_all (is := [6, 8]) (by kernel_rfl) rfl ?_
        refine Zaz rfl rfl ?_ ?_
        ·
         refine Zaj (caps := []) (ρ' := [(1, _), (2, _), (7, _), (9, _), (10, _), (11, _), (12, _), (22, _), (27, _), (29, _), (30, _)]) [1000] [] trivial rfl rfl rfl Tryz.c60 rfl rfl ⟨rfl, rfl, rfl, rfl, rfl, rfl, rfl, rfl, rfl, rfl, rfl, trivial⟩ rfl rfl rfl (FnO.mono (rebLine_fn R f caps b0 Y hM hcF (R.mm line) vl line _ oi uA (Nat.le_refl _) hgl (s3.mono hleA) ((hR.mono hle3).mono hleA) (hM _ _ _ _ hleA hYi)) ?_)
         rintro v uK l1 hleK ⟨⟨lcs, ⟨lad, lcap, rfl, hl1⟩, hl2⟩, oK, rfl, hYK⟩ -
         refine ⟨⟨fun _ h => h, trivial⟩, ?_⟩
         refine Zar (i := 8) rfl rfl (by kernel_rfl) ?_
         refine do_y (Zi rfl Tryz.k23 rfl rfl rfl (vs := [_]) rfl rfl rfl) rfl ?_
         refine Zal 12 rfl (by kernel_rfl) (Zb (Ze (Zb (Zb (Ze (Zb (Zp))))))) (Zh rfl Tryz.f59' rfl (by decide) rfl) rfl ?_
         refine Zar (i := 11) rfl rfl (by kernel_rfl) ?_
         refine Zaj (caps := []) (ρ' := [(1, _), (2, _), (7, _), (9, _), (10, _), (11, _), (12, _), (22, _), (26, _), (32, _)]) [1000] [] trivial rfl rfl rfl Tryz.c27 rfl rfl ⟨rfl, rfl, rfl, rfl, rfl, rfl, rfl, rfl, rfl, rfl, trivial⟩ rfl rfl rfl (FnO.mono (ih (szB kids) (by omega) vk kids _ oK uK (Nat.le_refl _) (by omega) hgk ((s4.mono hleA).mono hleK) (((hR.mono hle3).mono hleA).mono hleK) hYK) ?_)
         rintro v uQ l1 hleQ ⟨⟨kcs, ⟨kad, kcap, rfl, hk1⟩, hk2⟩, oQ, rfl, hYQ⟩ -
         refine ⟨⟨fun _ h => h, trivial⟩, ?_⟩
         refine Zar (i := 13) rfl rfl (by kernel_rfl) ?_
         refine Zm trivial rfl Tryz.k39 rfl rfl rfl (vs := [_, _, _]) rfl rfl (by first | rfl | assumption | simp [Value.oneCell', str]) (Nat.le_of_ble_eq_true rfl) rfl ?_
         refine Zal 14 rfl (by kernel_rfl) (Zb (Ze (Zb (Zb (Ze (Zb (Zp))))))) (Zh rfl Tryz.f59' rfl (by decide) rfl) rfl ?_
         refine Zar (i := 15) rfl rfl (by kernel_rfl) ?_
         refine Zm trivial rfl Tryz.k35 rfl rfl rfl (vs := [_]) rfl rfl (by first | rfl | assumption | simp [Value.oneCell', str]) (Nat.le_of_ble_eq_true rfl) rfl ?_
         refine Zal 16 rfl (by kernel_rfl) (Zb (Ze (Zb (Zb (Ze (Zb (Zp))))))) (Zh rfl Tryz.f59' rfl (by decide) rfl) rfl ?_
         refine Zar (i := 17) rfl rfl (by kernel_rfl) ?_
         refine Zm trivial rfl Tryz.k23 rfl rfl rfl (vs := [_]) rfl rfl (by first | rfl | assumption | simp [Value.oneCell', str]) (Nat.le_of_ble_eq_true rfl) rfl ?_
         refine Zbl (by kernel_rfl) (ρ' := [(1, _), (2, _), (7, _), (9, _), (10, _), (11, _), (12, _)]) ⟨rfl, rfl, rfl, rfl, rfl, rfl, rfl, trivial⟩ ?_
         refine Zab ?_
         refine ⟨[(1, _), (2, _), (7, _), (9, _), (10, _), (11, _), (12, _)], [(9, _), (507, _), (1000, _)], ⟨rfl, rfl, rfl, rfl, rfl, rfl, rfl, trivial⟩, ⟨rfl, rfl, rfl, trivial⟩, _, _, lad, lcap, kad, kcap, oQ, (hleA.trans (hleK.trans hleQ)), (by first | rfl | simp), (by first | rfl | (simp only [List.cons.injEq, Prod.mk.injEq, SV.v.injEq, Value.int.injEq, true_and, and_true]; omega) | simp), ?_⟩
         refine ⟨BlkC.mk' (StrS.mono ⟨_, _, rfl, w1⟩ (hleK.trans hleQ)) (PrS.mono ⟨_, _, rfl, w2⟩ (hleK.trans hleQ)) (InlS.mono ⟨lcs, ⟨lad, lcap, rfl, hl1⟩, hl2⟩ hleQ) ⟨kcs, ⟨kad, kcap, rfl, hk1⟩, hk2⟩ (by obtain ⟨o1, o2, o3, o4, o5, o6, o7, o8, o9⟩ := hok; exact ⟨o1, o2, o3, o4, o5, o6, o7, by omega, by omega⟩), by rw [hes]; simpa [List.append_assoc] using hYQ⟩
        refine Zaz rfl rfl ?_ ?_
        ·
         refine do_y (Zi rfl Tryz.k23 rfl rfl rfl (vs := [_]) rfl rfl rfl) rfl ?_
         refine Zal 12 rfl (by kernel_rfl) (Zb (Ze (Zb (Zb (Ze (Zb (Zp))))))) (Zh rfl Tryz.f59' rfl (by decide) rfl) rfl ?_
         refine Zar (i := 6) rfl rfl (by kernel_rfl) ?_
         refine Zaj (caps := []) (ρ' := [(1, _), (2, _), (7, _), (9, _), (10, _), (11, _), (12, _), (22, _), (28, _), (29, _), (30, _), (32, _)]) [1000] [] trivial rfl rfl rfl Tryz.c60 rfl rfl ⟨rfl, rfl, rfl, rfl, rfl, rfl, rfl, rfl, rfl, rfl, rfl, rfl, trivial⟩ rfl rfl rfl (FnO.mono (rebLine_fn R f caps b0 Y hM hcF (R.mm line) vl line _ oi uA (Nat.le_refl _) hgl (s3.mono hleA) ((hR.mono hle3).mono hleA) (hM _ _ _ _ hleA hYi)) ?_)
         rintro v uK l1 hleK ⟨⟨lcs, ⟨lad, lcap, rfl, hl1⟩, hl2⟩, oK, rfl, hYK⟩ -
         refine ⟨⟨fun _ h => h, trivial⟩, ?_⟩
         refine Zar (i := 11) rfl rfl (by kernel_rfl) ?_
         refine Zaj (caps := []) (ρ' := [(1, _), (2, _), (7, _), (9, _), (10, _), (11, _), (12, _), (22, _), (26, _), (32, _)]) [1000] [] trivial rfl rfl rfl Tryz.c27 rfl rfl ⟨rfl, rfl, rfl, rfl, rfl, rfl, rfl, rfl, rfl, rfl, trivial⟩ rfl rfl rfl (FnO.mono (ih (szB kids) (by omega) vk kids _ oK uK (Nat.le_refl _) (by omega) hgk ((s4.mono hleA).mono hleK) (((hR.mono hle3).mono hleA).mono hleK) hYK) ?_)
         rintro v uQ l1 hleQ ⟨⟨kcs, ⟨kad, kcap, rfl, hk1⟩, hk2⟩, oQ, rfl, hYQ⟩ -
         refine ⟨⟨fun _ h => h, trivial⟩, ?_⟩
         refine Zar (i := 13) rfl rfl (by kernel_rfl) ?_
         refine Zm trivial rfl Tryz.k39 rfl rfl rfl (vs := [_, _, _]) rfl rfl (by first | rfl | assumption | simp [Value.oneCell', str]) (Nat.le_of_ble_eq_true rfl) rfl ?_
         refine Zal 14 rfl (by kernel_rfl) (Zb (Ze (Zb (Zb (Ze (Zb (Zp))))))) (Zh rfl Tryz.f59' rfl (by decide) rfl) rfl ?_
         refine Zar (i := 15) rfl rfl (by kernel_rfl) ?_
         refine Zm trivial rfl Tryz.k35 rfl rfl rfl (vs := [_]) rfl rfl (by first | rfl | assumption | simp [Value.oneCell', str]) (Nat.le_of_ble_eq_true rfl) rfl ?_
         refine Zal 16 rfl (by kernel_rfl) (Zb (Ze (Zb (Zb (Ze (Zb (Zp))))))) (Zh rfl Tryz.f59' rfl (by decide) rfl) rfl ?_
         refine Zar (i := 17) rfl rfl (by kernel_rfl) ?_
         refine Zm trivial rfl Tryz.k23 rfl rfl rfl (vs := [_]) rfl rfl (by first | rfl | assumption | simp [Value.oneCell', str]) (Nat.le_of_ble_eq_true rfl) rfl ?_
         refine Zbl (by kernel_rfl) (ρ' := [(1, _), (2, _), (7, _), (9, _), (10, _), (11, _), (12, _)]) ⟨rfl, rfl, rfl, rfl, rfl, rfl, rfl, trivial⟩ ?_
         refine Zab ?_
         refine ⟨[(1, _), (2, _), (7, _), (9, _), (10, _), (11, _), (12, _)], [(9, _), (507, _), (1000, _)], ⟨rfl, rfl, rfl, rfl, rfl, rfl, rfl, trivial⟩, ⟨rfl, rfl, rfl, trivial⟩, _, _, lad, lcap, kad, kcap, oQ, (hleA.trans (hleK.trans hleQ)), (by first | rfl | simp), (by first | rfl | (simp only [List.cons.injEq, Prod.mk.injEq, SV.v.injEq, Value.int.injEq, true_and, and_true]; omega) | simp), ?_⟩
         refine ⟨BlkC.mk' (StrS.mono ⟨_, _, rfl, w1⟩ (hleK.trans hleQ)) (PrS.mono ⟨_, _, rfl, w2⟩ (hleK.trans hleQ)) (InlS.mono ⟨lcs, ⟨lad, lcap, rfl, hl1⟩, hl2⟩ hleQ) ⟨kcs, ⟨kad, kcap, rfl, hk1⟩, hk2⟩ (by obtain ⟨o1, o2, o3, o4, o5, o6, o7, o8, o9⟩ := hok; exact ⟨o1, o2, o3, o4, o5, o6, o7, by omega, by omega⟩), by rw [hes]; simpa [List.append_assoc] using hYQ⟩
        exact Zbw
       refine Zaz rfl rfl ?_ ?_
       ·
        refine do_y (Zi rfl Tryz.k23 rfl rfl rfl (vs := [_]) rfl rfl rfl) rfl ?_
        refine Zar (i := 2) rfl rfl (by kernel_rfl) ?_
        refine Zbm (caps := []) trivial rfl rfl Tryz.c59 rfl (FnP.mono (labCopyAttr_fn a _ _ _ (by omega) (by omega) s1 s2) ?_)
        rintro v uA hle0 ⟨vc3, vp3, rfl, ⟨ad5, cap5, rfl, w1⟩, ⟨ad6, cap6, rfl, w2⟩⟩ hleA
        refine Zal 12 rfl (by kernel_rfl) (Zb (Ze (Zb (Zb (Ze (Zb (Zp))))))) (Zh rfl Tryz.f59' rfl (by decide) rfl) rfl ?_
        refine Zar (i := 6) rfl rfl (by kernel_rfl) ?_
        refine Zaj (caps := []) (ρ' := [(1, _), (2, _), (7, _), (9, _), (10, _), (11, _), (12, _), (22, _), (28, _), (29, _), (30, _), (32, _)]) [1000] [] trivial rfl rfl rfl Tryz.c60 rfl rfl ⟨rfl, rfl, rfl, rfl, rfl, rfl, rfl, rfl, rfl, rfl, rfl, rfl, trivial⟩ rfl rfl rfl (FnO.mono (rebLine_fn R f caps b0 Y hM hcF (R.mm line) vl line _ oi uA (Nat.le_refl _) hgl (s3.mono hleA) ((hR.mono hle3).mono hleA) (hM _ _ _ _ hleA hYi)) ?_)
        rintro v uK l1 hleK ⟨⟨lcs, ⟨lad, lcap, rfl, hl1⟩, hl2⟩, oK, rfl, hYK⟩ -
        refine ⟨⟨fun _ h => h, trivial⟩, ?_⟩
        refine Zar (i := 11) rfl rfl (by kernel_rfl) ?_
        refine Zaj (caps := []) (ρ' := [(1, _), (2, _), (7, _), (9, _), (10, _), (11, _), (12, _), (22, _), (26, _), (32, _)]) [1000] [] trivial rfl rfl rfl Tryz.c27 rfl rfl ⟨rfl, rfl, rfl, rfl, rfl, rfl, rfl, rfl, rfl, rfl, trivial⟩ rfl rfl rfl (FnO.mono (ih (szB kids) (by omega) vk kids _ oK uK (Nat.le_refl _) (by omega) hgk ((s4.mono hleA).mono hleK) (((hR.mono hle3).mono hleA).mono hleK) hYK) ?_)
        rintro v uQ l1 hleQ ⟨⟨kcs, ⟨kad, kcap, rfl, hk1⟩, hk2⟩, oQ, rfl, hYQ⟩ -
        refine ⟨⟨fun _ h => h, trivial⟩, ?_⟩
        refine Zar (i := 13) rfl rfl (by kernel_rfl) ?_
        refine Zm trivial rfl Tryz.k39 rfl rfl rfl (vs := [_, _, _]) rfl rfl (by first | rfl | assumption | simp [Value.oneCell', str]) (Nat.le_of_ble_eq_true rfl) rfl ?_
        refine Zal 14 rfl (by kernel_rfl) (Zb (Ze (Zb (Zb (Ze (Zb (Zp))))))) (Zh rfl Tryz.f59' rfl (by decide) rfl) rfl ?_
        refine Zar (i := 15) rfl rfl (by kernel_rfl) ?_
        refine Zm trivial rfl Tryz.k35 rfl rfl rfl (vs := [_]) rfl rfl (by first | rfl | assumption | simp [Value.oneCell', str]) (Nat.le_of_ble_eq_true rfl) rfl ?_
        refine Zal 16 rfl (by kernel_rfl) (Zb (Ze (Zb (Zb (Ze (Zb (Zp))))))) (Zh rfl Tryz.f59' rfl (by decide) rfl) rfl ?_
        refine Zar (i := 17) rfl rfl (by kernel_rfl) ?_
        refine Zm trivial rfl Tryz.k23 rfl rfl rfl (vs := [_]) rfl rfl (by first | rfl | assumption | simp [Value.oneCell', str]) (Nat.le_of_ble_eq_true rfl) rfl ?_
        refine Zbl (by kernel_rfl) (ρ' := [(1, _), (2, _), (7, _), (9, _), (10, _), (11, _), (12, _)]) ⟨rfl, rfl, rfl, rfl, rfl, rfl, rfl, trivial⟩ ?_
        refine Zab ?_
        refine ⟨[(1, _), (2, _), (7, _), (9, _), (10, _), (11, _), (12, _)], [(9, _), (507, _), (1000, _)], ⟨rfl, rfl, rfl, rfl, rfl, rfl, rfl, trivial⟩, ⟨rfl, rfl, rfl, trivial⟩, _, _, lad, lcap, kad, kcap, oQ, (hleA.trans (hleK.trans hleQ)), (by first | rfl | simp), (by first | rfl | (simp only [List.cons.injEq, Prod.mk.injEq, SV.v.injEq, Value.int.injEq, true_and, and_true]; omega) | simp), ?_⟩
        refine ⟨BlkC.mk' (StrS.mono ⟨_, _, rfl, w1⟩ (hleK.trans hleQ)) (PrS.mono ⟨_, _, rfl, w2⟩ (hleK.trans hleQ)) (InlS.mono ⟨lcs, ⟨lad, lcap, rfl, hl1⟩, hl2⟩ hleQ) ⟨kcs, ⟨kad, kcap, rfl, hk1⟩, hk2⟩ (by obtain ⟨o1, o2, o3, o4, o5, o6, o7, o8, o9⟩ := hok; exact ⟨o1, o2, o3, o4, o5, o6, o7, by omega, by omega⟩), by rw [hes]; simpa [List.append_assoc] using hYQ⟩
       exact Zbw
      refine Zaz rfl rfl ?_ ?_
      ·
       refine do_y (Zi rfl Tryz.k23 rfl rfl rfl (vs := [_]) rfl rfl rfl) rfl ?_
       refine Zar (i := 1) rfl rfl (by kernel_rfl) ?_
       refine do_y (Zi rfl Tryz.k39 rfl rfl rfl (vs := [_, _, _]) rfl rfl rfl) rfl ?_
       refine Zar (i := 2) rfl rfl (by kernel_rfl) ?_
       refine Zbm (caps := []) trivial rfl rfl Tryz.c59 rfl (FnP.mono (labCopyAttr_fn a _ _ _ (by omega) (by omega) s1 s2) ?_)
       rintro v uA hle0 ⟨vc3, vp3, rfl, ⟨ad5, cap5, rfl, w1⟩, ⟨ad6, cap6, rfl, w2⟩⟩ hleA
       refine Zal 12 rfl (by kernel_rfl) (Zb (Ze (Zb (Zb (Ze (Zb (Zp))))))) (Zh rfl Tryz.f59' rfl (by decide) rfl) rfl ?_
       refine Zar (i := 6) rfl rfl (by kernel_rfl) ?_
       refine Zaj (caps := []) (ρ' := [(1, _), (2, _), (7, _), (9, _), (10, _), (11, _), (12, _), (22, _), (28, _), (29, _), (30, _), (32, _)]) [1000] [] trivial rfl rfl rfl Tryz.c60 rfl rfl ⟨rfl, rfl, rfl, rfl, rfl, rfl, rfl, rfl, rfl, rfl, rfl, rfl, trivial⟩ rfl rfl rfl (FnO.mono (rebLine_fn R f caps b0 Y hM hcF (R.mm line) vl line _ oi uA (Nat.le_refl _) hgl (s3.mono hleA) ((hR.mono hle3).mono hleA) (hM _ _ _ _ hleA hYi)) ?_)
       rintro v uK l1 hleK ⟨⟨lcs, ⟨lad, lcap, rfl, hl1⟩, hl2⟩, oK, rfl, hYK⟩ -
       refine ⟨⟨fun _ h => h, trivial⟩, ?_⟩
       refine Zar (i := 11) rfl rfl (by kernel_rfl) ?_
       refine Zaj (caps := []) (ρ' := [(1, _), (2, _), (7, _), (9, _), (10, _), (11, _), (12, _), (22, _), (26, _), (32, _)]) [1000] [] trivial rfl rfl rfl Tryz.c27 rfl rfl ⟨rfl, rfl, rfl, rfl, rfl, rfl, rfl, rfl, rfl, rfl, trivial⟩ rfl rfl rfl (FnO.mono (ih (szB kids) (by omega) vk kids _ oK uK (Nat.le_refl _) (by omega) hgk ((s4.mono hleA).mono hleK) (((hR.mono hle3).mono hleA).mono hleK) hYK) ?_)
       rintro v uQ l1 hleQ ⟨⟨kcs, ⟨kad, kcap, rfl, hk1⟩, hk2⟩, oQ, rfl, hYQ⟩ -
       refine ⟨⟨fun _ h => h, trivial⟩, ?_⟩
       refine Zar (i := 13) rfl rfl (by kernel_rfl) ?_
       refine Zm trivial rfl Tryz.k39 rfl rfl rfl (vs := [_, _, _]) rfl rfl (by first | rfl | assumption | simp [Value.oneCell', str]) (Nat.le_of_ble_eq_true rfl) rfl ?_
       refine Zal 14 rfl (by kernel_rfl) (Zb (Ze (Zb (Zb (Ze (Zb (Zp))))))) (Zh rfl Tryz.f59' rfl (by decide) rfl) rfl ?_
       refine Zar (i := 15) rfl rfl (by kernel_rfl) ?_
       refine Zm trivial rfl Tryz.k35 rfl rfl rfl (vs := [_]) rfl rfl (by first | rfl | assumption | simp [Value.oneCell', str]) (Nat.le_of_ble_eq_true rfl) rfl ?_
       refine Zal 16 rfl (by kernel_rfl) (Zb (Ze (Zb (Zb (Ze (Zb (Zp))))))) (Zh rfl Tryz.f59' rfl (by decide) rfl) rfl ?_
       refine Zar (i := 17) rfl rfl (by kernel_rfl) ?_
       refine Zm trivial rfl Tryz.k23 rfl rfl rfl (vs := [_]) rfl rfl (by first | rfl | assumption | simp [Value.oneCell', str]) (Nat.le_of_ble_eq_true rfl) rfl ?_
       refine Zbl (by kernel_rfl) (ρ' := [(1, _), (2, _), (7, _), (9, _), (10, _), (11, _), (12, _)]) ⟨rfl, rfl, rfl, rfl, rfl, rfl, rfl, trivial⟩ ?_
       refine Zab ?_
       refine ⟨[(1, _), (2, _), (7, _), (9, _), (10, _), (11, _), (12, _)], [(9, _), (507, _), (1000, _)], ⟨rfl, rfl, rfl, rfl, rfl, rfl, rfl, trivial⟩, ⟨rfl, rfl, rfl, trivial⟩, _, _, lad, lcap, kad, kcap, oQ, (hleA.trans (hleK.trans hleQ)), (by first | rfl | simp), (by first | rfl | (simp only [List.cons.injEq, Prod.mk.injEq, SV.v.injEq, Value.int.injEq, true_and, and_true]; omega) | simp), ?_⟩
       refine ⟨BlkC.mk' (StrS.mono ⟨_, _, rfl, w1⟩ (hleK.trans hleQ)) (PrS.mono ⟨_, _, rfl, w2⟩ (hleK.trans hleQ)) (InlS.mono ⟨lcs, ⟨lad, lcap, rfl, hl1⟩, hl2⟩ hleQ) ⟨kcs, ⟨kad, kcap, rfl, hk1⟩, hk2⟩ (by obtain ⟨o1, o2, o3, o4, o5, o6, o7, o8, o9⟩ := hok; exact ⟨o1, o2, o3, o4, o5, o6, o7, by omega, by omega⟩), by rw [hes]; simpa [List.append_assoc] using hYQ⟩
      exact Zbw
     refine Zaz rfl rfl ?_ ?_
     ·
      refine do_y (Zi rfl Tryz.k23 rfl rfl rfl (vs := [_]) rfl rfl rfl) rfl ?_
      refine ra_all (is := [1, 4]) (by kernel_rfl) rfl ?_
      refine Zaz rfl rfl ?_ ?_
      ·
       refine do_y (Zi rfl Tryz.k39 rfl rfl rfl (vs := [_, _, _]) rfl rfl rfl) rfl ?_
       refine ra_all (is := [2, 4]) (by kernel_rfl) rfl ?_
       refine Zaz rfl rfl ?_ ?_
       ·
        refine Zbm (caps := []) trivial rfl rfl Tryz.c59 rfl (FnP.mono (labCopyAttr_fn a _ _ _ (by omega) (by omega) s1 s2) ?_)
        rintro v uA hle0 ⟨vc3, vp3, rfl, ⟨ad5, cap5, rfl, w1⟩, ⟨ad6, cap6, rfl, w2⟩⟩ hleA
        refine Zar (i := 4) rfl rfl (by kernel_rfl) ?_
        refine do_y (Zi rfl Tryz.k35 rfl rfl rfl (vs := [_]) rfl rfl rfl) rfl ?_
        refine Zal 12 rfl (by kernel_rfl) (Zb (Ze (Zb (Zb (Ze (Zb (Zp))))))) (Zh rfl Tryz.f59' rfl (by decide) rfl) rfl ?_
        refine Zar (i := 6) rfl rfl (by kernel_rfl) ?_
        refine Zaj (caps := []) (ρ' := [(1, _), (2, _), (7, _), (9, _), (10, _), (11, _), (12, _), (22, _), (28, _), (29, _), (30, _), (32, _)]) [1000] [] trivial rfl rfl rfl Tryz.c60 rfl rfl ⟨rfl, rfl, rfl, rfl, rfl, rfl, rfl, rfl, rfl, rfl, rfl, rfl, trivial⟩ rfl rfl rfl (FnO.mono (rebLine_fn R f caps b0 Y hM hcF (R.mm line) vl line _ oi uA (Nat.le_refl _) hgl (s3.mono hleA) ((hR.mono hle3).mono hleA) (hM _ _ _ _ hleA hYi)) ?_)
        rintro v uK l1 hleK ⟨⟨lcs, ⟨lad, lcap, rfl, hl1⟩, hl2⟩, oK, rfl, hYK⟩ -
        refine ⟨⟨fun _ h => h, trivial⟩, ?_⟩
        refine Zar (i := 11) rfl rfl (by kernel_rfl) ?_
        refine Zaj (caps := []) (ρ' := [(1, _), (2, _), (7, _), (9, _), (10, _), (11, _), (12, _), (22, _), (26, _), (32, _)]) [1000] [] trivial rfl rfl rfl Tryz.c27 rfl rfl ⟨rfl, rfl, rfl, rfl, rfl, rfl, rfl, rfl, rfl, rfl, trivial⟩ rfl rfl rfl (FnO.mono (ih (szB kids) (by omega) vk kids _ oK uK (Nat.le_refl _) (by omega) hgk ((s4.mono hleA).mono hleK) (((hR.mono hle3).mono hleA).mono hleK) hYK) ?_)
        rintro v uQ l1 hleQ ⟨⟨kcs, ⟨kad, kcap, rfl, hk1⟩, hk2⟩, oQ, rfl, hYQ⟩ -
        refine ⟨⟨fun _ h => h, trivial⟩, ?_⟩
        refine Zar (i := 13) rfl rfl (by kernel_rfl) ?_
        refine Zm trivial rfl Tryz.k39 rfl rfl rfl (vs := [_, _, _]) rfl rfl (by first | rfl | assumption | simp [Value.oneCell', str]) (Nat.le_of_ble_eq_true rfl) rfl ?_
        refine Zal 14 rfl (by kernel_rfl) (Zb (Ze (Zb (Zb (Ze (Zb (Zp))))))) (Zh rfl Tryz.f59' rfl (by decide) rfl) rfl ?_
        refine Zar (i := 15) rfl rfl (by kernel_rfl) ?_
        refine Zm trivial rfl Tryz.k35 rfl rfl rfl (vs := [_]) rfl rfl (by first | rfl | assumption | simp [Value.oneCell', str]) (Nat.le_of_ble_eq_true rfl) rfl ?_
        refine Zal 16 rfl (by kernel_rfl) (Zb (Ze (Zb (Zb (Ze (Zb (Zp))))))) (Zh rfl Tryz.f59' rfl (by decide) rfl) rfl ?_
        refine Zar (i := 17) rfl rfl (by kernel_rfl) ?_
        refine Zm trivial rfl Tryz.k23 rfl rfl rfl (vs := [_]) rfl rfl (by first | rfl | assumption | simp [Value.oneCell', str]) (Nat.le_of_ble_eq_true rfl) rfl ?_
        refine Zbl (by kernel_rfl) (ρ' := [(1, _), (2, _), (7, _), (9, _), (10, _), (11, _), (12, _)]) ⟨rfl, rfl, rfl, rfl, rfl, rfl, rfl, trivial⟩ ?_
        refine Zab ?_
        refine ⟨[(1, _), (2, _), (7, _), (9, _), (10, _), (11, _), (12, _)], [(9, _), (507, _), (1000, _)], ⟨rfl, rfl, rfl, rfl, rfl, rfl, rfl, trivial⟩, ⟨rfl, rfl, rfl, trivial⟩, _, _, lad, lcap, kad, kcap, oQ, (hleA.trans (hleK.trans hleQ)), (by first | rfl | simp), (by first | rfl | (simp only [List.cons.injEq, Prod.mk.injEq, SV.v.injEq, Value.int.injEq, true_and, and_true]; omega) | simp), ?_⟩
        refine ⟨BlkC.mk' (StrS.mono ⟨_, _, rfl, w1⟩ (hleK.trans hleQ)) (PrS.mono ⟨_, _, rfl, w2⟩ (hleK.trans hleQ)) (InlS.mono ⟨lcs, ⟨lad, lcap, rfl, hl1⟩, hl2⟩ hleQ) ⟨kcs, ⟨kad, kcap, rfl, hk1⟩, hk2⟩ (by obtain ⟨o1, o2, o3, o4, o5, o6, o7, o8, o9⟩ := hok; exact ⟨o1, o2, o3, o4, o5, o6, o7, by omega, by omega⟩), by rw [hes]; simpa [List.append_assoc] using hYQ⟩
       refine Zaz rfl rfl ?_ ?_
       ·
        refine do_y (Zi rfl Tryz.k35 rfl rfl rfl (vs := [_]) rfl rfl rfl) rfl ?_
        refine Zar (i := 2) rfl rfl (by kernel_rfl) ?_
        refine Zbm (caps := []) trivial rfl rfl Tryz.c59 rfl (FnP.mono (labCopyAttr_fn a _ _ _ (by omega) (by omega) s1 s2) ?_)
        rintro v uA hle0 ⟨vc3, vp3, rfl, ⟨ad5, cap5, rfl, w1⟩, ⟨ad6, cap6, rfl, w2⟩⟩ hleA
        refine Zal 12 rfl (by kernel_rfl) (Zb (Ze (Zb (Zb (Ze (Zb (Zp))))))) (Zh rfl Tryz.f59' rfl (by decide) rfl) rfl ?_
        refine Zar (i := 6) rfl rfl (by kernel_rfl) ?_
        refine Zaj (caps := []) (ρ' := [(1, _), (2, _), (7, _), (9, _), (10, _), (11, _), (12, _), (22, _), (28, _), (29, _), (30, _), (32, _)]) [1000] [] trivial rfl rfl rfl Tryz.c60 rfl rfl ⟨rfl, rfl, rfl, rfl, rfl, rfl, rfl, rfl, rfl, rfl, rfl, rfl, trivial⟩ rfl rfl rfl (FnO.mono (rebLine_fn R f caps b0 Y hM hcF (R.mm line) vl line _ oi uA (Nat.le_refl _) hgl (s3.mono hleA) ((hR.mono hle3).mono hleA) (hM _ _ _ _ hleA hYi)) ?_)
        rintro v uK l1 hleK ⟨⟨lcs, ⟨lad, lcap, rfl, hl1⟩, hl2⟩, oK, rfl, hYK⟩ -
        refine ⟨⟨fun _ h => h, trivial⟩, ?_⟩
        refine Zar (i := 11) rfl rfl (by kernel_rfl) ?_
        refine Zaj (caps := []) (ρ' := [(1, _), (2, _), (7, _), (9, _), (10, _), (11, _), (12, _), (22, _), (26, _), (32, _)]) [1000] [] trivial rfl rfl rfl Tryz.c27 rfl rfl ⟨rfl, rfl, rfl, rfl, rfl, rfl, rfl, rfl, rfl, rfl, trivial⟩ rfl rfl rfl (FnO.mono (ih (szB kids) (by omega) vk kids _ oK uK (Nat.le_refl _) (by omega) hgk ((s4.mono hleA).mono hleK) (((hR.mono hle3).mono hleA).mono hleK) hYK) ?_)
        rintro v uQ l1 hleQ ⟨⟨kcs, ⟨kad, kcap, rfl, hk1⟩, hk2⟩, oQ, rfl, hYQ⟩ -
        refine ⟨⟨fun _ h => h, trivial⟩, ?_⟩
        refine Zar (i := 13) rfl rfl (by kernel_rfl) ?_
        refine Zm trivial rfl Tryz.k39 rfl rfl rfl (vs := [_, _, _]) rfl rfl (by first | rfl | assumption | simp [Value.oneCell', str]) (Nat.le_of_ble_eq_true rfl) rfl ?_
        refine Zal 14 rfl (by kernel_rfl) (Zb (Ze (Zb (Zb (Ze (Zb (Zp))))))) (Zh rfl Tryz.f59' rfl (by decide) rfl) rfl ?_
        refine Zar (i := 15) rfl rfl (by kernel_rfl) ?_
        refine Zm trivial rfl Tryz.k35 rfl rfl rfl (vs := [_]) rfl rfl (by first | rfl | assumption | simp [Value.oneCell', str]) (Nat.le_of_ble_eq_true rfl) rfl ?_
        refine Zal 16 rfl (by kernel_rfl) (Zb (Ze (Zb (Zb (Ze (Zb (Zp))))))) (Zh rfl Tryz.f59' rfl (by decide) rfl) rfl ?_
        refine Zar (i := 17) rfl rfl (by kernel_rfl) ?_
        refine Zm trivial rfl Tryz.k23 rfl rfl rfl (vs := [_]) rfl rfl (by first | rfl | assumption | simp [Value.oneCell', str]) (Nat.le_of_ble_eq_true rfl) rfl ?_
        refine Zbl (by kernel_rfl) (ρ' := [(1, _), (2, _), (7, _), (9, _), (10, _), (11, _), (12, _)]) ⟨rfl, rfl, rfl, rfl, rfl, rfl, rfl, trivial⟩ ?_
        refine Zab ?_
        refine ⟨[(1, _), (2, _), (7, _), (9, _), (10, _), (11, _), (12, _)], [(9, _), (507, _), (1000, _)], ⟨rfl, rfl, rfl, rfl, rfl, rfl, rfl, trivial⟩, ⟨rfl, rfl, rfl, trivial⟩, _, _, lad, lcap, kad, kcap, oQ, (hleA.trans (hleK.trans hleQ)), (by first | rfl | simp), (by first | rfl | (simp only [List.cons.injEq, Prod.mk.injEq, SV.v.injEq, Value.int.injEq, true_and, and_true]; omega) | simp), ?_⟩
        refine ⟨BlkC.mk' (StrS.mono ⟨_, _, rfl, w1⟩ (hleK.trans hleQ)) (PrS.mono ⟨_, _, rfl, w2⟩ (hleK.trans hleQ)) (InlS.mono ⟨lcs, ⟨lad, lcap, rfl, hl1⟩, hl2⟩ hleQ) ⟨kcs, ⟨kad, kcap, rfl, hk1⟩, hk2⟩ (by obtain ⟨o1, o2, o3, o4, o5, o6, o7, o8, o9⟩ := hok; exact ⟨o1, o2, o3, o4, o5, o6, o7, by omega, by omega⟩), by rw [hes]; simpa [List.append_assoc] using hYQ⟩
       exact Zbw
      refine Zaz rfl rfl ?_ ?_
      ·
       refine do_y (Zi rfl Tryz.k35 rfl rfl rfl (vs := [_]) rfl rfl rfl) rfl ?_
       refine Zar (i := 1) rfl rfl (by kernel_rfl) ?_
       refine do_y (Zi rfl Tryz.k39 rfl rfl rfl (vs := [_, _, _]) rfl rfl rfl) rfl ?_
       refine Zar (i := 2) rfl rfl (by kernel_rfl) ?_
       refine Zbm (caps := []) trivial rfl rfl Tryz.c59 rfl (FnP.mono (labCopyAttr_fn a _ _ _ (by omega) (by omega) s1 s2) ?_)
       rintro v uA hle0 ⟨vc3, vp3, rfl, ⟨ad5, cap5, rfl, w1⟩, ⟨ad6, cap6, rfl, w2⟩⟩ hleA
       refine Zal 12 rfl (by kernel_rfl) (Zb (Ze (Zb (Zb (Ze (Zb (Zp))))))) (Zh rfl Tryz.f59' rfl (by decide) rfl) rfl ?_
       refine Zar (i := 6) rfl rfl (by kernel_rfl) ?_
       refine Zaj (caps := []) (ρ' := [(1, _), (2, _), (7, _), (9, _), (10, _), (11, _), (12, _), (22, _), (28, _), (29, _), (30, _), (32, _)]) [1000] [] trivial rfl rfl rfl Tryz.c60 rfl rfl ⟨rfl, rfl, rfl, rfl, rfl, rfl, rfl, rfl, rfl, rfl, rfl, rfl, trivial⟩ rfl rfl rfl (FnO.mono (rebLine_fn R f caps b0 Y hM hcF (R.mm line) vl line _ oi uA (Nat.le_refl _) hgl (s3.mono hleA) ((hR.mono hle3).mono hleA) (hM _ _ _ _ hleA hYi)) ?_)
       rintro v uK l1 hleK ⟨⟨lcs, ⟨lad, lcap, rfl, hl1⟩, hl2⟩, oK, rfl, hYK⟩ -
       refine ⟨⟨fun _ h => h, trivial⟩, ?_⟩
       refine Zar (i := 11) rfl rfl (by kernel_rfl) ?_
       refine Zaj (caps := []) (ρ' := [(1, _), (2, _), (7, _), (9, _), (10, _), (11, _), (12, _), (22, _), (26, _), (32, _)]) [1000] [] trivial rfl rfl rfl Tryz.c27 rfl rfl ⟨rfl, rfl, rfl, rfl, rfl, rfl, rfl, rfl, rfl, rfl, trivial⟩ rfl rfl rfl (FnO.mono (ih (szB kids) (by omega) vk kids _ oK uK (Nat.le_refl _) (by omega) hgk ((s4.mono hleA).mono hleK) (((hR.mono hle3).mono hleA).mono hleK) hYK) ?_)
       rintro v uQ l1 hleQ ⟨⟨kcs, ⟨kad, kcap, rfl, hk1⟩, hk2⟩, oQ, rfl, hYQ⟩ -
       refine ⟨⟨fun _ h => h, trivial⟩, ?_⟩
       refine Zar (i := 13) rfl rfl (by kernel_rfl) ?_
       refine Zm trivial rfl Tryz.k39 rfl rfl rfl (vs := [_, _, _]) rfl rfl (by first | rfl | assumption | simp [Value.oneCell', str]) (Nat.le_of_ble_eq_true rfl) rfl ?_
       refine Zal 14 rfl (by kernel_rfl) (Zb (Ze (Zb (Zb (Ze (Zb (Zp))))))) (Zh rfl Tryz.f59' rfl (by decide) rfl) rfl ?_
       refine Zar (i := 15) rfl rfl (by kernel_rfl) ?_
       refine Zm trivial rfl Tryz.k35 rfl rfl rfl (vs := [_]) rfl rfl (by first | rfl | assumption | simp [Value.oneCell', str]) (Nat.le_of_ble_eq_true rfl) rfl ?_
       refine Zal 16 rfl (by kernel_rfl) (Zb (Ze (Zb (Zb (Ze (Zb (Zp))))))) (Zh rfl Tryz.f59' rfl (by decide) rfl) rfl ?_
       refine Zar (i := 17) rfl rfl (by kernel_rfl) ?_
       refine Zm trivial rfl Tryz.k23 rfl rfl rfl (vs := [_]) rfl rfl (by first | rfl | assumption | simp [Value.oneCell', str]) (Nat.le_of_ble_eq_true rfl) rfl ?_
       refine Zbl (by kernel_rfl) (ρ' := [(1, _), (2, _), (7, _), (9, _), (10, _), (11, _), (12, _)]) ⟨rfl, rfl, rfl, rfl, rfl, rfl, rfl, trivial⟩ ?_
       refine Zab ?_
       refine ⟨[(1, _), (2, _), (7, _), (9, _), (10, _), (11, _), (12, _)], [(9, _), (507, _), (1000, _)], ⟨rfl, rfl, rfl, rfl, rfl, rfl, rfl, trivial⟩, ⟨rfl, rfl, rfl, trivial⟩, _, _, lad, lcap, kad, kcap, oQ, (hleA.trans (hleK.trans hleQ)), (by first | rfl | simp), (by first | rfl | (simp only [List.cons.injEq, Prod.mk.injEq, SV.v.injEq, Value.int.injEq, true_and, and_true]; omega) | simp), ?_⟩
       refine ⟨BlkC.mk' (StrS.mono ⟨_, _, rfl, w1⟩ (hleK.trans hleQ)) (PrS.mono ⟨_, _, rfl, w2⟩ (hleK.trans hleQ)) (InlS.mono ⟨lcs, ⟨lad, lcap, rfl, hl1⟩, hl2⟩ hleQ) ⟨kcs, ⟨kad, kcap, rfl, hk1⟩, hk2⟩ (by obtain ⟨o1, o2, o3, o4, o5, o6, o7, o8, o9⟩ := hok; exact ⟨o1, o2, o3, o4, o5, o6, o7, by omega, by omega⟩), by rw [hes]; simpa [List.append_assoc] using hYQ⟩
      exact Zbw
     exact Zbw
    ·
     rintro ρ σ uc7 ⟨w1, w2, w3, w4, w5, w6, o7, hlc7, rfl, rfl, ⟨hx7, hY7⟩⟩
     have oneAll7 := hx7.one
     refine Za (ym rfl rfl (Zg (Zi rfl Tryz.k59 rfl rfl rfl (vs := [_, _, _, _, _, _, _, _, _, _, _]) rfl rfl rfl) rfl (Zv rfl rfl ?_)))
     refine Zak trivial Tryz.s23 Tryz.z59 (ps := [(_, _)]) rfl (xs := [_, _, _, _, _, _, _, _, _, _, _]) rfl rfl rfl rfl rfl rfl rfl ?_
     refine Zv rfl rfl ?_
     refine Zby trivial rfl rfl Tryz.s23 Tryz.z59 rfl rfl rfl rfl rfl rfl oneAll7 (by omega) (by omega) (ρ' := [(1, _), (2, _), (10, _), (11, _), (12, _)]) ⟨rfl, rfl, rfl, rfl, rfl, trivial⟩ rfl rfl rfl ?_
     refine ya rfl rfl ?_
     refine rl_ren 38 507 rfl rfl rfl ?_
     refine Zf (ρ' := [(1, _), (2, _), (7, _), (10, _), (11, _), (12, _)]) ⟨rfl, rfl, rfl, rfl, rfl, rfl, trivial⟩ ?_
     refine Zah (Zc (Za (Zg (Zav rfl rfl rfl (Zs (by omega))) rfl ?_)))
     refine ym rfl rfl (Zf (ρ' := [(1, _), (2, _), (7, _), (10, _), (11, _), (12, _)]) ⟨rfl, rfl, rfl, rfl, rfl, rfl, trivial⟩ ?_)
     refine Zab ?_
     refine ⟨m - 1, [(1, _), (2, _), (7, _), (10, _), (11, _), (12, _)], [(507, _), (1000, _)], by omega, ⟨rfl, rfl, rfl, rfl, rfl, rfl, trivial⟩, ⟨rfl, rfl, trivial⟩, i + 1, by omega, (by first | exact hle3.trans hlc7 | exact hle3), _, _, (by first | (rw [hbs, List.length_append]; rfl) | (rw [hbs])), (by first | rfl | simp), ?_⟩
     first
      | (refine ⟨?_, ?_⟩; rw [hbs]; exact (hacc.mono hlc7).append (BlksC.one hx7); exact hY7)
      | (refine ⟨?_, ?_⟩; rw [hbs]; exact hacc; rw [hes]; exact hYi)
  ·
   have hge := of_decide_eq_false hb3
   refine Zax ?_
   refine Zq (Zq ?_)
   refine Zaf ?_
   refine Zc (Zd (Za (ym rfl rfl ?_)))
   refine Zbo 507 rfl ?_
   intro ad507 cap507 u507 hle507z hsl507
   refine ya rfl rfl (Zf (ρ' := [(6, _)]) ⟨rfl, trivial⟩ ?_)
   refine Zc (Zw ?_)
   refine finO1 [1000] (.tmp rfl) rfl rfl ?_
   rw [List.take_of_length_le (by omega)] at hacc hYi hsl507
   exact ⟨⟨_, ⟨_, _, by rw [List.take_of_length_le (by omega)], hsl507⟩, hacc.mono hle507z⟩, oi, rfl, hM _ _ _ _ hle507z hYi⟩
end Go.Proofs.Ythkgcakpjknlbaa
namespace Go.Proofs.Ythkgcakpjknlbaa
open Go Go.Eng
set_option linter.unusedSimpArgs false
set_option linter.unusedVariables false
set_option maxRecDepth 4000
theorem strS_of' {u : View} {ad : Option Addr} {cap n : Nat} {xs : List Bs} (hn : n = xs.length) (h : SlC u ad n cap 1 (strsC xs)) : StrS u (.slice ad n cap) xs := by
 subst hn
 exact ⟨ad, cap, rfl, h⟩
abbrev txtO (l : List Bs) : OO := .rb 9 1 l.length (strsC l)
theorem add_fn (b0 : Nat) (l : List Bs) (id : Bs) (hl : l.length ≤ 1000000) (u : View) :
  FnO Tryz.prog 41 [str id, .pointer (some ⟨b0, 0, none⟩)] u [(some b0, txtO l)] fun r u' l' => r = .tuple #[] ∧ l' = [(some b0, txtO (l ++ nz id))] := by
 refine FnO.intro [] Tryz.func41 rfl rfl rfl ?_
 intro w0 D hw0
 refine Zco 1 1000 _ 0 rfl rfl ?_
 refine Zd (Za (ym rfl rfl (Zg (Zbv rfl rfl rfl) rfl (Zf (ρ' := [(0, _), (1, _), (4, _)]) ⟨rfl, rfl, rfl, trivial⟩ ?_))))
 refine Zc ?_
 refine Zo rfl (fun hb0 => ?_) (fun hb0 => ?_)
 ·
  have h0 := of_decide_eq_true hb0; have hz : nz id = [id] := if_neg h0
  refine Za (Zg (y_load_rb rfl Tryz.k37 rfl rfl rfl) rfl (ym rfl rfl (Zv rfl rfl ?_)))
  refine Zak trivial Tryz.s37 Tryz.z9 (ps := [(_, _)]) rfl (xs := [_]) rfl rfl rfl rfl rfl rfl rfl ?_
  refine Zv rfl rfl ?_
  refine do_append_rb_s trivial rfl rfl Tryz.s37 Tryz.z9 rfl rfl rfl rfl rfl rfl (by first | rfl | assumption | simp [Value.oneCell', str]) (by omega) (by omega) (ρ' := [(1, _)]) ⟨rfl, trivial⟩ rfl rfl rfl rfl ?_
  refine Zv rfl rfl ?_
  refine do_store_rb (ρ' := []) trivial rfl Tryz.k37 rfl rfl rfl rfl trivial rfl rfl rfl ?_
  refine Zf (ρ' := []) trivial ?_
  refine finO0n [1000]  rfl rfl ?_
  rw [hz]
  first
   | (refine ⟨rfl, ?_⟩; simp [txtO, strsC]; done)
   | (refine ⟨rfl, ?_⟩; rfl)
 ·
  have h0 := of_decide_eq_false hb0; have hz : nz id = [] := if_pos (Decidable.of_not_not h0)
  refine Zr ?_
  refine finO0n [1000]  rfl rfl ?_
  rw [hz]
  first
   | (refine ⟨rfl, ?_⟩; simp [txtO, strsC]; done)
   | (refine ⟨rfl, ?_⟩; rfl)
def namesY (b0 : Nat) : Ys := fun _ pre o => o = txtO (namesE pre)
theorem namesB_fn (ba b0 : Nat) (u : View) (T : TypeId) (fr : Nat × Nat) (hba : u ba = some (.cells [.func (.func 41) #[] #[.pointer (some ⟨b0, 0, none⟩)]].toArray T fr)) (pre : List Ev) (o : OO) (u' : View) (p : Value) (x : Blk) (hle : VLe u u') (hl : pre.length ≤ 200000) (hY : namesY b0 u' pre o) (hp : PtrB u' p x) :
  FnO Tryz.prog 42 [p, .pointer (some ⟨ba, 0, none⟩)] u' [(some b0, o)] fun r u'' l' => r = .tuple #[] ∧ ∃ o', l' = [(some b0, o')] ∧ namesY b0 u'' (pre ++ [Sum.inl x]) o' := by
 obtain ⟨b, off, c, Tp, frp, rfl, hu1, hc⟩ := hp
 obtain ⟨k, lv, inf, t, d, ti, a, line, kids⟩ := x
 obtain ⟨vc, vp, vl, vk, hP, _⟩ := hc.cells
 have hba := hle _ _ hba
 have hln := namesE_len pre
 subst hY
 refine FnO.intro [] Tryz.func42 rfl rfl rfl ?_
 intro w0 D hw0
 refine Zbk Tryz.mixed rfl [] trivial ?_
 refine Zal 0 rfl (by kernel_rfl) (Zp) (Zbd rfl Tryz.k76 rfl (by assumption) (vs := [_]) (by first | rfl | exact hP | exact cut_at hP rfl (Nat.le_of_ble_eq_true rfl) rfl) rfl rfl) rfl ?_
 refine Zal 1 rfl (by kernel_rfl) (Zp) (Zap rfl rfl) rfl ?_
 refine Zal 2 rfl (by kernel_rfl) (Zp) (Zbb rfl rfl) rfl ?_
 refine Zal 3 rfl (by kernel_rfl) (Zp) (Zbi rfl Tryz.f59' rfl (by decide) rfl) rfl ?_
 refine Zal 4 rfl (by kernel_rfl) (Zp) (Zbi rfl Tryz.f39' rfl (by decide) rfl) rfl ?_
 refine Zal 5 rfl (by kernel_rfl) (Zp) (Zbd rfl Tryz.k9 rfl (by assumption) (vs := [_]) (by first | rfl | exact hP | exact cut_at hP rfl (Nat.le_of_ble_eq_true rfl) rfl) rfl rfl) rfl ?_
 refine Zar (i := 6) rfl rfl (by kernel_rfl) ?_
 refine Zaj (caps := [.pointer (some ⟨b0, 0, none⟩)]) (ρ' := []) [1000] [] trivial rfl rfl rfl Tryz.c41 rfl rfl trivial rfl rfl rfl (FnO.mono (add_fn b0 (namesE pre) a.id (by omega) u') ?_)
 rintro v u1 l1 hle1 ⟨rfl, rfl⟩ -
 refine ⟨⟨fun _ h => h, trivial⟩, ?_⟩
 refine Zbl (by kernel_rfl) (ρ' := []) trivial ?_
 refine finO0n [1000]  rfl rfl ?_
 exact ⟨rfl, _, rfl, by unfold namesY; rw [namesE_append]; simp [namesE, evId, idB]⟩
theorem namesI_fn (ba b0 : Nat) (u : View) (T : TypeId) (fr : Nat × Nat) (hba : u ba = some (.cells [.func (.func 41) #[] #[.pointer (some ⟨b0, 0, none⟩)]].toArray T fr)) (pre : List Ev) (o : OO) (u' : View) (p : Value) (x : Inl) (hle : VLe u u') (hl : pre.length ≤ 200000) (hY : namesY b0 u' pre o) (hp : PtrI u' p x) :
  FnO Tryz.prog 43 [p, .pointer (some ⟨ba, 0, none⟩)] u' [(some b0, o)] fun r u'' l' => r = .tuple #[] ∧ ∃ o', l' = [(some b0, o')] ∧ namesY b0 u'' (pre ++ [Sum.inr x]) o' := by
 obtain ⟨b, off, c, Tp, frp, rfl, hu1, hc⟩ := hp
 obtain ⟨k, t, d, ti, a, args, cites, kids⟩ := x
 obtain ⟨vc, vp, va, vt, vk, hP, _⟩ := hc.cells
 have hba := hle _ _ hba
 have hln := namesE_len pre
 subst hY
 refine FnO.intro [] Tryz.func43 rfl rfl rfl ?_
 intro w0 D hw0
 refine Zbk Tryz.mixed rfl [] trivial ?_
 refine Zal 0 rfl (by kernel_rfl) (Zp) (Zbd rfl Tryz.k76 rfl (by assumption) (vs := [_]) (by first | rfl | exact hP | exact cut_at hP rfl (Nat.le_of_ble_eq_true rfl) rfl) rfl rfl) rfl ?_
 refine Zal 1 rfl (by kernel_rfl) (Zp) (Zap rfl rfl) rfl ?_
 refine Zal 2 rfl (by kernel_rfl) (Zp) (Zbb rfl rfl) rfl ?_
 refine Zal 3 rfl (by kernel_rfl) (Zp) (Zbi rfl Tryz.f42' rfl (by decide) rfl) rfl ?_
 refine Zal 4 rfl (by kernel_rfl) (Zp) (Zbi rfl Tryz.f39' rfl (by decide) rfl) rfl ?_
 refine Zal 5 rfl (by kernel_rfl) (Zp) (Zbd rfl Tryz.k9 rfl (by assumption) (vs := [_]) (by first | rfl | exact hP | exact cut_at hP rfl (Nat.le_of_ble_eq_true rfl) rfl) rfl rfl) rfl ?_
 refine Zar (i := 6) rfl rfl (by kernel_rfl) ?_
 refine Zaj (caps := [.pointer (some ⟨b0, 0, none⟩)]) (ρ' := []) [1000] [] trivial rfl rfl rfl Tryz.c41 rfl rfl trivial rfl rfl rfl (FnO.mono (add_fn b0 (namesE pre) a.id (by omega) u') ?_)
 rintro v u1 l1 hle1 ⟨rfl, rfl⟩ -
 refine ⟨⟨fun _ h => h, trivial⟩, ?_⟩
 refine Zbl (by kernel_rfl) (ρ' := []) trivial ?_
 refine finO0n [1000]  rfl rfl ?_
 exact ⟨rfl, _, rfl, by unfold namesY; rw [namesE_append]; simp [namesE, evId, idI]⟩
theorem labNames_fn (vm vb : Value) (bs : List Blk) (u : View) (hbig : szB bs ≤ 100000) (ha : BlkS u vb bs) :
  FnP Tryz.prog 16 [.agg #[vm, vb]] u fun r u' => StrS u' r (namesOf bs) := by
 have ha2 := ha
 obtain ⟨cs, ⟨ad, cap, rfl, h1⟩, hc1⟩ := ha2
 refine FnP.intro [.tmp 2] Tryz.func16 rfl rfl rfl ?_
 intro w0 D hw0
 refine Zd (Za (Zv rfl rfl ?_))
 refine Zbx trivial rfl (cs := [_, _]) rfl rfl rfl rfl ?_
 refine ya rfl rfl (Zf (ρ' := [(1, _)]) ⟨rfl, trivial⟩ ?_)
 refine Zc (Zd (Za (Zv rfl rfl ?_)))
 refine do_alloc_rb 9 1 trivial Tryz.z37 rfl rfl rfl ?_
 refine Zf (ρ' := [(1, _), (3, _)]) ⟨rfl, rfl, trivial⟩ ?_
 refine Zc (Zd (Za ?_))
 refine Zbz 3 rfl ⟨3, _, .inl rfl⟩ ?_
 intro b3
 refine Zg (Zbt rfl rfl rfl) rfl (Zv rfl rfl ?_)
 refine Zas trivial Tryz.z76 rfl rfl rfl ?_
 refine Zv rfl rfl ?_
 refine Zm trivial rfl Tryz.k76 rfl rfl rfl (vs := [_]) rfl rfl (by first | rfl | assumption | simp [Value.oneCell', str]) (Nat.le_of_ble_eq_true rfl) rfl ?_
 refine Zcs 4 rfl ?_
 intro b4 T4 u4 hle4z hu4 hpn4
 refine Zf (ρ' := [(1, _), (3, _), (4, _)]) ⟨rfl, rfl, rfl, trivial⟩ ?_
 refine Zc (Zd (Za (Zg (Zbt rfl rfl rfl) rfl (Zg (Zbt rfl rfl rfl) rfl (Zg (Zbf rfl Tryz.f82' Tryz.z82 (ps := [(_, _), (_, _)]) rfl (vs := [_, _]) rfl) rfl ?_)))))
 refine Zg (Zh rfl Tryz.f25' rfl (by decide) rfl) rfl (Zg (Zi rfl Tryz.k23 rfl rfl rfl (vs := [_]) rfl rfl rfl) rfl (Zv rfl rfl ?_))
 refine Zaj (caps := []) (ρ' := [(3, _)]) [3] [] trivial rfl rfl rfl Tryz.c44 rfl rfl ⟨rfl, trivial⟩ rfl rfl rfl (FnO.mono (vBlk_fn _ _ b3 (namesY b3) (fun _ _ _ _ _ h ↦ h) (szB bs) _ bs [] _ u4 (Nat.le_refl _) (by simp; omega) (ha.mono hle4z) (.inr ⟨42, [.pointer (some ⟨b4, 0, none⟩)], rfl, Tryz.c42, fun pre o u' p x hle hl hY hp ↦ namesB_fn b4 b3 u4 _ _ hu4 pre o u' p x hle hl hY hp⟩) (.inr ⟨43, [.pointer (some ⟨b4, 0, none⟩)], rfl, Tryz.c43, fun pre o u' p x hle hl hY hp ↦ namesI_fn b4 b3 u4 _ _ hu4 pre o u' p x hle hl hY hp⟩) rfl) ?_)
 rintro v uV l1 hleV ⟨rfl, o3, rfl, rfl⟩ -
 refine ⟨⟨fun _ h => h, trivial⟩, ?_⟩
 refine Zf (ρ' := [(3, _)]) ⟨rfl, trivial⟩ ?_
 refine Zc (Zd (Za (Zg (y_load_rb rfl Tryz.k37 rfl rfl rfl) rfl ?_)))
 refine rl_freeze_rb 3 rfl ?_
 intro ad3 cap3 u3 hle3z hsl3
 refine ya rfl rfl (Zf (ρ' := [(2, _)]) ⟨rfl, trivial⟩ ?_)
 refine Zc (Zw (Zbe (.tmp rfl) ?_))
 exact strS_of' rfl (by simpa [namesOf] using hsl3)
end Go.Proofs.Ythkgcakpjknlbaa
namespace Go.Eng
open Go Go.RowKit
set_option linter.unusedSimpArgs false
set_option linter.unusedVariables false
theorem keyB_str (a b : List UInt8) : keyB (str a) (str b) = decide (a = b) := by
 have h : keyB (str a) (str b) = ((⟨a.toArray⟩ : ByteArray) == ⟨b.toArray⟩) := rfl
 have h2 : ((⟨a.toArray⟩ : ByteArray) == ⟨b.toArray⟩) = (a.toArray == b.toArray) := rfl
 rw [h, h2]
 by_cases e : a = b
 ·
  subst e; simp
 ·
  rw [decide_eq_false e]; simpa using e
theorem fnd_shift (k : Value) : ∀ (l : List (Value × Value)) (i j : Nat), (fnd k l i).map (·.2) = (fnd k l j).map (·.2)
 | [], i, j => rfl
 | p :: r, i, j => by
  simp only [fnd]
  cases keyB k p.1 with
  | true => rfl
  | false => exact fnd_shift k r (i + 1) (j + 1)
theorem mget_nil (k : Value) : mget [] k = none := rfl
theorem mget_cons (p : Value × Value) (r : List (Value × Value)) (k : Value) : mget (p :: r) k = if keyB k p.1 = true then some p.2 else mget r k := by
 unfold mget
 simp only [fnd]
 cases keyB k p.1 with
 | true => simp
 | false => simpa using fnd_shift k r 1 0
def SKeys (kvs : List (Value × Value)) : Prop := kvs.all (fun p => isKey .string p.1) = true
theorem isKey_str {v : Value} (h : isKey .string v = true) : ∃ s, v = str s := by
 cases v with
 | string b => exact ⟨b.data.toList, by cases b; simp [str]⟩
 | _ => simp [isKey] at h
theorem mget_mset : ∀ (kvs : List (Value × Value)) (a b : List UInt8) (v : Value), SKeys kvs → mget (mset kvs (str a) v) (str b) = if b = a then some v else mget kvs (str b)
 | [], a, b, v, _ => by
  simp only [mset, mget_cons, mget_nil, keyB_str]
  by_cases h : b = a <;> simp [h]
 | p :: r, a, b, v, h => by
  have h0 : isKey .string p.1 = true := by have := List.all_eq_true.1 h p (by simp); exact this
  have hr : SKeys r := List.all_eq_true.2 fun x hx => List.all_eq_true.1 h x (by simp [hx])
  obtain ⟨s, hs⟩ := isKey_str h0
  obtain ⟨p1, p2⟩ := p
  simp only at hs
  subst hs
  simp only [mset, keyB_str]
  by_cases hs : a = s
  ·
   subst hs
   simp only [decide_true, mget_cons, keyB_str]
   by_cases h : b = a <;> simp [h]
  ·
   rw [decide_eq_false hs]
   simp only [mget_cons, keyB_str, mget_mset r a b v hr]
   by_cases h : b = a
   ·
    subst h; simp [hs]
   ·
    simp [h]
theorem SKeys.mset {a : List UInt8} {v : Value} : ∀ {kvs : List (Value × Value)}, SKeys kvs → SKeys (Eng.mset kvs (str a) v)
 | [], _ => by simp [Eng.mset, SKeys, isKey, str]
 | p :: r, h => by
  have h0 : isKey .string p.1 = true := by have := List.all_eq_true.1 h p (by simp); exact this
  have hr : SKeys r := List.all_eq_true.2 fun x hx => List.all_eq_true.1 h x (by simp [hx])
  simp only [Eng.mset]
  cases keyB (str a) p.1 with
  | true =>
   refine List.all_eq_true.2 fun x hx => ?_
   rcases List.mem_cons.1 hx with rfl | hx
   ·
    simp [isKey, str]
   ·
    exact List.all_eq_true.1 hr x hx
  | false =>
   refine List.all_eq_true.2 fun x hx => ?_
   rcases List.mem_cons.1 hx with rfl | hx
   ·
    exact h0
   ·
    exact List.all_eq_true.1 (SKeys.mset (a := a) (v := v) hr) x hx
end Go.Eng
namespace Go.Proofs.Ythkgcakpjknlbaa
open Go Go.Eng
set_option linter.unusedSimpArgs false
set_option linter.unusedVariables false
set_option maxRecDepth 4000
def SetM (kvs : List (Value × Value)) (Dn : List Bs) : Prop := kvs.all (fun p => isKey .string p.1) = true ∧ ∀ s, (mget kvs (str s)).getD (.bool false) = .bool (decide (s ∈ Dn))
theorem SetM.nil : SetM [] [] := ⟨rfl, fun s => by simp [mget_nil]⟩
theorem SetM.add {kvs : List (Value × Value)} {Dn : List Bs} (h : SetM kvs Dn) (t : Bs) : SetM (mset kvs (str t) (.bool true)) (Dn ++ [t]) := by
 refine ⟨SKeys.mset h.1, fun s => ?_⟩
 rw [mget_mset _ _ _ _ h.1]
 by_cases e : s = t
 ·
  subst e; simp
 ·
  rw [if_neg e, h.2 s]; simp [e]
theorem SetM.congr {kvs : List (Value × Value)} {Dn E : List Bs} (h : SetM kvs Dn) (e : ∀ s, s ∈ Dn ↔ s ∈ E) : SetM kvs E := ⟨h.1, fun s => by rw [h.2 s]; simp [e s]⟩
theorem u8_35 (c : UInt8) : decide ((c.toNat : Int) = 35) = decide (c = 35) := by
 refine decide_eq_decide.2 ⟨fun h => ?_, fun h => by rw [h]; rfl⟩
 have : c.toNat = 35 := by omega
 exact UInt8.toNat_inj.1 this
theorem tail_take (d : Bs) : (d.drop 1).take (d.length - 1) = d.tail := by
 cases d with
 | nil => rfl
 | cons c d => simp
theorem chk_fn (b0 bm : Nat) (kvs : List (Value × Value)) (Dn : List Bs) (l : List Bs) (name : Bs) (hl : l.length ≤ 1000000) (u : View) (hm : MapV u bm kvs) (hs : SetM kvs Dn) :
  FnO Tryz.prog 76 [str name, .map (some bm), .pointer (some ⟨b0, 0, none⟩)] u [(some b0, txtO l)] fun r u' l' => r = .tuple #[] ∧ l' = [(some b0, txtO (l ++ if name ∈ Dn then [] else [name]))] := by
 refine FnO.intro [] Tryz.func76 rfl rfl rfl ?_
 intro w0 D hw0
 refine Zco 2 1000 _ 0 rfl rfl ?_
 refine Zd (Za (ym rfl rfl (ym rfl rfl (Zg (y_lookup_v rfl Tryz.m75 Tryz.str9 Tryz.v4 rfl hm rfl rfl hs.1) rfl ?_))))
 rw [hs.2 name]
 refine Zg (Zbr rfl rfl) rfl (Zf (ρ' := [(0, _), (2, _), (8, _)]) ⟨rfl, rfl, rfl, trivial⟩ ?_)
 refine Zc ?_
 refine Zo rfl (fun hb0 => ?_) (fun hb0 => ?_)
 ·
  have h0 : name ∉ Dn := (by simpa using hb0)
  refine Za (Zg (y_load_rb rfl Tryz.k37 rfl rfl rfl) rfl (ym rfl rfl (Zv rfl rfl ?_)))
  refine Zak trivial Tryz.s37 Tryz.z9 (ps := [(_, _)]) rfl (xs := [_]) rfl rfl rfl rfl rfl rfl rfl ?_
  refine Zv rfl rfl ?_
  refine do_append_rb_s trivial rfl rfl Tryz.s37 Tryz.z9 rfl rfl rfl rfl rfl rfl (by first | rfl | assumption | simp [Value.oneCell', str]) (by omega) (by omega) (ρ' := [(2, _)]) ⟨rfl, trivial⟩ rfl rfl rfl rfl ?_
  refine Zv rfl rfl ?_
  refine do_store_rb (ρ' := []) trivial rfl Tryz.k37 rfl rfl rfl rfl trivial rfl rfl rfl ?_
  refine Zf (ρ' := []) trivial ?_
  refine finO0n [1000]  rfl rfl ?_
  first
   | (rw [if_neg h0]; refine ⟨rfl, ?_⟩; simp [txtO, strsC]; done)
   | (rw [if_pos h0, List.append_nil]; exact ⟨rfl, rfl⟩)
 ·
  have h0 : name ∈ Dn := (by simpa using hb0)
  refine Zr ?_
  refine finO0n [1000]  rfl rfl ?_
  first
   | (rw [if_neg h0]; refine ⟨rfl, ?_⟩; simp [txtO, strsC]; done)
   | (rw [if_pos h0, List.append_nil]; exact ⟨rfl, rfl⟩)
def notesY : Ys := fun _ pre o => ∃ kvs, o = .mp kvs ∧ SetM kvs (pre.flatMap evNote)
theorem missN_fn (bx bm : Nat) (u : View) (T : TypeId) (fr : Nat × Nat) (hbx : u bx = some (.cells [.map (some bm)].toArray T fr)) (pre : List Ev) (o : OO) (u' : View) (p : Value) (x : Blk) (hle : VLe u u') (hl : pre.length ≤ 200000) (hY : notesY u' pre o) (hp : PtrB u' p x) :
  FnO Tryz.prog 75 [p, .pointer (some ⟨bx, 0, none⟩)] u' [(some bm, o)] fun r u'' l' => r = .tuple #[] ∧ ∃ o', l' = [(some bm, o')] ∧ notesY u'' (pre ++ [Sum.inl x]) o' := by
 obtain ⟨b, off, c, Tp, frp, rfl, hu1, hc⟩ := hp
 obtain ⟨k, lv, inf, t, d, ti, a, line, kids⟩ := x
 obtain ⟨vc, vp, vl, vk, hP, _⟩ := hc.cells
 have hbx := hle _ _ hbx
 obtain ⟨kvs, rfl, hs⟩ := hY
 have hk := hs.1
 refine FnO.intro [] Tryz.func75 rfl rfl rfl ?_
 intro w0 D hw0
 refine Zd (Za (ym rfl rfl (Zg (Zbb rfl rfl) rfl (Zg (Zbi rfl Tryz.f59' rfl (by decide) rfl) rfl (Zg (Zbd rfl Tryz.k3 rfl (by assumption) (vs := [_]) (by first | rfl | exact hP | exact cut_at hP rfl (Nat.le_of_ble_eq_true rfl) rfl) rfl rfl) rfl ?_)))))
 refine Zg (Zaw rfl rfl rfl) rfl (Zf (ρ' := [(0, _), (1, _), (7, _)]) ⟨rfl, rfl, rfl, trivial⟩ ?_)
 refine Zc ?_
 refine Zo rfl (fun hb0 => ?_) (fun hb0 => ?_)
 ·
  have h0 := of_decide_eq_true hb0
  refine Zbk Tryz.mixed rfl [] trivial ?_
  refine Zal 0 rfl (by kernel_rfl) (Zp) (Zbd rfl Tryz.k75 rfl (by assumption) (vs := [_]) (by first | rfl | exact hP | exact cut_at hP rfl (Nat.le_of_ble_eq_true rfl) rfl) rfl rfl) rfl ?_
  refine ra_pinSM 8 1000 bm rfl rfl ?_
  refine Zal 1 rfl (by kernel_rfl) (Zp) (Zap rfl rfl) rfl ?_
  refine Zal 2 rfl (by kernel_rfl) (Zp) (Zbb rfl rfl) rfl ?_
  refine Zal 3 rfl (by kernel_rfl) (Zp) (Zbi rfl Tryz.f59' rfl (by decide) rfl) rfl ?_
  refine Zal 4 rfl (by kernel_rfl) (Zp) (Zbd rfl Tryz.k9 rfl (by assumption) (vs := [_]) (by first | rfl | exact hP | exact cut_at hP rfl (Nat.le_of_ble_eq_true rfl) rfl) rfl rfl) rfl ?_
  refine Zar (i := 5) rfl rfl (by kernel_rfl) ?_
  refine Zcb trivial rfl Tryz.m75 Tryz.str9 rfl rfl rfl rfl rfl (by assumption) ?_
  refine Zbl (by kernel_rfl) (ρ' := []) trivial ?_
  refine finO0n [1000]  rfl rfl ?_
  refine ⟨rfl, _, rfl, ?_⟩
  first
   | exact ⟨_, rfl, by simpa [evNote, noteName, h0] using hs.add inf⟩
   | exact ⟨_, rfl, by simpa [evNote, noteName, h0] using hs⟩
 ·
  have h0 := of_decide_eq_false hb0
  refine Zr ?_
  refine finO0n [1000]  rfl rfl ?_
  refine ⟨rfl, _, rfl, ?_⟩
  first
   | exact ⟨_, rfl, by simpa [evNote, noteName, h0] using hs.add inf⟩
   | exact ⟨_, rfl, by simpa [evNote, noteName, h0] using hs⟩
def missY (Dn N : List Bs) : Ys := fun _ pre o => o = txtO (missE Dn N pre)
set_option maxHeartbeats 1000000 in
theorem missI_fn (bc bi bn b0 mi mn : Nat) (ki kn : List (Value × Value)) (Dn N : List Bs) (u : View) (T1 T2 T3 : TypeId) (f1 f2 f3 : Nat × Nat) (hbc : u bc = some (.cells [.func (.func 76) #[] #[.pointer (some ⟨b0, 0, none⟩)]].toArray T1 f1))
  (hbi : u bi = some (.cells [.map (some mi)].toArray T2 f2)) (hbn : u bn = some (.cells [.map (some mn)].toArray T3 f3)) (hmi : MapV u mi ki) (hmn : MapV u mn kn) (hsi : SetM ki Dn) (hsn : SetM kn N)
  (pre : List Ev) (o : OO) (u' : View) (p : Value) (x : Inl) (hle : VLe u u') (hl : pre.length ≤ 200000) (hY : missY Dn N u' pre o) (hp : PtrI u' p x) :
  FnO Tryz.prog 77 [p, .pointer (some ⟨bc, 0, none⟩), .pointer (some ⟨bi, 0, none⟩), .pointer (some ⟨bn, 0, none⟩)] u' [(some b0, o)] fun r u'' l' => r = .tuple #[] ∧ ∃ o', l' = [(some b0, o')] ∧ missY Dn N u'' (pre ++ [Sum.inr x]) o' := by
 obtain ⟨b, off, c, Tp, frp, rfl, hu1, hc⟩ := hp
 obtain ⟨k, t, d, ti, a, args, cites, kids⟩ := x
 obtain ⟨vc, vp, va, vt, vk, hP, _, _, _, _, _, hok⟩ := hc.cells
 obtain ⟨_, okt, okd, _⟩ := hok
 have hbc := hle _ _ hbc
 have hbi := hle _ _ hbi
 have hbn := hle _ _ hbn
 have hmi := hmi.mono hle
 have hmn := hmn.mono hle
 have hln := missE_len Dn N pre
 have hst : missE Dn N (pre ++ [Sum.inr (.mk k t d ti a args cites kids)]) = missE Dn N pre ++ (if k = 14 then (if t ∈ Dn then [] else [t]) else if k = 12 then (if t ∈ N then [] else [t]) else if k = 9 ∧ t = [] ∧ d.head? = some 35 then (if d.tail ∈ Dn then [] else [d.tail]) else []) := by simp [missE, missEv]
 subst hY
 refine FnO.intro [] Tryz.func77 rfl rfl rfl ?_
 intro w0 D hw0
 refine Zd (Za (ym rfl rfl (Zg (Zbb rfl rfl) rfl (Zg (Zbi rfl Tryz.f42' rfl (by decide) rfl) rfl (Zg (Zbd rfl Tryz.k3 rfl (by assumption) (vs := [_]) (by first | rfl | exact hP | exact cut_at hP rfl (Nat.le_of_ble_eq_true rfl) rfl) rfl rfl) rfl ?_)))))
 refine Zf (ρ' := [(0, _), (1, _), (2, _), (3, _), (8, _)]) ⟨rfl, rfl, rfl, rfl, rfl, trivial⟩ ?_
 refine Zc (Zad (Zd (Za (Zg (Zaw rfl rfl rfl) rfl (ya rfl rfl (Zf (ρ' := [(0, _), (1, _), (2, _), (3, _), (8, _), (9, _)]) ⟨rfl, rfl, rfl, rfl, rfl, rfl, trivial⟩ ?_))))))
 refine Zc ?_
 refine Zo rfl (fun hb1 => ?_) (fun hb1 => ?_)
 ·
  have h1 := of_decide_eq_true hb1
  refine Zbk Tryz.mixed rfl [] trivial ?_
  refine Zal 0 rfl (by kernel_rfl) (Ze (Zp)) (Zbd rfl Tryz.k116 rfl (by assumption) (vs := [_]) (by first | rfl | exact hP | exact cut_at hP rfl (Nat.le_of_ble_eq_true rfl) rfl) rfl rfl) rfl ?_
  refine Zal 1 rfl (by kernel_rfl) (Ze (Zp)) (Zap rfl rfl) rfl ?_
  refine Zal 2 rfl (by kernel_rfl) (Ze (Zp)) (Zbb rfl rfl) rfl ?_
  refine Zal 3 rfl (by kernel_rfl) (Ze (Zp)) (Zbi rfl Tryz.f42' rfl (by decide) rfl) rfl ?_
  refine Zal 4 rfl (by kernel_rfl) (Ze (Zp)) (Zbd rfl Tryz.k9 rfl (by assumption) (vs := [_]) (by first | rfl | exact hP | exact cut_at hP rfl (Nat.le_of_ble_eq_true rfl) rfl) rfl rfl) rfl ?_
  refine Zal 5 rfl (by kernel_rfl) (Ze (Zp)) (Zbd rfl Tryz.k75 rfl (by assumption) (vs := [_]) (by first | rfl | exact hP | exact cut_at hP rfl (Nat.le_of_ble_eq_true rfl) rfl) rfl rfl) rfl ?_
  refine Zar (i := 6) rfl rfl (by kernel_rfl) ?_
  refine Zaj (caps := [.pointer (some ⟨b0, 0, none⟩)]) (ρ' := []) [1000] [] trivial rfl rfl rfl Tryz.c76 rfl rfl trivial rfl rfl rfl (FnO.mono (chk_fn b0 mi ki Dn (missE Dn N pre) t (by omega) u' hmi hsi) ?_)
  rintro v u1 l1 hle1 ⟨rfl, rfl⟩ -
  refine ⟨⟨fun _ h => h, trivial⟩, ?_⟩
  refine Zbl (by kernel_rfl) (ρ' := []) trivial ?_
  refine Zah ?_
  refine finO0n [1000]  rfl rfl ?_
  refine ⟨rfl, _, rfl, ?_⟩
  unfold missY
  rw [hst, if_pos h1]
 ·
  have h1 := of_decide_eq_false hb1
  refine Zd (Za (Zg (Zaw rfl rfl rfl) rfl (ya rfl rfl (Zf (ρ' := [(0, _), (1, _), (2, _), (3, _), (8, _), (18, _)]) ⟨rfl, rfl, rfl, rfl, rfl, rfl, trivial⟩ ?_))))
  refine Zc ?_
  refine Zo rfl (fun hb3 => ?_) (fun hb3 => ?_)
  ·
   have h3 := of_decide_eq_true hb3
   refine Zbk Tryz.mixed rfl [] trivial ?_
   refine Zal 0 rfl (by kernel_rfl) (Ze (Zp)) (Zbd rfl Tryz.k116 rfl (by assumption) (vs := [_]) (by first | rfl | exact hP | exact cut_at hP rfl (Nat.le_of_ble_eq_true rfl) rfl) rfl rfl) rfl ?_
   refine Zal 1 rfl (by kernel_rfl) (Ze (Zp)) (Zap rfl rfl) rfl ?_
   refine Zal 2 rfl (by kernel_rfl) (Ze (Zp)) (Zbb rfl rfl) rfl ?_
   refine Zal 3 rfl (by kernel_rfl) (Ze (Zp)) (Zbi rfl Tryz.f42' rfl (by decide) rfl) rfl ?_
   refine Zal 4 rfl (by kernel_rfl) (Ze (Zp)) (Zbd rfl Tryz.k9 rfl (by assumption) (vs := [_]) (by first | rfl | exact hP | exact cut_at hP rfl (Nat.le_of_ble_eq_true rfl) rfl) rfl rfl) rfl ?_
   refine Zal 5 rfl (by kernel_rfl) (Ze (Zp)) (Zbd rfl Tryz.k75 rfl (by assumption) (vs := [_]) (by first | rfl | exact hP | exact cut_at hP rfl (Nat.le_of_ble_eq_true rfl) rfl) rfl rfl) rfl ?_
   refine Zar (i := 6) rfl rfl (by kernel_rfl) ?_
   refine Zaj (caps := [.pointer (some ⟨b0, 0, none⟩)]) (ρ' := []) [1000] [] trivial rfl rfl rfl Tryz.c76 rfl rfl trivial rfl rfl rfl (FnO.mono (chk_fn b0 mn kn N (missE Dn N pre) t (by omega) u' hmn hsn) ?_)
   rintro v u1 l1 hle1 ⟨rfl, rfl⟩ -
   refine ⟨⟨fun _ h => h, trivial⟩, ?_⟩
   refine Zbl (by kernel_rfl) (ρ' := []) trivial ?_
   refine Zah ?_
   refine finO0n [1000]  rfl rfl ?_
   refine ⟨rfl, _, rfl, ?_⟩
   unfold missY
   rw [hst, if_neg h1, if_pos h3]
  ·
   have h3 := of_decide_eq_false hb3
   refine Zd (Za (Zg (Zaw rfl rfl rfl) rfl (ya rfl rfl (Zf (ρ' := [(0, _), (1, _), (2, _), (27, _)]) ⟨rfl, rfl, rfl, rfl, trivial⟩ ?_))))
   refine Zc ?_
   refine Zo rfl (fun hb5 => ?_) (fun hb5 => ?_)
   ·
    have h5 := of_decide_eq_true hb5
    refine Zd ?_
    refine Zcj 48 (decide (t = [] ∧ d.head? = some 35)) (ρk := [(0, _), (1, _), (2, _)]) ⟨rfl, rfl, rfl, trivial⟩ ?_ ?_
    ·
     refine Za (ym rfl rfl (Zg (Zbb rfl rfl) rfl (Zg (Zbi rfl Tryz.f42' rfl (by decide) rfl) rfl (Zg (Zbd rfl Tryz.k9 rfl (by assumption) (vs := [_]) (by first | rfl | exact hP | exact cut_at hP rfl (Nat.le_of_ble_eq_true rfl) rfl) rfl rfl) rfl ?_))))
     refine Zg (Zba rfl rfl rfl) rfl (ym rfl rfl ?_)
     rcases Bool.eq_false_or_eq_true (decide (t = [])) with hg6_5 | hg6_5
     ·
      simp only [hg6_5]
      refine Zk rfl rfl (ym rfl rfl (Zk rfl rfl (Zg (Zbb rfl rfl) rfl (Zk rfl rfl (Zg (Zbi rfl Tryz.f42' rfl (by decide) rfl) rfl (Zk rfl rfl (Zg (Zbd rfl Tryz.k9 rfl (by assumption) (vs := [_]) (by first | rfl | exact hP | exact cut_at hP rfl (Nat.le_of_ble_eq_true rfl) rfl) rfl rfl) rfl ?_)))))))
      refine Zk rfl rfl (Zg (Zbv rfl rfl rfl) rfl (Zg (Zl rfl rfl rfl) rfl (ym rfl rfl ?_)))
      rcases Bool.eq_false_or_eq_true (decide (d ≠ [])) with hg6_12 | hg6_12
      ·
       simp only [hg6_12]
       refine Zk rfl rfl (ym rfl rfl (Zk rfl rfl (Zg (Zbb rfl rfl) rfl (Zk rfl rfl (Zg (Zbi rfl Tryz.f42' rfl (by decide) rfl) rfl (Zk rfl rfl (Zg (Zbd rfl Tryz.k9 rfl (by assumption) (vs := [_]) (by first | rfl | exact hP | exact cut_at hP rfl (Nat.le_of_ble_eq_true rfl) rfl) rfl rfl) rfl ?_)))))))
       obtain ⟨c0, hc0⟩ : ∃ c0, d[0]? = some c0 := by
        cases d with
        | nil => simp at hg6_12
        | cons x d => exact ⟨x, rfl⟩
       have hd0 : d.head? = some c0 := by rw [← hc0]; cases d <;> rfl
       refine Zk rfl rfl (Zg (Zat rfl Tryz.str9 rfl rfl (by first | rfl | omega) (by assumption)) rfl (Zk rfl rfl (Zg (Zaw rfl rfl rfl) rfl ?_)))
       rw [u8_35]
       refine Zg (Zl rfl rfl rfl) rfl ?_
       exact Zam rfl ⟨rfl, rfl, rfl, trivial⟩ (by first | (cases d <;> simp_all; done) | simp_all)
      ·
       simp only [hg6_12]
       iterate 6 refine Zt rfl rfl rfl rfl ?_
       refine Zg (Zn rfl rfl rfl) rfl ?_
       exact Zam rfl ⟨rfl, rfl, rfl, trivial⟩ (by first | (cases d <;> simp_all; done) | simp_all)
     ·
      simp only [hg6_5]
      iterate 5 refine Zt rfl rfl rfl rfl ?_
      refine Zg (Zn rfl rfl rfl) rfl (ym rfl rfl ?_)
      iterate 6 refine Zt rfl rfl rfl rfl ?_
      refine Zg (Zn rfl rfl rfl) rfl ?_
      exact Zam rfl ⟨rfl, rfl, rfl, trivial⟩ (by first | (cases d <;> simp_all; done) | simp_all)
    refine Zc ?_
    refine Zo rfl (fun hb6 => ?_) (fun hb6 => ?_)
    ·
     have h6 := of_decide_eq_true hb6; have hdl : 1 ≤ d.length := (by cases d with | nil => simp at h6 | cons x d => simp)
     refine Zbk Tryz.mixed rfl [] trivial ?_
     refine Zal 0 rfl (by kernel_rfl) (Ze (Zp)) (Zbd rfl Tryz.k116 rfl (by assumption) (vs := [_]) (by first | rfl | exact hP | exact cut_at hP rfl (Nat.le_of_ble_eq_true rfl) rfl) rfl rfl) rfl ?_
     refine Zal 1 rfl (by kernel_rfl) (Ze (Zp)) (Zap rfl rfl) rfl ?_
     refine Zal 2 rfl (by kernel_rfl) (Ze (Zp)) (Zbb rfl rfl) rfl ?_
     refine Zal 3 rfl (by kernel_rfl) (Ze (Zp)) (Zbi rfl Tryz.f42' rfl (by decide) rfl) rfl ?_
     refine Zal 4 rfl (by kernel_rfl) (Ze (Zp)) (Zbd rfl Tryz.k9 rfl (by assumption) (vs := [_]) (by first | rfl | exact hP | exact cut_at hP rfl (Nat.le_of_ble_eq_true rfl) rfl) rfl rfl) rfl ?_
     refine Zal 5 rfl (by kernel_rfl) (Ze (Zp)) (Zcc (i := 1) (j := d.length) (k' := .i64) rfl Tryz.str9 rfl rfl rfl hdl (Nat.le_refl _)) rfl ?_
     rw [tail_take]
     refine Zal 6 rfl (by kernel_rfl) (Ze (Zp)) (Zbd rfl Tryz.k75 rfl (by assumption) (vs := [_]) (by first | rfl | exact hP | exact cut_at hP rfl (Nat.le_of_ble_eq_true rfl) rfl) rfl rfl) rfl ?_
     refine Zar (i := 7) rfl rfl (by kernel_rfl) ?_
     refine Zaj (caps := [.pointer (some ⟨b0, 0, none⟩)]) (ρ' := []) [1000] [] trivial rfl rfl rfl Tryz.c76 rfl rfl trivial rfl rfl rfl (FnO.mono (chk_fn b0 mi ki Dn (missE Dn N pre) d.tail (by omega) u' hmi hsi) ?_)
     rintro v u1 l1 hle1 ⟨rfl, rfl⟩ -
     refine ⟨⟨fun _ h => h, trivial⟩, ?_⟩
     refine Zbl (by kernel_rfl) (ρ' := []) trivial ?_
     refine Zah ?_
     refine finO0n [1000]  rfl rfl ?_
     refine ⟨rfl, _, rfl, ?_⟩
     unfold missY
     rw [hst, if_neg h1, if_neg h3, if_pos (c := k = 9 ∧ t = [] ∧ d.head? = some 35) ⟨h5, h6⟩]
    ·
     have h6 := of_decide_eq_false hb6
     refine Zr (Zah ?_)
     refine finO0n [1000]  rfl rfl ?_
     refine ⟨rfl, _, rfl, ?_⟩
     unfold missY
     rw [hst, if_neg h1, if_neg h3, if_neg (fun h => h6 h.2), List.append_nil]
   ·
    have h5 := of_decide_eq_false hb5
    refine Zr (Zah ?_)
    refine finO0n [1000]  rfl rfl ?_
    refine ⟨rfl, _, rfl, ?_⟩
    unfold missY
    rw [hst, if_neg h1, if_neg h3, if_neg (fun h => h5 h.1), List.append_nil]
set_option maxHeartbeats 1000000 in
theorem missing_fn (vm vb : Value) (bs : List Blk) (u : View) (hbig : szB bs ≤ 100000) (ha : BlkS u vb bs) :
  FnP Tryz.prog 40 [.agg #[vm, vb]] u fun r u' => StrS u' r (missOf bs) := by
 have hnl := namesE_len (evB bs)
 rw [evB_len] at hnl
 have hnl : (namesOf bs).length ≤ szB bs := hnl
 refine FnP.intro [.tmp 2] Tryz.func40 rfl rfl rfl ?_
 intro w0 D hw0
 refine Zd (Za (Zv rfl rfl ?_))
 refine Zbx trivial rfl (cs := [_, _]) rfl rfl rfl rfl ?_
 refine ya rfl rfl (Zf (ρ' := [(1, _)]) ⟨rfl, trivial⟩ ?_)
 refine Zc (Zd (Za (Zv rfl rfl ?_)))
 refine Zcl trivial rfl rfl rfl ?_
 refine Zv rfl rfl ?_
 refine Zcl trivial rfl rfl rfl ?_
 refine Zv rfl rfl ?_
 refine Zas trivial Tryz.z75 rfl rfl rfl ?_
 refine Zv rfl rfl ?_
 refine Zas trivial Tryz.z75 rfl rfl rfl ?_
 refine Zbz 9 rfl ⟨9, 0, .inr rfl⟩ ?_
 intro b9
 refine Zv rfl rfl ?_
 refine Zm trivial rfl Tryz.k75 rfl rfl rfl (vs := [_]) rfl rfl (by first | rfl | assumption | simp [Value.oneCell', str]) (Nat.le_of_ble_eq_true rfl) rfl ?_
 refine Zbz 10 rfl ⟨10, 0, .inr rfl⟩ ?_
 intro b10
 refine Zv rfl rfl ?_
 refine Zm trivial rfl Tryz.k75 rfl rfl rfl (vs := [_]) rfl rfl (by first | rfl | assumption | simp [Value.oneCell', str]) (Nat.le_of_ble_eq_true rfl) rfl ?_
 refine Zcs 4 rfl ?_
 intro b4 T4 u4 hle4z hu4 hpn4
 refine Zf (ρ' := [(1, _), (3, _), (4, _)]) ⟨rfl, rfl, rfl, trivial⟩ ?_
 refine Zc (Zd (Zd (Za (Zg (Zi rfl Tryz.k25 rfl rfl rfl (vs := [_, _]) rfl rfl rfl) rfl (Zv rfl rfl ?_)))))
 refine Zbm (caps := []) trivial rfl rfl Tryz.c16 rfl (FnP.mono (labNames_fn vm vb bs _ hbig (ha.mono hle4z)) ?_)
 rintro v uN hle0 ⟨adn, capn, rfl, hn⟩ hleN
 refine Zg (Zaq rfl rfl Tryz.s37 rfl) rfl (ym rfl rfl (Zf (ρ' := [(1, _), (3, _), (4, _), (12, _), (13, _), (14, _)]) ⟨rfl, rfl, rfl, rfl, rfl, rfl, trivial⟩ ?_))
 refine Zc (Zad ?_)
 refine Zbc (fun m ρ σ u' => ∃ i : Nat, i + m = (namesOf bs).length ∧ VLe uN u' ∧ ∃ (ki : List (Value × Value)), σ = [(1, (none, .box [vm, vb])), (3, (none, .box [.map (some b9)])), (9, (some b9, .mp ki)), (10, (some b10, .mp []))] ∧ ρ = [(1, .p 1 0), (3, .p 3 0), (4, .v (.pointer (some ⟨b4, 0, none⟩))), (12, .v (.slice adn (namesOf bs).length capn)), (13, .v (.int .i64 (namesOf bs).length)), (14, .v (.int .i64 i))] ∧ (uN = u' ∧ SetM ki ((namesOf bs).take i))) ((namesOf bs).length) ?_ ?_
 ·
  refine ⟨[(1, _), (3, _), (4, _), (12, _), (13, _), (14, _)], [(1, _), (3, _), (9, _), (10, _)], ⟨rfl, rfl, rfl, rfl, rfl, rfl, trivial⟩, ⟨rfl, rfl, rfl, rfl, trivial⟩, 0, by omega, VLe.refl _, [], rfl, rfl, ?_⟩
  exact ⟨rfl, SetM.nil⟩
 ·
  rintro m ρ σ u' ⟨i, hi3, hle3, ki, rfl, rfl, ⟨rfl, hSi⟩⟩
  refine Zd (Za (Zg (Zbn rfl rfl rfl) rfl (Zf (ρ' := [(1, _), (3, _), (4, _), (12, _), (13, _), (14, _), (15, _)]) ⟨rfl, rfl, rfl, rfl, rfl, rfl, rfl, trivial⟩ ?_)))
  refine Zc (Zd ?_)
  refine Zo rfl (fun hb3 => ?_) (fun hb3 => ?_)
  ·
   have hlt : i < (namesOf bs).length := (by have := of_decide_eq_true hb3; omega); have hg := List.getElem?_eq_getElem hlt; have hcut := cut_strsC hg; have hk := hSi.1
   refine Zr (Zc (Zd (Zad (Zd (Za (Zg (Zai rfl Tryz.s37 rfl rfl (by assumption) (by first | rfl | omega) (by omega)) rfl (Zg (Zag rfl Tryz.k9 rfl (by assumption) (by omega) (by assumption) (vs := [_]) rfl rfl rfl rfl) rfl ?_)))))))
   refine ya rfl rfl (Zf (ρ' := [(1, _), (3, _), (4, _), (6, _), (12, _), (13, _), (14, _)]) ⟨rfl, rfl, rfl, rfl, rfl, rfl, rfl, trivial⟩ ?_)
   refine Zc (Za (Zg (y_load_bm (id2 := 9) rfl Tryz.k75 rfl rfl rfl rfl rfl) rfl (ym rfl rfl (Zv rfl rfl ?_))))
   refine Zcb trivial rfl Tryz.m75 Tryz.str9 rfl rfl rfl rfl rfl (by assumption) ?_
   refine Zf (ρ' := [(1, _), (3, _), (4, _), (12, _), (13, _), (14, _)]) ⟨rfl, rfl, rfl, rfl, rfl, rfl, trivial⟩ ?_
   refine Zah (Zc (Za (Zg (Zav rfl rfl rfl (Zs (by omega))) rfl ?_)))
   refine ym rfl rfl (Zf (ρ' := [(1, _), (3, _), (4, _), (12, _), (13, _), (14, _)]) ⟨rfl, rfl, rfl, rfl, rfl, rfl, trivial⟩ ?_)
   refine Zab ?_
   refine ⟨m - 1, [(1, _), (3, _), (4, _), (12, _), (13, _), (14, _)], [(1, _), (3, _), (9, _), (10, _)], by omega, ⟨rfl, rfl, rfl, rfl, rfl, rfl, trivial⟩, ⟨rfl, rfl, rfl, rfl, trivial⟩, i + 1, by omega, hle3, _, (by first | rfl | simp), (by first | rfl | (simp only [List.cons.injEq, Prod.mk.injEq, SV.v.injEq, Value.int.injEq, true_and, and_true]; omega) | simp), ?_⟩
   exact ⟨rfl, by rw [List.take_succ_eq_append_getElem hlt]; exact hSi.add _⟩
  ·
   have hge := of_decide_eq_false hb3; rw [List.take_of_length_le (by omega)] at hSi
   refine Zax ?_
   refine Zq (Zq ?_)
   refine Zaf ?_
   refine Zc (Zd ?_)
   have hu4 := hleN _ _ hu4
   refine Za (Zg (Zbt rfl rfl rfl) rfl (Zg (Zbf rfl Tryz.f82' Tryz.z82 (ps := [(_, _)]) rfl (vs := [_, _]) rfl) rfl ?_))
   refine Zg (Zh rfl Tryz.f25' rfl (by decide) rfl) rfl (Zg (Zi rfl Tryz.k23 rfl rfl rfl (vs := [_]) rfl rfl rfl) rfl (Zv rfl rfl ?_))
   refine Zaj (caps := []) (ρ' := [(1, _), (3, _), (4, _)]) [10] [] trivial rfl rfl rfl Tryz.c44 rfl rfl ⟨rfl, rfl, rfl, trivial⟩ rfl rfl rfl (FnO.mono (vBlk_fn _ _ b10 notesY (fun _ _ _ _ _ h ↦ h) (szB bs) _ bs [] _ uN (Nat.le_refl _) (by simp; omega) ((ha.mono hle4z).mono hleN) (.inr ⟨75, [.pointer (some ⟨b4, 0, none⟩)], rfl, Tryz.c75, fun pre o u' p x hle hl hY hp ↦ missN_fn b4 b10 uN _ _ hu4 pre o u' p x hle hl hY hp⟩) (.inl ⟨rfl, fun u' pre o x ⟨kvs, h1, h2⟩ ↦ ⟨kvs, h1, by simpa [evNote] using h2⟩⟩) ⟨[], rfl, SetM.nil⟩) ?_)
   rintro v uV l1 hleV ⟨rfl, oV, rfl, ⟨kn, rfl, hkn⟩⟩ -
   refine ⟨⟨fun _ h => h, trivial⟩, ?_⟩
   refine Zf (ρ' := [(1, _), (3, _), (4, _)]) ⟨rfl, rfl, rfl, trivial⟩ ?_
   refine Zc (Zd (Za (Zv rfl rfl ?_)))
   refine do_alloc_rb 9 1 trivial Tryz.z37 rfl rfl rfl ?_
   refine Zcs 3 rfl ?_
   intro b3 T3 u3 hle3z hu3 hpn3
   refine rl_freezeM 9 rfl ?_
   intro b9 u9 hle9z hm9 hpn9
   refine rl_freezeM 10 rfl ?_
   intro b10 u10 hle10z hm10 hpn10
   obtain rfl := hpn9 _ rfl
   obtain rfl := hpn10 _ rfl
   have hSN : SetM kn (noteNames (listB bs)) := by rw [← evNote_all]; simpa using hkn
   have ha2 := ((((((ha.mono hle4z).mono hleN).mono hleV).mono hle3z).mono hle9z).mono hle10z)
   have hu4 := hle10z _ _ (hle9z _ _ (hle3z _ _ (hleV _ _ hu4)))
   have hu3 := hle10z _ _ (hle9z _ _ hu3)
   have hm9 := hm9.mono hle10z
   refine Zf (ρ' := [(1, _), (3, _), (4, _), (7, _)]) ⟨rfl, rfl, rfl, rfl, trivial⟩ ?_
   refine Zc (Zd (Za ?_))
   refine Zbz 7 rfl ⟨7, _, .inl rfl⟩ ?_
   intro b7
   refine Zg (Zbt rfl rfl rfl) rfl (Zv rfl rfl ?_)
   refine Zas trivial Tryz.z116 rfl rfl rfl ?_
   refine Zv rfl rfl ?_
   refine Zm trivial rfl Tryz.k116 rfl rfl rfl (vs := [_]) rfl rfl (by first | rfl | assumption | simp [Value.oneCell', str]) (Nat.le_of_ble_eq_true rfl) rfl ?_
   refine Zcs 8 rfl ?_
   intro b8 T8 u8 hle8z hu8 hpn8
   have ha2 := ha2.mono hle8z
   have hu4 := hle8z _ _ hu4
   have hu3 := hle8z _ _ hu3
   have hm9 := hm9.mono hle8z
   have hm10 := hm10.mono hle8z
   refine Zf (ρ' := [(1, _), (3, _), (4, _), (7, _), (8, _)]) ⟨rfl, rfl, rfl, rfl, rfl, trivial⟩ ?_
   refine Zc (Zd (Za (Zg (Zbt rfl rfl rfl) rfl (Zg (Zbf rfl Tryz.f82' Tryz.z82 (ps := [(_, _)]) rfl (vs := [_, _]) rfl) rfl ?_))))
   refine Zg (Zh rfl Tryz.f25' rfl (by decide) rfl) rfl (Zg (Zi rfl Tryz.k23 rfl rfl rfl (vs := [_]) rfl rfl rfl) rfl (Zv rfl rfl ?_))
   refine Zaj (caps := []) (ρ' := [(7, _)]) [7] [] trivial rfl rfl rfl Tryz.c44 rfl rfl ⟨rfl, trivial⟩ rfl rfl rfl (FnO.mono (vBlk_fn _ _ b7 (missY (namesOf bs) (noteNames (listB bs))) (fun _ _ _ _ _ h ↦ h) (szB bs) _ bs [] _ u8 (Nat.le_refl _) (by simp; omega) ha2 (.inl ⟨rfl, fun u' pre o x h ↦ by unfold missY at h ⊢; rw [h]; simp [missE, missEv]⟩) (.inr ⟨77, [.pointer (some ⟨b8, 0, none⟩), .pointer (some ⟨b3, 0, none⟩), .pointer (some ⟨b4, 0, none⟩)], rfl, Tryz.c77, fun pre o u' p x hle hl hY hp ↦ missI_fn b8 b3 b4 b7 _ _ ki kn (namesOf bs) (noteNames (listB bs)) u8 _ _ _ _ _ _ hu8 hu3 hu4 hm9 hm10 hSi hSN pre o u' p x hle hl hY hp⟩) rfl) ?_)
   rintro v uW l1 hleW ⟨rfl, oW, rfl, rfl⟩ -
   refine ⟨⟨fun _ h => h, trivial⟩, ?_⟩
   refine Zf (ρ' := [(7, _)]) ⟨rfl, trivial⟩ ?_
   refine Zc (Zd (Za (Zg (y_load_rb rfl Tryz.k37 rfl rfl rfl) rfl ?_)))
   refine rl_freeze_rb 7 rfl ?_
   intro ad7 cap7 u7 hle7z hsl7
   refine ya rfl rfl (Zf (ρ' := [(2, _)]) ⟨rfl, trivial⟩ ?_)
   refine Zc (Zw (Zbe (.tmp rfl) ?_))
   exact strS_of' rfl (by simpa [missOf] using hsl7)
end Go.Proofs.Ythkgcakpjknlbaa
namespace Go.Proofs.Ythkgcakpjknlbaa
open Go Go.Eng
set_option linter.unusedSimpArgs false
set_option linter.unusedVariables false
set_option maxRecDepth 4000
theorem smB_mem : ∀ (n : Nat) (bs : List Blk), szB bs ≤ n → smB bs → ∀ x ∈ listB bs, smB1 x ∧ szI (lineOf x) ≤ szB bs := by
 intro n
 induction n with
 | zero =>
  intro bs hn _ x hx
  cases bs with
  | nil => simp [listB] at hx
  | cons y ys => cases y; simp [szB, szb] at hn
 | succ n ih =>
  intro bs hn hs x hx
  cases bs with
  | nil => simp [listB] at hx
  | cons y ys =>
   unfold smB at hs
   have h0 := hs.1
   obtain ⟨k, lv, inf, t, d, ti, a, line, kids⟩ := y
   simp only [szB, szb] at hn ⊢
   rw [listB, listb, List.cons_append] at hx
   rcases List.mem_cons.1 hx with rfl | hx
   ·
    exact ⟨h0, by simp only [lineOf]; omega⟩
   ·
    have h1 := h0
    unfold smB1 at h1
    rcases List.mem_append.1 hx with hx | hx
    ·
     obtain ⟨q1, q2⟩ := ih kids (by omega) h1.2.2.2.2.2 x hx
     exact ⟨q1, by omega⟩
    ·
     obtain ⟨q1, q2⟩ := ih ys (by omega) hs.2 x hx
     exact ⟨q1, by omega⟩
theorem gdB_of (R : RepI) (kp : Blk → Bool) (bs : List Blk) (hs : smB bs) (hbig : szB bs ≤ 100000) (hR : ∀ xs, smI xs → szI xs ≤ 100000 → R.Gd xs) : GdB R kp bs := by
 intro x hx
 obtain ⟨h1, h2⟩ := smB_mem _ bs (Nat.le_refl _) hs x hx
 obtain ⟨k, lv, inf, t, d, ti, a, line, kids⟩ := x
 unfold smB1 at h1
 exact ⟨hR _ h1.2.2.2.2.1 (by simp only [lineOf] at h2 ⊢; omega), by omega, by omega⟩
def DefM (u : View) (kvs : List (Value × Value)) (L : List Blk) : Prop := kvs.all (fun p => isKey .string p.1) = true ∧ ∀ s, match defOf L s with
 | none => mget kvs (str s) = none
 | some b => ∃ cs, mget kvs (str s) = some (.agg cs.toArray) ∧ BlkC u b cs
theorem DefM.mono {u u' : View} {kvs : List (Value × Value)} {L : List Blk} (h : DefM u kvs L) (hu : VLe u u') : DefM u' kvs L := by
 refine ⟨h.1, fun s => ?_⟩
 have := h.2 s
 cases hd : defOf L s with
 | none => rw [hd] at this; exact this
 | some b => rw [hd] at this; obtain ⟨cs, h1, h2⟩ := this; exact ⟨cs, h1, h2.mono hu⟩
abbrev zeroB : List Value := [.int .i64 0, .int .i64 0, str [], str [], str [], str [], str [], .slice none 0 0, .slice none 0 0, .slice none 0 0, .slice none 0 0]
theorem DefM.val {u : View} {kvs : List (Value × Value)} {L : List Blk} (h : DefM u kvs L) (s : Bs) : ∃ k lv inf t d ti id vc vp vl vk, (mget kvs (str s)).getD (.agg zeroB.toArray) = .agg (blkV k lv inf t d ti id vc vp vl vk).toArray ∧ (mget kvs (str s)).isSome = (defOf L s).isSome ∧ d = destO (defOf L s) ∧ ti = titleO (defOf L s) ∧ d.length ≤ 140737488351232 ∧ ti.length ≤ 140737488351232 ∧ (blkV k lv inf t d ti id vc vp vl vk).all Value.oneCell' = true := by
 have := h.2 s
 cases hd : defOf L s with
 | none =>
  rw [hd] at this
  rw [this]
  exact ⟨_, _, _, _, _, _, _, _, _, _, _, rfl, rfl, rfl, rfl, by simp, by simp, rfl⟩
 | some b =>
  rw [hd] at this
  obtain ⟨cs, h1, h2⟩ := this
  rw [h1]
  obtain ⟨k, lv, inf, t, d, ti, a, line, kids⟩ := b
  have one := h2.one
  obtain ⟨vc, vp, vl, vk, rfl, _, _, _, _, hok⟩ := h2.cells
  obtain ⟨_, _, _, _, o5, o6, _⟩ := hok
  exact ⟨k, lv, inf, t, d, ti, a.id, vc, vp, vl, vk, rfl, rfl, rfl, rfl, o5, o6, one⟩
end Go.Proofs.Ythkgcakpjknlbaa
