/- Texts for a law, part 3: they walk the functions that the law reaches, and state what holds of them; without conditions beyond each theorem's own. -/
import Derived.Test.YtoajhdnfdfbmaaaGreatDoorQartB
import Derived.Test.YtoajhdnfdfbmaaaGreatDoorProg
import Derived.Shelf.Strings.Builder1
import Derived.Shelf.Small.Utf8
import Derived.Shelf.Small.Strs
import Derived.Shelf.Strconv.Itoa0
import Derived.Shelf.Strconv.Itoa1
import Derived.Shelf.LaysM
import Derived.Shelf.Strconv.Itoa2
import Derived.Shelf.Strconv.Itoa3
import Derived.Shelf.Strings.Search1
import Derived.Shelf.Strings.Runes
import Derived.Shelf.Strings.AsciiSet
import Derived.Shelf.Unicode.DecodeSlow
import Derived.Ground.Names2Prog
import Derived.Shelf.Slices.Clone
import Derived.Below
import Derived.Deep.Draws
import Derived.Sort.Grow
import Derived.Lib.LaidTab
import Derived.ChangeMaps5
import Derived.Lib.Join
namespace Go.Proofs
open Go Go.Eng
theorem Tryz.k2 : tyK Tryz.prog 2 = some (false, 1) := by kernel_rfl
theorem Tryz.z2 : tyZ Tryz.prog 2 = some [.int .i64 0] := by kernel_rfl
theorem Tryz.u2 : Tryz.prog.underlying 2 = some (.int .i64) := by kernel_rfl
theorem Tryz.k3 : tyK Tryz.prog 3 = some (false, 1) := by kernel_rfl
theorem Tryz.z3 : tyZ Tryz.prog 3 = some [.int .i64 0] := by kernel_rfl
theorem Tryz.u3 : Tryz.prog.underlying 3 = some (.int .i64) := by kernel_rfl
theorem Tryz.z4 : tyZ Tryz.prog 4 = some [.bool false] := by kernel_rfl
theorem Tryz.b4 : Tryz.prog.underlying 4 = some .bool := by kernel_rfl
theorem Tryz.k5 : tyK Tryz.prog 5 = some (false, 1) := by kernel_rfl
theorem Tryz.z5 : tyZ Tryz.prog 5 = some [.int .u8 0] := by kernel_rfl
theorem Tryz.u5 : Tryz.prog.underlying 5 = some (.int .u8) := by kernel_rfl
theorem Tryz.k9 : tyK Tryz.prog 9 = some (false, 1) := by kernel_rfl
theorem Tryz.z9 : tyZ Tryz.prog 9 = some [str []] := by kernel_rfl
theorem Tryz.str9 : Tryz.prog.underlying 9 = some .string := by kernel_rfl
theorem Tryz.k22 : tyK Tryz.prog 22 = some (false, 1) := by kernel_rfl
theorem Tryz.s22 : tyS Tryz.prog 22 = some (49, 2, 32) := by kernel_rfl
theorem Tryz.k23 : tyK Tryz.prog 23 = some (false, 1) := by kernel_rfl
theorem Tryz.z23 : tyZ Tryz.prog 23 = some [.slice none 0 0] := by kernel_rfl
theorem Tryz.s23 : tyS Tryz.prog 23 = some (39, 11, 192) := by kernel_rfl
theorem Tryz.k25 : tyK Tryz.prog 25 = some (true, 2) := by kernel_rfl
theorem Tryz.z25 : tyZ Tryz.prog 25 = some [.slice none 0 0, .slice none 0 0] := by kernel_rfl
theorem Tryz.f25' : tyF Tryz.prog 25 = some [(0, 1), (1, 1)] := by kernel_rfl
theorem Tryz.s30 : tyS Tryz.prog 30 = some (47, 3, 48) := by kernel_rfl
theorem Tryz.k34 : tyK Tryz.prog 34 = some (false, 1) := by kernel_rfl
theorem Tryz.z34 : tyZ Tryz.prog 34 = some [.slice none 0 0] := by kernel_rfl
theorem Tryz.s34 : tyS Tryz.prog 34 = some (9, 1, 16) := by kernel_rfl
theorem Tryz.k36 : tyK Tryz.prog 36 = some (true, 3) := by kernel_rfl
theorem Tryz.z36 : tyZ Tryz.prog 36 = some [str [], .slice none 0 0, .slice none 0 0] := by kernel_rfl
theorem Tryz.f36' : tyF Tryz.prog 36 = some [(0, 1), (1, 1), (2, 1)] := by kernel_rfl
theorem Tryz.k37 : tyK Tryz.prog 37 = some (false, 1) := by kernel_rfl
theorem Tryz.z37 : tyZ Tryz.prog 37 = some [.slice none 0 0] := by kernel_rfl
theorem Tryz.s37 : tyS Tryz.prog 37 = some (45, 10, 192) := by kernel_rfl
theorem Tryz.k39 : tyK Tryz.prog 39 = some (true, 11) := by kernel_rfl
theorem Tryz.z39 : tyZ Tryz.prog 39 = some [.int .i64 0, .int .i64 0, str [], str [], str [], str [], str [], .slice none 0 0, .slice none 0 0, .slice none 0 0, .slice none 0 0] := by kernel_rfl
theorem Tryz.f39' : tyF Tryz.prog 39 = some [(0, 1), (1, 1), (2, 1), (3, 1), (4, 1), (5, 1), (6, 3), (9, 1), (10, 1)] := by kernel_rfl
theorem Tryz.k43 : tyK Tryz.prog 43 = some (false, 1) := by kernel_rfl
theorem Tryz.s43 : tyS Tryz.prog 43 = some (105, 4, 56) := by kernel_rfl
theorem Tryz.k45 : tyK Tryz.prog 45 = some (true, 10) := by kernel_rfl
theorem Tryz.z45 : tyZ Tryz.prog 45 = some [.int .i64 0, str [], str [], str [], str [], .slice none 0 0, .slice none 0 0, .slice none 0 0, .slice none 0 0, .slice none 0 0] := by kernel_rfl
theorem Tryz.f45' : tyF Tryz.prog 45 = some [(0, 1), (1, 1), (2, 1), (3, 1), (4, 3), (7, 1), (8, 1), (9, 1)] := by kernel_rfl
theorem Tryz.z47 : tyZ Tryz.prog 47 = some [str [], str [], str []] := by kernel_rfl
theorem Tryz.f47' : tyF Tryz.prog 47 = some [(0, 1), (1, 1), (2, 1)] := by kernel_rfl
theorem Tryz.k49 : tyK Tryz.prog 49 = some (true, 2) := by kernel_rfl
theorem Tryz.z49 : tyZ Tryz.prog 49 = some [str [], str []] := by kernel_rfl
theorem Tryz.f49' : tyF Tryz.prog 49 = some [(0, 1), (1, 1)] := by kernel_rfl
theorem Tryz.m60 : Tryz.prog.underlying 60 = some (.map 9 62) := by kernel_rfl
theorem Tryz.v62 : tyV Tryz.prog 62 = some (.nilFunc) := by kernel_rfl
theorem Tryz.k63 : tyK Tryz.prog 63 = some (false, 1) := by kernel_rfl
theorem Tryz.k64 : tyK Tryz.prog 64 = some (false, 1) := by kernel_rfl
theorem Tryz.s64 : tyS Tryz.prog 64 = some (5, 1, 1) := by kernel_rfl
theorem Tryz.k66 : tyK Tryz.prog 66 = some (true, 2) := by kernel_rfl
theorem Tryz.z66 : tyZ Tryz.prog 66 = some [.pointer none, .slice none 0 0] := by kernel_rfl
theorem Tryz.f66' : tyF Tryz.prog 66 = some [(0, 1), (1, 1)] := by kernel_rfl
theorem Tryz.k90 : tyK Tryz.prog 90 = some (false, 1) := by kernel_rfl
theorem Tryz.k105 : tyK Tryz.prog 105 = some (true, 4) := by kernel_rfl
theorem Tryz.z105 : tyZ Tryz.prog 105 = some [str [], str [], str [], .bool false] := by kernel_rfl
theorem Tryz.f105' : tyF Tryz.prog 105 = some [(0, 1), (1, 1), (2, 1), (3, 1)] := by kernel_rfl
theorem Tryz.k110 : tyK Tryz.prog 110 = some (false, 1) := by kernel_rfl
theorem Tryz.z110 : tyZ Tryz.prog 110 = some [.nilFunc] := by kernel_rfl
theorem Tryz.s124 : tyS Tryz.prog 124 = some (127, 2, 16) := by kernel_rfl
theorem Tryz.k127 : tyK Tryz.prog 127 = some (true, 2) := by kernel_rfl
theorem Tryz.z127 : tyZ Tryz.prog 127 = some [.int .i64 0, .int .i64 0] := by kernel_rfl
theorem Tryz.f127' : tyF Tryz.prog 127 = some [(0, 1), (1, 1)] := by kernel_rfl
theorem Tryz.k135 : tyK Tryz.prog 135 = some (false, 1) := by kernel_rfl
theorem Tryz.z135 : tyZ Tryz.prog 135 = some [.nilFunc] := by kernel_rfl
theorem Tryz.k136 : tyK Tryz.prog 136 = some (false, 1) := by kernel_rfl
theorem Tryz.z136 : tyZ Tryz.prog 136 = some [.nilFunc] := by kernel_rfl
theorem Tryz.s143 : tyS Tryz.prog 143 = some (3, 1, 8) := by kernel_rfl
theorem Tryz.z171 : tyZ Tryz.prog 171 = some [.int .u8 0, .int .u8 0, .int .u8 0, .int .u8 0, .int .u8 0, .int .u8 0, .int .u8 0, .int .u8 0, .int .u8 0, .int .u8 0, .int .u8 0, .int .u8 0, .int .u8 0, .int .u8 0, .int .u8 0, .int .u8 0, .int .u8 0, .int .u8 0, .int .u8 0, .int .u8 0, .int .u8 0, .int .u8 0, .int .u8 0, .int .u8 0, .int .u8 0, .int .u8 0, .int .u8 0, .int .u8 0, .int .u8 0, .int .u8 0, .int .u8 0, .int .u8 0, .int .u8 0, .int .u8 0, .int .u8 0, .int .u8 0, .int .u8 0, .int .u8 0, .int .u8 0, .int .u8 0, .int .u8 0, .int .u8 0, .int .u8 0, .int .u8 0, .int .u8 0, .int .u8 0, .int .u8 0, .int .u8 0, .int .u8 0, .int .u8 0, .int .u8 0, .int .u8 0, .int .u8 0, .int .u8 0, .int .u8 0, .int .u8 0, .int .u8 0, .int .u8 0, .int .u8 0, .int .u8 0, .int .u8 0, .int .u8 0, .int .u8 0, .int .u8 0, .int .u8 0] := by kernel_rfl
theorem Tryz.a171 : tyA Tryz.prog 171 = some (65, 5, 1) := by kernel_rfl
theorem Tryz.k179 : tyK Tryz.prog 179 = some (true, 2) := by kernel_rfl
theorem Tryz.z179 : tyZ Tryz.prog 179 = some [.int .i64 0, .int .i64 0] := by kernel_rfl
theorem Tryz.f179' : tyF Tryz.prog 179 = some [(0, 1), (1, 1)] := by kernel_rfl
theorem Tryz.s180 : tyS Tryz.prog 180 = some (179, 2, 16) := by kernel_rfl
theorem Tryz.c5 : canCall Tryz.prog 5 = true := by kernel_rfl
theorem Tryz.c6 : canCall Tryz.prog 6 = true := by kernel_rfl
theorem Tryz.c7 : canCall Tryz.prog 7 = true := by kernel_rfl
theorem Tryz.c9 : canCall Tryz.prog 9 = true := by kernel_rfl
theorem Tryz.c10 : canCall Tryz.prog 10 = true := by kernel_rfl
theorem Tryz.c11 : canCall Tryz.prog 11 = true := by kernel_rfl
theorem Tryz.c12 : canCall Tryz.prog 12 = true := by kernel_rfl
theorem Tryz.c13 : canCall Tryz.prog 13 = true := by kernel_rfl
theorem Tryz.c14 : canCall Tryz.prog 14 = true := by kernel_rfl
theorem Tryz.c15 : canCall Tryz.prog 15 = true := by kernel_rfl
theorem Tryz.c16 : canCall Tryz.prog 16 = true := by kernel_rfl
theorem Tryz.c17 : canCall Tryz.prog 17 = true := by kernel_rfl
theorem Tryz.c18 : canCall Tryz.prog 18 = true := by kernel_rfl
theorem Tryz.c19 : canCall Tryz.prog 19 = true := by kernel_rfl
theorem Tryz.c20 : canCall Tryz.prog 20 = true := by kernel_rfl
theorem Tryz.c21 : canCall Tryz.prog 21 = true := by kernel_rfl
theorem Tryz.c24 : canCall Tryz.prog 24 = true := by kernel_rfl
theorem Tryz.c25 : canCall Tryz.prog 25 = true := by kernel_rfl
theorem Tryz.c26 : canCall Tryz.prog 26 = true := by kernel_rfl
theorem Tryz.c27 : canCall Tryz.prog 27 = true := by kernel_rfl
theorem Tryz.c28 : canCall Tryz.prog 28 = true := by kernel_rfl
theorem Tryz.c29 : canCall Tryz.prog 29 = true := by kernel_rfl
theorem Tryz.c30 : canCall Tryz.prog 30 = true := by kernel_rfl
theorem Tryz.c31 : canCall Tryz.prog 31 = true := by kernel_rfl
theorem Tryz.c32 : canCall Tryz.prog 32 = true := by kernel_rfl
theorem Tryz.c33 : canCall Tryz.prog 33 = true := by kernel_rfl
theorem Tryz.c34 : canCall Tryz.prog 34 = true := by kernel_rfl
theorem Tryz.c35 : canCall Tryz.prog 35 = true := by kernel_rfl
theorem Tryz.c36 : canCall Tryz.prog 36 = true := by kernel_rfl
theorem Tryz.c37 : canCall Tryz.prog 37 = true := by kernel_rfl
theorem Tryz.c38 : canCall Tryz.prog 38 = true := by kernel_rfl
theorem Tryz.c39 : canCall Tryz.prog 39 = true := by kernel_rfl
theorem Tryz.c40 : canCall Tryz.prog 40 = true := by kernel_rfl
theorem Tryz.c41 : canCall Tryz.prog 41 = true := by kernel_rfl
theorem Tryz.c42 : canCall Tryz.prog 42 = true := by kernel_rfl
theorem Tryz.c43 : canCall Tryz.prog 43 = true := by kernel_rfl
theorem Tryz.c46 : canCall Tryz.prog 46 = true := by kernel_rfl
theorem Tryz.c47 : canCall Tryz.prog 47 = true := by kernel_rfl
theorem Tryz.c48 : canCall Tryz.prog 48 = true := by kernel_rfl
theorem Tryz.c49 : canCall Tryz.prog 49 = true := by kernel_rfl
theorem Tryz.c50 : canCall Tryz.prog 50 = true := by kernel_rfl
theorem Tryz.c51 : canCall Tryz.prog 51 = true := by kernel_rfl
theorem Tryz.c52 : canCall Tryz.prog 52 = true := by kernel_rfl
theorem Tryz.c53 : canCall Tryz.prog 53 = true := by kernel_rfl
theorem Tryz.c54 : canCall Tryz.prog 54 = true := by kernel_rfl
theorem Tryz.c55 : canCall Tryz.prog 55 = true := by kernel_rfl
theorem Tryz.c56 : canCall Tryz.prog 56 = true := by kernel_rfl
theorem Tryz.c57 : canCall Tryz.prog 57 = true := by kernel_rfl
theorem Tryz.c58 : canCall Tryz.prog 58 = true := by kernel_rfl
theorem Tryz.c59 : canCall Tryz.prog 59 = true := by kernel_rfl
theorem Tryz.c60 : canCall Tryz.prog 60 = true := by kernel_rfl
theorem Tryz.c61 : canCall Tryz.prog 61 = true := by kernel_rfl
theorem Tryz.c62 : canCall Tryz.prog 62 = true := by kernel_rfl
theorem Tryz.c63 : canCall Tryz.prog 63 = true := by kernel_rfl
theorem Tryz.c64 : canCall Tryz.prog 64 = true := by kernel_rfl
theorem Tryz.c65 : canCall Tryz.prog 65 = true := by kernel_rfl
theorem Tryz.c66 : canCall Tryz.prog 66 = true := by kernel_rfl
theorem Tryz.c67 : canCall Tryz.prog 67 = true := by kernel_rfl
theorem Tryz.c68 : canCall Tryz.prog 68 = true := by kernel_rfl
theorem Tryz.c69 : canCall Tryz.prog 69 = true := by kernel_rfl
theorem Tryz.c70 : canCall Tryz.prog 70 = true := by kernel_rfl
theorem Tryz.c71 : canCall Tryz.prog 71 = true := by kernel_rfl
theorem Tryz.c72 : canCall Tryz.prog 72 = true := by kernel_rfl
theorem Tryz.c73 : canCall Tryz.prog 73 = true := by kernel_rfl
theorem Tryz.c74 : canCall Tryz.prog 74 = true := by kernel_rfl
theorem Tryz.c75 : canCall Tryz.prog 75 = true := by kernel_rfl
theorem Tryz.c76 : canCall Tryz.prog 76 = true := by kernel_rfl
theorem Tryz.c77 : canCall Tryz.prog 77 = true := by kernel_rfl
theorem Tryz.c83 : canCall Tryz.prog 83 = true := by kernel_rfl
theorem Tryz.c85 : canCall Tryz.prog 85 = true := by kernel_rfl
theorem Tryz.c86 : canCall Tryz.prog 86 = true := by kernel_rfl
theorem Tryz.c87 : canCall Tryz.prog 87 = true := by kernel_rfl
theorem Tryz.c88 : canCall Tryz.prog 88 = true := by kernel_rfl
theorem Tryz.c90 : canCall Tryz.prog 90 = true := by kernel_rfl
theorem Tryz.c91 : canCall Tryz.prog 91 = true := by kernel_rfl
theorem Tryz.c92 : canCall Tryz.prog 92 = true := by kernel_rfl
theorem Tryz.c93 : canCall Tryz.prog 93 = true := by kernel_rfl
theorem Tryz.c94 : canCall Tryz.prog 94 = true := by kernel_rfl
theorem Tryz.c95 : canCall Tryz.prog 95 = true := by kernel_rfl
theorem Tryz.c96 : canCall Tryz.prog 96 = true := by kernel_rfl
theorem Tryz.c97 : canCall Tryz.prog 97 = true := by kernel_rfl
theorem Tryz.c98 : canCall Tryz.prog 98 = true := by kernel_rfl
theorem Tryz.c99 : canCall Tryz.prog 99 = true := by kernel_rfl
theorem Tryz.c100 : canCall Tryz.prog 100 = true := by kernel_rfl
theorem Tryz.c105 : canCall Tryz.prog 105 = true := by kernel_rfl
theorem Tryz.c106 : canCall Tryz.prog 106 = true := by kernel_rfl
theorem Tryz.c107 : canCall Tryz.prog 107 = true := by kernel_rfl
theorem Tryz.c110 : canCall Tryz.prog 110 = true := by kernel_rfl
theorem Tryz.c111 : canCall Tryz.prog 111 = true := by kernel_rfl
theorem Tryz.c112 : canCall Tryz.prog 112 = true := by kernel_rfl
theorem Tryz.c113 : canCall Tryz.prog 113 = true := by kernel_rfl
theorem Tryz.c114 : canCall Tryz.prog 114 = true := by kernel_rfl
theorem Tryz.c115 : canCall Tryz.prog 115 = true := by kernel_rfl
theorem Tryz.c116 : canCall Tryz.prog 116 = true := by kernel_rfl
theorem Tryz.c117 : canCall Tryz.prog 117 = true := by kernel_rfl
theorem Tryz.c118 : canCall Tryz.prog 118 = true := by kernel_rfl
theorem Tryz.c126 : canCall Tryz.prog 126 = true := by kernel_rfl
theorem Tryz.c127 : canCall Tryz.prog 127 = true := by kernel_rfl
theorem Tryz.c128 : canCall Tryz.prog 128 = true := by kernel_rfl
theorem Tryz.c129 : canCall Tryz.prog 129 = true := by kernel_rfl
theorem Tryz.c130 : canCall Tryz.prog 130 = true := by kernel_rfl
theorem Tryz.c131 : canCall Tryz.prog 131 = true := by kernel_rfl
theorem Tryz.c132 : canCall Tryz.prog 132 = true := by kernel_rfl
theorem Tryz.c133 : canCall Tryz.prog 133 = true := by kernel_rfl
theorem Tryz.c134 : canCall Tryz.prog 134 = true := by kernel_rfl
theorem Tryz.c135 : canCall Tryz.prog 135 = true := by kernel_rfl
theorem Tryz.c136 : canCall Tryz.prog 136 = true := by kernel_rfl
theorem Tryz.c137 : canCall Tryz.prog 137 = true := by kernel_rfl
theorem Tryz.c138 : canCall Tryz.prog 138 = true := by kernel_rfl
theorem Tryz.c139 : canCall Tryz.prog 139 = true := by kernel_rfl
theorem Tryz.c149 : canCall Tryz.prog 149 = true := by kernel_rfl
theorem Tryz.c150 : canCall Tryz.prog 150 = true := by kernel_rfl
theorem Tryz.c151 : canCall Tryz.prog 151 = true := by kernel_rfl
theorem Tryz.c152 : canCall Tryz.prog 152 = true := by kernel_rfl
theorem Tryz.c153 : canCall Tryz.prog 153 = true := by kernel_rfl
theorem Tryz.c154 : canCall Tryz.prog 154 = true := by kernel_rfl
theorem Tryz.c155 : canCall Tryz.prog 155 = true := by kernel_rfl
theorem Tryz.c159 : canCall Tryz.prog 159 = true := by kernel_rfl
theorem Tryz.c160 : canCall Tryz.prog 160 = true := by kernel_rfl
theorem Tryz.c161 : canCall Tryz.prog 161 = true := by kernel_rfl
theorem Tryz.c163 : canCall Tryz.prog 163 = true := by kernel_rfl
theorem Tryz.c164 : canCall Tryz.prog 164 = true := by kernel_rfl
theorem Tryz.c165 : canCall Tryz.prog 165 = true := by kernel_rfl
theorem Tryz.c166 : canCall Tryz.prog 166 = true := by kernel_rfl
theorem Tryz.c167 : canCall Tryz.prog 167 = true := by kernel_rfl
theorem Tryz.c168 : canCall Tryz.prog 168 = true := by kernel_rfl
theorem Tryz.c169 : canCall Tryz.prog 169 = true := by kernel_rfl
theorem Tryz.mixed : Tryz.prog.follows .mixedOrders = true := by kernel_rfl
end Go.Proofs
namespace Go.Proofs.Ytoajhdnfdfbmaaa
open Go Go.Eng
set_option linter.unusedSimpArgs false
set_option linter.unusedVariables false
def docT : DocTys Tryz.prog where
 int := 3
 bool := 4
 s := 9
 ss := 34
 pair := 49
 pairs := 22
 cite := 105
 cites := 43
 attr := 36
 inl := 45
 inls := 37
 blk := 39
 blks := 23
 hint := by kernel_rfl
 hbool := by kernel_rfl
 hs := by kernel_rfl
 hss := by kernel_rfl
 hpairs := by kernel_rfl
 hcites := by kernel_rfl
 hinls := by kernel_rfl
 hblks := by kernel_rfl
 hpair := ⟨Tryz.prog.fieldsOf 49, by kernel_rfl, by kernel_rfl⟩
 hcite := ⟨Tryz.prog.fieldsOf 105, by kernel_rfl, by kernel_rfl⟩
 hattr := ⟨Tryz.prog.fieldsOf 36, by kernel_rfl, by kernel_rfl⟩
 hinl := ⟨Tryz.prog.fieldsOf 45, by kernel_rfl, by kernel_rfl⟩
 hblk := ⟨Tryz.prog.fieldsOf 39, by kernel_rfl, by kernel_rfl⟩
 cint := by kernel_rfl
 cbool := by kernel_rfl
 cs := by kernel_rfl
 css := by kernel_rfl
 cpairs := by kernel_rfl
 ccites := by kernel_rfl
 cinls := by kernel_rfl
 cblks := by kernel_rfl
 cpair := by kernel_rfl
 ccite := by kernel_rfl
 cattr := by kernel_rfl
 cinl := by kernel_rfl
 cblk := by kernel_rfl
 ys := of_decide_eq_true (by kernel_rfl)
 ypair := of_decide_eq_true (by kernel_rfl)
 ycite := of_decide_eq_true (by kernel_rfl)
 yinl := of_decide_eq_true (by kernel_rfl)
 yblk := of_decide_eq_true (by kernel_rfl)
theorem docFl : FldsAre Tryz.prog 25 [(0, docT.pairs), (1, docT.blks)] := ⟨Tryz.prog.fieldsOf 25, by kernel_rfl, by kernel_rfl⟩
end Go.Proofs.Ytoajhdnfdfbmaaa
namespace Go.Eng
open Go Go.RowKit
set_option linter.unusedSimpArgs false
set_option linter.unusedVariables false
structure DNum where
 id : Bs
 kind : Bs
 value : Bs
 line : List Inl
def NumC (u : View) (x : DNum) (cs : List Value) : Prop := ∃ vl, cs = [str x.id, str x.kind, str x.value, vl] ∧ InlS u vl x.line
def NumsC (u : View) : List DNum → List Value → Prop
 | [], cs => cs = []
 | x :: xs, cs => ∃ c r, cs = c ++ r ∧ NumC u x c ∧ NumsC u xs r
def NumS (u : View) (v : Value) (xs : List DNum) : Prop := ∃ cs, IsSl u v xs.length 4 cs ∧ NumsC u xs cs
theorem NumC.mono {u u' : View} {x : DNum} {cs : List Value} (h : NumC u x cs) (hu : VLe u u') : NumC u' x cs := let ⟨vl, h1, h2⟩ := h; ⟨vl, h1, h2.mono hu⟩
theorem NumsC.mono {u u' : View} (hu : VLe u u') : ∀ {xs : List DNum} {cs : List Value}, NumsC u xs cs → NumsC u' xs cs
 | [], cs, h => h
 | x :: xs, cs, h => let ⟨c, r, h1, h2, h3⟩ := h; ⟨c, r, h1, h2.mono hu, NumsC.mono hu h3⟩
theorem NumS.mono {u u' : View} {v : Value} {xs : List DNum} (h : NumS u v xs) (hu : VLe u u') : NumS u' v xs := let ⟨cs, h1, h2⟩ := h; ⟨cs, h1.mono hu, h2.mono hu⟩
theorem NumC.len {u : View} {x : DNum} {cs : List Value} (h : NumC u x cs) : cs.length = 4 := by obtain ⟨_, rfl, _⟩ := h; rfl
theorem NumsC.len {u : View} : ∀ {xs : List DNum} {cs : List Value}, NumsC u xs cs → cs.length = xs.length * 4
 | [], cs, h => by simp only [NumsC] at h; subst h; rfl
 | x :: xs, cs, h => by
  obtain ⟨c, r, rfl, h2, h3⟩ := h
  simp [h2.len, h3.len, Nat.add_mul]; omega
theorem NumsC.append {u : View} : ∀ {xs ys : List DNum} {cs ds : List Value}, NumsC u xs cs → NumsC u ys ds → NumsC u (xs ++ ys) (cs ++ ds)
 | [], ys, cs, ds, h, k => by simp only [NumsC] at h; subst h; simpa using k
 | x :: xs, ys, cs, ds, h, k => by
  obtain ⟨c, r, rfl, h2, h3⟩ := h
  exact ⟨c, r ++ ds, by simp, h2, h3.append k⟩
theorem NumsC.get {u : View} : ∀ {xs : List DNum} {cs : List Value} (i : Nat) (x : DNum), NumsC u xs cs → xs[i]? = some x → NumC u x (cut cs (i * 4) 4)
 | [], cs, i, x, _, hi => by simp at hi
 | y :: ys, cs, i, x, h, hi => by
  obtain ⟨c, r, rfl, h2, h3⟩ := h
  have hl := h2.len
  cases i with
  | zero =>
   simp at hi
   subst hi
   have : cut (c ++ r) (0 * 4) 4 = c := by unfold cut; simp [← hl]
   rw [this]; exact h2
  | succ i =>
   have ih := NumsC.get i x h3 (by simpa using hi)
   have : cut (c ++ r) ((i + 1) * 4) 4 = cut r (i * 4) 4 := by
    unfold cut
    rw [show (i + 1) * 4 = c.length + i * 4 by omega, List.drop_append, List.drop_eq_nil_of_le (by omega), List.nil_append, Nat.add_sub_cancel_left]
   rw [this]; exact ih
theorem NumsC.at {u : View} {xs : List DNum} {cs : List Value} (h : NumsC u xs cs) {i : Nat} (hi : i < xs.length) :
  ∃ x vl, xs[i]? = some x ∧ cut cs (i * 4) 4 = [str x.id, str x.kind, str x.value, vl] ∧ InlS u vl x.line := by
 obtain ⟨vl, h1, h2⟩ := h.get i _ (List.getElem?_eq_getElem hi)
 exact ⟨_, vl, List.getElem?_eq_getElem hi, h1, h2⟩
theorem NumC.one {u : View} {x : DNum} {cs : List Value} (h : NumC u x cs) : cs.all Value.oneCell' = true := by
 obtain ⟨vl, rfl, ⟨ks, h5, _⟩⟩ := h
 simp [IsSl.one h5]
 simp [str, Value.oneCell']
theorem NumsC.ones {u : View} : ∀ {xs : List DNum} {cs : List Value}, NumsC u xs cs → cs.all Value.oneCell' = true
 | [], cs, h => by simp only [NumsC] at h; subst h; rfl
 | x :: xs, cs, h => by
  obtain ⟨c, r, rfl, h2, h3⟩ := h
  rw [List.all_append, h2.one, h3.ones]; rfl
theorem NumsC.one {u : View} {x : DNum} {c : List Value} (h : NumC u x c) : NumsC u [x] c := ⟨c, [], by simp, h, rfl⟩
end Go.Eng
namespace Go.Proofs.Ytoajhdnfdfbmaaa
open Go Go.Eng
set_option linter.unusedSimpArgs false
set_option linter.unusedVariables false
set_option maxRecDepth 4000
end Go.Proofs.Ytoajhdnfdfbmaaa
namespace Go.Proofs.Ytoajhdnfdfbmaaa
open Go Go.Eng
set_option linter.unusedSimpArgs false
set_option linter.unusedVariables false
set_option maxRecDepth 4000
def longN (a : DAttr) : Nat := a.id.length + (a.classes.map List.length).sum + (a.pairs.map fun p => p.1.length + p.2.length).sum
theorem sum_take {α : Type} (f : α → Nat) {xs : List α} {i : Nat} {x : α} (h : xs[i]? = some x) : ((xs.take (i + 1)).map f).sum = ((xs.take i).map f).sum + f x := by
 obtain ⟨hlt, rfl⟩ := List.getElem?_eq_some_iff.1 h
 rw [List.take_succ_eq_append_getElem hlt, List.map_append, List.sum_append]
 simp only [List.map_cons, List.map_nil, List.sum_cons, List.sum_nil, Nat.add_zero]
theorem sum_le {α : Type} (f : α → Nat) (B : Nat) : ∀ (xs : List α), (∀ x ∈ xs, f x ≤ B) → (xs.map f).sum ≤ xs.length * B
 | [], _ => by simp
 | x :: xs, h => by
  have := sum_le f B xs (fun y hy => h y (by simp [hy]))
  have := h x (by simp)
  simp only [List.map_cons, List.sum_cons, List.length_cons, Nat.add_mul]
  omega
theorem sum_take_le {α : Type} (f : α → Nat) (B : Nat) (xs : List α) (i : Nat) (h : ∀ x ∈ xs, f x ≤ B) : ((xs.take i).map f).sum ≤ xs.length * B := by
 refine Nat.le_trans (sum_le f B _ fun x hx => h x (List.mem_of_mem_take hx)) ?_
 exact Nat.mul_le_mul_right _ (by simp; omega)
theorem long_fn (a : DAttr) (vc vp : Value) (u : View) (hok : AttrOk a) (h1 : StrS u vc a.classes) (h2 : PrS u vp a.pairs) :
  FnP Tryz.prog 33 [.agg #[str a.id, vc, vp]] u fun v _ => v = .bool (decide (40 < a.classes.length ∨ 40 < a.pairs.length ∨ 600 < longN a)) := by
 obtain ⟨ad, cap, rfl, h1⟩ := h1
 obtain ⟨ad2, cap2, rfl, h2⟩ := h2
 obtain ⟨hid, ⟨hcl, hcs⟩, ⟨hpl, hps⟩⟩ := hok
 refine FnP.intro [.tmp 2] Tryz.func33 rfl rfl rfl ?_
 intro w0 D hw0
 refine Zc (Za (Zq rfl rfl ?_))
 refine Zbl trivial rfl (cs := [_, _, _]) rfl rfl rfl rfl ?_
 refine ya rfl rfl (Zd (ρ' := [(1, _)]) ⟨rfl, trivial⟩ ?_)
 refine Zb (Zc (Za (Zf (Zi rfl Tryz.f36' rfl (by decide) rfl) rfl ?_)))
 refine Zf (Zj rfl Tryz.k9 rfl rfl rfl (vs := [_]) rfl rfl rfl) rfl ?_
 refine Zf (Zan rfl rfl Tryz.str9 rfl) rfl ?_
 refine ya rfl rfl (Zd (ρ' := [(1, _), (3, _)]) ⟨rfl, rfl, trivial⟩ ?_)
 refine Zb (Zc (Zc ?_))
 refine Zca 18 ((decide (40 < a.classes.length ∨ 40 < a.pairs.length))) (ρk := [(1, _), (3, _)]) ⟨rfl, rfl, trivial⟩ ?_ ?_
 ·
  refine Za (Zf (Zi rfl Tryz.f36' rfl (by decide) rfl) rfl ?_)
  refine Zf (Zj rfl Tryz.k34 rfl rfl rfl (vs := [_]) rfl rfl rfl) rfl ?_
  refine Zf (Zal rfl rfl Tryz.s34 rfl) rfl ?_
  refine Zf (Zcd rfl rfl rfl) rfl ?_
  refine ym rfl rfl ?_
  rcases Bool.eq_false_or_eq_true (decide ((40 : Int) < a.classes.length)) with hg2_4 | hg2_4
  ·
   simp only [hg2_4]
   iterate 4 refine Zo rfl rfl rfl rfl ?_
   refine Zf (Zl rfl rfl rfl) rfl ?_
   exact Zak rfl ⟨rfl, rfl, trivial⟩ (by (first | refine (decide_eq_true ?_).symm | refine (decide_eq_false ?_).symm | refine decide_eq_decide.2 ?_ | refine decide_eq_true ?_ | refine decide_eq_false ?_) <;> (try unfold longN) <;> (try simp only [decide_eq_true_eq, decide_eq_false_iff_not] at *) <;> omega)
  ·
   simp only [hg2_4]
   refine Zk rfl rfl (Zf (Zi rfl Tryz.f36' rfl (by decide) rfl) rfl ?_)
   refine Zk rfl rfl (Zf (Zj rfl Tryz.k22 rfl rfl rfl (vs := [_]) rfl rfl rfl) rfl ?_)
   refine Zk rfl rfl (Zf (Zal rfl rfl Tryz.s22 rfl) rfl ?_)
   refine Zk rfl rfl (Zf (Zcd rfl rfl rfl) rfl ?_)
   refine Zf (Zm rfl rfl rfl) rfl ?_
   exact Zak rfl ⟨rfl, rfl, trivial⟩ (by (first | refine (decide_eq_true ?_).symm | refine (decide_eq_false ?_).symm | refine decide_eq_decide.2 ?_ | refine decide_eq_true ?_ | refine decide_eq_false ?_) <;> (try unfold longN) <;> (try simp only [decide_eq_true_eq, decide_eq_false_iff_not] at *) <;> omega)
 refine Zb ?_
 refine Zn rfl (fun hb2 => ?_) (fun hb2 => ?_)
 ·
  refine Zc (Za (ya rfl rfl (Zd (ρ' := [(2, _)]) ⟨rfl, trivial⟩ ?_)))
  refine Zb (Zv (Zh ?_))
  refine Zav (.tmp rfl) ?_
  have := of_decide_eq_true hb2
  rw [decide_eq_true]
  omega
 ·
  refine Zs (Zb (Zc (Zc (Za (ya rfl rfl (Zd (ρ' := [(1, _), (3, _), (4, _)]) ⟨rfl, rfl, rfl, trivial⟩ ?_))))))
  refine Zb (Zaa ?_)
  refine Zau (fun m ρ σ u' => ∃ i : Nat, i + m = a.classes.length ∧ VLe u u' ∧ σ = [(1, (none, .box [str a.id, .slice ad a.classes.length cap, .slice ad2 a.pairs.length cap2]))] ∧ ρ = [(1, .p 1 0), (3, .v (.int .i64 (a.id.length + ((a.classes.take i).map List.length).sum : Nat))), (4, .v (.int .i64 i))] ∧ (u = u')) (a.classes.length) ?_ ?_
  ·
   refine ⟨[(1, _), (3, _), (4, _)], [(1, _)], ⟨rfl, rfl, rfl, trivial⟩, ⟨rfl, trivial⟩, 0, by omega, VLe.refl _, (by first | rfl | simp), (by first | rfl | (simp only [List.cons.injEq, Prod.mk.injEq, SV.v.injEq, Value.int.injEq, true_and, and_true]; omega) | simp), ?_⟩
   rfl
  ·
   rintro m ρ σ u' ⟨i, hi5, hle5, rfl, rfl, rfl⟩
   refine Zc (Zc (Za (ym rfl rfl (Zf (Zi rfl Tryz.f36' rfl (by decide) rfl) rfl ?_))))
   refine Zf (Zj rfl Tryz.k34 rfl rfl rfl (vs := [_]) rfl rfl rfl) rfl ?_
   refine Zf (Zal rfl rfl Tryz.s34 rfl) rfl ?_
   refine Zf (Zbh rfl rfl rfl) rfl ?_
   refine Zd (ρ' := [(1, _), (3, _), (4, _), (23, _)]) ⟨rfl, rfl, rfl, rfl, trivial⟩ ?_
   refine Zb ?_
   refine Zn rfl (fun hb5 => ?_) (fun hb5 => ?_)
   ·
    refine Zs (Zb (Zc (Zaa ?_)))
    have hlt : i < a.classes.length := by have := of_decide_eq_true hb5; omega
    have h40 := of_decide_eq_false hb2
    have hg := List.getElem?_eq_getElem hlt
    have hc := cut_strsC hg
    have hst := sum_take List.length hg
    have hb := sum_take_le List.length _ a.classes i hcs
    have hcb := hcs _ (List.mem_of_getElem? hg)
    refine Za (ym rfl rfl (Zf (Zi rfl Tryz.f36' rfl (by decide) rfl) rfl ?_))
    refine Zf (Zj rfl Tryz.k34 rfl rfl rfl (vs := [_]) rfl rfl rfl) rfl ?_
    refine ym rfl rfl (Zf (Zai rfl Tryz.s34 rfl rfl (by assumption) (by first | rfl | omega) (by omega)) rfl ?_)
    refine Zf (Zag rfl Tryz.k9 rfl (by assumption) (by omega) (by assumption) (vs := [_]) rfl rfl rfl rfl) rfl ?_
    refine Zf (Zan rfl rfl Tryz.str9 rfl) rfl ?_
    refine Zf (Zas rfl rfl rfl (Zu (by omega))) rfl ?_
    refine ya rfl rfl (Zd (ρ' := [(1, _), (3, _), (4, _)]) ⟨rfl, rfl, rfl, trivial⟩ ?_)
    refine Zaf (Zb (Za (ym rfl rfl (Zf (Zas rfl rfl rfl (Zu (by omega))) rfl ?_))))
    refine ya rfl rfl (Zd (ρ' := [(1, _), (3, _), (4, _)]) ⟨rfl, rfl, rfl, trivial⟩ ?_)
    refine Zae ?_
    refine ⟨m - 1, [(1, _), (3, _), (4, _)], [(1, _)], by omega, ⟨rfl, rfl, rfl, trivial⟩, ⟨rfl, trivial⟩, i + 1, by omega, hle5, (by first | rfl | simp), (by first | rfl | (simp only [List.cons.injEq, Prod.mk.injEq, SV.v.injEq, Value.int.injEq, true_and, and_true]; omega) | simp), ?_⟩
    rfl
   ·
    refine Zat ?_
    refine Zp (Zp ?_)
    refine Zah ?_
    refine Zb (Zc (Zc (Za (ya rfl rfl (Zd (ρ' := [(1, _), (3, _), (5, _)]) ⟨rfl, rfl, rfl, trivial⟩ ?_)))))
    refine Zb (Zaa ?_)
    refine Zau (fun m ρ σ u' => ∃ i : Nat, i + m = a.pairs.length ∧ VLe u u' ∧ σ = [(1, (none, .box [str a.id, .slice ad a.classes.length cap, .slice ad2 a.pairs.length cap2]))] ∧ ρ = [(1, .p 1 0), (3, .v (.int .i64 (a.id.length + (a.classes.map List.length).sum + ((a.pairs.take i).map fun p => p.1.length + p.2.length).sum : Nat))), (5, .v (.int .i64 i))] ∧ (u = u')) (a.pairs.length) ?_ ?_
    ·
     refine ⟨[(1, _), (3, _), (5, _)], [(1, _)], ⟨rfl, rfl, rfl, trivial⟩, ⟨rfl, trivial⟩, 0, by omega, VLe.refl _, rfl, (by have hge := of_decide_eq_false hb5; rw [List.take_of_length_le (l := a.classes) (by omega)]; simp), ?_⟩
     rfl
    ·
     rintro m ρ σ u' ⟨i, hi9, hle9, rfl, rfl, rfl⟩
     refine Zc (Zc (Za (ym rfl rfl (Zf (Zi rfl Tryz.f36' rfl (by decide) rfl) rfl ?_))))
     refine Zf (Zj rfl Tryz.k22 rfl rfl rfl (vs := [_]) rfl rfl rfl) rfl ?_
     refine Zf (Zal rfl rfl Tryz.s22 rfl) rfl ?_
     refine Zf (Zbh rfl rfl rfl) rfl ?_
     refine Zd (ρ' := [(1, _), (3, _), (5, _), (38, _)]) ⟨rfl, rfl, rfl, rfl, trivial⟩ ?_
     refine Zb ?_
     refine Zn rfl (fun hb9 => ?_) (fun hb9 => ?_)
     ·
      refine Zs (Zb (Zc (Zaa ?_)))
      have hlt : i < a.pairs.length := by have := of_decide_eq_true hb9; omega
      have h40 := of_decide_eq_false hb2
      have hg := List.getElem?_eq_getElem hlt
      have hc := cut_pairsC hg
      have hst := sum_take (fun p : Bs × Bs => p.1.length + p.2.length) hg
      have hb := sum_take_le List.length _ a.classes a.classes.length hcs
      rw [List.take_of_length_le (Nat.le_refl _)] at hb
      have hb2' := sum_take_le (fun p : Bs × Bs => p.1.length + p.2.length) 281474976702464 a.pairs i (fun p hp => by have := hps p hp; omega)
      have hcb := hps _ (List.mem_of_getElem? hg)
      refine Zbu Tryz.mixed rfl [(1, _)] ⟨rfl, trivial⟩ ?_
      refine ra_y (i := 0) rfl (by kernel_rfl) (by kernel_rfl) (by kernel_rfl) (Zg (Ze (Ze (Zg (Ze (Zam)))))) (Zbj rfl rfl) rfl ?_
      refine ra_y (i := 1) rfl (by kernel_rfl) (by kernel_rfl) (by kernel_rfl) (Zg (Ze (Ze (Zg (Ze (Zam)))))) (Zi rfl Tryz.f36' rfl (by decide) rfl) rfl ?_
      refine ra_y (i := 2) rfl (by kernel_rfl) (by kernel_rfl) (by kernel_rfl) (Zg (Ze (Ze (Zg (Ze (Zam)))))) (Zj rfl Tryz.k22 rfl rfl rfl (vs := [_]) rfl rfl rfl) rfl ?_
      refine ra_y (i := 3) rfl (by kernel_rfl) (by kernel_rfl) (by kernel_rfl) (Zg (Ze (Ze (Zg (Ze (Zam)))))) (Zbj rfl rfl) rfl ?_
      refine ra_y (i := 4) rfl (by kernel_rfl) (by kernel_rfl) (by kernel_rfl) (Zg (Ze (Ze (Zg (Ze (Zam)))))) (Zai rfl Tryz.s22 rfl rfl (by assumption) (by first | rfl | omega) (by omega)) rfl ?_
      refine ra_y (i := 5) rfl (by kernel_rfl) (by kernel_rfl) (by kernel_rfl) (Zg (Ze (Ze (Zg (Ze (Zam)))))) (Zap rfl Tryz.f49' rfl (by decide) rfl) rfl ?_
      refine ra_y (i := 6) rfl (by kernel_rfl) (by kernel_rfl) (by kernel_rfl) (Zg (Ze (Ze (Zg (Ze (Zam)))))) (Zag rfl Tryz.k9 rfl (by assumption) (by omega) (by assumption) (vs := [_]) rfl rfl rfl rfl) rfl ?_
      refine ra_y (i := 7) rfl (by kernel_rfl) (by kernel_rfl) (by kernel_rfl) (Zg (Ze (Ze (Zg (Ze (Zam)))))) (Zan rfl rfl Tryz.str9 rfl) rfl ?_
      refine ra_y (i := 8) rfl (by kernel_rfl) (by kernel_rfl) (by kernel_rfl) (Zg (Ze (Ze (Zg (Ze (Zam)))))) (Zi rfl Tryz.f36' rfl (by decide) rfl) rfl ?_
      refine ra_y (i := 9) rfl (by kernel_rfl) (by kernel_rfl) (by kernel_rfl) (Zg (Ze (Ze (Zg (Ze (Zam)))))) (Zj rfl Tryz.k22 rfl rfl rfl (vs := [_]) rfl rfl rfl) rfl ?_
      refine ra_y (i := 10) rfl (by kernel_rfl) (by kernel_rfl) (by kernel_rfl) (Zg (Ze (Ze (Zg (Ze (Zam)))))) (Zbj rfl rfl) rfl ?_
      refine ra_y (i := 11) rfl (by kernel_rfl) (by kernel_rfl) (by kernel_rfl) (Zg (Ze (Ze (Zg (Ze (Zam)))))) (Zai rfl Tryz.s22 rfl rfl (by assumption) (by first | rfl | omega) (by omega)) rfl ?_
      refine ra_y (i := 12) rfl (by kernel_rfl) (by kernel_rfl) (by kernel_rfl) (Zg (Ze (Ze (Zg (Ze (Zam)))))) (Zap rfl Tryz.f49' rfl (by decide) rfl) rfl ?_
      refine ra_y (i := 13) rfl (by kernel_rfl) (by kernel_rfl) (by kernel_rfl) (Zg (Ze (Ze (Zg (Ze (Zam)))))) (Zag rfl Tryz.k9 rfl (by assumption) (by omega) (by assumption) (vs := [_]) rfl rfl rfl rfl) rfl ?_
      refine ra_y (i := 14) rfl (by kernel_rfl) (by kernel_rfl) (by kernel_rfl) (Zg (Ze (Ze (Zg (Ze (Zam)))))) (Zan rfl rfl Tryz.str9 rfl) rfl ?_
      refine ra_y (i := 15) rfl (by kernel_rfl) (by kernel_rfl) (by kernel_rfl) (Zg (Ze (Ze (Zg (Ze (Zam)))))) (Zas rfl rfl rfl (Zu (by omega))) rfl ?_
      refine ra_y (i := 16) rfl (by kernel_rfl) (by kernel_rfl) (by kernel_rfl) (Zg (Ze (Ze (Zg (Ze (Zam)))))) (Zas rfl rfl rfl (Zu (by omega))) rfl ?_
      refine ra_y (i := 17) rfl (by kernel_rfl) (by kernel_rfl) (by kernel_rfl) (Zg (Ze (Ze (Zg (Ze (Zam)))))) (y_assign rfl rfl) rfl ?_
      refine ra_end (by kernel_rfl) (ρ' := [(1, _), (3, _), (5, _)]) ⟨rfl, rfl, rfl, trivial⟩ ?_
      refine Zaf (Zb (Za (ym rfl rfl (Zf (Zas rfl rfl rfl (Zu (by omega))) rfl ?_))))
      refine ya rfl rfl (Zd (ρ' := [(1, _), (3, _), (5, _)]) ⟨rfl, rfl, rfl, trivial⟩ ?_)
      refine Zae ?_
      refine ⟨m - 1, [(1, _), (3, _), (5, _)], [(1, _)], by omega, ⟨rfl, rfl, rfl, trivial⟩, ⟨rfl, trivial⟩, i + 1, by omega, hle9, (by first | rfl | simp), (by first | rfl | (simp only [List.cons.injEq, Prod.mk.injEq, SV.v.injEq, Value.int.injEq, true_and, and_true]; omega) | simp), ?_⟩
      rfl
     ·
      refine Zat ?_
      refine Zp (Zp ?_)
      refine Zah ?_
      refine Zb (Zc ?_)
      have h40 := of_decide_eq_false hb2
      have hge := of_decide_eq_false hb9
      have hfull : ((a.pairs.take i).map fun p => p.1.length + p.2.length) = (a.pairs.map fun p => p.1.length + p.2.length) := by rw [List.take_of_length_le (by omega)]
      rw [hfull]
      refine Za (ym rfl rfl (Zf (Zcd rfl rfl rfl) rfl ?_))
      refine ya rfl rfl (Zd (ρ' := [(2, _)]) ⟨rfl, trivial⟩ ?_)
      refine Zb (Zv ?_)
      refine Zav (.tmp rfl) ?_
      congr 1
      refine decide_eq_decide.2 ?_
      unfold longN
      omega
end Go.Proofs.Ytoajhdnfdfbmaaa
namespace Go.Proofs.Ytoajhdnfdfbmaaa
open Go Go.Eng
set_option linter.unusedSimpArgs false
set_option linter.unusedVariables false
set_option maxRecDepth 4000
def NodeSm (t d ti : Bs) (a : DAttr) (args : List Bs) (cites : List DCite) : Prop :=
 t.length + d.length + ti.length ≤ 90000 ∧ a.classes.length ≤ 40 ∧ a.pairs.length ≤ 40 ∧ longN a ≤ 9000 ∧ args.length ≤ 9 ∧ cites.length ≤ 9 ∧ (∀ s ∈ args, s.length ≤ 50000) ∧ ∀ c ∈ cites, c.key.length + c.pre.length + c.suf.length ≤ 50000
mutual
def smI1 : Inl → Prop
 | .mk _ t d ti a args cites kids => NodeSm t d ti a args cites ∧ smI kids
def smI : List Inl → Prop
 | [] => True
 | x :: xs => smI1 x ∧ smI xs
end
theorem szI_append : ∀ (xs ys : List Inl), szI (xs ++ ys) = szI xs + szI ys
 | [], ys => by simp [szI]
 | x :: xs, ys => by
  rw [List.cons_append]
  simp only [szI, szI_append xs ys, Nat.add_assoc]
theorem szI_take {xs : List Inl} {i : Nat} {x : Inl} (h : xs[i]? = some x) : szI (xs.take (i + 1)) = szI (xs.take i) + sz1 x := by
 obtain ⟨hlt, rfl⟩ := List.getElem?_eq_some_iff.1 h
 rw [List.take_succ_eq_append_getElem hlt, szI_append]
 simp [szI]
theorem mem_take_succ {α : Type} {xs : List α} {i : Nat} {x y : α} (h : xs[i]? = some x) (hy : y ∈ xs.take (i + 1)) : y ∈ xs.take i ∨ y = x := by
 obtain ⟨hlt, rfl⟩ := List.getElem?_eq_some_iff.1 h
 rw [List.take_succ_eq_append_getElem hlt] at hy
 rcases List.mem_append.1 hy with h | h
 ·
  exact .inl h
 ·
  exact .inr (List.mem_singleton.1 h)
mutual
def smB1 : Blk → Prop
 | .mk _ _ inf t d ti a line kids => inf.length + t.length + d.length + ti.length ≤ 90000 ∧ a.classes.length ≤ 40 ∧ a.pairs.length ≤ 40 ∧ longN a ≤ 9000 ∧ smI line ∧ smB kids
def smB : List Blk → Prop
 | [] => True
 | x :: xs => smB1 x ∧ smB xs
end
theorem szB_append : ∀ (xs ys : List Blk), szB (xs ++ ys) = szB xs + szB ys
 | [], ys => by simp [szB]
 | x :: xs, ys => by
  rw [List.cons_append]
  simp only [szB, szB_append xs ys, Nat.add_assoc]
theorem szB_take {xs : List Blk} {i : Nat} {x : Blk} (h : xs[i]? = some x) : szB (xs.take (i + 1)) = szB (xs.take i) + szb x := by
 obtain ⟨hlt, rfl⟩ := List.getElem?_eq_some_iff.1 h
 rw [List.take_succ_eq_append_getElem hlt, szB_append]
 simp [szB]
theorem smI_get : ∀ {xs : List Inl} {i : Nat} {x : Inl}, smI xs → xs[i]? = some x → smI1 x
 | [], i, x, _, h => by simp at h
 | y :: ys, 0, x, h, hi => by
  simp at hi; subst hi
  unfold smI at h; exact h.1
 | y :: ys, i + 1, x, h, hi => by
  unfold smI at h
  exact smI_get h.2 (by simpa using hi)
theorem smB_get : ∀ {xs : List Blk} {i : Nat} {x : Blk}, smB xs → xs[i]? = some x → smB1 x
 | [], i, x, _, h => by simp at h
 | y :: ys, 0, x, h, hi => by
  simp at hi; subst hi
  unfold smB at h; exact h.1
 | y :: ys, i + 1, x, h, hi => by
  unfold smB at h
  exact smB_get h.2 (by simpa using hi)
end Go.Proofs.Ytoajhdnfdfbmaaa
namespace Go.Proofs
open Go.Shelf
def Tryz.laysM171_ren : Go.Shelf.Ren := ⟨fun | 171 => 56 | 243 => 89 | 246 => 108 | 283 => 122 | 284 => 123 | 285 => 124 | 286 => 125 | 129 => 145 | 317 => 144 | 318 => 146 | 319 => 147 | 320 => 148 | 337 => 157 | 338 => 158 | n => n, fun | 3 => 3 | 9 => 9 | 2 => 2 | 4 => 4 | 171 => 146 | 0 => 0 | 53 => 147 | 37 => 64 | 5 => 5 | 173 => 150 | 212 => 169 | 51 => 170 | 20 => 20 | 213 => 171 | 46 => 160 | 232 => 185 | 233 => 186 | n => n, fun | 17 => 2 | 18 => 4 | 19 => 5 | n => n⟩
theorem Tryz.laysM171 : Go.Proofs.LaysM.n171 Tryz.prog Tryz.laysM171_ren := {
 mixed := by kernel_rfl
 f129 := Tryz.func145.trans (congrArg some (by kernel_rfl))
 f171 := Tryz.func56.trans (congrArg some (by kernel_rfl))
 f243 := Tryz.func89.trans (congrArg some (by kernel_rfl))
 f246 := Tryz.func108.trans (congrArg some (by kernel_rfl))
 f283 := Tryz.func122.trans (congrArg some (by kernel_rfl))
 f284 := Tryz.func123.trans (congrArg some (by kernel_rfl))
 f285 := Tryz.func124.trans (congrArg some (by kernel_rfl))
 f286 := Tryz.func125.trans (congrArg some (by kernel_rfl))
 f317 := Tryz.func144.trans (congrArg some (by kernel_rfl))
 f318 := Tryz.func146.trans (congrArg some (by kernel_rfl))
 f319 := Tryz.func147.trans (congrArg some (by kernel_rfl))
 f320 := Tryz.func148.trans (congrArg some (by kernel_rfl))
 f337 := Tryz.func157.trans (congrArg some (by kernel_rfl))
 f338 := Tryz.func158.trans (congrArg some (by kernel_rfl))
 t0 := Tryz.underlying0
 a0 := Tryz.isAgg0
 z0 := Tryz.sizeOf0
 v0 := Tryz.zeroValue0
 t2 := Tryz.underlying2
 a2 := Tryz.isAgg2
 z2 := Tryz.sizeOf2
 v2 := Tryz.zeroValue2
 t3 := Tryz.underlying3
 a3 := Tryz.isAgg3
 z3 := Tryz.sizeOf3
 v3 := Tryz.zeroValue3
 t4 := Tryz.underlying4
 a4 := Tryz.isAgg4
 z4 := Tryz.sizeOf4
 v4 := Tryz.zeroValue4
 t5 := Tryz.underlying5
 a5 := Tryz.isAgg5
 z5 := Tryz.sizeOf5
 v5 := Tryz.zeroValue5
 t9 := Tryz.underlying9
 a9 := Tryz.isAgg9
 z9 := Tryz.sizeOf9
 v9 := Tryz.zeroValue9
 t20 := Tryz.underlying20
 a20 := Tryz.isAgg20
 z20 := Tryz.sizeOf20
 v20 := Tryz.zeroValue20
 t37 := Tryz.underlying64
 a37 := Tryz.isAgg64
 z37 := Tryz.sizeOf64
 v37 := Tryz.zeroValue64
 t46 := Tryz.underlying160
 a46 := Tryz.isAgg160
 z46 := Tryz.sizeOf160
 v46 := Tryz.zeroValue160
 t51 := Tryz.underlying170
 a51 := Tryz.isAgg170
 z51 := Tryz.sizeOf170
 v51 := Tryz.zeroValue170
 t53 := Tryz.underlying147
 a53 := Tryz.isAgg147
 z53 := Tryz.sizeOf147
 v53 := Tryz.zeroValue147
 t171 := Tryz.underlying146
 a171 := Tryz.isAgg146
 z171 := Tryz.sizeOf146
 v171 := Tryz.zeroValue146
 t173 := Tryz.underlying150
 a173 := Tryz.isAgg150
 z173 := Tryz.sizeOf150
 v173 := Tryz.zeroValue150
 t212 := Tryz.underlying169
 a212 := Tryz.isAgg169
 z212 := Tryz.sizeOf169
 v212 := Tryz.zeroValue169
 t213 := Tryz.underlying171
 a213 := Tryz.isAgg171
 z213 := Tryz.sizeOf171
 t232 := Tryz.underlying185
 a232 := Tryz.isAgg185
 z232 := Tryz.sizeOf185
 v232 := Tryz.zeroValue185
 t233 := Tryz.underlying186
 a233 := Tryz.isAgg186
 z233 := Tryz.sizeOf186
 v233 := Tryz.zeroValue186
 g17 := by kernel_rfl
 g18 := by kernel_rfl
 g19 := by kernel_rfl
 i0 := by kernel_rfl
 i2 := by kernel_rfl
 i3 := by kernel_rfl
 i4 := by kernel_rfl
 i5 := by kernel_rfl
 i9 := by kernel_rfl
 i20 := by kernel_rfl
 i37 := by kernel_rfl
 i46 := by kernel_rfl
 i51 := by kernel_rfl
 i53 := by kernel_rfl
 i171 := by kernel_rfl
 i173 := by kernel_rfl
 i212 := by kernel_rfl
 i232 := by kernel_rfl
 i233 := by kernel_rfl
 m17 := by kernel_rfl
 m18 := by kernel_rfl
 m19 := by kernel_rfl }
open Go.RowKit Go.Sort Go.Lib in
theorem Tryz.strconv_Itoa (n : Int) (h0 : -9223372036854775808 ≤ n) (h1 : n ≤ 9223372036854775807) (w : World) (htab : Lib.TabIs Tryz.prog w "internal/strconv.uint64pow10" .u64 Lib.pow10Tab) :
  Calls Tryz.prog 56 #[.int .i64 n] w fun e w' => e = .returned (.string ⟨(Lib.itoa n).toArray⟩) ∧ ∃ k os, w' = grow (w.drewN k) os := Any.strconv_Itoa Tryz.laysM171 n h0 h1 w htab
end Go.Proofs
namespace Go.Proofs.Ytoajhdnfdfbmaaa
open Go Go.Eng
set_option linter.unusedSimpArgs false
set_option linter.unusedVariables false
set_option maxRecDepth 4000
def TabU (u : View) : Prop := ∃ T fr, u 2 = some (.cells ((Lib.pow10Tab).map (Value.int .u64)).toArray T fr)
theorem TabU.mono {u u' : View} (h : TabU u) (hu : VLe u u') : TabU u' := let ⟨T, fr, h1⟩ := h; ⟨T, fr, hu _ _ h1⟩
theorem gTab : Tryz.prog.globalNamed "internal/strconv.uint64pow10" = some 2 := by kernel_rfl
theorem tabIs_of {u : View} {w : World} (h : TabU u) (hA : Agree u w) : Lib.TabIs Tryz.prog w "internal/strconv.uint64pow10" .u64 Lib.pow10Tab := by
 obtain ⟨T, fr, h1⟩ := h
 have := hA _ _ h1
 unfold Lib.TabIs World.var?
 rw [gTab]
 simp [this]
theorem grow_below (w : World) (k : Nat) (os : Array Obj) : RowKit.Below w.heap.size w (Sort.grow (w.drewN k) os) := by
 refine ⟨rfl, rfl, rfl, by simp [Sort.grow, World.drewN], fun i hi => ?_⟩
 simp [Sort.grow, World.drewN, Array.getElem?_append, hi]
theorem strS_of {u : View} {ad : Option Addr} {cap n : Nat} {xs : List Bs} (hn : n = xs.length) (h : SlC u ad n cap 1 (strsC xs)) : StrS u (.slice ad n cap) xs := by
 subst hn
 exact ⟨ad, cap, rfl, h⟩
end Go.Proofs.Ytoajhdnfdfbmaaa
namespace Go.Eng
open Go Go.RowKit
open Go.ChangeShapes Go.WideShapes
set_option linter.unusedSimpArgs false
set_option linter.unusedVariables false
theorem laidMet_tail {P : Program} {x : String × DataW Unit} {r : List (String × DataW Unit)} {W : World} (h : laidMet P (x :: r) W) : laidMet P r W := by
 obtain ⟨ps, ⟨g, t, cs, fuel, p, q, _, _, _, _, hq, rfl⟩, hnd, hc⟩ := h
 exact ⟨q, hq, (List.nodup_append.1 hnd).2.1, fun b off hm => hc b off (List.mem_append_right _ hm)⟩
theorem wok_of {H : Type} {P : Program} {ts : List TypeId} {ds : List (DataW H)} (h : (DataW.weightsEach P ts ds).all (· ≤ reachBytes) = true) (i : Nat) {t : TypeId} {d : DataW H} (ht : ts[i]? = some t) (hd : ds[i]? = some d) : WOk P t d := by
 intro n hn
 have := List.all_eq_true.1 h n (weightsEach_mem ht hd hn)
 have h2 := of_decide_eq_true this
 unfold reachBytes at h2
 omega
def litCell : DataW Unit → Value
 | .lit (.int k n) => .int k n
 | _ => undef
def datCells : DataW Unit → Array Value
 | .agg l => (l.flatMap fun d => match d with
  | .agg m => m.map litCell
  | x => [litCell x]).toArray
 | _ => #[]
section
variable {H : Type} {enc : TypeId × Value → H} {P : Program} {w : World} {base b0 : Nat} {spare : Nat → Bool} {held : Bool} {r : Reach}
theorem open_docV (T : DocTys P) {t : TypeId} {v : Value} {d : DataW H} {ps : List MemPlace} (ht : FldsAre P t [(0, T.pairs), (1, T.blks)]) (hc : P.cellsOf t = 2) (hw : WOk P t d) (hval : Value.okWide P w r b0 t v) (hd : DataW.Trod enc P w base spare held t v d ps) :
  ∃ (d : DDoc) (vm vb : Value), v = .agg #[vm, vb] ∧ PrS (wview w) vm d.mts ∧ BlkS (wview w) vb d.blocks ∧ DocOk d := by
 obtain ⟨fs, hu, _⟩ := id ht
 unfold Value.okWide at hval
 rw [hu] at hval
 obtain ⟨cs, rfl, hsz, _⟩ := hval
 obtain ⟨fuel, hf⟩ := hd
 obtain ⟨d, vm, vb, h1, h2⟩ := open_doc T ht hc hw hf
 refine ⟨d, vm, vb, ?_, h2⟩
 have h3 : cs.toList = [vm, vb] := h1
 have : cs = #[vm, vb] := by
  cases cs
  simpa using h3
 rw [this]
end
end Go.Eng
namespace Go.Proofs.Ytoajhdnfdfbmaaa
open Go Go.Eng
theorem tabU_of {W : World} (h : Lib.TabIs Tryz.prog W "internal/strconv.uint64pow10" .u64 Lib.pow10Tab) : TabU (wview W) := by
 unfold Lib.TabIs World.var? at h
 rw [gTab] at h
 unfold TabU wview
 cases hg : W.heap[2]? with
 | none => simp [hg] at h
 | some o =>
  cases o with
  | cells c T fr =>
   simp [hg] at h
   exact ⟨T, fr, by rw [h]⟩
  | _ => simp [hg] at h
end Go.Proofs.Ytoajhdnfdfbmaaa
namespace Go.Proofs.Ytoajhdnfdfbmaaa
open Go Go.Eng
set_option linter.unusedSimpArgs false
set_option linter.unusedVariables false
set_option maxRecDepth 4000
mutual
def plain1 : Inl → Bs
 | .mk k t d _ _ _ _ kids =>
  if k = 1 ∨ k = 4 ∨ k = 5 then t
  else if k = 2 ∨ k = 3 then [32]
  else if 6 ≤ k ∧ k ≤ 11 then plain kids
  else if k = 16 then d
  else []
def plain : List Inl → Bs
 | [] => []
 | x :: xs => plain1 x ++ plain xs
end
theorem plain_append : ∀ (xs ys : List Inl), plain (xs ++ ys) = plain xs ++ plain ys
 | [], ys => by simp [plain]
 | x :: xs, ys => by
  rw [List.cons_append]
  simp only [plain, plain_append xs ys, List.append_assoc]
theorem plain_take {xs : List Inl} {i : Nat} {x : Inl} (h : xs[i]? = some x) : plain (xs.take (i + 1)) = plain (xs.take i) ++ plain1 x := by
 obtain ⟨hlt, rfl⟩ := List.getElem?_eq_some_iff.1 h
 rw [List.take_succ_eq_append_getElem hlt, plain_append]
 simp [plain]
/- texts of at most B bytes -/
mutual
def txI1 (B : Nat) : Inl → Prop
 | .mk _ t d ti _ _ _ kids => t.length ≤ B ∧ d.length ≤ B ∧ ti.length ≤ B ∧ txI B kids
def txI (B : Nat) : List Inl → Prop
 | [] => True
 | x :: xs => txI1 B x ∧ txI B xs
end
mutual
theorem plain1_len (B : Nat) (hB : 1 ≤ B) : ∀ x : Inl, txI1 B x → (plain1 x).length ≤ B * sz1 x
 | .mk k t d ti a args cites kids, h => by
  unfold txI1 at h
  have ih := plain_len B hB kids h.2.2.2
  have e : B * sz1 (.mk k t d ti a args cites kids) = B + B * szI kids := by simp only [sz1, Nat.mul_add, Nat.mul_one]
  rw [e]
  simp only [plain1]
  repeat' split
  ·
   omega
  ·
   simp; omega
  ·
   omega
  ·
   omega
  ·
   simp
theorem plain_len (B : Nat) (hB : 1 ≤ B) : ∀ xs : List Inl, txI B xs → (plain xs).length ≤ B * szI xs
 | [], _ => by simp [plain]
 | x :: xs, h => by
  unfold txI at h
  have h1 := plain1_len B hB x h.1
  have h2 := plain_len B hB xs h.2
  simp only [plain, szI, List.length_append, Nat.mul_add]; omega
end
theorem txI_get {B : Nat} : ∀ {xs : List Inl} {i : Nat} {x : Inl}, txI B xs → xs[i]? = some x → txI1 B x
 | [], i, x, _, h => by simp at h
 | y :: ys, 0, x, h, hi => by
  simp at hi; subst hi
  unfold txI at h; exact h.1
 | y :: ys, i + 1, x, h, hi => by
  unfold txI at h
  exact txI_get h.2 (by simpa using hi)
end Go.Proofs.Ytoajhdnfdfbmaaa
namespace Go.Proofs.Ytoajhdnfdfbmaaa
open Go Go.Eng
set_option linter.unusedSimpArgs false
set_option linter.unusedVariables false
set_option maxRecDepth 4000
def trimL : Bs → Bs
 | [] => []
 | c :: s => if c = 32 then trimL s else c :: s
def trim (s : Bs) : Bs := (trimL (trimL s).reverse).reverse
def blank (s : Bs) : Bool := s.all fun c => decide (c = 32)
theorem trimL_nil : ∀ s : Bs, trimL s = [] ↔ blank s = true
 | [] => by simp [trimL, blank]
 | c :: s => by
  have ih := trimL_nil s
  simp only [trimL, blank, List.all_cons, Bool.and_eq_true, decide_eq_true_eq] at ih ⊢
  by_cases h : c = 32
  ·
   rw [if_pos h, ih]; simp [h]
  ·
   rw [if_neg h]; simp [h]
theorem trimL_blank : ∀ s : Bs, blank (trimL s) = blank s
 | [] => rfl
 | c :: s => by
  have ih := trimL_blank s
  by_cases h : c = 32
  ·
   rw [trimL, if_pos h, ih]; simp [blank, h]
  ·
   rw [trimL, if_neg h]
theorem trim_nil (s : Bs) : trim s = [] ↔ blank s = true := by
 unfold trim
 rw [List.reverse_eq_nil_iff, trimL_nil]
 have : blank (trimL s).reverse = blank (trimL s) := by simp [blank]
 rw [this, trimL_blank]
theorem blank_append (a b : Bs) : blank (a ++ b) = (blank a && blank b) := by simp [blank]
theorem trimL_le : ∀ s : Bs, (trimL s).length ≤ s.length
 | [] => Nat.le_refl _
 | c :: s => by
  have := trimL_le s
  rw [trimL]
  split <;> simp <;> omega
theorem trim_le (s : Bs) : (trim s).length ≤ s.length := by
 unfold trim
 have h1 := trimL_le (trimL s).reverse
 have h2 := trimL_le s
 simp at h1 ⊢
 omega
def roleS : Bs := [114, 111, 108, 101]
def decoS : Bs := [100, 101, 99, 111, 114, 97, 116, 105, 111, 110]
def getP (k : Bs) : List (Bs × Bs) → Option Bs
 | [] => none
 | p :: ps => if p.1 = k then some p.2 else getP k ps
def setP (k v : Bs) : List (Bs × Bs) → List (Bs × Bs)
 | [] => []
 | p :: ps => if p.1 = k then (p.1, v) :: ps else p :: setP k v ps
theorem getP_setP {k v : Bs} : ∀ {l : List (Bs × Bs)}, (getP k l).isSome = true → getP k (setP k v l) = some v
 | [], h => by simp [getP] at h
 | p :: ps, h => by
  by_cases e : p.1 = k
  ·
   rw [setP, if_pos e, getP, if_pos e]
  ·
   rw [getP, if_neg e] at h
   rw [setP, if_neg e, getP, if_neg e]
   exact getP_setP h
theorem setP_len (k v : Bs) : ∀ l : List (Bs × Bs), (setP k v l).length = l.length
 | [] => rfl
 | p :: ps => by
  rw [setP]
  split
  ·
   rfl
  ·
   simp [setP_len k v ps]
theorem getP_snoc {k v : Bs} : ∀ {l : List (Bs × Bs)}, getP k l = none → getP k (l ++ [(k, v)]) = some v
 | [], _ => by simp [getP]
 | p :: ps, h => by
  rw [getP] at h
  split at h
  ·
   cases h
  ·
   rename_i e
   rw [List.cons_append, getP, if_neg e, getP_snoc h]
def silent : Inl → Bool
 | .mk k _ _ _ a _ _ kids => decide (k = 10) && blank (plain kids) && decide ((getP roleS a.pairs).getD [] ≠ decoS)
def mute : Inl → Bool
 | .mk k _ _ _ _ _ _ kids => decide (k = 9) && blank (plain kids)
def decoA (a : DAttr) : DAttr × Bool :=
 if (getP roleS a.pairs).isSome = true then ({ a with pairs := setP roleS decoS a.pairs }, true)
 else if a.pairs.length < 32 then ({ a with pairs := a.pairs ++ [(roleS, decoS)] }, true)
 else (a, false)
theorem decoA_room {a : DAttr} (h : (decoA a).2 = true) : getP roleS (decoA a).1.pairs = some decoS := by
 unfold decoA at h ⊢
 by_cases h1 : (getP roleS a.pairs).isSome = true
 ·
  rw [if_pos h1]
  exact getP_setP h1
 ·
  rw [if_neg h1] at h ⊢
  by_cases h2 : a.pairs.length < 32
  ·
   rw [if_pos h2]
   exact getP_snoc (by simpa using h1)
  ·
   rw [if_neg h2] at h; cases h
theorem decoA_no {a : DAttr} (h : (decoA a).2 = false) : (decoA a).1 = a := by
 unfold decoA at h ⊢
 by_cases h1 : (getP roleS a.pairs).isSome = true
 ·
  rw [if_pos h1] at h; cases h
 ·
  rw [if_neg h1] at h ⊢
  by_cases h2 : a.pairs.length < 32
  ·
   rw [if_pos h2] at h; cases h
  ·
   rw [if_neg h2]
def tI (s : Bs) : Inl := .mk 1 s [] [] ⟨[], [], []⟩ [] [] []
mutual
def fixI1 : Inl → Inl × Bool
 | .mk k t d ti a args cites kids =>
  let r := fixI kids
  let x := Inl.mk k t d ti a args cites kids
  let da := if silent x = true then decoA a else (a, false)
  let add := mute x && !blank d
  (.mk k t d ti da.1 args cites (if add = true then r.1 ++ [tI d] else r.1), r.2 || da.2 || add)
def fixI : List Inl → List Inl × Bool
 | [] => ([], false)
 | x :: xs => ((fixI1 x).1 :: (fixI xs).1, (fixI1 x).2 || (fixI xs).2)
end
mutual
theorem fix_same1 : ∀ x : Inl, (fixI1 x).2 = false → (fixI1 x).1 = x
 | .mk k t d ti a args cites kids, h => by
  simp only [fixI1, Bool.or_eq_false_iff] at h ⊢
  obtain ⟨⟨h1, h2⟩, h3⟩ := h
  rw [fix_same kids h1]
  have e3 : ¬ (mute (Inl.mk k t d ti a args cites kids) && !blank d) = true := by rw [h3]; simp
  rw [if_neg e3]
  by_cases hs : silent (Inl.mk k t d ti a args cites kids) = true
  ·
   rw [if_pos hs] at h2 ⊢
   rw [decoA_no h2]
  ·
   rw [if_neg hs]
theorem fix_same : ∀ xs : List Inl, (fixI xs).2 = false → (fixI xs).1 = xs
 | [], _ => rfl
 | x :: xs, h => by
  simp only [fixI, Bool.or_eq_false_iff] at h ⊢
  rw [fix_same1 x h.1, fix_same xs h.2]
end
def plainK (k : Int) (t d p : Bs) : Bs :=
 if k = 1 ∨ k = 4 ∨ k = 5 then t else if k = 2 ∨ k = 3 then [32] else if 6 ≤ k ∧ k ≤ 11 then p else if k = 16 then d else []
theorem plain1_K (k : Int) (t d ti : Bs) (a : DAttr) (args : List Bs) (cites : List DCite) (kids : List Inl) : plain1 (.mk k t d ti a args cites kids) = plainK k t d (plain kids) := by
 simp only [plain1, plainK]
theorem plain_tI (d : Bs) : plain [tI d] = d := by simp [plain, plain1, tI]
mutual
theorem fix_grow1 : ∀ x : Inl, (plain1 x).length ≤ (plain1 (fixI1 x).1).length ∧ (blank (plain1 (fixI1 x).1) = true → blank (plain1 x) = true)
 | .mk k t d ti a args cites kids => by
  obtain ⟨h1, h2⟩ := fix_grow kids
  simp only [fixI1, plain1_K]
  unfold plainK
  have key : (plain kids).length ≤ (plain (if (mute (Inl.mk k t d ti a args cites kids) && !blank d) = true then (fixI kids).1 ++ [tI d] else (fixI kids).1)).length ∧
    (blank (plain (if (mute (Inl.mk k t d ti a args cites kids) && !blank d) = true then (fixI kids).1 ++ [tI d] else (fixI kids).1)) = true → blank (plain kids) = true) := by
   split
   ·
    rw [plain_append, plain_tI]
    refine ⟨by rw [List.length_append]; omega, fun h => ?_⟩
    rw [blank_append, Bool.and_eq_true] at h
    exact h2 h.1
   ·
    exact ⟨h1, h2⟩
  by_cases e1 : k = 1 ∨ k = 4 ∨ k = 5
  ·
   rw [if_pos e1, if_pos e1]; exact ⟨Nat.le_refl _, fun h => h⟩
  ·
   rw [if_neg e1, if_neg e1]
   by_cases e2 : k = 2 ∨ k = 3
   ·
    rw [if_pos e2, if_pos e2]; exact ⟨Nat.le_refl _, fun h => h⟩
   ·
    rw [if_neg e2, if_neg e2]
    by_cases e3 : 6 ≤ k ∧ k ≤ 11
    ·
     rw [if_pos e3, if_pos e3]; exact key
    ·
     rw [if_neg e3, if_neg e3]; exact ⟨Nat.le_refl _, fun h => h⟩
theorem fix_grow : ∀ xs : List Inl, (plain xs).length ≤ (plain (fixI xs).1).length ∧ (blank (plain (fixI xs).1) = true → blank (plain xs) = true)
 | [] => ⟨Nat.le_refl _, fun h => h⟩
 | x :: xs => by
  obtain ⟨h1, h2⟩ := fix_grow1 x
  obtain ⟨h3, h4⟩ := fix_grow xs
  simp only [fixI, plain, List.length_append, blank_append, Bool.and_eq_true]
  exact ⟨by omega, fun h => ⟨h2 h.1, h4 h.2⟩⟩
end
/- is there nothing more to repair? -/
mutual
def doneI1 : Inl → Bool
 | .mk k t d ti a args cites kids =>
  let x := Inl.mk k t d ti a args cites kids
  doneI kids && !(silent x && (decoA a).2) && !(mute x && !blank d)
def doneI : List Inl → Bool
 | [] => true
 | x :: xs => doneI1 x && doneI xs
end
mutual
theorem done_fix1 : ∀ x : Inl, doneI1 x = true → (fixI1 x).2 = false
 | .mk k t d ti a args cites kids, h => by
  simp only [doneI1, Bool.and_eq_true, Bool.not_eq_true'] at h
  obtain ⟨⟨h1, h2⟩, h3⟩ := h
  simp only [fixI1, done_fix kids h1, h3, Bool.false_or, Bool.or_false]
  split
  ·
   rename_i hs
   rw [hs] at h2; simpa using h2
  ·
   rfl
theorem done_fix : ∀ xs : List Inl, doneI xs = true → (fixI xs).2 = false
 | [], _ => rfl
 | x :: xs, h => by
  simp only [doneI, Bool.and_eq_true] at h
  simp only [fixI, done_fix1 x h.1, done_fix xs h.2, Bool.or_false]
end
theorem doneI_append : ∀ (xs ys : List Inl), doneI (xs ++ ys) = (doneI xs && doneI ys)
 | [], ys => by simp [doneI]
 | x :: xs, ys => by
  rw [List.cons_append]
  simp only [doneI, doneI_append xs ys, Bool.and_assoc]
theorem done_tI (d : Bs) : doneI [tI d] = true := by simp [doneI, doneI1, tI, silent, mute]
mutual
theorem fix_done1 : ∀ x : Inl, doneI1 (fixI1 x).1 = true
 | .mk k t d ti a args cites kids => by
  have ih := fix_done kids
  obtain ⟨_, hb⟩ := fix_grow kids
  simp only [fixI1]
  -- the kids behind the repair
  generalize hadd : (mute (Inl.mk k t d ti a args cites kids) && !blank d) = add
  have hkids : doneI (if add = true then (fixI kids).1 ++ [tI d] else (fixI kids).1) = true := by
   split
   ·
    rw [doneI_append, ih, done_tI]; rfl
   ·
    exact ih
  have hblank : blank (plain (if add = true then (fixI kids).1 ++ [tI d] else (fixI kids).1)) = true → blank (plain kids) = true ∧ add = false := by
   intro h
   split at h
   ·
    rename_i ha
    rw [plain_append, plain_tI, blank_append, Bool.and_eq_true] at h
    rw [ha] at hadd
    simp only [Bool.and_eq_true, Bool.not_eq_true'] at hadd
    rw [h.2] at hadd
    cases hadd.2
   ·
    rename_i ha
    exact ⟨hb h, by simpa using ha⟩
  simp only [doneI1, hkids, Bool.true_and, Bool.and_eq_true, Bool.not_eq_true']
  constructor
  ·
   -- silent
   rw [Bool.and_eq_false_iff]
   by_cases hs : silent (Inl.mk k t d ti a args cites kids) = true
   ·
    rw [if_pos hs]
    cases hr : (decoA a).2 with
    | true =>
     left
     simp [silent, decoA_room hr]
    | false =>
     right
     rw [decoA_no hr, hr]
   ·
    rw [if_neg hs]
    left
    cases hq : silent (Inl.mk k t d ti a args cites (if add = true then (fixI kids).1 ++ [tI d] else (fixI kids).1)) with
    | false => rfl
    | true =>
     refine absurd ?_ hs
     simp only [silent, Bool.and_eq_true] at hq ⊢
     exact ⟨⟨hq.1.1, (hblank hq.1.2).1⟩, hq.2⟩
  ·
   cases hq : (mute (Inl.mk k t d ti (if silent (Inl.mk k t d ti a args cites kids) = true then decoA a else (a, false)).1 args cites (if add = true then (fixI kids).1 ++ [tI d] else (fixI kids).1)) && !blank d) with
   | false => rfl
   | true =>
    simp only [Bool.and_eq_true, Bool.not_eq_true', mute] at hq
    obtain ⟨h1, h2⟩ := hblank hq.1.2
    rw [← hadd] at h2
    simp only [mute, hq.1.1, h1, hq.2, Bool.not_false, Bool.and_self] at h2
    cases h2
theorem fix_done : ∀ xs : List Inl, doneI (fixI xs).1 = true
 | [] => rfl
 | x :: xs => by
  simp only [fixI, doneI, fix_done1 x, fix_done xs, Bool.and_self]
end
end Go.Proofs.Ytoajhdnfdfbmaaa
namespace Go.Proofs.Ytoajhdnfdfbmaaa
open Go Go.Eng
set_option linter.unusedSimpArgs false
set_option linter.unusedVariables false
set_option maxRecDepth 4000
mutual
def deep1 : Inl → List Inl
 | .mk k t d ti a args cites kids => .mk k t d ti a args cites kids :: deep kids
def deep : List Inl → List Inl
 | [] => []
 | x :: xs => deep1 x ++ deep xs
end
mutual
def listb : Blk → List Blk
 | .mk k lv inf t d ti a line kids => .mk k lv inf t d ti a line kids :: listB kids
def listB : List Blk → List Blk
 | [] => []
 | x :: xs => listb x ++ listB xs
end
theorem deep_append : ∀ (xs ys : List Inl), deep (xs ++ ys) = deep xs ++ deep ys
 | [], ys => by simp [deep]
 | x :: xs, ys => by
  rw [List.cons_append]
  simp only [deep, deep_append xs ys, List.append_assoc]
theorem listB_append : ∀ (xs ys : List Blk), listB (xs ++ ys) = listB xs ++ listB ys
 | [], ys => by simp [listB]
 | x :: xs, ys => by
  rw [List.cons_append]
  simp only [listB, listB_append xs ys, List.append_assoc]
theorem deep_take {xs : List Inl} {i : Nat} {x : Inl} (h : xs[i]? = some x) : deep (xs.take (i + 1)) = deep (xs.take i) ++ deep1 x := by
 obtain ⟨hlt, rfl⟩ := List.getElem?_eq_some_iff.1 h
 rw [List.take_succ_eq_append_getElem hlt, deep_append]
 simp [deep]
theorem listB_take {xs : List Blk} {i : Nat} {x : Blk} (h : xs[i]? = some x) : listB (xs.take (i + 1)) = listB (xs.take i) ++ listb x := by
 obtain ⟨hlt, rfl⟩ := List.getElem?_eq_some_iff.1 h
 rw [List.take_succ_eq_append_getElem hlt, listB_append]
 simp [listB]
mutual
theorem deep1_len : ∀ x : Inl, (deep1 x).length = sz1 x
 | .mk k t d ti a args cites kids => by simp only [deep1, sz1, List.length_cons, deep_len kids]; omega
theorem deep_len : ∀ xs : List Inl, (deep xs).length = szI xs
 | [] => rfl
 | x :: xs => by simp only [deep, szI, List.length_append, deep1_len x, deep_len xs]
end
mutual
theorem listb_len : ∀ x : Blk, (listb x).length ≤ szb x
 | .mk k lv inf t d ti a line kids => by have := listB_len kids; simp only [listb, szb, List.length_cons]; omega
theorem listB_len : ∀ xs : List Blk, (listB xs).length ≤ szB xs
 | [] => Nat.le_refl _
 | x :: xs => by have := listb_len x; have := listB_len xs; simp only [listB, szB, List.length_append]; omega
end
theorem szI_take_le : ∀ (xs : List Inl) (i : Nat), szI (xs.take i) ≤ szI xs
 | [], i => by simp
 | x :: xs, 0 => by simp [szI]
 | x :: xs, i + 1 => by have := szI_take_le xs i; simp only [List.take_succ_cons, szI]; omega
theorem szB_take_le : ∀ (xs : List Blk) (i : Nat), szB (xs.take i) ≤ szB xs
 | [], i => by simp
 | x :: xs, 0 => by simp [szB]
 | x :: xs, i + 1 => by have := szB_take_le xs i; simp only [List.take_succ_cons, szB]; omega
theorem inlS_of {u : View} {ad : Option Addr} {cap n : Nat} {xs : List Inl} {cs : List Value} (hn : n = xs.length) (h : SlC u ad n cap 10 cs) (hc : InlsC u xs cs) : InlS u (.slice ad n cap) xs := by
 subst hn
 exact ⟨cs, ⟨ad, cap, rfl, h⟩, hc⟩
theorem blkS_of {u : View} {ad : Option Addr} {cap n : Nat} {xs : List Blk} {cs : List Value} (hn : n = xs.length) (h : SlC u ad n cap 11 cs) (hc : BlksC u xs cs) : BlkS u (.slice ad n cap) xs := by
 subst hn
 exact ⟨cs, ⟨ad, cap, rfl, h⟩, hc⟩
theorem deep_fn (n : Nat) : ∀ (v : Value) (xs : List Inl) (u : View), szI xs ≤ n → szI xs ≤ 1000000 → InlS u v xs →
  FnP Tryz.prog 32 [v] u fun r u' => InlS u' r (deep xs) := by
 induction n using Nat.strongRecOn with
 | _ n ih =>
 intro v xs u hsz hbig ha
 have hlx := len_szI xs
 obtain ⟨cs, ⟨ad, cap, rfl, h1⟩, hc1⟩ := ha
 refine FnP.intro [.tmp 2] Tryz.func32 rfl rfl rfl ?_
 intro w0 D hw0
 refine Zc (Za (ya rfl rfl (Zd (ρ' := [(0, _)]) ⟨rfl, trivial⟩ ?_)))
 refine Zb (Zc (Za (ya rfl rfl ?_)))
 refine Zbz 3 503 45 10 rfl rfl rfl ?_
 refine Zd (ρ' := [(0, _), (3, _)]) ⟨rfl, rfl, trivial⟩ ?_
 refine Zb (Zc (Zc (Za (ya rfl rfl (Zd (ρ' := [(0, _), (3, _), (4, _)]) ⟨rfl, rfl, rfl, trivial⟩ ?_)))))
 refine Zb (Zaa ?_)
 refine Zau (fun m ρ σ u' => ∃ i : Nat, i + m = xs.length ∧ VLe u u' ∧ ∃ (acc : List Value), σ = [(503, (none, .row 45 10 (deep (xs.take i)).length acc))] ∧ ρ = [(0, .v (.slice ad xs.length cap)), (3, .s 503), (4, .v (.int .i64 i))] ∧ (InlsC u' (deep (xs.take i)) acc)) (xs.length) ?_ ?_
 ·
  refine ⟨[(0, _), (3, _), (4, _)], [(503, _)], ⟨rfl, rfl, rfl, trivial⟩, ⟨rfl, trivial⟩, 0, by omega, VLe.refl _, [], (by first | rfl | simp), (by first | rfl | (simp only [List.cons.injEq, Prod.mk.injEq, SV.v.injEq, Value.int.injEq, true_and, and_true]; omega) | simp), ?_⟩
  exact InlsC.nil
 ·
  rintro m ρ σ u' ⟨i, hi3, hle3, acc, rfl, rfl, hacc⟩
  have h1' := h1.mono hle3
  have hc1' := hc1.mono hle3
  refine Zc (Zc (Za (ym rfl rfl (ym rfl rfl (Zf (Zal rfl rfl Tryz.s37 rfl) rfl ?_)))))
  refine Zf (Zbh rfl rfl rfl) rfl ?_
  refine Zd (ρ' := [(0, _), (3, _), (4, _), (8, _)]) ⟨rfl, rfl, rfl, rfl, trivial⟩ ?_
  refine Zb ?_
  refine Zn rfl (fun hb3 => ?_) (fun hb3 => ?_)
  ·
   refine Zs (Zb (Zc (Zaa (Zc ?_))))
   have hlt : i < xs.length := by have := of_decide_eq_true hb3; omega
   obtain ⟨k, t, d, ti, a, args, cites, kids, vc, vp, va, vt, vk, hg, hcut1, s1, s2, s3, s4, s5, hok⟩ := hc1'.at hlt
   have hx := hc1'.get i _ hg
   rw [hcut1] at hx
   have oneAll := hx.one
   have hkid := szI_kids hg
   have hst := szI_take hg
   have hs1 := szI_take_le xs i
   have hs2 := szI_take_le xs (i + 1)
   have hdl := deep_len (xs.take i)
   have hdk := deep_len kids
   simp only [sz1] at hst
   refine Za (ym rfl rfl (ym rfl rfl (ym rfl rfl (Zf (Zai rfl Tryz.s37 rfl rfl (by assumption) (by first | rfl | omega) (by omega)) rfl ?_))))
   refine Zf (Zag rfl Tryz.k45 rfl (by assumption) (by omega) (by assumption) (vs := [_, _, _, _, _, _, _, _, _, _]) rfl rfl rfl rfl) rfl ?_
   refine Zq rfl rfl ?_
   refine Zac trivial Tryz.s37 Tryz.z45 (ps := [(_, _)]) rfl (xs := [_, _, _, _, _, _, _, _, _, _]) rfl rfl rfl rfl rfl rfl rfl ?_
   refine Zq rfl rfl ?_
   refine Zbr trivial rfl rfl Tryz.s37 Tryz.z45 rfl rfl rfl rfl rfl rfl (by first | rfl | assumption | simp [Value.oneCell', str]) (by omega) (by omega) (ρ' := [(0, _), (4, _)]) ⟨rfl, rfl, trivial⟩ rfl rfl rfl ?_
   refine ya rfl rfl ?_
   refine Zch 17 503 rfl rfl rfl ?_
   refine Zd (ρ' := [(0, _), (3, _), (4, _)]) ⟨rfl, rfl, rfl, trivial⟩ ?_
   refine Zb (Za (ym rfl rfl (ym rfl rfl (ym rfl rfl (Zf (Zai rfl Tryz.s37 rfl rfl (by assumption) (by first | rfl | omega) (by omega)) rfl ?_)))))
   refine Zf (Zap rfl Tryz.f45' rfl (by decide) rfl) rfl ?_
   refine Zf (Zag rfl Tryz.k37 rfl (by assumption) (by omega) (by assumption) (vs := [_]) rfl rfl rfl rfl) rfl ?_
   refine Zq rfl rfl ?_
   refine Zbb (caps := []) trivial rfl rfl Tryz.c32 rfl (FnP.mono (ih (szI kids) (by omega) vk kids u' (Nat.le_refl _) (by omega) s5) ?_)
   rintro v u1 hle0 ⟨ks, ⟨adk, capk, rfl, hk⟩, hkc⟩ hle1
   refine Zq rfl rfl ?_
   refine Zbx trivial rfl rfl Tryz.s37 Tryz.z45 rfl rfl rfl rfl rfl (by assumption) hkc.ones (by omega) (by omega) (ρ' := [(0, _), (4, _)]) ⟨rfl, rfl, trivial⟩ rfl rfl rfl ?_
   refine ya rfl rfl ?_
   refine Zch 25 503 rfl rfl rfl ?_
   refine Zd (ρ' := [(0, _), (3, _), (4, _)]) ⟨rfl, rfl, rfl, trivial⟩ ?_
   refine Zaf (Zb (Za (ym rfl rfl (Zf (Zas rfl rfl rfl (Zu (by omega))) rfl ?_))))
   refine ya rfl rfl (Zd (ρ' := [(0, _), (3, _), (4, _)]) ⟨rfl, rfl, rfl, trivial⟩ ?_)
   refine Zae ?_
   refine ⟨m - 1, [(0, _), (3, _), (4, _)], [(503, _)], by omega, ⟨rfl, rfl, rfl, trivial⟩, ⟨rfl, trivial⟩, i + 1, by omega, (hle3.trans hle1), _, (by rw [deep_take hg]; simp only [deep1, List.length_append, List.length_cons]; congr 4; omega), (by first | rfl | simp), ?_⟩
   rw [deep_take hg]
   simp only [deep1]
   rw [List.append_assoc]
   exact (hacc.mono hle1).append ((InlsC.one (hx.mono hle1)).append hkc)
  ·
   refine Zat ?_
   refine Zp (Zp ?_)
   refine Zah ?_
   refine Zb (Zc (Za (ym rfl rfl (ya rfl rfl ?_))))
   refine Zbm 503 rfl ?_
   intro ad503 cap503 u503 hle503z hsl503
   refine Zd (ρ' := [(2, _)]) ⟨rfl, trivial⟩ ?_
   refine Zb (Zv ?_)
   refine Zav (.tmp rfl) ?_
   have hge := of_decide_eq_false hb3
   rw [List.take_of_length_le (by omega)] at hacc hsl503 ⊢
   exact inlS_of rfl hsl503 (hacc.mono hle503z)
theorem list_fn (n : Nat) : ∀ (v : Value) (xs : List Blk) (u : View), szB xs ≤ n → szB xs ≤ 1000000 → BlkS u v xs →
  FnP Tryz.prog 10 [v] u fun r u' => BlkS u' r (listB xs) := by
 induction n using Nat.strongRecOn with
 | _ n ih =>
 intro v xs u hsz hbig ha
 have hlx := len_szB xs
 obtain ⟨cs, ⟨ad, cap, rfl, h1⟩, hc1⟩ := ha
 refine FnP.intro [.tmp 2] Tryz.func10 rfl rfl rfl ?_
 intro w0 D hw0
 refine Zc (Za (ya rfl rfl (Zd (ρ' := [(0, _)]) ⟨rfl, trivial⟩ ?_)))
 refine Zb (Zc (Za (ya rfl rfl ?_)))
 refine Zbz 3 503 39 11 rfl rfl rfl ?_
 refine Zd (ρ' := [(0, _), (3, _)]) ⟨rfl, rfl, trivial⟩ ?_
 refine Zb (Zc (Zc (Za (ya rfl rfl (Zd (ρ' := [(0, _), (3, _), (4, _)]) ⟨rfl, rfl, rfl, trivial⟩ ?_)))))
 refine Zb (Zaa ?_)
 refine Zau (fun m ρ σ u' => ∃ i : Nat, i + m = xs.length ∧ VLe u u' ∧ ∃ (acc : List Value), σ = [(503, (none, .row 39 11 (listB (xs.take i)).length acc))] ∧ ρ = [(0, .v (.slice ad xs.length cap)), (3, .s 503), (4, .v (.int .i64 i))] ∧ (BlksC u' (listB (xs.take i)) acc)) (xs.length) ?_ ?_
 ·
  refine ⟨[(0, _), (3, _), (4, _)], [(503, _)], ⟨rfl, rfl, rfl, trivial⟩, ⟨rfl, trivial⟩, 0, by omega, VLe.refl _, [], (by first | rfl | simp), (by first | rfl | (simp only [List.cons.injEq, Prod.mk.injEq, SV.v.injEq, Value.int.injEq, true_and, and_true]; omega) | simp), ?_⟩
  exact BlksC.nil
 ·
  rintro m ρ σ u' ⟨i, hi3, hle3, acc, rfl, rfl, hacc⟩
  have h1' := h1.mono hle3
  have hc1' := hc1.mono hle3
  refine Zc (Zc (Za (ym rfl rfl (ym rfl rfl (Zf (Zal rfl rfl Tryz.s23 rfl) rfl ?_)))))
  refine Zf (Zbh rfl rfl rfl) rfl ?_
  refine Zd (ρ' := [(0, _), (3, _), (4, _), (8, _)]) ⟨rfl, rfl, rfl, rfl, trivial⟩ ?_
  refine Zb ?_
  refine Zn rfl (fun hb3 => ?_) (fun hb3 => ?_)
  ·
   refine Zs (Zb (Zc (Zaa (Zc ?_))))
   have hlt : i < xs.length := by have := of_decide_eq_true hb3; omega
   obtain ⟨k, lv, inf, t, d, ti, a, line, kids, vc, vp, vl, vk, hg, hcut1, s1, s2, s3, s4, hok⟩ := hc1'.at hlt
   have hx := hc1'.get i _ hg
   rw [hcut1] at hx
   have oneAll := hx.one
   have hkid := (szB_kids hg).1
   have hst := szB_take hg
   have hs1 := szB_take_le xs i
   have hs2 := szB_take_le xs (i + 1)
   have hdl := listB_len (xs.take i)
   have hdk := listB_len kids
   simp only [szb] at hst
   refine Za (ym rfl rfl (ym rfl rfl (ym rfl rfl (Zf (Zai rfl Tryz.s23 rfl rfl (by assumption) (by first | rfl | omega) (by omega)) rfl ?_))))
   refine Zf (Zag rfl Tryz.k39 rfl (by assumption) (by omega) (by assumption) (vs := [_, _, _, _, _, _, _, _, _, _, _]) rfl rfl rfl rfl) rfl ?_
   refine Zq rfl rfl ?_
   refine Zac trivial Tryz.s23 Tryz.z39 (ps := [(_, _)]) rfl (xs := [_, _, _, _, _, _, _, _, _, _, _]) rfl rfl rfl rfl rfl rfl rfl ?_
   refine Zq rfl rfl ?_
   refine Zbr trivial rfl rfl Tryz.s23 Tryz.z39 rfl rfl rfl rfl rfl rfl (by first | rfl | assumption | simp [Value.oneCell', str]) (by omega) (by omega) (ρ' := [(0, _), (4, _)]) ⟨rfl, rfl, trivial⟩ rfl rfl rfl ?_
   refine ya rfl rfl ?_
   refine Zch 17 503 rfl rfl rfl ?_
   refine Zd (ρ' := [(0, _), (3, _), (4, _)]) ⟨rfl, rfl, rfl, trivial⟩ ?_
   refine Zb (Za (ym rfl rfl (ym rfl rfl (ym rfl rfl (Zf (Zai rfl Tryz.s23 rfl rfl (by assumption) (by first | rfl | omega) (by omega)) rfl ?_)))))
   refine Zf (Zap rfl Tryz.f39' rfl (by decide) rfl) rfl ?_
   refine Zf (Zag rfl Tryz.k23 rfl (by assumption) (by omega) (by assumption) (vs := [_]) rfl rfl rfl rfl) rfl ?_
   refine Zq rfl rfl ?_
   refine Zbb (caps := []) trivial rfl rfl Tryz.c10 rfl (FnP.mono (ih (szB kids) (by omega) vk kids u' (Nat.le_refl _) (by omega) s4) ?_)
   rintro v u1 hle0 ⟨ks, ⟨adk, capk, rfl, hk⟩, hkc⟩ hle1
   refine Zq rfl rfl ?_
   refine Zbx trivial rfl rfl Tryz.s23 Tryz.z39 rfl rfl rfl rfl rfl (by assumption) hkc.ones (by omega) (by omega) (ρ' := [(0, _), (4, _)]) ⟨rfl, rfl, trivial⟩ rfl rfl rfl ?_
   refine ya rfl rfl ?_
   refine Zch 25 503 rfl rfl rfl ?_
   refine Zd (ρ' := [(0, _), (3, _), (4, _)]) ⟨rfl, rfl, rfl, trivial⟩ ?_
   refine Zaf (Zb (Za (ym rfl rfl (Zf (Zas rfl rfl rfl (Zu (by omega))) rfl ?_))))
   refine ya rfl rfl (Zd (ρ' := [(0, _), (3, _), (4, _)]) ⟨rfl, rfl, rfl, trivial⟩ ?_)
   refine Zae ?_
   refine ⟨m - 1, [(0, _), (3, _), (4, _)], [(503, _)], by omega, ⟨rfl, rfl, rfl, trivial⟩, ⟨rfl, trivial⟩, i + 1, by omega, (hle3.trans hle1), _, (by rw [listB_take hg]; simp only [listb, List.length_append, List.length_cons]; congr 4; omega), (by first | rfl | simp), ?_⟩
   rw [listB_take hg]
   simp only [listb]
   rw [List.append_assoc]
   exact (hacc.mono hle1).append ((BlksC.one (hx.mono hle1)).append hkc)
  ·
   refine Zat ?_
   refine Zp (Zp ?_)
   refine Zah ?_
   refine Zb (Zc (Za (ym rfl rfl (ya rfl rfl ?_))))
   refine Zbm 503 rfl ?_
   intro ad503 cap503 u503 hle503z hsl503
   refine Zd (ρ' := [(2, _)]) ⟨rfl, trivial⟩ ?_
   refine Zb (Zv ?_)
   refine Zav (.tmp rfl) ?_
   have hge := of_decide_eq_false hb3
   rw [List.take_of_length_le (by omega)] at hacc hsl503 ⊢
   exact blkS_of rfl hsl503 (hacc.mono hle503z)
def lineOf : Blk → List Inl
 | .mk _ _ _ _ _ _ _ line _ => line
def szL (L : List Blk) : Nat := (L.map fun b => szI (lineOf b)).sum
def inls (L : List Blk) : List Inl := L.flatMap fun b => deep (lineOf b)
theorem szL_append (a b : List Blk) : szL (a ++ b) = szL a + szL b := by simp [szL]
theorem szL_cons (a : Blk) (b : List Blk) : szL (a :: b) = szI (lineOf a) + szL b := by simp [szL]
mutual
theorem szL_listb : ∀ x : Blk, szL (listb x) ≤ szb x
 | .mk k lv inf t d ti a line kids => by have := szL_listB kids; simp only [listb, szb, szL_cons, lineOf]; omega
theorem szL_listB : ∀ xs : List Blk, szL (listB xs) ≤ szB xs
 | [] => by simp [listB, szL]
 | x :: xs => by have := szL_listb x; have := szL_listB xs; simp only [listB, szB, szL_append]; omega
end
theorem inls_take {L : List Blk} {i : Nat} {x : Blk} (h : L[i]? = some x) : inls (L.take (i + 1)) = inls (L.take i) ++ deep (lineOf x) := by
 obtain ⟨hlt, rfl⟩ := List.getElem?_eq_some_iff.1 h
 rw [List.take_succ_eq_append_getElem hlt]
 simp only [inls, List.flatMap_append, List.flatMap_cons, List.flatMap_nil, List.append_nil]
theorem inls_len (L : List Blk) : (inls L).length = szL L := by
 unfold inls szL
 rw [List.length_flatMap]
 simp only [deep_len]
theorem szL_take {L : List Blk} {i : Nat} {x : Blk} (h : L[i]? = some x) : szL (L.take (i + 1)) = szL (L.take i) + szI (lineOf x) := sum_take _ h
theorem szL_take_le (L : List Blk) (i : Nat) : szL (L.take i) ≤ szL L := by
 have := szL_append (L.take i) (L.drop i)
 rw [List.take_append_drop] at this
 omega
theorem inlines_fn (v : Value) (xs : List Blk) (u : View) (hbig : szB xs ≤ 1000000) (ha : BlkS u v xs) :
  FnP Tryz.prog 13 [v] u fun r u' => InlS u' r (inls (listB xs)) := by
 have hll := listB_len xs
 have hls := szL_listB xs
 refine FnP.intro [.tmp 2] Tryz.func13 rfl rfl rfl ?_
 intro w0 D hw0
 refine Zc (Za (ya rfl rfl (Zd (ρ' := [(0, _)]) ⟨rfl, trivial⟩ ?_)))
 refine Zb (Zc (Za (ya rfl rfl ?_)))
 refine Zbz 3 503 45 10 rfl rfl rfl ?_
 refine Zd (ρ' := [(0, _), (3, _)]) ⟨rfl, rfl, trivial⟩ ?_
 refine Zb (Zc (Za (ym rfl rfl (Zq rfl rfl ?_))))
 refine Zbb (caps := []) trivial rfl rfl Tryz.c10 rfl (FnP.mono (list_fn _ v xs u (Nat.le_refl _) hbig ha) ?_)
 rintro v uL hle0 ⟨cs, ⟨ad, cap, rfl, h1⟩, hc1⟩ hleL
 refine ya rfl rfl (Zd (ρ' := [(3, _), (4, _)]) ⟨rfl, rfl, trivial⟩ ?_)
 refine Zb (Zc (Zc (Za (ya rfl rfl (Zd (ρ' := [(3, _), (4, _), (5, _)]) ⟨rfl, rfl, rfl, trivial⟩ ?_)))))
 refine Zb (Zaa ?_)
 refine Zau (fun m ρ σ u' => ∃ i : Nat, i + m = (listB xs).length ∧ VLe uL u' ∧ ∃ (acc : List Value), σ = [(503, (none, .row 45 10 (inls ((listB xs).take i)).length acc))] ∧ ρ = [(3, .s 503), (4, .v (.slice ad (listB xs).length cap)), (5, .v (.int .i64 i))] ∧ (InlsC u' (inls ((listB xs).take i)) acc)) ((listB xs).length) ?_ ?_
 ·
  refine ⟨[(3, _), (4, _), (5, _)], [(503, _)], ⟨rfl, rfl, rfl, trivial⟩, ⟨rfl, trivial⟩, 0, by omega, VLe.refl _, [], (by first | rfl | simp), (by first | rfl | (simp only [List.cons.injEq, Prod.mk.injEq, SV.v.injEq, Value.int.injEq, true_and, and_true]; omega) | simp), ?_⟩
  exact InlsC.nil
 ·
  rintro m ρ σ u' ⟨i, hi4, hle4, acc, rfl, rfl, hacc⟩
  have h1' := h1.mono hle4
  have hc1' := hc1.mono hle4
  refine Zc (Zc (Za (ym rfl rfl (ym rfl rfl (Zf (Zal rfl rfl Tryz.s23 rfl) rfl ?_)))))
  refine Zf (Zbh rfl rfl rfl) rfl ?_
  refine Zd (ρ' := [(3, _), (4, _), (5, _), (11, _)]) ⟨rfl, rfl, rfl, rfl, trivial⟩ ?_
  refine Zb ?_
  refine Zn rfl (fun hb4 => ?_) (fun hb4 => ?_)
  ·
   refine Zs (Zb (Zc (Zaa ?_)))
   have hlt : i < (listB xs).length := by have := of_decide_eq_true hb4; omega
   obtain ⟨k, lv, inf, t, d, ti, a, line, kids, vc, vp, vl, vk, hg, hcut1, s1, s2, s3, s4, hok⟩ := hc1'.at hlt
   have hst := szL_take hg
   have hs1 := szL_take_le (listB xs) i
   have hs2 := szL_take_le (listB xs) (i + 1)
   have hdl := inls_len ((listB xs).take i)
   have hdk := deep_len line
   simp only [lineOf] at hst
   refine Za (ym rfl rfl (ym rfl rfl (ym rfl rfl (Zf (Zai rfl Tryz.s23 rfl rfl (by assumption) (by first | rfl | omega) (by omega)) rfl ?_))))
   refine Zf (Zap rfl Tryz.f39' rfl (by decide) rfl) rfl ?_
   refine Zf (Zag rfl Tryz.k37 rfl (by assumption) (by omega) (by assumption) (vs := [_]) rfl rfl rfl rfl) rfl ?_
   refine Zq rfl rfl ?_
   refine Zbb (caps := []) trivial rfl rfl Tryz.c32 rfl (FnP.mono (deep_fn _ vl line u' (Nat.le_refl _) (by omega) s3) ?_)
   rintro v u1 hle0 ⟨ks, ⟨adk, capk, rfl, hk⟩, hkc⟩ hle1
   refine Zq rfl rfl ?_
   refine Zbx trivial rfl rfl Tryz.s37 Tryz.z45 rfl rfl rfl rfl rfl (by assumption) hkc.ones (by omega) (by omega) (ρ' := [(4, _), (5, _)]) ⟨rfl, rfl, trivial⟩ rfl rfl rfl ?_
   refine ya rfl rfl ?_
   refine Zch 21 503 rfl rfl rfl ?_
   refine Zd (ρ' := [(3, _), (4, _), (5, _)]) ⟨rfl, rfl, rfl, trivial⟩ ?_
   refine Zaf (Zb (Za (ym rfl rfl (Zf (Zas rfl rfl rfl (Zu (by omega))) rfl ?_))))
   refine ya rfl rfl (Zd (ρ' := [(3, _), (4, _), (5, _)]) ⟨rfl, rfl, rfl, trivial⟩ ?_)
   refine Zae ?_
   refine ⟨m - 1, [(3, _), (4, _), (5, _)], [(503, _)], by omega, ⟨rfl, rfl, rfl, trivial⟩, ⟨rfl, trivial⟩, i + 1, by omega, (hle4.trans hle1), _, (by rw [inls_take hg, List.length_append]; rfl), (by first | rfl | simp), ?_⟩
   rw [inls_take hg]
   exact (hacc.mono hle1).append hkc
  ·
   refine Zat ?_
   refine Zp (Zp ?_)
   refine Zah ?_
   refine Zb (Zc (Za (ym rfl rfl (ya rfl rfl ?_))))
   refine Zbm 503 rfl ?_
   intro ad503 cap503 u503 hle503z hsl503
   refine Zd (ρ' := [(2, _)]) ⟨rfl, trivial⟩ ?_
   refine Zb (Zv ?_)
   refine Zav (.tmp rfl) ?_
   have hge := of_decide_eq_false hb4
   rw [List.take_of_length_le (by omega)] at hacc hsl503 ⊢
   exact inlS_of rfl hsl503 (hacc.mono hle503z)
end Go.Proofs.Ytoajhdnfdfbmaaa
namespace Go.Proofs.Ytoajhdnfdfbmaaa
open Go Go.Eng
set_option linter.unusedSimpArgs false
set_option linter.unusedVariables false
set_option maxRecDepth 4000
def kindI : Inl → Int
 | .mk k _ _ _ _ _ _ _ => k
def txtI : Inl → Bs
 | .mk _ t _ _ _ _ _ _ => t
def setT : Inl → Bs → Inl
 | .mk k _ d ti a args cites kids, t => .mk k t d ti a args cites kids
def addT (p : Option Inl) (x : Inl) : Option Inl := match p with
 | none => if txtI x = [] then none else some x
 | some q => some (setT q (txtI q ++ txtI x))
mutual
def mg1 : Inl → Inl
 | .mk k t d ti a args cites kids => .mk k t d ti a args cites (mg none kids)
def mg : Option Inl → List Inl → List Inl
 | p, [] => p.toList
 | p, x :: xs => if kindI x = 1 then mg (addT p (mg1 x)) xs else p.toList ++ mg1 x :: mg none xs
end
theorem kind_mg1 (x : Inl) : kindI (mg1 x) = kindI x := by cases x; simp only [mg1, kindI]
theorem txt_mg1 (x : Inl) : txtI (mg1 x) = txtI x := by cases x; simp only [mg1, txtI]
theorem kind_setT (x : Inl) (t : Bs) : kindI (setT x t) = kindI x := by cases x; rfl
theorem plain1_text {x : Inl} (h : kindI x = 1) : plain1 x = txtI x := by
 obtain ⟨k, t, d, ti, a, args, cites, kids⟩ := x
 simp only [kindI] at h
 rw [plain1_K, plainK, if_pos (.inl h)]
 rfl
theorem txt_setT (x : Inl) (t : Bs) : txtI (setT x t) = t := by cases x; rfl
theorem addT_kind {p : Option Inl} {x : Inl} (hp : ∀ q, p = some q → kindI q = 1) (hx : kindI x = 1) : ∀ q, addT p x = some q → kindI q = 1 := by
 intro q hq
 unfold addT at hq
 split at hq
 ·
  split at hq
  ·
   cases hq
  ·
   cases hq; exact hx
 ·
  rename_i r
  cases hq
  rw [kind_setT]; exact hp r rfl
theorem addT_plain {p : Option Inl} {x : Inl} (hp : ∀ q, p = some q → kindI q = 1) (hx : kindI x = 1) : plain (addT p x).toList = plain p.toList ++ plain1 x := by
 unfold addT
 split
 ·
  split
  ·
   rename_i h; rw [plain1_text hx, h]; rfl
  ·
   simp [plain]
 ·
  rename_i r
  have h1 := hp r rfl
  simp only [Option.toList_some, plain, List.append_nil]
  rw [plain1_text (by rw [kind_setT]; exact h1), plain1_text h1, plain1_text hx, txt_setT]
mutual
theorem mg1_plain : ∀ x : Inl, plain1 (mg1 x) = plain1 x
 | .mk k t d ti a args cites kids => by
  have ih := mg_plain kids none (fun q h => by cases h)
  simp only [mg1, plain1_K, ih]; rfl
theorem mg_plain : ∀ (xs : List Inl) (p : Option Inl), (∀ q, p = some q → kindI q = 1) → plain (mg p xs) = plain p.toList ++ plain xs
 | [], p, _ => by simp [mg, plain]
 | x :: xs, p, hp => by
  have h1 := mg1_plain x
  rw [mg]
  split
  ·
   rename_i hk
   rw [mg_plain xs _ (addT_kind hp (by rw [kind_mg1]; exact hk)), addT_plain hp (by rw [kind_mg1]; exact hk), h1, plain, List.append_assoc]
  ·
   rw [plain_append, plain, h1, mg_plain xs none (fun q h => by cases h)]
   simp [plain]
end
theorem done_setT {x : Inl} {t : Bs} (hk : kindI x = 1) (h : doneI1 x = true) : doneI1 (setT x t) = true := by
 obtain ⟨k, t0, d, ti, a, args, cites, kids⟩ := x
 simp only [kindI] at hk
 subst hk
 simp only [doneI1, setT, silent, mute] at h ⊢
 simpa using h
theorem addT_done {p : Option Inl} {x : Inl} (hk : ∀ q, p = some q → kindI q = 1) (hp : ∀ q, p = some q → doneI1 q = true) (hx : doneI1 x = true) : ∀ q, addT p x = some q → doneI1 q = true := by
 intro q hq
 unfold addT at hq
 split at hq
 ·
  split at hq
  ·
   cases hq
  ·
   cases hq; exact hx
 ·
  rename_i r
  cases hq
  exact done_setT (hk r rfl) (hp r rfl)
mutual
theorem mg1_done : ∀ x : Inl, doneI1 x = true → doneI1 (mg1 x) = true
 | .mk k t d ti a args cites kids, h => by
  have hpl := mg_plain kids none (fun q h => by cases h)
  simp only [doneI1, Bool.and_eq_true] at h
  have ih := mg_done kids none (fun q h => by cases h) (fun q h => by cases h) h.1.1
  have e : plain (mg none kids) = plain kids := by rw [hpl]; rfl
  simp only [mg1, doneI1, ih, Bool.true_and, silent, mute, e, Bool.and_eq_true]
  exact ⟨by simpa [silent] using h.1.2, by simpa [mute] using h.2⟩
theorem mg_done : ∀ (xs : List Inl) (p : Option Inl), (∀ q, p = some q → kindI q = 1) → (∀ q, p = some q → doneI1 q = true) → doneI xs = true → doneI (mg p xs) = true
 | [], p, _, hp, _ => by
  cases p with
  | none => rfl
  | some q => simp [mg, doneI, hp q rfl]
 | x :: xs, p, hk, hp, h => by
  simp only [doneI, Bool.and_eq_true] at h
  have h1 := mg1_done x h.1
  rw [mg]
  split
  ·
   rename_i hk1
   exact mg_done xs _ (addT_kind hk (by rw [kind_mg1]; exact hk1)) (addT_done hk hp h1) h.2
  ·
   rw [doneI_append, doneI, h1, mg_done xs none (fun q h => by cases h) (fun q h => by cases h) h.2]
   cases p with
   | none => rfl
   | some q => simp [doneI, hp q rfl]
end
def untS : Bs := [85, 110, 116, 105, 116, 108, 101, 100]
def ownR (k : Int) (line : List Inl) : List Inl × Bool :=
 if k = 2 ∧ blank (plain (fixI line).1) = true then ((fixI line).1 ++ [tI untS], true) else fixI line
def lineR (k : Int) (line : List Inl) : List Inl := if (ownR k line).2 = true then mg none (ownR k line).1 else (ownR k line).1
def levR (k lv bf : Int) : Int := if k = 2 then min lv (bf + 1) else lv
def befR (k lv bf : Int) : Int := if k = 2 then min lv (bf + 1) else bf
mutual
def fixb : Int → Blk → Blk × Int
 | bf, .mk k lv inf t d ti a line kids => (.mk k (levR k lv bf) inf t d ti a (lineR k line) (fixB (befR k lv bf) kids).1, (fixB (befR k lv bf) kids).2)
def fixB : Int → List Blk → List Blk × Int
 | bf, [] => ([], bf)
 | bf, x :: xs => ((fixb bf x).1 :: (fixB (fixb bf x).2 xs).1, (fixB (fixb bf x).2 xs).2)
end
theorem blank_unt : blank untS = false := by decide
theorem ownR_done (k : Int) (line : List Inl) : doneI (ownR k line).1 = true := by
 unfold ownR
 split
 ·
  rw [doneI_append, fix_done, done_tI]; rfl
 ·
  exact fix_done line
theorem ownR_blank {k : Int} {line : List Inl} (hk : k = 2) : blank (plain (ownR k line).1) = false := by
 unfold ownR
 split
 ·
  rw [plain_append, plain_tI, blank_append, blank_unt, Bool.and_false]
 ·
  rename_i h
  cases hb : blank (plain (fixI line).1) with
  | false => rfl
  | true => exact absurd ⟨hk, hb⟩ h
theorem lineR_plain (k : Int) (line : List Inl) : plain (lineR k line) = plain (ownR k line).1 := by
 unfold lineR
 split
 ·
  rw [mg_plain _ none (fun q h => by cases h)]; rfl
 ·
  rfl
theorem lineR_done (k : Int) (line : List Inl) : doneI (lineR k line) = true := by
 unfold lineR
 split
 ·
  exact mg_done _ none (fun q h => by cases h) (fun q h => by cases h) (ownR_done k line)
 ·
  exact ownR_done k line
def kindB : Blk → Int
 | .mk k _ _ _ _ _ _ _ _ => k
def levB : Blk → Int
 | .mk _ lv _ _ _ _ _ _ _ => lv
def All2 (R : Blk → Blk → Prop) : List Blk → List Blk → Prop
 | [], [] => True
 | x :: xs, y :: ys => R x y ∧ All2 R xs ys
 | _, _ => False
theorem All2.append {R : Blk → Blk → Prop} : ∀ {a b c d : List Blk}, All2 R a b → All2 R c d → All2 R (a ++ c) (b ++ d)
 | [], [], c, d, _, h => h
 | x :: a, y :: b, c, d, ⟨h1, h2⟩, h => ⟨h1, All2.append h2 h⟩
 | [], y :: b, c, d, h, _ => h.elim
 | x :: a, [], c, d, h, _ => h.elim
theorem All2.len {R : Blk → Blk → Prop} : ∀ {a b : List Blk}, All2 R a b → a.length = b.length
 | [], [], _ => rfl
 | x :: a, y :: b, ⟨_, h2⟩ => by simp [All2.len h2]
 | [], y :: b, h => h.elim
 | x :: a, [], h => h.elim
theorem All2.get {R : Blk → Blk → Prop} : ∀ {a b : List Blk} {i : Nat} {x y : Blk}, All2 R a b → a[i]? = some x → b[i]? = some y → R x y
 | [], [], i, x, y, _, h, _ => by simp at h
 | u :: a, v :: b, 0, x, y, ⟨h1, _⟩, h, k => by simp at h k; subst h; subst k; exact h1
 | u :: a, v :: b, i + 1, x, y, ⟨_, h2⟩, h, k => All2.get h2 (i := i) (by simpa using h) (by simpa using k)
 | [], y :: b, _, _, _, h, _, _ => h.elim
 | x :: a, [], _, _, _, h, _, _ => h.elim
def langS : Bs := [108, 97, 110, 103]
def titS : Bs := [116, 105, 116, 108, 101]
def enS : Bs := [101, 110]
def hasM (k : Bs) (l : List (Bs × Bs)) : Bool := decide ((getP k l).getD [] ≠ [])
def fillM (k v : Bs) (l : List (Bs × Bs)) : List (Bs × Bs) :=
 if hasM k l = true then l else if (getP k l).isSome = true then setP k v l else if l.length < 64 then l ++ [(k, v)] else l
theorem getP_setP_ne {k k' v : Bs} (h : k' ≠ k) : ∀ l : List (Bs × Bs), getP k' (setP k v l) = getP k' l
 | [] => rfl
 | p :: ps => by
  by_cases e : p.1 = k
  ·
   rw [setP, if_pos e, getP, getP, if_neg (by rw [e]; exact Ne.symm h), if_neg (by rw [e]; exact Ne.symm h)]
  ·
   rw [setP, if_neg e, getP, getP, getP_setP_ne h ps]
theorem getP_snoc_ne {k k' v : Bs} (h : k' ≠ k) : ∀ l : List (Bs × Bs), getP k' (l ++ [(k, v)]) = getP k' l
 | [] => by simp [getP, Ne.symm h]
 | p :: ps => by rw [List.cons_append, getP, getP, getP_snoc_ne h ps]
theorem getP_fill_ne {k k' v : Bs} (h : k' ≠ k) (l : List (Bs × Bs)) : getP k' (fillM k v l) = getP k' l := by
 unfold fillM
 repeat' split
 ·
  rfl
 ·
  exact getP_setP_ne h l
 ·
  exact getP_snoc_ne h l
 ·
  rfl
theorem fill_then {k v : Bs} (hv : v ≠ []) (l : List (Bs × Bs)) : hasM k (fillM k v l) = true ∨ getP k (fillM k v l) = none ∧ 64 ≤ l.length := by
 unfold fillM
 split
 ·
  rename_i h; exact .inl h
 ·
  split
  ·
   rename_i h
   left
   unfold hasM
   rw [getP_setP h]
   simpa using hv
  ·
   rename_i h
   split
   ·
    left
    unfold hasM
    rw [getP_snoc (by simpa using h)]
    simpa using hv
   ·
    right
    exact ⟨by simpa using h, by omega⟩
def metaR (title : Bs) (l : List (Bs × Bs)) : List (Bs × Bs) := fillM titS title (fillM langS enS l)
def headsL (L : List Blk) : List Blk := L.filter fun b => decide (kindB b = 2)
def titleR (bs : List Blk) : Bs := match headsL (listB bs) with
 | [] => untS
 | h :: _ => trim (plain (lineOf h))
theorem linesR : ∀ (n : Nat) (bs : List Blk) (bf : Int), szB bs ≤ n → ∀ b ∈ listB (fixB bf bs).1, ∃ line, lineOf b = lineR (kindB b) line := by
 intro n
 induction n with
 | zero =>
  intro bs bf hn b hb
  cases bs with
  | nil => simp [fixB, listB] at hb
  | cons x xs => cases x; simp [szB, szb] at hn
 | succ n ih =>
  intro bs bf hn b hb
  cases bs with
  | nil => simp [fixB, listB] at hb
  | cons x xs =>
   obtain ⟨k, lv, inf, t, d, ti, a, line, kids⟩ := x
   simp only [szB, szb] at hn
   simp only [fixB, fixb, listB, listb, List.cons_append] at hb
   rcases List.mem_cons.1 hb with rfl | hb
   ·
    exact ⟨line, rfl⟩
   ·
    rcases List.mem_append.1 hb with hb | hb
    ·
     exact ih kids _ (by omega) b hb
    ·
     exact ih xs _ (by omega) b hb
theorem headsR (bs : List Blk) (bf : Int) : ∀ h ∈ headsL (listB (fixB bf bs).1), trim (plain (lineOf h)) ≠ [] := by
 intro h hh
 unfold headsL at hh
 obtain ⟨hm, hk⟩ := List.mem_filter.1 hh
 have hk := of_decide_eq_true hk
 obtain ⟨line, hl⟩ := linesR _ bs bf (Nat.le_refl _) h hm
 rw [hl, lineR_plain]
 intro e
 rw [trim_nil, ownR_blank hk] at e
 cases e
theorem titleR_ne (bs : List Blk) (bf : Int) : titleR (fixB bf bs).1 ≠ [] := by
 have h := headsR bs bf
 unfold titleR
 split
 ·
  decide
 ·
  rename_i x l hx
  exact h x (by rw [hx]; simp)
def repB (bs : List Blk) : List Blk := (fixB 0 bs).1
def repM (m : List (Bs × Bs)) (bs : List Blk) : List (Bs × Bs) := metaR (titleR (repB bs)) m
def skipsL : Int → List Blk → List Bs
 | _, [] => []
 | bf, h :: hs => (if bf < levB h ∧ bf < levB h - 1 then [trim (plain (lineOf h))] else []) ++ skipsL (levB h) hs
/- there is none: the levels stay -/
end Go.Proofs.Ytoajhdnfdfbmaaa
namespace Go.Proofs.Ytoajhdnfdfbmaaa
open Go Go.Eng
set_option linter.unusedSimpArgs false
set_option linter.unusedVariables false
set_option maxRecDepth 4000
def trimR (s : Bs) : Bs := (trimL s.reverse).reverse
theorem trimL_snoc : ∀ (a : Bs) (c : UInt8), trimL (a ++ [c]) = if blank a = true then trimL [c] else trimL a ++ [c]
 | [], c => by simp [blank]
 | x :: a, c => by
  have ih := trimL_snoc a c
  rw [List.cons_append]
  by_cases h : x = 32
  ·
   have e1 : ∀ l, trimL (x :: l) = trimL l := fun l => by rw [trimL, if_pos h]
   have e2 : blank (x :: a) = blank a := by simp [blank, h]
   rw [e1, ih, e1, e2]
  ·
   have e1 : ∀ l, trimL (x :: l) = x :: l := fun l => by rw [trimL, if_neg h]
   have e2 : blank (x :: a) = false := by simp [blank, h]
   rw [e1, e1, e2]
   simp
theorem blank_rev (s : Bs) : blank s.reverse = blank s := by simp [blank]
theorem trimR_cons (c : UInt8) (s : Bs) : trimR (c :: s) = if blank s = true then (trimL [c]) else c :: trimR s := by
 unfold trimR
 rw [List.reverse_cons, trimL_snoc, blank_rev]
 split
 ·
  simp only [trimL]
  split <;> rfl
 ·
  simp
theorem trim_LR : ∀ s : Bs, trimL (trimR s) = trim s
 | [] => rfl
 | c :: s => by
  have ih := trim_LR s
  rw [trimR_cons]
  by_cases hb : blank s = true
  ·
   rw [if_pos hb]
   by_cases h : c = 32
   ·
    have : trim (c :: s) = [] := (trim_nil _).2 (by simp only [blank, List.all_cons] at hb ⊢; simp [h, hb])
    rw [this, h]; rfl
   ·
    have e : trim (c :: s) = trimR (c :: s) := by unfold trim; rw [trimL, if_neg h]; rfl
    rw [e, trimR_cons, if_pos hb]
    simp [trimL, h]
  ·
   rw [if_neg hb]
   by_cases h : c = 32
   ·
    rw [trimL, if_pos h, ih]
    unfold trim
    rw [trimL, if_pos h]
   ·
    have e : trim (c :: s) = trimR (c :: s) := by unfold trim; rw [trimL, if_neg h]; rfl
    rw [e, trimR_cons, if_neg hb, trimL, if_neg h]
theorem trimR_snoc (s : Bs) : trimR (s ++ [32]) = trimR s := by
 unfold trimR
 rw [List.reverse_append]; rfl
theorem trimR_stop (s : Bs) (c : UInt8) (h : c ≠ 32) : trimR (s ++ [c]) = s ++ [c] := by
 unfold trimR
 rw [List.reverse_append]
 show (trimL (c :: s.reverse)).reverse = _
 rw [trimL, if_neg h]; simp
theorem u8_32 {c : UInt8} (h : (c.toNat : Int) = 32) : c = 32 := UInt8.toNat_inj.1 (by show c.toNat = 32; omega)
theorem trimLeft_fn (s : Bs) (hs : s.length ≤ 1000000000) (u : View) : FnP Tryz.prog 76 [str s, .int .u8 32] u fun r _ => r = str (trimL s) := by
 refine FnP.intro [.tmp 4] Tryz.func76 rfl rfl rfl ?_
 intro w0 D hw0
 refine Zc (Za (ya rfl rfl (Zd (ρ' := [(0, _), (1, _)]) ⟨rfl, rfl, trivial⟩ ?_)))
 refine Zb (Zc (Zaa ?_))
 refine Zau (fun m ρ σ u' => ∃ i : Nat, i + m = s.length ∧ VLe u u' ∧ σ = [] ∧ ρ = [(0, .v (str (s.drop i))), (1, .v (.int .u8 32))] ∧ (u = u' ∧ trimL s = trimL (s.drop i))) (s.length) ?_ ?_
 ·
  refine ⟨[(0, _), (1, _)], [], ⟨rfl, rfl, trivial⟩, trivial, 0, by omega, VLe.refl _, (by first | rfl | simp), (by first | rfl | (simp only [List.cons.injEq, Prod.mk.injEq, SV.v.injEq, Value.int.injEq, true_and, and_true]; omega) | simp), ?_⟩
  exact ⟨rfl, by simp⟩
 ·
  rintro m ρ σ u' ⟨i, hi1, hle1, rfl, rfl, ⟨rfl, hinv⟩⟩
  refine Zc (Zc ?_)
  have hdl : (s.drop i).length = s.length - i := List.length_drop
  refine Zca 13 (decide ((s.drop i).head? = some 32)) (ρk := [(0, _), (1, _)]) ⟨rfl, rfl, trivial⟩ ?_ ?_
  ·
   refine Za (ym rfl rfl (Zf (Zan rfl rfl Tryz.str9 rfl) rfl ?_))
   refine Zf (Zcd rfl rfl rfl) rfl ?_
   refine ym rfl rfl ?_
   rcases Bool.eq_false_or_eq_true (decide ((0 : Int) < ((s.drop i).length : Int))) with hg1_3 | hg1_3
   ·
    simp only [hg1_3]
    refine Zk rfl rfl (ym rfl rfl ?_)
    have hlt : i < s.length := by have := of_decide_eq_true hg1_3; omega
    have hc0 : (s.drop i)[0]? = some s[i] := by simp [hlt]
    refine Zk rfl rfl (Zf (Zao rfl Tryz.str9 rfl rfl (j := 0) rfl hc0) rfl ?_)
    refine Zk rfl rfl (ym rfl rfl (Zk rfl rfl (Zf (Zay rfl rfl rfl) rfl ?_)))
    refine Zf (Zl rfl rfl rfl) rfl ?_
    exact Zak rfl ⟨rfl, rfl, trivial⟩ (by first | (rw [List.head?_eq_getElem?, hc0]; exact decide_eq_decide.2 ⟨fun h => by rw [u8_32 h], fun h => by rw [Option.some.inj h]; rfl⟩) | (have hg := of_decide_eq_false hg1_3; rw [List.drop_eq_nil_of_le (by omega)]; rfl))
   ·
    simp only [hg1_3]
    iterate 4 refine Zo rfl rfl rfl rfl ?_
    refine Zf (Zm rfl rfl rfl) rfl ?_
    exact Zak rfl ⟨rfl, rfl, trivial⟩ (by first | (rw [List.head?_eq_getElem?, hc0]; exact decide_eq_decide.2 ⟨fun h => by rw [u8_32 h], fun h => by rw [Option.some.inj h]; rfl⟩) | (have hg := of_decide_eq_false hg1_3; rw [List.drop_eq_nil_of_le (by omega)]; rfl))
  refine Zb ?_
  refine Zn rfl (fun hb1 => ?_) (fun hb1 => ?_)
  ·
   have h1 := of_decide_eq_true hb1
   have hlt : i < s.length := by
    rcases Nat.lt_or_ge i s.length with h | h
    ·
     exact h
    ·
     rw [List.drop_eq_nil_of_le h] at h1; cases h1
   have hd := List.drop_eq_getElem_cons hlt
   rw [hd, List.head?_cons, Option.some.injEq] at h1
   refine Zs (Zb (Zaa (Za (ym rfl rfl (Zf (Zbt rfl Tryz.str9 rfl (i := 1) (k' := .i64) rfl rfl (by rw [hdl]; omega) (Nat.le_refl _)) rfl ?_)))))
   refine ya rfl rfl (Zd (ρ' := [(0, _), (1, _)]) ⟨rfl, rfl, trivial⟩ ?_)
   refine Zaf (Zae ?_)
   refine ⟨m - 1, [(0, _), (1, _)], [], by omega, ⟨rfl, rfl, trivial⟩, trivial, i + 1, by omega, hle1, rfl, (by rw [show (List.take ((s.drop i).length - 1) ((s.drop i).drop 1)) = s.drop (i + 1) by rw [List.drop_drop, hdl]; exact List.take_of_length_le (by rw [List.length_drop]; omega)]), ?_⟩
   exact ⟨rfl, by rw [hinv, hd, trimL, if_pos h1]⟩
  ·
   have h1 := of_decide_eq_false hb1
   refine Zat ?_
   refine Zp (Zp ?_)
   refine Zah ?_
   refine Zb (Zc (Za (ym rfl rfl (ya rfl rfl (Zd (ρ' := [(4, _)]) ⟨rfl, trivial⟩ ?_)))))
   refine Zb (Zv ?_)
   refine Zav (.tmp rfl) ?_
   rw [hinv]
   congr 1
   cases hs : s.drop i with
   | nil => rfl
   | cons c r => rw [hs, List.head?_cons, Option.some.injEq] at h1; rw [trimL, if_neg h1]
theorem take_snoc {s : Bs} {n : Nat} (h : n < s.length) : s.take (n + 1) = s.take n ++ [s[n]] := List.take_succ_eq_append_getElem h
theorem trimRight_fn (s : Bs) (hs : s.length ≤ 1000000000) (u : View) : FnP Tryz.prog 77 [str s, .int .u8 32] u fun r _ => r = str (trimR s) := by
 refine FnP.intro [.tmp 4] Tryz.func77 rfl rfl rfl ?_
 intro w0 D hw0
 refine Zc (Za (ya rfl rfl (Zd (ρ' := [(0, _), (1, _)]) ⟨rfl, rfl, trivial⟩ ?_)))
 refine Zb (Zc (Zaa ?_))
 refine Zau (fun m ρ σ u' => ∃ i : Nat, i + m = s.length ∧ VLe u u' ∧ σ = [] ∧ ρ = [(0, .v (str (s.take (s.length - i)))), (1, .v (.int .u8 32))] ∧ (u = u' ∧ trimR s = trimR (s.take (s.length - i)))) (s.length) ?_ ?_
 ·
  refine ⟨[(0, _), (1, _)], [], ⟨rfl, rfl, trivial⟩, trivial, 0, by omega, VLe.refl _, rfl, (by simp), ?_⟩
  exact ⟨rfl, by simp⟩
 ·
  rintro m ρ σ u' ⟨i, hi1, hle1, rfl, rfl, ⟨rfl, hinv⟩⟩
  refine Zc (Zc ?_)
  have hdl : (s.take (s.length - i)).length = s.length - i := by rw [List.length_take]; omega
  refine Zca 16 (decide ((s.take (s.length - i)).getLast? = some 32)) (ρk := [(0, _), (1, _)]) ⟨rfl, rfl, trivial⟩ ?_ ?_
  ·
   refine Za (ym rfl rfl (Zf (Zan rfl rfl Tryz.str9 rfl) rfl ?_))
   refine Zf (Zcd rfl rfl rfl) rfl ?_
   refine ym rfl rfl ?_
   rcases Bool.eq_false_or_eq_true (decide ((0 : Int) < ((s.take (s.length - i)).length : Int))) with hg1_3 | hg1_3
   ·
    simp only [hg1_3]
    refine Zk rfl rfl (ym rfl rfl ?_)
    have hlt : i < s.length := by have := of_decide_eq_true hg1_3; omega
    have hlt2 : s.length - i - 1 < s.length := by omega
    have hts : s.take (s.length - i) = s.take (s.length - i - 1) ++ [s[s.length - i - 1]] := by rw [← take_snoc hlt2, show s.length - i - 1 + 1 = s.length - i by omega]
    have hgl : (s.take (s.length - i)).getLast? = some s[s.length - i - 1] := by rw [hts, List.getLast?_concat]
    have hc0 : (s.take (s.length - i))[s.length - i - 1]? = some s[s.length - i - 1] := by rw [List.getElem?_take_of_lt (by omega), List.getElem?_eq_getElem hlt2]
    refine Zk rfl rfl (ym rfl rfl (Zk rfl rfl (Zf (Zan rfl rfl Tryz.str9 rfl) rfl ?_)))
    refine Zk rfl rfl (Zf (y_sub rfl rfl rfl (Zu (by rw [hdl]; omega))) rfl ?_)
    refine Zk rfl rfl (Zf (Zao rfl Tryz.str9 rfl rfl (j := s.length - i - 1) (by rw [hdl]; omega) hc0) rfl ?_)
    refine Zk rfl rfl (ym rfl rfl (Zk rfl rfl (Zf (Zay rfl rfl rfl) rfl ?_)))
    refine Zf (Zl rfl rfl rfl) rfl ?_
    exact Zak rfl ⟨rfl, rfl, trivial⟩ (by first | (rw [hgl]; exact decide_eq_decide.2 ⟨fun h => by rw [u8_32 h], fun h => by rw [Option.some.inj h]; rfl⟩) | (have hg := of_decide_eq_false hg1_3; rw [show s.length - i = 0 by omega]; rfl))
   ·
    simp only [hg1_3]
    iterate 7 refine Zo rfl rfl rfl rfl ?_
    refine Zf (Zm rfl rfl rfl) rfl ?_
    exact Zak rfl ⟨rfl, rfl, trivial⟩ (by first | (rw [hgl]; exact decide_eq_decide.2 ⟨fun h => by rw [u8_32 h], fun h => by rw [Option.some.inj h]; rfl⟩) | (have hg := of_decide_eq_false hg1_3; rw [show s.length - i = 0 by omega]; rfl))
  refine Zb ?_
  refine Zn rfl (fun hb1 => ?_) (fun hb1 => ?_)
  ·
   have h1 := of_decide_eq_true hb1
   have hlt : i < s.length := by
    rcases Nat.lt_or_ge i s.length with h | h
    ·
     exact h
    ·
     rw [show s.length - i = 0 by omega] at h1; cases h1
   have hlt2 : s.length - i - 1 < s.length := by omega
   have hts : s.take (s.length - i) = s.take (s.length - i - 1) ++ [s[s.length - i - 1]] := by rw [← take_snoc hlt2, show s.length - i - 1 + 1 = s.length - i by omega]
   have hlast : s[s.length - i - 1] = 32 := by rw [hts, List.getLast?_concat] at h1; exact Option.some.inj h1
   refine Zs (Zb (Zaa (Za (ym rfl rfl (ym rfl rfl (Zf (Zan rfl rfl Tryz.str9 rfl) rfl ?_))))))
   refine Zf (y_sub rfl rfl rfl (Zu (by rw [hdl]; omega))) rfl ?_
   refine Zf (Zbt rfl Tryz.str9 rfl (i := 0) (j := s.length - i - 1) (k := .i64) (k' := .i64) rfl (by show some (SV.v (Value.int .i64 _)) = _; congr 3; rw [hdl]; omega) (by omega) (by rw [hdl]; omega)) rfl ?_
   refine ya rfl rfl (Zd (ρ' := [(0, _), (1, _)]) ⟨rfl, rfl, trivial⟩ ?_)
   refine Zaf (Zae ?_)
   refine ⟨m - 1, [(0, _), (1, _)], [], by omega, ⟨rfl, rfl, trivial⟩, trivial, i + 1, by omega, hle1, rfl, (by rw [show (List.take (s.length - i - 1 - 0) ((s.take (s.length - i)).drop 0)) = s.take (s.length - (i + 1)) by rw [List.drop_zero, List.take_take, Nat.min_eq_left (by omega)]; congr 1 <;> omega]), ?_⟩
   exact ⟨rfl, by rw [hinv, hts, hlast, trimR_snoc, show s.length - (i + 1) = s.length - i - 1 by omega]⟩
  ·
   have h1 := of_decide_eq_false hb1
   refine Zat ?_
   refine Zp (Zp ?_)
   refine Zah ?_
   refine Zb (Zc (Za (ym rfl rfl (ya rfl rfl (Zd (ρ' := [(4, _)]) ⟨rfl, trivial⟩ ?_)))))
   refine Zb (Zv ?_)
   refine Zav (.tmp rfl) ?_
   rw [hinv]
   congr 1
   rcases List.eq_nil_or_concat (s.take (s.length - i)) with hs | ⟨r, c, hs⟩
   ·
    rw [hs]; rfl
   ·
    rw [hs, List.concat_eq_append, List.getLast?_concat] at h1
    rw [hs, List.concat_eq_append, trimR_stop r c (fun e => h1 (by rw [e]))]
theorem trim_fn (s : Bs) (hs : s.length ≤ 1000000000) (u : View) : FnP Tryz.prog 40 [str s, str [32]] u fun r _ => r = str (trim s) := by
 have hrl : (trimR s).length ≤ s.length := by
  have := trimL_le s.reverse
  unfold trimR
  simpa using this
 refine FnP.intro [.tmp 4] Tryz.func40 rfl rfl rfl ?_
 intro w0 D hw0
 refine Zc (Za (ya rfl rfl (Zd (ρ' := [(0, _), (1, _)]) ⟨rfl, rfl, trivial⟩ ?_)))
 refine Zb (Zc (Zc ?_))
 refine Zca 12 (decide (s = [])) (ρk := [(0, _), (1, _)]) ⟨rfl, rfl, trivial⟩ ?_ ?_
 ·
  refine Za (ym rfl rfl (Zf (Zbg rfl rfl rfl) rfl ?_))
  refine ym rfl rfl ?_
  rcases Bool.eq_false_or_eq_true (decide (s = [])) with hg1_2 | hg1_2
  ·
   simp only [hg1_2]
   refine Zo rfl rfl rfl rfl (Zo rfl rfl rfl rfl (Zf (Zl rfl rfl rfl) rfl ?_))
   exact Zak rfl ⟨rfl, rfl, trivial⟩ (by cases h : decide (s = []) <;> simp_all)
  ·
   simp only [hg1_2]
   refine Zk rfl rfl (ym rfl rfl (Zk rfl rfl (Zf (Zbg rfl rfl rfl) rfl ?_)))
   refine Zf (Zm rfl rfl rfl) rfl ?_
   exact Zak rfl ⟨rfl, rfl, trivial⟩ (by cases h : decide (s = []) <;> simp_all)
 refine Zb ?_
 refine Zn rfl (fun hb1 => ?_) (fun hb1 => ?_)
 ·
  have h1 := of_decide_eq_true hb1
  refine Zc (Za (ym rfl rfl (ya rfl rfl (Zd (ρ' := [(4, _)]) ⟨rfl, trivial⟩ ?_))))
  refine Zb (Zv (Zh ?_))
  refine Zav (.tmp rfl) ?_
  rw [h1]; rfl
 ·
  have h1 := of_decide_eq_false hb1
  refine Zs (Zb (Zc (Zc (Za (ym rfl rfl (Zf (Zan rfl rfl Tryz.str9 rfl) rfl ?_))))))
  refine Zf (Zay rfl rfl rfl) rfl ?_
  refine ym rfl rfl (Zk rfl rfl (ym rfl rfl (Zk rfl rfl (Zf (Zao rfl Tryz.str9 rfl rfl (j := 0) rfl (c := 32) rfl) rfl ?_))))
  refine Zk rfl rfl (Zf (Zbh rfl rfl rfl) rfl ?_)
  refine Zf (Zl rfl rfl rfl) rfl (Zd (ρ' := [(0, _), (1, _), (21, _)]) ⟨rfl, rfl, rfl, trivial⟩ ?_)
  refine Zb ?_
  refine Zce rfl (rfl) ?_
  refine Zc ?_
  refine Zbu Tryz.mixed rfl [] trivial ?_
  refine ra_y (i := 0) rfl (by kernel_rfl) (by kernel_rfl) (by kernel_rfl) (Ze (Ze (Zam))) (Zbj rfl rfl) rfl ?_
  refine ra_y (i := 1) rfl (by kernel_rfl) (by kernel_rfl) (by kernel_rfl) (Ze (Ze (Zam))) (Zbj rfl rfl) rfl ?_
  refine ra_y (i := 2) rfl (by kernel_rfl) (by kernel_rfl) (by kernel_rfl) (Ze (Ze (Zam))) (Zao rfl Tryz.str9 rfl rfl (j := 0) rfl (c := 32) rfl) rfl ?_
  refine ra_y (i := 4) rfl (by kernel_rfl) (by kernel_rfl) (by kernel_rfl) (Ze (Ze (Zam))) (Zbj rfl rfl) rfl ?_
  refine ra_y (i := 5) rfl (by kernel_rfl) (by kernel_rfl) (by kernel_rfl) (Ze (Ze (Zam))) (Zao rfl Tryz.str9 rfl rfl (j := 0) rfl (c := 32) rfl) rfl ?_
  refine ra_do (i := 3) rfl rfl (by kernel_rfl) ?_
  refine Zw (caps := []) trivial rfl rfl Tryz.c77 rfl (FnP.mono (trimRight_fn s hs u) ?_)
  rintro v u1 hle1 rfl
  refine ra_do (i := 6) rfl rfl (by kernel_rfl) ?_
  refine Zw (caps := []) trivial rfl rfl Tryz.c76 rfl (FnP.mono (trimLeft_fn (trimR s) (by omega) u) ?_)
  rintro v u1 hle1 rfl
  refine ra_y (i := 7) rfl (by kernel_rfl) (by kernel_rfl) (by kernel_rfl) (Ze (Ze (Zam))) (y_assign rfl rfl) rfl ?_
  refine ra_end (by kernel_rfl) (ρ' := [(4, _)]) ⟨rfl, trivial⟩ ?_
  refine Zb (Zv (Zh ?_))
  refine Zav (.tmp rfl) ?_
  rw [trim_LR]
end Go.Proofs.Ytoajhdnfdfbmaaa
namespace Go.Proofs.Ytoajhdnfdfbmaaa
open Go Go.Eng
set_option linter.unusedSimpArgs false
set_option linter.unusedVariables false
set_option maxRecDepth 4000
abbrev bldL (b : Nat) (q : Option Addr) (ad : Option Addr) (cap : Nat) (l : Bs) : List PO := [(some b, .bt 66 [.pointer q, .slice ad l.length cap]), (none, .rwv (.slice ad l.length cap) 5 1 l.length (bytesC l))]
abbrev selfQ (b : Nat) : Option Addr := some ⟨b, 0, none⟩
def QOk (b : Nat) (q : Option Addr) : Prop := q = none ∨ q = selfQ b
theorem copyCheck0_fn (b : Nat) (v : Value) (hv : Value.oneCell' v = true) (u : View) :
  FnO Tryz.prog 91 [.pointer (some ⟨b, 0, none⟩)] u [(some b, .bt 66 [.pointer none, v])] fun r u' l' => r = .tuple #[] ∧ l' = [(some b, .bt 66 [.pointer (selfQ b), v])] := by
 refine FnO.intro [] Tryz.func91 rfl rfl rfl ?_
 intro w0 D hw0
 refine wc_pin 0 1000 _ 0 rfl rfl ?_
 refine Zc (Za (ym rfl rfl (Zf (Zbn rfl rfl) rfl ?_)))
 refine Zf (Zi rfl Tryz.f66' rfl (by decide) rfl) rfl ?_
 refine Zf (y_load_t rfl Tryz.k63 rfl rfl rfl (vs := [_]) rfl rfl rfl) rfl ?_
 refine Zf (y_ptr_eql_nil (e := 66) rfl (by kernel_rfl) rfl rfl) rfl ?_
 refine Zd (ρ' := [(0, _), (6, _)]) ⟨rfl, rfl, trivial⟩ ?_
 refine Zb ?_
 refine Zce rfl (rfl) ?_
 refine Za (ym rfl rfl (ym rfl rfl (Zf (y_to_unsafe (t := 66) rfl (by kernel_rfl) (by kernel_rfl) Tryz.k66 rfl rfl rfl rfl rfl) rfl ?_)))
 refine Zf (y_noEscape rfl ⟨_, Tryz.func109, by kernel_rfl, by kernel_rfl, by kernel_rfl, by kernel_rfl⟩ rfl) rfl ?_
 refine Zf (y_from_unsafe (t := 66) rfl (by kernel_rfl) (by kernel_rfl) Tryz.k66 rfl rfl rfl (by kernel_rfl)) rfl ?_
 refine Zf (Zbn rfl rfl) rfl ?_
 refine Zf (Zi rfl Tryz.f66' rfl (by decide) rfl) rfl ?_
 refine Zq rfl rfl ?_
 refine do_store_t trivial rfl Tryz.k63 rfl rfl rfl (vs := [_]) rfl rfl rfl (Nat.le_of_ble_eq_true rfl) rfl ?_
 refine Zd (ρ' := []) trivial ?_
 refine finO0n [1000]  rfl rfl ?_
 exact ⟨rfl, rfl⟩
theorem copyCheck1_fn (b : Nat) (v : Value) (u : View) :
  FnO Tryz.prog 91 [.pointer (some ⟨b, 0, none⟩)] u [(some b, .bt 66 [.pointer (selfQ b), v])] fun r u' l' => r = .tuple #[] ∧ l' = [(some b, .bt 66 [.pointer (selfQ b), v])] := by
 refine FnO.intro [] Tryz.func91 rfl rfl rfl ?_
 intro w0 D hw0
 refine wc_pin 0 1000 _ 0 rfl rfl ?_
 refine Zc (Za (ym rfl rfl (Zf (Zbn rfl rfl) rfl ?_)))
 refine Zf (Zi rfl Tryz.f66' rfl (by decide) rfl) rfl ?_
 refine Zf (y_load_t rfl Tryz.k63 rfl rfl rfl (vs := [_]) rfl rfl rfl) rfl ?_
 refine Zf (y_ptr_eql_nil (e := 66) rfl (by kernel_rfl) rfl rfl) rfl ?_
 refine Zd (ρ' := [(0, _), (6, _)]) ⟨rfl, rfl, trivial⟩ ?_
 refine Zb ?_
 refine Zby rfl (rfl) ?_
 refine Zc (Za (ym rfl rfl (Zf (Zbn rfl rfl) rfl ?_)))
 refine Zf (Zi rfl Tryz.f66' rfl (by decide) rfl) rfl ?_
 refine Zf (y_load_t rfl Tryz.k63 rfl rfl rfl (vs := [_]) rfl rfl rfl) rfl ?_
 refine ym rfl rfl (Zf (y_ptr_neq_self (e := 66) rfl (by kernel_rfl) Tryz.k66 rfl rfl) rfl ?_)
 refine Zd (ρ' := [(19, _)]) ⟨rfl, trivial⟩ ?_
 refine Zb ?_
 refine Zby rfl (rfl) ?_
 refine Zs ?_
 refine finO0n [1000]  rfl rfl ?_
 exact ⟨rfl, rfl⟩
theorem copyCheck_fn (b : Nat) (q : Option Addr) (hq : QOk b q) (v : Value) (hv : Value.oneCell' v = true) (u : View) :
  FnO Tryz.prog 91 [.pointer (some ⟨b, 0, none⟩)] u [(some b, .bt 66 [.pointer q, v])] fun r u' l' => r = .tuple #[] ∧ l' = [(some b, .bt 66 [.pointer (selfQ b), v])] := by
 rcases hq with rfl | rfl
 ·
  exact copyCheck0_fn b v hv u
 ·
  exact copyCheck1_fn b v u
theorem writeString_fn (b : Nat) (q : Option Addr) (hq : QOk b q) (ad : Option Addr) (cap : Nat) (l s : Bs) (hl : l.length + s.length ≤ 1000000000) (u : View) :
  FnO Tryz.prog 63 [.pointer (some ⟨b, 0, none⟩), str s] u (bldL b q ad cap l) fun r u' l' => r = .tuple #[.int .i64 s.length, .nilIface] ∧ ∃ ad' cap', l' = bldL b (selfQ b) ad' cap' (l ++ s) := by
 refine FnO.intro [.tmp 4, .tmp 5] Tryz.func63 rfl rfl rfl ?_
 intro w0 D hw0
 refine wc_pin 0 1000 _ 0 rfl rfl ?_
 refine Zc (Za (ya rfl rfl (ya rfl rfl (Zd (ρ' := [(0, _), (1, _)]) ⟨rfl, rfl, trivial⟩ ?_))))
 refine Zb (Zc (Za (ym rfl rfl (Zq rfl rfl ?_))))
 refine Zaz (caps := []) (ρ' := [(0, _), (1, _)]) [1000] [] trivial rfl rfl rfl Tryz.c91 rfl rfl ⟨rfl, rfl, trivial⟩ rfl rfl rfl (FnO.mono (copyCheck_fn b q hq (.slice ad l.length cap) rfl u) ?_)
 rintro v u1 l1 hle1 ⟨rfl, rfl⟩ -
 refine ⟨⟨fun _ h => h, trivial⟩, ?_⟩
 refine Zd (ρ' := [(0, _), (1, _)]) ⟨rfl, rfl, trivial⟩ ?_
 refine Zb (Zc (Za (ym rfl rfl (ym rfl rfl (Zf (Zbn rfl rfl) rfl ?_)))))
 refine Zf (Zi rfl Tryz.f66' rfl (by decide) rfl) rfl ?_
 refine Zf (y_load_t rfl Tryz.k64 rfl rfl rfl (vs := [_]) rfl rfl rfl) rfl ?_
 refine ym rfl rfl (Zq rfl rfl ?_)
 refine do_append_str 1001 trivial rfl rfl Tryz.s64 (by kernel_rfl) rfl (by kernel_rfl) rfl rfl rfl rfl rfl (by omega) ?_
 intro ad' cap'
 refine Zf (Zbn rfl rfl) rfl ?_
 refine Zf (Zi rfl Tryz.f66' rfl (by decide) rfl) rfl ?_
 refine Zq rfl rfl ?_
 refine do_store_t trivial rfl Tryz.k64 rfl rfl rfl (vs := [_]) rfl rfl rfl (Nat.le_of_ble_eq_true rfl) rfl ?_
 refine Zd (ρ' := [(1, _)]) ⟨rfl, trivial⟩ ?_
 refine Zb (Zc (Za (ym rfl rfl (Zf (Zan rfl rfl Tryz.str9 rfl) rfl ?_))))
 refine ya rfl rfl (ya rfl rfl (Zd (ρ' := [(4, _), (5, _)]) ⟨rfl, rfl, trivial⟩ ?_))
 refine Zb (Zv ?_)
 refine finO2 [1000, 1001] (.tmp rfl) (.tmp rfl) rfl rfl ?_
 exact ⟨rfl, ad', cap', by simp [bldL, bytesC_append]; rfl⟩
theorem writeByte_fn (b : Nat) (q : Option Addr) (hq : QOk b q) (ad : Option Addr) (cap : Nat) (l : Bs) (c : UInt8) (hl : l.length + 1 ≤ 1000000000) (u : View) :
  FnO Tryz.prog 64 [.pointer (some ⟨b, 0, none⟩), .int .u8 c.toNat] u (bldL b q ad cap l) fun r u' l' => r = .nilIface ∧ ∃ ad' cap', l' = bldL b (selfQ b) ad' cap' (l ++ [c]) := by
 refine FnO.intro [.tmp 4] Tryz.func64 rfl rfl rfl ?_
 intro w0 D hw0
 refine wc_pin 0 1000 _ 0 rfl rfl ?_
 refine Zc (Za (ya rfl rfl (Zd (ρ' := [(0, _), (1, _)]) ⟨rfl, rfl, trivial⟩ ?_)))
 refine Zb (Zc (Za (ym rfl rfl (Zq rfl rfl ?_))))
 refine Zaz (caps := []) (ρ' := [(0, _), (1, _)]) [1000] [] trivial rfl rfl rfl Tryz.c91 rfl rfl ⟨rfl, rfl, trivial⟩ rfl rfl rfl (FnO.mono (copyCheck_fn b q hq (.slice ad l.length cap) rfl u) ?_)
 rintro v u1 l1 hle1 ⟨rfl, rfl⟩ -
 refine ⟨⟨fun _ h => h, trivial⟩, ?_⟩
 refine Zd (ρ' := [(0, _), (1, _)]) ⟨rfl, rfl, trivial⟩ ?_
 refine Zb (Zc (Za (ym rfl rfl (ym rfl rfl (Zf (Zbn rfl rfl) rfl ?_)))))
 refine Zf (Zi rfl Tryz.f66' rfl (by decide) rfl) rfl ?_
 refine Zf (y_load_t rfl Tryz.k64 rfl rfl rfl (vs := [_]) rfl rfl rfl) rfl ?_
 refine ym rfl rfl (Zq rfl rfl ?_)
 refine Zac trivial Tryz.s64 Tryz.z5 (ps := [(_, _)]) rfl (xs := [_]) rfl rfl rfl rfl rfl rfl rfl ?_
 refine Zq rfl rfl ?_
 refine Zbd 1001 trivial rfl rfl Tryz.s64 Tryz.z5 rfl rfl rfl rfl rfl rfl rfl (by omega) (by omega) rfl rfl ?_
 intro ad' cap'
 refine Zf (Zbn rfl rfl) rfl ?_
 refine Zf (Zi rfl Tryz.f66' rfl (by decide) rfl) rfl ?_
 refine Zq rfl rfl ?_
 refine do_store_t trivial rfl Tryz.k64 rfl rfl rfl (vs := [_]) rfl rfl rfl (Nat.le_of_ble_eq_true rfl) rfl ?_
 refine Zd (ρ' := []) trivial ?_
 refine Zb (Zc (Za (ya rfl rfl (Zd (ρ' := [(4, _)]) ⟨rfl, trivial⟩ ?_))))
 refine Zb (Zv ?_)
 refine finO1 [1000, 1001] (.tmp rfl) rfl rfl ?_
 exact ⟨rfl, ad', cap', by simp [bldL, bytesC_append]; exact ⟨rfl, rfl⟩⟩
theorem bldString_fn (b : Nat) (q : Option Addr) (ad : Option Addr) (cap : Nat) (l : Bs) (hl : l.length ≤ 1000000000) (u : View) :
  FnO Tryz.prog 26 [.pointer (some ⟨b, 0, none⟩)] u (bldL b q ad cap l) fun r u' l' => r = str l ∧ ∃ o2, l' = [(some b, .bt 66 [.pointer q, .slice ad l.length cap]), (none, o2)] := by
 refine FnO.intro [.tmp 2] Tryz.func26 rfl rfl rfl ?_
 intro w0 D hw0
 refine wc_pin 0 1000 _ 0 rfl rfl ?_
 refine Zc (Za (ya rfl rfl (Zd (ρ' := [(0, _)]) ⟨rfl, trivial⟩ ?_)))
 refine Zb (Zc ?_)
 refine Zbu Tryz.mixed rfl [(1000, _)] ⟨rfl, trivial⟩ ?_
 refine ra_y (i := 0) rfl (by kernel_rfl) (by kernel_rfl) (by kernel_rfl) (Ze (Zaq)) (Zbj rfl rfl) rfl ?_
 refine ra_y (i := 1) rfl (by kernel_rfl) (by kernel_rfl) (by kernel_rfl) (Ze (Zaq)) (Zbn rfl rfl) rfl ?_
 refine ra_y (i := 2) rfl (by kernel_rfl) (by kernel_rfl) (by kernel_rfl) (Ze (Zaq)) (Zi rfl Tryz.f66' rfl (by decide) rfl) rfl ?_
 refine ra_y (i := 3) rfl (by kernel_rfl) (by kernel_rfl) (by kernel_rfl) (Ze (Zaq)) (y_load_t rfl Tryz.k64 rfl rfl rfl (vs := [_]) rfl rfl rfl) rfl ?_
 refine ra_y (i := 5) rfl (by kernel_rfl) (by kernel_rfl) (by kernel_rfl) (Ze (Zaq)) (Zbj rfl rfl) rfl ?_
 refine ra_y (i := 6) rfl (by kernel_rfl) (by kernel_rfl) (by kernel_rfl) (Ze (Zaq)) (Zbn rfl rfl) rfl ?_
 refine ra_y (i := 7) rfl (by kernel_rfl) (by kernel_rfl) (by kernel_rfl) (Ze (Zaq)) (Zi rfl Tryz.f66' rfl (by decide) rfl) rfl ?_
 refine ra_y (i := 8) rfl (by kernel_rfl) (by kernel_rfl) (by kernel_rfl) (Ze (Zaq)) (y_load_t rfl Tryz.k64 rfl rfl rfl (vs := [_]) rfl rfl rfl) rfl ?_
 refine ra_y (i := 9) rfl (by kernel_rfl) (by kernel_rfl) (by kernel_rfl) (Ze (Zaq)) (Zal rfl rfl Tryz.s64 rfl) rfl ?_
 refine ra_do (i := 4) rfl rfl (by kernel_rfl) ?_
 refine do_sliceData (e := 5) 1001 ⟨rfl, trivial⟩ (by kernel_rfl) rfl rfl rfl ?_
 intro p7 hp7
 refine ra_do (i := 10) rfl rfl (by kernel_rfl) ?_
 refine do_unsafeString 1001 ⟨rfl, trivial⟩ rfl rfl (by kernel_rfl) (by kernel_rfl) rfl rfl rfl rfl hp7 rfl (by omega) rfl ?_
 refine ra_y (i := 11) rfl (by kernel_rfl) (by kernel_rfl) (by kernel_rfl) (Ze (Zaq)) (y_assign rfl rfl) rfl ?_
 refine ra_end (by kernel_rfl) (ρ' := [(2, _)]) ⟨rfl, trivial⟩ ?_
 refine Zb (Zv ?_)
 refine finO1 [1000, 1001] (.tmp rfl) rfl rfl ?_
 exact ⟨rfl, _, rfl⟩
end Go.Proofs.Ytoajhdnfdfbmaaa
namespace Go.Proofs.Ytoajhdnfdfbmaaa
open Go Go.Eng
set_option linter.unusedSimpArgs false
set_option linter.unusedVariables false
set_option maxRecDepth 4000
theorem txI_kids {B : Nat} {xs : List Inl} {i : Nat} {k : Int} {t d ti : Bs} {a : DAttr} {args : List Bs} {cites : List DCite} {kids : List Inl} (h : txI B xs) (hg : xs[i]? = some (.mk k t d ti a args cites kids)) : t.length ≤ B ∧ d.length ≤ B ∧ ti.length ≤ B ∧ txI B kids := by
 have := txI_get h hg
 unfold txI1 at this
 exact this
theorem plain1_eq (k : Int) (t d ti : Bs) (a : DAttr) (args : List Bs) (cites : List DCite) (kids : List Inl) : plain1 (.mk k t d ti a args cites kids) = (if k = 1 ∨ k = 4 ∨ k = 5 then t else if k = 2 ∨ k = 3 then [32] else if 6 ≤ k ∧ k ≤ 11 then plain kids else if k = 16 then d else []) := by rw [plain1]
set_option maxHeartbeats 4000000 in
theorem writePlain_fn (b : Nat) (n : Nat) : ∀ (v : Value) (xs : List Inl) (q : Option Addr) (ad : Option Addr) (cap : Nat) (l : Bs) (u : View), szI xs ≤ n → szI xs ≤ 1000 → txI 100000 xs → QOk b q → l.length + 100000 * szI xs ≤ 1000000000 → InlS u v xs →
  FnO Tryz.prog 25 [.pointer (some ⟨b, 0, none⟩), v] u (bldL b q ad cap l) fun r u' l' => r = .tuple #[] ∧ ∃ q' ad' cap', QOk b q' ∧ l' = bldL b q' ad' cap' (l ++ plain xs) := by
 induction n using Nat.strongRecOn with
 | _ n ih =>
 intro v xs q ad cap l u hsz hbig htx hq hln ha
 have hlx := len_szI xs
 obtain ⟨cs, ⟨ax, cx, rfl, h1⟩, hc1⟩ := ha
 refine FnO.intro [] Tryz.func25 rfl rfl rfl ?_
 intro w0 D hw0
 refine wc_pin 0 1000 _ 0 rfl rfl ?_
 refine Zc (Za (ym rfl rfl (Zf (Zal rfl rfl Tryz.s37 rfl) rfl ?_)))
 refine ym rfl rfl (Zd (ρ' := [(0, _), (1, _), (7, _), (8, _)]) ⟨rfl, rfl, rfl, rfl, trivial⟩ ?_)
 refine Zb (Zaa ?_)
 refine Zau (fun m ρ σ u' => ∃ i : Nat, i + m = xs.length ∧ VLe u u' ∧ ∃ (qi : Option Addr) (ai : Option Addr) (ci : Nat), σ = [(1000, (some b, .bt 66 [.pointer qi, .slice ai (l ++ plain (xs.take i)).length ci])), (1001, (none, .rwv (.slice ai (l ++ plain (xs.take i)).length ci) 5 1 (l ++ plain (xs.take i)).length (bytesC (l ++ plain (xs.take i)))))] ∧ ρ = [(0, .p 1000 0), (1, .v (.slice ax xs.length cx)), (7, .v (.int .i64 xs.length)), (8, .v (.int .i64 i))] ∧ (QOk b qi)) (xs.length) ?_ ?_
 ·
  refine ⟨[(0, _), (1, _), (7, _), (8, _)], [(1000, _), (1001, _)], ⟨rfl, rfl, rfl, rfl, trivial⟩, ⟨rfl, rfl, trivial⟩, 0, by omega, VLe.refl _, q, ad, cap, (by simp [plain]; try rfl), rfl, ?_⟩
  exact hq
 ·
  rintro m ρ σ u' ⟨i, hi1, hle1, qi, ai, ci, rfl, rfl, hqi⟩
  refine Zc (Za (Zf (Zbh rfl rfl rfl) rfl ?_))
  refine Zd (ρ' := [(0, _), (1, _), (7, _), (8, _), (9, _)]) ⟨rfl, rfl, rfl, rfl, rfl, trivial⟩ ?_
  refine Zb (Zc ?_)
  refine Zn rfl (fun hb1 => ?_) (fun hb1 => ?_)
  ·
   have hlt : i < xs.length := (by have := of_decide_eq_true hb1; omega)
   refine Zs (Zb ?_)
   refine Zbv (fun ρ σ uc21 => ∃ (q2 : Option Addr) (a2 : Option Addr) (c2 : Nat) (L2 : Bs), VLe u' uc21 ∧ σ = [(1000, (some b, .bt 66 [.pointer q2, .slice a2 L2.length c2])), (1001, (none, .rwv (.slice a2 L2.length c2) 5 1 L2.length (bytesC L2)))] ∧ ρ = [(0, .p 1000 0), (1, .v (.slice ax xs.length cx)), (7, .v (.int .i64 xs.length)), (8, .v (.int .i64 i))] ∧ (QOk b q2 ∧ L2 = l ++ plain (xs.take (i + 1)))) ?_ ?_
   ·
    refine Zaa (Zc ?_)
    have h1 := h1.mono hle1
    have hc1 := hc1.mono hle1
    obtain ⟨k, t, d, ti, a, args, cites, kids, vc, vp, va, vt, vk, hg, hcut1, s1, s2, s3, s4, s5, hok⟩ := hc1.at hlt
    have oneAll := (hc1.get i _ hg).one
    rw [hcut1] at oneAll
    have hszk := szI_kids hg
    have hst := szI_take hg
    have hs1 := szI_take_le xs i
    have hs2 := szI_take_le xs (i + 1)
    have hpl := plain_len 100000 (by omega) _ (show txI 100000 (xs.take i) from by
     have : ∀ (ys : List Inl) (j : Nat), txI 100000 ys → txI 100000 (ys.take j) := by
      intro ys
      induction ys with
      | nil => intro j h; simpa using h
      | cons y ys ihy =>
       intro j h
       cases j with
       | zero => simp [txI]
       | succ j =>
        unfold txI at h
        rw [List.take_succ_cons]
        unfold txI
        exact ⟨h.1, ihy j h.2⟩
     exact this xs i htx)
    obtain ⟨tx1, tx2, tx3, tx4⟩ := txI_kids htx hg
    have hpt := plain_take hg
    rw [plain1_eq] at hpt
    simp only [sz1] at hst
    have hll : (l ++ plain (xs.take i)).length + 100000 * (1 + szI kids) ≤ 1000000000 := by rw [List.length_append]; omega
    have hpt' : l ++ plain (xs.take (i + 1)) = (l ++ plain (xs.take i)) ++ (if k = 1 ∨ k = 4 ∨ k = 5 then t else if k = 2 ∨ k = 3 then [32] else if 6 ≤ k ∧ k ≤ 11 then plain kids else if k = 16 then d else []) := by rw [hpt, List.append_assoc]
    generalize l ++ plain (xs.take i) = L at hll hpt' ⊢
    refine Za (ym rfl rfl (ya rfl rfl (Zd (ρ' := [(0, _), (1, _), (4, _), (7, _), (8, _)]) ⟨rfl, rfl, rfl, rfl, rfl, trivial⟩ ?_)))
    refine Zb (Zc (Za (ym rfl rfl (ym rfl rfl (Zf (Zai rfl Tryz.s37 rfl rfl (by assumption) (by first | rfl | omega) (by omega)) rfl ?_)))))
    refine ya rfl rfl (Zd (ρ' := [(0, _), (1, _), (5, _), (7, _), (8, _)]) ⟨rfl, rfl, rfl, rfl, rfl, trivial⟩ ?_)
    refine Zb (Zc (Za (ym rfl rfl (Zf (y_nilCheck_e rfl rfl) rfl ?_))))
    refine Zf (Zap rfl Tryz.f45' rfl (by decide) rfl) rfl ?_
    refine Zf (Zag rfl Tryz.k3 rfl (by assumption) (by omega) (by assumption) (vs := [_]) rfl rfl rfl rfl) rfl ?_
    refine Zd (ρ' := [(0, _), (1, _), (5, _), (7, _), (8, _), (17, _)]) ⟨rfl, rfl, rfl, rfl, rfl, rfl, trivial⟩ ?_
    refine Zb (Zaa ?_)
    refine Zbv (fun ρ σ uci8 => VLe u' uci8 ∧ σ = [(1000, (some b, .bt 66 [.pointer qi, .slice ai L.length ci])), (1001, (none, .rwv (.slice ai L.length ci) 5 1 L.length (bytesC L)))] ∧ ρ = [(0, .p 1000 0), (1, .v (.slice ax xs.length cx)), (5, .e (.slice ax xs.length cx) 10 i 0), (7, .v (.int .i64 xs.length)), (8, .v (.int .i64 i)), (17, .v (.int .i64 k)), (18, .v (.bool (decide (k = 1 ∨ k = 4 ∨ k = 5))))] ∧ (u' = uci8)) ?_ ?_
    ·
     refine Zc (Za (Zf (Zay rfl rfl rfl) rfl ?_))
     refine ya rfl rfl (Zd (ρ' := [(0, _), (1, _), (5, _), (7, _), (8, _), (17, _), (18, _)]) ⟨rfl, rfl, rfl, rfl, rfl, rfl, rfl, trivial⟩ ?_)
     refine Zb ?_
     refine Zn rfl (fun hb5 => ?_) (fun hb5 => ?_)
     ·
      refine Zs (Zae ?_)
      refine ⟨[(0, _), (1, _), (5, _), (7, _), (8, _), (17, _), (18, _)], [(1000, _), (1001, _)], ⟨rfl, rfl, rfl, rfl, rfl, rfl, rfl, trivial⟩, ⟨rfl, rfl, trivial⟩, (VLe.refl _), rfl, (by first | rfl | (simp only [List.cons.injEq, Prod.mk.injEq, SV.v.injEq, Value.bool.injEq, eq_self, true_and, and_true]; exact decide_eq_decide.2 (by simp only [decide_eq_true_eq, decide_eq_false_iff_not] at *; omega))), ?_⟩
      rfl
     ·
      refine Zc (Za (Zf (Zay rfl rfl rfl) rfl ?_))
      refine ya rfl rfl (Zd (ρ' := [(0, _), (1, _), (5, _), (7, _), (8, _), (17, _), (18, _)]) ⟨rfl, rfl, rfl, rfl, rfl, rfl, rfl, trivial⟩ ?_)
      refine Zb ?_
      refine Zn rfl (fun hb6 => ?_) (fun hb6 => ?_)
      ·
       refine Zs (Zae ?_)
       refine ⟨[(0, _), (1, _), (5, _), (7, _), (8, _), (17, _), (18, _)], [(1000, _), (1001, _)], ⟨rfl, rfl, rfl, rfl, rfl, rfl, rfl, trivial⟩, ⟨rfl, rfl, trivial⟩, (VLe.refl _), rfl, (by first | rfl | (simp only [List.cons.injEq, Prod.mk.injEq, SV.v.injEq, Value.bool.injEq, eq_self, true_and, and_true]; exact decide_eq_decide.2 (by simp only [decide_eq_true_eq, decide_eq_false_iff_not] at *; omega))), ?_⟩
       rfl
      ·
       refine Za (Zf (Zay rfl rfl rfl) rfl ?_)
       refine ya rfl rfl (Zd (ρ' := [(0, _), (1, _), (5, _), (7, _), (8, _), (17, _), (18, _)]) ⟨rfl, rfl, rfl, rfl, rfl, rfl, rfl, trivial⟩ ?_)
       refine Zae ?_
       refine ⟨[(0, _), (1, _), (5, _), (7, _), (8, _), (17, _), (18, _)], [(1000, _), (1001, _)], ⟨rfl, rfl, rfl, rfl, rfl, rfl, rfl, trivial⟩, ⟨rfl, rfl, trivial⟩, (VLe.refl _), rfl, (by first | rfl | (simp only [List.cons.injEq, Prod.mk.injEq, SV.v.injEq, Value.bool.injEq, eq_self, true_and, and_true]; exact decide_eq_decide.2 (by simp only [decide_eq_true_eq, decide_eq_false_iff_not] at *; omega))), ?_⟩
       rfl
    ·
     rintro ρ σ uci8 ⟨hlci8, rfl, rfl, rfl⟩
     refine Zn rfl (fun hb7 => ?_) (fun hb7 => ?_)
     ·
      refine Za (ym rfl rfl (ym rfl rfl (Zf (y_nilCheck_e rfl rfl) rfl ?_)))
      refine Zf (Zap rfl Tryz.f45' rfl (by decide) rfl) rfl ?_
      refine Zf (Zag rfl Tryz.k9 rfl (by assumption) (by omega) (by assumption) (vs := [_]) rfl rfl rfl rfl) rfl ?_
      refine Zq rfl rfl ?_
      refine Zaz (caps := []) (ρ' := [(0, _), (1, _), (7, _), (8, _)]) [1000, 1001] [] trivial rfl rfl rfl Tryz.c63 rfl rfl ⟨rfl, rfl, rfl, rfl, trivial⟩ rfl rfl rfl (FnO.mono (writeString_fn b qi hqi ai ci L t (by omega) _) ?_)
      rintro v uS l1 hleS ⟨rfl, aS, cS, rfl⟩ -
      refine ⟨⟨fun _ h => h, fun _ h => h, trivial⟩, ?_⟩
      refine Zd (ρ' := [(0, _), (1, _), (7, _), (8, _)]) ⟨rfl, rfl, rfl, rfl, trivial⟩ ?_
      refine Zaf (Zaf (Zae ?_))
      first
       | (refine ⟨[(0, _), (1, _), (7, _), (8, _)], [(1000, _), (1001, _)], ⟨rfl, rfl, rfl, rfl, trivial⟩, ⟨rfl, rfl, trivial⟩, selfQ b, aS, cS, L ++ t, hleS, (by first | rfl | simp), (by first | rfl | (simp only [List.cons.injEq, Prod.mk.injEq, SV.v.injEq, Value.int.injEq, true_and, and_true]; omega) | simp), ?_⟩
          (refine ⟨.inr rfl, ?_⟩; simp only [decide_eq_true_eq, decide_eq_false_iff_not] at *; rw [hpt', if_pos (by omega)]))
       | (refine ⟨[(0, _), (1, _), (7, _), (8, _)], [(1000, _), (1001, _)], ⟨rfl, rfl, rfl, rfl, trivial⟩, ⟨rfl, rfl, trivial⟩, selfQ b, aW, cW, L ++ [32], hleS, (by first | rfl | simp), (by first | rfl | (simp only [List.cons.injEq, Prod.mk.injEq, SV.v.injEq, Value.int.injEq, true_and, and_true]; omega) | simp), ?_⟩
          (refine ⟨.inr rfl, ?_⟩; simp only [decide_eq_true_eq, decide_eq_false_iff_not] at *; rw [hpt', if_neg (by omega), if_pos (by omega)]))
       | (refine ⟨[(0, _), (1, _), (7, _), (8, _)], [(1000, _), (1001, _)], ⟨rfl, rfl, rfl, rfl, trivial⟩, ⟨rfl, rfl, trivial⟩, qR, aR, cR, L ++ plain kids, hleS, (by first | rfl | simp), (by first | rfl | (simp only [List.cons.injEq, Prod.mk.injEq, SV.v.injEq, Value.int.injEq, true_and, and_true]; omega) | simp), ?_⟩
          (refine ⟨hqR, ?_⟩; simp only [decide_eq_true_eq, decide_eq_false_iff_not] at *; rw [hpt', if_neg (by omega), if_neg (by omega), if_pos (by omega)]))
       | (refine ⟨[(0, _), (1, _), (7, _), (8, _)], [(1000, _), (1001, _)], ⟨rfl, rfl, rfl, rfl, trivial⟩, ⟨rfl, rfl, trivial⟩, selfQ b, aT, cT, L ++ d, hleS, (by first | rfl | simp), (by first | rfl | (simp only [List.cons.injEq, Prod.mk.injEq, SV.v.injEq, Value.int.injEq, true_and, and_true]; omega) | simp), ?_⟩
          (refine ⟨.inr rfl, ?_⟩; simp only [decide_eq_true_eq, decide_eq_false_iff_not] at *; rw [hpt', if_neg (by omega), if_neg (by omega), if_neg (by omega), if_pos (by omega)]))
       | (refine ⟨[(0, _), (1, _), (7, _), (8, _)], [(1000, _), (1001, _)], ⟨rfl, rfl, rfl, rfl, trivial⟩, ⟨rfl, rfl, trivial⟩, qi, ai, ci, L, (VLe.refl _), (by first | rfl | simp), (by first | rfl | (simp only [List.cons.injEq, Prod.mk.injEq, SV.v.injEq, Value.int.injEq, true_and, and_true]; omega) | simp), ?_⟩
          (refine ⟨hqi, ?_⟩; simp only [decide_eq_true_eq, decide_eq_false_iff_not] at *; rw [hpt', if_neg (by omega), if_neg (by omega), if_neg (by omega), if_neg (by omega), List.append_nil]))
     ·
      refine Zbv (fun ρ σ uci11 => VLe u' uci11 ∧ σ = [(1000, (some b, .bt 66 [.pointer qi, .slice ai L.length ci])), (1001, (none, .rwv (.slice ai L.length ci) 5 1 L.length (bytesC L)))] ∧ ρ = [(0, .p 1000 0), (1, .v (.slice ax xs.length cx)), (5, .e (.slice ax xs.length cx) 10 i 0), (7, .v (.int .i64 xs.length)), (8, .v (.int .i64 i)), (17, .v (.int .i64 k)), (28, .v (.bool (decide (k = 2 ∨ k = 3))))] ∧ (u' = uci11)) ?_ ?_
      ·
       refine Zc (Za (Zf (Zay rfl rfl rfl) rfl ?_))
       refine ya rfl rfl (Zd (ρ' := [(0, _), (1, _), (5, _), (7, _), (8, _), (17, _), (28, _)]) ⟨rfl, rfl, rfl, rfl, rfl, rfl, rfl, trivial⟩ ?_)
       refine Zb ?_
       refine Zn rfl (fun hb9 => ?_) (fun hb9 => ?_)
       ·
        refine Zs (Zae ?_)
        refine ⟨[(0, _), (1, _), (5, _), (7, _), (8, _), (17, _), (28, _)], [(1000, _), (1001, _)], ⟨rfl, rfl, rfl, rfl, rfl, rfl, rfl, trivial⟩, ⟨rfl, rfl, trivial⟩, (VLe.refl _), rfl, (by first | rfl | (simp only [List.cons.injEq, Prod.mk.injEq, SV.v.injEq, Value.bool.injEq, eq_self, true_and, and_true]; exact decide_eq_decide.2 (by simp only [decide_eq_true_eq, decide_eq_false_iff_not] at *; omega))), ?_⟩
        rfl
       ·
        refine Za (Zf (Zay rfl rfl rfl) rfl ?_)
        refine ya rfl rfl (Zd (ρ' := [(0, _), (1, _), (5, _), (7, _), (8, _), (17, _), (28, _)]) ⟨rfl, rfl, rfl, rfl, rfl, rfl, rfl, trivial⟩ ?_)
        refine Zae ?_
        refine ⟨[(0, _), (1, _), (5, _), (7, _), (8, _), (17, _), (28, _)], [(1000, _), (1001, _)], ⟨rfl, rfl, rfl, rfl, rfl, rfl, rfl, trivial⟩, ⟨rfl, rfl, trivial⟩, (VLe.refl _), rfl, (by first | rfl | (simp only [List.cons.injEq, Prod.mk.injEq, SV.v.injEq, Value.bool.injEq, eq_self, true_and, and_true]; exact decide_eq_decide.2 (by simp only [decide_eq_true_eq, decide_eq_false_iff_not] at *; omega))), ?_⟩
        rfl
      ·
       rintro ρ σ uci11 ⟨hlci11, rfl, rfl, rfl⟩
       refine Zn rfl (fun hb10 => ?_) (fun hb10 => ?_)
       ·
        refine Za (ym rfl rfl (Zq rfl rfl ?_))
        refine Zaz (caps := []) (ρ' := [(0, _), (1, _), (7, _), (8, _)]) [1000, 1001] [] trivial rfl rfl rfl Tryz.c64 rfl rfl ⟨rfl, rfl, rfl, rfl, trivial⟩ rfl rfl rfl (FnO.mono (writeByte_fn b qi hqi ai ci L 32 (by omega) _) ?_)
        rintro v uS l1 hleS ⟨rfl, aW, cW, rfl⟩ -
        refine ⟨⟨fun _ h => h, fun _ h => h, trivial⟩, ?_⟩
        refine Zd (ρ' := [(0, _), (1, _), (7, _), (8, _)]) ⟨rfl, rfl, rfl, rfl, trivial⟩ ?_
        refine Zaf (Zaf (Zae ?_))
        first
         | (refine ⟨[(0, _), (1, _), (7, _), (8, _)], [(1000, _), (1001, _)], ⟨rfl, rfl, rfl, rfl, trivial⟩, ⟨rfl, rfl, trivial⟩, selfQ b, aS, cS, L ++ t, hleS, (by first | rfl | simp), (by first | rfl | (simp only [List.cons.injEq, Prod.mk.injEq, SV.v.injEq, Value.int.injEq, true_and, and_true]; omega) | simp), ?_⟩
            (refine ⟨.inr rfl, ?_⟩; simp only [decide_eq_true_eq, decide_eq_false_iff_not] at *; rw [hpt', if_pos (by omega)]))
         | (refine ⟨[(0, _), (1, _), (7, _), (8, _)], [(1000, _), (1001, _)], ⟨rfl, rfl, rfl, rfl, trivial⟩, ⟨rfl, rfl, trivial⟩, selfQ b, aW, cW, L ++ [32], hleS, (by first | rfl | simp), (by first | rfl | (simp only [List.cons.injEq, Prod.mk.injEq, SV.v.injEq, Value.int.injEq, true_and, and_true]; omega) | simp), ?_⟩
            (refine ⟨.inr rfl, ?_⟩; simp only [decide_eq_true_eq, decide_eq_false_iff_not] at *; rw [hpt', if_neg (by omega), if_pos (by omega)]))
         | (refine ⟨[(0, _), (1, _), (7, _), (8, _)], [(1000, _), (1001, _)], ⟨rfl, rfl, rfl, rfl, trivial⟩, ⟨rfl, rfl, trivial⟩, qR, aR, cR, L ++ plain kids, hleS, (by first | rfl | simp), (by first | rfl | (simp only [List.cons.injEq, Prod.mk.injEq, SV.v.injEq, Value.int.injEq, true_and, and_true]; omega) | simp), ?_⟩
            (refine ⟨hqR, ?_⟩; simp only [decide_eq_true_eq, decide_eq_false_iff_not] at *; rw [hpt', if_neg (by omega), if_neg (by omega), if_pos (by omega)]))
         | (refine ⟨[(0, _), (1, _), (7, _), (8, _)], [(1000, _), (1001, _)], ⟨rfl, rfl, rfl, rfl, trivial⟩, ⟨rfl, rfl, trivial⟩, selfQ b, aT, cT, L ++ d, hleS, (by first | rfl | simp), (by first | rfl | (simp only [List.cons.injEq, Prod.mk.injEq, SV.v.injEq, Value.int.injEq, true_and, and_true]; omega) | simp), ?_⟩
            (refine ⟨.inr rfl, ?_⟩; simp only [decide_eq_true_eq, decide_eq_false_iff_not] at *; rw [hpt', if_neg (by omega), if_neg (by omega), if_neg (by omega), if_pos (by omega)]))
         | (refine ⟨[(0, _), (1, _), (7, _), (8, _)], [(1000, _), (1001, _)], ⟨rfl, rfl, rfl, rfl, trivial⟩, ⟨rfl, rfl, trivial⟩, qi, ai, ci, L, (VLe.refl _), (by first | rfl | simp), (by first | rfl | (simp only [List.cons.injEq, Prod.mk.injEq, SV.v.injEq, Value.int.injEq, true_and, and_true]; omega) | simp), ?_⟩
            (refine ⟨hqi, ?_⟩; simp only [decide_eq_true_eq, decide_eq_false_iff_not] at *; rw [hpt', if_neg (by omega), if_neg (by omega), if_neg (by omega), if_neg (by omega), List.append_nil]))
       ·
        refine Zbv (fun ρ σ uci18 => VLe u' uci18 ∧ σ = [(1000, (some b, .bt 66 [.pointer qi, .slice ai L.length ci])), (1001, (none, .rwv (.slice ai L.length ci) 5 1 L.length (bytesC L)))] ∧ ρ = [(0, .p 1000 0), (1, .v (.slice ax xs.length cx)), (5, .e (.slice ax xs.length cx) 10 i 0), (7, .v (.int .i64 xs.length)), (8, .v (.int .i64 i)), (17, .v (.int .i64 k)), (33, .v (.bool (decide (6 ≤ k ∧ k ≤ 11))))] ∧ (u' = uci18)) ?_ ?_
        ·
         refine Zc (Za (Zf (Zay rfl rfl rfl) rfl ?_))
         refine ya rfl rfl (Zd (ρ' := [(0, _), (1, _), (5, _), (7, _), (8, _), (17, _), (33, _)]) ⟨rfl, rfl, rfl, rfl, rfl, rfl, rfl, trivial⟩ ?_)
         refine Zb ?_
         refine Zn rfl (fun hb12 => ?_) (fun hb12 => ?_)
         ·
          refine Zs (Zae ?_)
          refine ⟨[(0, _), (1, _), (5, _), (7, _), (8, _), (17, _), (33, _)], [(1000, _), (1001, _)], ⟨rfl, rfl, rfl, rfl, rfl, rfl, rfl, trivial⟩, ⟨rfl, rfl, trivial⟩, (VLe.refl _), rfl, (by first | rfl | (simp only [List.cons.injEq, Prod.mk.injEq, SV.v.injEq, Value.bool.injEq, eq_self, true_and, and_true]; exact decide_eq_decide.2 (by simp only [decide_eq_true_eq, decide_eq_false_iff_not] at *; omega))), ?_⟩
          rfl
         ·
          refine Zc (Za (Zf (Zay rfl rfl rfl) rfl ?_))
          refine ya rfl rfl (Zd (ρ' := [(0, _), (1, _), (5, _), (7, _), (8, _), (17, _), (33, _)]) ⟨rfl, rfl, rfl, rfl, rfl, rfl, rfl, trivial⟩ ?_)
          refine Zb ?_
          refine Zn rfl (fun hb13 => ?_) (fun hb13 => ?_)
          ·
           refine Zs (Zae ?_)
           refine ⟨[(0, _), (1, _), (5, _), (7, _), (8, _), (17, _), (33, _)], [(1000, _), (1001, _)], ⟨rfl, rfl, rfl, rfl, rfl, rfl, rfl, trivial⟩, ⟨rfl, rfl, trivial⟩, (VLe.refl _), rfl, (by first | rfl | (simp only [List.cons.injEq, Prod.mk.injEq, SV.v.injEq, Value.bool.injEq, eq_self, true_and, and_true]; exact decide_eq_decide.2 (by simp only [decide_eq_true_eq, decide_eq_false_iff_not] at *; omega))), ?_⟩
           rfl
          ·
           refine Zc (Za (Zf (Zay rfl rfl rfl) rfl ?_))
           refine ya rfl rfl (Zd (ρ' := [(0, _), (1, _), (5, _), (7, _), (8, _), (17, _), (33, _)]) ⟨rfl, rfl, rfl, rfl, rfl, rfl, rfl, trivial⟩ ?_)
           refine Zb ?_
           refine Zn rfl (fun hb14 => ?_) (fun hb14 => ?_)
           ·
            refine Zs (Zae ?_)
            refine ⟨[(0, _), (1, _), (5, _), (7, _), (8, _), (17, _), (33, _)], [(1000, _), (1001, _)], ⟨rfl, rfl, rfl, rfl, rfl, rfl, rfl, trivial⟩, ⟨rfl, rfl, trivial⟩, (VLe.refl _), rfl, (by first | rfl | (simp only [List.cons.injEq, Prod.mk.injEq, SV.v.injEq, Value.bool.injEq, eq_self, true_and, and_true]; exact decide_eq_decide.2 (by simp only [decide_eq_true_eq, decide_eq_false_iff_not] at *; omega))), ?_⟩
            rfl
           ·
            refine Zc (Za (Zf (Zay rfl rfl rfl) rfl ?_))
            refine ya rfl rfl (Zd (ρ' := [(0, _), (1, _), (5, _), (7, _), (8, _), (17, _), (33, _)]) ⟨rfl, rfl, rfl, rfl, rfl, rfl, rfl, trivial⟩ ?_)
            refine Zb ?_
            refine Zn rfl (fun hb15 => ?_) (fun hb15 => ?_)
            ·
             refine Zs (Zae ?_)
             refine ⟨[(0, _), (1, _), (5, _), (7, _), (8, _), (17, _), (33, _)], [(1000, _), (1001, _)], ⟨rfl, rfl, rfl, rfl, rfl, rfl, rfl, trivial⟩, ⟨rfl, rfl, trivial⟩, (VLe.refl _), rfl, (by first | rfl | (simp only [List.cons.injEq, Prod.mk.injEq, SV.v.injEq, Value.bool.injEq, eq_self, true_and, and_true]; exact decide_eq_decide.2 (by simp only [decide_eq_true_eq, decide_eq_false_iff_not] at *; omega))), ?_⟩
             rfl
            ·
             refine Zc (Za (Zf (Zay rfl rfl rfl) rfl ?_))
             refine ya rfl rfl (Zd (ρ' := [(0, _), (1, _), (5, _), (7, _), (8, _), (17, _), (33, _)]) ⟨rfl, rfl, rfl, rfl, rfl, rfl, rfl, trivial⟩ ?_)
             refine Zb ?_
             refine Zn rfl (fun hb16 => ?_) (fun hb16 => ?_)
             ·
              refine Zs (Zae ?_)
              refine ⟨[(0, _), (1, _), (5, _), (7, _), (8, _), (17, _), (33, _)], [(1000, _), (1001, _)], ⟨rfl, rfl, rfl, rfl, rfl, rfl, rfl, trivial⟩, ⟨rfl, rfl, trivial⟩, (VLe.refl _), rfl, (by first | rfl | (simp only [List.cons.injEq, Prod.mk.injEq, SV.v.injEq, Value.bool.injEq, eq_self, true_and, and_true]; exact decide_eq_decide.2 (by simp only [decide_eq_true_eq, decide_eq_false_iff_not] at *; omega))), ?_⟩
              rfl
             ·
              refine Za (Zf (Zay rfl rfl rfl) rfl ?_)
              refine ya rfl rfl (Zd (ρ' := [(0, _), (1, _), (5, _), (7, _), (8, _), (17, _), (33, _)]) ⟨rfl, rfl, rfl, rfl, rfl, rfl, rfl, trivial⟩ ?_)
              refine Zae ?_
              refine ⟨[(0, _), (1, _), (5, _), (7, _), (8, _), (17, _), (33, _)], [(1000, _), (1001, _)], ⟨rfl, rfl, rfl, rfl, rfl, rfl, rfl, trivial⟩, ⟨rfl, rfl, trivial⟩, (VLe.refl _), rfl, (by first | rfl | (simp only [List.cons.injEq, Prod.mk.injEq, SV.v.injEq, Value.bool.injEq, eq_self, true_and, and_true]; exact decide_eq_decide.2 (by simp only [decide_eq_true_eq, decide_eq_false_iff_not] at *; omega))), ?_⟩
              rfl
        ·
         rintro ρ σ uci18 ⟨hlci18, rfl, rfl, rfl⟩
         refine Zn rfl (fun hb17 => ?_) (fun hb17 => ?_)
         ·
          refine Za (ym rfl rfl (ym rfl rfl (Zf (y_nilCheck_e rfl rfl) rfl ?_)))
          refine Zf (Zap rfl Tryz.f45' rfl (by decide) rfl) rfl ?_
          refine Zf (Zag rfl Tryz.k37 rfl (by assumption) (by omega) (by assumption) (vs := [_]) rfl rfl rfl rfl) rfl ?_
          refine Zq rfl rfl ?_
          refine Zaz (caps := []) (ρ' := [(0, _), (1, _), (7, _), (8, _)]) [1000, 1001] [] trivial rfl rfl rfl Tryz.c25 rfl rfl ⟨rfl, rfl, rfl, rfl, trivial⟩ rfl rfl rfl (FnO.mono (ih (szI kids) (by omega) vk kids qi ai ci L _ (Nat.le_refl _) (by omega) tx4 hqi (by omega) s5) ?_)
          rintro v uS l1 hleS ⟨rfl, qR, aR, cR, hqR, rfl⟩ -
          refine ⟨⟨fun _ h => h, fun _ h => h, trivial⟩, ?_⟩
          refine Zd (ρ' := [(0, _), (1, _), (7, _), (8, _)]) ⟨rfl, rfl, rfl, rfl, trivial⟩ ?_
          refine Zaf (Zaf (Zae ?_))
          first
           | (refine ⟨[(0, _), (1, _), (7, _), (8, _)], [(1000, _), (1001, _)], ⟨rfl, rfl, rfl, rfl, trivial⟩, ⟨rfl, rfl, trivial⟩, selfQ b, aS, cS, L ++ t, hleS, (by first | rfl | simp), (by first | rfl | (simp only [List.cons.injEq, Prod.mk.injEq, SV.v.injEq, Value.int.injEq, true_and, and_true]; omega) | simp), ?_⟩
              (refine ⟨.inr rfl, ?_⟩; simp only [decide_eq_true_eq, decide_eq_false_iff_not] at *; rw [hpt', if_pos (by omega)]))
           | (refine ⟨[(0, _), (1, _), (7, _), (8, _)], [(1000, _), (1001, _)], ⟨rfl, rfl, rfl, rfl, trivial⟩, ⟨rfl, rfl, trivial⟩, selfQ b, aW, cW, L ++ [32], hleS, (by first | rfl | simp), (by first | rfl | (simp only [List.cons.injEq, Prod.mk.injEq, SV.v.injEq, Value.int.injEq, true_and, and_true]; omega) | simp), ?_⟩
              (refine ⟨.inr rfl, ?_⟩; simp only [decide_eq_true_eq, decide_eq_false_iff_not] at *; rw [hpt', if_neg (by omega), if_pos (by omega)]))
           | (refine ⟨[(0, _), (1, _), (7, _), (8, _)], [(1000, _), (1001, _)], ⟨rfl, rfl, rfl, rfl, trivial⟩, ⟨rfl, rfl, trivial⟩, qR, aR, cR, L ++ plain kids, hleS, (by first | rfl | simp), (by first | rfl | (simp only [List.cons.injEq, Prod.mk.injEq, SV.v.injEq, Value.int.injEq, true_and, and_true]; omega) | simp), ?_⟩
              (refine ⟨hqR, ?_⟩; simp only [decide_eq_true_eq, decide_eq_false_iff_not] at *; rw [hpt', if_neg (by omega), if_neg (by omega), if_pos (by omega)]))
           | (refine ⟨[(0, _), (1, _), (7, _), (8, _)], [(1000, _), (1001, _)], ⟨rfl, rfl, rfl, rfl, trivial⟩, ⟨rfl, rfl, trivial⟩, selfQ b, aT, cT, L ++ d, hleS, (by first | rfl | simp), (by first | rfl | (simp only [List.cons.injEq, Prod.mk.injEq, SV.v.injEq, Value.int.injEq, true_and, and_true]; omega) | simp), ?_⟩
              (refine ⟨.inr rfl, ?_⟩; simp only [decide_eq_true_eq, decide_eq_false_iff_not] at *; rw [hpt', if_neg (by omega), if_neg (by omega), if_neg (by omega), if_pos (by omega)]))
           | (refine ⟨[(0, _), (1, _), (7, _), (8, _)], [(1000, _), (1001, _)], ⟨rfl, rfl, rfl, rfl, trivial⟩, ⟨rfl, rfl, trivial⟩, qi, ai, ci, L, (VLe.refl _), (by first | rfl | simp), (by first | rfl | (simp only [List.cons.injEq, Prod.mk.injEq, SV.v.injEq, Value.int.injEq, true_and, and_true]; omega) | simp), ?_⟩
              (refine ⟨hqi, ?_⟩; simp only [decide_eq_true_eq, decide_eq_false_iff_not] at *; rw [hpt', if_neg (by omega), if_neg (by omega), if_neg (by omega), if_neg (by omega), List.append_nil]))
         ·
          refine Zc (Za (Zf (Zay rfl rfl rfl) rfl ?_))
          refine ya rfl rfl (Zd (ρ' := [(0, _), (1, _), (5, _), (7, _), (8, _), (46, _)]) ⟨rfl, rfl, rfl, rfl, rfl, rfl, trivial⟩ ?_)
          refine Zb ?_
          refine Zn rfl (fun hb19 => ?_) (fun hb19 => ?_)
          ·
           refine Za (ym rfl rfl (ym rfl rfl (Zf (y_nilCheck_e rfl rfl) rfl ?_)))
           refine Zf (Zap rfl Tryz.f45' rfl (by decide) rfl) rfl ?_
           refine Zf (Zag rfl Tryz.k9 rfl (by assumption) (by omega) (by assumption) (vs := [_]) rfl rfl rfl rfl) rfl ?_
           refine Zq rfl rfl ?_
           refine Zaz (caps := []) (ρ' := [(0, _), (1, _), (7, _), (8, _)]) [1000, 1001] [] trivial rfl rfl rfl Tryz.c63 rfl rfl ⟨rfl, rfl, rfl, rfl, trivial⟩ rfl rfl rfl (FnO.mono (writeString_fn b qi hqi ai ci L d (by omega) _) ?_)
           rintro v uS l1 hleS ⟨rfl, aT, cT, rfl⟩ -
           refine ⟨⟨fun _ h => h, fun _ h => h, trivial⟩, ?_⟩
           refine Zd (ρ' := [(0, _), (1, _), (7, _), (8, _)]) ⟨rfl, rfl, rfl, rfl, trivial⟩ ?_
           refine Zaf (Zaf (Zae ?_))
           first
            | (refine ⟨[(0, _), (1, _), (7, _), (8, _)], [(1000, _), (1001, _)], ⟨rfl, rfl, rfl, rfl, trivial⟩, ⟨rfl, rfl, trivial⟩, selfQ b, aS, cS, L ++ t, hleS, (by first | rfl | simp), (by first | rfl | (simp only [List.cons.injEq, Prod.mk.injEq, SV.v.injEq, Value.int.injEq, true_and, and_true]; omega) | simp), ?_⟩
               (refine ⟨.inr rfl, ?_⟩; simp only [decide_eq_true_eq, decide_eq_false_iff_not] at *; rw [hpt', if_pos (by omega)]))
            | (refine ⟨[(0, _), (1, _), (7, _), (8, _)], [(1000, _), (1001, _)], ⟨rfl, rfl, rfl, rfl, trivial⟩, ⟨rfl, rfl, trivial⟩, selfQ b, aW, cW, L ++ [32], hleS, (by first | rfl | simp), (by first | rfl | (simp only [List.cons.injEq, Prod.mk.injEq, SV.v.injEq, Value.int.injEq, true_and, and_true]; omega) | simp), ?_⟩
               (refine ⟨.inr rfl, ?_⟩; simp only [decide_eq_true_eq, decide_eq_false_iff_not] at *; rw [hpt', if_neg (by omega), if_pos (by omega)]))
            | (refine ⟨[(0, _), (1, _), (7, _), (8, _)], [(1000, _), (1001, _)], ⟨rfl, rfl, rfl, rfl, trivial⟩, ⟨rfl, rfl, trivial⟩, qR, aR, cR, L ++ plain kids, hleS, (by first | rfl | simp), (by first | rfl | (simp only [List.cons.injEq, Prod.mk.injEq, SV.v.injEq, Value.int.injEq, true_and, and_true]; omega) | simp), ?_⟩
               (refine ⟨hqR, ?_⟩; simp only [decide_eq_true_eq, decide_eq_false_iff_not] at *; rw [hpt', if_neg (by omega), if_neg (by omega), if_pos (by omega)]))
            | (refine ⟨[(0, _), (1, _), (7, _), (8, _)], [(1000, _), (1001, _)], ⟨rfl, rfl, rfl, rfl, trivial⟩, ⟨rfl, rfl, trivial⟩, selfQ b, aT, cT, L ++ d, hleS, (by first | rfl | simp), (by first | rfl | (simp only [List.cons.injEq, Prod.mk.injEq, SV.v.injEq, Value.int.injEq, true_and, and_true]; omega) | simp), ?_⟩
               (refine ⟨.inr rfl, ?_⟩; simp only [decide_eq_true_eq, decide_eq_false_iff_not] at *; rw [hpt', if_neg (by omega), if_neg (by omega), if_neg (by omega), if_pos (by omega)]))
            | (refine ⟨[(0, _), (1, _), (7, _), (8, _)], [(1000, _), (1001, _)], ⟨rfl, rfl, rfl, rfl, trivial⟩, ⟨rfl, rfl, trivial⟩, qi, ai, ci, L, (VLe.refl _), (by first | rfl | simp), (by first | rfl | (simp only [List.cons.injEq, Prod.mk.injEq, SV.v.injEq, Value.int.injEq, true_and, and_true]; omega) | simp), ?_⟩
               (refine ⟨hqi, ?_⟩; simp only [decide_eq_true_eq, decide_eq_false_iff_not] at *; rw [hpt', if_neg (by omega), if_neg (by omega), if_neg (by omega), if_neg (by omega), List.append_nil]))
          ·
           refine Zs (Zaf (Zaf (Zae ?_)))
           first
            | (refine ⟨[(0, _), (1, _), (7, _), (8, _)], [(1000, _), (1001, _)], ⟨rfl, rfl, rfl, rfl, trivial⟩, ⟨rfl, rfl, trivial⟩, selfQ b, aS, cS, L ++ t, hleS, (by first | rfl | simp), (by first | rfl | (simp only [List.cons.injEq, Prod.mk.injEq, SV.v.injEq, Value.int.injEq, true_and, and_true]; omega) | simp), ?_⟩
               (refine ⟨.inr rfl, ?_⟩; simp only [decide_eq_true_eq, decide_eq_false_iff_not] at *; rw [hpt', if_pos (by omega)]))
            | (refine ⟨[(0, _), (1, _), (7, _), (8, _)], [(1000, _), (1001, _)], ⟨rfl, rfl, rfl, rfl, trivial⟩, ⟨rfl, rfl, trivial⟩, selfQ b, aW, cW, L ++ [32], hleS, (by first | rfl | simp), (by first | rfl | (simp only [List.cons.injEq, Prod.mk.injEq, SV.v.injEq, Value.int.injEq, true_and, and_true]; omega) | simp), ?_⟩
               (refine ⟨.inr rfl, ?_⟩; simp only [decide_eq_true_eq, decide_eq_false_iff_not] at *; rw [hpt', if_neg (by omega), if_pos (by omega)]))
            | (refine ⟨[(0, _), (1, _), (7, _), (8, _)], [(1000, _), (1001, _)], ⟨rfl, rfl, rfl, rfl, trivial⟩, ⟨rfl, rfl, trivial⟩, qR, aR, cR, L ++ plain kids, hleS, (by first | rfl | simp), (by first | rfl | (simp only [List.cons.injEq, Prod.mk.injEq, SV.v.injEq, Value.int.injEq, true_and, and_true]; omega) | simp), ?_⟩
               (refine ⟨hqR, ?_⟩; simp only [decide_eq_true_eq, decide_eq_false_iff_not] at *; rw [hpt', if_neg (by omega), if_neg (by omega), if_pos (by omega)]))
            | (refine ⟨[(0, _), (1, _), (7, _), (8, _)], [(1000, _), (1001, _)], ⟨rfl, rfl, rfl, rfl, trivial⟩, ⟨rfl, rfl, trivial⟩, selfQ b, aT, cT, L ++ d, hleS, (by first | rfl | simp), (by first | rfl | (simp only [List.cons.injEq, Prod.mk.injEq, SV.v.injEq, Value.int.injEq, true_and, and_true]; omega) | simp), ?_⟩
               (refine ⟨.inr rfl, ?_⟩; simp only [decide_eq_true_eq, decide_eq_false_iff_not] at *; rw [hpt', if_neg (by omega), if_neg (by omega), if_neg (by omega), if_pos (by omega)]))
            | (refine ⟨[(0, _), (1, _), (7, _), (8, _)], [(1000, _), (1001, _)], ⟨rfl, rfl, rfl, rfl, trivial⟩, ⟨rfl, rfl, trivial⟩, qi, ai, ci, L, (VLe.refl _), (by first | rfl | simp), (by first | rfl | (simp only [List.cons.injEq, Prod.mk.injEq, SV.v.injEq, Value.int.injEq, true_and, and_true]; omega) | simp), ?_⟩
               (refine ⟨hqi, ?_⟩; simp only [decide_eq_true_eq, decide_eq_false_iff_not] at *; rw [hpt', if_neg (by omega), if_neg (by omega), if_neg (by omega), if_neg (by omega), List.append_nil]))
   ·
    rintro ρ σ uc21 ⟨q2, a2, c2, L2, hlc21, rfl, rfl, ⟨hq2, hL2⟩⟩
    refine Za (Zf (Zas rfl rfl rfl (Zu (by omega))) rfl ?_)
    refine ym rfl rfl (Zd (ρ' := [(0, _), (1, _), (7, _), (8, _)]) ⟨rfl, rfl, rfl, rfl, trivial⟩ ?_)
    refine Zae ?_
    refine ⟨m - 1, [(0, _), (1, _), (7, _), (8, _)], [(1000, _), (1001, _)], by omega, ⟨rfl, rfl, rfl, rfl, trivial⟩, ⟨rfl, rfl, trivial⟩, i + 1, by omega, (hle1.trans hlc21), q2, a2, c2, (by rw [← hL2]), (by first | rfl | simp), ?_⟩
    exact hq2
  ·
   refine Zat ?_
   refine Zp (Zp ?_)
   refine Zah ?_
   refine finO0n [1000, 1001]  rfl rfl ?_
   have hge := of_decide_eq_false hb1
   rw [List.take_of_length_le (by omega)]
   exact ⟨rfl, _, _, _, hqi, rfl⟩
theorem treePlain_fn (v : Value) (xs : List Inl) (hbig : szI xs ≤ 1000) (htx : txI 100000 xs) (u : View) (ha : InlS u v xs) : FnP Tryz.prog 11 [v] u fun r _ => r = str (plain xs) := by
 have hpl := plain_len 100000 (by omega) xs htx
 refine FnP.intro [.tmp 2] Tryz.func11 rfl rfl rfl ?_
 intro w0 D hw0
 refine Zc (Za (ya rfl rfl (Zd (ρ' := [(0, _)]) ⟨rfl, trivial⟩ ?_)))
 refine Zb (Zc (Za (Zq rfl rfl ?_)))
 refine do_alloc_t trivial Tryz.z66 rfl rfl rfl ?_
 refine rl_nilW 600 5 1 rfl rfl ?_
 refine Zd (ρ' := [(0, _), (3, _)]) ⟨rfl, rfl, trivial⟩ ?_
 refine Zb (Zc (Za (ym rfl rfl ?_)))
 refine rl_name 3 rfl ⟨3, _, .inl rfl⟩ ?_
 intro b3
 refine Zq rfl rfl ?_
 refine Zaz (caps := []) (ρ' := [(3, _)]) [3, 600] [] trivial rfl rfl rfl Tryz.c25 rfl rfl ⟨rfl, trivial⟩ rfl rfl rfl (FnO.mono (writePlain_fn b3 (szI xs) v xs none none 0 [] u (Nat.le_refl _) hbig htx (.inl rfl) (by simp; omega) ha) ?_)
 rintro v uW l1 hleW ⟨rfl, q2, a2, c2, hq2, rfl⟩ -
 refine ⟨⟨fun _ h => h, fun _ h => h, trivial⟩, ?_⟩
 refine Zd (ρ' := [(3, _)]) ⟨rfl, trivial⟩ ?_
 refine Zb (Zc (Za (Zq rfl rfl ?_)))
 refine Zaz (caps := []) (ρ' := []) [3, 600] [] trivial rfl rfl rfl Tryz.c26 rfl rfl trivial rfl rfl rfl (FnO.mono (bldString_fn b3 q2 a2 c2 ([] ++ plain xs) (by simp; omega) _) ?_)
 rintro v uS l1 hleS ⟨rfl, o2, rfl⟩ -
 refine ⟨⟨fun _ h => h, fun _ h => h, trivial⟩, ?_⟩
 refine ya rfl rfl (Zd (ρ' := [(2, _)]) ⟨rfl, trivial⟩ ?_)
 refine Zb (Zv ?_)
 refine Zav (.tmp rfl) ?_
 simp
end Go.Proofs.Ytoajhdnfdfbmaaa
namespace Go.Proofs.Ytoajhdnfdfbmaaa
open Go Go.Eng
set_option linter.unusedSimpArgs false
set_option linter.unusedVariables false
set_option maxRecDepth 4000
theorem getP_drop {k : Bs} {l : List (Bs × Bs)} {i : Nat} {x : Bs × Bs} (h : l[i]? = some x) : getP k (l.drop i) = if x.1 = k then some x.2 else getP k (l.drop (i + 1)) := by
 obtain ⟨hlt, rfl⟩ := List.getElem?_eq_some_iff.1 h
 rw [List.drop_eq_getElem_cons hlt, getP]
theorem get_fn (a : DAttr) (k : Bs) (vc vp : Value) (hp : a.pairs.length ≤ 1000000) (u : View) (h1 : PrS u vp a.pairs) :
  FnP Tryz.prog 86 [.agg #[str a.id, vc, vp], str k] u fun r _ => r = .tuple #[str ((getP k a.pairs).getD []), .bool (getP k a.pairs).isSome] := by
 obtain ⟨ad, cap, rfl, h1⟩ := h1
 refine FnP.intro [.tmp 4, .tmp 5] Tryz.func86 rfl rfl rfl ?_
 intro w0 D hw0
 refine Zc (Za (Zq rfl rfl ?_))
 refine Zbl trivial rfl (cs := [_, _, _]) rfl rfl rfl rfl ?_
 refine ya rfl rfl (ya rfl rfl (Zd (ρ' := [(1, _), (2, _)]) ⟨rfl, rfl, trivial⟩ ?_))
 refine Zb (Zc (Zc (Za (Zf (Zi rfl Tryz.f36' rfl (by decide) rfl) rfl ?_))))
 refine Zf (Zj rfl Tryz.k22 rfl rfl rfl (vs := [_]) rfl rfl rfl) rfl ?_
 refine Zf (Zal rfl rfl Tryz.s22 rfl) rfl ?_
 refine ym rfl rfl (Zd (ρ' := [(1, _), (9, _), (10, _), (11, _)]) ⟨rfl, rfl, rfl, rfl, trivial⟩ ?_)
 refine Zb (Zaa ?_)
 refine Zau (fun m ρ σ u' => ∃ i : Nat, i + m = a.pairs.length ∧ VLe u u' ∧ σ = [] ∧ ρ = [(1, .v (str k)), (9, .v (.slice ad a.pairs.length cap)), (10, .v (.int .i64 a.pairs.length)), (11, .v (.int .i64 i))] ∧ (u = u' ∧ getP k a.pairs = getP k (a.pairs.drop i))) (a.pairs.length) ?_ ?_
 ·
  refine ⟨[(1, _), (9, _), (10, _), (11, _)], [], ⟨rfl, rfl, rfl, rfl, trivial⟩, trivial, 0, by omega, VLe.refl _, (by first | rfl | simp), (by first | rfl | (simp only [List.cons.injEq, Prod.mk.injEq, SV.v.injEq, Value.int.injEq, true_and, and_true]; omega) | simp), ?_⟩
  exact ⟨rfl, rfl⟩
 ·
  rintro m ρ σ u' ⟨i, hi2, hle2, rfl, rfl, ⟨rfl, hinv⟩⟩
  refine Zc (Za (Zf (Zbh rfl rfl rfl) rfl ?_))
  refine Zd (ρ' := [(1, _), (9, _), (10, _), (11, _), (12, _)]) ⟨rfl, rfl, rfl, rfl, rfl, trivial⟩ ?_
  refine Zb (Zc ?_)
  refine Zn rfl (fun hb2 => ?_) (fun hb2 => ?_)
  ·
   have hlt : i < a.pairs.length := by have := of_decide_eq_true hb2; omega
   have hg := List.getElem?_eq_getElem hlt
   have hcc := cut_pairsC hg
   rw [getP_drop hg] at hinv
   refine Zs (Zb (Zc (Zaa (Zc (Za (Zf (Zai rfl Tryz.s22 rfl rfl (by assumption) (by first | rfl | omega) (by omega)) rfl ?_))))))
   refine Zf (Zag rfl Tryz.k49 rfl (by assumption) (by omega) (by assumption) (vs := [_, _]) rfl rfl rfl rfl) rfl ?_
   refine Zq rfl rfl ?_
   refine Zax trivial Tryz.z49 rfl rfl rfl ?_
   refine Zq rfl rfl ?_
   refine Zt trivial rfl Tryz.k49 rfl rfl rfl (vs := [_, _]) rfl rfl (by first | rfl | assumption | simp [Value.oneCell', str]) (Nat.le_of_ble_eq_true rfl) rfl ?_
   refine Zd (ρ' := [(1, _), (7, _), (9, _), (10, _), (11, _)]) ⟨rfl, rfl, rfl, rfl, rfl, trivial⟩ ?_
   refine Zb (Zc (Za (Zf (Zi rfl Tryz.f49' rfl (by decide) rfl) rfl ?_)))
   refine Zf (Zj rfl Tryz.k9 rfl rfl rfl (vs := [_]) rfl rfl rfl) rfl ?_
   refine ym rfl rfl (Zf (Zbg rfl rfl rfl) rfl ?_)
   refine Zd (ρ' := [(1, _), (7, _), (9, _), (10, _), (11, _), (18, _)]) ⟨rfl, rfl, rfl, rfl, rfl, rfl, trivial⟩ ?_
   refine Zb ?_
   refine Zn rfl (fun hb4 => ?_) (fun hb4 => ?_)
   ·
    rw [if_pos (of_decide_eq_true hb4)] at hinv
    refine Zc (Za (Zf (Zi rfl Tryz.f49' rfl (by decide) rfl) rfl ?_))
    refine Zf (Zj rfl Tryz.k9 rfl rfl rfl (vs := [_]) rfl rfl rfl) rfl ?_
    refine ya rfl rfl (ya rfl rfl (Zd (ρ' := [(4, _), (5, _)]) ⟨rfl, rfl, trivial⟩ ?_))
    refine Zb (Zv (Zr (Zh (Zh (Zr (Zh ?_))))))
    refine fin2 (.tmp rfl) (.tmp rfl) ?_
    rw [hinv]; rfl
   ·
    rw [if_neg (of_decide_eq_false hb4)] at hinv
    refine Zs (Zaf (Zb (Za (Zf (Zas rfl rfl rfl (Zu (by omega))) rfl ?_))))
    refine ym rfl rfl (Zd (ρ' := [(1, _), (9, _), (10, _), (11, _)]) ⟨rfl, rfl, rfl, rfl, trivial⟩ ?_)
    refine Zae ?_
    refine ⟨m - 1, [(1, _), (9, _), (10, _), (11, _)], [], by omega, ⟨rfl, rfl, rfl, rfl, trivial⟩, trivial, i + 1, by omega, hle2, (by first | rfl | simp), (by first | rfl | (simp only [List.cons.injEq, Prod.mk.injEq, SV.v.injEq, Value.int.injEq, true_and, and_true]; omega) | simp), ?_⟩
    exact ⟨rfl, hinv⟩
  ·
   have hge := of_decide_eq_false hb2
   rw [List.drop_eq_nil_of_le (by omega)] at hinv
   refine Zat ?_
   refine Zp (Zp ?_)
   refine Zah ?_
   refine Zb (Zc (Za (ya rfl rfl (ya rfl rfl (Zd (ρ' := [(4, _), (5, _)]) ⟨rfl, rfl, trivial⟩ ?_)))))
   refine Zb (Zv ?_)
   refine fin2 (.tmp rfl) (.tmp rfl) ?_
   rw [hinv]; rfl
def At (p : Bs × Bs → Bool) (ps : List (Bs × Bs)) (z : Int) : Prop :=
 (∃ (i : Nat) (x : Bs × Bs), z = i ∧ ps[i]? = some x ∧ p x = true ∧ ∀ y ∈ ps.take i, p y = false) ∨ (z = -1 ∧ ∀ y ∈ ps, p y = false)
theorem index_fn (p : Bs × Bs → Bool) (v : Value) (ps : List (Bs × Bs)) (hl : ps.length ≤ 1000000) (f : FuncId) (caps : List Value) (hcF : canCall Tryz.prog f = true) (u : View) (hf : ∀ x, FnP Tryz.prog f (.agg #[str x.1, str x.2] :: caps) u fun r _ => r = .bool (p x)) (h1 : PrS u v ps) :
  FnP Tryz.prog 42 [v, .func (.func f) #[] caps.toArray] u fun r _ => ∃ z, r = .int .i64 z ∧ At p ps z := by
 obtain ⟨ad, cap, rfl, h1⟩ := h1
 refine FnP.intro [.tmp 4] Tryz.func42 rfl rfl rfl ?_
 intro w0 D hw0
 refine Zc (Za (ya rfl rfl (Zd (ρ' := [(0, _), (1, _)]) ⟨rfl, rfl, trivial⟩ ?_)))
 refine Zb (Zc (Zc (Za (ym rfl rfl (Zf (Zal rfl rfl Tryz.s22 rfl) rfl ?_)))))
 refine ym rfl rfl (Zd (ρ' := [(0, _), (1, _), (7, _), (8, _)]) ⟨rfl, rfl, rfl, rfl, trivial⟩ ?_)
 refine Zb (Zaa ?_)
 refine Zau (fun m ρ σ u' => ∃ i : Nat, i + m = ps.length ∧ VLe u u' ∧ σ = [] ∧ ρ = [(0, .v (.slice ad ps.length cap)), (1, .v (.func (.func f) #[] caps.toArray)), (7, .v (.int .i64 ps.length)), (8, .v (.int .i64 i))] ∧ (u = u' ∧ ∀ y ∈ ps.take i, p y = false)) (ps.length) ?_ ?_
 ·
  refine ⟨[(0, _), (1, _), (7, _), (8, _)], [], ⟨rfl, rfl, rfl, rfl, trivial⟩, trivial, 0, by omega, VLe.refl _, (by first | rfl | simp), (by first | rfl | (simp only [List.cons.injEq, Prod.mk.injEq, SV.v.injEq, Value.int.injEq, true_and, and_true]; omega) | simp), ?_⟩
  exact ⟨rfl, fun y hy => by simp at hy⟩
 ·
  rintro m ρ σ u' ⟨i, hi2, hle2, rfl, rfl, ⟨rfl, hinv⟩⟩
  refine Zc (Za (Zf (Zbh rfl rfl rfl) rfl ?_))
  refine Zd (ρ' := [(0, _), (1, _), (7, _), (8, _), (9, _)]) ⟨rfl, rfl, rfl, rfl, rfl, trivial⟩ ?_
  refine Zb (Zc ?_)
  refine Zn rfl (fun hb2 => ?_) (fun hb2 => ?_)
  ·
   have hlt : i < ps.length := by have := of_decide_eq_true hb2; omega
   have hg := List.getElem?_eq_getElem hlt
   have hcc := cut_pairsC hg
   refine Zs (Zb (Zc (Zaa (Zc (Za (ym rfl rfl (ya rfl rfl (Zd (ρ' := [(0, _), (1, _), (5, _), (7, _), (8, _)]) ⟨rfl, rfl, rfl, rfl, rfl, trivial⟩ ?_))))))))
   refine Zb (Zc (Za (ym rfl rfl (ym rfl rfl (ym rfl rfl (Zf (Zai rfl Tryz.s22 rfl rfl (by assumption) (by first | rfl | omega) (by omega)) rfl ?_))))))
   refine Zf (Zag rfl Tryz.k49 rfl (by assumption) (by omega) (by assumption) (vs := [_, _]) rfl rfl rfl rfl) rfl ?_
   refine Zq rfl rfl ?_
   refine Zw (caps := caps) trivial rfl rfl hcF rfl (FnP.mono (hf ps[i]) ?_)
   rintro v u1 hle1 rfl
   refine Zd (ρ' := [(0, _), (1, _), (5, _), (7, _), (8, _), (16, _)]) ⟨rfl, rfl, rfl, rfl, rfl, rfl, trivial⟩ ?_
   refine Zb ?_
   refine Zn rfl (fun hb4 => ?_) (fun hb4 => ?_)
   ·
    refine Zc (Za (ym rfl rfl (ya rfl rfl (Zd (ρ' := [(4, _)]) ⟨rfl, trivial⟩ ?_))))
    refine Zb (Zv (Zr (Zh (Zh (Zr (Zh ?_))))))
    refine Zav (.tmp rfl) ?_
    exact ⟨_, rfl, .inl ⟨i, _, rfl, hg, hb4, hinv⟩⟩
   ·
    refine Zs (Zaf (Zb (Za (Zf (Zas rfl rfl rfl (Zu (by omega))) rfl ?_))))
    refine ym rfl rfl (Zd (ρ' := [(0, _), (1, _), (7, _), (8, _)]) ⟨rfl, rfl, rfl, rfl, trivial⟩ ?_)
    refine Zae ?_
    refine ⟨m - 1, [(0, _), (1, _), (7, _), (8, _)], [], by omega, ⟨rfl, rfl, rfl, rfl, trivial⟩, trivial, i + 1, by omega, hle2, (by first | rfl | simp), (by first | rfl | (simp only [List.cons.injEq, Prod.mk.injEq, SV.v.injEq, Value.int.injEq, true_and, and_true]; omega) | simp), ?_⟩
    refine ⟨rfl, fun y hy => ?_⟩; rcases mem_take_succ hg hy with hs | rfl; exact hinv y hs; exact hb4
  ·
   have hge := of_decide_eq_false hb2
   rw [List.take_of_length_le (by omega)] at hinv
   refine Zat ?_
   refine Zp (Zp ?_)
   refine Zah ?_
   refine Zb (Zc (Za (ya rfl rfl (Zd (ρ' := [(4, _)]) ⟨rfl, trivial⟩ ?_))))
   refine Zb (Zv ?_)
   refine Zav (.tmp rfl) ?_
   exact ⟨_, rfl, .inr ⟨rfl, hinv⟩⟩
def hasK (k : Bs) (x : Bs × Bs) : Bool := decide (x.1 = k)
theorem at_first {k : Bs} : ∀ {ps : List (Bs × Bs)} {i : Nat} {x : Bs × Bs}, ps[i]? = some x → x.1 = k → (∀ y ∈ ps.take i, hasK k y = false) → getP k ps = some x.2 ∧ ∀ v, setP k v ps = ps.set i (k, v)
 | [], i, x, h, _, _ => by simp at h
 | y :: ys, 0, x, h, hk, _ => by
  simp at h; subst h
  exact ⟨by rw [getP, if_pos hk], fun v => by rw [setP, if_pos hk, hk]; rfl⟩
 | y :: ys, i + 1, x, h, hk, ha => by
  have hy : ¬ y.1 = k := of_decide_eq_false (ha y (by simp))
  obtain ⟨h1, h2⟩ := at_first (ps := ys) (i := i) (x := x) (by simpa using h) hk (fun z hz => ha z (by simp [hz]))
  exact ⟨by rw [getP, if_neg hy, h1], fun v => by rw [setP, if_neg hy, h2 v]; rfl⟩
theorem at_none {k : Bs} : ∀ {ps : List (Bs × Bs)}, (∀ y ∈ ps, hasK k y = false) → getP k ps = none
 | [], _ => rfl
 | y :: ys, h => by
  have hy : ¬ y.1 = k := of_decide_eq_false (h y (by simp))
  rw [getP, if_neg hy]
  exact at_none fun z hz => h z (by simp [hz])
def AtK (k : Bs) (ps : List (Bs × Bs)) (z : Int) : Prop :=
 (∃ (i : Nat) (x : Bs × Bs), z = i ∧ ps[i]? = some x ∧ x.1 = k ∧ getP k ps = some x.2 ∧ ∀ v, setP k v ps = ps.set i (k, v)) ∨ (z = -1 ∧ getP k ps = none)
theorem At.key {k : Bs} {ps : List (Bs × Bs)} {z : Int} (h : At (hasK k) ps z) : AtK k ps z := by
 rcases h with ⟨i, x, rfl, h1, h2, h3⟩ | ⟨rfl, h⟩
 ·
  have hk : x.1 = k := of_decide_eq_true h2
  obtain ⟨h4, h5⟩ := at_first h1 hk h3
  exact .inl ⟨i, x, rfl, h1, hk, h4, h5⟩
 ·
  exact .inr ⟨rfl, at_none h⟩
theorem meta1_fn (k : Bs) (b : Nat) (u : View) (T : TypeId) (fr : Nat × Nat) (hb : u b = some (.cells [str k].toArray T fr)) (x : Bs × Bs) :
  FnP Tryz.prog 83 [.agg #[str x.1, str x.2], .pointer (some ⟨b, 0, none⟩)] u fun r _ => r = .bool (hasK k x) := by
 refine FnP.intro [.tmp 3] Tryz.func83 rfl rfl rfl ?_
 intro w0 D hw0
 refine Zc (Za (Zq rfl rfl ?_))
 refine Zbl trivial rfl (cs := [_, _]) rfl rfl rfl rfl ?_
 refine ya rfl rfl (Zd (ρ' := [(1, _), (2, _)]) ⟨rfl, rfl, trivial⟩ ?_)
 refine Zb (Zc (Za (Zf (Zi rfl Tryz.f49' rfl (by decide) rfl) rfl ?_)))
 refine Zf (Zj rfl Tryz.k9 rfl rfl rfl (vs := [_]) rfl rfl rfl) rfl ?_
 refine Zf (y_load_v rfl Tryz.k9 rfl (by assumption) (vs := [_]) (by first | rfl | exact hP | exact cut_at hP rfl (Nat.le_of_ble_eq_true rfl) rfl) rfl rfl) rfl ?_
 refine Zf (Zbg rfl rfl rfl) rfl ?_
 refine ya rfl rfl (Zd (ρ' := [(3, _)]) ⟨rfl, trivial⟩ ?_)
 refine Zb (Zv ?_)
 refine Zav (.tmp rfl) ?_
 rfl
theorem fill1_fn (k : Bs) (b : Nat) (u : View) (T : TypeId) (fr : Nat × Nat) (hb : u b = some (.cells [str k].toArray T fr)) (x : Bs × Bs) :
  FnP Tryz.prog 43 [.agg #[str x.1, str x.2], .pointer (some ⟨b, 0, none⟩)] u fun r _ => r = .bool (hasK k x) := by
 refine FnP.intro [.tmp 3] Tryz.func43 rfl rfl rfl ?_
 intro w0 D hw0
 refine Zc (Za (Zq rfl rfl ?_))
 refine Zbl trivial rfl (cs := [_, _]) rfl rfl rfl rfl ?_
 refine ya rfl rfl (Zd (ρ' := [(1, _), (2, _)]) ⟨rfl, rfl, trivial⟩ ?_)
 refine Zb (Zc (Za (Zf (Zi rfl Tryz.f49' rfl (by decide) rfl) rfl ?_)))
 refine Zf (Zj rfl Tryz.k9 rfl rfl rfl (vs := [_]) rfl rfl rfl) rfl ?_
 refine Zf (y_load_v rfl Tryz.k9 rfl (by assumption) (vs := [_]) (by first | rfl | exact hP | exact cut_at hP rfl (Nat.le_of_ble_eq_true rfl) rfl) rfl rfl) rfl ?_
 refine Zf (Zbg rfl rfl rfl) rfl ?_
 refine ya rfl rfl (Zd (ρ' := [(3, _)]) ⟨rfl, trivial⟩ ?_)
 refine Zb (Zv ?_)
 refine Zav (.tmp rfl) ?_
 rfl
theorem deco1_fn (u : View) (x : Bs × Bs) :
  FnP Tryz.prog 99 [.agg #[str x.1, str x.2]] u fun r _ => r = .bool (hasK roleS x) := by
 refine FnP.intro [.tmp 2] Tryz.func99 rfl rfl rfl ?_
 intro w0 D hw0
 refine Zc (Za (Zq rfl rfl ?_))
 refine Zbl trivial rfl (cs := [_, _]) rfl rfl rfl rfl ?_
 refine ya rfl rfl (Zd (ρ' := [(1, _)]) ⟨rfl, trivial⟩ ?_)
 refine Zb (Zc (Za (Zf (Zi rfl Tryz.f49' rfl (by decide) rfl) rfl ?_)))
 refine Zf (Zj rfl Tryz.k9 rfl rfl rfl (vs := [_]) rfl rfl rfl) rfl ?_
 refine Zf (Zbg rfl rfl rfl) rfl ?_
 refine ya rfl rfl (Zd (ρ' := [(2, _)]) ⟨rfl, trivial⟩ ?_)
 refine Zb (Zv ?_)
 refine Zav (.tmp rfl) ?_
 rfl
theorem meta_fn (k : Bs) (v : Value) (ps : List (Bs × Bs)) (hl : ps.length ≤ 1000000) (u : View) (h : PrS u v ps) :
  FnP Tryz.prog 41 [v, str k] u fun r _ => r = .bool (hasM k ps) := by
 have h0 := h
 obtain ⟨ad, cap, rfl, h1⟩ := h0
 refine FnP.intro [.tmp 4] Tryz.func41 rfl rfl rfl ?_
 intro w0 D hw0
 refine Zc (Za (Zq rfl rfl ?_))
 refine Zbl trivial rfl (cs := [_]) rfl rfl rfl rfl ?_
 refine ya rfl rfl (Zd (ρ' := [(0, _), (3, _)]) ⟨rfl, rfl, trivial⟩ ?_)
 refine Zb (Zc (Za (ym rfl rfl ?_)))
 refine rl_name 3 rfl ⟨3, _, .inl rfl⟩ ?_
 intro b3
 refine Zf (y_makeFunc rfl rfl rfl) rfl ?_
 refine rl_reveal 3 rfl ?_
 intro b3 T3 u3 hle3z hu3 hpn3
 obtain rfl := hpn3 _ rfl
 have h := h.mono hle3z
 have h1 := h1.mono hle3z
 refine Zq rfl rfl ?_
 refine Zw (caps := []) trivial rfl rfl Tryz.c42 rfl (FnP.mono (index_fn (hasK k) _ ps hl 83 [.pointer (some ⟨b3, 0, none⟩)] Tryz.c83 u3 (fun x ↦ meta1_fn k b3 u3 _ _ hu3 x) h) ?_)
 rintro v u1 hle1 ⟨z, rfl, hz⟩
 have hz := hz.key
 refine ya rfl rfl (Zd (ρ' := [(0, _), (5, _)]) ⟨rfl, rfl, trivial⟩ ?_)
 refine Zb (Zc (Za (ym rfl rfl (Zf (Zbw rfl rfl rfl) rfl ?_))))
 refine ym rfl rfl ?_
 rcases Bool.eq_false_or_eq_true (decide (0 ≤ z)) with hg2_2 | hg2_2
 ·
  simp only [hg2_2]
  refine Zk rfl rfl (ym rfl rfl ?_)
  obtain ⟨i, x, rfl, hg, hk, hv, hset⟩ : ∃ (i : Nat) (x : Bs × Bs), z = i ∧ ps[i]? = some x ∧ x.1 = k ∧ getP k ps = some x.2 ∧ ∀ v, setP k v ps = ps.set i (k, v) := by
   rcases hz with h | ⟨rfl, hn⟩
   ·
    exact h
   ·
    exact absurd (of_decide_eq_true hg2_2) (by decide)
  have hlt := (List.getElem?_eq_some_iff.1 hg).1
  have hcc := cut_pairsC hg
  refine Zk rfl rfl (ym rfl rfl (Zk rfl rfl (Zf (Zai rfl Tryz.s22 rfl rfl h1 (j := i) rfl hlt) rfl ?_)))
  refine Zk rfl rfl (Zf (Zap rfl Tryz.f49' rfl (by decide) rfl) rfl ?_)
  refine Zk rfl rfl (Zf (Zag rfl Tryz.k9 rfl (by assumption) (by omega) (by assumption) (vs := [_]) rfl rfl rfl rfl) rfl ?_)
  refine Zk rfl rfl (Zf (Zbk rfl rfl rfl) rfl ?_)
  refine Zf (Zl rfl rfl rfl) rfl (ya rfl rfl (Zd (ρ' := [(4, _)]) ⟨rfl, trivial⟩ ?_))
  refine Zb (Zv ?_)
  refine Zav (.tmp rfl) ?_
  unfold hasM; rw [hv]; rfl
 ·
  simp only [hg2_2]
  iterate 6 refine Zo rfl rfl rfl rfl ?_
  refine Zf (Zm rfl rfl rfl) rfl (ya rfl rfl (Zd (ρ' := [(4, _)]) ⟨rfl, trivial⟩ ?_))
  refine Zb (Zv ?_)
  refine Zav (.tmp rfl) ?_
  have hn : getP k ps = none := by
   rcases hz with ⟨i, x, rfl, _⟩ | ⟨rfl, hn⟩
   ·
    exact absurd (of_decide_eq_false hg2_2) (by omega)
   ·
    exact hn
  unfold hasM
  rw [hn]; rfl
theorem trimmed_fn (v : Value) (xs : List Inl) (hbig : szI xs ≤ 1000) (htx : txI 100000 xs) (u : View) (ha : InlS u v xs) : FnP Tryz.prog 20 [v] u fun r _ => r = str (trim (plain xs)) := by
 have hl := plain_len 100000 (by omega) xs htx
 refine FnP.intro [.tmp 2] Tryz.func20 rfl rfl rfl ?_
 intro w0 D hw0
 refine Zc (Za (ya rfl rfl (Zd (ρ' := [(0, _)]) ⟨rfl, trivial⟩ ?_)))
 refine Zb (Zc (Za (ym rfl rfl (Zq rfl rfl ?_))))
 refine Zw (caps := []) trivial rfl rfl Tryz.c11 rfl (FnP.mono (treePlain_fn v xs hbig htx u ha) ?_)
 rintro v u1 hle1 rfl
 refine Zq rfl rfl ?_
 refine Zw (caps := []) trivial rfl rfl Tryz.c40 rfl (FnP.mono (trim_fn (plain xs) (by omega) u) ?_)
 rintro v u1 hle1 rfl
 refine ya rfl rfl (Zd (ρ' := [(2, _)]) ⟨rfl, trivial⟩ ?_)
 refine Zb (Zv ?_)
 refine Zav (.tmp rfl) ?_
 rfl
theorem txI_mk {k : Int} {t d ti : Bs} {a : DAttr} {args : List Bs} {cites : List DCite} {kids : List Inl} (h : smI1 (.mk k t d ti a args cites kids)) : smI kids ∧ a.pairs.length ≤ 40 ∧ d.length ≤ 90000 ∧ t.length ≤ 90000 := by
 unfold smI1 NodeSm at h
 exact ⟨h.2, by omega, by omega, by omega⟩
theorem silent_fn (x : Inl) (cs : List Value) (u : View) (hsz : sz1 x ≤ 1000) (htx : txI 100000 (match x with | .mk _ _ _ _ _ _ _ kids => kids)) (hp : (match x with | .mk _ _ _ _ a _ _ _ => a.pairs.length ≤ 1000000)) (hx : InlC u x cs) :
  FnP Tryz.prog 48 [.agg cs.toArray] u fun r _ => r = .bool (silent x) := by
 obtain ⟨k, t, d, ti, a, args, cites, kids⟩ := x
 have oneAll := hx.one
 obtain ⟨vc, vp, va, vt, vk, rfl, q1, q2, q3, q4, q5, hok⟩ := hx.cells
 simp only [sz1] at hsz
 simp only at htx hp
 have hbl := trim_nil (plain kids)
 refine FnP.intro [.tmp 2] Tryz.func48 rfl rfl rfl ?_
 intro w0 D hw0
 refine Zc (Za (Zq rfl rfl ?_))
 refine Zbl trivial rfl (cs := [_, _, _, _, _, _, _, _, _, _]) rfl rfl rfl rfl ?_
 refine ya rfl rfl (Zd (ρ' := [(1, _)]) ⟨rfl, trivial⟩ ?_)
 refine Zb (Zc (Zc ?_))
 refine Zca 13 (decide (k ≠ 10 ∨ trim (plain kids) ≠ [])) (ρk := [(1, _)]) ⟨rfl, trivial⟩ ?_ ?_
 ·
  refine Za (Zf (Zi rfl Tryz.f45' rfl (by decide) rfl) rfl ?_)
  refine Zf (Zj rfl Tryz.k3 rfl rfl rfl (vs := [_]) rfl rfl rfl) rfl ?_
  refine Zf (Zcc rfl rfl rfl) rfl ?_
  refine ym rfl rfl ?_
  rcases Bool.eq_false_or_eq_true (decide (k ≠ 10)) with hg1_3 | hg1_3
  ·
   simp only [hg1_3]
   iterate 4 refine Zo rfl rfl rfl rfl ?_
   refine Zf (Zl rfl rfl rfl) rfl ?_
   exact Zak rfl ⟨rfl, trivial⟩ (by simp_all)
  ·
   simp only [hg1_3]
   refine Zk rfl rfl (Zf (Zi rfl Tryz.f45' rfl (by decide) rfl) rfl ?_)
   refine Zk rfl rfl (Zf (Zj rfl Tryz.k37 rfl rfl rfl (vs := [_]) rfl rfl rfl) rfl ?_)
   refine Zk rfl rfl (Zq rfl rfl ?_)
   refine Zw (caps := []) trivial rfl rfl Tryz.c20 rfl (FnP.mono (trimmed_fn vk kids (by omega) htx u q5) ?_)
   rintro v u1 hle1 rfl
   refine Zk rfl rfl (Zf (Zbk rfl rfl rfl) rfl ?_)
   refine Zf (Zm rfl rfl rfl) rfl ?_
   exact Zak rfl ⟨rfl, trivial⟩ (by simp_all)
 refine Zb ?_
 refine Zn rfl (fun hb1 => ?_) (fun hb1 => ?_)
 ·
  have h1 := of_decide_eq_true hb1
  refine Zc (Za (ya rfl rfl (Zd (ρ' := [(2, _)]) ⟨rfl, trivial⟩ ?_)))
  refine Zb (Zv (Zh ?_))
  refine Zav (.tmp rfl) ?_
  unfold silent
  rcases h1 with h | h
  ·
   simp [h]
  ·
   have : blank (plain kids) = false := by cases hb : blank (plain kids); rfl; exact absurd (hbl.2 hb) h
   simp [this]
 ·
  have h1 := of_decide_eq_false hb1; have hk : k = 10 := Decidable.of_not_not fun h => h1 (.inl h); have hb : blank (plain kids) = true := hbl.1 (Decidable.of_not_not fun h => h1 (.inr h))
  refine Zs (Zb (Zc (Za (Zf (Zi rfl Tryz.f45' rfl (by decide) rfl) rfl ?_))))
  refine Zf (Zj rfl Tryz.k36 rfl rfl rfl (vs := [_, _, _]) rfl rfl rfl) rfl ?_
  refine Zq rfl rfl ?_
  refine Zw (caps := []) trivial rfl rfl Tryz.c86 rfl (FnP.mono (get_fn a roleS vc vp hp u q2) ?_)
  rintro v u1 hle1 rfl
  refine ym rfl rfl (Zf (Zbo rfl rfl rfl) rfl ?_)
  refine Zf (Zbo rfl rfl rfl) rfl ?_
  refine ya rfl rfl (ya rfl rfl (Zd (ρ' := [(3, _)]) ⟨rfl, trivial⟩ ?_))
  refine Zb (Zc (Za (ym rfl rfl (Zf (Zbk rfl rfl rfl) rfl ?_))))
  refine ya rfl rfl (Zd (ρ' := [(2, _)]) ⟨rfl, trivial⟩ ?_)
  refine Zb (Zv ?_)
  refine Zav (.tmp rfl) ?_
  have e : silent (.mk k t d ti a args cites kids) = (decide (k = 10) && blank (plain kids) && decide ((getP roleS a.pairs).getD [] ≠ decoS)) := rfl
  rw [e, hb, hk]; rfl
theorem mute_fn (x : Inl) (cs : List Value) (u : View) (hsz : sz1 x ≤ 1000) (htx : txI 100000 (match x with | .mk _ _ _ _ _ _ _ kids => kids)) (hx : InlC u x cs) :
  FnP Tryz.prog 54 [.agg cs.toArray] u fun r _ => r = .bool (mute x) := by
 obtain ⟨k, t, d, ti, a, args, cites, kids⟩ := x
 have oneAll := hx.one
 obtain ⟨vc, vp, va, vt, vk, rfl, q1, q2, q3, q4, q5, hok⟩ := hx.cells
 simp only [sz1] at hsz
 simp only at htx
 have hbl := trim_nil (plain kids)
 refine FnP.intro [.tmp 2] Tryz.func54 rfl rfl rfl ?_
 intro w0 D hw0
 refine Zc (Za (Zq rfl rfl ?_))
 refine Zbl trivial rfl (cs := [_, _, _, _, _, _, _, _, _, _]) rfl rfl rfl rfl ?_
 refine ya rfl rfl (Zd (ρ' := [(1, _)]) ⟨rfl, trivial⟩ ?_)
 refine Zb (Zc (Za (Zf (Zi rfl Tryz.f45' rfl (by decide) rfl) rfl ?_)))
 refine Zf (Zj rfl Tryz.k3 rfl rfl rfl (vs := [_]) rfl rfl rfl) rfl ?_
 refine Zf (Zay rfl rfl rfl) rfl ?_
 refine ym rfl rfl ?_
 rcases Bool.eq_false_or_eq_true (decide (k = 9)) with hg1_3 | hg1_3
 ·
  simp only [hg1_3]
  refine Zk rfl rfl (Zf (Zi rfl Tryz.f45' rfl (by decide) rfl) rfl ?_)
  refine Zk rfl rfl (Zf (Zj rfl Tryz.k37 rfl rfl rfl (vs := [_]) rfl rfl rfl) rfl ?_)
  refine Zk rfl rfl (Zq rfl rfl ?_)
  refine Zw (caps := []) trivial rfl rfl Tryz.c20 rfl (FnP.mono (trimmed_fn vk kids (by omega) htx u q5) ?_)
  rintro v u1 hle1 rfl
  refine Zk rfl rfl (Zf (Zbg rfl rfl rfl) rfl ?_)
  refine Zf (Zl rfl rfl rfl) rfl (ya rfl rfl (Zd (ρ' := [(2, _)]) ⟨rfl, trivial⟩ ?_))
  refine Zb (Zv ?_)
  refine Zav (.tmp rfl) ?_
  have hk := of_decide_eq_true hg1_3
  have e : decide (trim (plain kids) = []) = blank (plain kids) := by cases hb : blank (plain kids) <;> simp_all
  unfold mute
  rw [e, hk]; rfl
 ·
  simp only [hg1_3]
  iterate 4 refine Zo rfl rfl rfl rfl ?_
  refine Zf (Zm rfl rfl rfl) rfl (ya rfl rfl (Zd (ρ' := [(2, _)]) ⟨rfl, trivial⟩ ?_))
  refine Zb (Zv ?_)
  refine Zav (.tmp rfl) ?_
  have hk := of_decide_eq_false hg1_3
  unfold mute
  simp [hk]
def targetX : Inl → Bs
 | .mk _ t d _ _ _ _ _ => if d = [] then t else d
theorem target_fn (x : Inl) (cs : List Value) (u : View) (hx : InlC u x cs) :
  FnP Tryz.prog 49 [.agg cs.toArray] u fun r _ => r = str (targetX x) := by
 obtain ⟨k, t, d, ti, a, args, cites, kids⟩ := x
 have oneAll := hx.one
 obtain ⟨vc, vp, va, vt, vk, rfl, _⟩ := hx.cells
 refine FnP.intro [.tmp 2] Tryz.func49 rfl rfl rfl ?_
 intro w0 D hw0
 refine Zc (Za (Zq rfl rfl ?_))
 refine Zbl trivial rfl (cs := [_, _, _, _, _, _, _, _, _, _]) rfl rfl rfl rfl ?_
 refine ya rfl rfl (Zd (ρ' := [(1, _)]) ⟨rfl, trivial⟩ ?_)
 refine Zb (Zc (Zc (Za (Zf (Zi rfl Tryz.f45' rfl (by decide) rfl) rfl ?_))))
 refine Zf (Zj rfl Tryz.k9 rfl rfl rfl (vs := [_]) rfl rfl rfl) rfl ?_
 refine Zf (Zbg rfl rfl rfl) rfl ?_
 refine Zd (ρ' := [(1, _), (5, _)]) ⟨rfl, rfl, trivial⟩ ?_
 refine Zb ?_
 refine Zn rfl (fun hb1 => ?_) (fun hb1 => ?_)
 ·
  refine Zc (Za (Zf (Zi rfl Tryz.f45' rfl (by decide) rfl) rfl ?_))
  refine Zf (Zj rfl Tryz.k9 rfl rfl rfl (vs := [_]) rfl rfl rfl) rfl ?_
  refine ya rfl rfl (Zd (ρ' := [(2, _)]) ⟨rfl, trivial⟩ ?_)
  refine Zb (Zv (Zh ?_))
  refine Zav (.tmp rfl) ?_
  have e : targetX (.mk k t d ti a args cites kids) = t := if_pos (of_decide_eq_true hb1)
  rw [e]
 ·
  refine Zs (Zb (Zc (Za (Zf (Zi rfl Tryz.f45' rfl (by decide) rfl) rfl ?_))))
  refine Zf (Zj rfl Tryz.k9 rfl rfl rfl (vs := [_]) rfl rfl rfl) rfl ?_
  refine ya rfl rfl (Zd (ρ' := [(2, _)]) ⟨rfl, trivial⟩ ?_)
  refine Zb (Zv ?_)
  refine Zav (.tmp rfl) ?_
  have e : targetX (.mk k t d ti a args cites kids) = d := if_neg (of_decide_eq_false hb1)
  rw [e]
theorem key_fn (k : Bs) (ps : List (Bs × Bs)) (vm vb : Value) (hl : ps.length ≤ 1000000) (u : View) (h : PrS u vm ps) :
  FnP Tryz.prog 58 [.agg #[vm, vb], str k] u fun r u' => StrS u' r (if hasM k ps = true then [] else [k]) := by
 refine FnP.intro [.tmp 4] Tryz.func58 rfl rfl rfl ?_
 intro w0 D hw0
 refine Zc (Za (Zq rfl rfl ?_))
 refine Zbl trivial rfl (cs := [_, _]) rfl rfl rfl rfl ?_
 refine ya rfl rfl (Zd (ρ' := [(1, _), (2, _)]) ⟨rfl, rfl, trivial⟩ ?_)
 refine Zb (Zc (Zc (Za (Zf (Zi rfl Tryz.f25' rfl (by decide) rfl) rfl ?_))))
 refine Zf (Zj rfl Tryz.k22 rfl rfl rfl (vs := [_]) rfl rfl rfl) rfl ?_
 refine ym rfl rfl (Zq rfl rfl ?_)
 refine Zw (caps := []) trivial rfl rfl Tryz.c41 rfl (FnP.mono (meta_fn k vm ps hl u h) ?_)
 rintro v u1 hle1 rfl
 refine Zd (ρ' := [(1, _), (8, _)]) ⟨rfl, rfl, trivial⟩ ?_
 refine Zb ?_
 refine Zn rfl (fun hb1 => ?_) (fun hb1 => ?_)
 ·
  have h1 : hasM k ps = true := (by simpa using hb1)
  refine Zc (Za (ya rfl rfl (Zd (ρ' := [(4, _)]) ⟨rfl, trivial⟩ ?_)))
  refine Zb (Zv (Zh ?_))
  refine Zav (.tmp rfl) ?_
  rw [if_pos h1]; exact ⟨none, 0, rfl, rfl, Nat.le_refl _, by unfold maxLen; omega, fun h => absurd rfl h⟩
 ·
  have h1 : hasM k ps = false := (by simpa using hb1)
  refine Zs (Zb (Zc (Za (ym rfl rfl (Zq rfl rfl ?_)))))
  refine Zac trivial Tryz.s34 Tryz.z9 (ps := [(_, _)]) rfl (xs := [_]) rfl rfl rfl rfl rfl rfl rfl ?_
  refine Zbm 10 rfl ?_
  intro ad10 cap10 u10 hle10z hsl10
  refine ya rfl rfl (Zd (ρ' := [(4, _)]) ⟨rfl, trivial⟩ ?_)
  refine Zb (Zv ?_)
  refine Zav (.tmp rfl) ?_
  rw [h1]; exact ⟨_, _, rfl, hsl10⟩
end Go.Proofs.Ytoajhdnfdfbmaaa
namespace Go.Proofs.Ytoajhdnfdfbmaaa
open Go Go.Eng
set_option linter.unusedSimpArgs false
set_option linter.unusedVariables false
set_option maxRecDepth 4000
end Go.Proofs.Ytoajhdnfdfbmaaa
namespace Go.Proofs.Ytoajhdnfdfbmaaa
open Go Go.Eng
set_option linter.unusedSimpArgs false
set_option linter.unusedVariables false
set_option maxRecDepth 4000
def aft : List Nat → List Nat → Bool
 | [], _ => false
 | _ :: _, [] => true
 | x :: xs, y :: ys => if x = y then aft xs ys else decide (y < x)
def run : Bs → Nat → Nat → List Nat → List Nat
 | [], n, dg, out => if dg = 0 ∨ 6 < dg then [] else out ++ [n]
 | c :: s, n, dg, out =>
  if c.toNat = 46 then (if dg = 0 ∨ 6 < dg then [] else run s 0 0 (out ++ [n]))
  else if c.toNat < 48 ∨ 57 < c.toNat then []
  else if 6 < dg + 1 then [] else run s (10 * n + (c.toNat - 48)) (dg + 1) out
theorem wrap_u8 {e : Int} (h : 0 ≤ e ∧ e ≤ 255) : IntKind.u8.wrap e = e := by
 have h1 : IntKind.u8.wrap e = e % 2 ^ 8 := by simp [IntKind.wrap, IntKind.signed, IntKind.bits]
 rw [h1]
 omega
theorem nilSl (u : View) (sz : Nat) : IsSl u (.slice none 0 0) 0 sz [] := ⟨none, 0, rfl, by simp, by decide, by decide, by simp⟩
theorem nilStr (u : View) : StrS u (.slice none 0 0) [] := nilSl u 1
theorem nilPr (u : View) : PrS u (.slice none 0 0) [] := nilSl u 2
theorem nilCi (u : View) : CiS u (.slice none 0 0) [] := nilSl u 4
theorem nilInl (u : View) : InlS u (.slice none 0 0) [] := ⟨[], nilSl u 10, InlsC.nil⟩
theorem intOk_of {k : Int} (h : -1000 ≤ k ∧ k ≤ 1000) : IntOk k := by unfold IntOk; omega
end Go.Proofs.Ytoajhdnfdfbmaaa
namespace Go.Proofs.Ytoajhdnfdfbmaaa
open Go Go.Eng
set_option linter.unusedSimpArgs false
set_option linter.unusedVariables false
set_option maxRecDepth 4000
end Go.Proofs.Ytoajhdnfdfbmaaa
namespace Go.Proofs.Ytoajhdnfdfbmaaa
open Go Go.Eng
set_option linter.unusedSimpArgs false
set_option linter.unusedVariables false
set_option maxRecDepth 4000
end Go.Proofs.Ytoajhdnfdfbmaaa
namespace Go.Proofs.Ytoajhdnfdfbmaaa
open Go Go.Eng
set_option linter.unusedSimpArgs false
set_option linter.unusedVariables false
set_option maxRecDepth 4000
structure Cs where
 f : Nat → Nat
 g : Nat → Nat
 out : List DNum
def CsLe (B : Nat) (x : Cs) : Prop := (∀ j, x.f j ≤ B) ∧ (∀ j, x.g j ≤ B) ∧ x.out.length ≤ 2 * B
theorem CsLe.mono {B C : Nat} {x : Cs} (h : CsLe B x) (hb : B ≤ C) : CsLe C x := ⟨fun j => Nat.le_trans (h.1 j) hb, fun j => Nat.le_trans (h.2.1 j) hb, by have := h.2.2; omega⟩
theorem szB_take_get {bs : List Blk} {i : Nat} {b : Blk} (h : bs[i]? = some b) : szB (bs.take i) + szb b ≤ szB bs := by
 obtain ⟨hlt, rfl⟩ := List.getElem?_eq_some_iff.1 h
 have h1 := szB_take_le bs (i + 1)
 rw [List.take_succ_eq_append_getElem hlt, szB_append] at h1
 simp only [szB] at h1
 omega
theorem _root_.Go.Eng.InlS.one {u : View} {v : Value} {l : List Inl} (h : InlS u v l) : Value.oneCell' v = true := by
 obtain ⟨cs, h, _⟩ := h
 exact IsSl.one h
end Go.Proofs.Ytoajhdnfdfbmaaa
namespace Go.Proofs.Ytoajhdnfdfbmaaa
open Go Go.Eng
set_option linter.unusedSimpArgs false
set_option linter.unusedVariables false
set_option maxRecDepth 4000
end Go.Proofs.Ytoajhdnfdfbmaaa
namespace Go.Proofs.Ytoajhdnfdfbmaaa
open Go Go.Eng
set_option linter.unusedSimpArgs false
set_option linter.unusedVariables false
set_option maxRecDepth 4000
theorem cloneStr_fn (v : Value) (xs : List Bs) (hx : xs.length ≤ 1000000) (u : View) (ha : StrS u v xs) : FnP Tryz.prog 36 [v] u fun r u' => StrS u' r xs := by
 obtain ⟨ad, cap, rfl, h1⟩ := ha
 have oneAll := oneCell_strs xs
 have hlen := h1.1
 refine FnP.intro [.tmp 2] Tryz.func36 rfl rfl rfl ?_
 intro w0 D hw0
 refine Zc (Za (ya rfl rfl (Zd (ρ' := [(0, _)]) ⟨rfl, trivial⟩ ?_)))
 refine Zb (Zc (Zc (Za (ym rfl rfl (Zf (y_eql_nil rfl Tryz.s34 rfl rfl) rfl ?_)))))
 refine Zd (ρ' := [(0, _), (4, _)]) ⟨rfl, rfl, trivial⟩ ?_
 refine Zb ?_
 refine Zn rfl (fun hb1 => ?_) (fun hb1 => ?_)
 ·
  refine Zc (Za (ya rfl rfl (Zd (ρ' := [(2, _)]) ⟨rfl, trivial⟩ ?_)))
  refine Zb (Zv (Zh ?_))
  refine Zav (.tmp rfl) ?_
  have h := hb1
  have h0 : xs.length = 0 := by
   cases Nat.eq_zero_or_pos xs.length with
   | inl h => exact h
   | inr hp => obtain ⟨b, off, c, T, fr, rfl, _⟩ := h1.2.2.2 (by omega); cases h
  obtain rfl := List.eq_nil_of_length_eq_zero h0
  exact nilStr _
 ·
  refine Zs (Zb (Zc (Za (Zq rfl rfl ?_))))
  refine Zac trivial Tryz.s34 Tryz.z9 (ps := []) rfl (xs := []) rfl rfl rfl rfl rfl rfl rfl ?_
  refine ym rfl rfl (Zq rfl rfl ?_)
  refine Zbx trivial rfl rfl Tryz.s34 Tryz.z9 rfl rfl rfl rfl rfl (by assumption) (by first | rfl | assumption | simp [Value.oneCell', str]) (by omega) (by omega) (ρ' := []) trivial rfl rfl rfl ?_
  refine Zbm 7 rfl ?_
  intro ad7 cap7 u7 hle7z hsl7
  refine ya rfl rfl (Zd (ρ' := [(2, _)]) ⟨rfl, trivial⟩ ?_)
  refine Zb (Zv ?_)
  refine Zav (.tmp rfl) ?_
  exact strS_of (by simp) hsl7
theorem clonePr_fn (v : Value) (xs : List (Bs × Bs)) (hx : xs.length ≤ 1000000) (u : View) (ha : PrS u v xs) : FnP Tryz.prog 17 [v] u fun r u' => PrS u' r xs := by
 obtain ⟨ad, cap, rfl, h1⟩ := ha
 have oneAll := oneCell_pairs xs
 refine FnP.intro [.tmp 2] Tryz.func17 rfl rfl rfl ?_
 intro w0 D hw0
 refine Zc (Za (ya rfl rfl (Zd (ρ' := [(0, _)]) ⟨rfl, trivial⟩ ?_)))
 refine Zb (Zc (Zc (Za (ym rfl rfl (Zf (y_eql_nil rfl Tryz.s22 rfl rfl) rfl ?_)))))
 refine Zd (ρ' := [(0, _), (4, _)]) ⟨rfl, rfl, trivial⟩ ?_
 refine Zb ?_
 refine Zn rfl (fun hb1 => ?_) (fun hb1 => ?_)
 ·
  refine Zc (Za (ya rfl rfl (Zd (ρ' := [(2, _)]) ⟨rfl, trivial⟩ ?_)))
  refine Zb (Zv (Zh ?_))
  refine Zav (.tmp rfl) ?_
  have h := hb1
  have h0 : xs.length = 0 := by
   cases Nat.eq_zero_or_pos xs.length with
   | inl h => exact h
   | inr hp => obtain ⟨b, off, c, T, fr, rfl, _⟩ := h1.2.2.2 (by omega); cases h
  obtain rfl := List.eq_nil_of_length_eq_zero h0
  exact nilPr _
 ·
  refine Zs (Zb (Zc (Za (Zq rfl rfl ?_))))
  refine Zac trivial Tryz.s22 Tryz.z49 (ps := []) rfl (xs := []) rfl rfl rfl rfl rfl rfl rfl ?_
  refine ym rfl rfl (Zq rfl rfl ?_)
  refine Zbx trivial rfl rfl Tryz.s22 Tryz.z49 rfl rfl rfl rfl rfl (by assumption) (by first | rfl | assumption | simp [Value.oneCell', str]) (by omega) (by omega) (ρ' := []) trivial rfl rfl rfl ?_
  refine Zbm 7 rfl ?_
  intro ad7 cap7 u7 hle7z hsl7
  refine ya rfl rfl (Zd (ρ' := [(2, _)]) ⟨rfl, trivial⟩ ?_)
  refine Zb (Zv ?_)
  refine Zav (.tmp rfl) ?_
  rw [Nat.zero_add] at hsl7 ⊢
  exact ⟨_, _, rfl, hsl7⟩
theorem cloneCi_fn (v : Value) (xs : List DCite) (hx : xs.length ≤ 1000000) (u : View) (ha : CiS u v xs) : FnP Tryz.prog 71 [v] u fun r u' => CiS u' r xs := by
 obtain ⟨ad, cap, rfl, h1⟩ := ha
 have oneAll := oneCell_cites xs
 refine FnP.intro [.tmp 2] Tryz.func71 rfl rfl rfl ?_
 intro w0 D hw0
 refine Zc (Za (ya rfl rfl (Zd (ρ' := [(0, _)]) ⟨rfl, trivial⟩ ?_)))
 refine Zb (Zc (Zc (Za (ym rfl rfl (Zf (y_eql_nil rfl Tryz.s43 rfl rfl) rfl ?_)))))
 refine Zd (ρ' := [(0, _), (4, _)]) ⟨rfl, rfl, trivial⟩ ?_
 refine Zb ?_
 refine Zn rfl (fun hb1 => ?_) (fun hb1 => ?_)
 ·
  refine Zc (Za (ya rfl rfl (Zd (ρ' := [(2, _)]) ⟨rfl, trivial⟩ ?_)))
  refine Zb (Zv (Zh ?_))
  refine Zav (.tmp rfl) ?_
  have h := hb1
  have h0 : xs.length = 0 := by
   cases Nat.eq_zero_or_pos xs.length with
   | inl h => exact h
   | inr hp => obtain ⟨b, off, c, T, fr, rfl, _⟩ := h1.2.2.2 (by omega); cases h
  obtain rfl := List.eq_nil_of_length_eq_zero h0
  exact nilCi _
 ·
  refine Zs (Zb (Zc (Za (Zq rfl rfl ?_))))
  refine Zac trivial Tryz.s43 Tryz.z105 (ps := []) rfl (xs := []) rfl rfl rfl rfl rfl rfl rfl ?_
  refine ym rfl rfl (Zq rfl rfl ?_)
  refine Zbx trivial rfl rfl Tryz.s43 Tryz.z105 rfl rfl rfl rfl rfl (by assumption) (by first | rfl | assumption | simp [Value.oneCell', str]) (by omega) (by omega) (ρ' := []) trivial rfl rfl rfl ?_
  refine Zbm 7 rfl ?_
  intro ad7 cap7 u7 hle7z hsl7
  refine ya rfl rfl (Zd (ρ' := [(2, _)]) ⟨rfl, trivial⟩ ?_)
  refine Zb (Zv ?_)
  refine Zav (.tmp rfl) ?_
  rw [Nat.zero_add] at hsl7 ⊢
  exact ⟨_, _, rfl, hsl7⟩
theorem copyAttr_fn (a : DAttr) (vc vp : Value) (u : View) (hc : a.classes.length ≤ 1000000) (hp : a.pairs.length ≤ 1000000) (h1 : StrS u vc a.classes) (h2 : PrS u vp a.pairs) :
  FnP Tryz.prog 100 [.agg #[str a.id, vc, vp]] u fun r u' => ∃ vc' vp', r = .agg #[str a.id, vc', vp'] ∧ StrS u' vc' a.classes ∧ PrS u' vp' a.pairs := by
 obtain ⟨ad, cap, rfl, h1⟩ := h1
 obtain ⟨ad2, cap2, rfl, h2⟩ := h2
 refine FnP.intro [.cell 2 36] Tryz.func100 rfl rfl rfl ?_
 intro w0 D hw0
 refine Zc (Za (Zq rfl rfl ?_))
 refine Zbl trivial rfl (cs := [_, _, _]) rfl rfl rfl rfl ?_
 refine Zq rfl rfl ?_
 refine Zax trivial Tryz.z36 rfl rfl rfl ?_
 refine Zd (ρ' := [(1, _), (2, _)]) ⟨rfl, rfl, trivial⟩ ?_
 refine Zb (Zc (Za (Zf (Zi rfl Tryz.f36' rfl (by decide) rfl) rfl ?_)))
 refine Zf (Zj rfl Tryz.k34 rfl rfl rfl (vs := [_]) rfl rfl rfl) rfl ?_
 refine Zq rfl rfl ?_
 refine Zbb (caps := []) trivial rfl rfl Tryz.c36 rfl (FnP.mono (cloneStr_fn _ a.classes hc u ⟨_, _, rfl, h1⟩) ?_)
 rintro v uA hle0 ⟨ad3, cap3, rfl, h3⟩ hleA
 refine Zf (Zi rfl Tryz.f36' rfl (by decide) rfl) rfl ?_
 refine Zq rfl rfl ?_
 refine Zt trivial rfl Tryz.k34 rfl rfl rfl (vs := [_]) rfl rfl (by first | rfl | assumption | simp [Value.oneCell', str]) (Nat.le_of_ble_eq_true rfl) rfl ?_
 refine Zd (ρ' := [(1, _), (2, _)]) ⟨rfl, rfl, trivial⟩ ?_
 refine Zb (Zc (Za (Zf (Zi rfl Tryz.f36' rfl (by decide) rfl) rfl ?_)))
 refine Zf (Zj rfl Tryz.k22 rfl rfl rfl (vs := [_]) rfl rfl rfl) rfl ?_
 refine Zq rfl rfl ?_
 refine Zbb (caps := []) trivial rfl rfl Tryz.c17 rfl (FnP.mono (clonePr_fn _ a.pairs hp uA ⟨_, _, rfl, h2.mono hleA⟩) ?_)
 rintro v uB hle0 ⟨ad4, cap4, rfl, h4⟩ hleB
 refine Zf (Zi rfl Tryz.f36' rfl (by decide) rfl) rfl ?_
 refine Zq rfl rfl ?_
 refine Zt trivial rfl Tryz.k22 rfl rfl rfl (vs := [_]) rfl rfl (by first | rfl | assumption | simp [Value.oneCell', str]) (Nat.le_of_ble_eq_true rfl) rfl ?_
 refine Zd (ρ' := [(1, _), (2, _)]) ⟨rfl, rfl, trivial⟩ ?_
 refine Zb (Zc (Za (Zf (Zj rfl Tryz.k36 rfl rfl rfl (vs := [_, _, _]) rfl rfl rfl) rfl ?_)))
 refine Zq rfl rfl ?_
 refine Zt trivial rfl Tryz.k36 rfl rfl rfl (vs := [_, _, _]) rfl rfl (by first | rfl | assumption | simp [Value.oneCell', str]) (Nat.le_of_ble_eq_true rfl) rfl ?_
 refine Zd (ρ' := [(2, _)]) ⟨rfl, trivial⟩ ?_
 refine Zb (Zv ?_)
 refine Zav (.cell rfl rfl Tryz.k36 (cs := _) (vs := [_, _, _]) rfl rfl rfl) ?_
 exact ⟨_, _, rfl, ⟨_, _, rfl, h3.mono hleB⟩, ⟨_, _, rfl, h4⟩⟩
end Go.Proofs.Ytoajhdnfdfbmaaa
namespace Go.Proofs.Ytoajhdnfdfbmaaa
open Go Go.Eng
set_option linter.unusedSimpArgs false
set_option linter.unusedVariables false
set_option maxRecDepth 4000
end Go.Proofs.Ytoajhdnfdfbmaaa
namespace Go.Proofs.Ytoajhdnfdfbmaaa
open Go Go.Eng
set_option linter.unusedSimpArgs false
set_option linter.unusedVariables false
set_option maxRecDepth 4000
end Go.Proofs.Ytoajhdnfdfbmaaa
namespace Go.Proofs.Ytoajhdnfdfbmaaa
open Go Go.Eng
set_option linter.unusedSimpArgs false
set_option linter.unusedVariables false
set_option maxRecDepth 4000
theorem setAt_append {acc zs vs : List Value} {o : Nat} (ho : o = acc.length) (hl : vs.length = zs.length) : setAt (acc ++ zs) o vs = acc ++ vs := by
 subst ho
 rw [setAt_eq _ _ _ (by simp [hl])]
 simp [hl]
abbrev visI (b3 b4 : Nat) : Value := .func (.func 105) #[] #[.pointer (some ⟨b3, 0, none⟩), .pointer (some ⟨b4, 0, none⟩)]
set_option maxHeartbeats 4000000 in
theorem visI_fn (b3 b4 : Nat) (n : Nat) : ∀ (v : Value) (xs out : List Inl) (ao : Option Addr) (co : Nat) (acc : List Value) (u : View), szI xs ≤ n → out.length + szI xs ≤ 100000 → smI xs → InlS u v xs → InlsC u out acc →
  FnO Tryz.prog 105 [v, .pointer (some ⟨b3, 0, none⟩), .pointer (some ⟨b4, 0, none⟩)] u [(some b3, .box [.slice ao out.length co]), (some b4, .box [visI b3 b4]), (none, .rwv (.slice ao out.length co) 45 10 out.length acc)]
   fun r u' l' => r = .tuple #[] ∧ ∃ ao' co' acc', l' = [(some b3, .box [.slice ao' (out ++ deep xs).length co']), (some b4, .box [visI b3 b4]), (none, .rwv (.slice ao' (out ++ deep xs).length co') 45 10 (out ++ deep xs).length acc')] ∧ InlsC u' (out ++ deep xs) acc' := by
 induction n using Nat.strongRecOn with
 | _ n ih =>
 intro v xs out ao co acc u hsz hbig hsm ha hacc
 have hlx := len_szI xs
 obtain ⟨cs, ⟨ad, cap, rfl, h1⟩, hc1⟩ := ha
 refine FnO.intro [] Tryz.func105 rfl rfl rfl ?_
 intro w0 D hw0
 refine wc_pin 1 1000 _ 0 rfl rfl ?_
 refine wc_pin 2 1001 _ 0 rfl rfl ?_
 refine Zc (Za (ym rfl rfl (Zf (Zal rfl rfl Tryz.s37 rfl) rfl ?_)))
 refine ym rfl rfl (Zd (ρ' := [(0, _), (1, _), (2, _), (7, _), (8, _)]) ⟨rfl, rfl, rfl, rfl, rfl, trivial⟩ ?_)
 refine Zb (Zaa ?_)
 refine Zau (fun m ρ σ u' => ∃ i : Nat, i + m = xs.length ∧ VLe u u' ∧ ∃ (ai : Option Addr) (ci : Nat) (li : List Value), σ = [(1000, (some b3, .box [.slice ai (out ++ deep (xs.take i)).length ci])), (1001, (some b4, .box [visI b3 b4])), (1002, (none, .rwv (.slice ai (out ++ deep (xs.take i)).length ci) 45 10 (out ++ deep (xs.take i)).length li))] ∧ ρ = [(0, .v (.slice ad xs.length cap)), (1, .p 1000 0), (2, .p 1001 0), (7, .v (.int .i64 xs.length)), (8, .v (.int .i64 i))] ∧ (InlsC u' (out ++ deep (xs.take i)) li)) (xs.length) ?_ ?_
 ·
  refine ⟨[(0, _), (1, _), (2, _), (7, _), (8, _)], [(1000, _), (1001, _), (1002, _)], ⟨rfl, rfl, rfl, rfl, rfl, trivial⟩, ⟨rfl, rfl, rfl, trivial⟩, 0, by omega, VLe.refl _, ao, co, acc, (by simp [deep]), rfl, ?_⟩
  simpa [deep] using hacc
 ·
  rintro m ρ σ u' ⟨i, hi1, hle1, ai, ci, li, rfl, rfl, hli⟩
  refine Zc (Za (Zf (Zbh rfl rfl rfl) rfl ?_))
  refine Zd (ρ' := [(0, _), (1, _), (2, _), (7, _), (8, _), (9, _)]) ⟨rfl, rfl, rfl, rfl, rfl, rfl, trivial⟩ ?_
  refine Zb (Zc ?_)
  refine Zn rfl (fun hb1 => ?_) (fun hb1 => ?_)
  ·
   refine Zs (Zb (Zc (Zaa (Zc (Za (ym rfl rfl (ya rfl rfl (Zd (ρ' := [(0, _), (1, _), (2, _), (4, _), (7, _), (8, _)]) ⟨rfl, rfl, rfl, rfl, rfl, rfl, trivial⟩ ?_))))))))
   refine Zb (Zc ?_)
   have hlt : i < xs.length := by have := of_decide_eq_true hb1; omega
   have h1 := h1.mono hle1
   obtain ⟨k, t, d, ti, a, args, cites, kids, vc, vp, va, vt, vk, hg, hcut1, s1, s2, s3, s4, s5, hok⟩ := (hc1.mono hle1).at hlt
   have oneAll := ((hc1.mono hle1).get i _ hg).one
   rw [hcut1] at oneAll
   have t5 := s5
   obtain ⟨kcs, ⟨kad, kcap, rfl, hk1⟩, hk2⟩ := t5
   have hsm1 := smI_get hsm hg
   unfold smI1 at hsm1
   obtain ⟨⟨n1, n2, n3, n4, n5, n6, n7, n8⟩, hsmk⟩ := hsm1
   have hszk := szI_kids hg
   have hdt := deep_take hg
   have hszt := szI_take hg
   have hszle := szI_take_le xs (i + 1)
   simp only [deep1] at hdt
   simp only [sz1] at hszt
   have hAl : (out ++ deep (xs.take i)).length = out.length + szI (xs.take i) := by simp [deep_len]
   have hdt2 : out ++ deep (xs.take (i + 1)) = (out ++ deep (xs.take i) ++ [.mk k t d ti a args cites kids]) ++ deep kids := by rw [hdt]; simp
   generalize out ++ deep (xs.take i) = A at *
   refine Za (ym rfl rfl (ym rfl rfl (Zf (Zai rfl Tryz.s37 rfl rfl (by assumption) (by first | rfl | omega) (by omega)) rfl ?_)))
   refine Zf (Zag rfl Tryz.k45 rfl (by assumption) (by omega) (by assumption) (vs := [_, _, _, _, _, _, _, _, _, _]) rfl rfl rfl rfl) rfl ?_
   refine Zq rfl rfl ?_
   refine Zax trivial Tryz.z45 rfl rfl rfl ?_
   refine Zq rfl rfl ?_
   refine Zt trivial rfl Tryz.k45 rfl rfl rfl (vs := [_, _, _, _, _, _, _, _, _, _]) rfl rfl (by first | rfl | assumption | simp [Value.oneCell', str]) (Nat.le_of_ble_eq_true rfl) rfl ?_
   refine Zd (ρ' := [(0, _), (1, _), (2, _), (4, _), (5, _), (7, _), (8, _)]) ⟨rfl, rfl, rfl, rfl, rfl, rfl, rfl, trivial⟩ ?_
   refine Zb (Zc (Za (Zf (Zi rfl Tryz.f45' rfl (by decide) rfl) rfl ?_)))
   refine Zf (Zj rfl Tryz.k36 rfl rfl rfl (vs := [_, _, _]) rfl rfl rfl) rfl ?_
   refine Zq rfl rfl ?_
   refine Zbb (caps := []) trivial rfl rfl Tryz.c100 rfl (FnP.mono (copyAttr_fn a vc vp u' (by omega) (by omega) s1 s2) ?_)
   rintro v uA hle0 ⟨vc2, vp2, rfl, ⟨ad1, cap1, rfl, q1⟩, ⟨ad2, cap2, rfl, q2⟩⟩ hleA
   refine Zf (Zi rfl Tryz.f45' rfl (by decide) rfl) rfl ?_
   refine Zq rfl rfl ?_
   refine Zt trivial rfl Tryz.k36 rfl rfl rfl (vs := [_, _, _]) rfl rfl (by first | rfl | assumption | simp [Value.oneCell', str]) (Nat.le_of_ble_eq_true rfl) rfl ?_
   refine Zd (ρ' := [(0, _), (1, _), (2, _), (4, _), (5, _), (7, _), (8, _)]) ⟨rfl, rfl, rfl, rfl, rfl, rfl, rfl, trivial⟩ ?_
   refine Zb (Zc (Za (Zf (Zi rfl Tryz.f45' rfl (by decide) rfl) rfl ?_)))
   refine Zf (Zj rfl Tryz.k34 rfl rfl rfl (vs := [_]) rfl rfl rfl) rfl ?_
   refine Zq rfl rfl ?_
   refine Zbb (caps := []) trivial rfl rfl Tryz.c36 rfl (FnP.mono (cloneStr_fn va args (by omega) uA (s3.mono hleA)) ?_)
   rintro v uB hle0 ⟨ad3, cap3, rfl, q3⟩ hleB
   refine Zf (Zi rfl Tryz.f45' rfl (by decide) rfl) rfl ?_
   refine Zq rfl rfl ?_
   refine Zt trivial rfl Tryz.k34 rfl rfl rfl (vs := [_]) rfl rfl (by first | rfl | assumption | simp [Value.oneCell', str]) (Nat.le_of_ble_eq_true rfl) rfl ?_
   refine Zd (ρ' := [(0, _), (1, _), (2, _), (4, _), (5, _), (7, _), (8, _)]) ⟨rfl, rfl, rfl, rfl, rfl, rfl, rfl, trivial⟩ ?_
   refine Zb (Zc (Za (Zf (Zi rfl Tryz.f45' rfl (by decide) rfl) rfl ?_)))
   refine Zf (Zj rfl Tryz.k43 rfl rfl rfl (vs := [_]) rfl rfl rfl) rfl ?_
   refine Zq rfl rfl ?_
   refine Zbb (caps := []) trivial rfl rfl Tryz.c71 rfl (FnP.mono (cloneCi_fn vt cites (by omega) uB ((s4.mono hleA).mono hleB)) ?_)
   rintro v uC hle0 ⟨ad4, cap4, rfl, q4⟩ hleC
   refine Zf (Zi rfl Tryz.f45' rfl (by decide) rfl) rfl ?_
   refine Zq rfl rfl ?_
   refine Zt trivial rfl Tryz.k43 rfl rfl rfl (vs := [_]) rfl rfl (by first | rfl | assumption | simp [Value.oneCell', str]) (Nat.le_of_ble_eq_true rfl) rfl ?_
   refine Zd (ρ' := [(0, _), (1, _), (2, _), (4, _), (5, _), (7, _), (8, _)]) ⟨rfl, rfl, rfl, rfl, rfl, rfl, rfl, trivial⟩ ?_
   refine Zb (Zc ?_)
   refine Zbu Tryz.mixed rfl [(5, _)] ⟨rfl, trivial⟩ ?_
   refine ra_y (i := 1) rfl (by kernel_rfl) (by kernel_rfl) (by kernel_rfl) (Ze (Zg (Ze (Ze (Zg (Zaq)))))) (Zj rfl Tryz.k45 rfl rfl rfl (vs := [_, _, _, _, _, _, _, _, _, _]) rfl rfl rfl) rfl ?_
   refine ra_all (is := [0, 3]) (by kernel_rfl) rfl ?_
   refine raall_cons rfl rfl ?_ ?_
   ·
    refine Zcf (Zj rfl Tryz.k37 rfl rfl rfl (vs := [_]) rfl rfl rfl) rfl ?_
    refine ra_y (i := 2) rfl (by kernel_rfl) (by kernel_rfl) (by kernel_rfl) (Ze (Zg (Ze (Ze (Zg (Zaq)))))) (Zal rfl rfl Tryz.s37 rfl) rfl ?_
    refine ra_do (i := 3) rfl rfl (by kernel_rfl) ?_
    refine Zac ⟨rfl, trivial⟩ Tryz.s37 Tryz.z45 (ps := [(_, _)]) rfl (xs := [_, _, _, _, _, _, _, _, _, _]) rfl rfl rfl rfl rfl rfl rfl ?_
    refine ra_do (i := 4) rfl rfl (by kernel_rfl) ?_
    refine Zbd 1002 ⟨rfl, trivial⟩ rfl rfl Tryz.s37 Tryz.z45 rfl rfl rfl rfl rfl rfl (by first | rfl | simp [Value.oneCell', str]) (by omega) (by omega) rfl rfl ?_
    intro a2 c2
    refine ra_y (i := 5) rfl (by kernel_rfl) (by kernel_rfl) (by kernel_rfl) (Ze (Zg (Ze (Ze (Zg (Zaq)))))) (Zbf 1002 rfl Tryz.s37 rfl rfl rfl (j := A.length) rfl (by omega)) rfl ?_
    refine ra_all (is := [6, 7]) (by kernel_rfl) rfl ?_
    refine raall_cons rfl rfl ?_ ?_
    ·
     have hlA := hli.len
     refine Zar ⟨rfl, trivial⟩ rfl Tryz.k45 rfl rfl rfl (vs := [_, _, _, _, _, _, _, _, _, _]) rfl rfl (by simp [Value.oneCell', str]) (by simp; omega) (setAt_append (by omega) rfl) ?_
     refine ra_do (i := 7) rfl rfl (by kernel_rfl) ?_
     refine Zt ⟨rfl, trivial⟩ rfl Tryz.k37 rfl rfl rfl (vs := [_]) rfl rfl (by first | rfl | assumption | simp [Value.oneCell', str]) (Nat.le_of_ble_eq_true rfl) rfl ?_
     refine ra_end (by kernel_rfl) (ρ' := [(0, _), (1, _), (2, _), (4, _), (7, _), (8, _)]) ⟨rfl, rfl, rfl, rfl, rfl, rfl, trivial⟩ ?_
     refine Zb ?_
     have hl1 : A.length + 1 = (A ++ [(.mk k t d ti a args cites kids : Inl)]).length := by simp
     rw [hl1]
     have hmono := (hleA.trans hleB).trans hleC
     have h1 := h1.mono hmono
     have hcut1' := hcut1
     have hli2 : InlsC uC (A ++ [(.mk k t d ti a args cites kids : Inl)]) _ := (hli.mono hmono).append (InlsC.one (InlC.mk' (vc := .slice ad1 _ cap1) (vp := .slice ad2 _ cap2) (va := .slice ad3 _ cap3) (vt := .slice ad4 _ cap4) (vk := .slice kad _ kcap) ⟨_, _, rfl, (q1.mono hleB).mono hleC⟩ ⟨_, _, rfl, (q2.mono hleB).mono hleC⟩ ⟨_, _, rfl, q3.mono hleC⟩ ⟨_, _, rfl, q4⟩ (s5.mono hmono) hok))
     refine Zbu Tryz.mixed rfl [] trivial ?_
     refine ra_y (i := 1) rfl (by kernel_rfl) (by kernel_rfl) (by kernel_rfl) (Zg (Ze (Ze (Zg (Zaq))))) (Zbj rfl rfl) rfl ?_
     refine ra_y (i := 2) rfl (by kernel_rfl) (by kernel_rfl) (by kernel_rfl) (Zg (Ze (Ze (Zg (Zaq))))) (Zbj rfl rfl) rfl ?_
     refine ra_y (i := 3) rfl (by kernel_rfl) (by kernel_rfl) (by kernel_rfl) (Zg (Ze (Ze (Zg (Zaq))))) (Zai rfl Tryz.s37 rfl rfl (by assumption) (by first | rfl | omega) (by omega)) rfl ?_
     refine ra_y (i := 4) rfl (by kernel_rfl) (by kernel_rfl) (by kernel_rfl) (Zg (Ze (Ze (Zg (Zaq))))) (Zap rfl Tryz.f45' rfl (by decide) rfl) rfl ?_
     refine ra_y (i := 5) rfl (by kernel_rfl) (by kernel_rfl) (by kernel_rfl) (Zg (Ze (Ze (Zg (Zaq))))) (Zag rfl Tryz.k37 rfl (by assumption) (by omega) (by assumption) (vs := [_]) rfl rfl rfl rfl) rfl ?_
     refine ra_do (i := 0) rfl rfl (by kernel_rfl) ?_
     refine Zcf (Zj rfl Tryz.k135 rfl rfl rfl (vs := [_]) rfl rfl rfl) rfl ?_
     refine ra_do (i := 6) rfl rfl (by kernel_rfl) ?_
     refine Zaz (caps := [.pointer (some ⟨b3, 0, none⟩), .pointer (some ⟨b4, 0, none⟩)]) (ρ' := [(0, _), (1, _), (2, _), (7, _), (8, _)]) [1000, 1001, 1002] [] trivial rfl rfl rfl Tryz.c105 rfl rfl ⟨rfl, rfl, rfl, rfl, rfl, trivial⟩ rfl rfl rfl (FnO.mono (ih (szI kids) (by omega) _ kids (A ++ [Inl.mk k t d ti a args cites kids]) a2 c2 _ uC (Nat.le_refl _) (by simp; omega) hsmk (s5.mono hmono) hli2) ?_)
     rintro v uR l1 hleR ⟨rfl, a6, c6, l6, rfl, h6⟩ -
     refine ⟨⟨fun _ h => h, fun _ h => h, fun _ h => h, trivial⟩, ?_⟩
     refine ra_end (by kernel_rfl) (ρ' := [(0, _), (1, _), (2, _), (7, _), (8, _)]) ⟨rfl, rfl, rfl, rfl, rfl, trivial⟩ ?_
     refine Zaf (Zb (Za (Zf (Zas rfl rfl rfl (Zu (by omega))) rfl ?_)))
     refine ym rfl rfl (Zd (ρ' := [(0, _), (1, _), (2, _), (7, _), (8, _)]) ⟨rfl, rfl, rfl, rfl, rfl, trivial⟩ ?_)
     refine Zae ?_
     refine ⟨m - 1, [(0, _), (1, _), (2, _), (7, _), (8, _)], [(1000, _), (1001, _), (1002, _)], by omega, ⟨rfl, rfl, rfl, rfl, rfl, trivial⟩, ⟨rfl, rfl, rfl, trivial⟩, i + 1, by omega, (hle1.trans (hmono.trans hleR)), a6, c6, l6, (by rw [hdt2]), (by first | rfl | simp), ?_⟩
     rw [hdt2]; exact h6
    refine raall_cons rfl rfl ?_ ?_
    ·
     refine Zt ⟨rfl, trivial⟩ rfl Tryz.k37 rfl rfl rfl (vs := [_]) rfl rfl (by first | rfl | assumption | simp [Value.oneCell', str]) (Nat.le_of_ble_eq_true rfl) rfl ?_
     have hlA := hli.len
     refine ra_do (i := 6) rfl rfl (by kernel_rfl) ?_
     refine Zar ⟨rfl, trivial⟩ rfl Tryz.k45 rfl rfl rfl (vs := [_, _, _, _, _, _, _, _, _, _]) rfl rfl (by simp [Value.oneCell', str]) (by simp; omega) (setAt_append (by omega) rfl) ?_
     refine ra_end (by kernel_rfl) (ρ' := [(0, _), (1, _), (2, _), (4, _), (7, _), (8, _)]) ⟨rfl, rfl, rfl, rfl, rfl, rfl, trivial⟩ ?_
     refine Zb ?_
     have hl1 : A.length + 1 = (A ++ [(.mk k t d ti a args cites kids : Inl)]).length := by simp
     rw [hl1]
     have hmono := (hleA.trans hleB).trans hleC
     have h1 := h1.mono hmono
     have hcut1' := hcut1
     have hli2 : InlsC uC (A ++ [(.mk k t d ti a args cites kids : Inl)]) _ := (hli.mono hmono).append (InlsC.one (InlC.mk' (vc := .slice ad1 _ cap1) (vp := .slice ad2 _ cap2) (va := .slice ad3 _ cap3) (vt := .slice ad4 _ cap4) (vk := .slice kad _ kcap) ⟨_, _, rfl, (q1.mono hleB).mono hleC⟩ ⟨_, _, rfl, (q2.mono hleB).mono hleC⟩ ⟨_, _, rfl, q3.mono hleC⟩ ⟨_, _, rfl, q4⟩ (s5.mono hmono) hok))
     refine Zbu Tryz.mixed rfl [] trivial ?_
     refine ra_y (i := 1) rfl (by kernel_rfl) (by kernel_rfl) (by kernel_rfl) (Zg (Ze (Ze (Zg (Zaq))))) (Zbj rfl rfl) rfl ?_
     refine ra_y (i := 2) rfl (by kernel_rfl) (by kernel_rfl) (by kernel_rfl) (Zg (Ze (Ze (Zg (Zaq))))) (Zbj rfl rfl) rfl ?_
     refine ra_y (i := 3) rfl (by kernel_rfl) (by kernel_rfl) (by kernel_rfl) (Zg (Ze (Ze (Zg (Zaq))))) (Zai rfl Tryz.s37 rfl rfl (by assumption) (by first | rfl | omega) (by omega)) rfl ?_
     refine ra_y (i := 4) rfl (by kernel_rfl) (by kernel_rfl) (by kernel_rfl) (Zg (Ze (Ze (Zg (Zaq))))) (Zap rfl Tryz.f45' rfl (by decide) rfl) rfl ?_
     refine ra_y (i := 5) rfl (by kernel_rfl) (by kernel_rfl) (by kernel_rfl) (Zg (Ze (Ze (Zg (Zaq))))) (Zag rfl Tryz.k37 rfl (by assumption) (by omega) (by assumption) (vs := [_]) rfl rfl rfl rfl) rfl ?_
     refine ra_do (i := 0) rfl rfl (by kernel_rfl) ?_
     refine Zcf (Zj rfl Tryz.k135 rfl rfl rfl (vs := [_]) rfl rfl rfl) rfl ?_
     refine ra_do (i := 6) rfl rfl (by kernel_rfl) ?_
     refine Zaz (caps := [.pointer (some ⟨b3, 0, none⟩), .pointer (some ⟨b4, 0, none⟩)]) (ρ' := [(0, _), (1, _), (2, _), (7, _), (8, _)]) [1000, 1001, 1002] [] trivial rfl rfl rfl Tryz.c105 rfl rfl ⟨rfl, rfl, rfl, rfl, rfl, trivial⟩ rfl rfl rfl (FnO.mono (ih (szI kids) (by omega) _ kids (A ++ [Inl.mk k t d ti a args cites kids]) a2 c2 _ uC (Nat.le_refl _) (by simp; omega) hsmk (s5.mono hmono) hli2) ?_)
     rintro v uR l1 hleR ⟨rfl, a6, c6, l6, rfl, h6⟩ -
     refine ⟨⟨fun _ h => h, fun _ h => h, fun _ h => h, trivial⟩, ?_⟩
     refine ra_end (by kernel_rfl) (ρ' := [(0, _), (1, _), (2, _), (7, _), (8, _)]) ⟨rfl, rfl, rfl, rfl, rfl, trivial⟩ ?_
     refine Zaf (Zb (Za (Zf (Zas rfl rfl rfl (Zu (by omega))) rfl ?_)))
     refine ym rfl rfl (Zd (ρ' := [(0, _), (1, _), (2, _), (7, _), (8, _)]) ⟨rfl, rfl, rfl, rfl, rfl, trivial⟩ ?_)
     refine Zae ?_
     refine ⟨m - 1, [(0, _), (1, _), (2, _), (7, _), (8, _)], [(1000, _), (1001, _), (1002, _)], by omega, ⟨rfl, rfl, rfl, rfl, rfl, trivial⟩, ⟨rfl, rfl, rfl, trivial⟩, i + 1, by omega, (hle1.trans (hmono.trans hleR)), a6, c6, l6, (by rw [hdt2]), (by first | rfl | simp), ?_⟩
     rw [hdt2]; exact h6
    exact raall_nil
   refine raall_cons rfl rfl ?_ ?_
   ·
    refine Zac ⟨rfl, trivial⟩ Tryz.s37 Tryz.z45 (ps := [(_, _)]) rfl (xs := [_, _, _, _, _, _, _, _, _, _]) rfl rfl rfl rfl rfl rfl rfl ?_
    refine ra_do (i := 0) rfl rfl (by kernel_rfl) ?_
    refine Zcf (Zj rfl Tryz.k37 rfl rfl rfl (vs := [_]) rfl rfl rfl) rfl ?_
    refine ra_y (i := 2) rfl (by kernel_rfl) (by kernel_rfl) (by kernel_rfl) (Ze (Zg (Ze (Ze (Zg (Zaq)))))) (Zal rfl rfl Tryz.s37 rfl) rfl ?_
    refine ra_do (i := 4) rfl rfl (by kernel_rfl) ?_
    refine Zbd 1002 ⟨rfl, trivial⟩ rfl rfl Tryz.s37 Tryz.z45 rfl rfl rfl rfl rfl rfl (by first | rfl | simp [Value.oneCell', str]) (by omega) (by omega) rfl rfl ?_
    intro a2 c2
    refine ra_y (i := 5) rfl (by kernel_rfl) (by kernel_rfl) (by kernel_rfl) (Ze (Zg (Ze (Ze (Zg (Zaq)))))) (Zbf 1002 rfl Tryz.s37 rfl rfl rfl (j := A.length) rfl (by omega)) rfl ?_
    refine ra_all (is := [6, 7]) (by kernel_rfl) rfl ?_
    refine raall_cons rfl rfl ?_ ?_
    ·
     have hlA := hli.len
     refine Zar ⟨rfl, trivial⟩ rfl Tryz.k45 rfl rfl rfl (vs := [_, _, _, _, _, _, _, _, _, _]) rfl rfl (by simp [Value.oneCell', str]) (by simp; omega) (setAt_append (by omega) rfl) ?_
     refine ra_do (i := 7) rfl rfl (by kernel_rfl) ?_
     refine Zt ⟨rfl, trivial⟩ rfl Tryz.k37 rfl rfl rfl (vs := [_]) rfl rfl (by first | rfl | assumption | simp [Value.oneCell', str]) (Nat.le_of_ble_eq_true rfl) rfl ?_
     refine ra_end (by kernel_rfl) (ρ' := [(0, _), (1, _), (2, _), (4, _), (7, _), (8, _)]) ⟨rfl, rfl, rfl, rfl, rfl, rfl, trivial⟩ ?_
     refine Zb ?_
     have hl1 : A.length + 1 = (A ++ [(.mk k t d ti a args cites kids : Inl)]).length := by simp
     rw [hl1]
     have hmono := (hleA.trans hleB).trans hleC
     have h1 := h1.mono hmono
     have hcut1' := hcut1
     have hli2 : InlsC uC (A ++ [(.mk k t d ti a args cites kids : Inl)]) _ := (hli.mono hmono).append (InlsC.one (InlC.mk' (vc := .slice ad1 _ cap1) (vp := .slice ad2 _ cap2) (va := .slice ad3 _ cap3) (vt := .slice ad4 _ cap4) (vk := .slice kad _ kcap) ⟨_, _, rfl, (q1.mono hleB).mono hleC⟩ ⟨_, _, rfl, (q2.mono hleB).mono hleC⟩ ⟨_, _, rfl, q3.mono hleC⟩ ⟨_, _, rfl, q4⟩ (s5.mono hmono) hok))
     refine Zbu Tryz.mixed rfl [] trivial ?_
     refine ra_y (i := 1) rfl (by kernel_rfl) (by kernel_rfl) (by kernel_rfl) (Zg (Ze (Ze (Zg (Zaq))))) (Zbj rfl rfl) rfl ?_
     refine ra_y (i := 2) rfl (by kernel_rfl) (by kernel_rfl) (by kernel_rfl) (Zg (Ze (Ze (Zg (Zaq))))) (Zbj rfl rfl) rfl ?_
     refine ra_y (i := 3) rfl (by kernel_rfl) (by kernel_rfl) (by kernel_rfl) (Zg (Ze (Ze (Zg (Zaq))))) (Zai rfl Tryz.s37 rfl rfl (by assumption) (by first | rfl | omega) (by omega)) rfl ?_
     refine ra_y (i := 4) rfl (by kernel_rfl) (by kernel_rfl) (by kernel_rfl) (Zg (Ze (Ze (Zg (Zaq))))) (Zap rfl Tryz.f45' rfl (by decide) rfl) rfl ?_
     refine ra_y (i := 5) rfl (by kernel_rfl) (by kernel_rfl) (by kernel_rfl) (Zg (Ze (Ze (Zg (Zaq))))) (Zag rfl Tryz.k37 rfl (by assumption) (by omega) (by assumption) (vs := [_]) rfl rfl rfl rfl) rfl ?_
     refine ra_do (i := 0) rfl rfl (by kernel_rfl) ?_
     refine Zcf (Zj rfl Tryz.k135 rfl rfl rfl (vs := [_]) rfl rfl rfl) rfl ?_
     refine ra_do (i := 6) rfl rfl (by kernel_rfl) ?_
     refine Zaz (caps := [.pointer (some ⟨b3, 0, none⟩), .pointer (some ⟨b4, 0, none⟩)]) (ρ' := [(0, _), (1, _), (2, _), (7, _), (8, _)]) [1000, 1001, 1002] [] trivial rfl rfl rfl Tryz.c105 rfl rfl ⟨rfl, rfl, rfl, rfl, rfl, trivial⟩ rfl rfl rfl (FnO.mono (ih (szI kids) (by omega) _ kids (A ++ [Inl.mk k t d ti a args cites kids]) a2 c2 _ uC (Nat.le_refl _) (by simp; omega) hsmk (s5.mono hmono) hli2) ?_)
     rintro v uR l1 hleR ⟨rfl, a6, c6, l6, rfl, h6⟩ -
     refine ⟨⟨fun _ h => h, fun _ h => h, fun _ h => h, trivial⟩, ?_⟩
     refine ra_end (by kernel_rfl) (ρ' := [(0, _), (1, _), (2, _), (7, _), (8, _)]) ⟨rfl, rfl, rfl, rfl, rfl, trivial⟩ ?_
     refine Zaf (Zb (Za (Zf (Zas rfl rfl rfl (Zu (by omega))) rfl ?_)))
     refine ym rfl rfl (Zd (ρ' := [(0, _), (1, _), (2, _), (7, _), (8, _)]) ⟨rfl, rfl, rfl, rfl, rfl, trivial⟩ ?_)
     refine Zae ?_
     refine ⟨m - 1, [(0, _), (1, _), (2, _), (7, _), (8, _)], [(1000, _), (1001, _), (1002, _)], by omega, ⟨rfl, rfl, rfl, rfl, rfl, trivial⟩, ⟨rfl, rfl, rfl, trivial⟩, i + 1, by omega, (hle1.trans (hmono.trans hleR)), a6, c6, l6, (by rw [hdt2]), (by first | rfl | simp), ?_⟩
     rw [hdt2]; exact h6
    refine raall_cons rfl rfl ?_ ?_
    ·
     refine Zt ⟨rfl, trivial⟩ rfl Tryz.k37 rfl rfl rfl (vs := [_]) rfl rfl (by first | rfl | assumption | simp [Value.oneCell', str]) (Nat.le_of_ble_eq_true rfl) rfl ?_
     have hlA := hli.len
     refine ra_do (i := 6) rfl rfl (by kernel_rfl) ?_
     refine Zar ⟨rfl, trivial⟩ rfl Tryz.k45 rfl rfl rfl (vs := [_, _, _, _, _, _, _, _, _, _]) rfl rfl (by simp [Value.oneCell', str]) (by simp; omega) (setAt_append (by omega) rfl) ?_
     refine ra_end (by kernel_rfl) (ρ' := [(0, _), (1, _), (2, _), (4, _), (7, _), (8, _)]) ⟨rfl, rfl, rfl, rfl, rfl, rfl, trivial⟩ ?_
     refine Zb ?_
     have hl1 : A.length + 1 = (A ++ [(.mk k t d ti a args cites kids : Inl)]).length := by simp
     rw [hl1]
     have hmono := (hleA.trans hleB).trans hleC
     have h1 := h1.mono hmono
     have hcut1' := hcut1
     have hli2 : InlsC uC (A ++ [(.mk k t d ti a args cites kids : Inl)]) _ := (hli.mono hmono).append (InlsC.one (InlC.mk' (vc := .slice ad1 _ cap1) (vp := .slice ad2 _ cap2) (va := .slice ad3 _ cap3) (vt := .slice ad4 _ cap4) (vk := .slice kad _ kcap) ⟨_, _, rfl, (q1.mono hleB).mono hleC⟩ ⟨_, _, rfl, (q2.mono hleB).mono hleC⟩ ⟨_, _, rfl, q3.mono hleC⟩ ⟨_, _, rfl, q4⟩ (s5.mono hmono) hok))
     refine Zbu Tryz.mixed rfl [] trivial ?_
     refine ra_y (i := 1) rfl (by kernel_rfl) (by kernel_rfl) (by kernel_rfl) (Zg (Ze (Ze (Zg (Zaq))))) (Zbj rfl rfl) rfl ?_
     refine ra_y (i := 2) rfl (by kernel_rfl) (by kernel_rfl) (by kernel_rfl) (Zg (Ze (Ze (Zg (Zaq))))) (Zbj rfl rfl) rfl ?_
     refine ra_y (i := 3) rfl (by kernel_rfl) (by kernel_rfl) (by kernel_rfl) (Zg (Ze (Ze (Zg (Zaq))))) (Zai rfl Tryz.s37 rfl rfl (by assumption) (by first | rfl | omega) (by omega)) rfl ?_
     refine ra_y (i := 4) rfl (by kernel_rfl) (by kernel_rfl) (by kernel_rfl) (Zg (Ze (Ze (Zg (Zaq))))) (Zap rfl Tryz.f45' rfl (by decide) rfl) rfl ?_
     refine ra_y (i := 5) rfl (by kernel_rfl) (by kernel_rfl) (by kernel_rfl) (Zg (Ze (Ze (Zg (Zaq))))) (Zag rfl Tryz.k37 rfl (by assumption) (by omega) (by assumption) (vs := [_]) rfl rfl rfl rfl) rfl ?_
     refine ra_do (i := 0) rfl rfl (by kernel_rfl) ?_
     refine Zcf (Zj rfl Tryz.k135 rfl rfl rfl (vs := [_]) rfl rfl rfl) rfl ?_
     refine ra_do (i := 6) rfl rfl (by kernel_rfl) ?_
     refine Zaz (caps := [.pointer (some ⟨b3, 0, none⟩), .pointer (some ⟨b4, 0, none⟩)]) (ρ' := [(0, _), (1, _), (2, _), (7, _), (8, _)]) [1000, 1001, 1002] [] trivial rfl rfl rfl Tryz.c105 rfl rfl ⟨rfl, rfl, rfl, rfl, rfl, trivial⟩ rfl rfl rfl (FnO.mono (ih (szI kids) (by omega) _ kids (A ++ [Inl.mk k t d ti a args cites kids]) a2 c2 _ uC (Nat.le_refl _) (by simp; omega) hsmk (s5.mono hmono) hli2) ?_)
     rintro v uR l1 hleR ⟨rfl, a6, c6, l6, rfl, h6⟩ -
     refine ⟨⟨fun _ h => h, fun _ h => h, fun _ h => h, trivial⟩, ?_⟩
     refine ra_end (by kernel_rfl) (ρ' := [(0, _), (1, _), (2, _), (7, _), (8, _)]) ⟨rfl, rfl, rfl, rfl, rfl, trivial⟩ ?_
     refine Zaf (Zb (Za (Zf (Zas rfl rfl rfl (Zu (by omega))) rfl ?_)))
     refine ym rfl rfl (Zd (ρ' := [(0, _), (1, _), (2, _), (7, _), (8, _)]) ⟨rfl, rfl, rfl, rfl, rfl, trivial⟩ ?_)
     refine Zae ?_
     refine ⟨m - 1, [(0, _), (1, _), (2, _), (7, _), (8, _)], [(1000, _), (1001, _), (1002, _)], by omega, ⟨rfl, rfl, rfl, rfl, rfl, trivial⟩, ⟨rfl, rfl, rfl, trivial⟩, i + 1, by omega, (hle1.trans (hmono.trans hleR)), a6, c6, l6, (by rw [hdt2]), (by first | rfl | simp), ?_⟩
     rw [hdt2]; exact h6
    exact raall_nil
   exact raall_nil
  ·
   refine Zat ?_
   refine Zp (Zp ?_)
   refine Zah ?_
   refine finO0n [1000, 1001, 1002]  rfl rfl ?_
   have hge := of_decide_eq_false hb1
   rw [List.take_of_length_le (by omega)] at hli ⊢
   exact ⟨rfl, _, _, _, rfl, hli⟩
abbrev visB (b4 b5 : Nat) : Value := .func (.func 106) #[] #[.pointer (some ⟨b4, 0, none⟩), .pointer (some ⟨b5, 0, none⟩)]
theorem inls_append (xs ys : List Blk) : inls (xs ++ ys) = inls xs ++ inls ys := by simp [inls]
theorem inlsB_take {bs : List Blk} {i : Nat} {k lv : Int} {inf t d ti : Bs} {a : DAttr} {line : List Inl} {kids : List Blk} (h : bs[i]? = some (.mk k lv inf t d ti a line kids)) :
  inls (listB (bs.take (i + 1))) = inls (listB (bs.take i)) ++ (deep line ++ inls (listB kids)) := by
 rw [listB_take h, inls_append]
 simp [listb, inls, lineOf]
theorem inlsB_len (bs : List Blk) : (inls (listB bs)).length ≤ szB bs := by
 rw [inls_len]
 exact szL_listB bs
set_option maxHeartbeats 4000000 in
theorem visB_fn (b3 b4 b5 : Nat) (n : Nat) : ∀ (v : Value) (bs : List Blk) (out : List Inl) (ao : Option Addr) (co : Nat) (acc : List Value) (u : View), szB bs ≤ n → out.length + szB bs ≤ 100000 → smB bs → BlkS u v bs → InlsC u out acc →
  FnO Tryz.prog 106 [v, .pointer (some ⟨b4, 0, none⟩), .pointer (some ⟨b5, 0, none⟩)] u [(some b3, .box [.slice ao out.length co]), (some b4, .box [visI b3 b4]), (some b5, .box [visB b4 b5]), (none, .rwv (.slice ao out.length co) 45 10 out.length acc)]
   fun r u' l' => r = .tuple #[] ∧ ∃ ao' co' acc', l' = [(some b3, .box [.slice ao' (out ++ inls (listB bs)).length co']), (some b4, .box [visI b3 b4]), (some b5, .box [visB b4 b5]), (none, .rwv (.slice ao' (out ++ inls (listB bs)).length co') 45 10 (out ++ inls (listB bs)).length acc')] ∧ InlsC u' (out ++ inls (listB bs)) acc' := by
 induction n using Nat.strongRecOn with
 | _ n ih =>
 intro v bs out ao co acc u hsz hbig hsm ha hacc
 have hlx := len_szB bs
 obtain ⟨cs, ⟨ad, cap, rfl, h1⟩, hc1⟩ := ha
 refine FnO.intro [] Tryz.func106 rfl rfl rfl ?_
 intro w0 D hw0
 refine wc_pin 1 1001 _ 0 rfl rfl ?_
 refine wc_pin 2 1002 _ 0 rfl rfl ?_
 refine Zc (Za (ym rfl rfl (Zf (Zal rfl rfl Tryz.s23 rfl) rfl ?_)))
 refine ym rfl rfl (Zd (ρ' := [(0, _), (1, _), (2, _), (6, _), (7, _)]) ⟨rfl, rfl, rfl, rfl, rfl, trivial⟩ ?_)
 refine Zb (Zaa ?_)
 refine Zau (fun m ρ σ u' => ∃ i : Nat, i + m = bs.length ∧ VLe u u' ∧ ∃ (ai : Option Addr) (ci : Nat) (li : List Value), σ = [(1000, (some b3, .box [.slice ai (out ++ inls (listB (bs.take i))).length ci])), (1001, (some b4, .box [visI b3 b4])), (1002, (some b5, .box [visB b4 b5])), (1003, (none, .rwv (.slice ai (out ++ inls (listB (bs.take i))).length ci) 45 10 (out ++ inls (listB (bs.take i))).length li))] ∧ ρ = [(0, .v (.slice ad bs.length cap)), (1, .p 1001 0), (2, .p 1002 0), (6, .v (.int .i64 bs.length)), (7, .v (.int .i64 i))] ∧ (InlsC u' (out ++ inls (listB (bs.take i))) li)) (bs.length) ?_ ?_
 ·
  refine ⟨[(0, _), (1, _), (2, _), (6, _), (7, _)], [(1000, _), (1001, _), (1002, _), (1003, _)], ⟨rfl, rfl, rfl, rfl, rfl, trivial⟩, ⟨rfl, rfl, rfl, rfl, trivial⟩, 0, by omega, VLe.refl _, ao, co, acc, (by simp [listB, inls]), rfl, ?_⟩
  simpa [listB, inls] using hacc
 ·
  rintro m ρ σ u' ⟨i, hi1, hle1, ai, ci, li, rfl, rfl, hli⟩
  refine Zc (Za (Zf (Zbh rfl rfl rfl) rfl ?_))
  refine Zd (ρ' := [(0, _), (1, _), (2, _), (6, _), (7, _), (8, _)]) ⟨rfl, rfl, rfl, rfl, rfl, rfl, trivial⟩ ?_
  refine Zb (Zc ?_)
  refine Zn rfl (fun hb1 => ?_) (fun hb1 => ?_)
  ·
   refine Zs (Zb (Zc (Zaa (Zc (Za (ym rfl rfl (ya rfl rfl (Zd (ρ' := [(0, _), (1, _), (2, _), (4, _), (6, _), (7, _)]) ⟨rfl, rfl, rfl, rfl, rfl, rfl, trivial⟩ ?_))))))))
   refine Zb (Zc ?_)
   have hlt : i < bs.length := by have := of_decide_eq_true hb1; omega
   have h1 := h1.mono hle1
   obtain ⟨k, lv, inf, t, d, ti, a, line, kids, vc, vp, vl, vk, hg, hcut1, s1, s2, s3, s4, hok⟩ := (hc1.mono hle1).at hlt
   have oneAll := ((hc1.mono hle1).get i _ hg).one
   rw [hcut1] at oneAll
   have hsm1 := smB_get hsm hg
   unfold smB1 at hsm1
   have hszk := szB_kids hg
   have htg := szB_take_get hg
   simp only [szb] at htg
   have hdt := inlsB_take hg
   have hil := inlsB_len (bs.take i)
   have hAl : (out ++ inls (listB (bs.take i))).length ≤ out.length + szB (bs.take i) := by simp; omega
   have hdt2 : out ++ inls (listB (bs.take (i + 1))) = (out ++ inls (listB (bs.take i)) ++ deep line) ++ inls (listB kids) := by rw [hdt]; simp
   generalize out ++ inls (listB (bs.take i)) = A at *
   have hdl := deep_len line
   refine Zbu Tryz.mixed rfl [] trivial ?_
   refine ra_y (i := 1) rfl (by kernel_rfl) (by kernel_rfl) (by kernel_rfl) (Ze (Zg (Ze (Ze (Zg (Zaq)))))) (Zbj rfl rfl) rfl ?_
   refine ra_y (i := 2) rfl (by kernel_rfl) (by kernel_rfl) (by kernel_rfl) (Ze (Zg (Ze (Ze (Zg (Zaq)))))) (Zbj rfl rfl) rfl ?_
   refine ra_y (i := 3) rfl (by kernel_rfl) (by kernel_rfl) (by kernel_rfl) (Ze (Zg (Ze (Ze (Zg (Zaq)))))) (Zai rfl Tryz.s23 rfl rfl (by assumption) (by first | rfl | omega) (by omega)) rfl ?_
   refine ra_y (i := 4) rfl (by kernel_rfl) (by kernel_rfl) (by kernel_rfl) (Ze (Zg (Ze (Ze (Zg (Zaq)))))) (Zap rfl Tryz.f39' rfl (by decide) rfl) rfl ?_
   refine ra_y (i := 5) rfl (by kernel_rfl) (by kernel_rfl) (by kernel_rfl) (Ze (Zg (Ze (Ze (Zg (Zaq)))))) (Zag rfl Tryz.k37 rfl (by assumption) (by omega) (by assumption) (vs := [_]) rfl rfl rfl rfl) rfl ?_
   refine ra_do (i := 0) rfl rfl (by kernel_rfl) ?_
   refine Zcf (Zj rfl Tryz.k135 rfl rfl rfl (vs := [_]) rfl rfl rfl) rfl ?_
   refine ra_do (i := 6) rfl rfl (by kernel_rfl) ?_
   refine Zaz (caps := [.pointer (some ⟨b3, 0, none⟩), .pointer (some ⟨b4, 0, none⟩)]) (ρ' := [(0, _), (1, _), (2, _), (4, _), (6, _), (7, _)]) [1000, 1001, 1003] [] trivial rfl rfl rfl Tryz.c105 rfl rfl ⟨rfl, rfl, rfl, rfl, rfl, rfl, trivial⟩ rfl rfl rfl (FnO.mono (visI_fn b3 b4 (szI line) vl line A ai ci li u' (Nat.le_refl _) (by omega) hsm1.2.2.2.2.1 s3 hli) ?_)
   rintro v uI l1 hleI ⟨rfl, a6, c6, l6, rfl, h6⟩ -
   refine ⟨⟨fun _ h => h, fun _ h => h, fun _ h => h, trivial⟩, ?_⟩
   refine ra_end (by kernel_rfl) (ρ' := [(0, _), (1, _), (2, _), (4, _), (6, _), (7, _)]) ⟨rfl, rfl, rfl, rfl, rfl, rfl, trivial⟩ ?_
   refine Zb ?_
   have h1 := h1.mono hleI
   refine Zbu Tryz.mixed rfl [] trivial ?_
   refine ra_y (i := 1) rfl (by kernel_rfl) (by kernel_rfl) (by kernel_rfl) (Zg (Ze (Ze (Zg (Zaq))))) (Zbj rfl rfl) rfl ?_
   refine ra_y (i := 2) rfl (by kernel_rfl) (by kernel_rfl) (by kernel_rfl) (Zg (Ze (Ze (Zg (Zaq))))) (Zbj rfl rfl) rfl ?_
   refine ra_y (i := 3) rfl (by kernel_rfl) (by kernel_rfl) (by kernel_rfl) (Zg (Ze (Ze (Zg (Zaq))))) (Zai rfl Tryz.s23 rfl rfl (by assumption) (by first | rfl | omega) (by omega)) rfl ?_
   refine ra_y (i := 4) rfl (by kernel_rfl) (by kernel_rfl) (by kernel_rfl) (Zg (Ze (Ze (Zg (Zaq))))) (Zap rfl Tryz.f39' rfl (by decide) rfl) rfl ?_
   refine ra_y (i := 5) rfl (by kernel_rfl) (by kernel_rfl) (by kernel_rfl) (Zg (Ze (Ze (Zg (Zaq))))) (Zag rfl Tryz.k23 rfl (by assumption) (by omega) (by assumption) (vs := [_]) rfl rfl rfl rfl) rfl ?_
   refine ra_do (i := 0) rfl rfl (by kernel_rfl) ?_
   refine Zcf (Zj rfl Tryz.k136 rfl rfl rfl (vs := [_]) rfl rfl rfl) rfl ?_
   refine ra_do (i := 6) rfl rfl (by kernel_rfl) ?_
   refine Zaz (caps := [.pointer (some ⟨b4, 0, none⟩), .pointer (some ⟨b5, 0, none⟩)]) (ρ' := [(0, _), (1, _), (2, _), (6, _), (7, _)]) [1000, 1001, 1002, 1003] [] trivial rfl rfl rfl Tryz.c106 rfl rfl ⟨rfl, rfl, rfl, rfl, rfl, trivial⟩ rfl rfl rfl (FnO.mono (ih (szB kids) (by omega) vk kids (A ++ deep line) a6 c6 l6 uI (Nat.le_refl _) (by simp; omega) hsm1.2.2.2.2.2 (s4.mono hleI) h6) ?_)
   rintro v uK l1 hleK ⟨rfl, a7, c7, l7, rfl, h7⟩ -
   refine ⟨⟨fun _ h => h, fun _ h => h, fun _ h => h, fun _ h => h, trivial⟩, ?_⟩
   refine ra_end (by kernel_rfl) (ρ' := [(0, _), (1, _), (2, _), (6, _), (7, _)]) ⟨rfl, rfl, rfl, rfl, rfl, trivial⟩ ?_
   refine Zaf (Zb (Za (Zf (Zas rfl rfl rfl (Zu (by omega))) rfl ?_)))
   refine ym rfl rfl (Zd (ρ' := [(0, _), (1, _), (2, _), (6, _), (7, _)]) ⟨rfl, rfl, rfl, rfl, rfl, trivial⟩ ?_)
   refine Zae ?_
   refine ⟨m - 1, [(0, _), (1, _), (2, _), (6, _), (7, _)], [(1000, _), (1001, _), (1002, _), (1003, _)], by omega, ⟨rfl, rfl, rfl, rfl, rfl, trivial⟩, ⟨rfl, rfl, rfl, rfl, trivial⟩, i + 1, by omega, (hle1.trans (hleI.trans hleK)), a7, c7, l7, (by rw [hdt2]), (by first | rfl | simp), ?_⟩
   rw [hdt2]; exact h7
  ·
   refine Zat ?_
   refine Zp (Zp ?_)
   refine Zah ?_
   refine finO0n [1000, 1001, 1002, 1003]  rfl rfl ?_
   have hge := of_decide_eq_false hb1
   rw [List.take_of_length_le (by omega)] at hli ⊢
   exact ⟨rfl, _, _, _, rfl, hli⟩
theorem treeInlines_fn (v : Value) (bs : List Blk) (u : View) (hbig : szB bs ≤ 100000) (hsm : smB bs) (ha : BlkS u v bs) : FnP Tryz.prog 85 [v] u fun r u' => InlS u' r (inls (listB bs)) := by
 refine FnP.intro [.tmp 2] Tryz.func85 rfl rfl rfl ?_
 intro w0 D hw0
 refine Zc (Za (ya rfl rfl (Zd (ρ' := [(0, _)]) ⟨rfl, trivial⟩ ?_)))
 refine Zb (Zc (Za (Zq rfl rfl ?_)))
 refine Zax trivial Tryz.z37 rfl rfl rfl ?_
 refine Zd (ρ' := [(0, _), (3, _)]) ⟨rfl, rfl, trivial⟩ ?_
 refine Zb (Zc (Za (Zq rfl rfl ?_)))
 refine Zax trivial Tryz.z135 rfl rfl rfl ?_
 refine Zd (ρ' := [(0, _), (3, _), (4, _)]) ⟨rfl, rfl, rfl, trivial⟩ ?_
 refine Zb (Zc (Za ?_))
 refine rl_name 3 rfl ⟨3, _, .inl rfl⟩ ?_
 intro b3
 refine rl_name 4 rfl ⟨4, _, .inl rfl⟩ ?_
 intro b4
 refine Zf (y_makeFunc rfl rfl rfl) rfl ?_
 refine Zq rfl rfl ?_
 refine Zt trivial rfl Tryz.k135 rfl rfl rfl (vs := [_]) rfl rfl (by first | rfl | assumption | simp [Value.oneCell', str]) (Nat.le_of_ble_eq_true rfl) rfl ?_
 refine Zd (ρ' := [(0, _), (3, _), (4, _)]) ⟨rfl, rfl, rfl, trivial⟩ ?_
 refine Zb (Zc (Za (Zq rfl rfl ?_)))
 refine Zax trivial Tryz.z136 rfl rfl rfl ?_
 refine Zd (ρ' := [(0, _), (3, _), (4, _), (5, _)]) ⟨rfl, rfl, rfl, rfl, trivial⟩ ?_
 refine Zb (Zc (Za ?_))
 refine rl_name 5 rfl ⟨5, _, .inl rfl⟩ ?_
 intro b5
 refine Zf (y_makeFunc rfl rfl rfl) rfl ?_
 refine Zq rfl rfl ?_
 refine Zt trivial rfl Tryz.k136 rfl rfl rfl (vs := [_]) rfl rfl (by first | rfl | assumption | simp [Value.oneCell', str]) (Nat.le_of_ble_eq_true rfl) rfl ?_
 refine Zd (ρ' := [(0, _), (3, _), (5, _)]) ⟨rfl, rfl, rfl, trivial⟩ ?_
 refine Zb (Zc (Za (Zf (Zj rfl Tryz.k136 rfl rfl rfl (vs := [_]) rfl rfl rfl) rfl ?_)))
 refine ym rfl rfl ?_
 refine rl_nilW 600 45 10 rfl rfl ?_
 refine Zq rfl rfl ?_
 refine Zaz (caps := [.pointer (some ⟨b4, 0, none⟩), .pointer (some ⟨b5, 0, none⟩)]) (ρ' := [(3, _)]) [3, 4, 5, 600] [] trivial rfl rfl rfl Tryz.c106 rfl rfl ⟨rfl, trivial⟩ rfl rfl rfl (FnO.mono (visB_fn b3 b4 b5 (szB bs) v bs [] none 0 [] u (Nat.le_refl _) (by simp; omega) hsm ha InlsC.nil) ?_)
 rintro v u1 l1 hle1 ⟨rfl, a7, c7, l7, rfl, h7⟩ -
 refine ⟨⟨fun _ h => h, fun _ h => h, fun _ h => h, fun _ h => h, trivial⟩, ?_⟩
 refine Zd (ρ' := [(3, _)]) ⟨rfl, trivial⟩ ?_
 refine Zb (Zc (Za (Zf (Zj rfl Tryz.k37 rfl rfl rfl (vs := [_]) rfl rfl rfl) rfl ?_)))
 refine rl_freezeW 600 rfl ?_
 intro uF hleF hF
 refine ya rfl rfl (Zd (ρ' := [(2, _)]) ⟨rfl, trivial⟩ ?_)
 refine Zb (Zv ?_)
 refine Zav (.tmp rfl) ?_
 exact ⟨_, hF, h7.mono hleF⟩
end Go.Proofs.Ytoajhdnfdfbmaaa
namespace Go.Proofs.Ytoajhdnfdfbmaaa
open Go Go.Eng
set_option linter.unusedSimpArgs false
set_option linter.unusedVariables false
set_option maxRecDepth 4000
theorem aI_mem : ∀ (n : Nat) (xs : List Inl), szI xs ≤ n → smI xs → ∀ x ∈ deep xs, smI1 x ∧ sz1 x ≤ szI xs := by
 intro n
 induction n with
 | zero =>
  intro xs hn _ x hx
  cases xs with
  | nil => simp [deep] at hx
  | cons y ys => cases y; simp [szI, sz1] at hn
 | succ n ih =>
  intro xs hn hs x hx
  cases xs with
  | nil => simp [deep] at hx
  | cons y ys =>
   unfold smI at hs
   have h0 := hs.1
   obtain ⟨k, t, d, ti, a, args, cites, kids⟩ := y
   simp only [szI, sz1] at hn ⊢
   rw [deep, deep1, List.cons_append] at hx
   rcases List.mem_cons.1 hx with rfl | hx
   ·
    exact ⟨h0, by simp only [sz1]; omega⟩
   ·
    have h1 := h0
    unfold smI1 at h1
    rcases List.mem_append.1 hx with hx | hx
    ·
     obtain ⟨q1, q2⟩ := ih kids (by omega) h1.2 x hx
     exact ⟨q1, by omega⟩
    ·
     obtain ⟨q1, q2⟩ := ih ys (by omega) hs.2 x hx
     exact ⟨q1, by omega⟩
mutual
theorem aI1_tx : ∀ x : Inl, smI1 x → txI1 100000 x
 | .mk k t d ti a args cites kids, h => by
  unfold smI1 NodeSm at h
  unfold txI1
  exact ⟨by omega, by omega, by omega, aI_tx kids h.2⟩
theorem aI_tx : ∀ xs : List Inl, smI xs → txI 100000 xs
 | [], _ => by unfold txI; trivial
 | x :: xs, h => by
  unfold smI at h
  unfold txI
  exact ⟨aI1_tx x h.1, aI_tx xs h.2⟩
end
theorem aB_mem : ∀ (n : Nat) (bs : List Blk), szB bs ≤ n → smB bs → ∀ x ∈ listB bs, smB1 x ∧ szb x ≤ szB bs := by
 intro n
 induction n with
 | zero =>
  intro bs hn _ x hx
  cases bs with
  | nil => simp [listB] at hx
  | cons y ys => cases y; simp [szB, szb] at hn
 | succ n ih =>
  intro bs hn hs x hx
  cases bs with
  | nil => simp [listB] at hx
  | cons y ys =>
   unfold smB at hs
   have h0 := hs.1
   obtain ⟨k, lv, inf, t, d, ti, a, line, kids⟩ := y
   simp only [szB, szb] at hn ⊢
   rw [listB, listb, List.cons_append] at hx
   rcases List.mem_cons.1 hx with rfl | hx
   ·
    exact ⟨h0, by simp only [szb]; omega⟩
   ·
    have h1 := h0
    unfold smB1 at h1
    rcases List.mem_append.1 hx with hx | hx
    ·
     obtain ⟨q1, q2⟩ := ih kids (by omega) h1.2.2.2.2.2 x hx
     exact ⟨q1, by omega⟩
    ·
     obtain ⟨q1, q2⟩ := ih ys (by omega) hs.2 x hx
     exact ⟨q1, by omega⟩
theorem inls_ok {bs : List Blk} (hs : smB bs) {x : Inl} (hx : x ∈ inls (listB bs)) : smI1 x ∧ sz1 x ≤ szB bs := by
 unfold inls at hx
 obtain ⟨b, hb, hx⟩ := List.mem_flatMap.1 hx
 obtain ⟨h1, h2⟩ := aB_mem _ bs (Nat.le_refl _) hs b hb
 obtain ⟨k, lv, inf, t, d, ti, a, line, kids⟩ := b
 unfold smB1 at h1
 obtain ⟨q1, q2⟩ := aI_mem _ line (Nat.le_refl _) h1.2.2.2.2.1 x hx
 simp only [szb] at h2
 exact ⟨q1, by omega⟩
def CbT (f : FuncId) (p : Inl → Bool) : Prop := canCall Tryz.prog f = true ∧ ∀ u x cs, smI1 x → sz1 x ≤ 1000 → InlC u x cs → FnP Tryz.prog f [.agg cs.toArray] u fun r _ => r = .bool (p x)
def CbS (f : FuncId) (g : Inl → Bs) : Prop := canCall Tryz.prog f = true ∧ ∀ u x cs, smI1 x → sz1 x ≤ 1000 → InlC u x cs → FnP Tryz.prog f [.agg cs.toArray] u fun r _ => r = str (g x)
theorem silentCb : CbT 48 silent := ⟨Tryz.c48, fun u x cs hs hz hx => by
 obtain ⟨k, t, d, ti, a, args, cites, kids⟩ := x
 obtain ⟨h1, h2, _⟩ := txI_mk hs
 exact silent_fn _ cs u hz (aI_tx _ h1) (by show a.pairs.length ≤ _; omega) hx⟩
theorem muteCb : CbT 54 mute := ⟨Tryz.c54, fun u x cs hs hz hx => by
 obtain ⟨k, t, d, ti, a, args, cites, kids⟩ := x
 obtain ⟨h1, h2, _⟩ := txI_mk hs
 exact mute_fn _ cs u hz (aI_tx _ h1) hx⟩
theorem targetCb : CbS 49 targetX := ⟨Tryz.c49, fun u x cs hs hz hx => target_fn x cs u hx⟩
def foundL (p : Inl → Bool) (g : Inl → Bs) (xs : List Inl) : List Bs := (xs.filter p).map g
theorem foundL_take (p : Inl → Bool) (g : Inl → Bs) {xs : List Inl} {i : Nat} {x : Inl} (h : xs[i]? = some x) : foundL p g (xs.take (i + 1)) = foundL p g (xs.take i) ++ (if p x = true then [g x] else []) := by
 obtain ⟨hlt, rfl⟩ := List.getElem?_eq_some_iff.1 h
 unfold foundL
 rw [List.take_succ_eq_append_getElem hlt, List.filter_append, List.map_append]
 congr 1
 by_cases e : p xs[i] = true
 ·
  simp [e]
 ·
  simp [e]
theorem foundL_len (p : Inl → Bool) (g : Inl → Bs) (xs : List Inl) : (foundL p g xs).length ≤ xs.length := by
 unfold foundL
 rw [List.length_map]
 exact List.length_filter_le _ _
set_option maxHeartbeats 1000000 in
theorem accInl_fn (vm vb : Value) (bs : List Blk) (ft fg : FuncId) (p : Inl → Bool) (g : Inl → Bs) (hT : CbT ft p) (hG : CbS fg g) (u : View) (hbig : szB bs ≤ 1000) (hsm : smB bs) (ha : BlkS u vb bs) :
  FnP Tryz.prog 47 [.agg #[vm, vb], .func (.func ft) #[] #[], .func (.func fg) #[] #[]] u fun r u' => StrS u' r (foundL p g (inls (listB bs))) := by
 have hli := inls_len (listB bs)
 have hls := szL_listB bs
 obtain ⟨hcT, hT⟩ := hT
 obtain ⟨hcG, hG⟩ := hG
 refine FnP.intro [.tmp 6] Tryz.func47 rfl rfl rfl ?_
 intro w0 D hw0
 refine Zc (Za (Zq rfl rfl ?_))
 refine Zbl trivial rfl (cs := [_, _]) rfl rfl rfl rfl ?_
 refine ya rfl rfl (Zd (ρ' := [(1, _), (2, _), (3, _)]) ⟨rfl, rfl, rfl, trivial⟩ ?_)
 refine Zb (Zc (Za (ya rfl rfl ?_)))
 refine Zbz 7 507 9 1 rfl rfl rfl ?_
 refine Zd (ρ' := [(1, _), (2, _), (3, _), (7, _)]) ⟨rfl, rfl, rfl, rfl, trivial⟩ ?_
 refine Zb (Zc (Zc (Za (Zf (Zi rfl Tryz.f25' rfl (by decide) rfl) rfl ?_))))
 refine Zf (Zj rfl Tryz.k23 rfl rfl rfl (vs := [_]) rfl rfl rfl) rfl ?_
 refine Zq rfl rfl ?_
 refine Zbb (caps := []) trivial rfl rfl Tryz.c85 rfl (FnP.mono (treeInlines_fn vb bs u (by omega) hsm ha) ?_)
 rintro v uI hle0 ⟨ics, ⟨iad, icap, rfl, hi1⟩, hi2⟩ hleI
 refine Zf (Zal rfl rfl Tryz.s37 rfl) rfl ?_
 refine ym rfl rfl (Zd (ρ' := [(1, _), (2, _), (7, _), (12, _), (13, _), (14, _)]) ⟨rfl, rfl, rfl, rfl, rfl, rfl, trivial⟩ ?_)
 refine Zb (Zaa ?_)
 refine Zau (fun m ρ σ u' => ∃ i : Nat, i + m = (inls (listB bs)).length ∧ VLe uI u' ∧ σ = [(507, (none, .row 9 1 (foundL p g ((inls (listB bs)).take i)).length (strsC (foundL p g ((inls (listB bs)).take i)))))] ∧ ρ = [(1, .v (.func (.func ft) #[] #[])), (2, .v (.func (.func fg) #[] #[])), (7, .s 507), (12, .v (.slice iad (inls (listB bs)).length icap)), (13, .v (.int .i64 (inls (listB bs)).length)), (14, .v (.int .i64 i))] ∧ (uI = u')) ((inls (listB bs)).length) ?_ ?_
 ·
  refine ⟨[(1, _), (2, _), (7, _), (12, _), (13, _), (14, _)], [(507, _)], ⟨rfl, rfl, rfl, rfl, rfl, rfl, trivial⟩, ⟨rfl, trivial⟩, 0, by omega, VLe.refl _, rfl, rfl, ?_⟩
  rfl
 ·
  rintro m ρ σ u' ⟨i, hi3, hle3, rfl, rfl, rfl⟩
  refine Zc (Za (Zf (Zbh rfl rfl rfl) rfl ?_))
  refine Zd (ρ' := [(1, _), (2, _), (7, _), (12, _), (13, _), (14, _), (15, _)]) ⟨rfl, rfl, rfl, rfl, rfl, rfl, rfl, trivial⟩ ?_
  refine Zb (Zc ?_)
  refine Zn rfl (fun hb3 => ?_) (fun hb3 => ?_)
  ·
   have hlt : i < (inls (listB bs)).length := by have := of_decide_eq_true hb3; omega
   obtain ⟨k, t, d, ti, a, args, cites, kids, vc, vp, va, vt, vk, hg, hcut1, _⟩ := hi2.at hlt
   have hx := hi2.get i _ hg
   rw [hcut1] at hx
   have oneAll := hx.one
   obtain ⟨q1, q2⟩ := inls_ok hsm (List.mem_of_getElem? hg)
   have hft := foundL_take p g hg
   have hfl := foundL_len p g ((inls (listB bs)).take i)
   have htl : ((inls (listB bs)).take i).length ≤ i := by simp; omega
   generalize hz : Inl.mk k t d ti a args cites kids = z at *
   refine Zs (Zb (Zc (Zaa (Zc (Za (Zf (Zai rfl Tryz.s37 rfl rfl (by assumption) (by first | rfl | omega) (by omega)) rfl ?_))))))
   refine Zf (Zag rfl Tryz.k45 rfl (by assumption) (by omega) (by assumption) (vs := [_, _, _, _, _, _, _, _, _, _]) rfl rfl rfl rfl) rfl ?_
   refine Zq rfl rfl ?_
   refine Zax trivial Tryz.z45 rfl rfl rfl ?_
   refine Zq rfl rfl ?_
   refine Zt trivial rfl Tryz.k45 rfl rfl rfl (vs := [_, _, _, _, _, _, _, _, _, _]) rfl rfl (by first | rfl | assumption | simp [Value.oneCell', str]) (Nat.le_of_ble_eq_true rfl) rfl ?_
   refine Zd (ρ' := [(1, _), (2, _), (7, _), (9, _), (12, _), (13, _), (14, _)]) ⟨rfl, rfl, rfl, rfl, rfl, rfl, rfl, trivial⟩ ?_
   refine Zb (Zc (Za (ym rfl rfl (Zf (Zj rfl Tryz.k45 rfl rfl rfl (vs := [_, _, _, _, _, _, _, _, _, _]) rfl rfl rfl) rfl ?_))))
   refine Zq rfl rfl ?_
   refine Zw (caps := []) trivial rfl rfl hcT rfl (FnP.mono (hT uI z _ q1 (by omega) hx) ?_)
   rintro v u1 hle1 rfl
   refine Zd (ρ' := [(1, _), (2, _), (7, _), (9, _), (12, _), (13, _), (14, _), (20, _)]) ⟨rfl, rfl, rfl, rfl, rfl, rfl, rfl, rfl, trivial⟩ ?_
   refine Zb ?_
   refine Zn rfl (fun hb5 => ?_) (fun hb5 => ?_)
   ·
    have h5 : p z = true := (by simpa using hb5); rw [if_pos h5] at hft
    refine Za (ym rfl rfl (ym rfl rfl (Zf (Zj rfl Tryz.k45 rfl rfl rfl (vs := [_, _, _, _, _, _, _, _, _, _]) rfl rfl rfl) rfl ?_)))
    refine Zq rfl rfl ?_
    refine Zw (caps := []) trivial rfl rfl hcG rfl (FnP.mono (hG uI z _ q1 (by omega) hx) ?_)
    rintro v u1 hle1 rfl
    refine Zq rfl rfl ?_
    refine Zac trivial Tryz.s34 Tryz.z9 (ps := [(_, _)]) rfl (xs := [_]) rfl rfl rfl rfl rfl rfl rfl ?_
    refine Zq rfl rfl ?_
    refine Zbr trivial rfl rfl Tryz.s34 Tryz.z9 rfl rfl rfl rfl rfl rfl (by first | rfl | assumption | simp [Value.oneCell', str]) (by omega) (by omega) (ρ' := [(1, _), (2, _), (12, _), (13, _), (14, _)]) ⟨rfl, rfl, rfl, rfl, rfl, trivial⟩ rfl rfl rfl ?_
    refine ya rfl rfl ?_
    refine Zch 26 507 rfl rfl rfl ?_
    refine Zd (ρ' := [(1, _), (2, _), (7, _), (12, _), (13, _), (14, _)]) ⟨rfl, rfl, rfl, rfl, rfl, rfl, trivial⟩ ?_
    refine Zaf (Zb (Za (Zf (Zas rfl rfl rfl (Zu (by omega))) rfl ?_)))
    refine ym rfl rfl (Zd (ρ' := [(1, _), (2, _), (7, _), (12, _), (13, _), (14, _)]) ⟨rfl, rfl, rfl, rfl, rfl, rfl, trivial⟩ ?_)
    refine Zae ?_
    refine ⟨m - 1, [(1, _), (2, _), (7, _), (12, _), (13, _), (14, _)], [(507, _)], by omega, ⟨rfl, rfl, rfl, rfl, rfl, rfl, trivial⟩, ⟨rfl, trivial⟩, i + 1, by omega, hle3, (by first | (rw [hft, List.length_append]; simp [strsC]; done) | (rw [hft])), (by first | rfl | simp), ?_⟩
    rfl
   ·
    have h5 : ¬ p z = true := (by simpa using hb5); rw [if_neg h5, List.append_nil] at hft
    refine Zs (Zaf (Zb (Za (Zf (Zas rfl rfl rfl (Zu (by omega))) rfl ?_))))
    refine ym rfl rfl (Zd (ρ' := [(1, _), (2, _), (7, _), (12, _), (13, _), (14, _)]) ⟨rfl, rfl, rfl, rfl, rfl, rfl, trivial⟩ ?_)
    refine Zae ?_
    refine ⟨m - 1, [(1, _), (2, _), (7, _), (12, _), (13, _), (14, _)], [(507, _)], by omega, ⟨rfl, rfl, rfl, rfl, rfl, rfl, trivial⟩, ⟨rfl, trivial⟩, i + 1, by omega, hle3, (by first | (rw [hft, List.length_append]; simp [strsC]; done) | (rw [hft])), (by first | rfl | simp), ?_⟩
    rfl
  ·
   have hge := of_decide_eq_false hb3
   refine Zat ?_
   refine Zp (Zp ?_)
   refine Zah ?_
   refine Zb (Zc (Za (ym rfl rfl ?_)))
   refine Zbm 507 rfl ?_
   intro ad507 cap507 u507 hle507z hsl507
   refine ya rfl rfl (Zd (ρ' := [(6, _)]) ⟨rfl, trivial⟩ ?_)
   refine Zb (Zv ?_)
   refine Zav (.tmp rfl) ?_
   rw [List.take_of_length_le (by omega)] at hsl507
   exact ⟨_, _, by rw [List.take_of_length_le (by omega)], hsl507⟩
end Go.Proofs.Ytoajhdnfdfbmaaa
namespace Go.Proofs.Ytoajhdnfdfbmaaa
open Go Go.Eng
set_option linter.unusedSimpArgs false
set_option linter.unusedVariables false
set_option maxRecDepth 4000
def filled (b : Blk) : Bool := decide (trim (plain (lineOf b)) ≠ [])
theorem bare1_fn (x : Blk) (cs : List Value) (hs : smB1 x) (hz : szb x ≤ 1000) (u : View) (hx : BlkC u x cs) :
  FnP Tryz.prog 88 [.agg cs.toArray] u fun r _ => r = .bool (filled x) := by
 obtain ⟨k, lv, inf, t, d, ti, a, line, kids⟩ := x
 have oneAll := hx.one
 obtain ⟨vc, vp, vl, vk, rfl, q1, q2, q3, q4, hok⟩ := hx.cells
 unfold smB1 at hs
 simp only [szb] at hz
 refine FnP.intro [.tmp 2] Tryz.func88 rfl rfl rfl ?_
 intro w0 D hw0
 refine Zc (Za (Zq rfl rfl ?_))
 refine Zbl trivial rfl (cs := [_, _, _, _, _, _, _, _, _, _, _]) rfl rfl rfl rfl ?_
 refine ya rfl rfl (Zd (ρ' := [(1, _)]) ⟨rfl, trivial⟩ ?_)
 refine Zb (Zc (Za (Zf (Zi rfl Tryz.f39' rfl (by decide) rfl) rfl ?_)))
 refine Zf (Zj rfl Tryz.k37 rfl rfl rfl (vs := [_]) rfl rfl rfl) rfl ?_
 refine Zq rfl rfl ?_
 refine Zw (caps := []) trivial rfl rfl Tryz.c20 rfl (FnP.mono (trimmed_fn vl line (by omega) (aI_tx _ hs.2.2.2.2.1) u q3) ?_)
 rintro v u1 hle1 rfl
 refine Zf (Zbk rfl rfl rfl) rfl ?_
 refine ya rfl rfl (Zd (ρ' := [(2, _)]) ⟨rfl, trivial⟩ ?_)
 refine Zb (Zv ?_)
 refine Zav (.tmp rfl) ?_
 rfl
theorem indexB_fn (p : Blk → Bool) (v : Value) (bs : List Blk) (hl : bs.length ≤ 1000000) (f : FuncId) (hcF : canCall Tryz.prog f = true) (u : View) (hf : ∀ x ∈ bs, ∀ cs, BlkC u x cs → FnP Tryz.prog f [.agg cs.toArray] u fun r _ => r = .bool (p x)) (h1 : BlkS u v bs) :
  FnP Tryz.prog 107 [v, .func (.func f) #[] #[]] u fun r _ => ∃ z : Int, r = .int .i64 z ∧ (0 ≤ z ↔ bs.any p = true) := by
 obtain ⟨cs, ⟨ad, cap, rfl, h1⟩, hc1⟩ := h1
 refine FnP.intro [.tmp 4] Tryz.func107 rfl rfl rfl ?_
 intro w0 D hw0
 refine Zc (Za (ya rfl rfl (Zd (ρ' := [(0, _), (1, _)]) ⟨rfl, rfl, trivial⟩ ?_)))
 refine Zb (Zc (Zc (Za (ym rfl rfl (Zf (Zal rfl rfl Tryz.s23 rfl) rfl ?_)))))
 refine ym rfl rfl (Zd (ρ' := [(0, _), (1, _), (7, _), (8, _)]) ⟨rfl, rfl, rfl, rfl, trivial⟩ ?_)
 refine Zb (Zaa ?_)
 refine Zau (fun m ρ σ u' => ∃ i : Nat, i + m = bs.length ∧ VLe u u' ∧ σ = [] ∧ ρ = [(0, .v (.slice ad bs.length cap)), (1, .v (.func (.func f) #[] #[])), (7, .v (.int .i64 bs.length)), (8, .v (.int .i64 i))] ∧ (u = u' ∧ ∀ y ∈ bs.take i, p y = false)) (bs.length) ?_ ?_
 ·
  refine ⟨[(0, _), (1, _), (7, _), (8, _)], [], ⟨rfl, rfl, rfl, rfl, trivial⟩, trivial, 0, by omega, VLe.refl _, (by first | rfl | simp), (by first | rfl | (simp only [List.cons.injEq, Prod.mk.injEq, SV.v.injEq, Value.int.injEq, true_and, and_true]; omega) | simp), ?_⟩
  exact ⟨rfl, fun y hy => by simp at hy⟩
 ·
  rintro m ρ σ u' ⟨i, hi2, hle2, rfl, rfl, ⟨rfl, hinv⟩⟩
  refine Zc (Za (Zf (Zbh rfl rfl rfl) rfl ?_))
  refine Zd (ρ' := [(0, _), (1, _), (7, _), (8, _), (9, _)]) ⟨rfl, rfl, rfl, rfl, rfl, trivial⟩ ?_
  refine Zb (Zc ?_)
  refine Zn rfl (fun hb2 => ?_) (fun hb2 => ?_)
  ·
   have hlt : i < bs.length := by have := of_decide_eq_true hb2; omega
   obtain ⟨k, lv, inf, t, d, ti, a, line, kids, vc, vp, vl, vk, hg, hcut1, _⟩ := hc1.at hlt
   have hx := hc1.get i _ hg
   rw [hcut1] at hx
   have oneAll := hx.one
   generalize hz : Blk.mk k lv inf t d ti a line kids = z at *
   refine Zs (Zb (Zc (Zaa (Zc (Za (ym rfl rfl (ya rfl rfl (Zd (ρ' := [(0, _), (1, _), (5, _), (7, _), (8, _)]) ⟨rfl, rfl, rfl, rfl, rfl, trivial⟩ ?_))))))))
   refine Zb (Zc (Za (ym rfl rfl (ym rfl rfl (ym rfl rfl (Zf (Zai rfl Tryz.s23 rfl rfl (by assumption) (by first | rfl | omega) (by omega)) rfl ?_))))))
   refine Zf (Zag rfl Tryz.k39 rfl (by assumption) (by omega) (by assumption) (vs := [_, _, _, _, _, _, _, _, _, _, _]) rfl rfl rfl rfl) rfl ?_
   refine Zq rfl rfl ?_
   refine Zw (caps := []) trivial rfl rfl hcF rfl (FnP.mono (hf z (List.mem_of_getElem? hg) _ hx) ?_)
   rintro v u1 hle1 rfl
   refine Zd (ρ' := [(0, _), (1, _), (5, _), (7, _), (8, _), (16, _)]) ⟨rfl, rfl, rfl, rfl, rfl, rfl, trivial⟩ ?_
   refine Zb ?_
   refine Zn rfl (fun hb4 => ?_) (fun hb4 => ?_)
   ·
    refine Zc (Za (ym rfl rfl (ya rfl rfl (Zd (ρ' := [(4, _)]) ⟨rfl, trivial⟩ ?_))))
    refine Zb (Zv (Zr (Zh (Zh (Zr (Zh ?_))))))
    refine Zav (.tmp rfl) ?_
    exact ⟨_, rfl, ⟨fun _ => List.any_eq_true.2 ⟨z, List.mem_of_getElem? hg, hb4⟩, fun _ => by omega⟩⟩
   ·
    refine Zs (Zaf (Zb (Za (Zf (Zas rfl rfl rfl (Zu (by omega))) rfl ?_))))
    refine ym rfl rfl (Zd (ρ' := [(0, _), (1, _), (7, _), (8, _)]) ⟨rfl, rfl, rfl, rfl, trivial⟩ ?_)
    refine Zae ?_
    refine ⟨m - 1, [(0, _), (1, _), (7, _), (8, _)], [], by omega, ⟨rfl, rfl, rfl, rfl, trivial⟩, trivial, i + 1, by omega, hle2, (by first | rfl | simp), (by first | rfl | (simp only [List.cons.injEq, Prod.mk.injEq, SV.v.injEq, Value.int.injEq, true_and, and_true]; omega) | simp), ?_⟩
    refine ⟨rfl, fun y hy => ?_⟩; rcases mem_take_succ hg hy with hs | rfl; exact hinv y hs; exact hb4
  ·
   have hge := of_decide_eq_false hb2
   rw [List.take_of_length_le (by omega)] at hinv
   refine Zat ?_
   refine Zp (Zp ?_)
   refine Zah ?_
   refine Zb (Zc (Za (ya rfl rfl (Zd (ρ' := [(4, _)]) ⟨rfl, trivial⟩ ?_))))
   refine Zb (Zv ?_)
   refine Zav (.tmp rfl) ?_
   refine ⟨_, rfl, ⟨fun h => absurd h (by decide), fun h => ?_⟩⟩
   obtain ⟨y, hy, hp⟩ := List.any_eq_true.1 h
   rw [hinv y hy] at hp; cases hp
theorem contains_fn (p : Blk → Bool) (v : Value) (bs : List Blk) (hl : bs.length ≤ 1000000) (f : FuncId) (hcF : canCall Tryz.prog f = true) (u : View) (hf : ∀ x ∈ bs, ∀ cs, BlkC u x cs → FnP Tryz.prog f [.agg cs.toArray] u fun r _ => r = .bool (p x)) (h1 : BlkS u v bs) :
  FnP Tryz.prog 87 [v, .func (.func f) #[] #[]] u fun r _ => r = .bool (bs.any p) := by
 have h2 := h1
 obtain ⟨cs, ⟨ad, cap, rfl, _⟩, _⟩ := h2
 refine FnP.intro [.tmp 4] Tryz.func87 rfl rfl rfl ?_
 intro w0 D hw0
 refine Zc (Za (ya rfl rfl (Zd (ρ' := [(0, _), (1, _)]) ⟨rfl, rfl, trivial⟩ ?_)))
 refine Zb (Zc (Za (ym rfl rfl (ym rfl rfl (Zq rfl rfl ?_)))))
 refine Zw (caps := []) trivial rfl rfl Tryz.c107 rfl (FnP.mono (indexB_fn p _ bs hl f hcF u hf h1) ?_)
 rintro v u1 hle1 ⟨z, rfl, hz⟩
 refine Zf (Zbw rfl rfl rfl) rfl ?_
 refine ya rfl rfl (Zd (ρ' := [(4, _)]) ⟨rfl, trivial⟩ ?_)
 refine Zb (Zv ?_)
 refine Zav (.tmp rfl) ?_
 congr 1; cases h : bs.any p <;> simp_all
def bareX : Blk → Bool
 | .mk k _ _ _ _ _ _ _ kids => decide (k = 10) && (match kids with | [] => true | r :: _ => !((match r with | .mk _ _ _ _ _ _ _ _ ks => ks).any filled))
theorem bare_fn (x : Blk) (cs : List Value) (hs : smB1 x) (hz : szb x ≤ 1000) (u : View) (hx : BlkC u x cs) :
  FnP Tryz.prog 52 [.agg cs.toArray] u fun r _ => r = .bool (bareX x) := by
 obtain ⟨k, lv, inf, t, d, ti, a, line, kids⟩ := x
 have oneAll := hx.one
 obtain ⟨vc, vp, vl, vk, rfl, q1, q2, q3, q4, hok⟩ := hx.cells
 unfold smB1 at hs
 simp only [szb] at hz
 obtain ⟨kcs, ⟨kad, kcap, rfl, hk1⟩, hk2⟩ := q4
 refine FnP.intro [.tmp 2] Tryz.func52 rfl rfl rfl ?_
 intro w0 D hw0
 refine Zc (Za (Zq rfl rfl ?_))
 refine Zbl trivial rfl (cs := [_, _, _, _, _, _, _, _, _, _, _]) rfl rfl rfl rfl ?_
 refine ya rfl rfl (Zd (ρ' := [(1, _)]) ⟨rfl, trivial⟩ ?_)
 refine Zb (Zc (Zc (Za (Zf (Zi rfl Tryz.f39' rfl (by decide) rfl) rfl ?_))))
 refine Zf (Zj rfl Tryz.k3 rfl rfl rfl (vs := [_]) rfl rfl rfl) rfl ?_
 refine Zf (Zcc rfl rfl rfl) rfl ?_
 refine Zd (ρ' := [(1, _), (5, _)]) ⟨rfl, rfl, trivial⟩ ?_
 refine Zb ?_
 refine Zn rfl (fun hb1 => ?_) (fun hb1 => ?_)
 ·
  have h1 : ¬ k = 10 := of_decide_eq_true hb1
  refine Zc (Za (ya rfl rfl (Zd (ρ' := [(2, _)]) ⟨rfl, trivial⟩ ?_)))
  refine Zb (Zv (Zh ?_))
  refine Zav (.tmp rfl) ?_
  unfold bareX; simp [h1]
 ·
  have h1 : k = 10 := Decidable.of_not_not (of_decide_eq_false hb1)
  refine Zs (Zb (Zc (Za (Zf (Zi rfl Tryz.f39' rfl (by decide) rfl) rfl ?_))))
  refine Zf (Zj rfl Tryz.k23 rfl rfl rfl (vs := [_]) rfl rfl rfl) rfl ?_
  refine Zf (Zal rfl rfl Tryz.s23 rfl) rfl ?_
  refine Zf (Zay rfl rfl rfl) rfl ?_
  refine ym rfl rfl ?_
  rcases Bool.eq_false_or_eq_true (decide ((kids.length : Int) = 0)) with hg3_4 | hg3_4
  ·
   simp only [hg3_4]
   iterate 7 refine Zo rfl rfl rfl rfl ?_
   refine Zf (Zl rfl rfl rfl) rfl (ya rfl rfl (Zd (ρ' := [(2, _)]) ⟨rfl, trivial⟩ ?_))
   refine Zb (Zv ?_)
   refine Zav (.tmp rfl) ?_
   have hn : kids = [] := by
    have h := of_decide_eq_true hg3_4
    cases kids with
    | nil => rfl
    | cons a b => simp at h; omega
   rw [h1, hn]; rfl
  ·
   simp only [hg3_4]
   refine Zk rfl rfl (Zf (Zi rfl Tryz.f39' rfl (by decide) rfl) rfl ?_)
   have hlt : 0 < kids.length := by have := of_decide_eq_false hg3_4; omega
   obtain ⟨k2, lv2, inf2, t2, d2, ti2, a2, line2, kids2, vc2, vp2, vl2, vk2, hg, hcut2, w1, w2, w3, w4, hok2⟩ := hk2.at (i := 0) hlt
   have hb2 := smB_get hs.2.2.2.2.2 hg
   unfold smB1 at hb2
   have hkz := szB_kids hg
   have hkl := len_szB kids2
   have hkk : kids = .mk k2 lv2 inf2 t2 d2 ti2 a2 line2 kids2 :: kids.drop 1 := by
    obtain ⟨h0, he⟩ := List.getElem?_eq_some_iff.1 hg
    rw [← he, ← List.drop_eq_getElem_cons h0, List.drop_zero]
   refine Zk rfl rfl (Zf (Zj rfl Tryz.k23 rfl rfl rfl (vs := [_]) rfl rfl rfl) rfl ?_)
   refine Zk rfl rfl (Zf (Zai rfl Tryz.s23 rfl rfl hk1 (j := 0) rfl hlt) rfl ?_)
   refine Zk rfl rfl (Zf (Zap rfl Tryz.f39' rfl (by decide) rfl) rfl ?_)
   refine Zk rfl rfl (Zf (Zag rfl Tryz.k23 rfl (by assumption) (by omega) (by assumption) (vs := [_]) rfl rfl rfl rfl) rfl ?_)
   refine Zk rfl rfl (Zq rfl rfl ?_)
   refine Zw (caps := []) trivial rfl rfl Tryz.c87 rfl (FnP.mono (contains_fn filled vk2 kids2 (by omega) 88 Tryz.c88 u (fun x hx cs hc ↦ by
   obtain ⟨j, hj⟩ := List.mem_iff_getElem?.1 hx
   have h3 := szB_take_get hj
   exact bare1_fn x cs (smB_get hb2.2.2.2.2.2 hj) (by omega) u hc) w4) ?_)
   rintro v u1 hle1 rfl
   refine Zk rfl rfl (Zf (Zbs rfl rfl) rfl ?_)
   refine Zf (Zm rfl rfl rfl) rfl (ya rfl rfl (Zd (ρ' := [(2, _)]) ⟨rfl, trivial⟩ ?_))
   refine Zb (Zv ?_)
   refine Zav (.tmp rfl) ?_
   rw [h1, hkk]; rfl
theorem rule1_fn (vm vb : Value) (bs : List Blk) (u : View) (hbig : szB bs ≤ 1000) (hsm : smB bs) (ha : BlkS u vb bs) :
  FnP Tryz.prog 46 [.agg #[vm, vb]] u fun r u' => StrS u' r (foundL silent targetX (inls (listB bs))) := by
 refine FnP.intro [.tmp 2] Tryz.func46 rfl rfl rfl ?_
 intro w0 D hw0
 refine Zc (Za (Zq rfl rfl ?_))
 refine Zbl trivial rfl (cs := [_, _]) rfl rfl rfl rfl ?_
 refine ya rfl rfl (Zd (ρ' := [(1, _)]) ⟨rfl, trivial⟩ ?_)
 refine Zb (Zc (Za (Zf (Zj rfl Tryz.k25 rfl rfl rfl (vs := [_, _]) rfl rfl rfl) rfl ?_)))
 refine Zq rfl rfl ?_
 refine Zbb (caps := []) trivial rfl rfl Tryz.c47 rfl (FnP.mono (accInl_fn vm vb bs _ _ silent targetX silentCb targetCb u hbig hsm ha) ?_)
 rintro v uA hle0 hr hleA
 refine ya rfl rfl (Zd (ρ' := [(2, _)]) ⟨rfl, trivial⟩ ?_)
 refine Zb (Zv ?_)
 refine Zav (.tmp rfl) ?_
 exact hr
theorem rule3_fn (vm vb : Value) (bs : List Blk) (u : View) (hbig : szB bs ≤ 1000) (hsm : smB bs) (ha : BlkS u vb bs) :
  FnP Tryz.prog 53 [.agg #[vm, vb]] u fun r u' => StrS u' r (foundL mute targetX (inls (listB bs))) := by
 refine FnP.intro [.tmp 2] Tryz.func53 rfl rfl rfl ?_
 intro w0 D hw0
 refine Zc (Za (Zq rfl rfl ?_))
 refine Zbl trivial rfl (cs := [_, _]) rfl rfl rfl rfl ?_
 refine ya rfl rfl (Zd (ρ' := [(1, _)]) ⟨rfl, trivial⟩ ?_)
 refine Zb (Zc (Za (Zf (Zj rfl Tryz.k25 rfl rfl rfl (vs := [_, _]) rfl rfl rfl) rfl ?_)))
 refine Zq rfl rfl ?_
 refine Zbb (caps := []) trivial rfl rfl Tryz.c47 rfl (FnP.mono (accInl_fn vm vb bs _ _ mute targetX muteCb targetCb u hbig hsm ha) ?_)
 rintro v uA hle0 hr hleA
 refine ya rfl rfl (Zd (ρ' := [(2, _)]) ⟨rfl, trivial⟩ ?_)
 refine Zb (Zv ?_)
 refine Zav (.tmp rfl) ?_
 exact hr
theorem rule5_fn (ps : List (Bs × Bs)) (vm vb : Value) (hl : ps.length ≤ 1000000) (u : View) (h : PrS u vm ps) :
  FnP Tryz.prog 57 [.agg #[vm, vb]] u fun r u' => StrS u' r (if hasM langS ps = true then [] else [langS]) := by
 refine FnP.intro [.tmp 2] Tryz.func57 rfl rfl rfl ?_
 intro w0 D hw0
 refine Zc (Za (Zq rfl rfl ?_))
 refine Zbl trivial rfl (cs := [_, _]) rfl rfl rfl rfl ?_
 refine ya rfl rfl (Zd (ρ' := [(1, _)]) ⟨rfl, trivial⟩ ?_)
 refine Zb (Zc (Za (Zf (Zj rfl Tryz.k25 rfl rfl rfl (vs := [_, _]) rfl rfl rfl) rfl ?_)))
 refine Zq rfl rfl ?_
 refine Zbb (caps := []) trivial rfl rfl Tryz.c58 rfl (FnP.mono (key_fn langS ps vm vb hl u h) ?_)
 rintro v uA hle0 hr hleA
 refine ya rfl rfl (Zd (ρ' := [(2, _)]) ⟨rfl, trivial⟩ ?_)
 refine Zb (Zv ?_)
 refine Zav (.tmp rfl) ?_
 exact hr
theorem rule6_fn (ps : List (Bs × Bs)) (vm vb : Value) (hl : ps.length ≤ 1000000) (u : View) (h : PrS u vm ps) :
  FnP Tryz.prog 59 [.agg #[vm, vb]] u fun r u' => StrS u' r (if hasM titS ps = true then [] else [titS]) := by
 refine FnP.intro [.tmp 2] Tryz.func59 rfl rfl rfl ?_
 intro w0 D hw0
 refine Zc (Za (Zq rfl rfl ?_))
 refine Zbl trivial rfl (cs := [_, _]) rfl rfl rfl rfl ?_
 refine ya rfl rfl (Zd (ρ' := [(1, _)]) ⟨rfl, trivial⟩ ?_)
 refine Zb (Zc (Za (Zf (Zj rfl Tryz.k25 rfl rfl rfl (vs := [_, _]) rfl rfl rfl) rfl ?_)))
 refine Zq rfl rfl ?_
 refine Zbb (caps := []) trivial rfl rfl Tryz.c58 rfl (FnP.mono (key_fn titS ps vm vb hl u h) ?_)
 rintro v uA hle0 hr hleA
 refine ya rfl rfl (Zd (ρ' := [(2, _)]) ⟨rfl, trivial⟩ ?_)
 refine Zb (Zv ?_)
 refine Zav (.tmp rfl) ?_
 exact hr
end Go.Proofs.Ytoajhdnfdfbmaaa
namespace Go.Proofs.Ytoajhdnfdfbmaaa
open Go Go.Eng
set_option linter.unusedSimpArgs false
set_option linter.unusedVariables false
set_option maxRecDepth 4000
abbrev FgP := List Blk → (Nat → Prop) → (World → Prop) → Prop
def RoundsB (L : Nat) (u : View) (Y : FgP) : Prop :=
 ∀ pre H I, Y pre H I → ∀ u' x cs, VLe u u' → BlkC u' x cs → YldO Tryz.prog L [.agg cs.toArray] u' [(none, .fg H I)] fun r u'' l' => r = .bool true ∧ ∃ H' I', l' = [(none, .fg H' I')] ∧ Y (pre ++ [x]) H' I'
theorem RoundsB.mono {L : Nat} {u u' : View} {Y : FgP} (h : RoundsB L u Y) (hu : VLe u u') : RoundsB L u' Y := fun pre H I hY u2 x cs hv hc => h pre H I hY u2 x cs (hu.trans hv) hc
abbrev eachV (b2 b3 : Nat) : Value := .func (.func 75) #[] #[.pointer (some ⟨b2, 0, none⟩), .pointer (some ⟨b3, 0, none⟩)]
abbrev yldV (L : Nat) : Value := .func (.yield L) #[] #[]
def EachIt (u : View) (r : Value) (bs : List Blk) : Prop := ∃ b v T fr, r = .func (.func 74) #[] #[.pointer (some ⟨b, 0, none⟩)] ∧ u b = some (.cells #[v] T fr) ∧ BlkS u v bs
theorem each_fn (v : Value) (bs : List Blk) (u : View) (ha : BlkS u v bs) : FnP Tryz.prog 39 [v] u fun r u' => EachIt u' r bs := by
 have ha2 := ha
 obtain ⟨cs, ⟨ad, cap, rfl, h1⟩, hc1⟩ := ha2
 refine FnP.intro [.tmp 2] Tryz.func39 rfl rfl rfl ?_
 intro w0 D hw0
 refine Zc (Za (Zq rfl rfl ?_))
 refine Zbl trivial rfl (cs := [_]) rfl rfl rfl rfl ?_
 refine ya rfl rfl (Zd (ρ' := [(1, _)]) ⟨rfl, trivial⟩ ?_)
 refine Zb (Zc (Za ?_))
 refine rl_name 1 rfl ⟨1, _, .inl rfl⟩ ?_
 intro b1
 refine Zf (y_makeFunc rfl rfl rfl) rfl ?_
 refine rl_reveal 1 rfl ?_
 intro b T u1 hle1 hb1 hpin
 obtain rfl := hpin _ rfl
 refine ya rfl rfl (Zd (ρ' := [(2, _)]) ⟨rfl, trivial⟩ ?_)
 refine Zb (Zv ?_)
 refine Zav (.tmp rfl) ?_
 exact ⟨_, _, T, (0, 0), rfl, hb1, ha.mono hle1⟩
end Go.Proofs.Ytoajhdnfdfbmaaa
