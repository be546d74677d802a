/- Texts for a law, part 3: they walk the functions that the law reaches, and state what holds of them; without conditions beyond each theorem's own. -/
import Derived.Test.YthkgcakpjknlbaaDoorPartB
import Derived.Test.YthkgcakpjknlbaaDoorProg
namespace Go.Proofs
open Go Go.Eng
theorem Tryd.k2 : tyK Tryd.prog 2 = some (false, 1) := by kernel_rfl
theorem Tryd.z2 : tyZ Tryd.prog 2 = some [.int .i64 0] := by kernel_rfl
theorem Tryd.u2 : Tryd.prog.underlying 2 = some (.int .i64) := by kernel_rfl
theorem Tryd.k3 : tyK Tryd.prog 3 = some (false, 1) := by kernel_rfl
theorem Tryd.z3 : tyZ Tryd.prog 3 = some [.int .i64 0] := by kernel_rfl
theorem Tryd.u3 : Tryd.prog.underlying 3 = some (.int .i64) := by kernel_rfl
theorem Tryd.k4 : tyK Tryd.prog 4 = some (false, 1) := by kernel_rfl
theorem Tryd.z4 : tyZ Tryd.prog 4 = some [.bool false] := by kernel_rfl
theorem Tryd.b4 : Tryd.prog.underlying 4 = some .bool := by kernel_rfl
theorem Tryd.k5 : tyK Tryd.prog 5 = some (false, 1) := by kernel_rfl
theorem Tryd.z5 : tyZ Tryd.prog 5 = some [.int .u8 0] := by kernel_rfl
theorem Tryd.u5 : Tryd.prog.underlying 5 = some (.int .u8) := by kernel_rfl
theorem Tryd.k9 : tyK Tryd.prog 9 = some (false, 1) := by kernel_rfl
theorem Tryd.z9 : tyZ Tryd.prog 9 = some [str []] := by kernel_rfl
theorem Tryd.str9 : Tryd.prog.underlying 9 = some .string := by kernel_rfl
theorem Tryd.k22 : tyK Tryd.prog 22 = some (false, 1) := by kernel_rfl
theorem Tryd.z22 : tyZ Tryd.prog 22 = some [.slice none 0 0] := by kernel_rfl
theorem Tryd.s22 : tyS Tryd.prog 22 = some (48, 2, 32) := by kernel_rfl
theorem Tryd.k23 : tyK Tryd.prog 23 = some (false, 1) := by kernel_rfl
theorem Tryd.z23 : tyZ Tryd.prog 23 = some [.slice none 0 0] := by kernel_rfl
theorem Tryd.s23 : tyS Tryd.prog 23 = some (42, 11, 192) := by kernel_rfl
theorem Tryd.k25 : tyK Tryd.prog 25 = some (true, 2) := by kernel_rfl
theorem Tryd.z25 : tyZ Tryd.prog 25 = some [.slice none 0 0, .slice none 0 0] := by kernel_rfl
theorem Tryd.f25' : tyF Tryd.prog 25 = some [(0, 1), (1, 1)] := by kernel_rfl
theorem Tryd.k29 : tyK Tryd.prog 29 = some (false, 1) := by kernel_rfl
theorem Tryd.z29 : tyZ Tryd.prog 29 = some [.slice none 0 0] := by kernel_rfl
theorem Tryd.s29 : tyS Tryd.prog 29 = some (9, 1, 16) := by kernel_rfl
theorem Tryd.k31 : tyK Tryd.prog 31 = some (false, 1) := by kernel_rfl
theorem Tryd.z31 : tyZ Tryd.prog 31 = some [.int .i64 0] := by kernel_rfl
theorem Tryd.u31 : Tryd.prog.underlying 31 = some (.int .i64) := by kernel_rfl
theorem Tryd.k39 : tyK Tryd.prog 39 = some (true, 3) := by kernel_rfl
theorem Tryd.z39 : tyZ Tryd.prog 39 = some [str [], .slice none 0 0, .slice none 0 0] := by kernel_rfl
theorem Tryd.f39' : tyF Tryd.prog 39 = some [(0, 1), (1, 1), (2, 1)] := by kernel_rfl
theorem Tryd.k40 : tyK Tryd.prog 40 = some (false, 1) := by kernel_rfl
theorem Tryd.z40 : tyZ Tryd.prog 40 = some [.slice none 0 0] := by kernel_rfl
theorem Tryd.s40 : tyS Tryd.prog 40 = some (46, 10, 192) := by kernel_rfl
theorem Tryd.k42 : tyK Tryd.prog 42 = some (true, 11) := by kernel_rfl
theorem Tryd.z42 : tyZ Tryd.prog 42 = some [.int .i64 0, .int .i64 0, str [], str [], str [], str [], str [], .slice none 0 0, .slice none 0 0, .slice none 0 0, .slice none 0 0] := by kernel_rfl
theorem Tryd.f42' : tyF Tryd.prog 42 = some [(0, 1), (1, 1), (2, 1), (3, 1), (4, 1), (5, 1), (6, 3), (9, 1), (10, 1)] := by kernel_rfl
theorem Tryd.k44 : tyK Tryd.prog 44 = some (false, 1) := by kernel_rfl
theorem Tryd.z44 : tyZ Tryd.prog 44 = some [.slice none 0 0] := by kernel_rfl
theorem Tryd.s44 : tyS Tryd.prog 44 = some (86, 4, 56) := by kernel_rfl
theorem Tryd.k46 : tyK Tryd.prog 46 = some (true, 10) := by kernel_rfl
theorem Tryd.z46 : tyZ Tryd.prog 46 = some [.int .i64 0, str [], str [], str [], str [], .slice none 0 0, .slice none 0 0, .slice none 0 0, .slice none 0 0, .slice none 0 0] := by kernel_rfl
theorem Tryd.f46' : tyF Tryd.prog 46 = some [(0, 1), (1, 1), (2, 1), (3, 1), (4, 3), (7, 1), (8, 1), (9, 1)] := by kernel_rfl
theorem Tryd.k48 : tyK Tryd.prog 48 = some (true, 2) := by kernel_rfl
theorem Tryd.z48 : tyZ Tryd.prog 48 = some [str [], str []] := by kernel_rfl
theorem Tryd.f48' : tyF Tryd.prog 48 = some [(0, 1), (1, 1)] := by kernel_rfl
theorem Tryd.q48 : flatOf Tryd.prog 48 = some [(0, .s), (1, .s)] := by kernel_rfl
theorem Tryd.k52 : tyK Tryd.prog 52 = some (false, 1) := by kernel_rfl
theorem Tryd.z52 : tyZ Tryd.prog 52 = some [.nilFunc] := by kernel_rfl
theorem Tryd.k53 : tyK Tryd.prog 53 = some (false, 1) := by kernel_rfl
theorem Tryd.z53 : tyZ Tryd.prog 53 = some [.pointer none] := by kernel_rfl
theorem Tryd.k54 : tyK Tryd.prog 54 = some (false, 1) := by kernel_rfl
theorem Tryd.z54 : tyZ Tryd.prog 54 = some [.nilFunc] := by kernel_rfl
theorem Tryd.k55 : tyK Tryd.prog 55 = some (false, 1) := by kernel_rfl
theorem Tryd.z55 : tyZ Tryd.prog 55 = some [.pointer none] := by kernel_rfl
theorem Tryd.k56 : tyK Tryd.prog 56 = some (false, 1) := by kernel_rfl
theorem Tryd.z56 : tyZ Tryd.prog 56 = some [.nilFunc] := by kernel_rfl
theorem Tryd.k58 : tyK Tryd.prog 58 = some (true, 2) := by kernel_rfl
theorem Tryd.z58 : tyZ Tryd.prog 58 = some [.nilFunc, .nilFunc] := by kernel_rfl
theorem Tryd.f58' : tyF Tryd.prog 58 = some [(0, 1), (1, 1)] := by kernel_rfl
theorem Tryd.k59 : tyK Tryd.prog 59 = some (false, 1) := by kernel_rfl
theorem Tryd.z59 : tyZ Tryd.prog 59 = some [.nilFunc] := by kernel_rfl
theorem Tryd.k61 : tyK Tryd.prog 61 = some (false, 1) := by kernel_rfl
theorem Tryd.z61 : tyZ Tryd.prog 61 = some [.map none] := by kernel_rfl
theorem Tryd.m61 : Tryd.prog.underlying 61 = some (.map 9 4) := by kernel_rfl
theorem Tryd.v4 : tyV Tryd.prog 4 = some (.bool false) := by kernel_rfl
theorem Tryd.k63 : tyK Tryd.prog 63 = some (false, 1) := by kernel_rfl
theorem Tryd.z63 : tyZ Tryd.prog 63 = some [.map none] := by kernel_rfl
theorem Tryd.m63 : Tryd.prog.underlying 63 = some (.map 9 42) := by kernel_rfl
theorem Tryd.v42 : tyV Tryd.prog 42 = some (.agg #[.int .i64 0, .int .i64 0, str [], str [], str [], str [], str [], .slice none 0 0, .slice none 0 0, .slice none 0 0, .slice none 0 0]) := by kernel_rfl
theorem Tryd.k65 : tyK Tryd.prog 65 = some (false, 1) := by kernel_rfl
theorem Tryd.z65 : tyZ Tryd.prog 65 = some [.nilFunc] := by kernel_rfl
theorem Tryd.k66 : tyK Tryd.prog 66 = some (false, 1) := by kernel_rfl
theorem Tryd.z66 : tyZ Tryd.prog 66 = some [.nilFunc] := by kernel_rfl
theorem Tryd.k75 : tyK Tryd.prog 75 = some (false, 1) := by kernel_rfl
theorem Tryd.z75 : tyZ Tryd.prog 75 = some [.pointer none] := by kernel_rfl
theorem Tryd.k77 : tyK Tryd.prog 77 = some (false, 1) := by kernel_rfl
theorem Tryd.z77 : tyZ Tryd.prog 77 = some [.nilFunc] := by kernel_rfl
theorem Tryd.k78 : tyK Tryd.prog 78 = some (false, 1) := by kernel_rfl
theorem Tryd.z78 : tyZ Tryd.prog 78 = some [.nilFunc] := by kernel_rfl
theorem Tryd.k86 : tyK Tryd.prog 86 = some (true, 4) := by kernel_rfl
theorem Tryd.z86 : tyZ Tryd.prog 86 = some [str [], str [], str [], .bool false] := by kernel_rfl
theorem Tryd.f86' : tyF Tryd.prog 86 = some [(0, 1), (1, 1), (2, 1), (3, 1)] := by kernel_rfl
theorem Tryd.q86 : flatOf Tryd.prog 86 = some [(0, .s), (1, .s), (2, .s), (3, .b)] := by kernel_rfl
theorem Tryd.k87 : tyK Tryd.prog 87 = some (false, 1) := by kernel_rfl
theorem Tryd.z87 : tyZ Tryd.prog 87 = some [.map none] := by kernel_rfl
theorem Tryd.m87 : Tryd.prog.underlying 87 = some (.map 9 95) := by kernel_rfl
theorem Tryd.v95 : tyV Tryd.prog 95 = some (.agg #[str [], str [], str [], .slice none 0 0]) := by kernel_rfl
theorem Tryd.k88 : tyK Tryd.prog 88 = some (false, 1) := by kernel_rfl
theorem Tryd.z88 : tyZ Tryd.prog 88 = some [.map none] := by kernel_rfl
theorem Tryd.m88 : Tryd.prog.underlying 88 = some (.map 9 40) := by kernel_rfl
theorem Tryd.v40 : tyV Tryd.prog 40 = some (.slice none 0 0) := by kernel_rfl
theorem Tryd.k89 : tyK Tryd.prog 89 = some (false, 1) := by kernel_rfl
theorem Tryd.z89 : tyZ Tryd.prog 89 = some [.map none] := by kernel_rfl
theorem Tryd.m89 : Tryd.prog.underlying 89 = some (.map 9 9) := by kernel_rfl
theorem Tryd.v9 : tyV Tryd.prog 9 = some (str []) := by kernel_rfl
theorem Tryd.k91 : tyK Tryd.prog 91 = some (true, 5) := by kernel_rfl
theorem Tryd.z91 : tyZ Tryd.prog 91 = some [str [], .map none, .map none, .map none, .map none] := by kernel_rfl
theorem Tryd.f91' : tyF Tryd.prog 91 = some [(0, 1), (1, 1), (2, 1), (3, 1), (4, 1)] := by kernel_rfl
theorem Tryd.k92 : tyK Tryd.prog 92 = some (false, 1) := by kernel_rfl
theorem Tryd.z92 : tyZ Tryd.prog 92 = some [.slice none 0 0] := by kernel_rfl
theorem Tryd.s92 : tyS Tryd.prog 92 = some (95, 4, 72) := by kernel_rfl
theorem Tryd.k95 : tyK Tryd.prog 95 = some (true, 4) := by kernel_rfl
theorem Tryd.z95 : tyZ Tryd.prog 95 = some [str [], str [], str [], .slice none 0 0] := by kernel_rfl
theorem Tryd.f95' : tyF Tryd.prog 95 = some [(0, 1), (1, 1), (2, 1), (3, 1)] := by kernel_rfl
theorem Tryd.k98 : tyK Tryd.prog 98 = some (false, 1) := by kernel_rfl
theorem Tryd.z98 : tyZ Tryd.prog 98 = some [.nilFunc] := by kernel_rfl
theorem Tryd.k99 : tyK Tryd.prog 99 = some (false, 1) := by kernel_rfl
theorem Tryd.z99 : tyZ Tryd.prog 99 = some [.nilFunc] := by kernel_rfl
theorem Tryd.k102 : tyK Tryd.prog 102 = some (true, 6) := by kernel_rfl
theorem Tryd.z102 : tyZ Tryd.prog 102 = some [.int .i64 0, .int .i64 0, .int .i64 0, .int .i64 0, .int .i64 0, .int .i64 0] := by kernel_rfl
theorem Tryd.a102 : tyA Tryd.prog 102 = some (6, 3, 1) := by kernel_rfl
theorem Tryd.k103 : tyK Tryd.prog 103 = some (false, 1) := by kernel_rfl
theorem Tryd.z103 : tyZ Tryd.prog 103 = some [.map none] := by kernel_rfl
theorem Tryd.m103 : Tryd.prog.underlying 103 = some (.map 9 3) := by kernel_rfl
theorem Tryd.v3 : tyV Tryd.prog 3 = some (.int .i64 0) := by kernel_rfl
theorem Tryd.k105 : tyK Tryd.prog 105 = some (false, 1) := by kernel_rfl
theorem Tryd.z105 : tyZ Tryd.prog 105 = some [.nilFunc] := by kernel_rfl
theorem Tryd.k113 : tyK Tryd.prog 113 = some (true, 3) := by kernel_rfl
theorem Tryd.z113 : tyZ Tryd.prog 113 = some [str [], str [], str []] := by kernel_rfl
theorem Tryd.a113 : tyA Tryd.prog 113 = some (3, 9, 1) := by kernel_rfl
theorem Tryd.k114 : tyK Tryd.prog 114 = some (false, 1) := by kernel_rfl
theorem Tryd.z114 : tyZ Tryd.prog 114 = some [.pointer none] := by kernel_rfl
theorem Tryd.k115 : tyK Tryd.prog 115 = some (false, 1) := by kernel_rfl
theorem Tryd.z115 : tyZ Tryd.prog 115 = some [.slice none 0 0] := by kernel_rfl
theorem Tryd.s115 : tyS Tryd.prog 115 = some (5, 1, 1) := by kernel_rfl
theorem Tryd.k117 : tyK Tryd.prog 117 = some (true, 2) := by kernel_rfl
theorem Tryd.z117 : tyZ Tryd.prog 117 = some [.pointer none, .slice none 0 0] := by kernel_rfl
theorem Tryd.f117' : tyF Tryd.prog 117 = some [(0, 1), (1, 1)] := by kernel_rfl
theorem Tryd.k126 : tyK Tryd.prog 126 = some (false, 1) := by kernel_rfl
theorem Tryd.z126 : tyZ Tryd.prog 126 = some [.nilFunc] := by kernel_rfl
theorem Tryd.k130 : tyK Tryd.prog 130 = some (false, 1) := by kernel_rfl
theorem Tryd.z130 : tyZ Tryd.prog 130 = some [.pointer none] := by kernel_rfl
theorem Tryd.k131 : tyK Tryd.prog 131 = some (true, 24) := by kernel_rfl
theorem Tryd.z131 : tyZ Tryd.prog 131 = some [.int .u8 0, .int .u8 0, .int .u8 0, .int .u8 0, .int .u8 0, .int .u8 0, .int .u8 0, .int .u8 0, .int .u8 0, .int .u8 0, .int .u8 0, .int .u8 0, .int .u8 0, .int .u8 0, .int .u8 0, .int .u8 0, .int .u8 0, .int .u8 0, .int .u8 0, .int .u8 0, .int .u8 0, .int .u8 0, .int .u8 0, .int .u8 0] := by kernel_rfl
theorem Tryd.a131 : tyA Tryd.prog 131 = some (24, 5, 1) := by kernel_rfl
theorem Tryd.k132 : tyK Tryd.prog 132 = some (false, 1) := by kernel_rfl
theorem Tryd.z132 : tyZ Tryd.prog 132 = some [.int .u64 0] := by kernel_rfl
theorem Tryd.u132 : Tryd.prog.underlying 132 = some (.int .u64) := by kernel_rfl
theorem Tryd.k139 : tyK Tryd.prog 139 = some (true, 20) := by kernel_rfl
theorem Tryd.z139 : tyZ Tryd.prog 139 = some [.int .u64 0, .int .u64 0, .int .u64 0, .int .u64 0, .int .u64 0, .int .u64 0, .int .u64 0, .int .u64 0, .int .u64 0, .int .u64 0, .int .u64 0, .int .u64 0, .int .u64 0, .int .u64 0, .int .u64 0, .int .u64 0, .int .u64 0, .int .u64 0, .int .u64 0, .int .u64 0] := by kernel_rfl
theorem Tryd.a139 : tyA Tryd.prog 139 = some (20, 132, 1) := by kernel_rfl
theorem Tryd.k140 : tyK Tryd.prog 140 = some (false, 1) := by kernel_rfl
theorem Tryd.z140 : tyZ Tryd.prog 140 = some [.int .u32 0] := by kernel_rfl
theorem Tryd.u140 : Tryd.prog.underlying 140 = some (.int .u32) := by kernel_rfl
theorem Tryd.k141 : tyK Tryd.prog 141 = some (true, 65) := by kernel_rfl
theorem Tryd.z141 : tyZ Tryd.prog 141 = some [.int .u8 0, .int .u8 0, .int .u8 0, .int .u8 0, .int .u8 0, .int .u8 0, .int .u8 0, .int .u8 0, .int .u8 0, .int .u8 0, .int .u8 0, .int .u8 0, .int .u8 0, .int .u8 0, .int .u8 0, .int .u8 0, .int .u8 0, .int .u8 0, .int .u8 0, .int .u8 0, .int .u8 0, .int .u8 0, .int .u8 0, .int .u8 0, .int .u8 0, .int .u8 0, .int .u8 0, .int .u8 0, .int .u8 0, .int .u8 0, .int .u8 0, .int .u8 0, .int .u8 0, .int .u8 0, .int .u8 0, .int .u8 0, .int .u8 0, .int .u8 0, .int .u8 0, .int .u8 0, .int .u8 0, .int .u8 0, .int .u8 0, .int .u8 0, .int .u8 0, .int .u8 0, .int .u8 0, .int .u8 0, .int .u8 0, .int .u8 0, .int .u8 0, .int .u8 0, .int .u8 0, .int .u8 0, .int .u8 0, .int .u8 0, .int .u8 0, .int .u8 0, .int .u8 0, .int .u8 0, .int .u8 0, .int .u8 0, .int .u8 0, .int .u8 0, .int .u8 0] := by kernel_rfl
theorem Tryd.a141 : tyA Tryd.prog 141 = some (65, 5, 1) := by kernel_rfl
theorem Tryd.k143 : tyK Tryd.prog 143 = some (false, 1) := by kernel_rfl
theorem Tryd.z143 : tyZ Tryd.prog 143 = some [.int .u64 0] := by kernel_rfl
theorem Tryd.u143 : Tryd.prog.underlying 143 = some (.int .u64) := by kernel_rfl
theorem Tryd.k145 : tyK Tryd.prog 145 = some (false, 1) := by kernel_rfl
theorem Tryd.z145 : tyZ Tryd.prog 145 = some [.pointer none] := by kernel_rfl
theorem Tryd.k149 : tyK Tryd.prog 149 = some (true, 32) := by kernel_rfl
theorem Tryd.z149 : tyZ Tryd.prog 149 = some [.int .u8 0, .int .u8 0, .int .u8 0, .int .u8 0, .int .u8 0, .int .u8 0, .int .u8 0, .int .u8 0, .int .u8 0, .int .u8 0, .int .u8 0, .int .u8 0, .int .u8 0, .int .u8 0, .int .u8 0, .int .u8 0, .int .u8 0, .int .u8 0, .int .u8 0, .int .u8 0, .int .u8 0, .int .u8 0, .int .u8 0, .int .u8 0, .int .u8 0, .int .u8 0, .int .u8 0, .int .u8 0, .int .u8 0, .int .u8 0, .int .u8 0, .int .u8 0] := by kernel_rfl
theorem Tryd.a149 : tyA Tryd.prog 149 = some (32, 5, 1) := by kernel_rfl
theorem Tryd.k150 : tyK Tryd.prog 150 = some (true, 64) := by kernel_rfl
theorem Tryd.z150 : tyZ Tryd.prog 150 = some [.int .u8 0, .int .u8 0, .int .u8 0, .int .u8 0, .int .u8 0, .int .u8 0, .int .u8 0, .int .u8 0, .int .u8 0, .int .u8 0, .int .u8 0, .int .u8 0, .int .u8 0, .int .u8 0, .int .u8 0, .int .u8 0, .int .u8 0, .int .u8 0, .int .u8 0, .int .u8 0, .int .u8 0, .int .u8 0, .int .u8 0, .int .u8 0, .int .u8 0, .int .u8 0, .int .u8 0, .int .u8 0, .int .u8 0, .int .u8 0, .int .u8 0, .int .u8 0, .int .u8 0, .int .u8 0, .int .u8 0, .int .u8 0, .int .u8 0, .int .u8 0, .int .u8 0, .int .u8 0, .int .u8 0, .int .u8 0, .int .u8 0, .int .u8 0, .int .u8 0, .int .u8 0, .int .u8 0, .int .u8 0, .int .u8 0, .int .u8 0, .int .u8 0, .int .u8 0, .int .u8 0, .int .u8 0, .int .u8 0, .int .u8 0, .int .u8 0, .int .u8 0, .int .u8 0, .int .u8 0, .int .u8 0, .int .u8 0, .int .u8 0, .int .u8 0] := by kernel_rfl
theorem Tryd.a150 : tyA Tryd.prog 150 = some (64, 5, 1) := by kernel_rfl
theorem Tryd.c8 : canCall Tryd.prog 8 = true := by kernel_rfl
theorem Tryd.c9 : canCall Tryd.prog 9 = true := by kernel_rfl
theorem Tryd.c10 : canCall Tryd.prog 10 = true := by kernel_rfl
theorem Tryd.c11 : canCall Tryd.prog 11 = true := by kernel_rfl
theorem Tryd.c12 : canCall Tryd.prog 12 = true := by kernel_rfl
theorem Tryd.c13 : canCall Tryd.prog 13 = true := by kernel_rfl
theorem Tryd.c14 : canCall Tryd.prog 14 = true := by kernel_rfl
theorem Tryd.c15 : canCall Tryd.prog 15 = true := by kernel_rfl
theorem Tryd.c16 : canCall Tryd.prog 16 = true := by kernel_rfl
theorem Tryd.c17 : canCall Tryd.prog 17 = true := by kernel_rfl
theorem Tryd.c18 : canCall Tryd.prog 18 = true := by kernel_rfl
theorem Tryd.c19 : canCall Tryd.prog 19 = true := by kernel_rfl
theorem Tryd.c20 : canCall Tryd.prog 20 = true := by kernel_rfl
theorem Tryd.c21 : canCall Tryd.prog 21 = true := by kernel_rfl
theorem Tryd.c22 : canCall Tryd.prog 22 = true := by kernel_rfl
theorem Tryd.c23 : canCall Tryd.prog 23 = true := by kernel_rfl
theorem Tryd.c24 : canCall Tryd.prog 24 = true := by kernel_rfl
theorem Tryd.c25 : canCall Tryd.prog 25 = true := by kernel_rfl
theorem Tryd.c26 : canCall Tryd.prog 26 = true := by kernel_rfl
theorem Tryd.c27 : canCall Tryd.prog 27 = true := by kernel_rfl
theorem Tryd.c28 : canCall Tryd.prog 28 = true := by kernel_rfl
theorem Tryd.c29 : canCall Tryd.prog 29 = true := by kernel_rfl
theorem Tryd.c30 : canCall Tryd.prog 30 = true := by kernel_rfl
theorem Tryd.c31 : canCall Tryd.prog 31 = true := by kernel_rfl
theorem Tryd.c32 : canCall Tryd.prog 32 = true := by kernel_rfl
theorem Tryd.c33 : canCall Tryd.prog 33 = true := by kernel_rfl
theorem Tryd.c34 : canCall Tryd.prog 34 = true := by kernel_rfl
theorem Tryd.c35 : canCall Tryd.prog 35 = true := by kernel_rfl
theorem Tryd.c36 : canCall Tryd.prog 36 = true := by kernel_rfl
theorem Tryd.c37 : canCall Tryd.prog 37 = true := by kernel_rfl
theorem Tryd.c38 : canCall Tryd.prog 38 = true := by kernel_rfl
theorem Tryd.c39 : canCall Tryd.prog 39 = true := by kernel_rfl
theorem Tryd.c40 : canCall Tryd.prog 40 = true := by kernel_rfl
theorem Tryd.c41 : canCall Tryd.prog 41 = true := by kernel_rfl
theorem Tryd.c42 : canCall Tryd.prog 42 = true := by kernel_rfl
theorem Tryd.c43 : canCall Tryd.prog 43 = true := by kernel_rfl
theorem Tryd.c44 : canCall Tryd.prog 44 = true := by kernel_rfl
theorem Tryd.c45 : canCall Tryd.prog 45 = true := by kernel_rfl
theorem Tryd.c46 : canCall Tryd.prog 46 = true := by kernel_rfl
theorem Tryd.c47 : canCall Tryd.prog 47 = true := by kernel_rfl
theorem Tryd.c48 : canCall Tryd.prog 48 = true := by kernel_rfl
theorem Tryd.c49 : canCall Tryd.prog 49 = true := by kernel_rfl
theorem Tryd.c50 : canCall Tryd.prog 50 = true := by kernel_rfl
theorem Tryd.c51 : canCall Tryd.prog 51 = true := by kernel_rfl
theorem Tryd.c52 : canCall Tryd.prog 52 = true := by kernel_rfl
theorem Tryd.c53 : canCall Tryd.prog 53 = true := by kernel_rfl
theorem Tryd.c54 : canCall Tryd.prog 54 = true := by kernel_rfl
theorem Tryd.c55 : canCall Tryd.prog 55 = true := by kernel_rfl
theorem Tryd.c56 : canCall Tryd.prog 56 = true := by kernel_rfl
theorem Tryd.c57 : canCall Tryd.prog 57 = true := by kernel_rfl
theorem Tryd.c58 : canCall Tryd.prog 58 = true := by kernel_rfl
theorem Tryd.c59 : canCall Tryd.prog 59 = true := by kernel_rfl
theorem Tryd.c60 : canCall Tryd.prog 60 = true := by kernel_rfl
theorem Tryd.c61 : canCall Tryd.prog 61 = true := by kernel_rfl
theorem Tryd.c62 : canCall Tryd.prog 62 = true := by kernel_rfl
theorem Tryd.c63 : canCall Tryd.prog 63 = true := by kernel_rfl
theorem Tryd.c64 : canCall Tryd.prog 64 = true := by kernel_rfl
theorem Tryd.c65 : canCall Tryd.prog 65 = true := by kernel_rfl
theorem Tryd.c66 : canCall Tryd.prog 66 = true := by kernel_rfl
theorem Tryd.c67 : canCall Tryd.prog 67 = true := by kernel_rfl
theorem Tryd.c68 : canCall Tryd.prog 68 = true := by kernel_rfl
theorem Tryd.c69 : canCall Tryd.prog 69 = true := by kernel_rfl
theorem Tryd.c70 : canCall Tryd.prog 70 = true := by kernel_rfl
theorem Tryd.c71 : canCall Tryd.prog 71 = true := by kernel_rfl
theorem Tryd.c72 : canCall Tryd.prog 72 = true := by kernel_rfl
theorem Tryd.c73 : canCall Tryd.prog 73 = true := by kernel_rfl
theorem Tryd.c74 : canCall Tryd.prog 74 = true := by kernel_rfl
theorem Tryd.c75 : canCall Tryd.prog 75 = true := by kernel_rfl
theorem Tryd.c76 : canCall Tryd.prog 76 = true := by kernel_rfl
theorem Tryd.c77 : canCall Tryd.prog 77 = true := by kernel_rfl
theorem Tryd.c78 : canCall Tryd.prog 78 = true := by kernel_rfl
theorem Tryd.c79 : canCall Tryd.prog 79 = true := by kernel_rfl
theorem Tryd.c80 : canCall Tryd.prog 80 = true := by kernel_rfl
theorem Tryd.c81 : canCall Tryd.prog 81 = true := by kernel_rfl
theorem Tryd.c82 : canCall Tryd.prog 82 = true := by kernel_rfl
theorem Tryd.c83 : canCall Tryd.prog 83 = true := by kernel_rfl
theorem Tryd.c84 : canCall Tryd.prog 84 = true := by kernel_rfl
theorem Tryd.c85 : canCall Tryd.prog 85 = true := by kernel_rfl
theorem Tryd.c86 : canCall Tryd.prog 86 = true := by kernel_rfl
theorem Tryd.c87 : canCall Tryd.prog 87 = true := by kernel_rfl
theorem Tryd.c88 : canCall Tryd.prog 88 = true := by kernel_rfl
theorem Tryd.c89 : canCall Tryd.prog 89 = true := by kernel_rfl
theorem Tryd.c90 : canCall Tryd.prog 90 = true := by kernel_rfl
theorem Tryd.c91 : canCall Tryd.prog 91 = true := by kernel_rfl
theorem Tryd.c92 : canCall Tryd.prog 92 = true := by kernel_rfl
theorem Tryd.c93 : canCall Tryd.prog 93 = true := by kernel_rfl
theorem Tryd.c94 : canCall Tryd.prog 94 = true := by kernel_rfl
theorem Tryd.c95 : canCall Tryd.prog 95 = true := by kernel_rfl
theorem Tryd.c96 : canCall Tryd.prog 96 = true := by kernel_rfl
theorem Tryd.c97 : canCall Tryd.prog 97 = true := by kernel_rfl
theorem Tryd.c98 : canCall Tryd.prog 98 = true := by kernel_rfl
theorem Tryd.c99 : canCall Tryd.prog 99 = true := by kernel_rfl
theorem Tryd.c100 : canCall Tryd.prog 100 = true := by kernel_rfl
theorem Tryd.c101 : canCall Tryd.prog 101 = true := by kernel_rfl
theorem Tryd.c104 : canCall Tryd.prog 104 = true := by kernel_rfl
theorem Tryd.c105 : canCall Tryd.prog 105 = true := by kernel_rfl
theorem Tryd.mixed : Tryd.prog.follows .mixedOrders = true := by kernel_rfl
end Go.Proofs
namespace Go.Eng
open Go Go.RowKit
set_option linter.unusedSimpArgs false
set_option linter.unusedVariables false
structure DNum where
 id : Bs
 kind : Bs
 value : Bs
 line : List Inl
def NumC (u : View) (x : DNum) (cs : List Value) : Prop := ∃ vl, cs = [str x.id, str x.kind, str x.value, vl] ∧ InlS u vl x.line
def NumsC (u : View) : List DNum → List Value → Prop
  | [], cs => cs = []
  | x :: xs, cs => ∃ c r, cs = c ++ r ∧ NumC u x c ∧ NumsC u xs r
def NumS (u : View) (v : Value) (xs : List DNum) : Prop := ∃ cs, IsSl u v xs.length 4 cs ∧ NumsC u xs cs
theorem NumC.mono {u u' : View} {x : DNum} {cs : List Value} (h : NumC u x cs) (hu : VLe u u') : NumC u' x cs := let ⟨vl, h1, h2⟩ := h; ⟨vl, h1, h2.mono hu⟩
theorem NumsC.mono {u u' : View} (hu : VLe u u') : ∀ {xs : List DNum} {cs : List Value}, NumsC u xs cs → NumsC u' xs cs
  | [], cs, h => h
  | x :: xs, cs, h => let ⟨c, r, h1, h2, h3⟩ := h; ⟨c, r, h1, h2.mono hu, NumsC.mono hu h3⟩
theorem NumS.mono {u u' : View} {v : Value} {xs : List DNum} (h : NumS u v xs) (hu : VLe u u') : NumS u' v xs := let ⟨cs, h1, h2⟩ := h; ⟨cs, h1.mono hu, h2.mono hu⟩
theorem NumC.len {u : View} {x : DNum} {cs : List Value} (h : NumC u x cs) : cs.length = 4 := by obtain ⟨_, rfl, _⟩ := h; rfl
theorem NumsC.len {u : View} : ∀ {xs : List DNum} {cs : List Value}, NumsC u xs cs → cs.length = xs.length * 4
  | [], cs, h => by simp only [NumsC] at h; subst h; rfl
  | x :: xs, cs, h => by
    obtain ⟨c, r, rfl, h2, h3⟩ := h
    simp [h2.len, h3.len, Nat.add_mul]; omega
theorem NumsC.append {u : View} : ∀ {xs ys : List DNum} {cs ds : List Value}, NumsC u xs cs → NumsC u ys ds → NumsC u (xs ++ ys) (cs ++ ds)
  | [], ys, cs, ds, h, k => by simp only [NumsC] at h; subst h; simpa using k
  | x :: xs, ys, cs, ds, h, k => by
    obtain ⟨c, r, rfl, h2, h3⟩ := h
    exact ⟨c, r ++ ds, by simp, h2, h3.append k⟩
theorem NumsC.get {u : View} : ∀ {xs : List DNum} {cs : List Value} (i : Nat) (x : DNum), NumsC u xs cs → xs[i]? = some x → NumC u x (cut cs (i * 4) 4)
  | [], cs, i, x, _, hi => by simp at hi
  | y :: ys, cs, i, x, h, hi => by
    obtain ⟨c, r, rfl, h2, h3⟩ := h
    have hl := h2.len
    cases i with
    | zero =>
      simp at hi
      subst hi
      have : cut (c ++ r) (0 * 4) 4 = c := by unfold cut; simp [← hl]
      rw [this]; exact h2
    | succ i =>
      have ih := NumsC.get i x h3 (by simpa using hi)
      have : cut (c ++ r) ((i + 1) * 4) 4 = cut r (i * 4) 4 := by
        unfold cut
        rw [show (i + 1) * 4 = c.length + i * 4 by omega, List.drop_append, List.drop_eq_nil_of_le (by omega), List.nil_append, Nat.add_sub_cancel_left]
      rw [this]; exact ih
theorem NumsC.at {u : View} {xs : List DNum} {cs : List Value} (h : NumsC u xs cs) {i : Nat} (hi : i < xs.length) :
  ∃ x vl, xs[i]? = some x ∧ cut cs (i * 4) 4 = [str x.id, str x.kind, str x.value, vl] ∧ InlS u vl x.line := by
 obtain ⟨vl, h1, h2⟩ := h.get i _ (List.getElem?_eq_getElem hi)
 exact ⟨_, vl, List.getElem?_eq_getElem hi, h1, h2⟩
theorem NumC.one {u : View} {x : DNum} {cs : List Value} (h : NumC u x cs) : cs.all Value.oneCell' = true := by
 obtain ⟨vl, rfl, ⟨ks, h5, _⟩⟩ := h
 simp [IsSl.one h5]
 simp [str, Value.oneCell']
theorem NumsC.ones {u : View} : ∀ {xs : List DNum} {cs : List Value}, NumsC u xs cs → cs.all Value.oneCell' = true
  | [], cs, h => by simp only [NumsC] at h; subst h; rfl
  | x :: xs, cs, h => by
    obtain ⟨c, r, rfl, h2, h3⟩ := h
    rw [List.all_append, h2.one, h3.ones]; rfl
theorem NumsC.one {u : View} {x : DNum} {c : List Value} (h : NumC u x c) : NumsC u [x] c := ⟨c, [], by simp, h, rfl⟩
end Go.Eng
namespace Go.Proofs.Ythkgcakpjknlbaa
open Go Go.Eng
set_option linter.unusedSimpArgs false
set_option linter.unusedVariables false
set_option maxRecDepth 4000
theorem texts_same (va vb : Value) (xs : List Bs) (hx : xs.length ≤ 140737488351232) (u : View) (ha : StrS u va xs) (hb : StrS u vb xs) :
  FnP Tryd.prog 62 [va, vb] u fun v _ => v = .bool true := by
 obtain ⟨ad, cap, rfl, h1⟩ := ha
 obtain ⟨ad2, cap2, rfl, h2⟩ := hb
 refine FnP.intro [.tmp 4] Tryd.func62 rfl rfl rfl ?_
 intro w0 D hw0
 refine wc_seq ?_
 refine wc_region ?_
 refine rl_y (y_assign rfl rfl) rfl ?_
 refine rl_end (ρ' := [(0, _), (1, _)]) ⟨rfl, rfl, trivial⟩ ?_
 refine q_then ?_
 refine wc_seq ?_
 refine wc_seq ?_
 refine wc_region ?_
 refine rl_y (y_move rfl rfl) rfl ?_
 refine rl_y (y_len_v rfl rfl Tryd.s29 rfl) rfl ?_
 refine rl_y (y_move rfl rfl) rfl ?_
 refine rl_y (y_len_v rfl rfl Tryd.s29 rfl) rfl ?_
 refine rl_y (y_neq_refl rfl rfl rfl) rfl ?_
 refine rl_end (ρ' := [(0, _), (1, _), (10, _)]) ⟨rfl, rfl, rfl, trivial⟩ ?_
 refine q_then ?_
 refine wc_cond_f rfl (rfl) ?_
 refine wc_skip ?_
 refine q_then ?_
 refine wc_seq ?_
 refine wc_seq ?_
 refine wc_region ?_
 refine rl_y (y_assign rfl rfl) rfl ?_
 refine rl_end (ρ' := [(0, _), (1, _), (5, _)]) ⟨rfl, rfl, rfl, trivial⟩ ?_
 refine q_then ?_
 refine wc_block ?_
 refine wc_loop (fun m ρ σ u' => ∃ i : Nat, i + m = xs.length ∧ VLe u u' ∧ σ = [] ∧ ρ = [(0, .v (.slice ad xs.length cap)), (1, .v (.slice ad2 xs.length cap2)), (5, .v (.int .i64 i))] ∧ (u = u')) (xs.length) ?_ ?_
 ·
  refine ⟨[(0, _), (1, _), (5, _)], [], ⟨rfl, rfl, rfl, trivial⟩, trivial, 0, by omega, VLe.refl _, (by first | rfl | simp), (by first | rfl | (simp only [List.cons.injEq, Prod.mk.injEq, SV.v.injEq, Value.int.injEq, true_and, and_true]; omega) | simp), ?_⟩
  rfl
 ·
  rintro m ρ σ u' ⟨i, hi4, hle4, rfl, rfl, rfl⟩
  refine wc_seq ?_
  refine wc_seq ?_
  refine wc_region ?_
  refine rl_y (y_move rfl rfl) rfl ?_
  refine rl_y (y_move rfl rfl) rfl ?_
  refine rl_y (y_len_v rfl rfl Tryd.s29 rfl) rfl ?_
  refine rl_y (y_lss rfl rfl rfl) rfl ?_
  refine rl_end (ρ' := [(0, _), (1, _), (5, _), (14, _)]) ⟨rfl, rfl, rfl, rfl, trivial⟩ ?_
  refine q_then ?_
  refine wc_cond rfl (fun hb4 => ?_) (fun hb4 => ?_)
  ·
   refine wc_skip ?_
   refine q_then ?_
   refine wc_seq ?_
   refine wc_block ?_
   refine wc_seq ?_
   have hlt : i < xs.length := by have := of_decide_eq_true hb4; omega
   have hc := cut_strsC (List.getElem?_eq_getElem hlt)
   refine wc_draw Tryd.mixed rfl [] trivial ?_
   refine ra_y (i := 0) rfl (by kernel_rfl) (by kernel_rfl) (by kernel_rfl) (np_then (np_block (np_then (np_then (np_block (np_then (np_fin))))))) (y_move rfl rfl) rfl ?_
   refine ra_y (i := 1) rfl (by kernel_rfl) (by kernel_rfl) (by kernel_rfl) (np_then (np_block (np_then (np_then (np_block (np_then (np_fin))))))) (y_move rfl rfl) rfl ?_
   refine ra_y (i := 2) rfl (by kernel_rfl) (by kernel_rfl) (by kernel_rfl) (np_then (np_block (np_then (np_then (np_block (np_then (np_fin))))))) (y_index_e rfl Tryd.s29 rfl rfl (by assumption) (by first | rfl | omega) (by omega)) rfl ?_
   refine ra_y (i := 3) rfl (by kernel_rfl) (by kernel_rfl) (by kernel_rfl) (np_then (np_block (np_then (np_then (np_block (np_then (np_fin))))))) (y_load_el rfl Tryd.k9 rfl (by assumption) (by omega) (by assumption) (vs := [_]) rfl rfl rfl rfl) rfl ?_
   refine ra_y (i := 4) rfl (by kernel_rfl) (by kernel_rfl) (by kernel_rfl) (np_then (np_block (np_then (np_then (np_block (np_then (np_fin))))))) (y_move rfl rfl) rfl ?_
   refine ra_y (i := 5) rfl (by kernel_rfl) (by kernel_rfl) (by kernel_rfl) (np_then (np_block (np_then (np_then (np_block (np_then (np_fin))))))) (y_move rfl rfl) rfl ?_
   refine ra_y (i := 6) rfl (by kernel_rfl) (by kernel_rfl) (by kernel_rfl) (np_then (np_block (np_then (np_then (np_block (np_then (np_fin))))))) (y_index_e rfl Tryd.s29 rfl rfl (by assumption) (by first | rfl | omega) (by omega)) rfl ?_
   refine ra_y (i := 7) rfl (by kernel_rfl) (by kernel_rfl) (by kernel_rfl) (np_then (np_block (np_then (np_then (np_block (np_then (np_fin))))))) (y_load_el rfl Tryd.k9 rfl (by assumption) (by omega) (by assumption) (vs := [_]) rfl rfl rfl rfl) rfl ?_
   refine ra_y (i := 8) rfl (by kernel_rfl) (by kernel_rfl) (by kernel_rfl) (np_then (np_block (np_then (np_then (np_block (np_then (np_fin))))))) (y_str_neq_refl rfl rfl rfl) rfl ?_
   refine ra_end (by kernel_rfl) (ρ' := [(0, _), (1, _), (5, _), (25, _)]) ⟨rfl, rfl, rfl, rfl, trivial⟩ ?_
   refine q_then ?_
   refine wc_cond_f rfl (rfl) ?_
   refine wc_skip ?_
   refine q_block ?_
   refine q_then ?_
   refine wc_region ?_
   refine rl_y (y_move rfl rfl) rfl ?_
   refine rl_y (y_add rfl rfl rfl (wrap64_id (by omega))) rfl ?_
   refine rl_y (y_assign rfl rfl) rfl ?_
   refine rl_end (ρ' := [(0, _), (1, _), (5, _)]) ⟨rfl, rfl, rfl, trivial⟩ ?_
   refine q_thenK ?_
   refine ⟨m - 1, [(0, _), (1, _), (5, _)], [], by omega, ⟨rfl, rfl, rfl, trivial⟩, trivial, i + 1, by omega, hle4, (by first | rfl | simp), (by first | rfl | (simp only [List.cons.injEq, Prod.mk.injEq, SV.v.injEq, Value.int.injEq, true_and, and_true]; omega) | simp), ?_⟩
   rfl
  ·
   refine wc_exit ?_
   refine q_then_exit ?_
   refine q_then_exit ?_
   refine q_block_hit ?_
   refine q_then ?_
   refine wc_seq ?_
   refine wc_region ?_
   refine rl_y (y_assign rfl rfl) rfl ?_
   refine rl_end (ρ' := [(4, _)]) ⟨rfl, trivial⟩ ?_
   refine q_then ?_
   refine wc_ret ?_
   refine fin1 (.tmp rfl) ?_
   rfl
theorem pairs_same (va vb : Value) (xs : List (Bs × Bs)) (hx : xs.length ≤ 140737488351232) (u : View) (ha : PrS u va xs) (hb : PrS u vb xs) :
  FnP Tryd.prog 39 [va, vb] u fun v _ => v = .bool true := by
 obtain ⟨ad, cap, rfl, h1⟩ := ha
 obtain ⟨ad2, cap2, rfl, h2⟩ := hb
 refine FnP.intro [.tmp 4] Tryd.func39 rfl rfl rfl ?_
 intro w0 D hw0
 refine wc_seq ?_
 refine wc_region ?_
 refine rl_y (y_assign rfl rfl) rfl ?_
 refine rl_end (ρ' := [(0, _), (1, _)]) ⟨rfl, rfl, trivial⟩ ?_
 refine q_then ?_
 refine wc_seq ?_
 refine wc_seq ?_
 refine wc_region ?_
 refine rl_y (y_move rfl rfl) rfl ?_
 refine rl_y (y_len_v rfl rfl Tryd.s22 rfl) rfl ?_
 refine rl_y (y_move rfl rfl) rfl ?_
 refine rl_y (y_len_v rfl rfl Tryd.s22 rfl) rfl ?_
 refine rl_y (y_neq_refl rfl rfl rfl) rfl ?_
 refine rl_end (ρ' := [(0, _), (1, _), (10, _)]) ⟨rfl, rfl, rfl, trivial⟩ ?_
 refine q_then ?_
 refine wc_cond_f rfl (rfl) ?_
 refine wc_skip ?_
 refine q_then ?_
 refine wc_seq ?_
 refine wc_seq ?_
 refine wc_region ?_
 refine rl_y (y_assign rfl rfl) rfl ?_
 refine rl_end (ρ' := [(0, _), (1, _), (5, _)]) ⟨rfl, rfl, rfl, trivial⟩ ?_
 refine q_then ?_
 refine wc_block ?_
 refine wc_loop (fun m ρ σ u' => ∃ i : Nat, i + m = xs.length ∧ VLe u u' ∧ σ = [] ∧ ρ = [(0, .v (.slice ad xs.length cap)), (1, .v (.slice ad2 xs.length cap2)), (5, .v (.int .i64 i))] ∧ (u = u')) (xs.length) ?_ ?_
 ·
  refine ⟨[(0, _), (1, _), (5, _)], [], ⟨rfl, rfl, rfl, trivial⟩, trivial, 0, by omega, VLe.refl _, (by first | rfl | simp), (by first | rfl | (simp only [List.cons.injEq, Prod.mk.injEq, SV.v.injEq, Value.int.injEq, true_and, and_true]; omega) | simp), ?_⟩
  rfl
 ·
  rintro m ρ σ u' ⟨i, hi4, hle4, rfl, rfl, rfl⟩
  refine wc_seq ?_
  refine wc_seq ?_
  refine wc_region ?_
  refine rl_y (y_move rfl rfl) rfl ?_
  refine rl_y (y_move rfl rfl) rfl ?_
  refine rl_y (y_len_v rfl rfl Tryd.s22 rfl) rfl ?_
  refine rl_y (y_lss rfl rfl rfl) rfl ?_
  refine rl_end (ρ' := [(0, _), (1, _), (5, _), (14, _)]) ⟨rfl, rfl, rfl, rfl, trivial⟩ ?_
  refine q_then ?_
  refine wc_cond rfl (fun hb4 => ?_) (fun hb4 => ?_)
  ·
   refine wc_skip ?_
   refine q_then ?_
   refine wc_seq ?_
   refine wc_block ?_
   refine wc_seq ?_
   have hlt : i < xs.length := by have := of_decide_eq_true hb4; omega
   have hc := cut_pairsC (List.getElem?_eq_getElem hlt)
   refine wc_draw Tryd.mixed rfl [] trivial ?_
   refine ra_y (i := 0) rfl (by kernel_rfl) (by kernel_rfl) (by kernel_rfl) (np_then (np_block (np_then (np_then (np_block (np_then (np_fin))))))) (y_move rfl rfl) rfl ?_
   refine ra_y (i := 1) rfl (by kernel_rfl) (by kernel_rfl) (by kernel_rfl) (np_then (np_block (np_then (np_then (np_block (np_then (np_fin))))))) (y_move rfl rfl) rfl ?_
   refine ra_y (i := 2) rfl (by kernel_rfl) (by kernel_rfl) (by kernel_rfl) (np_then (np_block (np_then (np_then (np_block (np_then (np_fin))))))) (y_index_e rfl Tryd.s22 rfl rfl (by assumption) (by first | rfl | omega) (by omega)) rfl ?_
   refine ra_y (i := 3) rfl (by kernel_rfl) (by kernel_rfl) (by kernel_rfl) (np_then (np_block (np_then (np_then (np_block (np_then (np_fin))))))) (y_load_el rfl Tryd.k48 rfl (by assumption) (by omega) (by assumption) (vs := [_, _]) rfl rfl rfl rfl) rfl ?_
   refine ra_y (i := 4) rfl (by kernel_rfl) (by kernel_rfl) (by kernel_rfl) (np_then (np_block (np_then (np_then (np_block (np_then (np_fin))))))) (y_move rfl rfl) rfl ?_
   refine ra_y (i := 5) rfl (by kernel_rfl) (by kernel_rfl) (by kernel_rfl) (np_then (np_block (np_then (np_then (np_block (np_then (np_fin))))))) (y_move rfl rfl) rfl ?_
   refine ra_y (i := 6) rfl (by kernel_rfl) (by kernel_rfl) (by kernel_rfl) (np_then (np_block (np_then (np_then (np_block (np_then (np_fin))))))) (y_index_e rfl Tryd.s22 rfl rfl (by assumption) (by first | rfl | omega) (by omega)) rfl ?_
   refine ra_y (i := 7) rfl (by kernel_rfl) (by kernel_rfl) (by kernel_rfl) (np_then (np_block (np_then (np_then (np_block (np_then (np_fin))))))) (y_load_el rfl Tryd.k48 rfl (by assumption) (by omega) (by assumption) (vs := [_, _]) rfl rfl rfl rfl) rfl ?_
   refine ra_y (i := 8) rfl (by kernel_rfl) (by kernel_rfl) (by kernel_rfl) (np_then (np_block (np_then (np_then (np_block (np_then (np_fin))))))) (y_neq_flat_refl Tryd.q48 rfl rfl rfl rfl) rfl ?_
   refine ra_end (by kernel_rfl) (ρ' := [(0, _), (1, _), (5, _), (25, _)]) ⟨rfl, rfl, rfl, rfl, trivial⟩ ?_
   refine q_then ?_
   refine wc_cond_f rfl (rfl) ?_
   refine wc_skip ?_
   refine q_block ?_
   refine q_then ?_
   refine wc_region ?_
   refine rl_y (y_move rfl rfl) rfl ?_
   refine rl_y (y_add rfl rfl rfl (wrap64_id (by omega))) rfl ?_
   refine rl_y (y_assign rfl rfl) rfl ?_
   refine rl_end (ρ' := [(0, _), (1, _), (5, _)]) ⟨rfl, rfl, rfl, trivial⟩ ?_
   refine q_thenK ?_
   refine ⟨m - 1, [(0, _), (1, _), (5, _)], [], by omega, ⟨rfl, rfl, rfl, trivial⟩, trivial, i + 1, by omega, hle4, (by first | rfl | simp), (by first | rfl | (simp only [List.cons.injEq, Prod.mk.injEq, SV.v.injEq, Value.int.injEq, true_and, and_true]; omega) | simp), ?_⟩
   rfl
  ·
   refine wc_exit ?_
   refine q_then_exit ?_
   refine q_then_exit ?_
   refine q_block_hit ?_
   refine q_then ?_
   refine wc_seq ?_
   refine wc_region ?_
   refine rl_y (y_assign rfl rfl) rfl ?_
   refine rl_end (ρ' := [(4, _)]) ⟨rfl, trivial⟩ ?_
   refine q_then ?_
   refine wc_ret ?_
   refine fin1 (.tmp rfl) ?_
   rfl
theorem attrs_same (a : DAttr) (vc vp vc2 vp2 : Value) (h40 : a.classes.length ≤ 140737488351232) (hp40 : a.pairs.length ≤ 140737488351232) (u : View) (h1 : StrS u vc a.classes) (h2 : PrS u vp a.pairs) (h3 : StrS u vc2 a.classes) (h4 : PrS u vp2 a.pairs) :
  FnP Tryd.prog 54 [.agg #[str a.id, vc, vp], .agg #[str a.id, vc2, vp2]] u fun v _ => v = .bool true := by
 refine FnP.intro [.tmp 4] Tryd.func54 rfl rfl rfl ?_
 intro w0 D hw0
 refine wc_seq ?_
 refine wc_region ?_
 refine rl_do rfl rfl ?_
 refine do_box trivial rfl (cs := [_, _, _]) rfl rfl rfl rfl ?_
 refine rl_do rfl rfl ?_
 refine do_box trivial rfl (cs := [_, _, _]) rfl rfl rfl rfl ?_
 refine rl_y (y_assign rfl rfl) rfl ?_
 refine rl_end (ρ' := [(2, _), (3, _)]) ⟨rfl, rfl, trivial⟩ ?_
 refine q_then ?_
 refine wc_seq ?_
 refine wc_region ?_
 refine rl_y (y_field_p rfl Tryd.f39' rfl (by decide) rfl) rfl ?_
 refine rl_y (y_load_p rfl Tryd.k9 rfl rfl rfl (vs := [_]) rfl rfl rfl) rfl ?_
 refine rl_y (y_field_p rfl Tryd.f39' rfl (by decide) rfl) rfl ?_
 refine rl_y (y_load_p rfl Tryd.k9 rfl rfl rfl (vs := [_]) rfl rfl rfl) rfl ?_
 refine rl_y (y_str_eql_refl rfl rfl rfl) rfl ?_
 refine rl_y (y_move rfl rfl) rfl ?_
 refine rl_on rfl rfl ?_
 refine rl_y (y_field_p rfl Tryd.f39' rfl (by decide) rfl) rfl ?_
 refine rl_on rfl rfl ?_
 refine rl_y (y_load_p rfl Tryd.k29 rfl rfl rfl (vs := [_]) rfl rfl rfl) rfl ?_
 refine rl_on rfl rfl ?_
 refine rl_y (y_field_p rfl Tryd.f39' rfl (by decide) rfl) rfl ?_
 refine rl_on rfl rfl ?_
 refine rl_y (y_load_p rfl Tryd.k29 rfl rfl rfl (vs := [_]) rfl rfl rfl) rfl ?_
 refine rl_on rfl rfl ?_
 refine rl_do rfl rfl ?_
 refine do_call_f (caps := []) trivial rfl rfl Tryd.c62 rfl (FnP.mono (texts_same _ _ _ h40 u h1 h3) ?_)
 rintro v u1 hle1 rfl
 refine rl_y (y_pick_t rfl rfl rfl) rfl ?_
 refine rl_y (y_move rfl rfl) rfl ?_
 refine rl_on rfl rfl ?_
 refine rl_y (y_field_p rfl Tryd.f39' rfl (by decide) rfl) rfl ?_
 refine rl_on rfl rfl ?_
 refine rl_y (y_load_p rfl Tryd.k22 rfl rfl rfl (vs := [_]) rfl rfl rfl) rfl ?_
 refine rl_on rfl rfl ?_
 refine rl_y (y_field_p rfl Tryd.f39' rfl (by decide) rfl) rfl ?_
 refine rl_on rfl rfl ?_
 refine rl_y (y_load_p rfl Tryd.k22 rfl rfl rfl (vs := [_]) rfl rfl rfl) rfl ?_
 refine rl_on rfl rfl ?_
 refine rl_do rfl rfl ?_
 refine do_call_f (caps := []) trivial rfl rfl Tryd.c39 rfl (FnP.mono (pairs_same _ _ _ hp40 u h2 h4) ?_)
 rintro v u1 hle1 rfl
 refine rl_y (y_pick_t rfl rfl rfl) rfl ?_
 refine rl_y (y_assign rfl rfl) rfl ?_
 refine rl_end (ρ' := [(4, _)]) ⟨rfl, trivial⟩ ?_
 refine q_then ?_
 refine wc_ret ?_
 refine fin1 (.tmp rfl) ?_
 rfl
theorem sameLine_same (n : Nat) : ∀ (va vb : Value) (xs : List Inl), szI xs ≤ n → xs.length ≤ 140737488351232 → ∀ u : View, InlS u va xs → InlS u vb xs →
    FnP Tryd.prog 55 [va, vb] u fun v _ => v = .bool true := by
  induction n using Nat.strongRecOn with
  | _ n ih =>
  intro va vb xs hsz hx u ha hb
  obtain ⟨cs1, ⟨ad, cap, rfl, h1⟩, hc1⟩ := ha
  obtain ⟨cs2, ⟨ad2, cap2, rfl, h2⟩, hc2⟩ := hb
  refine FnP.intro [.tmp 4] Tryd.func55 rfl rfl rfl ?_
  intro w0 D hw0
  refine wc_seq ?_
  refine wc_region ?_
  refine rl_y (y_assign rfl rfl) rfl ?_
  refine rl_end (ρ' := [(0, _), (1, _)]) ⟨rfl, rfl, trivial⟩ ?_
  refine q_then ?_
  refine wc_seq ?_
  refine wc_seq ?_
  refine wc_region ?_
  refine rl_y (y_move rfl rfl) rfl ?_
  refine rl_y (y_len_v rfl rfl Tryd.s40 rfl) rfl ?_
  refine rl_y (y_move rfl rfl) rfl ?_
  refine rl_y (y_len_v rfl rfl Tryd.s40 rfl) rfl ?_
  refine rl_y (y_neq_refl rfl rfl rfl) rfl ?_
  refine rl_end (ρ' := [(0, _), (1, _), (13, _)]) ⟨rfl, rfl, rfl, trivial⟩ ?_
  refine q_then ?_
  refine wc_cond_f rfl (rfl) ?_
  refine wc_skip ?_
  refine q_then ?_
  refine wc_seq ?_
  refine wc_seq ?_
  refine wc_region ?_
  refine rl_y (y_assign rfl rfl) rfl ?_
  refine rl_end (ρ' := [(0, _), (1, _), (5, _)]) ⟨rfl, rfl, rfl, trivial⟩ ?_
  refine q_then ?_
  refine wc_block ?_
  refine wc_loop (fun m ρ σ u' => ∃ i : Nat, i + m = xs.length ∧ VLe u u' ∧ σ = [] ∧ ρ = [(0, .v (.slice ad xs.length cap)), (1, .v (.slice ad2 xs.length cap2)), (5, .v (.int .i64 i))] ∧ (u = u')) (xs.length) ?_ ?_
  ·
    refine ⟨[(0, _), (1, _), (5, _)], [], ⟨rfl, rfl, rfl, trivial⟩, trivial, 0, by omega, VLe.refl _, (by first | rfl | simp), (by first | rfl | (simp only [List.cons.injEq, Prod.mk.injEq, SV.v.injEq, Value.int.injEq, true_and, and_true]; omega) | simp), ?_⟩
    rfl
  ·
    rintro m ρ σ u' ⟨i, hi4, hle4, rfl, rfl, rfl⟩
    refine wc_seq ?_
    refine wc_seq ?_
    refine wc_region ?_
    refine rl_y (y_move rfl rfl) rfl ?_
    refine rl_y (y_move rfl rfl) rfl ?_
    refine rl_y (y_len_v rfl rfl Tryd.s40 rfl) rfl ?_
    refine rl_y (y_lss rfl rfl rfl) rfl ?_
    refine rl_end (ρ' := [(0, _), (1, _), (5, _), (17, _)]) ⟨rfl, rfl, rfl, rfl, trivial⟩ ?_
    refine q_then ?_
    refine wc_cond rfl (fun hb4 => ?_) (fun hb4 => ?_)
    ·
      refine wc_skip ?_
      refine q_then ?_
      refine wc_seq ?_
      refine wc_block ?_
      refine wc_seq ?_
      have hlt : i < xs.length := by have := of_decide_eq_true hb4; omega
      obtain ⟨k, t, d, ti, a, args, cites, kids, vc, vp, va, vt, vk, hg, hcut1, s1, s2, s3, s4, s5, hok⟩ := hc1.at hlt
      obtain ⟨vc', vp', va', vt', vk', hcut2, s1', s2', s3', s4', s5', _⟩ := (hc2.get i _ hg).cells
      obtain ⟨_, _, _, _, ⟨_, ⟨okc, _⟩, ⟨okp, _⟩⟩, ⟨oka, _⟩, ⟨okt, _⟩, okk⟩ := hok
      have oneAll := (hc1.get i _ hg).one
      rw [hcut1] at oneAll
      have oneAll2 := (hc2.get i _ hg).one
      rw [hcut2] at oneAll2
      have hkid := szI_kids hg
      obtain ⟨adt, capt, rfl, h4⟩ := s4
      obtain ⟨adt', capt', rfl, h4'⟩ := s4'
      refine wc_cutS [(6, .p 6 0), (7, .p 7 0)] [(6, (none, .box (inlV k t d ti a.id vc vp va (.slice adt cites.length capt) vk))), (7, (none, .box (inlV k t d ti a.id vc' vp' va' (.slice adt' cites.length capt') vk')))] (ρa := [(0, _), (1, _), (5, _)]) (σa := []) ⟨rfl, rfl, rfl, trivial⟩ trivial ?_ ?_
      ·
        refine wc_draw Tryd.mixed rfl [] trivial ?_
        refine ra_y (i := 0) rfl (by kernel_rfl) (by kernel_rfl) (by kernel_rfl) (np_cutS) (y_move rfl rfl) rfl ?_
        refine ra_y (i := 1) rfl (by kernel_rfl) (by kernel_rfl) (by kernel_rfl) (np_cutS) (y_move rfl rfl) rfl ?_
        refine ra_y (i := 2) rfl (by kernel_rfl) (by kernel_rfl) (by kernel_rfl) (np_cutS) (y_index_e rfl Tryd.s40 rfl rfl (by assumption) (by first | rfl | omega) (by omega)) rfl ?_
        refine ra_y (i := 3) rfl (by kernel_rfl) (by kernel_rfl) (by kernel_rfl) (np_cutS) (y_load_el rfl Tryd.k46 rfl (by assumption) (by omega) (by assumption) (vs := [_, _, _, _, _, _, _, _, _, _]) rfl rfl rfl rfl) rfl ?_
        refine ra_y (i := 4) rfl (by kernel_rfl) (by kernel_rfl) (by kernel_rfl) (np_cutS) (y_move rfl rfl) rfl ?_
        refine ra_y (i := 5) rfl (by kernel_rfl) (by kernel_rfl) (by kernel_rfl) (np_cutS) (y_move rfl rfl) rfl ?_
        refine ra_y (i := 6) rfl (by kernel_rfl) (by kernel_rfl) (by kernel_rfl) (np_cutS) (y_index_e rfl Tryd.s40 rfl rfl (by assumption) (by first | rfl | omega) (by omega)) rfl ?_
        refine ra_y (i := 7) rfl (by kernel_rfl) (by kernel_rfl) (by kernel_rfl) (np_cutS) (y_load_el rfl Tryd.k46 rfl (by assumption) (by omega) (by assumption) (vs := [_, _, _, _, _, _, _, _, _, _]) rfl rfl rfl rfl) rfl ?_
        refine ra_all (is := [8, 9]) (by kernel_rfl) rfl ?_
        refine raall_cons rfl rfl ?_ ?_
        ·
          refine do_alloc trivial Tryd.z46 rfl rfl rfl ?_
          refine ra_do (i := 9) rfl rfl (by kernel_rfl) ?_
          refine do_alloc trivial Tryd.z46 rfl rfl rfl ?_
          refine ra_do (i := 10) rfl rfl (by kernel_rfl) ?_
          refine do_store_p trivial rfl Tryd.k46 rfl rfl rfl (vs := [_, _, _, _, _, _, _, _, _, _]) rfl rfl (by first | rfl | exact oneAll | exact oneAll2 | simp [Value.oneCell', str]) (Nat.le_of_ble_eq_true rfl) rfl ?_
          refine ra_do (i := 11) rfl rfl (by kernel_rfl) ?_
          refine do_store_p trivial rfl Tryd.k46 rfl rfl rfl (vs := [_, _, _, _, _, _, _, _, _, _]) rfl rfl (by first | rfl | exact oneAll | exact oneAll2 | simp [Value.oneCell', str]) (Nat.le_of_ble_eq_true rfl) rfl ?_
          exact cutS_endA (by kernel_rfl) ⟨rfl, rfl, rfl, rfl, rfl, trivial⟩ ⟨rfl, rfl, trivial⟩
        refine raall_cons rfl rfl ?_ ?_
        ·
          refine do_alloc trivial Tryd.z46 rfl rfl rfl ?_
          refine ra_do (i := 8) rfl rfl (by kernel_rfl) ?_
          refine do_alloc trivial Tryd.z46 rfl rfl rfl ?_
          refine ra_do (i := 10) rfl rfl (by kernel_rfl) ?_
          refine do_store_p trivial rfl Tryd.k46 rfl rfl rfl (vs := [_, _, _, _, _, _, _, _, _, _]) rfl rfl (by first | rfl | exact oneAll | exact oneAll2 | simp [Value.oneCell', str]) (Nat.le_of_ble_eq_true rfl) rfl ?_
          refine ra_do (i := 11) rfl rfl (by kernel_rfl) ?_
          refine do_store_p trivial rfl Tryd.k46 rfl rfl rfl (vs := [_, _, _, _, _, _, _, _, _, _]) rfl rfl (by first | rfl | exact oneAll | exact oneAll2 | simp [Value.oneCell', str]) (Nat.le_of_ble_eq_true rfl) rfl ?_
          exact cutS_endA (by kernel_rfl) ⟨rfl, rfl, rfl, rfl, rfl, trivial⟩ ⟨rfl, rfl, trivial⟩
        exact raall_nil
      refine q_then ?_
      refine wc_seq ?_
      refine wc_seq ?_
      refine wc_region ?_
      refine rl_y (y_field_p rfl Tryd.f46' rfl (by decide) rfl) rfl ?_
      refine rl_y (y_load_p rfl Tryd.k3 rfl rfl rfl (vs := [_]) rfl rfl rfl) rfl ?_
      refine rl_y (y_field_p rfl Tryd.f46' rfl (by decide) rfl) rfl ?_
      refine rl_y (y_load_p rfl Tryd.k3 rfl rfl rfl (vs := [_]) rfl rfl rfl) rfl ?_
      refine rl_y (y_neq_refl rfl rfl rfl) rfl ?_
      refine rl_y (y_move rfl rfl) rfl ?_
      refine rl_on rfl rfl ?_
      refine rl_y (y_field_p rfl Tryd.f46' rfl (by decide) rfl) rfl ?_
      refine rl_on rfl rfl ?_
      refine rl_y (y_load_p rfl Tryd.k9 rfl rfl rfl (vs := [_]) rfl rfl rfl) rfl ?_
      refine rl_on rfl rfl ?_
      refine rl_y (y_field_p rfl Tryd.f46' rfl (by decide) rfl) rfl ?_
      refine rl_on rfl rfl ?_
      refine rl_y (y_load_p rfl Tryd.k9 rfl rfl rfl (vs := [_]) rfl rfl rfl) rfl ?_
      refine rl_on rfl rfl ?_
      refine rl_y (y_str_neq_refl rfl rfl rfl) rfl ?_
      refine rl_y (y_pick_f rfl rfl rfl) rfl ?_
      refine rl_y (y_move rfl rfl) rfl ?_
      refine rl_on rfl rfl ?_
      refine rl_y (y_field_p rfl Tryd.f46' rfl (by decide) rfl) rfl ?_
      refine rl_on rfl rfl ?_
      refine rl_y (y_load_p rfl Tryd.k9 rfl rfl rfl (vs := [_]) rfl rfl rfl) rfl ?_
      refine rl_on rfl rfl ?_
      refine rl_y (y_field_p rfl Tryd.f46' rfl (by decide) rfl) rfl ?_
      refine rl_on rfl rfl ?_
      refine rl_y (y_load_p rfl Tryd.k9 rfl rfl rfl (vs := [_]) rfl rfl rfl) rfl ?_
      refine rl_on rfl rfl ?_
      refine rl_y (y_str_neq_refl rfl rfl rfl) rfl ?_
      refine rl_y (y_pick_f rfl rfl rfl) rfl ?_
      refine rl_y (y_move rfl rfl) rfl ?_
      refine rl_on rfl rfl ?_
      refine rl_y (y_field_p rfl Tryd.f46' rfl (by decide) rfl) rfl ?_
      refine rl_on rfl rfl ?_
      refine rl_y (y_load_p rfl Tryd.k9 rfl rfl rfl (vs := [_]) rfl rfl rfl) rfl ?_
      refine rl_on rfl rfl ?_
      refine rl_y (y_field_p rfl Tryd.f46' rfl (by decide) rfl) rfl ?_
      refine rl_on rfl rfl ?_
      refine rl_y (y_load_p rfl Tryd.k9 rfl rfl rfl (vs := [_]) rfl rfl rfl) rfl ?_
      refine rl_on rfl rfl ?_
      refine rl_y (y_str_neq_refl rfl rfl rfl) rfl ?_
      refine rl_y (y_pick_f rfl rfl rfl) rfl ?_
      refine rl_y (y_move rfl rfl) rfl ?_
      refine rl_on rfl rfl ?_
      refine rl_y (y_field_p rfl Tryd.f46' rfl (by decide) rfl) rfl ?_
      refine rl_on rfl rfl ?_
      refine rl_y (y_load_p rfl Tryd.k39 rfl rfl rfl (vs := [_, _, _]) rfl rfl rfl) rfl ?_
      refine rl_on rfl rfl ?_
      refine rl_y (y_field_p rfl Tryd.f46' rfl (by decide) rfl) rfl ?_
      refine rl_on rfl rfl ?_
      refine rl_y (y_load_p rfl Tryd.k39 rfl rfl rfl (vs := [_, _, _]) rfl rfl rfl) rfl ?_
      refine rl_on rfl rfl ?_
      refine rl_do rfl rfl ?_
      refine do_call_f (caps := []) trivial rfl rfl Tryd.c54 rfl (FnP.mono (attrs_same a _ _ _ _ okc okp u s1 s2 s1' s2') ?_)
      rintro v u1 hle1 rfl
      refine rl_on rfl rfl ?_
      refine rl_y (y_not rfl rfl) rfl ?_
      refine rl_y (y_pick_f rfl rfl rfl) rfl ?_
      refine rl_y (y_move rfl rfl) rfl ?_
      refine rl_on rfl rfl ?_
      refine rl_y (y_field_p rfl Tryd.f46' rfl (by decide) rfl) rfl ?_
      refine rl_on rfl rfl ?_
      refine rl_y (y_load_p rfl Tryd.k29 rfl rfl rfl (vs := [_]) rfl rfl rfl) rfl ?_
      refine rl_on rfl rfl ?_
      refine rl_y (y_field_p rfl Tryd.f46' rfl (by decide) rfl) rfl ?_
      refine rl_on rfl rfl ?_
      refine rl_y (y_load_p rfl Tryd.k29 rfl rfl rfl (vs := [_]) rfl rfl rfl) rfl ?_
      refine rl_on rfl rfl ?_
      refine rl_do rfl rfl ?_
      refine do_call_f (caps := []) trivial rfl rfl Tryd.c62 rfl (FnP.mono (texts_same _ _ _ oka u s3 s3') ?_)
      rintro v u1 hle1 rfl
      refine rl_on rfl rfl ?_
      refine rl_y (y_not rfl rfl) rfl ?_
      refine rl_y (y_pick_f rfl rfl rfl) rfl ?_
      refine rl_y (y_move rfl rfl) rfl ?_
      refine rl_on rfl rfl ?_
      refine rl_y (y_field_p rfl Tryd.f46' rfl (by decide) rfl) rfl ?_
      refine rl_on rfl rfl ?_
      refine rl_y (y_load_p rfl Tryd.k44 rfl rfl rfl (vs := [_]) rfl rfl rfl) rfl ?_
      refine rl_on rfl rfl ?_
      refine rl_y (y_len_v rfl rfl Tryd.s44 rfl) rfl ?_
      refine rl_on rfl rfl ?_
      refine rl_y (y_field_p rfl Tryd.f46' rfl (by decide) rfl) rfl ?_
      refine rl_on rfl rfl ?_
      refine rl_y (y_load_p rfl Tryd.k44 rfl rfl rfl (vs := [_]) rfl rfl rfl) rfl ?_
      refine rl_on rfl rfl ?_
      refine rl_y (y_len_v rfl rfl Tryd.s44 rfl) rfl ?_
      refine rl_on rfl rfl ?_
      refine rl_y (y_neq_refl rfl rfl rfl) rfl ?_
      refine rl_y (y_pick_f rfl rfl rfl) rfl ?_
      refine rl_y (y_move rfl rfl) rfl ?_
      refine rl_on rfl rfl ?_
      refine rl_y (y_field_p rfl Tryd.f46' rfl (by decide) rfl) rfl ?_
      refine rl_on rfl rfl ?_
      refine rl_y (y_load_p rfl Tryd.k40 rfl rfl rfl (vs := [_]) rfl rfl rfl) rfl ?_
      refine rl_on rfl rfl ?_
      refine rl_y (y_field_p rfl Tryd.f46' rfl (by decide) rfl) rfl ?_
      refine rl_on rfl rfl ?_
      refine rl_y (y_load_p rfl Tryd.k40 rfl rfl rfl (vs := [_]) rfl rfl rfl) rfl ?_
      refine rl_on rfl rfl ?_
      refine rl_do rfl rfl ?_
      refine do_call_f (caps := []) trivial rfl rfl Tryd.c55 rfl (FnP.mono (ih _ (by omega : szI kids < n) _ _ kids (Nat.le_refl _) okk u s5 s5') ?_)
      rintro v u1 hle1 rfl
      refine rl_on rfl rfl ?_
      refine rl_y (y_not rfl rfl) rfl ?_
      refine rl_y (y_pick_f rfl rfl rfl) rfl ?_
      refine rl_end (ρ' := [(0, _), (1, _), (5, _), (6, _), (7, _), (86, _)]) ⟨rfl, rfl, rfl, rfl, rfl, rfl, trivial⟩ ?_
      refine q_then ?_
      refine wc_cond_f rfl (rfl) ?_
      refine wc_skip ?_
      refine q_then ?_
      refine wc_seq ?_
      refine wc_region ?_
      refine rl_y (y_assign rfl rfl) rfl ?_
      refine rl_end (ρ' := [(0, _), (1, _), (5, _), (6, _), (7, _), (8, _)]) ⟨rfl, rfl, rfl, rfl, rfl, rfl, trivial⟩ ?_
      refine q_then ?_
      refine wc_block ?_
      refine wc_loop (fun m ρ σ u' => ∃ j : Nat, j + m = cites.length ∧ VLe u u' ∧ σ = [(6, (none, .box (inlV k t d ti a.id vc vp va (.slice adt cites.length capt) vk))), (7, (none, .box (inlV k t d ti a.id vc' vp' va' (.slice adt' cites.length capt') vk')))] ∧ ρ = [(0, .v (.slice ad xs.length cap)), (1, .v (.slice ad2 xs.length cap2)), (5, .v (.int .i64 i)), (6, .p 6 0), (7, .p 7 0), (8, .v (.int .i64 j))] ∧ (u = u')) (cites.length) ?_ ?_
      ·
        refine ⟨[(0, _), (1, _), (5, _), (6, _), (7, _), (8, _)], [(6, _), (7, _)], ⟨rfl, rfl, rfl, rfl, rfl, rfl, trivial⟩, ⟨rfl, rfl, trivial⟩, 0, by omega, VLe.refl _, (by first | rfl | simp), (by first | rfl | (simp only [List.cons.injEq, Prod.mk.injEq, SV.v.injEq, Value.int.injEq, true_and, and_true]; omega) | simp), ?_⟩
        rfl
      ·
        rintro mj ρ σ u' ⟨j, hi10, hle10, rfl, rfl, rfl⟩
        refine wc_seq ?_
        refine wc_seq ?_
        refine wc_region ?_
        refine rl_y (y_move rfl rfl) rfl ?_
        refine rl_y (y_field_p rfl Tryd.f46' rfl (by decide) rfl) rfl ?_
        refine rl_y (y_load_p rfl Tryd.k44 rfl rfl rfl (vs := [_]) rfl rfl rfl) rfl ?_
        refine rl_y (y_len_v rfl rfl Tryd.s44 rfl) rfl ?_
        refine rl_y (y_lss rfl rfl rfl) rfl ?_
        refine rl_end (ρ' := [(0, _), (1, _), (5, _), (6, _), (7, _), (8, _), (91, _)]) ⟨rfl, rfl, rfl, rfl, rfl, rfl, rfl, trivial⟩ ?_
        refine q_then ?_
        refine wc_cond rfl (fun hb10 => ?_) (fun hb10 => ?_)
        ·
          refine wc_skip ?_
          refine q_then ?_
          refine wc_seq ?_
          refine wc_block ?_
          refine wc_seq ?_
          have hlt2 : j < cites.length := by have := of_decide_eq_true hb10; omega
          have hcc := cut_citesC (List.getElem?_eq_getElem hlt2)
          refine wc_draw Tryd.mixed rfl [(6, _), (7, _)] ⟨rfl, rfl, trivial⟩ ?_
          refine ra_y (i := 0) rfl (by kernel_rfl) (by kernel_rfl) (by kernel_rfl) (np_then (np_block (np_then (np_then (np_block (np_block (np_then (np_then (np_block (np_then (np_fin))))))))))) (y_field_p rfl Tryd.f46' rfl (by decide) rfl) rfl ?_
          refine ra_y (i := 1) rfl (by kernel_rfl) (by kernel_rfl) (by kernel_rfl) (np_then (np_block (np_then (np_then (np_block (np_block (np_then (np_then (np_block (np_then (np_fin))))))))))) (y_load_p rfl Tryd.k44 rfl rfl rfl (vs := [_]) rfl rfl rfl) rfl ?_
          refine ra_y (i := 2) rfl (by kernel_rfl) (by kernel_rfl) (by kernel_rfl) (np_then (np_block (np_then (np_then (np_block (np_block (np_then (np_then (np_block (np_then (np_fin))))))))))) (y_move rfl rfl) rfl ?_
          refine ra_y (i := 3) rfl (by kernel_rfl) (by kernel_rfl) (by kernel_rfl) (np_then (np_block (np_then (np_then (np_block (np_block (np_then (np_then (np_block (np_then (np_fin))))))))))) (y_index_e rfl Tryd.s44 rfl rfl (by assumption) (by first | rfl | omega) (by omega)) rfl ?_
          refine ra_y (i := 4) rfl (by kernel_rfl) (by kernel_rfl) (by kernel_rfl) (np_then (np_block (np_then (np_then (np_block (np_block (np_then (np_then (np_block (np_then (np_fin))))))))))) (y_load_el rfl Tryd.k86 rfl (by assumption) (by omega) (by assumption) (vs := [_, _, _, _]) rfl rfl rfl rfl) rfl ?_
          refine ra_y (i := 5) rfl (by kernel_rfl) (by kernel_rfl) (by kernel_rfl) (np_then (np_block (np_then (np_then (np_block (np_block (np_then (np_then (np_block (np_then (np_fin))))))))))) (y_field_p rfl Tryd.f46' rfl (by decide) rfl) rfl ?_
          refine ra_y (i := 6) rfl (by kernel_rfl) (by kernel_rfl) (by kernel_rfl) (np_then (np_block (np_then (np_then (np_block (np_block (np_then (np_then (np_block (np_then (np_fin))))))))))) (y_load_p rfl Tryd.k44 rfl rfl rfl (vs := [_]) rfl rfl rfl) rfl ?_
          refine ra_y (i := 7) rfl (by kernel_rfl) (by kernel_rfl) (by kernel_rfl) (np_then (np_block (np_then (np_then (np_block (np_block (np_then (np_then (np_block (np_then (np_fin))))))))))) (y_move rfl rfl) rfl ?_
          refine ra_y (i := 8) rfl (by kernel_rfl) (by kernel_rfl) (by kernel_rfl) (np_then (np_block (np_then (np_then (np_block (np_block (np_then (np_then (np_block (np_then (np_fin))))))))))) (y_index_e rfl Tryd.s44 rfl rfl (by assumption) (by first | rfl | omega) (by omega)) rfl ?_
          refine ra_y (i := 9) rfl (by kernel_rfl) (by kernel_rfl) (by kernel_rfl) (np_then (np_block (np_then (np_then (np_block (np_block (np_then (np_then (np_block (np_then (np_fin))))))))))) (y_load_el rfl Tryd.k86 rfl (by assumption) (by omega) (by assumption) (vs := [_, _, _, _]) rfl rfl rfl rfl) rfl ?_
          refine ra_y (i := 10) rfl (by kernel_rfl) (by kernel_rfl) (by kernel_rfl) (np_then (np_block (np_then (np_then (np_block (np_block (np_then (np_then (np_block (np_then (np_fin))))))))))) (y_neq_flat_refl Tryd.q86 rfl rfl rfl rfl) rfl ?_
          refine ra_end (by kernel_rfl) (ρ' := [(0, _), (1, _), (5, _), (6, _), (7, _), (8, _), (104, _)]) ⟨rfl, rfl, rfl, rfl, rfl, rfl, rfl, trivial⟩ ?_
          refine q_then ?_
          refine wc_cond_f rfl (rfl) ?_
          refine wc_skip ?_
          refine q_block ?_
          refine q_then ?_
          refine wc_region ?_
          refine rl_y (y_move rfl rfl) rfl ?_
          refine rl_y (y_add rfl rfl rfl (wrap64_id (by omega))) rfl ?_
          refine rl_y (y_assign rfl rfl) rfl ?_
          refine rl_end (ρ' := [(0, _), (1, _), (5, _), (6, _), (7, _), (8, _)]) ⟨rfl, rfl, rfl, rfl, rfl, rfl, trivial⟩ ?_
          refine q_thenK ?_
          refine ⟨mj - 1, [(0, _), (1, _), (5, _), (6, _), (7, _), (8, _)], [(6, _), (7, _)], by omega, ⟨rfl, rfl, rfl, rfl, rfl, rfl, trivial⟩, ⟨rfl, rfl, trivial⟩, j + 1, by omega, hle10, (by first | rfl | simp), (by first | rfl | (simp only [List.cons.injEq, Prod.mk.injEq, SV.v.injEq, Value.int.injEq, true_and, and_true]; omega) | simp), ?_⟩
          rfl
        ·
          refine wc_exit ?_
          refine q_then_exit ?_
          refine q_then_exit ?_
          refine q_block_hit ?_
          refine q_block ?_
          refine q_then ?_
          refine wc_region ?_
          refine rl_y (y_move rfl rfl) rfl ?_
          refine rl_y (y_add rfl rfl rfl (wrap64_id (by omega))) rfl ?_
          refine rl_y (y_assign rfl rfl) rfl ?_
          refine rl_end (ρ' := [(0, _), (1, _), (5, _)]) ⟨rfl, rfl, rfl, trivial⟩ ?_
          refine q_thenK ?_
          refine ⟨m - 1, [(0, _), (1, _), (5, _)], [], by omega, ⟨rfl, rfl, rfl, trivial⟩, trivial, i + 1, by omega, hle4, (by first | rfl | simp), (by first | rfl | (simp only [List.cons.injEq, Prod.mk.injEq, SV.v.injEq, Value.int.injEq, true_and, and_true]; omega) | simp), ?_⟩
          rfl
    ·
      refine wc_exit ?_
      refine q_then_exit ?_
      refine q_then_exit ?_
      refine q_block_hit ?_
      refine q_then ?_
      refine wc_seq ?_
      refine wc_region ?_
      refine rl_y (y_assign rfl rfl) rfl ?_
      refine rl_end (ρ' := [(4, _)]) ⟨rfl, trivial⟩ ?_
      refine q_then ?_
      refine wc_ret ?_
      refine fin1 (.tmp rfl) ?_
      rfl
theorem inl_same {u : View} {xs : List Inl} {va vb : Value} (h : xs.length ≤ 140737488351232) (h1 : InlS u va xs) (h2 : InlS u vb xs) : FnP Tryd.prog 55 [va, vb] u fun v _ => v = .bool true :=
 sameLine_same _ va vb xs (Nat.le_refl _) h u h1 h2
end Go.Proofs.Ythkgcakpjknlbaa
namespace Go.Proofs.Ythkgcakpjknlbaa
open Go Go.Eng
set_option linter.unusedSimpArgs false
set_option linter.unusedVariables false
set_option maxRecDepth 4000
/-- how much the texts of attributes are -/
def longN (a : DAttr) : Nat := a.id.length + (a.classes.map List.length).sum + (a.pairs.map fun p => p.1.length + p.2.length).sum
theorem sum_take {α : Type} (f : α → Nat) {xs : List α} {i : Nat} {x : α} (h : xs[i]? = some x) : ((xs.take (i + 1)).map f).sum = ((xs.take i).map f).sum + f x := by
 obtain ⟨hlt, rfl⟩ := List.getElem?_eq_some_iff.1 h
 rw [List.take_succ_eq_append_getElem hlt, List.map_append, List.sum_append]
 simp only [List.map_cons, List.map_nil, List.sum_cons, List.sum_nil, Nat.add_zero]
theorem sum_le {α : Type} (f : α → Nat) (B : Nat) : ∀ (xs : List α), (∀ x ∈ xs, f x ≤ B) → (xs.map f).sum ≤ xs.length * B
  | [], _ => by simp
  | x :: xs, h => by
    have := sum_le f B xs (fun y hy => h y (by simp [hy]))
    have := h x (by simp)
    simp only [List.map_cons, List.sum_cons, List.length_cons, Nat.add_mul]
    omega
theorem sum_take_le {α : Type} (f : α → Nat) (B : Nat) (xs : List α) (i : Nat) (h : ∀ x ∈ xs, f x ≤ B) : ((xs.take i).map f).sum ≤ xs.length * B := by
 refine Nat.le_trans (sum_le f B _ fun x hx => h x (List.mem_of_mem_take hx)) ?_
 exact Nat.mul_le_mul_right _ (by simp; omega)
theorem long_fn (a : DAttr) (vc vp : Value) (u : View) (hok : AttrOk a) (h1 : StrS u vc a.classes) (h2 : PrS u vp a.pairs) :
  FnP Tryd.prog 41 [.agg #[str a.id, vc, vp]] u fun v _ => v = .bool (decide (40 < a.classes.length ∨ 40 < a.pairs.length ∨ 600 < longN a)) := by
 obtain ⟨ad, cap, rfl, h1⟩ := h1
 obtain ⟨ad2, cap2, rfl, h2⟩ := h2
 obtain ⟨hid, ⟨hcl, hcs⟩, ⟨hpl, hps⟩⟩ := hok
 refine FnP.intro [.tmp 2] Tryd.func41 rfl rfl rfl ?_
 intro w0 D hw0
 refine wc_seq ?_
 refine wc_region ?_
 refine rl_do rfl rfl ?_
 refine do_box trivial rfl (cs := [_, _, _]) rfl rfl rfl rfl ?_
 refine rl_y (y_assign rfl rfl) rfl ?_
 refine rl_end (ρ' := [(1, _)]) ⟨rfl, trivial⟩ ?_
 refine q_then ?_
 refine wc_seq ?_
 refine wc_region ?_
 refine rl_y (y_field_p rfl Tryd.f39' rfl (by decide) rfl) rfl ?_
 refine rl_y (y_load_p rfl Tryd.k9 rfl rfl rfl (vs := [_]) rfl rfl rfl) rfl ?_
 refine rl_y (y_len_str rfl rfl Tryd.str9 rfl) rfl ?_
 refine rl_y (y_assign rfl rfl) rfl ?_
 refine rl_end (ρ' := [(1, _), (3, _)]) ⟨rfl, rfl, trivial⟩ ?_
 refine q_then ?_
 refine wc_seq ?_
 refine wc_seq ?_
 refine wc_cutB 18 ((decide (40 < a.classes.length ∨ 40 < a.pairs.length))) (ρk := [(1, _), (3, _)]) ⟨rfl, rfl, trivial⟩ ?_ ?_
 ·
  refine wc_region ?_
  refine rl_y (y_field_p rfl Tryd.f39' rfl (by decide) rfl) rfl ?_
  refine rl_y (y_load_p rfl Tryd.k29 rfl rfl rfl (vs := [_]) rfl rfl rfl) rfl ?_
  refine rl_y (y_len_v rfl rfl Tryd.s29 rfl) rfl ?_
  refine rl_y (y_gtr rfl rfl rfl) rfl ?_
  refine rl_y (y_move rfl rfl) rfl ?_
  rcases Bool.eq_false_or_eq_true (decide ((40 : Int) < a.classes.length)) with hg2_4 | hg2_4
  ·
   simp only [hg2_4]
   refine rl_off rfl rfl rfl rfl ?_
   refine rl_off rfl rfl rfl rfl ?_
   refine rl_off rfl rfl rfl rfl ?_
   refine rl_off rfl rfl rfl rfl ?_
   refine rl_y (y_pick_t rfl rfl rfl) rfl ?_
   exact cutB_end rfl ⟨rfl, rfl, trivial⟩ (by (first | refine (decide_eq_true ?_).symm | refine (decide_eq_false ?_).symm | refine decide_eq_decide.2 ?_ | refine decide_eq_true ?_ | refine decide_eq_false ?_) <;> (try unfold longN) <;> (try simp only [decide_eq_true_eq, decide_eq_false_iff_not] at *) <;> omega)
  ·
   simp only [hg2_4]
   refine rl_on rfl rfl ?_
   refine rl_y (y_field_p rfl Tryd.f39' rfl (by decide) rfl) rfl ?_
   refine rl_on rfl rfl ?_
   refine rl_y (y_load_p rfl Tryd.k22 rfl rfl rfl (vs := [_]) rfl rfl rfl) rfl ?_
   refine rl_on rfl rfl ?_
   refine rl_y (y_len_v rfl rfl Tryd.s22 rfl) rfl ?_
   refine rl_on rfl rfl ?_
   refine rl_y (y_gtr rfl rfl rfl) rfl ?_
   refine rl_y (y_pick_f rfl rfl rfl) rfl ?_
   exact cutB_end rfl ⟨rfl, rfl, trivial⟩ (by (first | refine (decide_eq_true ?_).symm | refine (decide_eq_false ?_).symm | refine decide_eq_decide.2 ?_ | refine decide_eq_true ?_ | refine decide_eq_false ?_) <;> (try unfold longN) <;> (try simp only [decide_eq_true_eq, decide_eq_false_iff_not] at *) <;> omega)
 refine q_then ?_
 refine wc_cond rfl (fun hb2 => ?_) (fun hb2 => ?_)
 ·
  refine wc_seq ?_
  refine wc_region ?_
  refine rl_y (y_assign rfl rfl) rfl ?_
  refine rl_end (ρ' := [(2, _)]) ⟨rfl, trivial⟩ ?_
  refine q_then ?_
  refine wc_ret ?_
  refine q_then_ret ?_
  refine fin1 (.tmp rfl) ?_
  have := of_decide_eq_true hb2
  rw [decide_eq_true]
  omega
 ·
  refine wc_skip ?_
  refine q_then ?_
  refine wc_seq ?_
  refine wc_seq ?_
  refine wc_region ?_
  refine rl_y (y_assign rfl rfl) rfl ?_
  refine rl_end (ρ' := [(1, _), (3, _), (4, _)]) ⟨rfl, rfl, rfl, trivial⟩ ?_
  refine q_then ?_
  refine wc_block ?_
  refine wc_loop (fun m ρ σ u' => ∃ i : Nat, i + m = a.classes.length ∧ VLe u u' ∧ σ = [(1, (none, .box [str a.id, .slice ad a.classes.length cap, .slice ad2 a.pairs.length cap2]))] ∧ ρ = [(1, .p 1 0), (3, .v (.int .i64 (a.id.length + ((a.classes.take i).map List.length).sum : Nat))), (4, .v (.int .i64 i))] ∧ (u = u')) (a.classes.length) ?_ ?_
  ·
   refine ⟨[(1, _), (3, _), (4, _)], [(1, _)], ⟨rfl, rfl, rfl, trivial⟩, ⟨rfl, trivial⟩, 0, by omega, VLe.refl _, (by first | rfl | simp), (by first | rfl | (simp only [List.cons.injEq, Prod.mk.injEq, SV.v.injEq, Value.int.injEq, true_and, and_true]; omega) | simp), ?_⟩
   rfl
  ·
   rintro m ρ σ u' ⟨i, hi5, hle5, rfl, rfl, rfl⟩
   refine wc_seq ?_
   refine wc_seq ?_
   refine wc_region ?_
   refine rl_y (y_move rfl rfl) rfl ?_
   refine rl_y (y_field_p rfl Tryd.f39' rfl (by decide) rfl) rfl ?_
   refine rl_y (y_load_p rfl Tryd.k29 rfl rfl rfl (vs := [_]) rfl rfl rfl) rfl ?_
   refine rl_y (y_len_v rfl rfl Tryd.s29 rfl) rfl ?_
   refine rl_y (y_lss rfl rfl rfl) rfl ?_
   refine rl_end (ρ' := [(1, _), (3, _), (4, _), (23, _)]) ⟨rfl, rfl, rfl, rfl, trivial⟩ ?_
   refine q_then ?_
   refine wc_cond rfl (fun hb5 => ?_) (fun hb5 => ?_)
   ·
    refine wc_skip ?_
    refine q_then ?_
    refine wc_seq ?_
    refine wc_block ?_
    have hlt : i < a.classes.length := by have := of_decide_eq_true hb5; omega
    have h40 := of_decide_eq_false hb2
    have hg := List.getElem?_eq_getElem hlt
    have hc := cut_strsC hg
    have hst := sum_take List.length hg
    have hb := sum_take_le List.length _ a.classes i hcs
    have hcb := hcs _ (List.mem_of_getElem? hg)
    refine wc_region ?_
    refine rl_y (y_move rfl rfl) rfl ?_
    refine rl_y (y_field_p rfl Tryd.f39' rfl (by decide) rfl) rfl ?_
    refine rl_y (y_load_p rfl Tryd.k29 rfl rfl rfl (vs := [_]) rfl rfl rfl) rfl ?_
    refine rl_y (y_move rfl rfl) rfl ?_
    refine rl_y (y_index_e rfl Tryd.s29 rfl rfl (by assumption) (by first | rfl | omega) (by omega)) rfl ?_
    refine rl_y (y_load_el rfl Tryd.k9 rfl (by assumption) (by omega) (by assumption) (vs := [_]) rfl rfl rfl rfl) rfl ?_
    refine rl_y (y_len_str rfl rfl Tryd.str9 rfl) rfl ?_
    refine rl_y (y_add rfl rfl rfl (wrap64_id (by omega))) rfl ?_
    refine rl_y (y_assign rfl rfl) rfl ?_
    refine rl_end (ρ' := [(1, _), (3, _), (4, _)]) ⟨rfl, rfl, rfl, trivial⟩ ?_
    refine q_block ?_
    refine q_then ?_
    refine wc_region ?_
    refine rl_y (y_move rfl rfl) rfl ?_
    refine rl_y (y_add rfl rfl rfl (wrap64_id (by omega))) rfl ?_
    refine rl_y (y_assign rfl rfl) rfl ?_
    refine rl_end (ρ' := [(1, _), (3, _), (4, _)]) ⟨rfl, rfl, rfl, trivial⟩ ?_
    refine q_thenK ?_
    refine ⟨m - 1, [(1, _), (3, _), (4, _)], [(1, _)], by omega, ⟨rfl, rfl, rfl, trivial⟩, ⟨rfl, trivial⟩, i + 1, by omega, hle5, (by first | rfl | simp), (by first | rfl | (simp only [List.cons.injEq, Prod.mk.injEq, SV.v.injEq, Value.int.injEq, true_and, and_true]; omega) | simp), ?_⟩
    rfl
   ·
    refine wc_exit ?_
    refine q_then_exit ?_
    refine q_then_exit ?_
    refine q_block_hit ?_
    refine q_then ?_
    refine wc_seq ?_
    refine wc_seq ?_
    refine wc_region ?_
    refine rl_y (y_assign rfl rfl) rfl ?_
    refine rl_end (ρ' := [(1, _), (3, _), (5, _)]) ⟨rfl, rfl, rfl, trivial⟩ ?_
    refine q_then ?_
    refine wc_block ?_
    refine wc_loop (fun m ρ σ u' => ∃ i : Nat, i + m = a.pairs.length ∧ VLe u u' ∧ σ = [(1, (none, .box [str a.id, .slice ad a.classes.length cap, .slice ad2 a.pairs.length cap2]))] ∧ ρ = [(1, .p 1 0), (3, .v (.int .i64 (a.id.length + (a.classes.map List.length).sum + ((a.pairs.take i).map fun p => p.1.length + p.2.length).sum : Nat))), (5, .v (.int .i64 i))] ∧ (u = u')) (a.pairs.length) ?_ ?_
    ·
     refine ⟨[(1, _), (3, _), (5, _)], [(1, _)], ⟨rfl, rfl, rfl, trivial⟩, ⟨rfl, trivial⟩, 0, by omega, VLe.refl _, rfl, (by have hge := of_decide_eq_false hb5; rw [List.take_of_length_le (l := a.classes) (by omega)]; simp), ?_⟩
     rfl
    ·
     rintro m ρ σ u' ⟨i, hi9, hle9, rfl, rfl, rfl⟩
     refine wc_seq ?_
     refine wc_seq ?_
     refine wc_region ?_
     refine rl_y (y_move rfl rfl) rfl ?_
     refine rl_y (y_field_p rfl Tryd.f39' rfl (by decide) rfl) rfl ?_
     refine rl_y (y_load_p rfl Tryd.k22 rfl rfl rfl (vs := [_]) rfl rfl rfl) rfl ?_
     refine rl_y (y_len_v rfl rfl Tryd.s22 rfl) rfl ?_
     refine rl_y (y_lss rfl rfl rfl) rfl ?_
     refine rl_end (ρ' := [(1, _), (3, _), (5, _), (38, _)]) ⟨rfl, rfl, rfl, rfl, trivial⟩ ?_
     refine q_then ?_
     refine wc_cond rfl (fun hb9 => ?_) (fun hb9 => ?_)
     ·
      refine wc_skip ?_
      refine q_then ?_
      refine wc_seq ?_
      refine wc_block ?_
      have hlt : i < a.pairs.length := by have := of_decide_eq_true hb9; omega
      have h40 := of_decide_eq_false hb2
      have hg := List.getElem?_eq_getElem hlt
      have hc := cut_pairsC hg
      have hst := sum_take (fun p : Bs × Bs => p.1.length + p.2.length) hg
      have hb := sum_take_le List.length _ a.classes a.classes.length hcs
      rw [List.take_of_length_le (Nat.le_refl _)] at hb
      have hb2' := sum_take_le (fun p : Bs × Bs => p.1.length + p.2.length) 281474976702464 a.pairs i (fun p hp => by have := hps p hp; omega)
      have hcb := hps _ (List.mem_of_getElem? hg)
      refine wc_draw Tryd.mixed rfl [(1, _)] ⟨rfl, trivial⟩ ?_
      refine ra_y (i := 0) rfl (by kernel_rfl) (by kernel_rfl) (by kernel_rfl) (np_block (np_then (np_then (np_block (np_then (np_fin)))))) (y_move rfl rfl) rfl ?_
      refine ra_y (i := 1) rfl (by kernel_rfl) (by kernel_rfl) (by kernel_rfl) (np_block (np_then (np_then (np_block (np_then (np_fin)))))) (y_field_p rfl Tryd.f39' rfl (by decide) rfl) rfl ?_
      refine ra_y (i := 2) rfl (by kernel_rfl) (by kernel_rfl) (by kernel_rfl) (np_block (np_then (np_then (np_block (np_then (np_fin)))))) (y_load_p rfl Tryd.k22 rfl rfl rfl (vs := [_]) rfl rfl rfl) rfl ?_
      refine ra_y (i := 3) rfl (by kernel_rfl) (by kernel_rfl) (by kernel_rfl) (np_block (np_then (np_then (np_block (np_then (np_fin)))))) (y_move rfl rfl) rfl ?_
      refine ra_y (i := 4) rfl (by kernel_rfl) (by kernel_rfl) (by kernel_rfl) (np_block (np_then (np_then (np_block (np_then (np_fin)))))) (y_index_e rfl Tryd.s22 rfl rfl (by assumption) (by first | rfl | omega) (by omega)) rfl ?_
      refine ra_y (i := 5) rfl (by kernel_rfl) (by kernel_rfl) (by kernel_rfl) (np_block (np_then (np_then (np_block (np_then (np_fin)))))) (y_field_e rfl Tryd.f48' rfl (by decide) rfl) rfl ?_
      refine ra_y (i := 6) rfl (by kernel_rfl) (by kernel_rfl) (by kernel_rfl) (np_block (np_then (np_then (np_block (np_then (np_fin)))))) (y_load_el rfl Tryd.k9 rfl (by assumption) (by omega) (by assumption) (vs := [_]) rfl rfl rfl rfl) rfl ?_
      refine ra_y (i := 7) rfl (by kernel_rfl) (by kernel_rfl) (by kernel_rfl) (np_block (np_then (np_then (np_block (np_then (np_fin)))))) (y_len_str rfl rfl Tryd.str9 rfl) rfl ?_
      refine ra_y (i := 8) rfl (by kernel_rfl) (by kernel_rfl) (by kernel_rfl) (np_block (np_then (np_then (np_block (np_then (np_fin)))))) (y_field_p rfl Tryd.f39' rfl (by decide) rfl) rfl ?_
      refine ra_y (i := 9) rfl (by kernel_rfl) (by kernel_rfl) (by kernel_rfl) (np_block (np_then (np_then (np_block (np_then (np_fin)))))) (y_load_p rfl Tryd.k22 rfl rfl rfl (vs := [_]) rfl rfl rfl) rfl ?_
      refine ra_y (i := 10) rfl (by kernel_rfl) (by kernel_rfl) (by kernel_rfl) (np_block (np_then (np_then (np_block (np_then (np_fin)))))) (y_move rfl rfl) rfl ?_
      refine ra_y (i := 11) rfl (by kernel_rfl) (by kernel_rfl) (by kernel_rfl) (np_block (np_then (np_then (np_block (np_then (np_fin)))))) (y_index_e rfl Tryd.s22 rfl rfl (by assumption) (by first | rfl | omega) (by omega)) rfl ?_
      refine ra_y (i := 12) rfl (by kernel_rfl) (by kernel_rfl) (by kernel_rfl) (np_block (np_then (np_then (np_block (np_then (np_fin)))))) (y_field_e rfl Tryd.f48' rfl (by decide) rfl) rfl ?_
      refine ra_y (i := 13) rfl (by kernel_rfl) (by kernel_rfl) (by kernel_rfl) (np_block (np_then (np_then (np_block (np_then (np_fin)))))) (y_load_el rfl Tryd.k9 rfl (by assumption) (by omega) (by assumption) (vs := [_]) rfl rfl rfl rfl) rfl ?_
      refine ra_y (i := 14) rfl (by kernel_rfl) (by kernel_rfl) (by kernel_rfl) (np_block (np_then (np_then (np_block (np_then (np_fin)))))) (y_len_str rfl rfl Tryd.str9 rfl) rfl ?_
      refine ra_y (i := 15) rfl (by kernel_rfl) (by kernel_rfl) (by kernel_rfl) (np_block (np_then (np_then (np_block (np_then (np_fin)))))) (y_add rfl rfl rfl (wrap64_id (by omega))) rfl ?_
      refine ra_y (i := 16) rfl (by kernel_rfl) (by kernel_rfl) (by kernel_rfl) (np_block (np_then (np_then (np_block (np_then (np_fin)))))) (y_add rfl rfl rfl (wrap64_id (by omega))) rfl ?_
      refine ra_y (i := 17) rfl (by kernel_rfl) (by kernel_rfl) (by kernel_rfl) (np_block (np_then (np_then (np_block (np_then (np_fin)))))) (y_assign rfl rfl) rfl ?_
      refine ra_end (by kernel_rfl) (ρ' := [(1, _), (3, _), (5, _)]) ⟨rfl, rfl, rfl, trivial⟩ ?_
      refine q_block ?_
      refine q_then ?_
      refine wc_region ?_
      refine rl_y (y_move rfl rfl) rfl ?_
      refine rl_y (y_add rfl rfl rfl (wrap64_id (by omega))) rfl ?_
      refine rl_y (y_assign rfl rfl) rfl ?_
      refine rl_end (ρ' := [(1, _), (3, _), (5, _)]) ⟨rfl, rfl, rfl, trivial⟩ ?_
      refine q_thenK ?_
      refine ⟨m - 1, [(1, _), (3, _), (5, _)], [(1, _)], by omega, ⟨rfl, rfl, rfl, trivial⟩, ⟨rfl, trivial⟩, i + 1, by omega, hle9, (by first | rfl | simp), (by first | rfl | (simp only [List.cons.injEq, Prod.mk.injEq, SV.v.injEq, Value.int.injEq, true_and, and_true]; omega) | simp), ?_⟩
      rfl
     ·
      refine wc_exit ?_
      refine q_then_exit ?_
      refine q_then_exit ?_
      refine q_block_hit ?_
      refine q_then ?_
      refine wc_seq ?_
      have h40 := of_decide_eq_false hb2
      have hge := of_decide_eq_false hb9
      have hfull : ((a.pairs.take i).map fun p => p.1.length + p.2.length) = (a.pairs.map fun p => p.1.length + p.2.length) := by rw [List.take_of_length_le (by omega)]
      rw [hfull]
      refine wc_region ?_
      refine rl_y (y_move rfl rfl) rfl ?_
      refine rl_y (y_gtr rfl rfl rfl) rfl ?_
      refine rl_y (y_assign rfl rfl) rfl ?_
      refine rl_end (ρ' := [(2, _)]) ⟨rfl, trivial⟩ ?_
      refine q_then ?_
      refine wc_ret ?_
      refine fin1 (.tmp rfl) ?_
      congr 1
      refine decide_eq_decide.2 ?_
      unfold longN
      omega
end Go.Proofs.Ythkgcakpjknlbaa
namespace Go.Proofs.Ythkgcakpjknlbaa
open Go Go.Eng
set_option linter.unusedSimpArgs false
set_option linter.unusedVariables false
set_option maxRecDepth 4000
def NodeSm (t d ti : Bs) (a : DAttr) (args : List Bs) (cites : List DCite) : Prop :=
 t.length + d.length + ti.length ≤ 300 ∧ a.classes.length ≤ 40 ∧ a.pairs.length ≤ 40 ∧ longN a ≤ 600 ∧ args.length ≤ 9 ∧ cites.length ≤ 9 ∧ (∀ s ∈ args, s.length ≤ 50000) ∧ ∀ c ∈ cites, c.key.length + c.pre.length + c.suf.length ≤ 50000
mutual
def smI1 : Inl → Prop
  | .mk _ t d ti a args cites kids => NodeSm t d ti a args cites ∧ smI kids
def smI : List Inl → Prop
  | [] => True
  | x :: xs => smI1 x ∧ smI xs
end
theorem smI_append : ∀ {xs ys : List Inl}, smI xs → smI ys → smI (xs ++ ys)
  | [], ys, _, k => k
  | x :: xs, ys, h, k => by
    unfold smI at h
    rw [List.cons_append]
    unfold smI
    exact ⟨h.1, smI_append h.2 k⟩
theorem szI_append : ∀ (xs ys : List Inl), szI (xs ++ ys) = szI xs + szI ys
  | [], ys => by simp [szI]
  | x :: xs, ys => by
    rw [List.cons_append]
    simp only [szI, szI_append xs ys, Nat.add_assoc]
theorem szI_take {xs : List Inl} {i : Nat} {x : Inl} (h : xs[i]? = some x) : szI (xs.take (i + 1)) = szI (xs.take i) + sz1 x := by
 obtain ⟨hlt, rfl⟩ := List.getElem?_eq_some_iff.1 h
 rw [List.take_succ_eq_append_getElem hlt, szI_append]
 simp [szI]
theorem smI_take {xs : List Inl} {i : Nat} {x : Inl} (h : xs[i]? = some x) (h1 : smI (xs.take i)) (h2 : smI1 x) : smI (xs.take (i + 1)) := by
 obtain ⟨hlt, rfl⟩ := List.getElem?_eq_some_iff.1 h
 rw [List.take_succ_eq_append_getElem hlt]
 exact smI_append h1 (by unfold smI; exact ⟨h2, by unfold smI; trivial⟩)
theorem mem_take_succ {α : Type} {xs : List α} {i : Nat} {x y : α} (h : xs[i]? = some x) (hy : y ∈ xs.take (i + 1)) : y ∈ xs.take i ∨ y = x := by
  obtain ⟨hlt, rfl⟩ := List.getElem?_eq_some_iff.1 h
  rw [List.take_succ_eq_append_getElem hlt] at hy
  rcases List.mem_append.1 hy with h | h
  · exact .inl h
  · exact .inr (List.mem_singleton.1 h)
theorem weight_fn (fuel : Nat) : fuel ≤ 21 → ∀ (dp : Int) (v : Value) (xs : List Inl) (u : View), dp = 21 - fuel → xs.length ≤ 140737488351232 → InlS u v xs →
    FnP Tryd.prog 42 [v, .int .i64 dp] u fun r _ => ∃ n : Int, r = .int .i64 n ∧ 0 ≤ n ∧ n ≤ 1000 + fuel * 200000000000000 ∧ (n < 1000 → szI xs ≤ n ∧ smI xs) := by
  induction fuel using Nat.strongRecOn with
  | _ fuel ih =>
  intro hf dp v xs u hdp hx ha
  obtain ⟨cs, ⟨ad, cap, rfl, h1⟩, hc1⟩ := ha
  refine FnP.intro [.tmp 4] Tryd.func42 rfl rfl rfl ?_
  intro w0 D hw0
  refine wc_seq ?_
  refine wc_region ?_
  refine rl_y (y_assign rfl rfl) rfl ?_
  refine rl_end (ρ' := [(0, _), (1, _)]) ⟨rfl, rfl, trivial⟩ ?_
  refine q_then ?_
  refine wc_seq ?_
  refine wc_region ?_
  refine rl_y (y_move rfl rfl) rfl ?_
  refine rl_y (y_len_v rfl rfl Tryd.s40 rfl) rfl ?_
  refine rl_y (y_assign rfl rfl) rfl ?_
  refine rl_end (ρ' := [(0, _), (1, _), (5, _)]) ⟨rfl, rfl, rfl, trivial⟩ ?_
  refine q_then ?_
  refine wc_seq ?_
  refine wc_seq ?_
  refine wc_cutB 18 (decide (20 < dp ∨ 200 < xs.length)) (ρk := [(0, _), (1, _), (5, _)]) ⟨rfl, rfl, rfl, trivial⟩ ?_ ?_
  ·
    refine wc_region ?_
    refine rl_y (y_move rfl rfl) rfl ?_
    refine rl_y (y_gtr rfl rfl rfl) rfl ?_
    refine rl_y (y_move rfl rfl) rfl ?_
    rcases Bool.eq_false_or_eq_true (decide ((20 : Int) < dp)) with hg2_2 | hg2_2
    ·
      simp only [hg2_2]
      refine rl_off rfl rfl rfl rfl ?_
      refine rl_off rfl rfl rfl rfl ?_
      refine rl_y (y_pick_t rfl rfl rfl) rfl ?_
      exact cutB_end rfl ⟨rfl, rfl, rfl, trivial⟩ (by (first | refine (decide_eq_true ?_).symm | refine (decide_eq_false ?_).symm | refine decide_eq_decide.2 ?_ | refine decide_eq_true ?_ | refine decide_eq_false ?_) <;> (try unfold longN) <;> (try simp only [decide_eq_true_eq, decide_eq_false_iff_not] at *) <;> omega)
    ·
      simp only [hg2_2]
      refine rl_on rfl rfl ?_
      refine rl_y (y_move rfl rfl) rfl ?_
      refine rl_on rfl rfl ?_
      refine rl_y (y_gtr rfl rfl rfl) rfl ?_
      refine rl_y (y_pick_f rfl rfl rfl) rfl ?_
      exact cutB_end rfl ⟨rfl, rfl, rfl, trivial⟩ (by (first | refine (decide_eq_true ?_).symm | refine (decide_eq_false ?_).symm | refine decide_eq_decide.2 ?_ | refine decide_eq_true ?_ | refine decide_eq_false ?_) <;> (try unfold longN) <;> (try simp only [decide_eq_true_eq, decide_eq_false_iff_not] at *) <;> omega)
  refine q_then ?_
  refine wc_cond rfl (fun hb2 => ?_) (fun hb2 => ?_)
  ·
    refine wc_seq ?_
    refine wc_region ?_
    refine rl_y (y_assign rfl rfl) rfl ?_
    refine rl_end (ρ' := [(4, _)]) ⟨rfl, trivial⟩ ?_
    refine q_then ?_
    refine wc_ret ?_
    refine q_then_ret ?_
    refine fin1 (.tmp rfl) ?_
    exact ⟨1000, rfl, by omega, by omega, fun h => absurd h (by omega)⟩
  ·
    refine wc_skip ?_
    refine q_then ?_
    refine wc_seq ?_
    refine wc_seq ?_
    refine wc_region ?_
    refine rl_y (y_assign rfl rfl) rfl ?_
    refine rl_end (ρ' := [(0, _), (1, _), (5, _), (6, _)]) ⟨rfl, rfl, rfl, rfl, trivial⟩ ?_
    refine q_then ?_
    refine wc_block ?_
    refine wc_loop (fun m ρ σ u' => ∃ i : Nat, i + m = xs.length ∧ VLe u u' ∧ ∃ (n : Int), σ = [] ∧ ρ = [(0, .v (.slice ad xs.length cap)), (1, .v (.int .i64 dp)), (5, .v (.int .i64 n)), (6, .v (.int .i64 i))] ∧ (u = u' ∧ 0 ≤ n ∧ n ≤ 1000 + fuel * 200000000000000 ∧ (n < 1000 → xs.length + szI (xs.take i) ≤ n + i ∧ smI (xs.take i)))) (xs.length) ?_ ?_
    ·
      refine ⟨[(0, _), (1, _), (5, _), (6, _)], [], ⟨rfl, rfl, rfl, rfl, trivial⟩, trivial, 0, by omega, VLe.refl _, _, (by first | rfl | simp), (by first | rfl | (simp only [List.cons.injEq, Prod.mk.injEq, SV.v.injEq, Value.int.injEq, true_and, and_true]; omega) | simp), ?_⟩
      have := of_decide_eq_false hb2; exact ⟨rfl, by omega, by omega, fun _ => ⟨by simp [szI], by simp [smI]⟩⟩
    ·
      rintro m ρ σ u' ⟨i, hi5, hle5, n, rfl, rfl, ⟨rfl, hn0, hnb, hinv⟩⟩
      refine wc_seq ?_
      refine wc_seq ?_
      refine wc_cutB 26 (decide (i < xs.length ∧ n < 1000)) (ρk := [(0, _), (1, _), (5, _), (6, _)]) ⟨rfl, rfl, rfl, rfl, trivial⟩ ?_ ?_
      ·
        refine wc_region ?_
        refine rl_y (y_move rfl rfl) rfl ?_
        refine rl_y (y_move rfl rfl) rfl ?_
        refine rl_y (y_len_v rfl rfl Tryd.s40 rfl) rfl ?_
        refine rl_y (y_lss rfl rfl rfl) rfl ?_
        refine rl_y (y_move rfl rfl) rfl ?_
        rcases Bool.eq_false_or_eq_true (decide ((i : Int) < xs.length)) with hg5_4 | hg5_4
        ·
          simp only [hg5_4]
          refine rl_on rfl rfl ?_
          refine rl_y (y_move rfl rfl) rfl ?_
          refine rl_on rfl rfl ?_
          refine rl_y (y_lss rfl rfl rfl) rfl ?_
          refine rl_y (y_pick_t rfl rfl rfl) rfl ?_
          exact cutB_end rfl ⟨rfl, rfl, rfl, rfl, trivial⟩ (by (first | refine (decide_eq_true ?_).symm | refine (decide_eq_false ?_).symm | refine decide_eq_decide.2 ?_ | refine decide_eq_true ?_ | refine decide_eq_false ?_) <;> (try unfold longN) <;> (try simp only [decide_eq_true_eq, decide_eq_false_iff_not] at *) <;> omega)
        ·
          simp only [hg5_4]
          refine rl_off rfl rfl rfl rfl ?_
          refine rl_off rfl rfl rfl rfl ?_
          refine rl_y (y_pick_f rfl rfl rfl) rfl ?_
          exact cutB_end rfl ⟨rfl, rfl, rfl, rfl, trivial⟩ (by (first | refine (decide_eq_true ?_).symm | refine (decide_eq_false ?_).symm | refine decide_eq_decide.2 ?_ | refine decide_eq_true ?_ | refine decide_eq_false ?_) <;> (try unfold longN) <;> (try simp only [decide_eq_true_eq, decide_eq_false_iff_not] at *) <;> omega)
      refine q_then ?_
      refine wc_cond rfl (fun hb5 => ?_) (fun hb5 => ?_)
      ·
        refine wc_skip ?_
        refine q_then ?_
        refine wc_seq ?_
        refine wc_block ?_
        refine wc_seq ?_
        have hb := of_decide_eq_true hb5
        have hb2 := of_decide_eq_false hb2
        have hlt : i < xs.length := hb.1
        obtain ⟨k, t, d, ti, a, args, cites, kids, vc, vp, va, vt, vk, hg, hcut1, s1, s2, s3, s4, s5, hok⟩ := hc1.at hlt
        have oneAll := (hc1.get i _ hg).one
        rw [hcut1] at oneAll
        obtain ⟨okk0, okt, okd, okti, oka, ⟨okargs, okargs2⟩, ⟨okcites, okcites2⟩, okk⟩ := hok
        obtain ⟨adt, capt, rfl, h4⟩ := s4
        obtain ⟨ada, capa, rfl, h3⟩ := s3
        obtain ⟨hinv1, hinv2⟩ := hinv hb.2
        have hsz := szI_take hg
        have hln := len_szI xs
        refine wc_region ?_
        refine rl_y (y_move rfl rfl) rfl ?_
        refine rl_y (y_move rfl rfl) rfl ?_
        refine rl_y (y_index_e rfl Tryd.s40 rfl rfl (by assumption) (by first | rfl | omega) (by omega)) rfl ?_
        refine rl_y (y_load_el rfl Tryd.k46 rfl (by assumption) (by omega) (by assumption) (vs := [_, _, _, _, _, _, _, _, _, _]) rfl rfl rfl rfl) rfl ?_
        refine rl_do rfl rfl ?_
        refine do_alloc trivial Tryd.z46 rfl rfl rfl ?_
        refine rl_do rfl rfl ?_
        refine do_store_p trivial rfl Tryd.k46 rfl rfl rfl (vs := [_, _, _, _, _, _, _, _, _, _]) rfl rfl (by first | rfl | exact oneAll | exact oneAll2 | simp [Value.oneCell', str]) (Nat.le_of_ble_eq_true rfl) rfl ?_
        refine rl_end (ρ' := [(0, _), (1, _), (5, _), (6, _), (7, _)]) ⟨rfl, rfl, rfl, rfl, rfl, trivial⟩ ?_
        refine q_then ?_
        refine wc_seq ?_
        refine wc_seq ?_
        refine wc_cutB 61 (decide (300 < t.length + d.length + ti.length ∨ (40 < a.classes.length ∨ 40 < a.pairs.length ∨ 600 < longN a) ∨ 9 < args.length ∨ 9 < cites.length)) (ρk := [(0, _), (1, _), (5, _), (6, _), (7, _)]) ⟨rfl, rfl, rfl, rfl, rfl, trivial⟩ ?_ ?_
        ·
          refine wc_region ?_
          refine rl_y (y_field_p rfl Tryd.f46' rfl (by decide) rfl) rfl ?_
          refine rl_y (y_load_p rfl Tryd.k9 rfl rfl rfl (vs := [_]) rfl rfl rfl) rfl ?_
          refine rl_y (y_len_str rfl rfl Tryd.str9 rfl) rfl ?_
          refine rl_y (y_field_p rfl Tryd.f46' rfl (by decide) rfl) rfl ?_
          refine rl_y (y_load_p rfl Tryd.k9 rfl rfl rfl (vs := [_]) rfl rfl rfl) rfl ?_
          refine rl_y (y_len_str rfl rfl Tryd.str9 rfl) rfl ?_
          refine rl_y (y_add rfl rfl rfl (wrap64_id (by omega))) rfl ?_
          refine rl_y (y_field_p rfl Tryd.f46' rfl (by decide) rfl) rfl ?_
          refine rl_y (y_load_p rfl Tryd.k9 rfl rfl rfl (vs := [_]) rfl rfl rfl) rfl ?_
          refine rl_y (y_len_str rfl rfl Tryd.str9 rfl) rfl ?_
          refine rl_y (y_add rfl rfl rfl (wrap64_id (by omega))) rfl ?_
          refine rl_y (y_gtr rfl rfl rfl) rfl ?_
          refine rl_y (y_move rfl rfl) rfl ?_
          rcases Bool.eq_false_or_eq_true (decide ((300 : Int) < (t.length : Int) + d.length + ti.length)) with hg8_12 | hg8_12
          ·
            simp only [hg8_12]
            refine rl_off rfl rfl rfl rfl ?_
            refine rl_off rfl rfl rfl rfl ?_
            refine rl_off rfl rfl rfl rfl ?_
            refine rl_y (y_pick_t rfl rfl rfl) rfl ?_
            refine rl_y (y_move rfl rfl) rfl ?_
            refine rl_off rfl rfl rfl rfl ?_
            refine rl_off rfl rfl rfl rfl ?_
            refine rl_off rfl rfl rfl rfl ?_
            refine rl_off rfl rfl rfl rfl ?_
            refine rl_y (y_pick_t rfl rfl rfl) rfl ?_
            refine rl_y (y_move rfl rfl) rfl ?_
            refine rl_off rfl rfl rfl rfl ?_
            refine rl_off rfl rfl rfl rfl ?_
            refine rl_off rfl rfl rfl rfl ?_
            refine rl_off rfl rfl rfl rfl ?_
            refine rl_y (y_pick_t rfl rfl rfl) rfl ?_
            exact cutB_end rfl ⟨rfl, rfl, rfl, rfl, rfl, trivial⟩ (by (first | refine (decide_eq_true ?_).symm | refine (decide_eq_false ?_).symm | refine decide_eq_decide.2 ?_ | refine decide_eq_true ?_ | refine decide_eq_false ?_) <;> (try unfold NodeSm) <;> (try simp only [decide_eq_true_eq, decide_eq_false_iff_not] at *) <;> omega)
          ·
            simp only [hg8_12]
            refine rl_on rfl rfl ?_
            refine rl_y (y_field_p rfl Tryd.f46' rfl (by decide) rfl) rfl ?_
            refine rl_on rfl rfl ?_
            refine rl_y (y_load_p rfl Tryd.k39 rfl rfl rfl (vs := [_, _, _]) rfl rfl rfl) rfl ?_
            refine rl_on rfl rfl ?_
            refine rl_do rfl rfl ?_
            refine do_call_f (caps := []) trivial rfl rfl Tryd.c41 rfl (FnP.mono (long_fn a _ _ u oka s1 s2) ?_)
            rintro v u1 hle1 rfl
            refine rl_y (y_pick_f rfl rfl rfl) rfl ?_
            refine rl_y (y_move rfl rfl) rfl ?_
            rcases Bool.eq_false_or_eq_true (decide (40 < a.classes.length ∨ 40 < a.pairs.length ∨ 600 < longN a)) with hg8_17 | hg8_17
            ·
              simp only [hg8_17]
              refine rl_off rfl rfl rfl rfl ?_
              refine rl_off rfl rfl rfl rfl ?_
              refine rl_off rfl rfl rfl rfl ?_
              refine rl_off rfl rfl rfl rfl ?_
              refine rl_y (y_pick_t rfl rfl rfl) rfl ?_
              refine rl_y (y_move rfl rfl) rfl ?_
              refine rl_off rfl rfl rfl rfl ?_
              refine rl_off rfl rfl rfl rfl ?_
              refine rl_off rfl rfl rfl rfl ?_
              refine rl_off rfl rfl rfl rfl ?_
              refine rl_y (y_pick_t rfl rfl rfl) rfl ?_
              exact cutB_end rfl ⟨rfl, rfl, rfl, rfl, rfl, trivial⟩ (by (first | refine (decide_eq_true ?_).symm | refine (decide_eq_false ?_).symm | refine decide_eq_decide.2 ?_ | refine decide_eq_true ?_ | refine decide_eq_false ?_) <;> (try unfold NodeSm) <;> (try simp only [decide_eq_true_eq, decide_eq_false_iff_not] at *) <;> omega)
            ·
              simp only [hg8_17]
              refine rl_on rfl rfl ?_
              refine rl_y (y_field_p rfl Tryd.f46' rfl (by decide) rfl) rfl ?_
              refine rl_on rfl rfl ?_
              refine rl_y (y_load_p rfl Tryd.k29 rfl rfl rfl (vs := [_]) rfl rfl rfl) rfl ?_
              refine rl_on rfl rfl ?_
              refine rl_y (y_len_v rfl rfl Tryd.s29 rfl) rfl ?_
              refine rl_on rfl rfl ?_
              refine rl_y (y_gtr rfl rfl rfl) rfl ?_
              refine rl_y (y_pick_f rfl rfl rfl) rfl ?_
              refine rl_y (y_move rfl rfl) rfl ?_
              rcases Bool.eq_false_or_eq_true (decide ((9 : Int) < args.length)) with hg8_23 | hg8_23
              ·
                simp only [hg8_23]
                refine rl_off rfl rfl rfl rfl ?_
                refine rl_off rfl rfl rfl rfl ?_
                refine rl_off rfl rfl rfl rfl ?_
                refine rl_off rfl rfl rfl rfl ?_
                refine rl_y (y_pick_t rfl rfl rfl) rfl ?_
                exact cutB_end rfl ⟨rfl, rfl, rfl, rfl, rfl, trivial⟩ (by (first | refine (decide_eq_true ?_).symm | refine (decide_eq_false ?_).symm | refine decide_eq_decide.2 ?_ | refine decide_eq_true ?_ | refine decide_eq_false ?_) <;> (try unfold NodeSm) <;> (try simp only [decide_eq_true_eq, decide_eq_false_iff_not] at *) <;> omega)
              ·
                simp only [hg8_23]
                refine rl_on rfl rfl ?_
                refine rl_y (y_field_p rfl Tryd.f46' rfl (by decide) rfl) rfl ?_
                refine rl_on rfl rfl ?_
                refine rl_y (y_load_p rfl Tryd.k44 rfl rfl rfl (vs := [_]) rfl rfl rfl) rfl ?_
                refine rl_on rfl rfl ?_
                refine rl_y (y_len_v rfl rfl Tryd.s44 rfl) rfl ?_
                refine rl_on rfl rfl ?_
                refine rl_y (y_gtr rfl rfl rfl) rfl ?_
                refine rl_y (y_pick_f rfl rfl rfl) rfl ?_
                exact cutB_end rfl ⟨rfl, rfl, rfl, rfl, rfl, trivial⟩ (by (first | refine (decide_eq_true ?_).symm | refine (decide_eq_false ?_).symm | refine decide_eq_decide.2 ?_ | refine decide_eq_true ?_ | refine decide_eq_false ?_) <;> (try unfold NodeSm) <;> (try simp only [decide_eq_true_eq, decide_eq_false_iff_not] at *) <;> omega)
        refine q_then ?_
        refine wc_cond rfl (fun hb8 => ?_) (fun hb8 => ?_)
        ·
          refine wc_seq ?_
          refine wc_region ?_
          refine rl_y (y_assign rfl rfl) rfl ?_
          refine rl_end (ρ' := [(4, _)]) ⟨rfl, trivial⟩ ?_
          refine q_then ?_
          refine wc_ret ?_
          refine q_then_ret ?_
          refine q_block_ret ?_
          refine q_then_ret ?_
          refine q_then_ret ?_
          refine q_block_ret ?_
          refine q_then_ret ?_
          refine fin1 (.tmp rfl) ?_
          exact ⟨1000, rfl, by omega, by omega, fun h => absurd h (by omega)⟩
        ·
          refine wc_skip ?_
          refine q_then ?_
          refine wc_seq ?_
          refine wc_seq ?_
          refine wc_region ?_
          refine rl_y (y_assign rfl rfl) rfl ?_
          refine rl_end (ρ' := [(0, _), (1, _), (5, _), (6, _), (7, _), (8, _)]) ⟨rfl, rfl, rfl, rfl, rfl, rfl, trivial⟩ ?_
          refine q_then ?_
          refine wc_block ?_
          refine wc_loop (fun m ρ σ u' => ∃ j : Nat, j + m = args.length ∧ VLe u u' ∧ ∃ (n2 : Int), σ = [(7, (none, .box (inlV k t d ti a.id vc vp (.slice ada args.length capa) (.slice adt cites.length capt) vk)))] ∧ ρ = [(0, .v (.slice ad xs.length cap)), (1, .v (.int .i64 dp)), (5, .v (.int .i64 n2)), (6, .v (.int .i64 i)), (7, .p 7 0), (8, .v (.int .i64 j))] ∧ (u = u' ∧ n ≤ n2 ∧ n2 ≤ n + j * 3518437208781 ∧ (n2 < 1000 → ∀ s ∈ args.take j, s.length ≤ 50000))) (args.length) ?_ ?_
          ·
            refine ⟨[(0, _), (1, _), (5, _), (6, _), (7, _), (8, _)], [(7, _)], ⟨rfl, rfl, rfl, rfl, rfl, rfl, trivial⟩, ⟨rfl, trivial⟩, 0, by omega, VLe.refl _, n, (by first | rfl | simp), (by first | rfl | (simp only [List.cons.injEq, Prod.mk.injEq, SV.v.injEq, Value.int.injEq, true_and, and_true]; omega) | simp), ?_⟩
            exact ⟨rfl, by omega, by omega, fun _ s hs => by simp at hs⟩
          ·
            rintro mj ρ σ u' ⟨j, hi11, hle11, n2, rfl, rfl, ⟨rfl, hn1, hn2, hq2⟩⟩
            refine wc_seq ?_
            refine wc_seq ?_
            refine wc_region ?_
            refine rl_y (y_move rfl rfl) rfl ?_
            refine rl_y (y_field_p rfl Tryd.f46' rfl (by decide) rfl) rfl ?_
            refine rl_y (y_load_p rfl Tryd.k29 rfl rfl rfl (vs := [_]) rfl rfl rfl) rfl ?_
            refine rl_y (y_len_v rfl rfl Tryd.s29 rfl) rfl ?_
            refine rl_y (y_lss rfl rfl rfl) rfl ?_
            refine rl_end (ρ' := [(0, _), (1, _), (5, _), (6, _), (7, _), (8, _), (66, _)]) ⟨rfl, rfl, rfl, rfl, rfl, rfl, rfl, trivial⟩ ?_
            refine q_then ?_
            refine wc_cond rfl (fun hb11 => ?_) (fun hb11 => ?_)
            ·
              refine wc_skip ?_
              refine q_then ?_
              refine wc_seq ?_
              refine wc_block ?_
              have hlt2 : j < args.length := by have := of_decide_eq_true hb11; omega
              have hga := List.getElem?_eq_getElem hlt2
              have hcc := cut_strsC hga
              have hsl := okargs2 _ (List.mem_of_getElem? hga)
              have h8 := of_decide_eq_false hb8
              refine wc_region ?_
              refine rl_y (y_move rfl rfl) rfl ?_
              refine rl_y (y_field_p rfl Tryd.f46' rfl (by decide) rfl) rfl ?_
              refine rl_y (y_load_p rfl Tryd.k29 rfl rfl rfl (vs := [_]) rfl rfl rfl) rfl ?_
              refine rl_y (y_move rfl rfl) rfl ?_
              refine rl_y (y_index_e rfl Tryd.s29 rfl rfl (by assumption) (by first | rfl | omega) (by omega)) rfl ?_
              refine rl_y (y_load_el rfl Tryd.k9 rfl (by assumption) (by omega) (by assumption) (vs := [_]) rfl rfl rfl rfl) rfl ?_
              refine rl_y (y_len_str rfl rfl Tryd.str9 rfl) rfl ?_
              refine rl_y (y_quoE rfl rfl rfl (by omega) (by omega) (by omega)) rfl ?_
              refine rl_y (y_add rfl rfl rfl (wrap64_id (by omega))) rfl ?_
              refine rl_y (y_assign rfl rfl) rfl ?_
              refine rl_end (ρ' := [(0, _), (1, _), (5, _), (6, _), (7, _), (8, _)]) ⟨rfl, rfl, rfl, rfl, rfl, rfl, trivial⟩ ?_
              refine q_block ?_
              refine q_then ?_
              refine wc_region ?_
              refine rl_y (y_move rfl rfl) rfl ?_
              refine rl_y (y_add rfl rfl rfl (wrap64_id (by omega))) rfl ?_
              refine rl_y (y_assign rfl rfl) rfl ?_
              refine rl_end (ρ' := [(0, _), (1, _), (5, _), (6, _), (7, _), (8, _)]) ⟨rfl, rfl, rfl, rfl, rfl, rfl, trivial⟩ ?_
              refine q_thenK ?_
              refine ⟨mj - 1, [(0, _), (1, _), (5, _), (6, _), (7, _), (8, _)], [(7, _)], by omega, ⟨rfl, rfl, rfl, rfl, rfl, rfl, trivial⟩, ⟨rfl, trivial⟩, j + 1, by omega, hle11, _, (by first | rfl | simp), (by first | rfl | (simp only [List.cons.injEq, Prod.mk.injEq, SV.v.injEq, Value.int.injEq, true_and, and_true]; omega) | simp), ?_⟩
              refine ⟨rfl, by omega, by omega, fun h s hs => ?_⟩; rcases mem_take_succ hga hs with hs | rfl; exact hq2 (by omega) s hs; omega
            ·
              refine wc_exit ?_
              refine q_then_exit ?_
              refine q_then_exit ?_
              refine q_block_hit ?_
              refine q_then ?_
              refine wc_seq ?_
              refine wc_seq ?_
              refine wc_region ?_
              refine rl_y (y_assign rfl rfl) rfl ?_
              refine rl_end (ρ' := [(0, _), (1, _), (5, _), (6, _), (7, _), (9, _)]) ⟨rfl, rfl, rfl, rfl, rfl, rfl, trivial⟩ ?_
              refine q_then ?_
              refine wc_block ?_
              refine wc_loop (fun m ρ σ u' => ∃ j : Nat, j + m = cites.length ∧ VLe u u' ∧ ∃ (n3 : Int), σ = [(7, (none, .box (inlV k t d ti a.id vc vp (.slice ada args.length capa) (.slice adt cites.length capt) vk)))] ∧ ρ = [(0, .v (.slice ad xs.length cap)), (1, .v (.int .i64 dp)), (5, .v (.int .i64 n3)), (6, .v (.int .i64 i)), (7, .p 7 0), (9, .v (.int .i64 j))] ∧ (u = u' ∧ n2 ≤ n3 ∧ n3 ≤ n2 + j * 10555311626345 ∧ (n3 < 1000 → ∀ c ∈ cites.take j, c.key.length + c.pre.length + c.suf.length ≤ 50000))) (cites.length) ?_ ?_
              ·
                refine ⟨[(0, _), (1, _), (5, _), (6, _), (7, _), (9, _)], [(7, _)], ⟨rfl, rfl, rfl, rfl, rfl, rfl, trivial⟩, ⟨rfl, trivial⟩, 0, by omega, VLe.refl _, n2, (by first | rfl | simp), (by first | rfl | (simp only [List.cons.injEq, Prod.mk.injEq, SV.v.injEq, Value.int.injEq, true_and, and_true]; omega) | simp), ?_⟩
                exact ⟨rfl, by omega, by omega, fun _ s hs => by simp at hs⟩
              ·
                rintro mj ρ σ u' ⟨j, hi15, hle15, n3, rfl, rfl, ⟨rfl, hn3, hn4, hq3⟩⟩
                refine wc_seq ?_
                refine wc_seq ?_
                refine wc_region ?_
                refine rl_y (y_move rfl rfl) rfl ?_
                refine rl_y (y_field_p rfl Tryd.f46' rfl (by decide) rfl) rfl ?_
                refine rl_y (y_load_p rfl Tryd.k44 rfl rfl rfl (vs := [_]) rfl rfl rfl) rfl ?_
                refine rl_y (y_len_v rfl rfl Tryd.s44 rfl) rfl ?_
                refine rl_y (y_lss rfl rfl rfl) rfl ?_
                refine rl_end (ρ' := [(0, _), (1, _), (5, _), (6, _), (7, _), (9, _), (82, _)]) ⟨rfl, rfl, rfl, rfl, rfl, rfl, rfl, trivial⟩ ?_
                refine q_then ?_
                refine wc_cond rfl (fun hb15 => ?_) (fun hb15 => ?_)
                ·
                  refine wc_skip ?_
                  refine q_then ?_
                  refine wc_seq ?_
                  refine wc_block ?_
                  refine wc_seq ?_
                  have hlt3 : j < cites.length := by have := of_decide_eq_true hb15; omega
                  have hgc := List.getElem?_eq_getElem hlt3
                  have hcc := cut_citesC hgc
                  have hsl := okcites2 _ (List.mem_of_getElem? hgc)
                  have h8 := of_decide_eq_false hb8
                  have h11 := of_decide_eq_false hb11
                  refine wc_region ?_
                  refine rl_y (y_field_p rfl Tryd.f46' rfl (by decide) rfl) rfl ?_
                  refine rl_y (y_load_p rfl Tryd.k44 rfl rfl rfl (vs := [_]) rfl rfl rfl) rfl ?_
                  refine rl_y (y_move rfl rfl) rfl ?_
                  refine rl_y (y_index_e rfl Tryd.s44 rfl rfl (by assumption) (by first | rfl | omega) (by omega)) rfl ?_
                  refine rl_y (y_load_el rfl Tryd.k86 rfl (by assumption) (by omega) (by assumption) (vs := [_, _, _, _]) rfl rfl rfl rfl) rfl ?_
                  refine rl_do rfl rfl ?_
                  refine do_alloc trivial Tryd.z86 rfl rfl rfl ?_
                  refine rl_do rfl rfl ?_
                  refine do_store_p trivial rfl Tryd.k86 rfl rfl rfl (vs := [_, _, _, _]) rfl rfl (by first | rfl | exact oneAll | exact oneAll2 | simp [Value.oneCell', str]) (Nat.le_of_ble_eq_true rfl) rfl ?_
                  refine rl_end (ρ' := [(0, _), (1, _), (5, _), (6, _), (7, _), (9, _), (10, _)]) ⟨rfl, rfl, rfl, rfl, rfl, rfl, rfl, trivial⟩ ?_
                  refine q_then ?_
                  refine wc_region ?_
                  refine rl_y (y_move rfl rfl) rfl ?_
                  refine rl_y (y_field_p rfl Tryd.f86' rfl (by decide) rfl) rfl ?_
                  refine rl_y (y_load_p rfl Tryd.k9 rfl rfl rfl (vs := [_]) rfl rfl rfl) rfl ?_
                  refine rl_y (y_len_str rfl rfl Tryd.str9 rfl) rfl ?_
                  refine rl_y (y_field_p rfl Tryd.f86' rfl (by decide) rfl) rfl ?_
                  refine rl_y (y_load_p rfl Tryd.k9 rfl rfl rfl (vs := [_]) rfl rfl rfl) rfl ?_
                  refine rl_y (y_len_str rfl rfl Tryd.str9 rfl) rfl ?_
                  refine rl_y (y_add rfl rfl rfl (wrap64_id (by omega))) rfl ?_
                  refine rl_y (y_field_p rfl Tryd.f86' rfl (by decide) rfl) rfl ?_
                  refine rl_y (y_load_p rfl Tryd.k9 rfl rfl rfl (vs := [_]) rfl rfl rfl) rfl ?_
                  refine rl_y (y_len_str rfl rfl Tryd.str9 rfl) rfl ?_
                  refine rl_y (y_add rfl rfl rfl (wrap64_id (by omega))) rfl ?_
                  refine rl_y (y_quoE rfl rfl rfl (by omega) (by omega) (by omega)) rfl ?_
                  refine rl_y (y_add rfl rfl rfl (wrap64_id (by omega))) rfl ?_
                  refine rl_y (y_assign rfl rfl) rfl ?_
                  refine rl_end (ρ' := [(0, _), (1, _), (5, _), (6, _), (7, _), (9, _)]) ⟨rfl, rfl, rfl, rfl, rfl, rfl, trivial⟩ ?_
                  refine q_block ?_
                  refine q_then ?_
                  refine wc_region ?_
                  refine rl_y (y_move rfl rfl) rfl ?_
                  refine rl_y (y_add rfl rfl rfl (wrap64_id (by omega))) rfl ?_
                  refine rl_y (y_assign rfl rfl) rfl ?_
                  refine rl_end (ρ' := [(0, _), (1, _), (5, _), (6, _), (7, _), (9, _)]) ⟨rfl, rfl, rfl, rfl, rfl, rfl, trivial⟩ ?_
                  refine q_thenK ?_
                  refine ⟨mj - 1, [(0, _), (1, _), (5, _), (6, _), (7, _), (9, _)], [(7, _)], by omega, ⟨rfl, rfl, rfl, rfl, rfl, rfl, trivial⟩, ⟨rfl, trivial⟩, j + 1, by omega, hle15, _, (by first | rfl | simp), (by first | rfl | (simp only [List.cons.injEq, Prod.mk.injEq, SV.v.injEq, Value.int.injEq, true_and, and_true]; omega) | simp), ?_⟩
                  refine ⟨rfl, by omega, by omega, fun h s hs => ?_⟩; rcases mem_take_succ hgc hs with hs | rfl; exact hq3 (by omega) s hs; omega
                ·
                  refine wc_exit ?_
                  refine q_then_exit ?_
                  refine q_then_exit ?_
                  refine q_block_hit ?_
                  refine q_then ?_
                  have h8 := of_decide_eq_false hb8
                  have h11 := of_decide_eq_false hb11
                  have h15 := of_decide_eq_false hb15
                  rw [List.take_of_length_le (by omega)] at hq2 hq3
                  refine wc_region ?_
                  refine rl_y (y_move rfl rfl) rfl ?_
                  refine rl_y (y_field_p rfl Tryd.f46' rfl (by decide) rfl) rfl ?_
                  refine rl_y (y_load_p rfl Tryd.k40 rfl rfl rfl (vs := [_]) rfl rfl rfl) rfl ?_
                  refine rl_y (y_move rfl rfl) rfl ?_
                  refine rl_y (y_add rfl rfl rfl (wrap64_id (by omega))) rfl ?_
                  refine rl_do rfl rfl ?_
                  refine do_call_f (caps := []) trivial rfl rfl Tryd.c42 rfl (FnP.mono (ih (fuel - 1) (by omega) (by omega) (dp + 1) vk kids u (by omega) okk s5) ?_)
                  rintro v u1 hle1 ⟨n4, rfl, hn40, hn4b, hn4q⟩
                  refine rl_y (y_add rfl rfl rfl (wrap64_id (by omega))) rfl ?_
                  refine rl_y (y_assign rfl rfl) rfl ?_
                  refine rl_end (ρ' := [(0, _), (1, _), (5, _), (6, _)]) ⟨rfl, rfl, rfl, rfl, trivial⟩ ?_
                  refine q_block ?_
                  refine q_then ?_
                  refine wc_region ?_
                  refine rl_y (y_move rfl rfl) rfl ?_
                  refine rl_y (y_add rfl rfl rfl (wrap64_id (by omega))) rfl ?_
                  refine rl_y (y_assign rfl rfl) rfl ?_
                  refine rl_end (ρ' := [(0, _), (1, _), (5, _), (6, _)]) ⟨rfl, rfl, rfl, rfl, trivial⟩ ?_
                  refine q_thenK ?_
                  refine ⟨m - 1, [(0, _), (1, _), (5, _), (6, _)], [], by omega, ⟨rfl, rfl, rfl, rfl, trivial⟩, trivial, i + 1, by omega, hle5, _, (by first | rfl | simp), (by first | rfl | (simp only [List.cons.injEq, Prod.mk.injEq, SV.v.injEq, Value.int.injEq, true_and, and_true]; omega) | simp), ?_⟩
                  refine ⟨rfl, by omega, by omega, fun h => ?_⟩
                  obtain ⟨q1, q2⟩ := hn4q (by omega)
                  refine ⟨by simp only [sz1] at hsz; omega, smI_take hg hinv2 ?_⟩
                  unfold smI1 NodeSm
                  exact ⟨⟨by omega, by omega, by omega, by omega, by omega, by omega, hq2 (by omega), hq3 (by omega)⟩, q2⟩
      ·
        refine wc_exit ?_
        refine q_then_exit ?_
        refine q_then_exit ?_
        refine q_block_hit ?_
        refine q_then ?_
        refine wc_seq ?_
        refine wc_region ?_
        refine rl_y (y_move rfl rfl) rfl ?_
        refine rl_y (y_assign rfl rfl) rfl ?_
        refine rl_end (ρ' := [(4, _)]) ⟨rfl, trivial⟩ ?_
        refine q_then ?_
        refine wc_ret ?_
        refine fin1 (.tmp rfl) ?_
        have hge := of_decide_eq_false hb5
        refine ⟨n, rfl, hn0, hnb, fun h => ?_⟩
        obtain ⟨q1, q2⟩ := hinv h
        rw [List.take_of_length_le (by omega)] at q1 q2
        exact ⟨by omega, q2⟩
mutual
def smB1 : Blk → Prop
  | .mk _ _ inf t d ti a line kids => inf.length + t.length + d.length + ti.length ≤ 300 ∧ a.classes.length ≤ 40 ∧ a.pairs.length ≤ 40 ∧ longN a ≤ 600 ∧ smI line ∧ smB kids
def smB : List Blk → Prop
  | [] => True
  | x :: xs => smB1 x ∧ smB xs
end
theorem smB_append : ∀ {xs ys : List Blk}, smB xs → smB ys → smB (xs ++ ys)
  | [], ys, _, k => k
  | x :: xs, ys, h, k => by
    unfold smB at h
    rw [List.cons_append]
    unfold smB
    exact ⟨h.1, smB_append h.2 k⟩
theorem szB_append : ∀ (xs ys : List Blk), szB (xs ++ ys) = szB xs + szB ys
  | [], ys => by simp [szB]
  | x :: xs, ys => by
    rw [List.cons_append]
    simp only [szB, szB_append xs ys, Nat.add_assoc]
theorem szB_take {xs : List Blk} {i : Nat} {x : Blk} (h : xs[i]? = some x) : szB (xs.take (i + 1)) = szB (xs.take i) + szb x := by
 obtain ⟨hlt, rfl⟩ := List.getElem?_eq_some_iff.1 h
 rw [List.take_succ_eq_append_getElem hlt, szB_append]
 simp [szB]
theorem smB_take {xs : List Blk} {i : Nat} {x : Blk} (h : xs[i]? = some x) (h1 : smB (xs.take i)) (h2 : smB1 x) : smB (xs.take (i + 1)) := by
 obtain ⟨hlt, rfl⟩ := List.getElem?_eq_some_iff.1 h
 rw [List.take_succ_eq_append_getElem hlt]
 exact smB_append h1 (by unfold smB; exact ⟨h2, by unfold smB; trivial⟩)
theorem smI_get : ∀ {xs : List Inl} {i : Nat} {x : Inl}, smI xs → xs[i]? = some x → smI1 x
  | [], i, x, _, h => by simp at h
  | y :: ys, 0, x, h, hi => by
    simp at hi; subst hi
    unfold smI at h; exact h.1
  | y :: ys, i + 1, x, h, hi => by
    unfold smI at h
    exact smI_get h.2 (by simpa using hi)
theorem smB_get : ∀ {xs : List Blk} {i : Nat} {x : Blk}, smB xs → xs[i]? = some x → smB1 x
  | [], i, x, _, h => by simp at h
  | y :: ys, 0, x, h, hi => by
    simp at hi; subst hi
    unfold smB at h; exact h.1
  | y :: ys, i + 1, x, h, hi => by
    unfold smB at h
    exact smB_get h.2 (by simpa using hi)
theorem heavy_fn (fuel : Nat) : fuel ≤ 21 → ∀ (dp : Int) (v : Value) (xs : List Blk) (u : View), dp = 21 - fuel → xs.length ≤ 140737488351232 → BlkS u v xs →
    FnP Tryd.prog 22 [v, .int .i64 dp] u fun r _ => ∃ n : Int, r = .int .i64 n ∧ 0 ≤ n ∧ n ≤ 1000 + fuel * 5000000000000000 ∧ (n < 1000 → szB xs ≤ n ∧ smB xs) := by
  induction fuel using Nat.strongRecOn with
  | _ fuel ih =>
  intro hf dp v xs u hdp hx ha
  obtain ⟨cs, ⟨ad, cap, rfl, h1⟩, hc1⟩ := ha
  refine FnP.intro [.tmp 4] Tryd.func22 rfl rfl rfl ?_
  intro w0 D hw0
  refine wc_seq ?_
  refine wc_region ?_
  refine rl_y (y_assign rfl rfl) rfl ?_
  refine rl_end (ρ' := [(0, _), (1, _)]) ⟨rfl, rfl, trivial⟩ ?_
  refine q_then ?_
  refine wc_seq ?_
  refine wc_region ?_
  refine rl_y (y_move rfl rfl) rfl ?_
  refine rl_y (y_len_v rfl rfl Tryd.s23 rfl) rfl ?_
  refine rl_y (y_assign rfl rfl) rfl ?_
  refine rl_end (ρ' := [(0, _), (1, _), (5, _)]) ⟨rfl, rfl, rfl, trivial⟩ ?_
  refine q_then ?_
  refine wc_seq ?_
  refine wc_seq ?_
  refine wc_cutB 15 (decide (20 < dp ∨ 200 < xs.length)) (ρk := [(0, _), (1, _), (5, _)]) ⟨rfl, rfl, rfl, trivial⟩ ?_ ?_
  ·
    refine wc_region ?_
    refine rl_y (y_move rfl rfl) rfl ?_
    refine rl_y (y_gtr rfl rfl rfl) rfl ?_
    refine rl_y (y_move rfl rfl) rfl ?_
    rcases Bool.eq_false_or_eq_true (decide ((20 : Int) < dp)) with hg2_2 | hg2_2
    ·
      simp only [hg2_2]
      refine rl_off rfl rfl rfl rfl ?_
      refine rl_off rfl rfl rfl rfl ?_
      refine rl_y (y_pick_t rfl rfl rfl) rfl ?_
      exact cutB_end rfl ⟨rfl, rfl, rfl, trivial⟩ (by (first | refine (decide_eq_true ?_).symm | refine (decide_eq_false ?_).symm | refine decide_eq_decide.2 ?_ | refine decide_eq_true ?_ | refine decide_eq_false ?_) <;> (try unfold longN) <;> (try simp only [decide_eq_true_eq, decide_eq_false_iff_not] at *) <;> omega)
    ·
      simp only [hg2_2]
      refine rl_on rfl rfl ?_
      refine rl_y (y_move rfl rfl) rfl ?_
      refine rl_on rfl rfl ?_
      refine rl_y (y_gtr rfl rfl rfl) rfl ?_
      refine rl_y (y_pick_f rfl rfl rfl) rfl ?_
      exact cutB_end rfl ⟨rfl, rfl, rfl, trivial⟩ (by (first | refine (decide_eq_true ?_).symm | refine (decide_eq_false ?_).symm | refine decide_eq_decide.2 ?_ | refine decide_eq_true ?_ | refine decide_eq_false ?_) <;> (try unfold longN) <;> (try simp only [decide_eq_true_eq, decide_eq_false_iff_not] at *) <;> omega)
  refine q_then ?_
  refine wc_cond rfl (fun hb2 => ?_) (fun hb2 => ?_)
  ·
    refine wc_seq ?_
    refine wc_region ?_
    refine rl_y (y_assign rfl rfl) rfl ?_
    refine rl_end (ρ' := [(4, _)]) ⟨rfl, trivial⟩ ?_
    refine q_then ?_
    refine wc_ret ?_
    refine q_then_ret ?_
    refine fin1 (.tmp rfl) ?_
    exact ⟨1000, rfl, by omega, by omega, fun h => absurd h (by omega)⟩
  ·
    refine wc_skip ?_
    refine q_then ?_
    refine wc_seq ?_
    refine wc_seq ?_
    refine wc_region ?_
    refine rl_y (y_assign rfl rfl) rfl ?_
    refine rl_end (ρ' := [(0, _), (1, _), (5, _), (6, _)]) ⟨rfl, rfl, rfl, rfl, trivial⟩ ?_
    refine q_then ?_
    refine wc_block ?_
    refine wc_loop (fun m ρ σ u' => ∃ i : Nat, i + m = xs.length ∧ VLe u u' ∧ ∃ (n : Int), σ = [] ∧ ρ = [(0, .v (.slice ad xs.length cap)), (1, .v (.int .i64 dp)), (5, .v (.int .i64 n)), (6, .v (.int .i64 i))] ∧ (u = u' ∧ 0 ≤ n ∧ n ≤ 1000 + fuel * 5000000000000000 ∧ (n < 1000 → xs.length + szB (xs.take i) ≤ n + i ∧ smB (xs.take i)))) (xs.length) ?_ ?_
    ·
      refine ⟨[(0, _), (1, _), (5, _), (6, _)], [], ⟨rfl, rfl, rfl, rfl, trivial⟩, trivial, 0, by omega, VLe.refl _, _, (by first | rfl | simp), (by first | rfl | (simp only [List.cons.injEq, Prod.mk.injEq, SV.v.injEq, Value.int.injEq, true_and, and_true]; omega) | simp), ?_⟩
      have := of_decide_eq_false hb2; exact ⟨rfl, by omega, by omega, fun _ => ⟨by simp [szB], by simp [smB]⟩⟩
    ·
      rintro m ρ σ u' ⟨i, hi5, hle5, n, rfl, rfl, ⟨rfl, hn0, hnb, hinv⟩⟩
      refine wc_seq ?_
      refine wc_seq ?_
      refine wc_cutB 23 (decide (i < xs.length ∧ n < 1000)) (ρk := [(0, _), (1, _), (5, _), (6, _)]) ⟨rfl, rfl, rfl, rfl, trivial⟩ ?_ ?_
      ·
        refine wc_region ?_
        refine rl_y (y_move rfl rfl) rfl ?_
        refine rl_y (y_move rfl rfl) rfl ?_
        refine rl_y (y_len_v rfl rfl Tryd.s23 rfl) rfl ?_
        refine rl_y (y_lss rfl rfl rfl) rfl ?_
        refine rl_y (y_move rfl rfl) rfl ?_
        rcases Bool.eq_false_or_eq_true (decide ((i : Int) < xs.length)) with hg5_4 | hg5_4
        ·
          simp only [hg5_4]
          refine rl_on rfl rfl ?_
          refine rl_y (y_move rfl rfl) rfl ?_
          refine rl_on rfl rfl ?_
          refine rl_y (y_lss rfl rfl rfl) rfl ?_
          refine rl_y (y_pick_t rfl rfl rfl) rfl ?_
          exact cutB_end rfl ⟨rfl, rfl, rfl, rfl, trivial⟩ (by (first | refine (decide_eq_true ?_).symm | refine (decide_eq_false ?_).symm | refine decide_eq_decide.2 ?_ | refine decide_eq_true ?_ | refine decide_eq_false ?_) <;> (try unfold longN) <;> (try simp only [decide_eq_true_eq, decide_eq_false_iff_not] at *) <;> omega)
        ·
          simp only [hg5_4]
          refine rl_off rfl rfl rfl rfl ?_
          refine rl_off rfl rfl rfl rfl ?_
          refine rl_y (y_pick_f rfl rfl rfl) rfl ?_
          exact cutB_end rfl ⟨rfl, rfl, rfl, rfl, trivial⟩ (by (first | refine (decide_eq_true ?_).symm | refine (decide_eq_false ?_).symm | refine decide_eq_decide.2 ?_ | refine decide_eq_true ?_ | refine decide_eq_false ?_) <;> (try unfold longN) <;> (try simp only [decide_eq_true_eq, decide_eq_false_iff_not] at *) <;> omega)
      refine q_then ?_
      refine wc_cond rfl (fun hb5 => ?_) (fun hb5 => ?_)
      ·
        refine wc_skip ?_
        refine q_then ?_
        refine wc_seq ?_
        refine wc_block ?_
        refine wc_seq ?_
        have hb := of_decide_eq_true hb5
        have hb2 := of_decide_eq_false hb2
        have hlt : i < xs.length := hb.1
        obtain ⟨k, lv, inf, t, d, ti, a, line, kids, vc, vp, vl, vk, hg, hcut1, s1, s2, s3, s4, hok⟩ := hc1.at hlt
        have oneAll := (hc1.get i _ hg).one
        rw [hcut1] at oneAll
        obtain ⟨okk0, oklv, oki, okt, okd, okti, oka, okl, okk⟩ := hok
        obtain ⟨hinv1, hinv2⟩ := hinv hb.2
        have hsz := szB_take hg
        have hln := len_szB xs
        refine wc_region ?_
        refine rl_y (y_move rfl rfl) rfl ?_
        refine rl_y (y_move rfl rfl) rfl ?_
        refine rl_y (y_index_e rfl Tryd.s23 rfl rfl (by assumption) (by first | rfl | omega) (by omega)) rfl ?_
        refine rl_y (y_load_el rfl Tryd.k42 rfl (by assumption) (by omega) (by assumption) (vs := [_, _, _, _, _, _, _, _, _, _, _]) rfl rfl rfl rfl) rfl ?_
        refine rl_do rfl rfl ?_
        refine do_alloc trivial Tryd.z42 rfl rfl rfl ?_
        refine rl_do rfl rfl ?_
        refine do_store_p trivial rfl Tryd.k42 rfl rfl rfl (vs := [_, _, _, _, _, _, _, _, _, _, _]) rfl rfl (by first | rfl | exact oneAll | exact oneAll2 | simp [Value.oneCell', str]) (Nat.le_of_ble_eq_true rfl) rfl ?_
        refine rl_end (ρ' := [(0, _), (1, _), (5, _), (6, _), (7, _)]) ⟨rfl, rfl, rfl, rfl, rfl, trivial⟩ ?_
        refine q_then ?_
        refine wc_seq ?_
        refine wc_seq ?_
        refine wc_cutB 50 (decide (300 < inf.length + t.length + d.length + ti.length ∨ 40 < a.classes.length ∨ 40 < a.pairs.length ∨ 600 < longN a)) (ρk := [(0, _), (1, _), (5, _), (6, _), (7, _)]) ⟨rfl, rfl, rfl, rfl, rfl, trivial⟩ ?_ ?_
        ·
          refine wc_region ?_
          refine rl_y (y_field_p rfl Tryd.f42' rfl (by decide) rfl) rfl ?_
          refine rl_y (y_load_p rfl Tryd.k9 rfl rfl rfl (vs := [_]) rfl rfl rfl) rfl ?_
          refine rl_y (y_len_str rfl rfl Tryd.str9 rfl) rfl ?_
          refine rl_y (y_field_p rfl Tryd.f42' rfl (by decide) rfl) rfl ?_
          refine rl_y (y_load_p rfl Tryd.k9 rfl rfl rfl (vs := [_]) rfl rfl rfl) rfl ?_
          refine rl_y (y_len_str rfl rfl Tryd.str9 rfl) rfl ?_
          refine rl_y (y_add rfl rfl rfl (wrap64_id (by omega))) rfl ?_
          refine rl_y (y_field_p rfl Tryd.f42' rfl (by decide) rfl) rfl ?_
          refine rl_y (y_load_p rfl Tryd.k9 rfl rfl rfl (vs := [_]) rfl rfl rfl) rfl ?_
          refine rl_y (y_len_str rfl rfl Tryd.str9 rfl) rfl ?_
          refine rl_y (y_add rfl rfl rfl (wrap64_id (by omega))) rfl ?_
          refine rl_y (y_field_p rfl Tryd.f42' rfl (by decide) rfl) rfl ?_
          refine rl_y (y_load_p rfl Tryd.k9 rfl rfl rfl (vs := [_]) rfl rfl rfl) rfl ?_
          refine rl_y (y_len_str rfl rfl Tryd.str9 rfl) rfl ?_
          refine rl_y (y_add rfl rfl rfl (wrap64_id (by omega))) rfl ?_
          refine rl_y (y_gtr rfl rfl rfl) rfl ?_
          refine rl_y (y_move rfl rfl) rfl ?_
          rcases Bool.eq_false_or_eq_true (decide ((300 : Int) < (t.length : Int) + inf.length + d.length + ti.length)) with hg8_16 | hg8_16
          ·
            simp only [hg8_16]
            refine rl_off rfl rfl rfl rfl ?_
            refine rl_off rfl rfl rfl rfl ?_
            refine rl_off rfl rfl rfl rfl ?_
            refine rl_y (y_pick_t rfl rfl rfl) rfl ?_
            exact cutB_end rfl ⟨rfl, rfl, rfl, rfl, rfl, trivial⟩ (by (first | refine (decide_eq_true ?_).symm | refine (decide_eq_false ?_).symm | refine decide_eq_decide.2 ?_ | refine decide_eq_true ?_ | refine decide_eq_false ?_) <;> (try unfold smB1) <;> (try simp only [decide_eq_true_eq, decide_eq_false_iff_not] at *) <;> omega)
          ·
            simp only [hg8_16]
            refine rl_on rfl rfl ?_
            refine rl_y (y_field_p rfl Tryd.f42' rfl (by decide) rfl) rfl ?_
            refine rl_on rfl rfl ?_
            refine rl_y (y_load_p rfl Tryd.k39 rfl rfl rfl (vs := [_, _, _]) rfl rfl rfl) rfl ?_
            refine rl_on rfl rfl ?_
            refine rl_do rfl rfl ?_
            refine do_call_f (caps := []) trivial rfl rfl Tryd.c41 rfl (FnP.mono (long_fn a _ _ u oka s1 s2) ?_)
            rintro v u1 hle1 rfl
            refine rl_y (y_pick_f rfl rfl rfl) rfl ?_
            exact cutB_end rfl ⟨rfl, rfl, rfl, rfl, rfl, trivial⟩ (by (first | refine (decide_eq_true ?_).symm | refine (decide_eq_false ?_).symm | refine decide_eq_decide.2 ?_ | refine decide_eq_true ?_ | refine decide_eq_false ?_) <;> (try unfold smB1) <;> (try simp only [decide_eq_true_eq, decide_eq_false_iff_not] at *) <;> omega)
        refine q_then ?_
        refine wc_cond rfl (fun hb8 => ?_) (fun hb8 => ?_)
        ·
          refine wc_seq ?_
          refine wc_region ?_
          refine rl_y (y_assign rfl rfl) rfl ?_
          refine rl_end (ρ' := [(4, _)]) ⟨rfl, trivial⟩ ?_
          refine q_then ?_
          refine wc_ret ?_
          refine q_then_ret ?_
          refine q_block_ret ?_
          refine q_then_ret ?_
          refine q_then_ret ?_
          refine q_block_ret ?_
          refine q_then_ret ?_
          refine fin1 (.tmp rfl) ?_
          exact ⟨1000, rfl, by omega, by omega, fun h => absurd h (by omega)⟩
        ·
          refine wc_skip ?_
          refine q_then ?_
          refine wc_draw Tryd.mixed rfl [(7, _)] ⟨rfl, trivial⟩ ?_
          refine ra_y (i := 0) rfl (by kernel_rfl) (by kernel_rfl) (by kernel_rfl) (np_block (np_then (np_then (np_block (np_then (np_fin)))))) (y_move rfl rfl) rfl ?_
          refine ra_y (i := 1) rfl (by kernel_rfl) (by kernel_rfl) (by kernel_rfl) (np_block (np_then (np_then (np_block (np_then (np_fin)))))) (y_field_p rfl Tryd.f42' rfl (by decide) rfl) rfl ?_
          refine ra_y (i := 2) rfl (by kernel_rfl) (by kernel_rfl) (by kernel_rfl) (np_block (np_then (np_then (np_block (np_then (np_fin)))))) (y_load_p rfl Tryd.k40 rfl rfl rfl (vs := [_]) rfl rfl rfl) rfl ?_
          refine ra_y (i := 4) rfl (by kernel_rfl) (by kernel_rfl) (by kernel_rfl) (np_block (np_then (np_then (np_block (np_then (np_fin)))))) (y_field_p rfl Tryd.f42' rfl (by decide) rfl) rfl ?_
          refine ra_y (i := 5) rfl (by kernel_rfl) (by kernel_rfl) (by kernel_rfl) (np_block (np_then (np_then (np_block (np_then (np_fin)))))) (y_load_p rfl Tryd.k23 rfl rfl rfl (vs := [_]) rfl rfl rfl) rfl ?_
          refine ra_y (i := 6) rfl (by kernel_rfl) (by kernel_rfl) (by kernel_rfl) (np_block (np_then (np_then (np_block (np_then (np_fin)))))) (y_move rfl rfl) rfl ?_
          refine ra_y (i := 7) rfl (by kernel_rfl) (by kernel_rfl) (by kernel_rfl) (np_block (np_then (np_then (np_block (np_then (np_fin)))))) (y_add rfl rfl rfl (wrap64_id (by omega))) rfl ?_
          refine ra_do (i := 3) rfl rfl (by kernel_rfl) ?_
          refine do_call_f (caps := []) ⟨rfl, trivial⟩ rfl rfl Tryd.c42 rfl (FnP.mono (weight_fn 21 (by omega) 0 vl line u (by omega) okl s3) ?_)
          rintro v u1 hle1 ⟨n4, rfl, hn40, hn4b, hn4q⟩
          refine ra_do (i := 8) rfl rfl (by kernel_rfl) ?_
          refine do_call_f (caps := []) ⟨rfl, trivial⟩ rfl rfl Tryd.c22 rfl (FnP.mono (ih (fuel - 1) (by omega) (by omega) (dp + 1) vk kids u (by omega) okk s4) ?_)
          rintro v u1 hle1 ⟨n5, rfl, hn50, hn5b, hn5q⟩
          refine ra_y (i := 9) rfl (by kernel_rfl) (by kernel_rfl) (by kernel_rfl) (np_block (np_then (np_then (np_block (np_then (np_fin)))))) (y_add rfl rfl rfl (wrap64_id (by omega))) rfl ?_
          refine ra_y (i := 10) rfl (by kernel_rfl) (by kernel_rfl) (by kernel_rfl) (np_block (np_then (np_then (np_block (np_then (np_fin)))))) (y_add rfl rfl rfl (wrap64_id (by omega))) rfl ?_
          refine ra_y (i := 11) rfl (by kernel_rfl) (by kernel_rfl) (by kernel_rfl) (np_block (np_then (np_then (np_block (np_then (np_fin)))))) (y_assign rfl rfl) rfl ?_
          refine ra_end (by kernel_rfl) (ρ' := [(0, _), (1, _), (5, _), (6, _)]) ⟨rfl, rfl, rfl, rfl, trivial⟩ ?_
          refine q_block ?_
          refine q_then ?_
          refine wc_region ?_
          refine rl_y (y_move rfl rfl) rfl ?_
          refine rl_y (y_add rfl rfl rfl (wrap64_id (by omega))) rfl ?_
          refine rl_y (y_assign rfl rfl) rfl ?_
          refine rl_end (ρ' := [(0, _), (1, _), (5, _), (6, _)]) ⟨rfl, rfl, rfl, rfl, trivial⟩ ?_
          refine q_thenK ?_
          refine ⟨m - 1, [(0, _), (1, _), (5, _), (6, _)], [], by omega, ⟨rfl, rfl, rfl, rfl, trivial⟩, trivial, i + 1, by omega, hle5, _, (by first | rfl | simp), (by first | rfl | (simp only [List.cons.injEq, Prod.mk.injEq, SV.v.injEq, Value.int.injEq, true_and, and_true]; omega) | simp), ?_⟩
          refine ⟨rfl, by omega, by omega, fun h => ?_⟩
          obtain ⟨q1, q2⟩ := hn4q (by omega)
          obtain ⟨q3, q4⟩ := hn5q (by omega)
          have h8 := of_decide_eq_false hb8
          refine ⟨by simp only [szb] at hsz; omega, smB_take hg hinv2 ?_⟩
          unfold smB1
          exact ⟨by omega, by omega, by omega, by omega, q2, q4⟩
      ·
        refine wc_exit ?_
        refine q_then_exit ?_
        refine q_then_exit ?_
        refine q_block_hit ?_
        refine q_then ?_
        refine wc_seq ?_
        refine wc_region ?_
        refine rl_y (y_move rfl rfl) rfl ?_
        refine rl_y (y_assign rfl rfl) rfl ?_
        refine rl_end (ρ' := [(4, _)]) ⟨rfl, trivial⟩ ?_
        refine q_then ?_
        refine wc_ret ?_
        refine fin1 (.tmp rfl) ?_
        have hge := of_decide_eq_false hb5
        refine ⟨n, rfl, hn0, hnb, fun h => ?_⟩
        obtain ⟨q1, q2⟩ := hinv h
        rw [List.take_of_length_le (by omega)] at q1 q2
        exact ⟨by omega, q2⟩
/-- a small document -/
def DSm (d : DDoc) : Prop := d.mts.length ≤ 70 ∧ (∀ p ∈ d.mts, p.1.length + p.2.length ≤ 300) ∧ szB d.blocks ≤ 120 ∧ smB d.blocks
theorem small_fn (d : DDoc) (vm vb : Value) (u : View) (hm : PrS u vm d.mts) (hbk : BlkS u vb d.blocks) (hok : DocOk d) :
  FnP Tryd.prog 8 [.agg #[vm, vb]] u fun r _ => ∃ b : Bool, r = .bool b ∧ (b = true → DSm d) := by
 obtain ⟨ad, cap, rfl, h1⟩ := hm
 obtain ⟨⟨okm, okm2⟩, okb⟩ := hok
 refine FnP.intro [.tmp 2] Tryd.func8 rfl rfl rfl ?_
 intro w0 D hw0
 refine wc_seq ?_
 refine wc_region ?_
 refine rl_do rfl rfl ?_
 refine do_box trivial rfl (cs := [_, _]) rfl rfl rfl rfl ?_
 refine rl_y (y_assign rfl rfl) rfl ?_
 refine rl_end (ρ' := [(1, _)]) ⟨rfl, trivial⟩ ?_
 refine q_then ?_
 refine wc_seq ?_
 refine wc_seq ?_
 refine wc_region ?_
 refine rl_y (y_field_p rfl Tryd.f25' rfl (by decide) rfl) rfl ?_
 refine rl_y (y_load_p rfl Tryd.k22 rfl rfl rfl (vs := [_]) rfl rfl rfl) rfl ?_
 refine rl_y (y_len_v rfl rfl Tryd.s22 rfl) rfl ?_
 refine rl_y (y_gtr rfl rfl rfl) rfl ?_
 refine rl_end (ρ' := [(1, _), (7, _)]) ⟨rfl, rfl, trivial⟩ ?_
 refine q_then ?_
 refine wc_cond rfl (fun hb1 => ?_) (fun hb1 => ?_)
 ·
  refine wc_seq ?_
  refine wc_region ?_
  refine rl_y (y_assign rfl rfl) rfl ?_
  refine rl_end (ρ' := [(2, _)]) ⟨rfl, trivial⟩ ?_
  refine q_then ?_
  refine wc_ret ?_
  refine q_then_ret ?_
  refine fin1 (.tmp rfl) ?_
  exact ⟨false, rfl, fun h => by cases h⟩
 ·
  refine wc_skip ?_
  refine q_then ?_
  refine wc_seq ?_
  refine wc_seq ?_
  refine wc_region ?_
  refine rl_y (y_assign rfl rfl) rfl ?_
  refine rl_end (ρ' := [(1, _), (3, _)]) ⟨rfl, rfl, trivial⟩ ?_
  refine q_then ?_
  refine wc_block ?_
  refine wc_loop (fun m ρ σ u' => ∃ i : Nat, i + m = d.mts.length ∧ VLe u u' ∧ σ = [(1, (none, .box [.slice ad d.mts.length cap, vb]))] ∧ ρ = [(1, .p 1 0), (3, .v (.int .i64 i))] ∧ (u = u' ∧ ∀ p ∈ d.mts.take i, p.1.length + p.2.length ≤ 300)) (d.mts.length) ?_ ?_
  ·
   refine ⟨[(1, _), (3, _)], [(1, _)], ⟨rfl, rfl, trivial⟩, ⟨rfl, trivial⟩, 0, by omega, VLe.refl _, (by first | rfl | simp), (by first | rfl | (simp only [List.cons.injEq, Prod.mk.injEq, SV.v.injEq, Value.int.injEq, true_and, and_true]; omega) | simp), ?_⟩
   exact ⟨rfl, fun p hp => by simp at hp⟩
  ·
   rintro m ρ σ u' ⟨i, hi4, hle4, rfl, rfl, ⟨rfl, hinv⟩⟩
   refine wc_seq ?_
   refine wc_seq ?_
   refine wc_region ?_
   refine rl_y (y_move rfl rfl) rfl ?_
   refine rl_y (y_field_p rfl Tryd.f25' rfl (by decide) rfl) rfl ?_
   refine rl_y (y_load_p rfl Tryd.k22 rfl rfl rfl (vs := [_]) rfl rfl rfl) rfl ?_
   refine rl_y (y_len_v rfl rfl Tryd.s22 rfl) rfl ?_
   refine rl_y (y_lss rfl rfl rfl) rfl ?_
   refine rl_end (ρ' := [(1, _), (3, _), (12, _)]) ⟨rfl, rfl, rfl, trivial⟩ ?_
   refine q_then ?_
   refine wc_cond rfl (fun hb4 => ?_) (fun hb4 => ?_)
   ·
    refine wc_skip ?_
    refine q_then ?_
    refine wc_seq ?_
    refine wc_block ?_
    refine wc_seq ?_
    have hlt : i < d.mts.length := by have := of_decide_eq_true hb4; omega
    have hg := List.getElem?_eq_getElem hlt
    have hcc := cut_pairsC hg
    have hsl := okm2 _ (List.mem_of_getElem? hg)
    refine wc_draw Tryd.mixed rfl [(1, _)] ⟨rfl, trivial⟩ ?_
    refine ra_y (i := 0) rfl (by kernel_rfl) (by kernel_rfl) (by kernel_rfl) (np_then (np_block (np_then (np_then (np_block (np_then (np_fin))))))) (y_field_p rfl Tryd.f25' rfl (by decide) rfl) rfl ?_
    refine ra_y (i := 1) rfl (by kernel_rfl) (by kernel_rfl) (by kernel_rfl) (np_then (np_block (np_then (np_then (np_block (np_then (np_fin))))))) (y_load_p rfl Tryd.k22 rfl rfl rfl (vs := [_]) rfl rfl rfl) rfl ?_
    refine ra_y (i := 2) rfl (by kernel_rfl) (by kernel_rfl) (by kernel_rfl) (np_then (np_block (np_then (np_then (np_block (np_then (np_fin))))))) (y_move rfl rfl) rfl ?_
    refine ra_y (i := 3) rfl (by kernel_rfl) (by kernel_rfl) (by kernel_rfl) (np_then (np_block (np_then (np_then (np_block (np_then (np_fin))))))) (y_index_e rfl Tryd.s22 rfl rfl (by assumption) (by first | rfl | omega) (by omega)) rfl ?_
    refine ra_y (i := 4) rfl (by kernel_rfl) (by kernel_rfl) (by kernel_rfl) (np_then (np_block (np_then (np_then (np_block (np_then (np_fin))))))) (y_field_e rfl Tryd.f48' rfl (by decide) rfl) rfl ?_
    refine ra_y (i := 5) rfl (by kernel_rfl) (by kernel_rfl) (by kernel_rfl) (np_then (np_block (np_then (np_then (np_block (np_then (np_fin))))))) (y_load_el rfl Tryd.k9 rfl (by assumption) (by omega) (by assumption) (vs := [_]) rfl rfl rfl rfl) rfl ?_
    refine ra_y (i := 6) rfl (by kernel_rfl) (by kernel_rfl) (by kernel_rfl) (np_then (np_block (np_then (np_then (np_block (np_then (np_fin))))))) (y_len_str rfl rfl Tryd.str9 rfl) rfl ?_
    refine ra_y (i := 7) rfl (by kernel_rfl) (by kernel_rfl) (by kernel_rfl) (np_then (np_block (np_then (np_then (np_block (np_then (np_fin))))))) (y_field_p rfl Tryd.f25' rfl (by decide) rfl) rfl ?_
    refine ra_y (i := 8) rfl (by kernel_rfl) (by kernel_rfl) (by kernel_rfl) (np_then (np_block (np_then (np_then (np_block (np_then (np_fin))))))) (y_load_p rfl Tryd.k22 rfl rfl rfl (vs := [_]) rfl rfl rfl) rfl ?_
    refine ra_y (i := 9) rfl (by kernel_rfl) (by kernel_rfl) (by kernel_rfl) (np_then (np_block (np_then (np_then (np_block (np_then (np_fin))))))) (y_move rfl rfl) rfl ?_
    refine ra_y (i := 10) rfl (by kernel_rfl) (by kernel_rfl) (by kernel_rfl) (np_then (np_block (np_then (np_then (np_block (np_then (np_fin))))))) (y_index_e rfl Tryd.s22 rfl rfl (by assumption) (by first | rfl | omega) (by omega)) rfl ?_
    refine ra_y (i := 11) rfl (by kernel_rfl) (by kernel_rfl) (by kernel_rfl) (np_then (np_block (np_then (np_then (np_block (np_then (np_fin))))))) (y_field_e rfl Tryd.f48' rfl (by decide) rfl) rfl ?_
    refine ra_y (i := 12) rfl (by kernel_rfl) (by kernel_rfl) (by kernel_rfl) (np_then (np_block (np_then (np_then (np_block (np_then (np_fin))))))) (y_load_el rfl Tryd.k9 rfl (by assumption) (by omega) (by assumption) (vs := [_]) rfl rfl rfl rfl) rfl ?_
    refine ra_y (i := 13) rfl (by kernel_rfl) (by kernel_rfl) (by kernel_rfl) (np_then (np_block (np_then (np_then (np_block (np_then (np_fin))))))) (y_len_str rfl rfl Tryd.str9 rfl) rfl ?_
    refine ra_y (i := 14) rfl (by kernel_rfl) (by kernel_rfl) (by kernel_rfl) (np_then (np_block (np_then (np_then (np_block (np_then (np_fin))))))) (y_add rfl rfl rfl (wrap64_id (by omega))) rfl ?_
    refine ra_y (i := 15) rfl (by kernel_rfl) (by kernel_rfl) (by kernel_rfl) (np_then (np_block (np_then (np_then (np_block (np_then (np_fin))))))) (y_gtr rfl rfl rfl) rfl ?_
    refine ra_end (by kernel_rfl) (ρ' := [(1, _), (3, _), (30, _)]) ⟨rfl, rfl, rfl, trivial⟩ ?_
    refine q_then ?_
    refine wc_cond rfl (fun hb6 => ?_) (fun hb6 => ?_)
    ·
     refine wc_seq ?_
     refine wc_region ?_
     refine rl_y (y_assign rfl rfl) rfl ?_
     refine rl_end (ρ' := [(2, _)]) ⟨rfl, trivial⟩ ?_
     refine q_then ?_
     refine wc_ret ?_
     refine q_block_ret ?_
     refine q_then_ret ?_
     refine q_then_ret ?_
     refine q_block_ret ?_
     refine q_then_ret ?_
     refine fin1 (.tmp rfl) ?_
     exact ⟨false, rfl, fun h => by cases h⟩
    ·
     refine wc_skip ?_
     refine q_block ?_
     refine q_then ?_
     refine wc_region ?_
     refine rl_y (y_move rfl rfl) rfl ?_
     refine rl_y (y_add rfl rfl rfl (wrap64_id (by omega))) rfl ?_
     refine rl_y (y_assign rfl rfl) rfl ?_
     refine rl_end (ρ' := [(1, _), (3, _)]) ⟨rfl, rfl, trivial⟩ ?_
     refine q_thenK ?_
     refine ⟨m - 1, [(1, _), (3, _)], [(1, _)], by omega, ⟨rfl, rfl, trivial⟩, ⟨rfl, trivial⟩, i + 1, by omega, hle4, (by first | rfl | simp), (by first | rfl | (simp only [List.cons.injEq, Prod.mk.injEq, SV.v.injEq, Value.int.injEq, true_and, and_true]; omega) | simp), ?_⟩
     have h6 := of_decide_eq_false hb6; refine ⟨rfl, fun p hp => ?_⟩; rcases mem_take_succ hg hp with hs | rfl; exact hinv p hs; omega
   ·
    refine wc_exit ?_
    refine q_then_exit ?_
    refine q_then_exit ?_
    refine q_block_hit ?_
    refine q_then ?_
    refine wc_seq ?_
    refine wc_region ?_
    refine rl_y (y_field_p rfl Tryd.f25' rfl (by decide) rfl) rfl ?_
    refine rl_y (y_load_p rfl Tryd.k23 rfl rfl rfl (vs := [_]) rfl rfl rfl) rfl ?_
    refine rl_do rfl rfl ?_
    refine do_call_f (caps := []) trivial rfl rfl Tryd.c22 rfl (FnP.mono (heavy_fn 21 (by omega) 0 vb d.blocks u (by omega) okb hbk) ?_)
    rintro v u1 hle1 ⟨n, rfl, hn0, hnb, hnq⟩
    refine rl_y (y_leq rfl rfl rfl) rfl ?_
    refine rl_y (y_assign rfl rfl) rfl ?_
    refine rl_end (ρ' := [(2, _)]) ⟨rfl, trivial⟩ ?_
    refine q_then ?_
    refine wc_ret ?_
    refine fin1 (.tmp rfl) ?_
    have h1 := of_decide_eq_false hb1
    have h4 := of_decide_eq_false hb4
    rw [List.take_of_length_le (by omega)] at hinv
    refine ⟨_, rfl, fun h => ?_⟩
    have h := of_decide_eq_true h
    obtain ⟨q1, q2⟩ := hnq (by omega)
    exact ⟨by omega, hinv, by omega, q2⟩
end Go.Proofs.Ythkgcakpjknlbaa
namespace Go.Proofs.Ythkgcakpjknlbaa
open Go Go.Eng
set_option linter.unusedSimpArgs false
set_option linter.unusedVariables false
set_option maxRecDepth 4000
mutual
def deep1 : Inl → List Inl
  | .mk k t d ti a args cites kids => .mk k t d ti a args cites kids :: deep kids
def deep : List Inl → List Inl
  | [] => []
  | x :: xs => deep1 x ++ deep xs
end
mutual
def listb : Blk → List Blk
  | .mk k lv inf t d ti a line kids => .mk k lv inf t d ti a line kids :: listB kids
def listB : List Blk → List Blk
  | [] => []
  | x :: xs => listb x ++ listB xs
end
theorem deep_append : ∀ (xs ys : List Inl), deep (xs ++ ys) = deep xs ++ deep ys
  | [], ys => by simp [deep]
  | x :: xs, ys => by
    rw [List.cons_append]
    simp only [deep, deep_append xs ys, List.append_assoc]
theorem listB_append : ∀ (xs ys : List Blk), listB (xs ++ ys) = listB xs ++ listB ys
  | [], ys => by simp [listB]
  | x :: xs, ys => by
    rw [List.cons_append]
    simp only [listB, listB_append xs ys, List.append_assoc]
theorem deep_take {xs : List Inl} {i : Nat} {x : Inl} (h : xs[i]? = some x) : deep (xs.take (i + 1)) = deep (xs.take i) ++ deep1 x := by
 obtain ⟨hlt, rfl⟩ := List.getElem?_eq_some_iff.1 h
 rw [List.take_succ_eq_append_getElem hlt, deep_append]
 simp [deep]
theorem listB_take {xs : List Blk} {i : Nat} {x : Blk} (h : xs[i]? = some x) : listB (xs.take (i + 1)) = listB (xs.take i) ++ listb x := by
 obtain ⟨hlt, rfl⟩ := List.getElem?_eq_some_iff.1 h
 rw [List.take_succ_eq_append_getElem hlt, listB_append]
 simp [listB]
mutual
theorem deep1_len : ∀ x : Inl, (deep1 x).length = sz1 x
  | .mk k t d ti a args cites kids => by simp only [deep1, sz1, List.length_cons, deep_len kids]; omega
theorem deep_len : ∀ xs : List Inl, (deep xs).length = szI xs
  | [] => rfl
  | x :: xs => by simp only [deep, szI, List.length_append, deep1_len x, deep_len xs]
end
mutual
theorem listb_len : ∀ x : Blk, (listb x).length ≤ szb x
  | .mk k lv inf t d ti a line kids => by have := listB_len kids; simp only [listb, szb, List.length_cons]; omega
theorem listB_len : ∀ xs : List Blk, (listB xs).length ≤ szB xs
  | [] => Nat.le_refl _
  | x :: xs => by have := listb_len x; have := listB_len xs; simp only [listB, szB, List.length_append]; omega
end
theorem szI_take_le : ∀ (xs : List Inl) (i : Nat), szI (xs.take i) ≤ szI xs
  | [], i => by simp
  | x :: xs, 0 => by simp [szI]
  | x :: xs, i + 1 => by have := szI_take_le xs i; simp only [List.take_succ_cons, szI]; omega
theorem szB_take_le : ∀ (xs : List Blk) (i : Nat), szB (xs.take i) ≤ szB xs
  | [], i => by simp
  | x :: xs, 0 => by simp [szB]
  | x :: xs, i + 1 => by have := szB_take_le xs i; simp only [List.take_succ_cons, szB]; omega
theorem inlS_of {u : View} {ad : Option Addr} {cap n : Nat} {xs : List Inl} {cs : List Value} (hn : n = xs.length) (h : SlC u ad n cap 10 cs) (hc : InlsC u xs cs) : InlS u (.slice ad n cap) xs := by
 subst hn
 exact ⟨cs, ⟨ad, cap, rfl, h⟩, hc⟩
theorem blkS_of {u : View} {ad : Option Addr} {cap n : Nat} {xs : List Blk} {cs : List Value} (hn : n = xs.length) (h : SlC u ad n cap 11 cs) (hc : BlksC u xs cs) : BlkS u (.slice ad n cap) xs := by
 subst hn
 exact ⟨cs, ⟨ad, cap, rfl, h⟩, hc⟩
theorem deep_fn (n : Nat) : ∀ (v : Value) (xs : List Inl) (u : View), szI xs ≤ n → szI xs ≤ 1000000 → InlS u v xs →
    FnP Tryd.prog 29 [v] u fun r u' => InlS u' r (deep xs) := by
  induction n using Nat.strongRecOn with
  | _ n ih =>
  intro v xs u hsz hbig ha
  have hlx := len_szI xs
  obtain ⟨cs, ⟨ad, cap, rfl, h1⟩, hc1⟩ := ha
  refine FnP.intro [.tmp 2] Tryd.func29 rfl rfl rfl ?_
  intro w0 D hw0
  refine wc_seq ?_
  refine wc_region ?_
  refine rl_y (y_assign rfl rfl) rfl ?_
  refine rl_end (ρ' := [(0, _)]) ⟨rfl, trivial⟩ ?_
  refine q_then ?_
  refine wc_seq ?_
  refine wc_region ?_
  refine rl_y (y_assign rfl rfl) rfl ?_
  refine rl_own_nil 3 503 46 10 rfl rfl rfl ?_
  refine rl_end (ρ' := [(0, _), (3, _)]) ⟨rfl, rfl, trivial⟩ ?_
  refine q_then ?_
  refine wc_seq ?_
  refine wc_seq ?_
  refine wc_region ?_
  refine rl_y (y_assign rfl rfl) rfl ?_
  refine rl_end (ρ' := [(0, _), (3, _), (4, _)]) ⟨rfl, rfl, rfl, trivial⟩ ?_
  refine q_then ?_
  refine wc_block ?_
  refine wc_loop (fun m ρ σ u' => ∃ i : Nat, i + m = xs.length ∧ VLe u u' ∧ ∃ (acc : List Value), σ = [(503, (none, .row 46 10 (deep (xs.take i)).length acc))] ∧ ρ = [(0, .v (.slice ad xs.length cap)), (3, .s 503), (4, .v (.int .i64 i))] ∧ (InlsC u' (deep (xs.take i)) acc)) (xs.length) ?_ ?_
  ·
    refine ⟨[(0, _), (3, _), (4, _)], [(503, _)], ⟨rfl, rfl, rfl, trivial⟩, ⟨rfl, trivial⟩, 0, by omega, VLe.refl _, [], (by first | rfl | simp), (by first | rfl | (simp only [List.cons.injEq, Prod.mk.injEq, SV.v.injEq, Value.int.injEq, true_and, and_true]; omega) | simp), ?_⟩
    exact InlsC.nil
  ·
    rintro m ρ σ u' ⟨i, hi3, hle3, acc, rfl, rfl, hacc⟩
    have h1' := h1.mono hle3
    have hc1' := hc1.mono hle3
    refine wc_seq ?_
    refine wc_seq ?_
    refine wc_region ?_
    refine rl_y (y_move rfl rfl) rfl ?_
    refine rl_y (y_move rfl rfl) rfl ?_
    refine rl_y (y_len_v rfl rfl Tryd.s40 rfl) rfl ?_
    refine rl_y (y_lss rfl rfl rfl) rfl ?_
    refine rl_end (ρ' := [(0, _), (3, _), (4, _), (8, _)]) ⟨rfl, rfl, rfl, rfl, trivial⟩ ?_
    refine q_then ?_
    refine wc_cond rfl (fun hb3 => ?_) (fun hb3 => ?_)
    ·
      refine wc_skip ?_
      refine q_then ?_
      refine wc_seq ?_
      refine wc_block ?_
      refine wc_seq ?_
      have hlt : i < xs.length := by have := of_decide_eq_true hb3; omega
      obtain ⟨k, t, d, ti, a, args, cites, kids, vc, vp, va, vt, vk, hg, hcut1, s1, s2, s3, s4, s5, hok⟩ := hc1'.at hlt
      have hx := hc1'.get i _ hg
      rw [hcut1] at hx
      have oneAll := hx.one
      have hkid := szI_kids hg
      have hst := szI_take hg
      have hs1 := szI_take_le xs i
      have hs2 := szI_take_le xs (i + 1)
      have hdl := deep_len (xs.take i)
      have hdk := deep_len kids
      simp only [sz1] at hst
      refine wc_region ?_
      refine rl_y (y_move rfl rfl) rfl ?_
      refine rl_y (y_move rfl rfl) rfl ?_
      refine rl_y (y_move rfl rfl) rfl ?_
      refine rl_y (y_index_e rfl Tryd.s40 rfl rfl (by assumption) (by first | rfl | omega) (by omega)) rfl ?_
      refine rl_y (y_load_el rfl Tryd.k46 rfl (by assumption) (by omega) (by assumption) (vs := [_, _, _, _, _, _, _, _, _, _]) rfl rfl rfl rfl) rfl ?_
      refine rl_do rfl rfl ?_
      refine do_buildSlice trivial Tryd.s40 Tryd.z46 (ps := [(_, _)]) rfl (xs := [_, _, _, _, _, _, _, _, _, _]) rfl rfl rfl rfl rfl rfl rfl ?_
      refine rl_do rfl rfl ?_
      refine do_append_s trivial rfl rfl Tryd.s40 Tryd.z46 rfl rfl rfl rfl rfl rfl (by first | rfl | exact oneAll | exact oneAll2 | simp [Value.oneCell', str]) (by omega) (by omega) (ρ' := [(0, _), (4, _)]) ⟨rfl, rfl, trivial⟩ rfl rfl rfl ?_
      refine rl_y (y_assign rfl rfl) rfl ?_
      refine rl_ren 17 503 rfl rfl rfl ?_
      refine rl_end (ρ' := [(0, _), (3, _), (4, _)]) ⟨rfl, rfl, rfl, trivial⟩ ?_
      refine q_then ?_
      refine wc_region ?_
      refine rl_y (y_move rfl rfl) rfl ?_
      refine rl_y (y_move rfl rfl) rfl ?_
      refine rl_y (y_move rfl rfl) rfl ?_
      refine rl_y (y_index_e rfl Tryd.s40 rfl rfl (by assumption) (by first | rfl | omega) (by omega)) rfl ?_
      refine rl_y (y_field_e rfl Tryd.f46' rfl (by decide) rfl) rfl ?_
      refine rl_y (y_load_el rfl Tryd.k40 rfl (by assumption) (by omega) (by assumption) (vs := [_]) rfl rfl rfl rfl) rfl ?_
      refine rl_do rfl rfl ?_
      refine do_call (caps := []) trivial rfl rfl Tryd.c29 rfl (FnP.mono (ih (szI kids) (by omega) vk kids u' (Nat.le_refl _) (by omega) s5) ?_)
      rintro v u1 hle0 ⟨ks, ⟨adk, capk, rfl, hk⟩, hkc⟩ hle1
      refine rl_do rfl rfl ?_
      refine do_append_v trivial rfl rfl Tryd.s40 Tryd.z46 rfl rfl rfl rfl rfl (by assumption) hkc.ones (by omega) (by omega) (ρ' := [(0, _), (4, _)]) ⟨rfl, rfl, trivial⟩ rfl rfl rfl ?_
      refine rl_y (y_assign rfl rfl) rfl ?_
      refine rl_ren 25 503 rfl rfl rfl ?_
      refine rl_end (ρ' := [(0, _), (3, _), (4, _)]) ⟨rfl, rfl, rfl, trivial⟩ ?_
      refine q_block ?_
      refine q_then ?_
      refine wc_region ?_
      refine rl_y (y_move rfl rfl) rfl ?_
      refine rl_y (y_add rfl rfl rfl (wrap64_id (by omega))) rfl ?_
      refine rl_y (y_assign rfl rfl) rfl ?_
      refine rl_end (ρ' := [(0, _), (3, _), (4, _)]) ⟨rfl, rfl, rfl, trivial⟩ ?_
      refine q_thenK ?_
      refine ⟨m - 1, [(0, _), (3, _), (4, _)], [(503, _)], by omega, ⟨rfl, rfl, rfl, trivial⟩, ⟨rfl, trivial⟩, i + 1, by omega, (hle3.trans hle1), _, (by rw [deep_take hg]; simp only [deep1, List.length_append, List.length_cons]; congr 4; omega), (by first | rfl | simp), ?_⟩
      rw [deep_take hg]
      simp only [deep1]
      rw [List.append_assoc]
      exact (hacc.mono hle1).append ((InlsC.one (hx.mono hle1)).append hkc)
    ·
      refine wc_exit ?_
      refine q_then_exit ?_
      refine q_then_exit ?_
      refine q_block_hit ?_
      refine q_then ?_
      refine wc_seq ?_
      refine wc_region ?_
      refine rl_y (y_move rfl rfl) rfl ?_
      refine rl_y (y_assign rfl rfl) rfl ?_
      refine rl_freeze 503 rfl ?_
      intro ad503 cap503 u503 hle503z hsl503
      refine rl_end (ρ' := [(2, _)]) ⟨rfl, trivial⟩ ?_
      refine q_then ?_
      refine wc_ret ?_
      refine fin1 (.tmp rfl) ?_
      have hge := of_decide_eq_false hb3
      rw [List.take_of_length_le (by omega)] at hacc hsl503 ⊢
      exact inlS_of rfl hsl503 (hacc.mono hle503z)
theorem list_fn (n : Nat) : ∀ (v : Value) (xs : List Blk) (u : View), szB xs ≤ n → szB xs ≤ 1000000 → BlkS u v xs →
    FnP Tryd.prog 20 [v] u fun r u' => BlkS u' r (listB xs) := by
  induction n using Nat.strongRecOn with
  | _ n ih =>
  intro v xs u hsz hbig ha
  have hlx := len_szB xs
  obtain ⟨cs, ⟨ad, cap, rfl, h1⟩, hc1⟩ := ha
  refine FnP.intro [.tmp 2] Tryd.func20 rfl rfl rfl ?_
  intro w0 D hw0
  refine wc_seq ?_
  refine wc_region ?_
  refine rl_y (y_assign rfl rfl) rfl ?_
  refine rl_end (ρ' := [(0, _)]) ⟨rfl, trivial⟩ ?_
  refine q_then ?_
  refine wc_seq ?_
  refine wc_region ?_
  refine rl_y (y_assign rfl rfl) rfl ?_
  refine rl_own_nil 3 503 42 11 rfl rfl rfl ?_
  refine rl_end (ρ' := [(0, _), (3, _)]) ⟨rfl, rfl, trivial⟩ ?_
  refine q_then ?_
  refine wc_seq ?_
  refine wc_seq ?_
  refine wc_region ?_
  refine rl_y (y_assign rfl rfl) rfl ?_
  refine rl_end (ρ' := [(0, _), (3, _), (4, _)]) ⟨rfl, rfl, rfl, trivial⟩ ?_
  refine q_then ?_
  refine wc_block ?_
  refine wc_loop (fun m ρ σ u' => ∃ i : Nat, i + m = xs.length ∧ VLe u u' ∧ ∃ (acc : List Value), σ = [(503, (none, .row 42 11 (listB (xs.take i)).length acc))] ∧ ρ = [(0, .v (.slice ad xs.length cap)), (3, .s 503), (4, .v (.int .i64 i))] ∧ (BlksC u' (listB (xs.take i)) acc)) (xs.length) ?_ ?_
  ·
    refine ⟨[(0, _), (3, _), (4, _)], [(503, _)], ⟨rfl, rfl, rfl, trivial⟩, ⟨rfl, trivial⟩, 0, by omega, VLe.refl _, [], (by first | rfl | simp), (by first | rfl | (simp only [List.cons.injEq, Prod.mk.injEq, SV.v.injEq, Value.int.injEq, true_and, and_true]; omega) | simp), ?_⟩
    exact BlksC.nil
  ·
    rintro m ρ σ u' ⟨i, hi3, hle3, acc, rfl, rfl, hacc⟩
    have h1' := h1.mono hle3
    have hc1' := hc1.mono hle3
    refine wc_seq ?_
    refine wc_seq ?_
    refine wc_region ?_
    refine rl_y (y_move rfl rfl) rfl ?_
    refine rl_y (y_move rfl rfl) rfl ?_
    refine rl_y (y_len_v rfl rfl Tryd.s23 rfl) rfl ?_
    refine rl_y (y_lss rfl rfl rfl) rfl ?_
    refine rl_end (ρ' := [(0, _), (3, _), (4, _), (8, _)]) ⟨rfl, rfl, rfl, rfl, trivial⟩ ?_
    refine q_then ?_
    refine wc_cond rfl (fun hb3 => ?_) (fun hb3 => ?_)
    ·
      refine wc_skip ?_
      refine q_then ?_
      refine wc_seq ?_
      refine wc_block ?_
      refine wc_seq ?_
      have hlt : i < xs.length := by have := of_decide_eq_true hb3; omega
      obtain ⟨k, lv, inf, t, d, ti, a, line, kids, vc, vp, vl, vk, hg, hcut1, s1, s2, s3, s4, hok⟩ := hc1'.at hlt
      have hx := hc1'.get i _ hg
      rw [hcut1] at hx
      have oneAll := hx.one
      have hkid := (szB_kids hg).1
      have hst := szB_take hg
      have hs1 := szB_take_le xs i
      have hs2 := szB_take_le xs (i + 1)
      have hdl := listB_len (xs.take i)
      have hdk := listB_len kids
      simp only [szb] at hst
      refine wc_region ?_
      refine rl_y (y_move rfl rfl) rfl ?_
      refine rl_y (y_move rfl rfl) rfl ?_
      refine rl_y (y_move rfl rfl) rfl ?_
      refine rl_y (y_index_e rfl Tryd.s23 rfl rfl (by assumption) (by first | rfl | omega) (by omega)) rfl ?_
      refine rl_y (y_load_el rfl Tryd.k42 rfl (by assumption) (by omega) (by assumption) (vs := [_, _, _, _, _, _, _, _, _, _, _]) rfl rfl rfl rfl) rfl ?_
      refine rl_do rfl rfl ?_
      refine do_buildSlice trivial Tryd.s23 Tryd.z42 (ps := [(_, _)]) rfl (xs := [_, _, _, _, _, _, _, _, _, _, _]) rfl rfl rfl rfl rfl rfl rfl ?_
      refine rl_do rfl rfl ?_
      refine do_append_s trivial rfl rfl Tryd.s23 Tryd.z42 rfl rfl rfl rfl rfl rfl (by first | rfl | exact oneAll | exact oneAll2 | simp [Value.oneCell', str]) (by omega) (by omega) (ρ' := [(0, _), (4, _)]) ⟨rfl, rfl, trivial⟩ rfl rfl rfl ?_
      refine rl_y (y_assign rfl rfl) rfl ?_
      refine rl_ren 17 503 rfl rfl rfl ?_
      refine rl_end (ρ' := [(0, _), (3, _), (4, _)]) ⟨rfl, rfl, rfl, trivial⟩ ?_
      refine q_then ?_
      refine wc_region ?_
      refine rl_y (y_move rfl rfl) rfl ?_
      refine rl_y (y_move rfl rfl) rfl ?_
      refine rl_y (y_move rfl rfl) rfl ?_
      refine rl_y (y_index_e rfl Tryd.s23 rfl rfl (by assumption) (by first | rfl | omega) (by omega)) rfl ?_
      refine rl_y (y_field_e rfl Tryd.f42' rfl (by decide) rfl) rfl ?_
      refine rl_y (y_load_el rfl Tryd.k23 rfl (by assumption) (by omega) (by assumption) (vs := [_]) rfl rfl rfl rfl) rfl ?_
      refine rl_do rfl rfl ?_
      refine do_call (caps := []) trivial rfl rfl Tryd.c20 rfl (FnP.mono (ih (szB kids) (by omega) vk kids u' (Nat.le_refl _) (by omega) s4) ?_)
      rintro v u1 hle0 ⟨ks, ⟨adk, capk, rfl, hk⟩, hkc⟩ hle1
      refine rl_do rfl rfl ?_
      refine do_append_v trivial rfl rfl Tryd.s23 Tryd.z42 rfl rfl rfl rfl rfl (by assumption) hkc.ones (by omega) (by omega) (ρ' := [(0, _), (4, _)]) ⟨rfl, rfl, trivial⟩ rfl rfl rfl ?_
      refine rl_y (y_assign rfl rfl) rfl ?_
      refine rl_ren 25 503 rfl rfl rfl ?_
      refine rl_end (ρ' := [(0, _), (3, _), (4, _)]) ⟨rfl, rfl, rfl, trivial⟩ ?_
      refine q_block ?_
      refine q_then ?_
      refine wc_region ?_
      refine rl_y (y_move rfl rfl) rfl ?_
      refine rl_y (y_add rfl rfl rfl (wrap64_id (by omega))) rfl ?_
      refine rl_y (y_assign rfl rfl) rfl ?_
      refine rl_end (ρ' := [(0, _), (3, _), (4, _)]) ⟨rfl, rfl, rfl, trivial⟩ ?_
      refine q_thenK ?_
      refine ⟨m - 1, [(0, _), (3, _), (4, _)], [(503, _)], by omega, ⟨rfl, rfl, rfl, trivial⟩, ⟨rfl, trivial⟩, i + 1, by omega, (hle3.trans hle1), _, (by rw [listB_take hg]; simp only [listb, List.length_append, List.length_cons]; congr 4; omega), (by first | rfl | simp), ?_⟩
      rw [listB_take hg]
      simp only [listb]
      rw [List.append_assoc]
      exact (hacc.mono hle1).append ((BlksC.one (hx.mono hle1)).append hkc)
    ·
      refine wc_exit ?_
      refine q_then_exit ?_
      refine q_then_exit ?_
      refine q_block_hit ?_
      refine q_then ?_
      refine wc_seq ?_
      refine wc_region ?_
      refine rl_y (y_move rfl rfl) rfl ?_
      refine rl_y (y_assign rfl rfl) rfl ?_
      refine rl_freeze 503 rfl ?_
      intro ad503 cap503 u503 hle503z hsl503
      refine rl_end (ρ' := [(2, _)]) ⟨rfl, trivial⟩ ?_
      refine q_then ?_
      refine wc_ret ?_
      refine fin1 (.tmp rfl) ?_
      have hge := of_decide_eq_false hb3
      rw [List.take_of_length_le (by omega)] at hacc hsl503 ⊢
      exact blkS_of rfl hsl503 (hacc.mono hle503z)
def lineOf : Blk → List Inl
  | .mk _ _ _ _ _ _ _ line _ => line
def szL (L : List Blk) : Nat := (L.map fun b => szI (lineOf b)).sum
def inls (L : List Blk) : List Inl := L.flatMap fun b => deep (lineOf b)
theorem szL_append (a b : List Blk) : szL (a ++ b) = szL a + szL b := by simp [szL]
theorem szL_cons (a : Blk) (b : List Blk) : szL (a :: b) = szI (lineOf a) + szL b := by simp [szL]
mutual
theorem szL_listb : ∀ x : Blk, szL (listb x) ≤ szb x
  | .mk k lv inf t d ti a line kids => by have := szL_listB kids; simp only [listb, szb, szL_cons, lineOf]; omega
theorem szL_listB : ∀ xs : List Blk, szL (listB xs) ≤ szB xs
  | [] => by simp [listB, szL]
  | x :: xs => by have := szL_listb x; have := szL_listB xs; simp only [listB, szB, szL_append]; omega
end
theorem inls_take {L : List Blk} {i : Nat} {x : Blk} (h : L[i]? = some x) : inls (L.take (i + 1)) = inls (L.take i) ++ deep (lineOf x) := by
 obtain ⟨hlt, rfl⟩ := List.getElem?_eq_some_iff.1 h
 rw [List.take_succ_eq_append_getElem hlt]
 simp only [inls, List.flatMap_append, List.flatMap_cons, List.flatMap_nil, List.append_nil]
theorem inls_len (L : List Blk) : (inls L).length = szL L := by
 unfold inls szL
 rw [List.length_flatMap]
 simp only [deep_len]
theorem szL_take {L : List Blk} {i : Nat} {x : Blk} (h : L[i]? = some x) : szL (L.take (i + 1)) = szL (L.take i) + szI (lineOf x) := sum_take _ h
theorem szL_take_le (L : List Blk) (i : Nat) : szL (L.take i) ≤ szL L := by
 have := szL_append (L.take i) (L.drop i)
 rw [List.take_append_drop] at this
 omega
theorem inlines_fn (v : Value) (xs : List Blk) (u : View) (hbig : szB xs ≤ 1000000) (ha : BlkS u v xs) :
  FnP Tryd.prog 21 [v] u fun r u' => InlS u' r (inls (listB xs)) := by
 have hll := listB_len xs
 have hls := szL_listB xs
 refine FnP.intro [.tmp 2] Tryd.func21 rfl rfl rfl ?_
 intro w0 D hw0
 refine wc_seq ?_
 refine wc_region ?_
 refine rl_y (y_assign rfl rfl) rfl ?_
 refine rl_end (ρ' := [(0, _)]) ⟨rfl, trivial⟩ ?_
 refine q_then ?_
 refine wc_seq ?_
 refine wc_region ?_
 refine rl_y (y_assign rfl rfl) rfl ?_
 refine rl_own_nil 3 503 46 10 rfl rfl rfl ?_
 refine rl_end (ρ' := [(0, _), (3, _)]) ⟨rfl, rfl, trivial⟩ ?_
 refine q_then ?_
 refine wc_seq ?_
 refine wc_region ?_
 refine rl_y (y_move rfl rfl) rfl ?_
 refine rl_do rfl rfl ?_
 refine do_call (caps := []) trivial rfl rfl Tryd.c20 rfl (FnP.mono (list_fn _ v xs u (Nat.le_refl _) hbig ha) ?_)
 rintro v uL hle0 ⟨cs, ⟨ad, cap, rfl, h1⟩, hc1⟩ hleL
 refine rl_y (y_assign rfl rfl) rfl ?_
 refine rl_end (ρ' := [(3, _), (4, _)]) ⟨rfl, rfl, trivial⟩ ?_
 refine q_then ?_
 refine wc_seq ?_
 refine wc_seq ?_
 refine wc_region ?_
 refine rl_y (y_assign rfl rfl) rfl ?_
 refine rl_end (ρ' := [(3, _), (4, _), (5, _)]) ⟨rfl, rfl, rfl, trivial⟩ ?_
 refine q_then ?_
 refine wc_block ?_
 refine wc_loop (fun m ρ σ u' => ∃ i : Nat, i + m = (listB xs).length ∧ VLe uL u' ∧ ∃ (acc : List Value), σ = [(503, (none, .row 46 10 (inls ((listB xs).take i)).length acc))] ∧ ρ = [(3, .s 503), (4, .v (.slice ad (listB xs).length cap)), (5, .v (.int .i64 i))] ∧ (InlsC u' (inls ((listB xs).take i)) acc)) ((listB xs).length) ?_ ?_
 ·
  refine ⟨[(3, _), (4, _), (5, _)], [(503, _)], ⟨rfl, rfl, rfl, trivial⟩, ⟨rfl, trivial⟩, 0, by omega, VLe.refl _, [], (by first | rfl | simp), (by first | rfl | (simp only [List.cons.injEq, Prod.mk.injEq, SV.v.injEq, Value.int.injEq, true_and, and_true]; omega) | simp), ?_⟩
  exact InlsC.nil
 ·
  rintro m ρ σ u' ⟨i, hi4, hle4, acc, rfl, rfl, hacc⟩
  have h1' := h1.mono hle4
  have hc1' := hc1.mono hle4
  refine wc_seq ?_
  refine wc_seq ?_
  refine wc_region ?_
  refine rl_y (y_move rfl rfl) rfl ?_
  refine rl_y (y_move rfl rfl) rfl ?_
  refine rl_y (y_len_v rfl rfl Tryd.s23 rfl) rfl ?_
  refine rl_y (y_lss rfl rfl rfl) rfl ?_
  refine rl_end (ρ' := [(3, _), (4, _), (5, _), (11, _)]) ⟨rfl, rfl, rfl, rfl, trivial⟩ ?_
  refine q_then ?_
  refine wc_cond rfl (fun hb4 => ?_) (fun hb4 => ?_)
  ·
   refine wc_skip ?_
   refine q_then ?_
   refine wc_seq ?_
   refine wc_block ?_
   have hlt : i < (listB xs).length := by have := of_decide_eq_true hb4; omega
   obtain ⟨k, lv, inf, t, d, ti, a, line, kids, vc, vp, vl, vk, hg, hcut1, s1, s2, s3, s4, hok⟩ := hc1'.at hlt
   have hst := szL_take hg
   have hs1 := szL_take_le (listB xs) i
   have hs2 := szL_take_le (listB xs) (i + 1)
   have hdl := inls_len ((listB xs).take i)
   have hdk := deep_len line
   simp only [lineOf] at hst
   refine wc_region ?_
   refine rl_y (y_move rfl rfl) rfl ?_
   refine rl_y (y_move rfl rfl) rfl ?_
   refine rl_y (y_move rfl rfl) rfl ?_
   refine rl_y (y_index_e rfl Tryd.s23 rfl rfl (by assumption) (by first | rfl | omega) (by omega)) rfl ?_
   refine rl_y (y_field_e rfl Tryd.f42' rfl (by decide) rfl) rfl ?_
   refine rl_y (y_load_el rfl Tryd.k40 rfl (by assumption) (by omega) (by assumption) (vs := [_]) rfl rfl rfl rfl) rfl ?_
   refine rl_do rfl rfl ?_
   refine do_call (caps := []) trivial rfl rfl Tryd.c29 rfl (FnP.mono (deep_fn _ vl line u' (Nat.le_refl _) (by omega) s3) ?_)
   rintro v u1 hle0 ⟨ks, ⟨adk, capk, rfl, hk⟩, hkc⟩ hle1
   refine rl_do rfl rfl ?_
   refine do_append_v trivial rfl rfl Tryd.s40 Tryd.z46 rfl rfl rfl rfl rfl (by assumption) hkc.ones (by omega) (by omega) (ρ' := [(4, _), (5, _)]) ⟨rfl, rfl, trivial⟩ rfl rfl rfl ?_
   refine rl_y (y_assign rfl rfl) rfl ?_
   refine rl_ren 21 503 rfl rfl rfl ?_
   refine rl_end (ρ' := [(3, _), (4, _), (5, _)]) ⟨rfl, rfl, rfl, trivial⟩ ?_
   refine q_block ?_
   refine q_then ?_
   refine wc_region ?_
   refine rl_y (y_move rfl rfl) rfl ?_
   refine rl_y (y_add rfl rfl rfl (wrap64_id (by omega))) rfl ?_
   refine rl_y (y_assign rfl rfl) rfl ?_
   refine rl_end (ρ' := [(3, _), (4, _), (5, _)]) ⟨rfl, rfl, rfl, trivial⟩ ?_
   refine q_thenK ?_
   refine ⟨m - 1, [(3, _), (4, _), (5, _)], [(503, _)], by omega, ⟨rfl, rfl, rfl, trivial⟩, ⟨rfl, trivial⟩, i + 1, by omega, (hle4.trans hle1), _, (by rw [inls_take hg, List.length_append]; rfl), (by first | rfl | simp), ?_⟩
   rw [inls_take hg]
   exact (hacc.mono hle1).append hkc
  ·
   refine wc_exit ?_
   refine q_then_exit ?_
   refine q_then_exit ?_
   refine q_block_hit ?_
   refine q_then ?_
   refine wc_seq ?_
   refine wc_region ?_
   refine rl_y (y_move rfl rfl) rfl ?_
   refine rl_y (y_assign rfl rfl) rfl ?_
   refine rl_freeze 503 rfl ?_
   intro ad503 cap503 u503 hle503z hsl503
   refine rl_end (ρ' := [(2, _)]) ⟨rfl, trivial⟩ ?_
   refine q_then ?_
   refine wc_ret ?_
   refine fin1 (.tmp rfl) ?_
   have hge := of_decide_eq_false hb4
   rw [List.take_of_length_le (by omega)] at hacc hsl503 ⊢
   exact inlS_of rfl hsl503 (hacc.mono hle503z)
theorem filterMap_take {α β : Type} (f : α → Option β) {xs : List α} {i : Nat} {x : α} (h : xs[i]? = some x) : (xs.take (i + 1)).filterMap f = (xs.take i).filterMap f ++ (f x).toList := by
 obtain ⟨hlt, rfl⟩ := List.getElem?_eq_some_iff.1 h
 rw [List.take_succ_eq_append_getElem hlt, List.filterMap_append]
 congr 1
theorem filterMap_len {α β : Type} (f : α → Option β) (xs : List α) : (xs.filterMap f).length ≤ xs.length := List.length_filterMap_le f xs
def noteName : Blk → Option Bs
  | .mk k _ inf _ _ _ _ _ _ => if k = 14 then some inf else none
def noteNames (L : List Blk) : List Bs := L.filterMap noteName
end Go.Proofs.Ythkgcakpjknlbaa
namespace Go.Proofs.Ythkgcakpjknlbaa
open Go Go.Eng
set_option linter.unusedSimpArgs false
set_option linter.unusedVariables false
set_option maxRecDepth 4000
/-! ### what a document's visitor meets -/
abbrev Ev := Blk ⊕ Inl
def idB : Blk → Bs
  | .mk _ _ _ _ _ _ a _ _ => a.id
def kindB : Blk → Int
  | .mk k _ _ _ _ _ _ _ _ => k
def idI : Inl → Bs
  | .mk _ _ _ _ a _ _ _ => a.id
def kidsI : Inl → List Inl
  | .mk _ _ _ _ _ _ _ kids => kids
def evI (xs : List Inl) : List Ev := (deep xs).map Sum.inr
def evL (L : List Blk) : List Ev := L.flatMap fun b => Sum.inl b :: evI (lineOf b)
def evB (bs : List Blk) : List Ev := evL (listB bs)
theorem evI_take {xs : List Inl} {i : Nat} {x : Inl} (h : xs[i]? = some x) : evI (xs.take (i + 1)) = evI (xs.take i) ++ Sum.inr x :: evI (kidsI x) := by
 unfold evI
 rw [deep_take h]
 cases x
 simp [deep1, kidsI]
theorem evL_append (a b : List Blk) : evL (a ++ b) = evL a ++ evL b := by simp [evL]
theorem evL_take {L : List Blk} {i : Nat} {x : Blk} (h : L[i]? = some x) : evL (L.take (i + 1)) = evL (L.take i) ++ Sum.inl x :: evI (lineOf x) := by
 obtain ⟨hlt, rfl⟩ := List.getElem?_eq_some_iff.1 h
 rw [List.take_succ_eq_append_getElem hlt, evL_append]
 simp [evL]
def kidsB : Blk → List Blk
  | .mk _ _ _ _ _ _ _ _ kids => kids
theorem evB_take {bs : List Blk} {i : Nat} {x : Blk} (h : bs[i]? = some x) : evB (bs.take (i + 1)) = evB (bs.take i) ++ Sum.inl x :: evI (lineOf x) ++ evB (kidsB x) := by
 unfold evB
 rw [listB_take h, evL_append]
 cases x
 simp [listb, evL, kidsB, lineOf]
theorem evI_len (xs : List Inl) : (evI xs).length = szI xs := by simp [evI, deep_len]
mutual
theorem evb_len : ∀ x : Blk, (evL (listb x)).length = szb x
  | .mk k lv inf t d ti a line kids => by
    have := evB_len kids
    unfold evB at this
    rw [listb, szb, evL, List.flatMap_cons, List.length_append, List.length_cons]
    show _ + (evL (listB kids)).length = _
    rw [this, evI_len, lineOf]; omega
theorem evB_len : ∀ xs : List Blk, (evB xs).length = szB xs
  | [] => rfl
  | x :: xs => by
    have h1 := evb_len x
    have h2 := evB_len xs
    unfold evB at h2 ⊢
    rw [listB, evL_append, List.length_append, szB, h1, h2]
end
/-! ### identifiers -/
def nz (s : Bs) : List Bs := if s = [] then [] else [s]
def evId : Ev → Bs
  | .inl b => idB b
  | .inr x => idI x
def namesE (l : List Ev) : List Bs := l.flatMap fun e => nz (evId e)
theorem namesE_append (a b : List Ev) : namesE (a ++ b) = namesE a ++ namesE b := by simp [namesE]
theorem namesE_len (l : List Ev) : (namesE l).length ≤ l.length := by
  induction l with
  | nil => simp [namesE]
  | cons x l ih =>
    have h : (nz (evId x)).length ≤ 1 := by unfold nz; split <;> simp
    have e : namesE (x :: l) = nz (evId x) ++ namesE l := rfl
    rw [e, List.length_append, List.length_cons]; omega
def namesOf (bs : List Blk) : List Bs := namesE (evB bs)
/-! ### references that do not resolve -/
def evNote : Ev → List Bs
  | .inl b => (noteName b).toList
  | .inr _ => []
theorem evNote_all (bs : List Blk) : (evB bs).flatMap evNote = noteNames (listB bs) := by
  unfold evB
  generalize listB bs = L
  induction L with
  | nil => rfl
  | cons b L ih =>
    have h1 : ∀ xs : List Inl, (evI xs).flatMap evNote = [] := by intro xs; simp [evI, List.flatMap_map, evNote]
    have e : evL (b :: L) = Sum.inl b :: evI (lineOf b) ++ evL L := rfl
    rw [e, List.flatMap_append, List.flatMap_cons, h1, List.append_nil, ih]
    unfold noteNames
    rw [List.filterMap_cons]
    cases h : noteName b <;> simp [evNote, h]
def missEv (D N : List Bs) : Ev → List Bs
  | .inl _ => []
  | .inr (.mk k t d _ _ _ _ _) =>
    if k = 14 then (if t ∈ D then [] else [t])
    else if k = 12 then (if t ∈ N then [] else [t])
    else if k = 9 ∧ t = [] ∧ d.head? = some 35 then (if d.tail ∈ D then [] else [d.tail])
    else []
theorem missEv_len (D N : List Bs) (e : Ev) : (missEv D N e).length ≤ 1 := by
  rcases e with b | ⟨k, t, d, ti, a, args, cites, kids⟩
  · simp [missEv]
  · simp only [missEv]
    repeat' split
    all_goals simp
def missE (D N : List Bs) (l : List Ev) : List Bs := l.flatMap (missEv D N)
theorem missE_len (D N : List Bs) (l : List Ev) : (missE D N l).length ≤ l.length := by
  induction l with
  | nil => simp [missE]
  | cons x l ih =>
    have h := missEv_len D N x
    have e : missE D N (x :: l) = missEv D N x ++ missE D N l := rfl
    rw [e, List.length_append, List.length_cons]; omega
def missOf (bs : List Blk) : List Bs := missE (namesOf bs) (noteNames (listB bs)) (evB bs)
theorem missE_inls (D N : List Bs) (bs : List Blk) : missE D N (evB bs) = (inls (listB bs)).flatMap fun x => missEv D N (.inr x) := by
  unfold evB
  generalize listB bs = L
  induction L with
  | nil => rfl
  | cons b L ih =>
    have e : evL (b :: L) = Sum.inl b :: evI (lineOf b) ++ evL L := rfl
    have h1 : ∀ xs : List Inl, missE D N (evI xs) = (deep xs).flatMap fun x => missEv D N (.inr x) := by intro xs; simp [evI, missE, List.flatMap_map]
    have e2 : missE D N (evL (b :: L)) = missE D N (evI (lineOf b)) ++ missE D N (evL L) := by
      rw [e]; simp [missE, missEv]
    rw [e2, ih, h1]
    simp [inls]
/-! ### each once -/
def addOnce (out : List Bs) (s : Bs) : List Bs := if s ∈ out then out else out ++ [s]
def onceL (l : List Bs) : List Bs := l.foldl addOnce []
theorem onceL_snoc (l : List Bs) (s : Bs) : onceL (l ++ [s]) = addOnce (onceL l) s := by simp [onceL]
theorem onceL_mem (l : List Bs) (s : Bs) : s ∈ onceL l ↔ s ∈ l := by
  have key : ∀ (l out : List Bs), s ∈ l.foldl addOnce out ↔ s ∈ out ∨ s ∈ l := by
    intro l
    induction l with
    | nil => intro out; simp
    | cons x l ih =>
      intro out
      rw [List.foldl_cons, ih]
      unfold addOnce
      split
      · rename_i h
        constructor
        · rintro (h1 | h1)
          · exact .inl h1
          · exact .inr (List.mem_cons_of_mem _ h1)
        · rintro (h1 | h1)
          · exact .inl h1
          · rcases List.mem_cons.1 h1 with rfl | h1
            · exact .inl h
            · exact .inr h1
      · simp only [List.mem_append, List.mem_cons, List.not_mem_nil, or_false]
        constructor
        · rintro ((h1 | h1) | h1)
          · exact .inl h1
          · exact .inr (.inl h1)
          · exact .inr (.inr h1)
        · rintro (h1 | h1 | h1)
          · exact .inl (.inl h1)
          · exact .inl (.inr h1)
          · exact .inr h1
  simpa [onceL] using key l []
theorem onceL_head (l : List Bs) : (onceL l).head? = l.head? := by
  have key : ∀ (l out : List Bs), out ≠ [] → (l.foldl addOnce out).head? = out.head? := by
    intro l
    induction l with
    | nil => intro out _; rfl
    | cons x l ih =>
      intro out h
      have h2 : (addOnce out x).head? = out.head? := by
        unfold addOnce
        split
        · rfl
        · cases out with
          | nil => exact absurd rfl h
          | cons y out => rfl
      rw [List.foldl_cons, ih _ (fun e => by rw [e] at h2; cases out with
        | nil => exact h rfl
        | cons y out => cases h2), h2]
  cases l with
  | nil => rfl
  | cons x l =>
    have e : onceL (x :: l) = l.foldl addOnce [x] := rfl
    rw [e, key l [x] (by simp)]; rfl
theorem onceL_len (l : List Bs) : (onceL l).length ≤ l.length := by
  have key : ∀ (l out : List Bs), (l.foldl addOnce out).length ≤ out.length + l.length := by
    intro l
    induction l with
    | nil => intro out; simp
    | cons x l ih =>
      intro out
      have h1 := ih (addOnce out x)
      have h2 : (addOnce out x).length ≤ out.length + 1 := by unfold addOnce; split <;> simp
      rw [List.foldl_cons, List.length_cons]; omega
  simpa [onceL] using key l []
/-- the first of a list that was there before -/
def twice : List Bs → List Bs → Option Bs
  | _, [] => none
  | seen, x :: xs => if x ∈ seen then some x else twice (seen ++ [x]) xs
/-- what Check tells: the name and the error -/
def checkOf (bs : List Blk) : Bs × Int := match twice [] (namesOf bs) with
  | some s => (s, 7)
  | none => match missOf bs with
    | [] => ([], 0)
    | s :: _ => (s, 12)
theorem twice_take {xs : List Bs} {i : Nat} {x : Bs} (h : xs[i]? = some x) (hn : x ∉ xs.take i) (k : twice [] xs = twice (xs.take i) (xs.drop i)) : twice [] xs = twice (xs.take (i + 1)) (xs.drop (i + 1)) := by
 obtain ⟨hlt, rfl⟩ := List.getElem?_eq_some_iff.1 h
 rw [k, List.drop_eq_getElem_cons hlt, twice, if_neg hn, List.take_succ_eq_append_getElem hlt]
theorem twice_hit {xs : List Bs} {i : Nat} {x : Bs} (h : xs[i]? = some x) (hn : x ∈ xs.take i) (k : twice [] xs = twice (xs.take i) (xs.drop i)) : twice [] xs = some x := by
 obtain ⟨hlt, rfl⟩ := List.getElem?_eq_some_iff.1 h
 rw [k, List.drop_eq_getElem_cons hlt, twice, if_pos hn]
end Go.Proofs.Ythkgcakpjknlbaa
namespace Go.Proofs.Ythkgcakpjknlbaa
open Go Go.Eng
set_option linter.unusedSimpArgs false
set_option linter.unusedVariables false
set_option maxRecDepth 4000
/-! ### the plain text of a line -/
mutual
def plain1 : Inl → Bs
  | .mk k t d _ _ _ _ kids =>
    if k = 1 ∨ k = 4 ∨ k = 5 then t
    else if k = 2 ∨ k = 3 then [32]
    else if 6 ≤ k ∧ k ≤ 11 then plain kids
    else if k = 16 then d
    else []
def plain : List Inl → Bs
  | [] => []
  | x :: xs => plain1 x ++ plain xs
end
theorem plain_append : ∀ (xs ys : List Inl), plain (xs ++ ys) = plain xs ++ plain ys
  | [], ys => by simp [plain]
  | x :: xs, ys => by
    rw [List.cons_append]
    simp only [plain, plain_append xs ys, List.append_assoc]
theorem plain_take {xs : List Inl} {i : Nat} {x : Inl} (h : xs[i]? = some x) : plain (xs.take (i + 1)) = plain (xs.take i) ++ plain1 x := by
 obtain ⟨hlt, rfl⟩ := List.getElem?_eq_some_iff.1 h
 rw [List.take_succ_eq_append_getElem hlt, plain_append]
 simp [plain]
/- texts of at most B bytes -/
mutual
def txI1 (B : Nat) : Inl → Prop
  | .mk _ t d ti _ _ _ kids => t.length ≤ B ∧ d.length ≤ B ∧ ti.length ≤ B ∧ txI B kids
def txI (B : Nat) : List Inl → Prop
  | [] => True
  | x :: xs => txI1 B x ∧ txI B xs
end
mutual
theorem plain1_len (B : Nat) (hB : 1 ≤ B) : ∀ x : Inl, txI1 B x → (plain1 x).length ≤ B * sz1 x
  | .mk k t d ti a args cites kids, h => by
    unfold txI1 at h
    have ih := plain_len B hB kids h.2.2.2
    have e : B * sz1 (.mk k t d ti a args cites kids) = B + B * szI kids := by simp only [sz1, Nat.mul_add, Nat.mul_one]
    rw [e]
    simp only [plain1]
    repeat' split
    · omega
    · simp; omega
    · omega
    · omega
    · simp
theorem plain_len (B : Nat) (hB : 1 ≤ B) : ∀ xs : List Inl, txI B xs → (plain xs).length ≤ B * szI xs
  | [], _ => by simp [plain]
  | x :: xs, h => by
    unfold txI at h
    have h1 := plain1_len B hB x h.1
    have h2 := plain_len B hB xs h.2
    simp only [plain, szI, List.length_append, Nat.mul_add]; omega
end
theorem txI_get {B : Nat} : ∀ {xs : List Inl} {i : Nat} {x : Inl}, txI B xs → xs[i]? = some x → txI1 B x
  | [], i, x, _, h => by simp at h
  | y :: ys, 0, x, h, hi => by
    simp at hi; subst hi
    unfold txI at h; exact h.1
  | y :: ys, i + 1, x, h, hi => by
    unfold txI at h
    exact txI_get h.2 (by simpa using hi)
end Go.Proofs.Ythkgcakpjknlbaa
namespace Go.Proofs.Ythkgcakpjknlbaa
open Go Go.Eng
set_option linter.unusedSimpArgs false
set_option linter.unusedVariables false
set_option maxRecDepth 4000
/-! ### a document made anew: lines by g, blocks that kp keeps -/
mutual
def rebb (kp : Blk → Bool) (g : List Inl → List Inl) : Blk → List Blk
  | .mk k lv inf t d ti a line kids => if kp (.mk k lv inf t d ti a line kids) = true then [.mk k lv inf t d ti a (g line) (rebB kp g kids)] else []
def rebB (kp : Blk → Bool) (g : List Inl → List Inl) : List Blk → List Blk
  | [] => []
  | x :: xs => rebb kp g x ++ rebB kp g xs
end
mutual
def evRb (kp : Blk → Bool) (ev : List Inl → List Inl) : Blk → List Inl
  | .mk k lv inf t d ti a line kids => if kp (.mk k lv inf t d ti a line kids) = true then ev line ++ evRB kp ev kids else []
def evRB (kp : Blk → Bool) (ev : List Inl → List Inl) : List Blk → List Inl
  | [] => []
  | x :: xs => evRb kp ev x ++ evRB kp ev xs
end
theorem rebB_append (kp : Blk → Bool) (g : List Inl → List Inl) : ∀ (xs ys : List Blk), rebB kp g (xs ++ ys) = rebB kp g xs ++ rebB kp g ys
  | [], ys => by simp [rebB]
  | x :: xs, ys => by
    rw [List.cons_append]
    simp only [rebB, rebB_append kp g xs ys, List.append_assoc]
theorem evRB_append (kp : Blk → Bool) (g : List Inl → List Inl) : ∀ (xs ys : List Blk), evRB kp g (xs ++ ys) = evRB kp g xs ++ evRB kp g ys
  | [], ys => by simp [evRB]
  | x :: xs, ys => by
    rw [List.cons_append]
    simp only [evRB, evRB_append kp g xs ys, List.append_assoc]
theorem rebB_take (kp : Blk → Bool) (g : List Inl → List Inl) {xs : List Blk} {i : Nat} {x : Blk} (h : xs[i]? = some x) : rebB kp g (xs.take (i + 1)) = rebB kp g (xs.take i) ++ rebb kp g x := by
 obtain ⟨hlt, rfl⟩ := List.getElem?_eq_some_iff.1 h
 rw [List.take_succ_eq_append_getElem hlt, rebB_append]
 simp [rebB]
theorem evRB_take (kp : Blk → Bool) (g : List Inl → List Inl) {xs : List Blk} {i : Nat} {x : Blk} (h : xs[i]? = some x) : evRB kp g (xs.take (i + 1)) = evRB kp g (xs.take i) ++ evRb kp g x := by
 obtain ⟨hlt, rfl⟩ := List.getElem?_eq_some_iff.1 h
 rw [List.take_succ_eq_append_getElem hlt, evRB_append]
 simp [evRB]
theorem rebb_len (kp : Blk → Bool) (g : List Inl → List Inl) (x : Blk) : (rebb kp g x).length ≤ 1 := by
 cases x
 simp only [rebb]
 split <;> simp
theorem rebB_len (kp : Blk → Bool) (g : List Inl → List Inl) : ∀ xs : List Blk, (rebB kp g xs).length ≤ xs.length
  | [] => by simp [rebB]
  | x :: xs => by
    have := rebb_len kp g x
    have := rebB_len kp g xs
    simp only [rebB, List.length_append, List.length_cons]; omega
theorem rebB_all (g : List Inl → List Inl) : ∀ xs : List Blk, (rebB (fun _ => true) g xs).length = xs.length
  | [] => rfl
  | x :: xs => by
    cases x
    simp only [rebB, rebb, if_true, List.length_append, List.length_cons, List.length_nil, rebB_all g xs]; omega
/-! ### links in the place of references -/
def attrZ : DAttr := ⟨[], [], []⟩
def textI (s : Bs) : Inl := .mk 1 s [] [] attrZ [] [] []
def linkI (t s : Bs) : Inl := .mk 9 [] (35 :: t) [] attrZ [] [] [textI s]
mutual
def resI1 (f : Bs → Bs → Bs) : Inl → Inl
  | .mk k t d ti a args cites kids => if k = 14 then linkI t (f t ti) else .mk k t d ti a args cites (resI f kids)
def resI (f : Bs → Bs → Bs) : List Inl → List Inl
  | [] => []
  | x :: xs => resI1 f x :: resI f xs
end
theorem resI_append (f : Bs → Bs → Bs) : ∀ (xs ys : List Inl), resI f (xs ++ ys) = resI f xs ++ resI f ys
  | [], ys => by simp [resI]
  | x :: xs, ys => by
    rw [List.cons_append]
    simp only [resI, resI_append f xs ys, List.cons_append]
theorem resI_take (f : Bs → Bs → Bs) {xs : List Inl} {i : Nat} {x : Inl} (h : xs[i]? = some x) : resI f (xs.take (i + 1)) = resI f (xs.take i) ++ [resI1 f x] := by
 obtain ⟨hlt, rfl⟩ := List.getElem?_eq_some_iff.1 h
 rw [List.take_succ_eq_append_getElem hlt, resI_append]
 simp [resI]
theorem resI_len (f : Bs → Bs → Bs) : ∀ xs : List Inl, (resI f xs).length = xs.length
  | [] => rfl
  | x :: xs => by simp [resI, resI_len f xs]
/-- what takes the place of an inline itself -/
def repR (f : Bs → Bs → Bs) : Inl → Inl
  | .mk k t d ti a args cites kids => if k = 14 then linkI t (f t ti) else .mk k t d ti a args cites kids
def setK : Inl → List Inl → Inl
  | .mk k t d ti a args cites _, ks => .mk k t d ti a args cites ks
theorem resI1_rep (f : Bs → Bs → Bs) (x : Inl) : resI1 f x = setK (repR f x) (resI f (kidsI (repR f x))) := by
  obtain ⟨k, t, d, ti, a, args, cites, kids⟩ := x
  simp only [resI1, repR]
  by_cases h : k = 14
  · rw [if_pos h, if_pos h]
    simp [linkI, textI, kidsI, setK, resI, resI1]
  · rw [if_neg h, if_neg h]
    simp [kidsI, setK]
/- how much is still to be replaced -/
mutual
def mR1 : Inl → Nat
  | .mk k _ _ _ _ _ _ kids => if k = 14 then 3 else 2 + mRI kids
def mRI : List Inl → Nat
  | [] => 0
  | x :: xs => mR1 x + mRI xs
end
theorem mRI_get : ∀ {xs : List Inl} {i : Nat} {x : Inl}, xs[i]? = some x → mR1 x ≤ mRI xs
  | [], i, x, h => by simp at h
  | y :: ys, 0, x, h => by simp at h; subst h; simp [mRI]
  | y :: ys, i + 1, x, h => by
    have := mRI_get (xs := ys) (i := i) (x := x) (by simpa using h)
    simp only [mRI]; omega
theorem mRI_rep (f : Bs → Bs → Bs) (x : Inl) : mRI (kidsI (repR f x)) < mR1 x := by
  obtain ⟨k, t, d, ti, a, args, cites, kids⟩ := x
  simp only [repR, mR1]
  by_cases h : k = 14
  · rw [if_pos h, if_pos h]; simp [linkI, textI, kidsI, mRI, mR1]
  · rw [if_neg h, if_neg h]; simp only [kidsI]; omega
mutual
theorem mR1_le : ∀ x : Inl, mR1 x ≤ 3 * sz1 x
  | .mk k t d ti a args cites kids => by
    have := mRI_le kids
    simp only [mR1, sz1]
    split <;> omega
theorem mRI_le : ∀ xs : List Inl, mRI xs ≤ 3 * szI xs
  | [] => by simp [mRI]
  | x :: xs => by
    have := mR1_le x
    have := mRI_le xs
    simp only [mRI, szI]; omega
end
theorem len_mRI : ∀ (xs : List Inl), xs.length ≤ mRI xs
  | [] => by simp
  | x :: xs => by
    have := len_mRI xs
    have : 1 ≤ mR1 x := by cases x; simp only [mR1]; split <;> omega
    simp only [mRI, List.length_cons]; omega
/-! ### destinations in the place of labels -/
def destO : Option Blk → Bs
  | some (.mk _ _ _ _ d _ _ _ _) => d
  | none => []
def titleO : Option Blk → Bs
  | some (.mk _ _ _ _ _ ti _ _ _) => ti
  | none => []
/-- has it a label? -/
def labI : Inl → Option Bs
  | .mk k t _ _ _ _ _ _ => if (k = 9 ∨ k = 10) ∧ t ≠ [] then some t else none
def repL (D : Bs → Option Blk) : Inl → Inl
  | .mk k t d ti a args cites kids => if (k = 9 ∨ k = 10) ∧ t ≠ [] then .mk k [] (destO (D t)) (titleO (D t)) a args cites kids else .mk k t d ti a args cites kids
mutual
def lnkI1 (D : Bs → Option Blk) : Inl → Inl
  | .mk k t d ti a args cites kids => if (k = 9 ∨ k = 10) ∧ t ≠ [] then .mk k [] (destO (D t)) (titleO (D t)) a args cites (lnkI D kids) else .mk k t d ti a args cites (lnkI D kids)
def lnkI (D : Bs → Option Blk) : List Inl → List Inl
  | [] => []
  | x :: xs => lnkI1 D x :: lnkI D xs
end
theorem lnkI_append (D : Bs → Option Blk) : ∀ (xs ys : List Inl), lnkI D (xs ++ ys) = lnkI D xs ++ lnkI D ys
  | [], ys => by simp [lnkI]
  | x :: xs, ys => by
    rw [List.cons_append]
    simp only [lnkI, lnkI_append D xs ys, List.cons_append]
theorem lnkI_take (D : Bs → Option Blk) {xs : List Inl} {i : Nat} {x : Inl} (h : xs[i]? = some x) : lnkI D (xs.take (i + 1)) = lnkI D (xs.take i) ++ [lnkI1 D x] := by
 obtain ⟨hlt, rfl⟩ := List.getElem?_eq_some_iff.1 h
 rw [List.take_succ_eq_append_getElem hlt, lnkI_append]
 simp [lnkI]
theorem lnkI_len (D : Bs → Option Blk) : ∀ xs : List Inl, (lnkI D xs).length = xs.length
  | [] => rfl
  | x :: xs => by simp [lnkI, lnkI_len D xs]
theorem lnkI1_rep (D : Bs → Option Blk) (x : Inl) : lnkI1 D x = setK (repL D x) (lnkI D (kidsI (repL D x))) := by
 obtain ⟨k, t, d, ti, a, args, cites, kids⟩ := x
 simp only [lnkI1, repL]
 split <;> simp [kidsI, setK]
theorem kids_repL (D : Bs → Option Blk) (x : Inl) : kidsI (repL D x) = kidsI x := by
 obtain ⟨k, t, d, ti, a, args, cites, kids⟩ := x
 simp only [repL]
 split <;> rfl
/-- all labels have a definition -/
def okX (D : Bs → Option Blk) (x : Inl) : Bool := match labI x with
  | some t => (D t).isSome
  | none => true
def okI (D : Bs → Option Blk) (xs : List Inl) : Bool := (deep xs).all (okX D)
theorem okI_take (D : Bs → Option Blk) {xs : List Inl} {i : Nat} {x : Inl} (h : xs[i]? = some x) : okI D (xs.take (i + 1)) = (okI D (xs.take i) && (okX D x && okI D (kidsI x))) := by
 unfold okI
 rw [deep_take h]
 cases x
 simp [deep1, kidsI]
def notDef (b : Blk) : Bool := decide (kindB b ≠ 15)
/-- all labels of what is kept -/
def okB (D : Bs → Option Blk) (bs : List Blk) : Bool := (evRB notDef deep bs).all (okX D)
def infB : Blk → Bs
  | .mk _ _ inf _ _ _ _ _ _ => inf
def defOf (L : List Blk) (t : Bs) : Option Blk := L.find? fun b => decide (kindB b = 15 ∧ infB b = t)
end Go.Proofs.Ythkgcakpjknlbaa
namespace Go.Proofs.Ythkgcakpjknlbaa
open Go Go.Eng
set_option linter.unusedSimpArgs false
set_option linter.unusedVariables false
set_option maxRecDepth 4000
/-! ### what lies behind the second call -/
mutual
theorem noLab1 (D : Bs → Option Blk) : ∀ x : Inl, ∀ y ∈ deep1 (lnkI1 D x), labI y = none
  | .mk k t d ti a args cites kids, y, hy => by
    simp only [lnkI1] at hy
    split at hy
    · rename_i h
      rw [deep1] at hy
      rcases List.mem_cons.1 hy with rfl | hy
      · simp [labI]
      · exact noLab D kids y hy
    · rename_i h
      rw [deep1] at hy
      rcases List.mem_cons.1 hy with rfl | hy
      · simp only [labI, if_neg h]
      · exact noLab D kids y hy
theorem noLab (D : Bs → Option Blk) : ∀ xs : List Inl, ∀ y ∈ deep (lnkI D xs), labI y = none
  | [], y, hy => by simp [lnkI, deep] at hy
  | x :: xs, y, hy => by
    rw [lnkI, deep, List.mem_append] at hy
    rcases hy with hy | hy
    · exact noLab1 D x y hy
    · exact noLab D xs y hy
end
mutual
theorem lnk_id1 (D : Bs → Option Blk) : ∀ x : Inl, (∀ y ∈ deep1 x, labI y = none) → lnkI1 D x = x
  | .mk k t d ti a args cites kids, h => by
    have h0 := h (.mk k t d ti a args cites kids) (by simp [deep1])
    have h1 := lnk_id D kids fun y hy => h y (by rw [deep1]; exact List.mem_cons_of_mem _ hy)
    simp only [labI] at h0
    have h2 : ¬ ((k = 9 ∨ k = 10) ∧ t ≠ []) := fun h => by rw [if_pos h] at h0; cases h0
    rw [lnkI1, if_neg h2, h1]
theorem lnk_id (D : Bs → Option Blk) : ∀ xs : List Inl, (∀ y ∈ deep xs, labI y = none) → lnkI D xs = xs
  | [], _ => rfl
  | x :: xs, h => by
    rw [lnkI, lnk_id1 D x fun y hy => h y (by rw [deep]; exact List.mem_append_left _ hy), lnk_id D xs fun y hy => h y (by rw [deep]; exact List.mem_append_right _ hy)]
end
mutual
theorem reb_kinds1 (g : List Inl → List Inl) : ∀ x : Blk, ∀ b ∈ listB (rebb notDef g x), kindB b ≠ 15 ∧ ∃ l, lineOf b = g l
  | .mk k lv inf t d ti a line kids, b, hb => by
    simp only [rebb] at hb
    split at hb
    · rename_i h
      simp only [listB, listb, List.append_nil] at hb
      rcases List.mem_cons.1 hb with rfl | hb
      · exact ⟨of_decide_eq_true h, _, rfl⟩
      · exact reb_kinds g kids b hb
    · simp [listB] at hb
theorem reb_kinds (g : List Inl → List Inl) : ∀ xs : List Blk, ∀ b ∈ listB (rebB notDef g xs), kindB b ≠ 15 ∧ ∃ l, lineOf b = g l
  | [], b, hb => by simp [rebB, listB] at hb
  | x :: xs, b, hb => by
    rw [rebB, listB_append, List.mem_append] at hb
    rcases hb with hb | hb
    · exact reb_kinds1 g x b hb
    · exact reb_kinds g xs b hb
end
mutual
theorem reb_id1 (g : List Inl → List Inl) : ∀ x : Blk, (∀ b ∈ listb x, kindB b ≠ 15 ∧ g (lineOf b) = lineOf b) → rebb notDef g x = [x]
  | .mk k lv inf t d ti a line kids, h => by
    have h0 := h (.mk k lv inf t d ti a line kids) (by simp [listb])
    have h1 := reb_id g kids fun b hb => h b (by rw [listb]; exact List.mem_cons_of_mem _ hb)
    have hk : notDef (.mk k lv inf t d ti a line kids) = true := decide_eq_true h0.1
    rw [rebb, if_pos hk, h1]
    have h2 : g line = line := h0.2
    rw [h2]
theorem reb_id (g : List Inl → List Inl) : ∀ xs : List Blk, (∀ b ∈ listB xs, kindB b ≠ 15 ∧ g (lineOf b) = lineOf b) → rebB notDef g xs = xs
  | [], _ => rfl
  | x :: xs, h => by
    rw [rebB, reb_id1 g x fun b hb => h b (by rw [listB]; exact List.mem_append_left _ hb), reb_id g xs fun b hb => h b (by rw [listB]; exact List.mem_append_right _ hb)]
    rfl
end
mutual
theorem evRb_mem (kp : Blk → Bool) : ∀ x : Blk, ∀ y ∈ evRb kp deep x, ∃ b ∈ listb x, y ∈ deep (lineOf b)
  | .mk k lv inf t d ti a line kids, y, hy => by
    simp only [evRb] at hy
    split at hy
    · rcases List.mem_append.1 hy with hy | hy
      · exact ⟨.mk k lv inf t d ti a line kids, by rw [listb]; exact List.mem_cons_self, hy⟩
      · obtain ⟨b, hb, h⟩ := evRB_mem kp kids y hy
        exact ⟨b, by rw [listb]; exact List.mem_cons_of_mem _ hb, h⟩
    · simp at hy
theorem evRB_mem (kp : Blk → Bool) : ∀ xs : List Blk, ∀ y ∈ evRB kp deep xs, ∃ b ∈ listB xs, y ∈ deep (lineOf b)
  | [], y, hy => by simp [evRB] at hy
  | x :: xs, y, hy => by
    rw [evRB, List.mem_append] at hy
    rcases hy with hy | hy
    · obtain ⟨b, hb, h⟩ := evRb_mem kp x y hy
      exact ⟨b, by rw [listB]; exact List.mem_append_left _ hb, h⟩
    · obtain ⟨b, hb, h⟩ := evRB_mem kp xs y hy
      exact ⟨b, by rw [listB]; exact List.mem_append_right _ hb, h⟩
end
/-- the document behind Links -/
def lnkDoc (bs : List Blk) : List Blk := rebB notDef (lnkI (defOf (listB bs))) bs
def lnkOk (bs : List Blk) : Bool := okB (defOf (listB bs)) bs
theorem lnkDoc_kinds (bs : List Blk) : ∀ b ∈ listB (lnkDoc bs), kindB b ≠ 15 ∧ ∀ x ∈ deep (lineOf b), labI x = none := by
 intro b hb
 obtain ⟨h1, l, h2⟩ := reb_kinds _ bs b hb
 exact ⟨h1, fun x hx => noLab _ l x (h2 ▸ hx)⟩
theorem lnkDoc_inls (bs : List Blk) : ∀ x ∈ inls (listB (lnkDoc bs)), labI x = none := by
 intro x hx
 unfold inls at hx
 obtain ⟨b, hb, hx⟩ := List.mem_flatMap.1 hx
 exact (lnkDoc_kinds bs b hb).2 x hx
theorem lnkDoc_again (bs : List Blk) : lnkDoc (lnkDoc bs) = lnkDoc bs := by
 unfold lnkDoc
 exact reb_id _ _ fun b hb => ⟨(lnkDoc_kinds bs b hb).1, lnk_id _ _ (lnkDoc_kinds bs b hb).2⟩
theorem lnkDoc_okAgain (bs : List Blk) : lnkOk (lnkDoc bs) = true := by
 unfold lnkOk okB
 refine List.all_eq_true.2 fun x hx => ?_
 obtain ⟨b, hb, h⟩ := evRB_mem _ _ x hx
 have := (lnkDoc_kinds bs b hb).2 x h
 simp [okX, this]
end Go.Proofs.Ythkgcakpjknlbaa
namespace Go.Proofs.Ythkgcakpjknlbaa
open Go Go.Eng
set_option linter.unusedSimpArgs false
set_option linter.unusedVariables false
set_option maxRecDepth 4000
/-- p is the address of a block (an inline) that lies in the view -/
def PtrB (u : View) (p : Value) (x : Blk) : Prop := ∃ b off c T fr, p = .pointer (some ⟨b, off, none⟩) ∧ u b = some (.cells c T fr) ∧ BlkC u x (cut c.toList off 11)
def PtrI (u : View) (p : Value) (x : Inl) : Prop := ∃ b off c T fr, p = .pointer (some ⟨b, off, none⟩) ∧ u b = some (.cells c T fr) ∧ InlC u x (cut c.toList off 10)
abbrev Ys := View → List Ev → OO → Prop
def MonoY (Y : Ys) : Prop := ∀ u u' pre o, VLe u u' → Y u pre o → Y u' pre o
/-- what the visitor calls for a block (an inline): nothing, or a function that goes on from Y to Y -/
def CbB (fb : Value) (b0 : Nat) (u : View) (Y : Ys) : Prop :=
 (fb = .nilFunc ∧ ∀ u' pre o x, Y u' pre o → Y u' (pre ++ [Sum.inl x]) o) ∨
 ∃ f caps, fb = .func (.func f) #[] caps.toArray ∧ canCall Tryd.prog f = true ∧ ∀ pre o u' p x, VLe u u' → pre.length ≤ 200000 → Y u' pre o → PtrB u' p x →
  FnO Tryd.prog f (p :: caps) u' [(some b0, o)] fun r u'' l' => r = .tuple #[] ∧ ∃ o', l' = [(some b0, o')] ∧ Y u'' (pre ++ [Sum.inl x]) o'
def CbI (fl : Value) (b0 : Nat) (u : View) (Y : Ys) : Prop :=
 (fl = .nilFunc ∧ ∀ u' pre o x, Y u' pre o → Y u' (pre ++ [Sum.inr x]) o) ∨
 ∃ f caps, fl = .func (.func f) #[] caps.toArray ∧ canCall Tryd.prog f = true ∧ ∀ pre o u' p x, VLe u u' → pre.length ≤ 200000 → Y u' pre o → PtrI u' p x →
  FnO Tryd.prog f (p :: caps) u' [(some b0, o)] fun r u'' l' => r = .tuple #[] ∧ ∃ o', l' = [(some b0, o')] ∧ Y u'' (pre ++ [Sum.inr x]) o'
theorem CbB.mono {fb : Value} {b0 : Nat} {u u2 : View} {Y : Ys} (h : CbB fb b0 u Y) (hu : VLe u u2) : CbB fb b0 u2 Y := by
  rcases h with h | ⟨f, caps, h1, h2, h3⟩
  · exact .inl h
  · exact .inr ⟨f, caps, h1, h2, fun pre o u' p x hle => h3 pre o u' p x (hu.trans hle)⟩
theorem CbI.mono {fb : Value} {b0 : Nat} {u u2 : View} {Y : Ys} (h : CbI fb b0 u Y) (hu : VLe u u2) : CbI fb b0 u2 Y := by
  rcases h with h | ⟨f, caps, h1, h2, h3⟩
  · exact .inl h
  · exact .inr ⟨f, caps, h1, h2, fun pre o u' p x hle => h3 pre o u' p x (hu.trans hle)⟩
theorem CbB.fv {fb : Value} {b0 : Nat} {u : View} {Y : Ys} (h : CbB fb b0 u Y) : isFv fb = true := by
 rcases h with ⟨rfl, _⟩ | ⟨f, caps, rfl, _⟩ <;> rfl
theorem CbI.fv {fb : Value} {b0 : Nat} {u : View} {Y : Ys} (h : CbI fb b0 u Y) : isFv fb = true := by
 rcases h with ⟨rfl, _⟩ | ⟨f, caps, rfl, _⟩ <;> rfl
theorem ptrI_of {u : View} {xs : List Inl} {cs : List Value} {b off i : Nat} {c : Array Value} {T : TypeId} {fr : Nat × Nat} {x : Inl} (hc : InlsC u xs cs) (hu : u b = some (.cells c T fr)) (hcut : cut c.toList off (xs.length * 10) = cs) (hg : xs[i]? = some x) : PtrI u (.pointer (some ⟨b, off + i * 10 + 0, none⟩)) x := by
 have hlt : i < xs.length := (List.getElem?_eq_some_iff.1 hg).1
 refine ⟨b, off + i * 10 + 0, c, T, fr, rfl, hu, ?_⟩
 have := hc.get i x hg
 rw [← hcut, cut_cut (by have := Nat.mul_le_mul_right 10 hlt; rw [Nat.succ_mul] at this; omega)] at this
 exact this
theorem ptrB_of {u : View} {xs : List Blk} {cs : List Value} {b off i : Nat} {c : Array Value} {T : TypeId} {fr : Nat × Nat} {x : Blk} (hc : BlksC u xs cs) (hu : u b = some (.cells c T fr)) (hcut : cut c.toList off (xs.length * 11) = cs) (hg : xs[i]? = some x) : PtrB u (.pointer (some ⟨b, off + i * 11 + 0, none⟩)) x := by
 have hlt : i < xs.length := (List.getElem?_eq_some_iff.1 hg).1
 refine ⟨b, off + i * 11 + 0, c, T, fr, rfl, hu, ?_⟩
 have := hc.get i x hg
 rw [← hcut, cut_cut (by have := Nat.mul_le_mul_right 11 hlt; rw [Nat.succ_mul] at this; omega)] at this
 exact this
set_option maxHeartbeats 2000000 in
theorem vInl_fn (fb fl : Value) (b0 : Nat) (Y : Ys) (hM : MonoY Y) (n : Nat) : ∀ (v : Value) (xs : List Inl) (pre : List Ev) (o : OO) (u : View), szI xs ≤ n → pre.length + szI xs ≤ 200000 → InlS u v xs → CbI fl b0 u Y → Y u pre o →
    FnO Tryd.prog 47 [.agg #[fb, fl], v] u [(some b0, o)] fun r u' l' => r = .tuple #[] ∧ ∃ o', l' = [(some b0, o')] ∧ Y u' (pre ++ evI xs) o' := by
  induction n using Nat.strongRecOn with
  | _ n ih =>
  intro v xs pre o u hsz hbig ha hI hY
  have hlx := len_szI xs
  have hfv := hI.fv
  obtain ⟨cs, ⟨ad, cap, rfl, h1⟩, hc1⟩ := ha
  refine FnO.intro [] Tryd.func47 rfl rfl rfl ?_
  intro w0 D hw0
  refine wc_seq ?_
  refine wc_region ?_
  refine rl_do rfl rfl ?_
  refine do_box trivial rfl (cs := [_, _]) rfl rfl rfl rfl ?_
  refine rl_end (ρ' := [(1, _), (2, _)]) ⟨rfl, rfl, trivial⟩ ?_
  refine q_then ?_
  refine wc_seq ?_
  refine wc_region ?_
  refine rl_y (y_move rfl rfl) rfl ?_
  refine rl_y (y_len_v rfl rfl Tryd.s40 rfl) rfl ?_
  refine rl_y (y_move rfl rfl) rfl ?_
  refine rl_end (ρ' := [(1, _), (2, _), (6, _), (7, _)]) ⟨rfl, rfl, rfl, rfl, trivial⟩ ?_
  refine q_then ?_
  refine wc_block ?_
  refine wc_loop (fun m ρ σ u' => ∃ i : Nat, i + m = xs.length ∧ VLe u u' ∧ ∃ (oi : OO), σ = [(2, (none, .box [fb, fl])), (1000, (some b0, oi))] ∧ ρ = [(1, .v (.slice ad xs.length cap)), (2, .p 2 0), (6, .v (.int .i64 xs.length)), (7, .v (.int .i64 i))] ∧ (Y u' (pre ++ evI (xs.take i)) oi)) (xs.length) ?_ ?_
  ·
    refine ⟨[(1, _), (2, _), (6, _), (7, _)], [(2, _), (1000, _)], ⟨rfl, rfl, rfl, rfl, trivial⟩, ⟨rfl, rfl, trivial⟩, 0, by omega, VLe.refl _, o, rfl, rfl, ?_⟩
    simpa [evI, deep] using hY
  ·
    rintro m ρ σ u' ⟨i, hi2, hle2, oi, rfl, rfl, hYi⟩
    refine wc_seq ?_
    refine wc_region ?_
    refine rl_y (y_lss rfl rfl rfl) rfl ?_
    refine rl_end (ρ' := [(1, _), (2, _), (6, _), (7, _), (8, _)]) ⟨rfl, rfl, rfl, rfl, rfl, trivial⟩ ?_
    refine q_then ?_
    refine wc_seq ?_
    refine wc_cond rfl (fun hb2 => ?_) (fun hb2 => ?_)
    ·
      refine wc_skip ?_
      refine q_then ?_
      refine wc_seq ?_
      refine wc_block ?_
      refine wc_seq ?_
      have hlt : i < xs.length := by have := of_decide_eq_true hb2; omega
      have h1 := h1.mono hle2
      have hc1 := hc1.mono hle2
      have hI := hI.mono hle2
      obtain ⟨k, t, d, ti, a, args, cites, kids, vc, vp, va, vt, vk, hg, hcut1, s1, s2, s3, s4, s5, hok⟩ := hc1.at hlt
      have oneAll := (hc1.get i _ hg).one
      rw [hcut1] at oneAll
      have hszk := szI_kids hg
      have hst := szI_take hg
      have hs2 := szI_take_le xs (i + 1)
      have hel := evI_len (xs.take i)
      have het := evI_take hg
      simp only [sz1] at hst
      obtain ⟨b1, off1, c1, T1, fr1, rfl, hu1, hcut2⟩ := h1.block (by omega)
      have hP := ptrI_of hc1 hu1 hcut2 hg
      refine wc_region ?_
      refine rl_y (y_move rfl rfl) rfl ?_
      refine rl_y (y_assign rfl rfl) rfl ?_
      refine rl_end (ρ' := [(1, _), (2, _), (4, _), (6, _), (7, _)]) ⟨rfl, rfl, rfl, rfl, rfl, trivial⟩ ?_
      refine q_then ?_
      refine wc_cut (fun ρ σ uc6 => ∃ (o6 : OO), VLe u' uc6 ∧ σ = [(2, (none, .box [fb, fl])), (1000, (some b0, o6))] ∧ ρ = [(1, .v (.slice (some ⟨b1, off1, none⟩) xs.length cap)), (2, .p 2 0), (4, .v (.int .i64 i)), (6, .v (.int .i64 xs.length)), (7, .v (.int .i64 i))] ∧ (Y uc6 (pre ++ evI (xs.take i) ++ [Sum.inr (.mk k t d ti a args cites kids)]) o6)) ?_ ?_
      ·
        refine wc_seq ?_
        refine wc_region ?_
        refine rl_y (y_field_p rfl Tryd.f58' rfl (by decide) rfl) rfl ?_
        refine rl_y (y_load_p rfl Tryd.k56 rfl rfl rfl (vs := [_]) rfl rfl rfl) rfl ?_
        refine rl_y (y_fn_neqG rfl (by kernel_rfl) rfl rfl hfv) rfl ?_
        refine rl_end (ρ' := [(1, _), (2, _), (4, _), (6, _), (7, _), (12, _)]) ⟨rfl, rfl, rfl, rfl, rfl, rfl, trivial⟩ ?_
        refine q_then ?_
        refine wc_cond rfl (fun hb4 => ?_) (fun hb4 => ?_)
        ·
          rcases hI with ⟨rfl, hI⟩ | ⟨fB, cB, rfl, hcB, hI⟩; exact absurd hb4 (by decide)
          refine wc_draw Tryd.mixed rfl [(2, _)] ⟨rfl, trivial⟩ ?_
          refine ra_y (i := 0) rfl (by kernel_rfl) (by kernel_rfl) (by kernel_rfl) (np_then (np_block (np_then (np_then (np_block (np_finO)))))) (y_field_p rfl Tryd.f58' rfl (by decide) rfl) rfl ?_
          refine ra_y (i := 1) rfl (by kernel_rfl) (by kernel_rfl) (by kernel_rfl) (np_then (np_block (np_then (np_then (np_block (np_finO)))))) (y_load_p rfl Tryd.k56 rfl rfl rfl (vs := [_]) rfl rfl rfl) rfl ?_
          refine ra_y (i := 2) rfl (by kernel_rfl) (by kernel_rfl) (by kernel_rfl) (np_then (np_block (np_then (np_then (np_block (np_finO)))))) (y_move rfl rfl) rfl ?_
          refine ra_y (i := 3) rfl (by kernel_rfl) (by kernel_rfl) (by kernel_rfl) (np_then (np_block (np_then (np_then (np_block (np_finO)))))) (y_move rfl rfl) rfl ?_
          refine ra_y (i := 4) rfl (by kernel_rfl) (by kernel_rfl) (by kernel_rfl) (np_then (np_block (np_then (np_then (np_block (np_finO)))))) (y_index_e rfl Tryd.s40 rfl rfl (by assumption) (by first | rfl | omega) (by omega)) rfl ?_
          refine ra_e2v 17 rfl ?_
          refine ra_do (i := 5) rfl rfl (by kernel_rfl) ?_
          refine do_call_o (caps := cB) (ρ' := [(1, _), (2, _), (4, _), (6, _), (7, _)]) [1000] [] ⟨rfl, trivial⟩ rfl rfl rfl hcB rfl rfl ⟨rfl, rfl, rfl, rfl, rfl, trivial⟩ rfl rfl rfl (FnO.mono (hI (pre ++ evI (xs.take i)) oi u' _ _ (VLe.refl _) (by rw [List.length_append]; omega) hYi hP) ?_)
          rintro v uQ l1 hleQ ⟨rfl, oQ, rfl, hYQ⟩ -
          refine ⟨⟨fun _ h => h, trivial⟩, ?_⟩
          refine ra_end (by kernel_rfl) (ρ' := [(1, _), (2, _), (4, _), (6, _), (7, _)]) ⟨rfl, rfl, rfl, rfl, rfl, trivial⟩ ?_
          refine q_thenK ?_
          first
            | (refine ⟨[(1, _), (2, _), (4, _), (6, _), (7, _)], [(2, _), (1000, _)], ⟨rfl, rfl, rfl, rfl, rfl, trivial⟩, ⟨rfl, rfl, trivial⟩, oQ, hleQ, (by first | rfl | simp), (by first | rfl | (simp only [List.cons.injEq, Prod.mk.injEq, SV.v.injEq, Value.int.injEq, true_and, and_true]; omega) | simp), ?_⟩
               exact hYQ)
            | (refine ⟨[(1, _), (2, _), (4, _), (6, _), (7, _)], [(2, _), (1000, _)], ⟨rfl, rfl, rfl, rfl, rfl, trivial⟩, ⟨rfl, rfl, trivial⟩, oi, (VLe.refl _), (by first | rfl | simp), (by first | rfl | (simp only [List.cons.injEq, Prod.mk.injEq, SV.v.injEq, Value.int.injEq, true_and, and_true]; omega) | simp), ?_⟩
               exact hYs)
        ·
          have hYs : Y u' (pre ++ evI (xs.take i) ++ [Sum.inr (.mk k t d ti a args cites kids)]) oi := (by rcases hI with ⟨rfl, hNx⟩ | ⟨fB, cB, rfl, hcB, hI⟩; exact hNx _ _ _ _ hYi; cases hb4)
          refine wc_skip ?_
          refine q_thenK ?_
          first
            | (refine ⟨[(1, _), (2, _), (4, _), (6, _), (7, _)], [(2, _), (1000, _)], ⟨rfl, rfl, rfl, rfl, rfl, trivial⟩, ⟨rfl, rfl, trivial⟩, oQ, hleQ, (by first | rfl | simp), (by first | rfl | (simp only [List.cons.injEq, Prod.mk.injEq, SV.v.injEq, Value.int.injEq, true_and, and_true]; omega) | simp), ?_⟩
               exact hYQ)
            | (refine ⟨[(1, _), (2, _), (4, _), (6, _), (7, _)], [(2, _), (1000, _)], ⟨rfl, rfl, rfl, rfl, rfl, trivial⟩, ⟨rfl, rfl, trivial⟩, oi, (VLe.refl _), (by first | rfl | simp), (by first | rfl | (simp only [List.cons.injEq, Prod.mk.injEq, SV.v.injEq, Value.int.injEq, true_and, and_true]; omega) | simp), ?_⟩
               exact hYs)
      ·
        rintro ρ σ uc6 ⟨o6, hlc6, rfl, rfl, hY6⟩
        have h1 := h1.mono hlc6
        have hc1 := hc1.mono hlc6
        refine wc_draw Tryd.mixed rfl [(2, _)] ⟨rfl, trivial⟩ ?_
        refine ra_y (i := 0) rfl (by kernel_rfl) (by kernel_rfl) (by kernel_rfl) (np_block (np_then (np_then (np_block (np_finO))))) (y_load_p rfl Tryd.k58 rfl rfl rfl (vs := [_, _]) rfl rfl rfl) rfl ?_
        refine ra_y (i := 1) rfl (by kernel_rfl) (by kernel_rfl) (by kernel_rfl) (np_block (np_then (np_then (np_block (np_finO))))) (y_move rfl rfl) rfl ?_
        refine ra_y (i := 2) rfl (by kernel_rfl) (by kernel_rfl) (by kernel_rfl) (np_block (np_then (np_then (np_block (np_finO))))) (y_move rfl rfl) rfl ?_
        refine ra_y (i := 3) rfl (by kernel_rfl) (by kernel_rfl) (by kernel_rfl) (np_block (np_then (np_then (np_block (np_finO))))) (y_index_e rfl Tryd.s40 rfl rfl (by assumption) (by first | rfl | omega) (by omega)) rfl ?_
        refine ra_y (i := 4) rfl (by kernel_rfl) (by kernel_rfl) (by kernel_rfl) (np_block (np_then (np_then (np_block (np_finO))))) (y_field_e rfl Tryd.f46' rfl (by decide) rfl) rfl ?_
        refine ra_y (i := 5) rfl (by kernel_rfl) (by kernel_rfl) (by kernel_rfl) (np_block (np_then (np_then (np_block (np_finO))))) (y_load_el rfl Tryd.k40 rfl (by assumption) (by omega) (by assumption) (vs := [_]) rfl rfl rfl rfl) rfl ?_
        refine ra_do (i := 6) rfl rfl (by kernel_rfl) ?_
        refine do_call_o (caps := []) (ρ' := [(1, _), (2, _), (6, _), (7, _)]) [1000] [] ⟨rfl, trivial⟩ rfl rfl rfl Tryd.c47 rfl rfl ⟨rfl, rfl, rfl, rfl, trivial⟩ rfl rfl rfl (FnO.mono (ih (szI kids) (by omega) vk kids _ o6 uc6 (Nat.le_refl _) (by simp only [List.length_append, List.length_cons, List.length_nil]; omega) (s5.mono hlc6) (hI.mono hlc6) hY6) ?_)
        rintro v uK l1 hleK ⟨rfl, oK, rfl, hYK⟩ -
        refine ⟨⟨fun _ h => h, trivial⟩, ?_⟩
        refine ra_end (by kernel_rfl) (ρ' := [(1, _), (2, _), (6, _), (7, _)]) ⟨rfl, rfl, rfl, rfl, trivial⟩ ?_
        refine q_block ?_
        refine q_then ?_
        refine wc_region ?_
        refine rl_y (y_add rfl rfl rfl (wrap64_id (by omega))) rfl ?_
        refine rl_y (y_move rfl rfl) rfl ?_
        refine rl_end (ρ' := [(1, _), (2, _), (6, _), (7, _)]) ⟨rfl, rfl, rfl, rfl, trivial⟩ ?_
        refine q_thenK ?_
        refine ⟨m - 1, [(1, _), (2, _), (6, _), (7, _)], [(2, _), (1000, _)], by omega, ⟨rfl, rfl, rfl, rfl, trivial⟩, ⟨rfl, rfl, trivial⟩, i + 1, by omega, (hle2.trans (hlc6.trans hleK)), oK, rfl, (by first | rfl | simp), ?_⟩
        rw [het]
        simpa [kidsI] using hYK
    ·
      refine wc_exit ?_
      refine q_then_exit ?_
      refine q_then_exit ?_
      refine q_block_hit ?_
      refine finO0n [1000]  rfl rfl ?_
      have hge := of_decide_eq_false hb2
      rw [List.take_of_length_le (by omega)] at hYi
      exact ⟨rfl, _, rfl, hYi⟩
set_option maxHeartbeats 2000000 in
theorem vBlk_fn (fb fl : Value) (b0 : Nat) (Y : Ys) (hM : MonoY Y) (n : Nat) : ∀ (v : Value) (xs : List Blk) (pre : List Ev) (o : OO) (u : View), szB xs ≤ n → pre.length + szB xs ≤ 200000 → BlkS u v xs → CbB fb b0 u Y → CbI fl b0 u Y → Y u pre o →
    FnO Tryd.prog 28 [.agg #[fb, fl], v] u [(some b0, o)] fun r u' l' => r = .tuple #[] ∧ ∃ o', l' = [(some b0, o')] ∧ Y u' (pre ++ evB xs) o' := by
  induction n using Nat.strongRecOn with
  | _ n ih =>
  intro v xs pre o u hsz hbig ha hB hI hY
  have hlx := len_szB xs
  have hfv := hB.fv
  obtain ⟨cs, ⟨ad, cap, rfl, h1⟩, hc1⟩ := ha
  refine FnO.intro [] Tryd.func28 rfl rfl rfl ?_
  intro w0 D hw0
  refine wc_seq ?_
  refine wc_region ?_
  refine rl_do rfl rfl ?_
  refine do_box trivial rfl (cs := [_, _]) rfl rfl rfl rfl ?_
  refine rl_end (ρ' := [(1, _), (2, _)]) ⟨rfl, rfl, trivial⟩ ?_
  refine q_then ?_
  refine wc_seq ?_
  refine wc_region ?_
  refine rl_y (y_move rfl rfl) rfl ?_
  refine rl_y (y_len_v rfl rfl Tryd.s23 rfl) rfl ?_
  refine rl_y (y_move rfl rfl) rfl ?_
  refine rl_end (ρ' := [(1, _), (2, _), (6, _), (7, _)]) ⟨rfl, rfl, rfl, rfl, trivial⟩ ?_
  refine q_then ?_
  refine wc_block ?_
  refine wc_loop (fun m ρ σ u' => ∃ i : Nat, i + m = xs.length ∧ VLe u u' ∧ ∃ (oi : OO), σ = [(2, (none, .box [fb, fl])), (1000, (some b0, oi))] ∧ ρ = [(1, .v (.slice ad xs.length cap)), (2, .p 2 0), (6, .v (.int .i64 xs.length)), (7, .v (.int .i64 i))] ∧ (Y u' (pre ++ evB (xs.take i)) oi)) (xs.length) ?_ ?_
  ·
    refine ⟨[(1, _), (2, _), (6, _), (7, _)], [(2, _), (1000, _)], ⟨rfl, rfl, rfl, rfl, trivial⟩, ⟨rfl, rfl, trivial⟩, 0, by omega, VLe.refl _, o, rfl, rfl, ?_⟩
    simpa [evB, evL, listB] using hY
  ·
    rintro m ρ σ u' ⟨i, hi2, hle2, oi, rfl, rfl, hYi⟩
    refine wc_seq ?_
    refine wc_region ?_
    refine rl_y (y_lss rfl rfl rfl) rfl ?_
    refine rl_end (ρ' := [(1, _), (2, _), (6, _), (7, _), (8, _)]) ⟨rfl, rfl, rfl, rfl, rfl, trivial⟩ ?_
    refine q_then ?_
    refine wc_seq ?_
    refine wc_cond rfl (fun hb2 => ?_) (fun hb2 => ?_)
    ·
      refine wc_skip ?_
      refine q_then ?_
      refine wc_seq ?_
      refine wc_block ?_
      refine wc_seq ?_
      have hlt : i < xs.length := by have := of_decide_eq_true hb2; omega
      have h1 := h1.mono hle2
      have hc1 := hc1.mono hle2
      have hI := hI.mono hle2
      have hB := hB.mono hle2
      obtain ⟨k, lv, inf, t, d, ti, a, line, kids, vc, vp, vl, vk, hg, hcut1, s1, s2, s3, s4, hok⟩ := hc1.at hlt
      have oneAll := (hc1.get i _ hg).one
      rw [hcut1] at oneAll
      have hszk := szB_kids hg
      have hst := szB_take hg
      have hs2 := szB_take_le xs (i + 1)
      have hel := evB_len (xs.take i)
      have het := evB_take hg
      have hll := evI_len line
      simp only [szb] at hst
      obtain ⟨b1, off1, c1, T1, fr1, rfl, hu1, hcut2⟩ := h1.block (by omega)
      have hP := ptrB_of hc1 hu1 hcut2 hg
      refine wc_region ?_
      refine rl_y (y_move rfl rfl) rfl ?_
      refine rl_y (y_assign rfl rfl) rfl ?_
      refine rl_end (ρ' := [(1, _), (2, _), (4, _), (6, _), (7, _)]) ⟨rfl, rfl, rfl, rfl, rfl, trivial⟩ ?_
      refine q_then ?_
      refine wc_cut (fun ρ σ uc6 => ∃ (o6 : OO), VLe u' uc6 ∧ σ = [(2, (none, .box [fb, fl])), (1000, (some b0, o6))] ∧ ρ = [(1, .v (.slice (some ⟨b1, off1, none⟩) xs.length cap)), (2, .p 2 0), (4, .v (.int .i64 i)), (6, .v (.int .i64 xs.length)), (7, .v (.int .i64 i))] ∧ (Y uc6 (pre ++ evB (xs.take i) ++ [Sum.inl (.mk k lv inf t d ti a line kids)]) o6)) ?_ ?_
      ·
        refine wc_seq ?_
        refine wc_region ?_
        refine rl_y (y_field_p rfl Tryd.f58' rfl (by decide) rfl) rfl ?_
        refine rl_y (y_load_p rfl Tryd.k54 rfl rfl rfl (vs := [_]) rfl rfl rfl) rfl ?_
        refine rl_y (y_fn_neqG rfl (by kernel_rfl) rfl rfl hfv) rfl ?_
        refine rl_end (ρ' := [(1, _), (2, _), (4, _), (6, _), (7, _), (12, _)]) ⟨rfl, rfl, rfl, rfl, rfl, rfl, trivial⟩ ?_
        refine q_then ?_
        refine wc_cond rfl (fun hb4 => ?_) (fun hb4 => ?_)
        ·
          rcases hB with ⟨rfl, hB⟩ | ⟨fB, cB, rfl, hcB, hB⟩; exact absurd hb4 (by decide)
          refine wc_draw Tryd.mixed rfl [(2, _)] ⟨rfl, trivial⟩ ?_
          refine ra_y (i := 0) rfl (by kernel_rfl) (by kernel_rfl) (by kernel_rfl) (np_then (np_block (np_then (np_then (np_block (np_finO)))))) (y_field_p rfl Tryd.f58' rfl (by decide) rfl) rfl ?_
          refine ra_y (i := 1) rfl (by kernel_rfl) (by kernel_rfl) (by kernel_rfl) (np_then (np_block (np_then (np_then (np_block (np_finO)))))) (y_load_p rfl Tryd.k54 rfl rfl rfl (vs := [_]) rfl rfl rfl) rfl ?_
          refine ra_y (i := 2) rfl (by kernel_rfl) (by kernel_rfl) (by kernel_rfl) (np_then (np_block (np_then (np_then (np_block (np_finO)))))) (y_move rfl rfl) rfl ?_
          refine ra_y (i := 3) rfl (by kernel_rfl) (by kernel_rfl) (by kernel_rfl) (np_then (np_block (np_then (np_then (np_block (np_finO)))))) (y_move rfl rfl) rfl ?_
          refine ra_y (i := 4) rfl (by kernel_rfl) (by kernel_rfl) (by kernel_rfl) (np_then (np_block (np_then (np_then (np_block (np_finO)))))) (y_index_e rfl Tryd.s23 rfl rfl (by assumption) (by first | rfl | omega) (by omega)) rfl ?_
          refine ra_e2v 17 rfl ?_
          refine ra_do (i := 5) rfl rfl (by kernel_rfl) ?_
          refine do_call_o (caps := cB) (ρ' := [(1, _), (2, _), (4, _), (6, _), (7, _)]) [1000] [] ⟨rfl, trivial⟩ rfl rfl rfl hcB rfl rfl ⟨rfl, rfl, rfl, rfl, rfl, trivial⟩ rfl rfl rfl (FnO.mono (hB (pre ++ evB (xs.take i)) oi u' _ _ (VLe.refl _) (by rw [List.length_append]; omega) hYi hP) ?_)
          rintro v uQ l1 hleQ ⟨rfl, oQ, rfl, hYQ⟩ -
          refine ⟨⟨fun _ h => h, trivial⟩, ?_⟩
          refine ra_end (by kernel_rfl) (ρ' := [(1, _), (2, _), (4, _), (6, _), (7, _)]) ⟨rfl, rfl, rfl, rfl, rfl, trivial⟩ ?_
          refine q_thenK ?_
          first
            | (refine ⟨[(1, _), (2, _), (4, _), (6, _), (7, _)], [(2, _), (1000, _)], ⟨rfl, rfl, rfl, rfl, rfl, trivial⟩, ⟨rfl, rfl, trivial⟩, oQ, hleQ, (by first | rfl | simp), (by first | rfl | (simp only [List.cons.injEq, Prod.mk.injEq, SV.v.injEq, Value.int.injEq, true_and, and_true]; omega) | simp), ?_⟩
               exact hYQ)
            | (refine ⟨[(1, _), (2, _), (4, _), (6, _), (7, _)], [(2, _), (1000, _)], ⟨rfl, rfl, rfl, rfl, rfl, trivial⟩, ⟨rfl, rfl, trivial⟩, oi, (VLe.refl _), (by first | rfl | simp), (by first | rfl | (simp only [List.cons.injEq, Prod.mk.injEq, SV.v.injEq, Value.int.injEq, true_and, and_true]; omega) | simp), ?_⟩
               exact hYs)
        ·
          have hYs : Y u' (pre ++ evB (xs.take i) ++ [Sum.inl (.mk k lv inf t d ti a line kids)]) oi := (by rcases hB with ⟨rfl, hNx⟩ | ⟨fB, cB, rfl, hcB, hB⟩; exact hNx _ _ _ _ hYi; cases hb4)
          refine wc_skip ?_
          refine q_thenK ?_
          first
            | (refine ⟨[(1, _), (2, _), (4, _), (6, _), (7, _)], [(2, _), (1000, _)], ⟨rfl, rfl, rfl, rfl, rfl, trivial⟩, ⟨rfl, rfl, trivial⟩, oQ, hleQ, (by first | rfl | simp), (by first | rfl | (simp only [List.cons.injEq, Prod.mk.injEq, SV.v.injEq, Value.int.injEq, true_and, and_true]; omega) | simp), ?_⟩
               exact hYQ)
            | (refine ⟨[(1, _), (2, _), (4, _), (6, _), (7, _)], [(2, _), (1000, _)], ⟨rfl, rfl, rfl, rfl, rfl, trivial⟩, ⟨rfl, rfl, trivial⟩, oi, (VLe.refl _), (by first | rfl | simp), (by first | rfl | (simp only [List.cons.injEq, Prod.mk.injEq, SV.v.injEq, Value.int.injEq, true_and, and_true]; omega) | simp), ?_⟩
               exact hYs)
      ·
        rintro ρ σ uc6 ⟨o6, hlc6, rfl, rfl, hY6⟩
        have h1 := h1.mono hlc6
        have hc1 := hc1.mono hlc6
        refine wc_seq ?_
        refine wc_draw Tryd.mixed rfl [(2, _)] ⟨rfl, trivial⟩ ?_
        refine ra_y (i := 0) rfl (by kernel_rfl) (by kernel_rfl) (by kernel_rfl) (np_then (np_block (np_then (np_then (np_block (np_finO)))))) (y_load_p rfl Tryd.k58 rfl rfl rfl (vs := [_, _]) rfl rfl rfl) rfl ?_
        refine ra_y (i := 1) rfl (by kernel_rfl) (by kernel_rfl) (by kernel_rfl) (np_then (np_block (np_then (np_then (np_block (np_finO)))))) (y_move rfl rfl) rfl ?_
        refine ra_y (i := 2) rfl (by kernel_rfl) (by kernel_rfl) (by kernel_rfl) (np_then (np_block (np_then (np_then (np_block (np_finO)))))) (y_move rfl rfl) rfl ?_
        refine ra_y (i := 3) rfl (by kernel_rfl) (by kernel_rfl) (by kernel_rfl) (np_then (np_block (np_then (np_then (np_block (np_finO)))))) (y_index_e rfl Tryd.s23 rfl rfl (by assumption) (by first | rfl | omega) (by omega)) rfl ?_
        refine ra_y (i := 4) rfl (by kernel_rfl) (by kernel_rfl) (by kernel_rfl) (np_then (np_block (np_then (np_then (np_block (np_finO)))))) (y_field_e rfl Tryd.f42' rfl (by decide) rfl) rfl ?_
        refine ra_y (i := 5) rfl (by kernel_rfl) (by kernel_rfl) (by kernel_rfl) (np_then (np_block (np_then (np_then (np_block (np_finO)))))) (y_load_el rfl Tryd.k40 rfl (by assumption) (by omega) (by assumption) (vs := [_]) rfl rfl rfl rfl) rfl ?_
        refine ra_do (i := 6) rfl rfl (by kernel_rfl) ?_
        refine do_call_o (caps := []) (ρ' := [(1, _), (2, _), (4, _), (6, _), (7, _)]) [1000] [] ⟨rfl, trivial⟩ rfl rfl rfl Tryd.c47 rfl rfl ⟨rfl, rfl, rfl, rfl, rfl, trivial⟩ rfl rfl rfl (FnO.mono (vInl_fn fb fl b0 Y hM (szI line) vl line _ o6 uc6 (Nat.le_refl _) (by simp only [List.length_append, List.length_cons, List.length_nil]; omega) (s3.mono hlc6) (hI.mono hlc6) hY6) ?_)
        rintro v uK l1 hleK ⟨rfl, oK, rfl, hYK⟩ -
        refine ⟨⟨fun _ h => h, trivial⟩, ?_⟩
        have h1 := h1.mono hleK
        have hc1 := hc1.mono hleK
        refine ra_end (by kernel_rfl) (ρ' := [(1, _), (2, _), (4, _), (6, _), (7, _)]) ⟨rfl, rfl, rfl, rfl, rfl, trivial⟩ ?_
        refine q_then ?_
        refine wc_draw Tryd.mixed rfl [(2, _)] ⟨rfl, trivial⟩ ?_
        refine ra_y (i := 0) rfl (by kernel_rfl) (by kernel_rfl) (by kernel_rfl) (np_block (np_then (np_then (np_block (np_finO))))) (y_load_p rfl Tryd.k58 rfl rfl rfl (vs := [_, _]) rfl rfl rfl) rfl ?_
        refine ra_y (i := 1) rfl (by kernel_rfl) (by kernel_rfl) (by kernel_rfl) (np_block (np_then (np_then (np_block (np_finO))))) (y_move rfl rfl) rfl ?_
        refine ra_y (i := 2) rfl (by kernel_rfl) (by kernel_rfl) (by kernel_rfl) (np_block (np_then (np_then (np_block (np_finO))))) (y_move rfl rfl) rfl ?_
        refine ra_y (i := 3) rfl (by kernel_rfl) (by kernel_rfl) (by kernel_rfl) (np_block (np_then (np_then (np_block (np_finO))))) (y_index_e rfl Tryd.s23 rfl rfl (by assumption) (by first | rfl | omega) (by omega)) rfl ?_
        refine ra_y (i := 4) rfl (by kernel_rfl) (by kernel_rfl) (by kernel_rfl) (np_block (np_then (np_then (np_block (np_finO))))) (y_field_e rfl Tryd.f42' rfl (by decide) rfl) rfl ?_
        refine ra_y (i := 5) rfl (by kernel_rfl) (by kernel_rfl) (by kernel_rfl) (np_block (np_then (np_then (np_block (np_finO))))) (y_load_el rfl Tryd.k23 rfl (by assumption) (by omega) (by assumption) (vs := [_]) rfl rfl rfl rfl) rfl ?_
        refine ra_do (i := 6) rfl rfl (by kernel_rfl) ?_
        refine do_call_o (caps := []) (ρ' := [(1, _), (2, _), (6, _), (7, _)]) [1000] [] ⟨rfl, trivial⟩ rfl rfl rfl Tryd.c28 rfl rfl ⟨rfl, rfl, rfl, rfl, trivial⟩ rfl rfl rfl (FnO.mono (ih (szB kids) (by omega) vk kids _ oK uK (Nat.le_refl _) (by simp only [List.length_append, List.length_cons, List.length_nil]; omega) ((s4.mono hlc6).mono hleK) ((hB.mono hlc6).mono hleK) ((hI.mono hlc6).mono hleK) hYK) ?_)
        rintro v uR l1 hleR ⟨rfl, oR, rfl, hYR⟩ -
        refine ⟨⟨fun _ h => h, trivial⟩, ?_⟩
        refine ra_end (by kernel_rfl) (ρ' := [(1, _), (2, _), (6, _), (7, _)]) ⟨rfl, rfl, rfl, rfl, trivial⟩ ?_
        refine q_block ?_
        refine q_then ?_
        refine wc_region ?_
        refine rl_y (y_add rfl rfl rfl (wrap64_id (by omega))) rfl ?_
        refine rl_y (y_move rfl rfl) rfl ?_
        refine rl_end (ρ' := [(1, _), (2, _), (6, _), (7, _)]) ⟨rfl, rfl, rfl, rfl, trivial⟩ ?_
        refine q_thenK ?_
        refine ⟨m - 1, [(1, _), (2, _), (6, _), (7, _)], [(2, _), (1000, _)], by omega, ⟨rfl, rfl, rfl, rfl, trivial⟩, ⟨rfl, rfl, trivial⟩, i + 1, by omega, (hle2.trans (hlc6.trans (hleK.trans hleR))), oR, rfl, (by first | rfl | simp), ?_⟩
        rw [het]
        simpa [kidsB, lineOf] using hYR
    ·
      refine wc_exit ?_
      refine q_then_exit ?_
      refine q_then_exit ?_
      refine q_block_hit ?_
      refine finO0n [1000]  rfl rfl ?_
      have hge := of_decide_eq_false hb2
      rw [List.take_of_length_le (by omega)] at hYi
      exact ⟨rfl, _, rfl, hYi⟩
end Go.Proofs.Ythkgcakpjknlbaa
namespace Go.Proofs.Ythkgcakpjknlbaa
open Go Go.Eng
set_option linter.unusedSimpArgs false
set_option linter.unusedVariables false
set_option maxRecDepth 4000
theorem labCopyAttr_fn (a : DAttr) (vc vp : Value) (u : View) (hc : a.classes.length ≤ 1000000) (hp : a.pairs.length ≤ 1000000) (h1 : StrS u vc a.classes) (h2 : PrS u vp a.pairs) :
  FnP Tryd.prog 51 [.agg #[str a.id, vc, vp]] u fun r u' => ∃ vc' vp', r = .agg #[str a.id, vc', vp'] ∧ StrS u' vc' a.classes ∧ PrS u' vp' a.pairs := by
 obtain ⟨ad, cap, rfl, h1⟩ := h1
 obtain ⟨ad2, cap2, rfl, h2⟩ := h2
 refine FnP.intro [.cell 2 39] Tryd.func51 rfl rfl rfl ?_
 intro w0 D hw0
 refine wc_seq ?_
 refine wc_region ?_
 refine rl_do rfl rfl ?_
 refine do_box trivial rfl (cs := [_, _, _]) rfl rfl rfl rfl ?_
 refine rl_do rfl rfl ?_
 refine do_alloc trivial Tryd.z39 rfl rfl rfl ?_
 refine rl_end (ρ' := [(1, _), (2, _)]) ⟨rfl, rfl, trivial⟩ ?_
 refine q_then ?_
 refine wc_seq ?_
 refine wc_draw Tryd.mixed rfl [(1, _)] ⟨rfl, trivial⟩ ?_
 refine ra_y (i := 0) rfl (by kernel_rfl) (by kernel_rfl) (by kernel_rfl) (np_then (np_fin)) (y_field_p rfl Tryd.f39' rfl (by decide) rfl) rfl ?_
 refine ra_y (i := 1) rfl (by kernel_rfl) (by kernel_rfl) (by kernel_rfl) (np_then (np_fin)) (y_load_p rfl Tryd.k9 rfl rfl rfl (vs := [_]) rfl rfl rfl) rfl ?_
 refine ra_y (i := 2) rfl (by kernel_rfl) (by kernel_rfl) (by kernel_rfl) (np_then (np_fin)) (y_field_p rfl Tryd.f39' rfl (by decide) rfl) rfl ?_
 refine ra_y (i := 3) rfl (by kernel_rfl) (by kernel_rfl) (by kernel_rfl) (np_then (np_fin)) (y_load_p rfl Tryd.k29 rfl rfl rfl (vs := [_]) rfl rfl rfl) rfl ?_
 refine ra_y (i := 5) rfl (by kernel_rfl) (by kernel_rfl) (by kernel_rfl) (np_then (np_fin)) (y_field_p rfl Tryd.f39' rfl (by decide) rfl) rfl ?_
 refine ra_y (i := 6) rfl (by kernel_rfl) (by kernel_rfl) (by kernel_rfl) (np_then (np_fin)) (y_load_p rfl Tryd.k22 rfl rfl rfl (vs := [_]) rfl rfl rfl) rfl ?_
 refine ra_do (i := 4) rfl rfl (by kernel_rfl) ?_
 refine do_append_nil_v ⟨rfl, trivial⟩ rfl Tryd.s29 Tryd.z9 rfl rfl rfl rfl (by assumption) (oneCell_strs _) (by omega) (by omega) rfl rfl rfl ?_
 refine ra_freeze 7 rfl ?_
 intro ad7 cap7 u7 hle7z hsl7
 have h2 := h2.mono (by first | exact hle7z | exact hle10z.trans hle7z)
 refine ra_do (i := 7) rfl rfl (by kernel_rfl) ?_
 refine do_append_nil_v ⟨rfl, trivial⟩ rfl Tryd.s22 Tryd.z48 rfl rfl rfl rfl (by assumption) (oneCell_pairs _) (by omega) (by omega) rfl rfl rfl ?_
 refine ra_freeze 10 rfl ?_
 intro ad10 cap10 u10 hle10z hsl10
 have h1 := h1.mono (by first | exact hle10z | exact hle7z.trans hle10z)
 refine ra_y (i := 8) rfl (by kernel_rfl) (by kernel_rfl) (by kernel_rfl) (np_then (np_fin)) (y_build rfl Tryd.f39' Tryd.z39 (ps := [(_, _), (_, _), (_, _)]) rfl (vs := [_, _, _]) rfl) rfl ?_
 refine ra_do (i := 9) rfl rfl (by kernel_rfl) ?_
 refine do_store_p ⟨rfl, trivial⟩ rfl Tryd.k39 rfl rfl rfl (vs := [_, _, _]) rfl rfl (by first | rfl | exact oneAll | exact oneAll2 | simp [Value.oneCell', str]) (Nat.le_of_ble_eq_true rfl) rfl ?_
 refine ra_end (by kernel_rfl) (ρ' := [(2, _)]) ⟨rfl, trivial⟩ ?_
 refine q_then ?_
 refine wc_ret ?_
 refine fin1 (.cell rfl rfl Tryd.k39 (cs := _) (vs := [_, _, _]) rfl rfl rfl) ?_
 exact ⟨_, _, rfl, ⟨_, _, rfl, by first | exact hsl7 | exact hsl7.mono hle10z⟩, ⟨_, _, rfl, by first | exact hsl10 | exact hsl10.mono hle7z⟩⟩
theorem labCopyMeta_fn (v : Value) (xs : List (Bs × Bs)) (hx : xs.length ≤ 1000000) (u : View) (ha : PrS u v xs) : FnP Tryd.prog 37 [v] u fun r u' => PrS u' r xs := by
 obtain ⟨ad, cap, rfl, h1⟩ := ha
 refine FnP.intro [.tmp 2] Tryd.func37 rfl rfl rfl ?_
 intro w0 D hw0
 refine wc_seq ?_
 refine wc_region ?_
 refine rl_y (y_assign rfl rfl) rfl ?_
 refine rl_end (ρ' := [(0, _)]) ⟨rfl, trivial⟩ ?_
 refine q_then ?_
 refine wc_seq ?_
 refine wc_region ?_
 refine rl_y (y_move rfl rfl) rfl ?_
 refine rl_do rfl rfl ?_
 refine do_append_nil_v trivial rfl Tryd.s22 Tryd.z48 rfl rfl rfl rfl (by assumption) (oneCell_pairs _) (by omega) (by omega) rfl rfl rfl ?_
 refine rl_freeze 4 rfl ?_
 intro ad4 cap4 u4 hle4z hsl4
 refine rl_y (y_assign rfl rfl) rfl ?_
 refine rl_end (ρ' := [(2, _)]) ⟨rfl, trivial⟩ ?_
 refine q_then ?_
 refine wc_ret ?_
 refine fin1 (.tmp rfl) ?_
 exact ⟨_, _, rfl, hsl4⟩
/-- few enough to be copied -/
def NodeCp : Inl → Prop
  | .mk _ _ _ _ a args cites _ => a.classes.length ≤ 1000 ∧ a.pairs.length ≤ 1000 ∧ args.length ≤ 1000 ∧ cites.length ≤ 1000
abbrev YI := View → List Inl → OO → Prop
/-- how inlines are replaced: rep: each by itself; g: a list of them; ev: which are met; Gd: what holds of the lists; mm: what goes down -/
structure RepI where
 rep : Inl → Inl
 g : List Inl → List Inl
 ev : List Inl → List Inl
 mm : List Inl → Nat
 Gd : List Inl → Prop
 Gx : Inl → Prop
 g0 : g [] = []
 ev0 : ev [] = []
 gs : ∀ (xs : List Inl) (i : Nat) (x : Inl), xs[i]? = some x → g (xs.take (i + 1)) = g (xs.take i) ++ [setK (rep x) (g (kidsI (rep x)))]
 evs : ∀ (xs : List Inl) (i : Nat) (x : Inl), xs[i]? = some x → ev (xs.take (i + 1)) = ev (xs.take i) ++ x :: ev (kidsI (rep x))
 gl : ∀ xs : List Inl, (g xs).length = xs.length
 down : ∀ (xs : List Inl) (i : Nat) (x : Inl), Gd xs → xs[i]? = some x → mm (kidsI (rep x)) < mm xs ∧ Gd (kidsI (rep x)) ∧ NodeCp (rep x) ∧ Gx x
 len : ∀ xs : List Inl, Gd xs → xs.length ≤ 100000
/-- the function that replaces -/
def CbR (R : RepI) (fr : Value) (b0 : Nat) (u : View) (Y : YI) : Prop :=
 ∃ f caps, fr = .func (.func f) #[] caps.toArray ∧ canCall Tryd.prog f = true ∧ ∀ pre o u' x cs, VLe u u' → Y u' pre o → R.Gx x → InlC u' x cs →
  FnO Tryd.prog f (.agg cs.toArray :: caps) u' [(some b0, o)] fun r u'' l' => (∃ cs', r = .agg cs'.toArray ∧ InlC u'' (R.rep x) cs') ∧ ∃ o', l' = [(some b0, o')] ∧ Y u'' (pre ++ [x]) o'
theorem CbR.mono {R : RepI} {fr : Value} {b0 : Nat} {u u2 : View} {Y : YI} (h : CbR R fr b0 u Y) (hu : VLe u u2) : CbR R fr b0 u2 Y := by
 obtain ⟨f, caps, h1, h2, h3⟩ := h
 exact ⟨f, caps, h1, h2, fun pre o u' x cs hle => h3 pre o u' x cs (hu.trans hle)⟩
theorem InlsC.cut10 {u : View} {xs : List Inl} {cs : List Value} (h : InlsC u xs cs) : cs.length = xs.length * 10 := h.len
set_option maxHeartbeats 4000000 in
theorem rebLine_fn (R : RepI) (f : FuncId) (caps : List Value) (b0 : Nat) (Y : YI) (hM : ∀ u u' pre o, VLe u u' → Y u pre o → Y u' pre o) (hcF : canCall Tryd.prog f = true) (n : Nat) :
    ∀ (v : Value) (xs pre : List Inl) (o : OO) (u : View), R.mm xs ≤ n → R.Gd xs → InlS u v xs → CbR R (.func (.func f) #[] caps.toArray) b0 u Y → Y u pre o →
      FnO Tryd.prog 52 [v, .func (.func f) #[] caps.toArray] u [(some b0, o)] fun r u' l' => InlS u' r (R.g xs) ∧ ∃ o', l' = [(some b0, o')] ∧ Y u' (pre ++ R.ev xs) o' := by
  induction n using Nat.strongRecOn with
  | _ n ih =>
  intro v xs pre o u hsz hgd ha hR hY
  have hlx := R.len xs hgd
  obtain ⟨cs, ⟨ad, cap, rfl, h1⟩, hc1⟩ := ha
  refine FnO.intro [.tmp 4] Tryd.func52 rfl rfl rfl ?_
  intro w0 D hw0
  refine wc_seq ?_
  refine wc_region ?_
  refine rl_y (y_assign rfl rfl) rfl ?_
  refine rl_end (ρ' := [(0, _), (1, _)]) ⟨rfl, rfl, trivial⟩ ?_
  refine q_then ?_
  refine wc_seq ?_
  refine wc_region ?_
  refine rl_y (y_assign rfl rfl) rfl ?_
  refine rl_own_nil 5 505 46 10 rfl rfl rfl ?_
  refine rl_end (ρ' := [(0, _), (1, _), (5, _)]) ⟨rfl, rfl, rfl, trivial⟩ ?_
  refine q_then ?_
  refine wc_seq ?_
  refine wc_seq ?_
  refine wc_region ?_
  refine rl_y (y_move rfl rfl) rfl ?_
  refine rl_y (y_len_v rfl rfl Tryd.s40 rfl) rfl ?_
  refine rl_y (y_move rfl rfl) rfl ?_
  refine rl_end (ρ' := [(1, _), (5, _), (8, _), (9, _), (10, _)]) ⟨rfl, rfl, rfl, rfl, rfl, trivial⟩ ?_
  refine q_then ?_
  refine wc_block ?_
  refine wc_loop (fun m ρ σ u' => ∃ i : Nat, i + m = xs.length ∧ VLe u u' ∧ ∃ (acc : List Value) (oi : OO), σ = [(505, (none, .row 46 10 (R.g (xs.take i)).length acc)), (1000, (some b0, oi))] ∧ ρ = [(1, .v (.func (.func f) #[] caps.toArray)), (5, .s 505), (8, .v (.slice ad xs.length cap)), (9, .v (.int .i64 xs.length)), (10, .v (.int .i64 i))] ∧ (InlsC u' (R.g (xs.take i)) acc ∧ Y u' (pre ++ R.ev (xs.take i)) oi)) (xs.length) ?_ ?_
  ·
    refine ⟨[(1, _), (5, _), (8, _), (9, _), (10, _)], [(505, _), (1000, _)], ⟨rfl, rfl, rfl, rfl, rfl, trivial⟩, ⟨rfl, rfl, trivial⟩, 0, by omega, VLe.refl _, [], o, (by simp [R.g0]), rfl, ?_⟩
    exact ⟨by rw [List.take_zero, R.g0]; exact InlsC.nil, by rw [List.take_zero, R.ev0, List.append_nil]; exact hY⟩
  ·
    rintro m ρ σ u' ⟨i, hi3, hle3, acc, oi, rfl, rfl, ⟨hacc, hYi⟩⟩
    refine wc_seq ?_
    refine wc_region ?_
    refine rl_y (y_lss rfl rfl rfl) rfl ?_
    refine rl_end (ρ' := [(1, _), (5, _), (8, _), (9, _), (10, _), (11, _)]) ⟨rfl, rfl, rfl, rfl, rfl, rfl, trivial⟩ ?_
    refine q_then ?_
    refine wc_seq ?_
    refine wc_cond rfl (fun hb3 => ?_) (fun hb3 => ?_)
    ·
      have hlt : i < xs.length := by have := of_decide_eq_true hb3; omega
      have h1 := h1.mono hle3
      obtain ⟨k, t, d, ti, a, args, cites, kids, vc, vp, va, vt, vk, hg, hcut1, s1, s2, s3, s4, s5, hok⟩ := (hc1.mono hle3).at hlt
      have hx := (hc1.mono hle3).get i _ hg
      rw [hcut1] at hx
      have oneAll := hx.one
      obtain ⟨hdn, hgk, hcp, hgx⟩ := R.down xs i _ hgd hg
      have hgs := R.gs xs i _ hg
      have hevs := R.evs xs i _ hg
      have hgl := R.gl (xs.take i)
      have htl : (xs.take i).length ≤ i := by simp; omega
      have hRu := hR.mono hle3
      obtain ⟨f', caps', hfe, _, hcall⟩ := hRu
      obtain ⟨rfl, hce⟩ : f = f' ∧ caps = caps' := by simpa using hfe
      subst hce
      generalize hz : Inl.mk k t d ti a args cites kids = z at *
      refine wc_skip ?_
      refine q_then ?_
      refine wc_seq ?_
      refine wc_block ?_
      refine wc_seq ?_
      refine wc_region ?_
      refine rl_y (y_index_e rfl Tryd.s40 rfl rfl (by assumption) (by first | rfl | omega) (by omega)) rfl ?_
      refine rl_y (y_load_el rfl Tryd.k46 rfl (by assumption) (by omega) (by assumption) (vs := [_, _, _, _, _, _, _, _, _, _]) rfl rfl rfl rfl) rfl ?_
      refine rl_do rfl rfl ?_
      refine do_alloc trivial Tryd.z46 rfl rfl rfl ?_
      refine rl_do rfl rfl ?_
      refine do_store_p trivial rfl Tryd.k46 rfl rfl rfl (vs := [_, _, _, _, _, _, _, _, _, _]) rfl rfl (by first | rfl | exact oneAll | exact oneAll2 | simp [Value.oneCell', str]) (Nat.le_of_ble_eq_true rfl) rfl ?_
      refine rl_end (ρ' := [(1, _), (5, _), (7, _), (8, _), (9, _), (10, _)]) ⟨rfl, rfl, rfl, rfl, rfl, rfl, trivial⟩ ?_
      refine q_then ?_
      refine wc_seq ?_
      refine wc_region ?_
      refine rl_y (y_move rfl rfl) rfl ?_
      refine rl_y (y_load_p rfl Tryd.k46 rfl rfl rfl (vs := [_, _, _, _, _, _, _, _, _, _]) rfl rfl rfl) rfl ?_
      refine rl_do rfl rfl ?_
      refine do_call_o (caps := caps) (ρ' := [(1, _), (5, _), (7, _), (8, _), (9, _), (10, _)]) [1000] [] trivial rfl rfl rfl hcF rfl rfl ⟨rfl, rfl, rfl, rfl, rfl, rfl, trivial⟩ rfl rfl rfl (FnO.mono (hcall (pre ++ R.ev (xs.take i)) oi u' z _ (VLe.refl _) hYi hgx hx) ?_)
      rintro v uC l1 hleC ⟨⟨cs2, rfl, hx2⟩, oC, rfl, hYC⟩ -
      refine ⟨⟨fun _ h => h, trivial⟩, ?_⟩
      generalize R.rep z = y at *
      obtain ⟨k2, t2, d2, ti2, a2, args2, cites2, kids2⟩ := y
      obtain ⟨vc2, vp2, va2, vt2, vk2, rfl, q1, q2, q3, q4, q5, hok2⟩ := hx2.cells
      have oneAll2 := hx2.one
      obtain ⟨p1, p2, p3, p4⟩ := hcp
      simp only [kidsI] at hdn hgk hgs hevs
      have q3' := q3
      have q4' := q4
      obtain ⟨ad3, cap3, rfl, q3⟩ := q3
      obtain ⟨ad4, cap4, rfl, q4⟩ := q4
      refine rl_do rfl rfl ?_
      refine do_store_p trivial rfl Tryd.k46 rfl rfl rfl (vs := [_, _, _, _, _, _, _, _, _, _]) rfl rfl (by first | rfl | exact oneAll | exact oneAll2 | simp [Value.oneCell', str]) (Nat.le_of_ble_eq_true rfl) rfl ?_
      refine rl_end (ρ' := [(1, _), (5, _), (7, _), (8, _), (9, _), (10, _)]) ⟨rfl, rfl, rfl, rfl, rfl, rfl, trivial⟩ ?_
      refine q_then ?_
      refine wc_seq ?_
      refine wc_region ?_
      refine rl_y (y_field_p rfl Tryd.f46' rfl (by decide) rfl) rfl ?_
      refine rl_y (y_load_p rfl Tryd.k39 rfl rfl rfl (vs := [_, _, _]) rfl rfl rfl) rfl ?_
      refine rl_do rfl rfl ?_
      refine do_call (caps := []) trivial rfl rfl Tryd.c51 rfl (FnP.mono (labCopyAttr_fn a2 _ _ _ (by omega) (by omega) q1 q2) ?_)
      rintro v uA hle0 ⟨vc3, vp3, rfl, ⟨ad5, cap5, rfl, w1⟩, ⟨ad6, cap6, rfl, w2⟩⟩ hleA
      refine rl_y (y_field_p rfl Tryd.f46' rfl (by decide) rfl) rfl ?_
      refine rl_do rfl rfl ?_
      refine do_store_p trivial rfl Tryd.k39 rfl rfl rfl (vs := [_, _, _]) rfl rfl (by first | rfl | exact oneAll | exact oneAll2 | simp [Value.oneCell', str]) (Nat.le_of_ble_eq_true rfl) rfl ?_
      refine rl_end (ρ' := [(1, _), (5, _), (7, _), (8, _), (9, _), (10, _)]) ⟨rfl, rfl, rfl, rfl, rfl, rfl, trivial⟩ ?_
      refine q_then ?_
      refine wc_seq ?_
      have q3 := q3.mono hleA
      refine wc_region ?_
      refine rl_y (y_field_p rfl Tryd.f46' rfl (by decide) rfl) rfl ?_
      refine rl_y (y_load_p rfl Tryd.k29 rfl rfl rfl (vs := [_]) rfl rfl rfl) rfl ?_
      refine rl_do rfl rfl ?_
      refine do_append_nil_v trivial rfl Tryd.s29 Tryd.z9 rfl rfl rfl rfl (by assumption) (oneCell_strs _) (by omega) (by omega) rfl rfl rfl ?_
      refine rl_freeze 23 rfl ?_
      intro ad23 cap23 u23 hle23z hsl23
      refine rl_y (y_field_p rfl Tryd.f46' rfl (by decide) rfl) rfl ?_
      refine rl_do rfl rfl ?_
      refine do_store_p trivial rfl Tryd.k29 rfl rfl rfl (vs := [_]) rfl rfl (by first | rfl | exact oneAll | exact oneAll2 | simp [Value.oneCell', str]) (Nat.le_of_ble_eq_true rfl) rfl ?_
      refine rl_end (ρ' := [(1, _), (5, _), (7, _), (8, _), (9, _), (10, _)]) ⟨rfl, rfl, rfl, rfl, rfl, rfl, trivial⟩ ?_
      refine q_then ?_
      refine wc_seq ?_
      have q4 := (q4.mono hleA).mono hle23z
      refine wc_region ?_
      refine rl_y (y_field_p rfl Tryd.f46' rfl (by decide) rfl) rfl ?_
      refine rl_y (y_load_p rfl Tryd.k44 rfl rfl rfl (vs := [_]) rfl rfl rfl) rfl ?_
      refine rl_do rfl rfl ?_
      refine do_append_nil_v trivial rfl Tryd.s44 Tryd.z86 rfl rfl rfl rfl (by assumption) (oneCell_cites _) (by omega) (by omega) rfl rfl rfl ?_
      refine rl_freeze 27 rfl ?_
      intro ad27 cap27 u27 hle27z hsl27
      refine rl_y (y_field_p rfl Tryd.f46' rfl (by decide) rfl) rfl ?_
      refine rl_do rfl rfl ?_
      refine do_store_p trivial rfl Tryd.k44 rfl rfl rfl (vs := [_]) rfl rfl (by first | rfl | exact oneAll | exact oneAll2 | simp [Value.oneCell', str]) (Nat.le_of_ble_eq_true rfl) rfl ?_
      refine rl_end (ρ' := [(1, _), (5, _), (7, _), (8, _), (9, _), (10, _)]) ⟨rfl, rfl, rfl, rfl, rfl, rfl, trivial⟩ ?_
      refine q_then ?_
      refine wc_seq ?_
      refine wc_region ?_
      refine rl_y (y_field_p rfl Tryd.f46' rfl (by decide) rfl) rfl ?_
      refine rl_y (y_load_p rfl Tryd.k40 rfl rfl rfl (vs := [_]) rfl rfl rfl) rfl ?_
      refine rl_y (y_move rfl rfl) rfl ?_
      refine rl_do rfl rfl ?_
      refine do_call_o (caps := []) (ρ' := [(1, _), (5, _), (7, _), (8, _), (9, _), (10, _)]) [1000] [] trivial rfl rfl rfl Tryd.c52 rfl rfl ⟨rfl, rfl, rfl, rfl, rfl, rfl, trivial⟩ rfl rfl rfl (FnO.mono (ih (R.mm kids2) (by omega) vk2 kids2 _ oC u27 (Nat.le_refl _) hgk (((q5.mono hleA).mono hle23z).mono hle27z) ((hR.mono (hle3.trans hleC)).mono (hleA.trans (hle23z.trans hle27z))) (hM _ _ _ _ (hleA.trans (hle23z.trans hle27z)) hYC)) ?_)
      rintro v uK l1 hleK ⟨⟨kcs, ⟨kad, kcap, rfl, hk1⟩, hk2⟩, oK, rfl, hYK⟩ -
      refine ⟨⟨fun _ h => h, trivial⟩, ?_⟩
      refine rl_y (y_field_p rfl Tryd.f46' rfl (by decide) rfl) rfl ?_
      refine rl_do rfl rfl ?_
      refine do_store_p trivial rfl Tryd.k40 rfl rfl rfl (vs := [_]) rfl rfl (by first | rfl | exact oneAll | exact oneAll2 | simp [Value.oneCell', str]) (Nat.le_of_ble_eq_true rfl) rfl ?_
      refine rl_end (ρ' := [(1, _), (5, _), (7, _), (8, _), (9, _), (10, _)]) ⟨rfl, rfl, rfl, rfl, rfl, rfl, trivial⟩ ?_
      refine q_then ?_
      refine wc_region ?_
      refine rl_y (y_move rfl rfl) rfl ?_
      refine rl_y (y_load_p rfl Tryd.k46 rfl rfl rfl (vs := [_, _, _, _, _, _, _, _, _, _]) rfl rfl rfl) rfl ?_
      refine rl_do rfl rfl ?_
      refine do_buildSlice trivial Tryd.s40 Tryd.z46 (ps := [(_, _)]) rfl (xs := [_, _, _, _, _, _, _, _, _, _]) rfl rfl rfl rfl rfl rfl rfl ?_
      refine rl_do rfl rfl ?_
      refine do_append_s trivial rfl rfl Tryd.s40 Tryd.z46 rfl rfl rfl rfl rfl rfl (by first | rfl | exact oneAll | exact oneAll2 | simp [Value.oneCell', str]) (by omega) (by omega) (ρ' := [(1, _), (8, _), (9, _), (10, _)]) ⟨rfl, rfl, rfl, rfl, trivial⟩ rfl rfl rfl ?_
      refine rl_y (y_assign rfl rfl) rfl ?_
      refine rl_ren 37 505 rfl rfl rfl ?_
      refine rl_end (ρ' := [(1, _), (5, _), (8, _), (9, _), (10, _)]) ⟨rfl, rfl, rfl, rfl, rfl, trivial⟩ ?_
      refine q_block ?_
      refine q_then ?_
      refine wc_region ?_
      refine rl_y (y_add rfl rfl rfl (wrap64_id (by omega))) rfl ?_
      refine rl_y (y_move rfl rfl) rfl ?_
      refine rl_end (ρ' := [(1, _), (5, _), (8, _), (9, _), (10, _)]) ⟨rfl, rfl, rfl, rfl, rfl, trivial⟩ ?_
      refine q_thenK ?_
      refine ⟨m - 1, [(1, _), (5, _), (8, _), (9, _), (10, _)], [(505, _), (1000, _)], by omega, ⟨rfl, rfl, rfl, rfl, rfl, trivial⟩, ⟨rfl, rfl, trivial⟩, i + 1, by omega, (hle3.trans (hleC.trans (hleA.trans (hle23z.trans (hle27z.trans hleK))))), _, oK, (by rw [hgs, List.length_append]; rfl), (by first | rfl | simp), ?_⟩
      rw [hgs, hevs]
      refine ⟨(hacc.mono (hleC.trans (hleA.trans (hle23z.trans (hle27z.trans hleK))))).append (InlsC.one ?_), by simpa using hYK⟩
      have hok3 : InlOk (.mk k2 t2 d2 ti2 a2 args2 cites2 (R.g kids2)) := by
        obtain ⟨o1, o2, o3, o4, o5, o6, o7, o8⟩ := hok2
        exact ⟨o1, o2, o3, o4, o5, o6, o7, by rw [R.gl]; exact o8⟩
      have hw := hle23z.trans (hle27z.trans hleK)
      exact InlC.mk' (StrS.mono ⟨_, _, rfl, w1⟩ hw) (PrS.mono ⟨_, _, rfl, w2⟩ hw) (StrS.mono ⟨_, _, rfl, hsl23⟩ (hle27z.trans hleK)) (CiS.mono ⟨_, _, rfl, hsl27⟩ hleK) ⟨kcs, ⟨kad, kcap, rfl, hk1⟩, hk2⟩ hok3
    ·
      have hge := of_decide_eq_false hb3
      refine wc_exit ?_
      refine q_then_exit ?_
      refine q_then_exit ?_
      refine q_block_hit ?_
      refine q_then ?_
      refine wc_seq ?_
      refine wc_region ?_
      refine rl_y (y_move rfl rfl) rfl ?_
      refine rl_freeze 505 rfl ?_
      intro ad505 cap505 u505 hle505z hsl505
      refine rl_y (y_assign rfl rfl) rfl ?_
      refine rl_end (ρ' := [(4, _)]) ⟨rfl, trivial⟩ ?_
      refine q_then ?_
      refine wc_ret ?_
      refine finO1 [1000] (.tmp rfl) rfl rfl ?_
      rw [List.take_of_length_le (by omega)] at hacc hYi hsl505
      exact ⟨⟨_, ⟨_, _, by rw [List.take_of_length_le (by omega)], hsl505⟩, hacc.mono hle505z⟩, oi, rfl, hM _ _ _ _ hle505z hYi⟩
end Go.Proofs.Ythkgcakpjknlbaa
