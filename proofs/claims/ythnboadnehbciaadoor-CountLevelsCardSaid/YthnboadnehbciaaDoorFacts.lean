/- Closed facts on the program's types and functions, printed by a program of ours. -/
import Derived.Test.YthnboadnehbciaaDoorProg
import Derived.Test.YthnboadnehbciaaDoorEngCmp
namespace Go.Proofs
open Go Go.Eng
theorem Tryd.k2 : tyK Tryd.prog 2 = some (false, 1) := by kernel_rfl
theorem Tryd.z2 : tyZ Tryd.prog 2 = some [.int .i64 0] := by kernel_rfl
theorem Tryd.u2 : Tryd.prog.underlying 2 = some (.int .i64) := by kernel_rfl
theorem Tryd.k3 : tyK Tryd.prog 3 = some (false, 1) := by kernel_rfl
theorem Tryd.z3 : tyZ Tryd.prog 3 = some [.int .i64 0] := by kernel_rfl
theorem Tryd.u3 : Tryd.prog.underlying 3 = some (.int .i64) := by kernel_rfl
theorem Tryd.k4 : tyK Tryd.prog 4 = some (false, 1) := by kernel_rfl
theorem Tryd.z4 : tyZ Tryd.prog 4 = some [.bool false] := by kernel_rfl
theorem Tryd.b4 : Tryd.prog.underlying 4 = some .bool := by kernel_rfl
theorem Tryd.k5 : tyK Tryd.prog 5 = some (false, 1) := by kernel_rfl
theorem Tryd.z5 : tyZ Tryd.prog 5 = some [.int .u8 0] := by kernel_rfl
theorem Tryd.u5 : Tryd.prog.underlying 5 = some (.int .u8) := by kernel_rfl
theorem Tryd.k9 : tyK Tryd.prog 9 = some (false, 1) := by kernel_rfl
theorem Tryd.z9 : tyZ Tryd.prog 9 = some [str []] := by kernel_rfl
theorem Tryd.str9 : Tryd.prog.underlying 9 = some .string := by kernel_rfl
theorem Tryd.k22 : tyK Tryd.prog 22 = some (false, 1) := by kernel_rfl
theorem Tryd.z22 : tyZ Tryd.prog 22 = some [.slice none 0 0] := by kernel_rfl
theorem Tryd.s22 : tyS Tryd.prog 22 = some (53, 2, 32) := by kernel_rfl
theorem Tryd.k23 : tyK Tryd.prog 23 = some (false, 1) := by kernel_rfl
theorem Tryd.z23 : tyZ Tryd.prog 23 = some [.slice none 0 0] := by kernel_rfl
theorem Tryd.s23 : tyS Tryd.prog 23 = some (42, 11, 192) := by kernel_rfl
theorem Tryd.k25 : tyK Tryd.prog 25 = some (true, 2) := by kernel_rfl
theorem Tryd.z25 : tyZ Tryd.prog 25 = some [.slice none 0 0, .slice none 0 0] := by kernel_rfl
theorem Tryd.f25' : tyF Tryd.prog 25 = some [(0, 1), (1, 1)] := by kernel_rfl
theorem Tryd.k29 : tyK Tryd.prog 29 = some (false, 1) := by kernel_rfl
theorem Tryd.z29 : tyZ Tryd.prog 29 = some [.slice none 0 0] := by kernel_rfl
theorem Tryd.s29 : tyS Tryd.prog 29 = some (38, 4, 72) := by kernel_rfl
theorem Tryd.k32 : tyK Tryd.prog 32 = some (false, 1) := by kernel_rfl
theorem Tryd.z32 : tyZ Tryd.prog 32 = some [.slice none 0 0] := by kernel_rfl
theorem Tryd.s32 : tyS Tryd.prog 32 = some (9, 1, 16) := by kernel_rfl
theorem Tryd.k36 : tyK Tryd.prog 36 = some (false, 1) := by kernel_rfl
theorem Tryd.z36 : tyZ Tryd.prog 36 = some [.slice none 0 0] := by kernel_rfl
theorem Tryd.s36 : tyS Tryd.prog 36 = some (57, 10, 192) := by kernel_rfl
theorem Tryd.k38 : tyK Tryd.prog 38 = some (true, 4) := by kernel_rfl
theorem Tryd.z38 : tyZ Tryd.prog 38 = some [str [], str [], str [], .slice none 0 0] := by kernel_rfl
theorem Tryd.f38' : tyF Tryd.prog 38 = some [(0, 1), (1, 1), (2, 1), (3, 1)] := by kernel_rfl
theorem Tryd.k40 : tyK Tryd.prog 40 = some (true, 3) := by kernel_rfl
theorem Tryd.z40 : tyZ Tryd.prog 40 = some [str [], .slice none 0 0, .slice none 0 0] := by kernel_rfl
theorem Tryd.f40' : tyF Tryd.prog 40 = some [(0, 1), (1, 1), (2, 1)] := by kernel_rfl
theorem Tryd.k42 : tyK Tryd.prog 42 = some (true, 11) := by kernel_rfl
theorem Tryd.z42 : tyZ Tryd.prog 42 = some [.int .i64 0, .int .i64 0, str [], str [], str [], str [], str [], .slice none 0 0, .slice none 0 0, .slice none 0 0, .slice none 0 0] := by kernel_rfl
theorem Tryd.f42' : tyF Tryd.prog 42 = some [(0, 1), (1, 1), (2, 1), (3, 1), (4, 1), (5, 1), (6, 3), (9, 1), (10, 1)] := by kernel_rfl
theorem Tryd.k46 : tyK Tryd.prog 46 = some (false, 1) := by kernel_rfl
theorem Tryd.z46 : tyZ Tryd.prog 46 = some [.slice none 0 0] := by kernel_rfl
theorem Tryd.s46 : tyS Tryd.prog 46 = some (3, 1, 8) := by kernel_rfl
theorem Tryd.k49 : tyK Tryd.prog 49 = some (false, 1) := by kernel_rfl
theorem Tryd.z49 : tyZ Tryd.prog 49 = some [.slice none 0 0] := by kernel_rfl
theorem Tryd.s49 : tyS Tryd.prog 49 = some (5, 1, 1) := by kernel_rfl
theorem Tryd.k53 : tyK Tryd.prog 53 = some (true, 2) := by kernel_rfl
theorem Tryd.z53 : tyZ Tryd.prog 53 = some [str [], str []] := by kernel_rfl
theorem Tryd.f53' : tyF Tryd.prog 53 = some [(0, 1), (1, 1)] := by kernel_rfl
theorem Tryd.q53 : flatOf Tryd.prog 53 = some [(0, .s), (1, .s)] := by kernel_rfl
theorem Tryd.k55 : tyK Tryd.prog 55 = some (false, 1) := by kernel_rfl
theorem Tryd.z55 : tyZ Tryd.prog 55 = some [.slice none 0 0] := by kernel_rfl
theorem Tryd.s55 : tyS Tryd.prog 55 = some (84, 4, 56) := by kernel_rfl
theorem Tryd.k57 : tyK Tryd.prog 57 = some (true, 10) := by kernel_rfl
theorem Tryd.z57 : tyZ Tryd.prog 57 = some [.int .i64 0, str [], str [], str [], str [], .slice none 0 0, .slice none 0 0, .slice none 0 0, .slice none 0 0, .slice none 0 0] := by kernel_rfl
theorem Tryd.f57' : tyF Tryd.prog 57 = some [(0, 1), (1, 1), (2, 1), (3, 1), (4, 3), (7, 1), (8, 1), (9, 1)] := by kernel_rfl
theorem Tryd.k61 : tyK Tryd.prog 61 = some (true, 6) := by kernel_rfl
theorem Tryd.z61 : tyZ Tryd.prog 61 = some [.int .i64 0, .int .i64 0, .int .i64 0, .int .i64 0, .int .i64 0, .int .i64 0] := by kernel_rfl
theorem Tryd.a61 : tyA Tryd.prog 61 = some (6, 3, 1) := by kernel_rfl
theorem Tryd.k62 : tyK Tryd.prog 62 = some (false, 1) := by kernel_rfl
theorem Tryd.z62 : tyZ Tryd.prog 62 = some [.map none] := by kernel_rfl
theorem Tryd.m62 : Tryd.prog.underlying 62 = some (.map 9 3) := by kernel_rfl
theorem Tryd.v3 : tyV Tryd.prog 3 = some (.int .i64 0) := by kernel_rfl
theorem Tryd.k64 : tyK Tryd.prog 64 = some (false, 1) := by kernel_rfl
theorem Tryd.z64 : tyZ Tryd.prog 64 = some [.nilFunc] := by kernel_rfl
theorem Tryd.k65 : tyK Tryd.prog 65 = some (false, 1) := by kernel_rfl
theorem Tryd.z65 : tyZ Tryd.prog 65 = some [.nilFunc] := by kernel_rfl
theorem Tryd.k69 : tyK Tryd.prog 69 = some (true, 7) := by kernel_rfl
theorem Tryd.z69 : tyZ Tryd.prog 69 = some [.int .i64 0, .int .i64 0, .int .i64 0, .int .i64 0, .int .i64 0, .int .i64 0, .int .i64 0] := by kernel_rfl
theorem Tryd.a69 : tyA Tryd.prog 69 = some (7, 3, 1) := by kernel_rfl
theorem Tryd.k70 : tyK Tryd.prog 70 = some (true, 4) := by kernel_rfl
theorem Tryd.z70 : tyZ Tryd.prog 70 = some [.int .i64 0, .int .i64 0, .int .i64 0, .int .i64 0] := by kernel_rfl
theorem Tryd.a70 : tyA Tryd.prog 70 = some (4, 3, 1) := by kernel_rfl
theorem Tryd.k72 : tyK Tryd.prog 72 = some (true, 12) := by kernel_rfl
theorem Tryd.z72 : tyZ Tryd.prog 72 = some [.int .i64 0, .int .i64 0, .int .i64 0, .int .i64 0, .int .i64 0, .int .i64 0, .int .i64 0, .int .i64 0, .int .i64 0, .int .i64 0, .int .i64 0, .slice none 0 0] := by kernel_rfl
theorem Tryd.f72' : tyF Tryd.prog 72 = some [(0, 7), (7, 4), (11, 1)] := by kernel_rfl
theorem Tryd.k74 : tyK Tryd.prog 74 = some (false, 1) := by kernel_rfl
theorem Tryd.z74 : tyZ Tryd.prog 74 = some [.map none] := by kernel_rfl
theorem Tryd.m74 : Tryd.prog.underlying 74 = some (.map 9 4) := by kernel_rfl
theorem Tryd.v4 : tyV Tryd.prog 4 = some (.bool false) := by kernel_rfl
theorem Tryd.k84 : tyK Tryd.prog 84 = some (true, 4) := by kernel_rfl
theorem Tryd.z84 : tyZ Tryd.prog 84 = some [str [], str [], str [], .bool false] := by kernel_rfl
theorem Tryd.f84' : tyF Tryd.prog 84 = some [(0, 1), (1, 1), (2, 1), (3, 1)] := by kernel_rfl
theorem Tryd.q84 : flatOf Tryd.prog 84 = some [(0, .s), (1, .s), (2, .s), (3, .b)] := by kernel_rfl
theorem Tryd.k91 : tyK Tryd.prog 91 = some (false, 1) := by kernel_rfl
theorem Tryd.z91 : tyZ Tryd.prog 91 = some [.nilFunc] := by kernel_rfl
theorem Tryd.k92 : tyK Tryd.prog 92 = some (false, 1) := by kernel_rfl
theorem Tryd.z92 : tyZ Tryd.prog 92 = some [.nilFunc] := by kernel_rfl
theorem Tryd.k93 : tyK Tryd.prog 93 = some (false, 1) := by kernel_rfl
theorem Tryd.z93 : tyZ Tryd.prog 93 = some [.nilFunc] := by kernel_rfl
theorem Tryd.k97 : tyK Tryd.prog 97 = some (false, 1) := by kernel_rfl
theorem Tryd.z97 : tyZ Tryd.prog 97 = some [.nilFunc] := by kernel_rfl
theorem Tryd.k100 : tyK Tryd.prog 100 = some (false, 1) := by kernel_rfl
theorem Tryd.z100 : tyZ Tryd.prog 100 = some [.pointer none] := by kernel_rfl
theorem Tryd.k102 : tyK Tryd.prog 102 = some (true, 2) := by kernel_rfl
theorem Tryd.z102 : tyZ Tryd.prog 102 = some [.pointer none, .slice none 0 0] := by kernel_rfl
theorem Tryd.f102' : tyF Tryd.prog 102 = some [(0, 1), (1, 1)] := by kernel_rfl
theorem Tryd.k110 : tyK Tryd.prog 110 = some (true, 24) := by kernel_rfl
theorem Tryd.z110 : tyZ Tryd.prog 110 = some [.int .u8 0, .int .u8 0, .int .u8 0, .int .u8 0, .int .u8 0, .int .u8 0, .int .u8 0, .int .u8 0, .int .u8 0, .int .u8 0, .int .u8 0, .int .u8 0, .int .u8 0, .int .u8 0, .int .u8 0, .int .u8 0, .int .u8 0, .int .u8 0, .int .u8 0, .int .u8 0, .int .u8 0, .int .u8 0, .int .u8 0, .int .u8 0] := by kernel_rfl
theorem Tryd.a110 : tyA Tryd.prog 110 = some (24, 5, 1) := by kernel_rfl
theorem Tryd.k111 : tyK Tryd.prog 111 = some (false, 1) := by kernel_rfl
theorem Tryd.z111 : tyZ Tryd.prog 111 = some [.int .u64 0] := by kernel_rfl
theorem Tryd.u111 : Tryd.prog.underlying 111 = some (.int .u64) := by kernel_rfl
theorem Tryd.k116 : tyK Tryd.prog 116 = some (false, 1) := by kernel_rfl
theorem Tryd.z116 : tyZ Tryd.prog 116 = some [.pointer none] := by kernel_rfl
theorem Tryd.k119 : tyK Tryd.prog 119 = some (true, 20) := by kernel_rfl
theorem Tryd.z119 : tyZ Tryd.prog 119 = some [.int .u64 0, .int .u64 0, .int .u64 0, .int .u64 0, .int .u64 0, .int .u64 0, .int .u64 0, .int .u64 0, .int .u64 0, .int .u64 0, .int .u64 0, .int .u64 0, .int .u64 0, .int .u64 0, .int .u64 0, .int .u64 0, .int .u64 0, .int .u64 0, .int .u64 0, .int .u64 0] := by kernel_rfl
theorem Tryd.a119 : tyA Tryd.prog 119 = some (20, 111, 1) := by kernel_rfl
theorem Tryd.k120 : tyK Tryd.prog 120 = some (false, 1) := by kernel_rfl
theorem Tryd.z120 : tyZ Tryd.prog 120 = some [.int .u32 0] := by kernel_rfl
theorem Tryd.u120 : Tryd.prog.underlying 120 = some (.int .u32) := by kernel_rfl
theorem Tryd.k121 : tyK Tryd.prog 121 = some (true, 65) := by kernel_rfl
theorem Tryd.z121 : tyZ Tryd.prog 121 = some [.int .u8 0, .int .u8 0, .int .u8 0, .int .u8 0, .int .u8 0, .int .u8 0, .int .u8 0, .int .u8 0, .int .u8 0, .int .u8 0, .int .u8 0, .int .u8 0, .int .u8 0, .int .u8 0, .int .u8 0, .int .u8 0, .int .u8 0, .int .u8 0, .int .u8 0, .int .u8 0, .int .u8 0, .int .u8 0, .int .u8 0, .int .u8 0, .int .u8 0, .int .u8 0, .int .u8 0, .int .u8 0, .int .u8 0, .int .u8 0, .int .u8 0, .int .u8 0, .int .u8 0, .int .u8 0, .int .u8 0, .int .u8 0, .int .u8 0, .int .u8 0, .int .u8 0, .int .u8 0, .int .u8 0, .int .u8 0, .int .u8 0, .int .u8 0, .int .u8 0, .int .u8 0, .int .u8 0, .int .u8 0, .int .u8 0, .int .u8 0, .int .u8 0, .int .u8 0, .int .u8 0, .int .u8 0, .int .u8 0, .int .u8 0, .int .u8 0, .int .u8 0, .int .u8 0, .int .u8 0, .int .u8 0, .int .u8 0, .int .u8 0, .int .u8 0, .int .u8 0] := by kernel_rfl
theorem Tryd.a121 : tyA Tryd.prog 121 = some (65, 5, 1) := by kernel_rfl
theorem Tryd.k123 : tyK Tryd.prog 123 = some (false, 1) := by kernel_rfl
theorem Tryd.z123 : tyZ Tryd.prog 123 = some [.int .u64 0] := by kernel_rfl
theorem Tryd.u123 : Tryd.prog.underlying 123 = some (.int .u64) := by kernel_rfl
theorem Tryd.k125 : tyK Tryd.prog 125 = some (false, 1) := by kernel_rfl
theorem Tryd.z125 : tyZ Tryd.prog 125 = some [.pointer none] := by kernel_rfl
theorem Tryd.k129 : tyK Tryd.prog 129 = some (true, 32) := by kernel_rfl
theorem Tryd.z129 : tyZ Tryd.prog 129 = some [.int .u8 0, .int .u8 0, .int .u8 0, .int .u8 0, .int .u8 0, .int .u8 0, .int .u8 0, .int .u8 0, .int .u8 0, .int .u8 0, .int .u8 0, .int .u8 0, .int .u8 0, .int .u8 0, .int .u8 0, .int .u8 0, .int .u8 0, .int .u8 0, .int .u8 0, .int .u8 0, .int .u8 0, .int .u8 0, .int .u8 0, .int .u8 0, .int .u8 0, .int .u8 0, .int .u8 0, .int .u8 0, .int .u8 0, .int .u8 0, .int .u8 0, .int .u8 0] := by kernel_rfl
theorem Tryd.a129 : tyA Tryd.prog 129 = some (32, 5, 1) := by kernel_rfl
theorem Tryd.k130 : tyK Tryd.prog 130 = some (true, 64) := by kernel_rfl
theorem Tryd.z130 : tyZ Tryd.prog 130 = some [.int .u8 0, .int .u8 0, .int .u8 0, .int .u8 0, .int .u8 0, .int .u8 0, .int .u8 0, .int .u8 0, .int .u8 0, .int .u8 0, .int .u8 0, .int .u8 0, .int .u8 0, .int .u8 0, .int .u8 0, .int .u8 0, .int .u8 0, .int .u8 0, .int .u8 0, .int .u8 0, .int .u8 0, .int .u8 0, .int .u8 0, .int .u8 0, .int .u8 0, .int .u8 0, .int .u8 0, .int .u8 0, .int .u8 0, .int .u8 0, .int .u8 0, .int .u8 0, .int .u8 0, .int .u8 0, .int .u8 0, .int .u8 0, .int .u8 0, .int .u8 0, .int .u8 0, .int .u8 0, .int .u8 0, .int .u8 0, .int .u8 0, .int .u8 0, .int .u8 0, .int .u8 0, .int .u8 0, .int .u8 0, .int .u8 0, .int .u8 0, .int .u8 0, .int .u8 0, .int .u8 0, .int .u8 0, .int .u8 0, .int .u8 0, .int .u8 0, .int .u8 0, .int .u8 0, .int .u8 0, .int .u8 0, .int .u8 0, .int .u8 0, .int .u8 0] := by kernel_rfl
theorem Tryd.a130 : tyA Tryd.prog 130 = some (64, 5, 1) := by kernel_rfl
theorem Tryd.c9 : canCall Tryd.prog 9 = true := by kernel_rfl
theorem Tryd.c10 : canCall Tryd.prog 10 = true := by kernel_rfl
theorem Tryd.c11 : canCall Tryd.prog 11 = true := by kernel_rfl
theorem Tryd.c12 : canCall Tryd.prog 12 = true := by kernel_rfl
theorem Tryd.c13 : canCall Tryd.prog 13 = true := by kernel_rfl
theorem Tryd.c14 : canCall Tryd.prog 14 = true := by kernel_rfl
theorem Tryd.c15 : canCall Tryd.prog 15 = true := by kernel_rfl
theorem Tryd.c16 : canCall Tryd.prog 16 = true := by kernel_rfl
theorem Tryd.c17 : canCall Tryd.prog 17 = true := by kernel_rfl
theorem Tryd.c18 : canCall Tryd.prog 18 = true := by kernel_rfl
theorem Tryd.c19 : canCall Tryd.prog 19 = true := by kernel_rfl
theorem Tryd.c20 : canCall Tryd.prog 20 = true := by kernel_rfl
theorem Tryd.c21 : canCall Tryd.prog 21 = true := by kernel_rfl
theorem Tryd.c22 : canCall Tryd.prog 22 = true := by kernel_rfl
theorem Tryd.c23 : canCall Tryd.prog 23 = true := by kernel_rfl
theorem Tryd.c24 : canCall Tryd.prog 24 = true := by kernel_rfl
theorem Tryd.c25 : canCall Tryd.prog 25 = true := by kernel_rfl
theorem Tryd.c26 : canCall Tryd.prog 26 = true := by kernel_rfl
theorem Tryd.c27 : canCall Tryd.prog 27 = true := by kernel_rfl
theorem Tryd.c28 : canCall Tryd.prog 28 = true := by kernel_rfl
theorem Tryd.c29 : canCall Tryd.prog 29 = true := by kernel_rfl
theorem Tryd.c30 : canCall Tryd.prog 30 = true := by kernel_rfl
theorem Tryd.c31 : canCall Tryd.prog 31 = true := by kernel_rfl
theorem Tryd.c32 : canCall Tryd.prog 32 = true := by kernel_rfl
theorem Tryd.c33 : canCall Tryd.prog 33 = true := by kernel_rfl
theorem Tryd.c34 : canCall Tryd.prog 34 = true := by kernel_rfl
theorem Tryd.c35 : canCall Tryd.prog 35 = true := by kernel_rfl
theorem Tryd.c36 : canCall Tryd.prog 36 = true := by kernel_rfl
theorem Tryd.c37 : canCall Tryd.prog 37 = true := by kernel_rfl
theorem Tryd.c38 : canCall Tryd.prog 38 = true := by kernel_rfl
theorem Tryd.c39 : canCall Tryd.prog 39 = true := by kernel_rfl
theorem Tryd.c40 : canCall Tryd.prog 40 = true := by kernel_rfl
theorem Tryd.c41 : canCall Tryd.prog 41 = true := by kernel_rfl
theorem Tryd.c42 : canCall Tryd.prog 42 = true := by kernel_rfl
theorem Tryd.c43 : canCall Tryd.prog 43 = true := by kernel_rfl
theorem Tryd.c44 : canCall Tryd.prog 44 = true := by kernel_rfl
theorem Tryd.c45 : canCall Tryd.prog 45 = true := by kernel_rfl
theorem Tryd.c46 : canCall Tryd.prog 46 = true := by kernel_rfl
theorem Tryd.c47 : canCall Tryd.prog 47 = true := by kernel_rfl
theorem Tryd.c48 : canCall Tryd.prog 48 = true := by kernel_rfl
theorem Tryd.c49 : canCall Tryd.prog 49 = true := by kernel_rfl
theorem Tryd.c50 : canCall Tryd.prog 50 = true := by kernel_rfl
theorem Tryd.c51 : canCall Tryd.prog 51 = true := by kernel_rfl
theorem Tryd.c52 : canCall Tryd.prog 52 = true := by kernel_rfl
theorem Tryd.c53 : canCall Tryd.prog 53 = true := by kernel_rfl
theorem Tryd.c54 : canCall Tryd.prog 54 = true := by kernel_rfl
theorem Tryd.c55 : canCall Tryd.prog 55 = true := by kernel_rfl
theorem Tryd.c56 : canCall Tryd.prog 56 = true := by kernel_rfl
theorem Tryd.c57 : canCall Tryd.prog 57 = true := by kernel_rfl
theorem Tryd.c58 : canCall Tryd.prog 58 = true := by kernel_rfl
theorem Tryd.c59 : canCall Tryd.prog 59 = true := by kernel_rfl
theorem Tryd.c60 : canCall Tryd.prog 60 = true := by kernel_rfl
theorem Tryd.c61 : canCall Tryd.prog 61 = true := by kernel_rfl
theorem Tryd.c62 : canCall Tryd.prog 62 = true := by kernel_rfl
theorem Tryd.c63 : canCall Tryd.prog 63 = true := by kernel_rfl
theorem Tryd.c64 : canCall Tryd.prog 64 = true := by kernel_rfl
theorem Tryd.c65 : canCall Tryd.prog 65 = true := by kernel_rfl
theorem Tryd.c66 : canCall Tryd.prog 66 = true := by kernel_rfl
theorem Tryd.c67 : canCall Tryd.prog 67 = true := by kernel_rfl
theorem Tryd.c68 : canCall Tryd.prog 68 = true := by kernel_rfl
theorem Tryd.c69 : canCall Tryd.prog 69 = true := by kernel_rfl
theorem Tryd.c70 : canCall Tryd.prog 70 = true := by kernel_rfl
theorem Tryd.c71 : canCall Tryd.prog 71 = true := by kernel_rfl
theorem Tryd.c72 : canCall Tryd.prog 72 = true := by kernel_rfl
theorem Tryd.c73 : canCall Tryd.prog 73 = true := by kernel_rfl
theorem Tryd.c74 : canCall Tryd.prog 74 = true := by kernel_rfl
theorem Tryd.c75 : canCall Tryd.prog 75 = true := by kernel_rfl
theorem Tryd.c76 : canCall Tryd.prog 76 = true := by kernel_rfl
theorem Tryd.c77 : canCall Tryd.prog 77 = true := by kernel_rfl
theorem Tryd.c80 : canCall Tryd.prog 80 = true := by kernel_rfl
theorem Tryd.c81 : canCall Tryd.prog 81 = true := by kernel_rfl
theorem Tryd.mixed : Tryd.prog.follows .mixedOrders = true := by kernel_rfl
end Go.Proofs
