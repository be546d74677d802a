/- Closed facts on the program's types and functions, printed by a program of ours. -/
import Derived.Test.YtceodelgalfjfaaDoorProg
import Derived.Test.YtceodelgalfjfaaDoorEngDraw
namespace Go.Proofs
open Go Go.Eng
theorem Tryd.k3 : tyK Tryd.prog 3 = some (false, 1) := by kernel_rfl
theorem Tryd.z3 : tyZ Tryd.prog 3 = some [.int .i64 0] := by kernel_rfl
theorem Tryd.u3 : Tryd.prog.underlying 3 = some (.int .i64) := by kernel_rfl
theorem Tryd.k5 : tyK Tryd.prog 5 = some (false, 1) := by kernel_rfl
theorem Tryd.z5 : tyZ Tryd.prog 5 = some [.int .u8 0] := by kernel_rfl
theorem Tryd.u5 : Tryd.prog.underlying 5 = some (.int .u8) := by kernel_rfl
theorem Tryd.k9 : tyK Tryd.prog 9 = some (false, 1) := by kernel_rfl
theorem Tryd.z9 : tyZ Tryd.prog 9 = some [str []] := by kernel_rfl
theorem Tryd.str9 : Tryd.prog.underlying 9 = some .string := by kernel_rfl
theorem Tryd.k21 : tyK Tryd.prog 21 = some (false, 1) := by kernel_rfl
theorem Tryd.z21 : tyZ Tryd.prog 21 = some [.int .i32 0] := by kernel_rfl
theorem Tryd.u21 : Tryd.prog.underlying 21 = some (.int .i32) := by kernel_rfl
theorem Tryd.k28 : tyK Tryd.prog 28 = some (false, 1) := by kernel_rfl
theorem Tryd.z28 : tyZ Tryd.prog 28 = some [.slice none 0 0] := by kernel_rfl
theorem Tryd.s28 : tyS Tryd.prog 28 = some (3, 1, 8) := by kernel_rfl
theorem Tryd.k34 : tyK Tryd.prog 34 = some (true, 95) := by kernel_rfl
theorem Tryd.z34 : tyZ Tryd.prog 34 = some [.int .u8 0, .int .u8 0, .int .u8 0, .int .u8 0, .int .u8 0, .int .u8 0, .int .u8 0, .int .u8 0, .int .u8 0, .int .u8 0, .int .u8 0, .int .u8 0, .int .u8 0, .int .u8 0, .int .u8 0, .int .u8 0, .int .u8 0, .int .u8 0, .int .u8 0, .int .u8 0, .int .u8 0, .int .u8 0, .int .u8 0, .int .u8 0, .int .u8 0, .int .u8 0, .int .u8 0, .int .u8 0, .int .u8 0, .int .u8 0, .int .u8 0, .int .u8 0, .int .u8 0, .int .u8 0, .int .u8 0, .int .u8 0, .int .u8 0, .int .u8 0, .int .u8 0, .int .u8 0, .int .u8 0, .int .u8 0, .int .u8 0, .int .u8 0, .int .u8 0, .int .u8 0, .int .u8 0, .int .u8 0, .int .u8 0, .int .u8 0, .int .u8 0, .int .u8 0, .int .u8 0, .int .u8 0, .int .u8 0, .int .u8 0, .int .u8 0, .int .u8 0, .int .u8 0, .int .u8 0, .int .u8 0, .int .u8 0, .int .u8 0, .int .u8 0, .int .u8 0, .int .u8 0, .int .u8 0, .int .u8 0, .int .u8 0, .int .u8 0, .int .u8 0, .int .u8 0, .int .u8 0, .int .u8 0, .int .u8 0, .int .u8 0, .int .u8 0, .int .u8 0, .int .u8 0, .int .u8 0, .int .u8 0, .int .u8 0, .int .u8 0, .int .u8 0, .int .u8 0, .int .u8 0, .int .u8 0, .int .u8 0, .int .u8 0, .int .u8 0, .int .u8 0, .int .u8 0, .int .u8 0, .int .u8 0, .int .u8 0] := by kernel_rfl
theorem Tryd.a34 : tyA Tryd.prog 34 = some (95, 5, 1) := by kernel_rfl
theorem Tryd.k38 : tyK Tryd.prog 38 = some (false, 1) := by kernel_rfl
theorem Tryd.z38 : tyZ Tryd.prog 38 = some [.slice none 0 0] := by kernel_rfl
theorem Tryd.s38 : tyS Tryd.prog 38 = some (41, 2, 16) := by kernel_rfl
theorem Tryd.k41 : tyK Tryd.prog 41 = some (true, 2) := by kernel_rfl
theorem Tryd.z41 : tyZ Tryd.prog 41 = some [.int .i64 0, .int .i64 0] := by kernel_rfl
theorem Tryd.f41' : tyF Tryd.prog 41 = some [(0, 1), (1, 1)] := by kernel_rfl
theorem Tryd.c8 : canCall Tryd.prog 8 = true := by kernel_rfl
theorem Tryd.c9 : canCall Tryd.prog 9 = true := by kernel_rfl
theorem Tryd.c10 : canCall Tryd.prog 10 = true := by kernel_rfl
theorem Tryd.c11 : canCall Tryd.prog 11 = true := by kernel_rfl
theorem Tryd.c12 : canCall Tryd.prog 12 = true := by kernel_rfl
theorem Tryd.c13 : canCall Tryd.prog 13 = true := by kernel_rfl
theorem Tryd.c14 : canCall Tryd.prog 14 = true := by kernel_rfl
theorem Tryd.c15 : canCall Tryd.prog 15 = true := by kernel_rfl
theorem Tryd.c16 : canCall Tryd.prog 16 = true := by kernel_rfl
theorem Tryd.c17 : canCall Tryd.prog 17 = true := by kernel_rfl
theorem Tryd.c18 : canCall Tryd.prog 18 = true := by kernel_rfl
theorem Tryd.c19 : canCall Tryd.prog 19 = true := by kernel_rfl
theorem Tryd.c20 : canCall Tryd.prog 20 = true := by kernel_rfl
theorem Tryd.c21 : canCall Tryd.prog 21 = true := by kernel_rfl
theorem Tryd.c22 : canCall Tryd.prog 22 = true := by kernel_rfl
theorem Tryd.c23 : canCall Tryd.prog 23 = true := by kernel_rfl
theorem Tryd.c24 : canCall Tryd.prog 24 = true := by kernel_rfl
theorem Tryd.c25 : canCall Tryd.prog 25 = true := by kernel_rfl
theorem Tryd.c26 : canCall Tryd.prog 26 = true := by kernel_rfl
theorem Tryd.c27 : canCall Tryd.prog 27 = true := by kernel_rfl
theorem Tryd.c28 : canCall Tryd.prog 28 = true := by kernel_rfl
theorem Tryd.c29 : canCall Tryd.prog 29 = true := by kernel_rfl
theorem Tryd.c30 : canCall Tryd.prog 30 = true := by kernel_rfl
theorem Tryd.c31 : canCall Tryd.prog 31 = true := by kernel_rfl
theorem Tryd.c32 : canCall Tryd.prog 32 = true := by kernel_rfl
theorem Tryd.c33 : canCall Tryd.prog 33 = true := by kernel_rfl
theorem Tryd.mixed : Tryd.prog.follows .mixedOrders = true := by kernel_rfl
end Go.Proofs
