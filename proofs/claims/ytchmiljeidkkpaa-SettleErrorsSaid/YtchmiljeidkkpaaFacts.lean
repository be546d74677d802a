/- Closed facts on the program's types and functions, printed by a program of ours. -/
import Derived.Test.YtchmiljeidkkpaaProg
import Derived.Test.YtchmiljeidkkpaaEngDraw
namespace Go.Proofs
open Go Go.Eng
theorem Try.k3 : tyK Try.prog 3 = some (false, 1) := by kernel_rfl
theorem Try.z3 : tyZ Try.prog 3 = some [.int .i64 0] := by kernel_rfl
theorem Try.u3 : Try.prog.underlying 3 = some (.int .i64) := by kernel_rfl
theorem Try.k4 : tyK Try.prog 4 = some (false, 1) := by kernel_rfl
theorem Try.z4 : tyZ Try.prog 4 = some [.bool false] := by kernel_rfl
theorem Try.b4 : Try.prog.underlying 4 = some .bool := by kernel_rfl
theorem Try.k9 : tyK Try.prog 9 = some (false, 1) := by kernel_rfl
theorem Try.z9 : tyZ Try.prog 9 = some [str []] := by kernel_rfl
theorem Try.str9 : Try.prog.underlying 9 = some .string := by kernel_rfl
theorem Try.k20 : tyK Try.prog 20 = some (false, 1) := by kernel_rfl
theorem Try.z20 : tyZ Try.prog 20 = some [.nilIface] := by kernel_rfl
theorem Try.k22 : tyK Try.prog 22 = some (true, 8) := by kernel_rfl
theorem Try.z22 : tyZ Try.prog 22 = some [.int .i64 0, .int .i64 0, .int .i64 0, .int .i64 0, .int .i64 0, .int .i64 0, .int .i64 0, .int .i64 0] := by kernel_rfl
theorem Try.a22 : tyA Try.prog 22 = some (8, 3, 1) := by kernel_rfl
theorem Try.k26 : tyK Try.prog 26 = some (true, 9) := by kernel_rfl
theorem Try.z26 : tyZ Try.prog 26 = some [.int .i64 0, .int .i64 0, .int .i64 0, .int .i64 0, .int .i64 0, .int .i64 0, .int .i64 0, .int .i64 0, .int .i64 0] := by kernel_rfl
theorem Try.f26' : tyF Try.prog 26 = some [(0, 1), (1, 8)] := by kernel_rfl
theorem Try.k27 : tyK Try.prog 27 = some (false, 1) := by kernel_rfl
theorem Try.z27 : tyZ Try.prog 27 = some [.int .i64 0] := by kernel_rfl
theorem Try.u27 : Try.prog.underlying 27 = some (.int .i64) := by kernel_rfl
theorem Try.k30 : tyK Try.prog 30 = some (false, 1) := by kernel_rfl
theorem Try.z30 : tyZ Try.prog 30 = some [.nilFunc] := by kernel_rfl
theorem Try.k35 : tyK Try.prog 35 = some (false, 1) := by kernel_rfl
theorem Try.z35 : tyZ Try.prog 35 = some [.slice none 0 0] := by kernel_rfl
theorem Try.s35 : tyS Try.prog 35 = some (50, 2, 32) := by kernel_rfl
theorem Try.k38 : tyK Try.prog 38 = some (false, 1) := by kernel_rfl
theorem Try.z38 : tyZ Try.prog 38 = some [.nilFunc] := by kernel_rfl
theorem Try.k40 : tyK Try.prog 40 = some (false, 1) := by kernel_rfl
theorem Try.z40 : tyZ Try.prog 40 = some [.nilFunc] := by kernel_rfl
theorem Try.k43 : tyK Try.prog 43 = some (false, 1) := by kernel_rfl
theorem Try.z43 : tyZ Try.prog 43 = some [.nilFunc] := by kernel_rfl
theorem Try.k45 : tyK Try.prog 45 = some (false, 1) := by kernel_rfl
theorem Try.z45 : tyZ Try.prog 45 = some [.nilFunc] := by kernel_rfl
theorem Try.k46 : tyK Try.prog 46 = some (false, 1) := by kernel_rfl
theorem Try.z46 : tyZ Try.prog 46 = some [.nilFunc] := by kernel_rfl
theorem Try.k47 : tyK Try.prog 47 = some (false, 1) := by kernel_rfl
theorem Try.z47 : tyZ Try.prog 47 = some [.slice none 0 0] := by kernel_rfl
theorem Try.s47 : tyS Try.prog 47 = some (3, 1, 8) := by kernel_rfl
theorem Try.k50 : tyK Try.prog 50 = some (true, 2) := by kernel_rfl
theorem Try.z50 : tyZ Try.prog 50 = some [str [], str []] := by kernel_rfl
theorem Try.f50' : tyF Try.prog 50 = some [(0, 1), (1, 1)] := by kernel_rfl
theorem Try.k53 : tyK Try.prog 53 = some (false, 1) := by kernel_rfl
theorem Try.z53 : tyZ Try.prog 53 = some [.nilFunc] := by kernel_rfl
theorem Try.k54 : tyK Try.prog 54 = some (false, 1) := by kernel_rfl
theorem Try.z54 : tyZ Try.prog 54 = some [.nilFunc] := by kernel_rfl
theorem Try.k55 : tyK Try.prog 55 = some (false, 1) := by kernel_rfl
theorem Try.z55 : tyZ Try.prog 55 = some [.slice none 0 0] := by kernel_rfl
theorem Try.s55 : tyS Try.prog 55 = some (26, 9, 72) := by kernel_rfl
theorem Try.k57 : tyK Try.prog 57 = some (false, 1) := by kernel_rfl
theorem Try.z57 : tyZ Try.prog 57 = some [.slice none 0 0] := by kernel_rfl
theorem Try.s57 : tyS Try.prog 57 = some (35, 1, 24) := by kernel_rfl
theorem Try.c9 : canCall Try.prog 9 = true := by kernel_rfl
theorem Try.c10 : canCall Try.prog 10 = true := by kernel_rfl
theorem Try.c11 : canCall Try.prog 11 = true := by kernel_rfl
theorem Try.c12 : canCall Try.prog 12 = true := by kernel_rfl
theorem Try.c13 : canCall Try.prog 13 = true := by kernel_rfl
theorem Try.c14 : canCall Try.prog 14 = true := by kernel_rfl
theorem Try.c15 : canCall Try.prog 15 = true := by kernel_rfl
theorem Try.c16 : canCall Try.prog 16 = true := by kernel_rfl
theorem Try.c17 : canCall Try.prog 17 = true := by kernel_rfl
theorem Try.c18 : canCall Try.prog 18 = true := by kernel_rfl
theorem Try.c19 : canCall Try.prog 19 = true := by kernel_rfl
theorem Try.c20 : canCall Try.prog 20 = true := by kernel_rfl
theorem Try.c21 : canCall Try.prog 21 = true := by kernel_rfl
theorem Try.c22 : canCall Try.prog 22 = true := by kernel_rfl
theorem Try.c23 : canCall Try.prog 23 = true := by kernel_rfl
theorem Try.c24 : canCall Try.prog 24 = true := by kernel_rfl
theorem Try.c25 : canCall Try.prog 25 = true := by kernel_rfl
theorem Try.c26 : canCall Try.prog 26 = true := by kernel_rfl
theorem Try.c27 : canCall Try.prog 27 = true := by kernel_rfl
theorem Try.c28 : canCall Try.prog 28 = true := by kernel_rfl
theorem Try.c29 : canCall Try.prog 29 = true := by kernel_rfl
theorem Try.c30 : canCall Try.prog 30 = true := by kernel_rfl
theorem Try.c31 : canCall Try.prog 31 = true := by kernel_rfl
theorem Try.c32 : canCall Try.prog 32 = true := by kernel_rfl
theorem Try.mixed : Try.prog.follows .mixedOrders = true := by kernel_rfl
end Go.Proofs
