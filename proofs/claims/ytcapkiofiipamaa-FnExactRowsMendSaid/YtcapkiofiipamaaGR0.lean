/-
  Printed: what the functions compute. No conditions.
-/
import Derived.Test.YtcapkiofiipamaaProg
import Derived.Test.YtcapkiofiipamaaPc
set_option linter.unusedVariables false
set_option maxRecDepth 100000
namespace Go.PI.G
open Go Go.PI Go.Proofs
abbrev y0 : Ty := .slice .str
abbrev y1 : Ty := .pair (.int .i64) .str
abbrev y2 : Ty := .pair (.int .i64) y1
abbrev y3 : Ty := .pair .bool y2
abbrev y4 : Ty := .pair .bool y3
abbrev y5 : Ty := .pair (.int .i64) y4
abbrev y6 : Ty := .pair .str y5
abbrev y7 : Ty := .slice y6
abbrev y8 : Ty := .pair y7 y0
abbrev y9 : Ty := .pair .str y8
abbrev y10 : Ty := .slice y2
abbrev y11 : Ty := .slice y10
abbrev y12 : Ty := .pair .str .str
abbrev y13 : Ty := .pair y0 y12
abbrev y14 : Ty := .pair y7 y13
abbrev y15 : Ty := .pair .str y14
abbrev y16 : Ty := .pair (.int .i64) y15
abbrev y17 : Ty := .pair y10 y16
abbrev y18 : Ty := .pair y10 y17
abbrev y19 : Ty := .pair .str y18
abbrev y20 : Ty := .pair (.int .i64) y19
abbrev y21 : Ty := .slice y20
abbrev y22 : Ty := .slice (.int .u8)
abbrev y23 : Ty := .pair y9 y10
def z_m0 : ByteArray := ⟨#[109, 48]⟩
def z_m : ByteArray := ⟨#[109]⟩
def tys : List (TypeId × Ty × List TypeId) := [(3, (.int .i64), []),
  (4, .bool, []),
  (5, (.int .u8), []),
  (9, .str, []),
  (22, y0, []),
  (56, y7, []),
  (58, y9, [9, 56, 22]),
  (59, y11, []),
  (62, y21, []),
  (65, y7, []),
  (67, y9, [9, 65, 22]),
  (69, y11, []),
  (94, y22, []),
  (95, y10, []),
  (97, y10, [95]),
  (99, y16, [3, 9, 65, 22, 9, 9]),
  (101, y20, [3, 9, 95, 97, 99]),
  (110, y10, []),
  (112, y10, [110]),
  (196, y2, [3, 3, 9]),
  (198, y6, [9, 3, 4, 4, 196]),
  (238, y2, [3, 3, 9]),
  (240, y6, [9, 3, 4, 4, 238])]
theorem follows : Try.prog.follows .mixedOrders = true := by kernel_rfl
theorem tysOk : TysOk Try.prog tys := tysB_ok (by kernel_rfl)
end Go.PI.G
