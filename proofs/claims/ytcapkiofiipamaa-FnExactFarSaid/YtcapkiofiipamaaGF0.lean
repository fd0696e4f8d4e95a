/-
  Printed: what the functions compute. No conditions.
-/
import Derived.Test.YtcapkiofiipamaaProg
import Derived.Test.YtcapkiofiipamaaPc
set_option linter.unusedVariables false
set_option maxRecDepth 100000
namespace Go.PI.G
open Go Go.PI Go.Proofs
abbrev y0 : Ty := .slice .str
abbrev y1 : Ty := .pair (.int .i64) .str
abbrev y2 : Ty := .pair (.int .i64) y1
abbrev y3 : Ty := .pair .bool y2
abbrev y4 : Ty := .pair .bool y3
abbrev y5 : Ty := .pair (.int .i64) y4
abbrev y6 : Ty := .pair .str y5
abbrev y7 : Ty := .slice y6
abbrev y8 : Ty := .pair y7 y0
abbrev y9 : Ty := .pair .str y8
abbrev y10 : Ty := .slice y9
abbrev y11 : Ty := .slice y2
abbrev y12 : Ty := .slice y11
abbrev y13 : Ty := .slice y12
abbrev y14 : Ty := .pair y10 y13
abbrev y15 : Ty := .pair .str .str
abbrev y16 : Ty := .pair y0 y15
abbrev y17 : Ty := .pair y7 y16
abbrev y18 : Ty := .pair .str y17
abbrev y19 : Ty := .pair (.int .i64) y18
abbrev y20 : Ty := .pair y11 y19
abbrev y21 : Ty := .pair y11 y20
abbrev y22 : Ty := .pair .str y21
abbrev y23 : Ty := .pair (.int .i64) y22
abbrev y24 : Ty := .slice y23
abbrev y25 : Ty := .pair y9 y11
def tys : List (TypeId × Ty × List TypeId) := [(3, (.int .i64), []),
  (4, .bool, []),
  (5, (.int .u8), []),
  (9, .str, []),
  (22, y0, []),
  (33, y10, []),
  (35, y10, [33]),
  (36, y13, []),
  (38, y14, [35, 36]),
  (41, y10, []),
  (43, y10, [41]),
  (44, y13, []),
  (46, y14, [43, 44]),
  (56, y7, []),
  (58, y9, [9, 56, 22]),
  (59, y12, []),
  (62, y24, []),
  (65, y7, []),
  (67, y9, [9, 65, 22]),
  (69, y12, []),
  (95, y11, []),
  (97, y11, [95]),
  (99, y19, [3, 9, 65, 22, 9, 9]),
  (101, y23, [3, 9, 95, 97, 99]),
  (110, y11, []),
  (112, y11, [110]),
  (148, y12, [69]),
  (196, y2, [3, 3, 9]),
  (198, y6, [9, 3, 4, 4, 196]),
  (225, y12, [59]),
  (238, y2, [3, 3, 9]),
  (240, y6, [9, 3, 4, 4, 238])]
theorem follows : Try.prog.follows .mixedOrders = true := by kernel_rfl
theorem tysOk : TysOk Try.prog tys := tysB_ok (by kernel_rfl)
end Go.PI.G
