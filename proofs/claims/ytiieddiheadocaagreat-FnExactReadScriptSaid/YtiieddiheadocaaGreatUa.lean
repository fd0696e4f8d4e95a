/-
  Program's code interpreted over typed values; printed texts; plain laws. No conditions.
-/
import Derived.Test.YtiieddiheadocaaGreatPc
import Derived.Test.YtiieddiheadocaaGreatProg
set_option linter.unusedVariables false
set_option maxRecDepth 100000
namespace Go.PI.G
open Go Go.PI Go.Proofs
open Go.Code (pl pr)
abbrev qV:=Int×Int×ByteArray
abbrev qW:=List qV
abbrev qC:=ByteArray×Int×Bool×Bool×Int×Int×ByteArray
abbrev qE:=List qC
abbrev qT:=ByteArray×qE×List ByteArray
abbrev qK:=List TVal->List TVal->List TVal->Res
abbrev qB:=ByteArray
abbrev qL:=List ByteArray
abbrev qS:=Int×ByteArray×qW×qW×Int×ByteArray×qE×List ByteArray×ByteArray×ByteArray
abbrev qG:=Int×ByteArray×qE×List ByteArray×ByteArray×ByteArray
abbrev qP:=Int×Int×qS
abbrev qQ:=Int×qP×Int×Int×Int
abbrev qU:=List qS
abbrev y0:Ty:= .slice (.int .u8)
abbrev y1:Ty:= .pair (.int .i64) .str
abbrev y2:Ty:= .pair (.int .i64) y1
abbrev y3:Ty:= .slice y2
abbrev y4:Ty:= .pair .bool y2
abbrev y5:Ty:= .pair .bool y4
abbrev y6:Ty:= .pair (.int .i64) y5
abbrev y7:Ty:= .pair .str y6
abbrev y8:Ty:= .slice y7
abbrev y9:Ty:= .slice .str
abbrev y10:Ty:= .pair .str .str
abbrev y11:Ty:= .pair y9 y10
abbrev y12:Ty:= .pair y8 y11
abbrev y13:Ty:= .pair .str y12
abbrev y14:Ty:= .pair (.int .i64) y13
abbrev y15:Ty:= .pair y3 y14
abbrev y16:Ty:= .pair y3 y15
abbrev y17:Ty:= .pair .str y16
abbrev y18:Ty:= .pair (.int .i64) y17
abbrev y19:Ty:= .pair (.int .i64) y18
abbrev y20:Ty:= .pair (.int .i64) y19
abbrev y21:Ty:= .pair (.int .i64) (.int .i64)
abbrev y22:Ty:= .pair (.int .i64) y21
abbrev y23:Ty:= .pair y20 y22
abbrev y24:Ty:= .pair (.int .i64) y23
abbrev y25:Ty:= .slice y24
abbrev y26:Ty:= .slice (.int .i64)
abbrev y27:Ty:= .pair y8 y9
abbrev y28:Ty:= .pair .str y27
def z__:qB:=⟨#[45]⟩
def j0k:qB:=⟨#[48,49,50,51,52,53,54,55,56,57,97,98,99,100,101,102]⟩
def j1x:qB:=⟨#[116,114,117,101]⟩
def j1f:qB:=⟨#[102,97,108,115,101]⟩
def j73:qB:=⟨#[110,117,108,108]⟩
def j1I:qB:=⟨#[116,111]⟩
def j1m:qB:=⟨#[98,111,111,108]⟩
def j2l:qB:=⟨#[105,110,116]⟩
def j1A:qB:=⟨#[116,101,120,116]⟩
def j7F:qB:=⟨#[110,111,116]⟩
def j1a:qB:=⟨#[41]⟩
def j1b:qB:=⟨#[40]⟩
def j62:qB:=⟨#[61]⟩
def j2m:qB:=⟨#[107,101,121]⟩
def j17:qB:=⟨#[99,114,101,97,116,101]⟩
def j3N:qB:=⟨#[100,114,111,112]⟩
def j4v:qB:=⟨#[97,100,100]⟩
def j74:qB:=⟨#[111,117,116]⟩
def j36:qB:=⟨#[110,97,109,101]⟩
def j0e:qB:=⟨#[32]⟩
def j0J:qB:=⟨#[117,112,100,97,116,101]⟩
def j10:qB:=⟨#[105,110,115,101,114,116]⟩
def j0Z:qB:=⟨#[100,101,108,101,116,101]⟩
def jht:qB:=⟨#[99,108,101,97,114,32]⟩
def j21:qB:=⟨#[99,108,101,97,114]⟩
def jre:qB:=⟨#[32,110,111,116]⟩
def js8:qB:=⟨#[32,61]⟩
def jg5:qB:=⟨#[32,40,32]⟩
def jgS:qB:=⟨#[32,41]⟩
def j8f:qB:=⟨#[99,114,101,97,116,101,32]⟩
def jc6:qB:=⟨#[32,107,101,121,32]⟩
def jrL:qB:=⟨#[100,114,111,112,32]⟩
def j0h:qB:=⟨#[98,101,103,105,110]⟩
def j0W:qB:=⟨#[100,111]⟩
def j0b:qB:=⟨#[99,111,109,109,105,116]⟩
def j0g:qB:=⟨#[97,98,111,114,116]⟩
def j0H:qB:=⟨#[115,101,110,100]⟩
def j0I:qB:=⟨#[116,97,107,101]⟩
def j0N:qB:=⟨#[115,97,118,101]⟩
def j0M:qB:=⟨#[102,97,108,108]⟩
def j0L:qB:=⟨#[98,111,111,116]⟩
def j0p:qB:=⟨#[108,111,115,101]⟩
def j0j:qB:=⟨#[116,119,105,99,101]⟩
def j0o:qB:=⟨#[108,97,116,101]⟩
def j0z:qB:=⟨#[99,117,116]⟩
def jfc:qB:=⟨#[115,114,99,32]⟩
def j0E:qB:=⟨#[115,114,99]⟩
def jtW:qB:=⟨#[109,48]⟩
def z_m:qB:=⟨#[109]⟩
def tys:List (TypeId×Ty×List TypeId):=[(3,(.int .i64),[]),
 (4,.bool,[]),
 (5,(.int .u8),[]),
 (9,.str,[]),
 (22,y0,[]),
 (23,y3,[]),
 (25,y3,[23]),
 (26,y8,[]),
 (27,y9,[]),
 (29,y14,[3,9,26,27,9,9]),
 (31,y18,[3,9,23,25,29]),
 (57,y20,[3,3,31]),
 (60,y24,[3,57,3,3,3]),
 (77,y25,[]),
 (110,y2,[3,3,9]),
 (112,y7,[9,3,4,4,110]),
 (152,y26,[]),
 (192,y28,[9,26,27])]
theorem follows:Tryz.prog.follows .mixedOrders=true:=by kernel_rfl
theorem j00:Z0c Tryz.prog tys:=Z97 (by kernel_rfl)
end Go.PI.G
