/-
  Printed texts and plain laws. No conditions.
-/
import Derived.Test.YtnijpcgdbjmokaaPc
import Derived.Test.YtnijpcgdbjmokaaProg
set_option linter.unusedVariables false
set_option maxRecDepth 100000
namespace Go.PI.G
open Go Go.PI Go.Proofs
abbrev qV := Int × Int × ByteArray
abbrev qW := List qV
abbrev qC := ByteArray × Int × Bool × Bool × Int × Int × ByteArray
abbrev qE := List qC
abbrev qT := ByteArray × qE × List ByteArray
abbrev qF := List qT
abbrev qR := List qW
abbrev qX := List qR
abbrev qD := qF × List qR
abbrev qS := Int × ByteArray × qW × qW × Int × ByteArray × qE × List ByteArray × ByteArray × ByteArray
abbrev qU := List qS
abbrev qK := List TVal → List TVal → List TVal → Res
abbrev y0 : Ty := .slice (.int .u8)
abbrev y1 : Ty := .pair (.int .i64) .str
abbrev y2 : Ty := .pair (.int .i64) y1
abbrev y3 : Ty := .slice y2
abbrev y4 : Ty := .pair y0 (.int .i64)
abbrev y5 : Ty := .pair (.int .i64) .bool
abbrev y6 : Ty := .pair y0 y5
def z_m0 : ByteArray := ⟨#[109, 48]⟩
def z_m : ByteArray := ⟨#[109]⟩
def tys : List (TypeId × Ty × List TypeId) := [(3, (.int .i64), []),
 (4, .bool, []),
 (5, (.int .u8), []),
 (9, .str, []),
 (45, y0, []),
 (67, y3, []),
 (104, y4, [45, 3]),
 (110, y6, [45, 3, 4]),
 (114, y2, [3, 3, 9])]
theorem follows : Try.prog.follows .mixedOrders = true := by kernel_rfl
theorem tysOk : TysOk Try.prog tys := tysB_ok (by kernel_rfl)
end Go.PI.G
noncomputable section
namespace Go.PI.G
open Go Go.PI Go.Proofs

/-! ### 118 loop.example/g00462/spec.l01Num -/
def c_spec_l01Num : Code := (Try.f118.body).getD .skip
def g_spec_l01Num : Env Unit := ⟨tys, [], 0⟩
def spec_l01Num (n_ : Int) (k0 : Bool → Res) : Res :=
 bif decide (n_ ≥ (-1099511627775)) then
  k0 (decide (n_ ≤ 1099511627775))
 else
  k0 false
def s_spec_l01Num : Sig Unit := ⟨[.look (.int .i64) false], [false], fun vals ext k => av vals (.int .i64) fun n_ vals => nl vals <| nl ext <| spec_l01Num n_ (fun (r0 : Bool) => k [⟨.bool, false, r0, []⟩] [] [])⟩
theorem E_spec_l01Num (n_ : Int) (a_n_ : Bool) (t_n_ : List Tag) (k : qK) : funC g_spec_l01Num [] .o false Try.f118 [.look (.int .i64) false] [false] [⟨(.int .i64), a_n_, n_, t_n_⟩] [] k = spec_l01Num n_ (fun (r0 : Bool) => k [⟨.bool, false, r0, []⟩] [] []) := by kernel_rfl
theorem S_spec_l01Num : Sound Try.prog 118 s_spec_l01Num := sound_of (Γ := g_spec_l01Num) (X := []) (ht := .o) (fz := false) (c := c_spec_l01Num) follows tysOk fns_nil trivial Try.func118 (by kernel_rfl) (by kernel_rfl) (by decide) (by
 intro vals ext k r h
 obtain ⟨n_, a_n_, t_n_, vals, rfl, h1⟩ := av_some h
 obtain ⟨rfl, h2⟩ := nl_some h1
 obtain ⟨rfl, h3⟩ := nl_some h2
 exact (E_spec_l01Num n_ a_n_ t_n_ k).trans h3)

/-! ### 106 loop.example/g00462/spec.ValOk -/
def c_spec_ValOk : Code := (Try.f106.body).getD .skip
def g_spec_ValOk : Env Unit := ⟨tys, [(118, s_spec_l01Num)], 0⟩
def spec_ValOk (v_ : Int × Int × ByteArray) (k0 : Bool → Res) : Res :=
 bif (v_.1 == 0) then
  bif (v_.2.1 == 0) then
   k0 (sEq v_.2.2 eS)
  else
   k0 false
 else
  bif (v_.1 == 1) then
   bif (v_.2.1 == 0) then
    k0 (sEq v_.2.2 eS)
   else
    bif (v_.2.1 == 1) then
     k0 (sEq v_.2.2 eS)
    else
     k0 false
  else
   bif (v_.1 == 2) then
    spec_l01Num v_.2.1 fun (r : Bool) =>
     bif r then
      k0 (sEq v_.2.2 eS)
     else
      k0 false
   else
    bif (v_.1 == 3) then
     bif (v_.2.1 == 0) then
      k0 (decide ((nI (ByteArray.size v_.2.2)) ≤ 30))
     else
      k0 false
    else
     k0 false
def s_spec_ValOk : Sig Unit := ⟨[.look y2 true], [false], fun vals ext k => av vals y2 fun v_ vals => nl vals <| nl ext <| spec_ValOk v_ (fun (r0 : Bool) => k [⟨.bool, false, r0, []⟩] [] [])⟩
theorem E_spec_ValOk (v_ : Int × Int × ByteArray) (a_v_ : Bool) (t_v_ : List Tag) (k : qK) : funC g_spec_ValOk [] .o false Try.f106 [.look y2 true] [false] [⟨y2, a_v_, v_, t_v_⟩] [] k = spec_ValOk v_ (fun (r0 : Bool) => k [⟨.bool, false, r0, []⟩] [] []) := by kernel_rfl
theorem S_spec_ValOk : Sound Try.prog 106 s_spec_ValOk := sound_of (Γ := g_spec_ValOk) (X := []) (ht := .o) (fz := false) (c := c_spec_ValOk) follows tysOk (fns_cons S_spec_l01Num fns_nil) trivial Try.func106 (by kernel_rfl) (by kernel_rfl) (by decide) (by
 intro vals ext k r h
 obtain ⟨v_, a_v_, t_v_, vals, rfl, h1⟩ := av_some h
 obtain ⟨rfl, h2⟩ := nl_some h1
 obtain ⟨rfl, h3⟩ := nl_some h2
 exact (E_spec_ValOk v_ a_v_ t_v_ k).trans h3)

/-! ### 103 loop.example/g00462/impl.within -/
def c_impl_within : Code := (Try.f103.body).getD .skip
def g_impl_within : Env Unit := ⟨tys, [], 0⟩
def impl_within (x : Int) (lo : Int) (hi : Int) (k0 : Bool → Res) : Res :=
 bif decide (x ≥ lo) then
  k0 (decide (x ≤ hi))
 else
  k0 false
def s_impl_within : Sig Unit := ⟨[.look (.int .i64) false, .look (.int .i64) false, .look (.int .i64) false], [false], fun vals ext k => av vals (.int .i64) fun x vals => av vals (.int .i64) fun lo vals => av vals (.int .i64) fun hi vals => nl vals <| nl ext <| impl_within x lo hi (fun (r0 : Bool) => k [⟨.bool, false, r0, []⟩] [] [])⟩
theorem E_impl_within (x : Int) (a_x : Bool) (t_x : List Tag) (lo : Int) (a_lo : Bool) (t_lo : List Tag) (hi : Int) (a_hi : Bool) (t_hi : List Tag) (k : qK) : funC g_impl_within [] .o false Try.f103 [.look (.int .i64) false, .look (.int .i64) false, .look (.int .i64) false] [false] [⟨(.int .i64), a_x, x, t_x⟩, ⟨(.int .i64), a_lo, lo, t_lo⟩, ⟨(.int .i64), a_hi, hi, t_hi⟩] [] k = impl_within x lo hi (fun (r0 : Bool) => k [⟨.bool, false, r0, []⟩] [] []) := by kernel_rfl
theorem S_impl_within : Sound Try.prog 103 s_impl_within := sound_of (Γ := g_impl_within) (X := []) (ht := .o) (fz := false) (c := c_impl_within) follows tysOk fns_nil trivial Try.func103 (by kernel_rfl) (by kernel_rfl) (by decide) (by
 intro vals ext k r h
 obtain ⟨x, a_x, t_x, vals, rfl, h1⟩ := av_some h
 obtain ⟨lo, a_lo, t_lo, vals, rfl, h2⟩ := av_some h1
 obtain ⟨hi, a_hi, t_hi, vals, rfl, h3⟩ := av_some h2
 obtain ⟨rfl, h4⟩ := nl_some h3
 obtain ⟨rfl, h5⟩ := nl_some h4
 exact (E_impl_within x a_x t_x lo a_lo t_lo hi a_hi t_hi k).trans h5)

/-! ### 110 loop.example/g00462/impl.ValOk -/
def c_impl_ValOk : Code := (Try.f110.body).getD .skip
def g_impl_ValOk : Env Unit := ⟨tys, [(103, s_impl_within)], 0⟩
def impl_ValOk (v_ : Int × Int × ByteArray) (k0 : Bool → Res) : Res :=
 bif (v_.1 == 0) then
  k0 ((v_.1 == 0) && ((v_.2.1 == 0) && (sEq v_.2.2 eS)))
 else
  bif (v_.1 == 1) then
   impl_within v_.2.1 0 1 fun (r : Bool) =>
    bif r then
     k0 (sEq v_.2.2 eS)
    else
     k0 false
  else
   bif (v_.1 == 2) then
    impl_within v_.2.1 (-1099511627775) 1099511627775 fun (r1 : Bool) =>
     bif r1 then
      k0 (sEq v_.2.2 eS)
     else
      k0 false
   else
    bif (v_.1 == 3) then
     bif (v_.2.1 == 0) then
      k0 (decide ((nI (ByteArray.size v_.2.2)) ≤ 30))
     else
      k0 false
    else
     k0 false
def s_impl_ValOk : Sig Unit := ⟨[.look y2 true], [false], fun vals ext k => av vals y2 fun v_ vals => nl vals <| nl ext <| impl_ValOk v_ (fun (r0 : Bool) => k [⟨.bool, false, r0, []⟩] [] [])⟩
theorem E_impl_ValOk (v_ : Int × Int × ByteArray) (a_v_ : Bool) (t_v_ : List Tag) (k : qK) : funC g_impl_ValOk [] .o false Try.f110 [.look y2 true] [false] [⟨y2, a_v_, v_, t_v_⟩] [] k = impl_ValOk v_ (fun (r0 : Bool) => k [⟨.bool, false, r0, []⟩] [] []) := by kernel_rfl
theorem S_impl_ValOk : Sound Try.prog 110 s_impl_ValOk := sound_of (Γ := g_impl_ValOk) (X := []) (ht := .o) (fz := false) (c := c_impl_ValOk) follows tysOk (fns_cons S_impl_within fns_nil) trivial Try.func110 (by kernel_rfl) (by kernel_rfl) (by decide) (by
 intro vals ext k r h
 obtain ⟨v_, a_v_, t_v_, vals, rfl, h1⟩ := av_some h
 obtain ⟨rfl, h2⟩ := nl_some h1
 obtain ⟨rfl, h3⟩ := nl_some h2
 exact (E_impl_ValOk v_ a_v_ t_v_ k).trans h3)
end Go.PI.G
end
