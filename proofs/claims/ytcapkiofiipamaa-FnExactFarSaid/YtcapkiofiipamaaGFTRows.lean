/-
  Printed: what the functions compute. No conditions.
-/
import Derived.Test.YtcapkiofiipamaaGF0
import Derived.Test.YtcapkiofiipamaaGFTRowS
set_option linter.unusedVariables false
set_option maxRecDepth 100000
namespace Go.PI.G
open Go Go.PI Go.Proofs

/-! ### 158 loop.example/g00462/laws.szRows -/
noncomputable def c_laws_szRows : Code := (Try.f158.body).getD .skip
noncomputable def g_laws_szRows : Env Unit := ⟨tys, [(30, s_laws_szRowS)], 0⟩
noncomputable def laws_szRows (a : List (List (Int × Int × ByteArray))) (left : Int) (k0 : Int → Res) : Res :=
  laws_szRowS a left fun (r : Int) =>
    bif decide (r < 0) then
      k0 (-1)
    else
      k0 r
noncomputable def s_laws_szRows : Sig Unit := ⟨[.look y12 true, .look (.int .i64) false], [false], fun vals ext k => av vals y12 fun a vals => av vals (.int .i64) fun left vals => nl vals <| nl ext <| laws_szRows a left (fun (r0 : Int) => k [⟨(.int .i64), false, r0, []⟩] [] [])⟩
theorem E_laws_szRows (a : List (List (Int × Int × ByteArray))) (a_a : Bool) (t_a : List Tag) (left : Int) (a_left : Bool) (t_left : List Tag) (k : List TVal → List TVal → List TVal → Res) : funC g_laws_szRows [] .o false Try.f158 [.look y12 true, .look (.int .i64) false] [false] [⟨y12, a_a, a, t_a⟩, ⟨(.int .i64), a_left, left, t_left⟩] [] k = laws_szRows a left (fun (r0 : Int) => k [⟨(.int .i64), false, r0, []⟩] [] []) := by kernel_rfl
theorem S_laws_szRows : Sound Try.prog 158 s_laws_szRows := sound_of (Γ := g_laws_szRows) (X := []) (ht := .o) (fz := false) (c := c_laws_szRows) follows tysOk (fns_cons S_laws_szRowS fns_nil) trivial Try.func158 (by kernel_rfl) (by kernel_rfl) (by decide) (by
  intro vals ext k r h
  obtain ⟨a, a_a, t_a, vals, rfl, h1⟩ := av_some h
  obtain ⟨left, a_left, t_left, vals, rfl, h2⟩ := av_some h1
  obtain ⟨rfl, h3⟩ := nl_some h2
  obtain ⟨rfl, h4⟩ := nl_some h3
  exact (E_laws_szRows a a_a t_a left a_left t_left k).trans h4)

/-! ### 161 loop.example/g00462/laws.toRows -/
noncomputable def c_laws_toRows : Code := (Try.f161.body).getD .skip
noncomputable def g_laws_toRows : Env Unit := ⟨tys, [(33, s_laws_toRowS)], 0⟩
noncomputable def laws_toRows (a : List (List (Int × Int × ByteArray))) (k0 : (List (List (Int × Int × ByteArray))) → Res) : Res :=
  laws_toRowS a fun (r : List (List (Int × Int × ByteArray))) =>
    k0 r
noncomputable def s_laws_toRows : Sig Unit := ⟨[.borrow y12 true], [true], fun vals ext k => av vals y12 fun a vals => nl vals <| nl ext <| laws_toRows a (fun (r0 : List (List (Int × Int × ByteArray))) => k [⟨y12, true, r0, [.O]⟩] [] [])⟩
theorem E_laws_toRows (a : List (List (Int × Int × ByteArray))) (a_a : Bool) (t_a : List Tag) (k : List TVal → List TVal → List TVal → Res) : funC g_laws_toRows [] .o false Try.f161 [.borrow y12 true] [true] [⟨y12, a_a, a, t_a⟩] [] k = laws_toRows a (fun (r0 : List (List (Int × Int × ByteArray))) => k [⟨y12, true, r0, [.O]⟩] [] []) := by kernel_rfl
theorem S_laws_toRows : Sound Try.prog 161 s_laws_toRows := sound_of (Γ := g_laws_toRows) (X := []) (ht := .o) (fz := false) (c := c_laws_toRows) follows tysOk (fns_cons S_laws_toRowS fns_nil) trivial Try.func161 (by kernel_rfl) (by kernel_rfl) (by decide) (by
  intro vals ext k r h
  obtain ⟨a, a_a, t_a, vals, rfl, h1⟩ := av_some h
  obtain ⟨rfl, h2⟩ := nl_some h1
  obtain ⟨rfl, h3⟩ := nl_some h2
  exact (E_laws_toRows a a_a t_a k).trans h3)

/-! ### 165 loop.example/g00462/laws.eqRows -/
noncomputable def c_laws_eqRows : Code := (Try.f165.body).getD .skip
noncomputable def g_laws_eqRows : Env Unit := ⟨tys, [(37, s_laws_eqRowS)], 0⟩
noncomputable def laws_eqRows (a : List (List (Int × Int × ByteArray))) (b : List (List (Int × Int × ByteArray))) (k0 : Bool → Res) : Res :=
  laws_eqRowS a b fun (r : Bool) =>
    bif !r then
      k0 false
    else
      k0 true
noncomputable def s_laws_eqRows : Sig Unit := ⟨[.look y12 true, .look y12 true], [false], fun vals ext k => av vals y12 fun a vals => av vals y12 fun b vals => nl vals <| nl ext <| laws_eqRows a b (fun (r0 : Bool) => k [⟨.bool, false, r0, []⟩] [] [])⟩
theorem E_laws_eqRows (a : List (List (Int × Int × ByteArray))) (a_a : Bool) (t_a : List Tag) (b : List (List (Int × Int × ByteArray))) (a_b : Bool) (t_b : List Tag) (k : List TVal → List TVal → List TVal → Res) : funC g_laws_eqRows [] .o false Try.f165 [.look y12 true, .look y12 true] [false] [⟨y12, a_a, a, t_a⟩, ⟨y12, a_b, b, t_b⟩] [] k = laws_eqRows a b (fun (r0 : Bool) => k [⟨.bool, false, r0, []⟩] [] []) := by kernel_rfl
theorem S_laws_eqRows : Sound Try.prog 165 s_laws_eqRows := sound_of (Γ := g_laws_eqRows) (X := []) (ht := .o) (fz := false) (c := c_laws_eqRows) follows tysOk (fns_cons S_laws_eqRowS fns_nil) trivial Try.func165 (by kernel_rfl) (by kernel_rfl) (by decide) (by
  intro vals ext k r h
  obtain ⟨a, a_a, t_a, vals, rfl, h1⟩ := av_some h
  obtain ⟨b, a_b, t_b, vals, rfl, h2⟩ := av_some h1
  obtain ⟨rfl, h3⟩ := nl_some h2
  obtain ⟨rfl, h4⟩ := nl_some h3
  exact (E_laws_eqRows a a_a t_a b a_b t_b k).trans h4)
end Go.PI.G
