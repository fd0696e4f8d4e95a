/-
  Printed: what the functions compute. No conditions.
-/
import Derived.Test.YtcapkiofiipamaaGR0
import Derived.Test.YtcapkiofiipamaaGRTValS
set_option linter.unusedVariables false
set_option maxRecDepth 100000
namespace Go.PI.G
open Go Go.PI Go.Proofs

/-! ### 100 loop.example/g00462/laws.szRow -/
noncomputable def c_laws_szRow : Code := (Try.f100.body).getD .skip
noncomputable def g_laws_szRow : Env Unit := ⟨tys, [(175, s_laws_szValS)], 0⟩
noncomputable def laws_szRow (a : List (Int × Int × ByteArray)) (left : Int) (k0 : Int → Res) : Res :=
  laws_szValS a left fun (r : Int) =>
    bif decide (r < 0) then
      k0 (-1)
    else
      k0 r
noncomputable def s_laws_szRow : Sig Unit := ⟨[.look y10 true, .look (.int .i64) false], [false], fun vals ext k => av vals y10 fun a vals => av vals (.int .i64) fun left vals => nl vals <| nl ext <| laws_szRow a left (fun (r0 : Int) => k [⟨(.int .i64), false, r0, []⟩] [] [])⟩
theorem E_laws_szRow (a : List (Int × Int × ByteArray)) (a_a : Bool) (t_a : List Tag) (left : Int) (a_left : Bool) (t_left : List Tag) (k : List TVal → List TVal → List TVal → Res) : funC g_laws_szRow [] .o false Try.f100 [.look y10 true, .look (.int .i64) false] [false] [⟨y10, a_a, a, t_a⟩, ⟨(.int .i64), a_left, left, t_left⟩] [] k = laws_szRow a left (fun (r0 : Int) => k [⟨(.int .i64), false, r0, []⟩] [] []) := by kernel_rfl
theorem S_laws_szRow : Sound Try.prog 100 s_laws_szRow := sound_of (Γ := g_laws_szRow) (X := []) (ht := .o) (fz := false) (c := c_laws_szRow) follows tysOk (fns_cons S_laws_szValS fns_nil) trivial Try.func100 (by kernel_rfl) (by kernel_rfl) (by decide) (by
  intro vals ext k r h
  obtain ⟨a, a_a, t_a, vals, rfl, h1⟩ := av_some h
  obtain ⟨left, a_left, t_left, vals, rfl, h2⟩ := av_some h1
  obtain ⟨rfl, h3⟩ := nl_some h2
  obtain ⟨rfl, h4⟩ := nl_some h3
  exact (E_laws_szRow a a_a t_a left a_left t_left k).trans h4)

/-! ### 106 loop.example/g00462/laws.toRow -/
noncomputable def c_laws_toRow : Code := (Try.f106.body).getD .skip
noncomputable def g_laws_toRow : Env Unit := ⟨tys, [(180, s_laws_toValS)], 0⟩
noncomputable def laws_toRow (a : List (Int × Int × ByteArray)) (k0 : (List (Int × Int × ByteArray)) → Res) : Res :=
  laws_toValS a fun (r : List (Int × Int × ByteArray)) =>
    k0 r
noncomputable def s_laws_toRow : Sig Unit := ⟨[.borrow y10 true], [true], fun vals ext k => av vals y10 fun a vals => nl vals <| nl ext <| laws_toRow a (fun (r0 : List (Int × Int × ByteArray)) => k [⟨y10, true, r0, [.O]⟩] [] [])⟩
theorem E_laws_toRow (a : List (Int × Int × ByteArray)) (a_a : Bool) (t_a : List Tag) (k : List TVal → List TVal → List TVal → Res) : funC g_laws_toRow [] .o false Try.f106 [.borrow y10 true] [true] [⟨y10, a_a, a, t_a⟩] [] k = laws_toRow a (fun (r0 : List (Int × Int × ByteArray)) => k [⟨y10, true, r0, [.O]⟩] [] []) := by kernel_rfl
theorem S_laws_toRow : Sound Try.prog 106 s_laws_toRow := sound_of (Γ := g_laws_toRow) (X := []) (ht := .o) (fz := false) (c := c_laws_toRow) follows tysOk (fns_cons S_laws_toValS fns_nil) trivial Try.func106 (by kernel_rfl) (by kernel_rfl) (by decide) (by
  intro vals ext k r h
  obtain ⟨a, a_a, t_a, vals, rfl, h1⟩ := av_some h
  obtain ⟨rfl, h2⟩ := nl_some h1
  obtain ⟨rfl, h3⟩ := nl_some h2
  exact (E_laws_toRow a a_a t_a k).trans h3)

/-! ### 110 loop.example/g00462/laws.eqRow -/
noncomputable def c_laws_eqRow : Code := (Try.f110.body).getD .skip
noncomputable def g_laws_eqRow : Env Unit := ⟨tys, [(94, s_laws_eqValS)], 0⟩
noncomputable def laws_eqRow (a : List (Int × Int × ByteArray)) (b : List (Int × Int × ByteArray)) (k0 : Bool → Res) : Res :=
  laws_eqValS a b fun (r : Bool) =>
    bif !r then
      k0 false
    else
      k0 true
noncomputable def s_laws_eqRow : Sig Unit := ⟨[.look y10 true, .look y10 true], [false], fun vals ext k => av vals y10 fun a vals => av vals y10 fun b vals => nl vals <| nl ext <| laws_eqRow a b (fun (r0 : Bool) => k [⟨.bool, false, r0, []⟩] [] [])⟩
theorem E_laws_eqRow (a : List (Int × Int × ByteArray)) (a_a : Bool) (t_a : List Tag) (b : List (Int × Int × ByteArray)) (a_b : Bool) (t_b : List Tag) (k : List TVal → List TVal → List TVal → Res) : funC g_laws_eqRow [] .o false Try.f110 [.look y10 true, .look y10 true] [false] [⟨y10, a_a, a, t_a⟩, ⟨y10, a_b, b, t_b⟩] [] k = laws_eqRow a b (fun (r0 : Bool) => k [⟨.bool, false, r0, []⟩] [] []) := by kernel_rfl
theorem S_laws_eqRow : Sound Try.prog 110 s_laws_eqRow := sound_of (Γ := g_laws_eqRow) (X := []) (ht := .o) (fz := false) (c := c_laws_eqRow) follows tysOk (fns_cons S_laws_eqValS fns_nil) trivial Try.func110 (by kernel_rfl) (by kernel_rfl) (by decide) (by
  intro vals ext k r h
  obtain ⟨a, a_a, t_a, vals, rfl, h1⟩ := av_some h
  obtain ⟨b, a_b, t_b, vals, rfl, h2⟩ := av_some h1
  obtain ⟨rfl, h3⟩ := nl_some h2
  obtain ⟨rfl, h4⟩ := nl_some h3
  exact (E_laws_eqRow a a_a t_a b a_b t_b k).trans h4)
end Go.PI.G
