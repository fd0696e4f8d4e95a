/-
  Printed: what the functions compute. No conditions.
-/
import Derived.Test.YtcapkiofiipamaaGR0
set_option linter.unusedVariables false
set_option maxRecDepth 100000
namespace Go.PI.G
open Go Go.PI Go.Proofs

/-! ### 237 loop.example/g00462/laws.szVal -/
noncomputable def c_laws_szVal : Code := (Try.f237.body).getD .skip
noncomputable def g_laws_szVal : Env Unit := ⟨tys, [], 0⟩
noncomputable def laws_szVal (a : Int × Int × ByteArray) (left : Int) (k0 : Int → Res) : Res :=
  bif decide ((wi64 (left - (nI (ByteArray.size a.2.2)))) < 0) then
    k0 (-1)
  else
    k0 (wi64 (left - (nI (ByteArray.size a.2.2))))
noncomputable def s_laws_szVal : Sig Unit := ⟨[.look y2 true, .look (.int .i64) false], [false], fun vals ext k => av vals y2 fun a vals => av vals (.int .i64) fun left vals => nl vals <| nl ext <| laws_szVal a left (fun (r0 : Int) => k [⟨(.int .i64), false, r0, []⟩] [] [])⟩
theorem E_laws_szVal (a : Int × Int × ByteArray) (a_a : Bool) (t_a : List Tag) (left : Int) (a_left : Bool) (t_left : List Tag) (k : List TVal → List TVal → List TVal → Res) : funC g_laws_szVal [] .o false Try.f237 [.look y2 true, .look (.int .i64) false] [false] [⟨y2, a_a, a, t_a⟩, ⟨(.int .i64), a_left, left, t_left⟩] [] k = laws_szVal a left (fun (r0 : Int) => k [⟨(.int .i64), false, r0, []⟩] [] []) := by kernel_rfl
theorem S_laws_szVal : Sound Try.prog 237 s_laws_szVal := sound_of (Γ := g_laws_szVal) (X := []) (ht := .o) (fz := false) (c := c_laws_szVal) follows tysOk fns_nil trivial Try.func237 (by kernel_rfl) (by kernel_rfl) (by decide) (by
  intro vals ext k r h
  obtain ⟨a, a_a, t_a, vals, rfl, h1⟩ := av_some h
  obtain ⟨left, a_left, t_left, vals, rfl, h2⟩ := av_some h1
  obtain ⟨rfl, h3⟩ := nl_some h2
  obtain ⟨rfl, h4⟩ := nl_some h3
  exact (E_laws_szVal a a_a t_a left a_left t_left k).trans h4)

/-! ### 241 loop.example/g00462/laws.toVal -/
noncomputable def c_laws_toVal : Code := (Try.f241.body).getD .skip
noncomputable def g_laws_toVal : Env Unit := ⟨tys, [], 0⟩
noncomputable def laws_toVal (a : Int × Int × ByteArray) (k0 : (Int × Int × ByteArray) → Res) : Res :=
  k0 (a.1, a.2.1, a.2.2)
noncomputable def s_laws_toVal : Sig Unit := ⟨[.look y2 true], [true], fun vals ext k => av vals y2 fun a vals => nl vals <| nl ext <| laws_toVal a (fun (r0 : Int × Int × ByteArray) => k [⟨y2, true, r0, []⟩] [] [])⟩
theorem E_laws_toVal (a : Int × Int × ByteArray) (a_a : Bool) (t_a : List Tag) (k : List TVal → List TVal → List TVal → Res) : funC g_laws_toVal [] .o false Try.f241 [.look y2 true] [true] [⟨y2, a_a, a, t_a⟩] [] k = laws_toVal a (fun (r0 : Int × Int × ByteArray) => k [⟨y2, true, r0, []⟩] [] []) := by kernel_rfl
theorem S_laws_toVal : Sound Try.prog 241 s_laws_toVal := sound_of (Γ := g_laws_toVal) (X := []) (ht := .o) (fz := false) (c := c_laws_toVal) follows tysOk fns_nil trivial Try.func241 (by kernel_rfl) (by kernel_rfl) (by decide) (by
  intro vals ext k r h
  obtain ⟨a, a_a, t_a, vals, rfl, h1⟩ := av_some h
  obtain ⟨rfl, h2⟩ := nl_some h1
  obtain ⟨rfl, h3⟩ := nl_some h2
  exact (E_laws_toVal a a_a t_a k).trans h3)

/-! ### 172 loop.example/g00462/laws.eqVal -/
noncomputable def c_laws_eqVal : Code := (Try.f172.body).getD .skip
noncomputable def g_laws_eqVal : Env Unit := ⟨tys, [], 0⟩
noncomputable def laws_eqVal (a : Int × Int × ByteArray) (b : Int × Int × ByteArray) (k0 : Bool → Res) : Res :=
  bif (a.1 != b.1) then
    k0 false
  else
    bif (a.2.1 != b.2.1) then
      k0 false
    else
      bif sNe a.2.2 b.2.2 then
        k0 false
      else
        k0 true
noncomputable def s_laws_eqVal : Sig Unit := ⟨[.look y2 true, .look y2 true], [false], fun vals ext k => av vals y2 fun a vals => av vals y2 fun b vals => nl vals <| nl ext <| laws_eqVal a b (fun (r0 : Bool) => k [⟨.bool, false, r0, []⟩] [] [])⟩
theorem E_laws_eqVal (a : Int × Int × ByteArray) (a_a : Bool) (t_a : List Tag) (b : Int × Int × ByteArray) (a_b : Bool) (t_b : List Tag) (k : List TVal → List TVal → List TVal → Res) : funC g_laws_eqVal [] .o false Try.f172 [.look y2 true, .look y2 true] [false] [⟨y2, a_a, a, t_a⟩, ⟨y2, a_b, b, t_b⟩] [] k = laws_eqVal a b (fun (r0 : Bool) => k [⟨.bool, false, r0, []⟩] [] []) := by kernel_rfl
theorem S_laws_eqVal : Sound Try.prog 172 s_laws_eqVal := sound_of (Γ := g_laws_eqVal) (X := []) (ht := .o) (fz := false) (c := c_laws_eqVal) follows tysOk fns_nil trivial Try.func172 (by kernel_rfl) (by kernel_rfl) (by decide) (by
  intro vals ext k r h
  obtain ⟨a, a_a, t_a, vals, rfl, h1⟩ := av_some h
  obtain ⟨b, a_b, t_b, vals, rfl, h2⟩ := av_some h1
  obtain ⟨rfl, h3⟩ := nl_some h2
  obtain ⟨rfl, h4⟩ := nl_some h3
  exact (E_laws_eqVal a a_a t_a b a_b t_b k).trans h4)
end Go.PI.G
