/-
  Printed: what the functions compute. No conditions.
-/
import Derived.Test.YtcapkiofiipamaaGR0
import Derived.Test.YtcapkiofiipamaaGRTVal
set_option linter.unusedVariables false
set_option maxRecDepth 100000
namespace Go.PI.G
open Go Go.PI Go.Proofs

/-! ### 174 loop.example/g00462/laws.szCol -/
noncomputable def c_laws_szCol : Code := (Try.f174.body).getD .skip
noncomputable def g_laws_szCol : Env Unit := ⟨tys, [(237, s_laws_szVal)], 0⟩
noncomputable def laws_szCol (a : ByteArray × Int × Bool × Bool × Int × Int × ByteArray) (left : Int) (k0 : Int → Res) : Res :=
  bif decide ((wi64 (left - (nI (ByteArray.size a.1)))) < 0) then
    k0 (-1)
  else
    laws_szVal a.2.2.2.2 (wi64 (left - (nI (ByteArray.size a.1)))) fun (r : Int) =>
      bif decide (r < 0) then
        k0 (-1)
      else
        k0 r
noncomputable def s_laws_szCol : Sig Unit := ⟨[.look y6 true, .look (.int .i64) false], [false], fun vals ext k => av vals y6 fun a vals => av vals (.int .i64) fun left vals => nl vals <| nl ext <| laws_szCol a left (fun (r0 : Int) => k [⟨(.int .i64), false, r0, []⟩] [] [])⟩
theorem E_laws_szCol (a : ByteArray × Int × Bool × Bool × Int × Int × ByteArray) (a_a : Bool) (t_a : List Tag) (left : Int) (a_left : Bool) (t_left : List Tag) (k : List TVal → List TVal → List TVal → Res) : funC g_laws_szCol [] .o false Try.f174 [.look y6 true, .look (.int .i64) false] [false] [⟨y6, a_a, a, t_a⟩, ⟨(.int .i64), a_left, left, t_left⟩] [] k = laws_szCol a left (fun (r0 : Int) => k [⟨(.int .i64), false, r0, []⟩] [] []) := by kernel_rfl
theorem S_laws_szCol : Sound Try.prog 174 s_laws_szCol := sound_of (Γ := g_laws_szCol) (X := []) (ht := .o) (fz := false) (c := c_laws_szCol) follows tysOk (fns_cons S_laws_szVal fns_nil) trivial Try.func174 (by kernel_rfl) (by kernel_rfl) (by decide) (by
  intro vals ext k r h
  obtain ⟨a, a_a, t_a, vals, rfl, h1⟩ := av_some h
  obtain ⟨left, a_left, t_left, vals, rfl, h2⟩ := av_some h1
  obtain ⟨rfl, h3⟩ := nl_some h2
  obtain ⟨rfl, h4⟩ := nl_some h3
  exact (E_laws_szCol a a_a t_a left a_left t_left k).trans h4)

/-! ### 179 loop.example/g00462/laws.toCol -/
noncomputable def c_laws_toCol : Code := (Try.f179.body).getD .skip
noncomputable def g_laws_toCol : Env Unit := ⟨tys, [(241, s_laws_toVal)], 0⟩
noncomputable def laws_toCol (a : ByteArray × Int × Bool × Bool × Int × Int × ByteArray) (k0 : (ByteArray × Int × Bool × Bool × Int × Int × ByteArray) → Res) : Res :=
  laws_toVal a.2.2.2.2 fun (r : Int × Int × ByteArray) =>
    k0 (a.1, a.2.1, a.2.2.1, a.2.2.2.1, r)
noncomputable def s_laws_toCol : Sig Unit := ⟨[.look y6 true], [true], fun vals ext k => av vals y6 fun a vals => nl vals <| nl ext <| laws_toCol a (fun (r0 : ByteArray × Int × Bool × Bool × Int × Int × ByteArray) => k [⟨y6, true, r0, []⟩] [] [])⟩
theorem E_laws_toCol (a : ByteArray × Int × Bool × Bool × Int × Int × ByteArray) (a_a : Bool) (t_a : List Tag) (k : List TVal → List TVal → List TVal → Res) : funC g_laws_toCol [] .o false Try.f179 [.look y6 true] [true] [⟨y6, a_a, a, t_a⟩] [] k = laws_toCol a (fun (r0 : ByteArray × Int × Bool × Bool × Int × Int × ByteArray) => k [⟨y6, true, r0, []⟩] [] []) := by kernel_rfl
theorem S_laws_toCol : Sound Try.prog 179 s_laws_toCol := sound_of (Γ := g_laws_toCol) (X := []) (ht := .o) (fz := false) (c := c_laws_toCol) follows tysOk (fns_cons S_laws_toVal fns_nil) trivial Try.func179 (by kernel_rfl) (by kernel_rfl) (by decide) (by
  intro vals ext k r h
  obtain ⟨a, a_a, t_a, vals, rfl, h1⟩ := av_some h
  obtain ⟨rfl, h2⟩ := nl_some h1
  obtain ⟨rfl, h3⟩ := nl_some h2
  exact (E_laws_toCol a a_a t_a k).trans h3)

/-! ### 187 loop.example/g00462/laws.eqCol -/
noncomputable def c_laws_eqCol : Code := (Try.f187.body).getD .skip
noncomputable def g_laws_eqCol : Env Unit := ⟨tys, [(172, s_laws_eqVal)], 0⟩
noncomputable def laws_eqCol (a : ByteArray × Int × Bool × Bool × Int × Int × ByteArray) (b : ByteArray × Int × Bool × Bool × Int × Int × ByteArray) (k0 : Bool → Res) : Res :=
  bif sNe a.1 b.1 then
    k0 false
  else
    bif (a.2.1 != b.2.1) then
      k0 false
    else
      bif !(a.2.2.1 == b.2.2.1) then
        k0 false
      else
        bif !(a.2.2.2.1 == b.2.2.2.1) then
          k0 false
        else
          laws_eqVal a.2.2.2.2 b.2.2.2.2 fun (r : Bool) =>
            bif !r then
              k0 false
            else
              k0 true
noncomputable def s_laws_eqCol : Sig Unit := ⟨[.look y6 true, .look y6 true], [false], fun vals ext k => av vals y6 fun a vals => av vals y6 fun b vals => nl vals <| nl ext <| laws_eqCol a b (fun (r0 : Bool) => k [⟨.bool, false, r0, []⟩] [] [])⟩
theorem E_laws_eqCol (a : ByteArray × Int × Bool × Bool × Int × Int × ByteArray) (a_a : Bool) (t_a : List Tag) (b : ByteArray × Int × Bool × Bool × Int × Int × ByteArray) (a_b : Bool) (t_b : List Tag) (k : List TVal → List TVal → List TVal → Res) : funC g_laws_eqCol [] .o false Try.f187 [.look y6 true, .look y6 true] [false] [⟨y6, a_a, a, t_a⟩, ⟨y6, a_b, b, t_b⟩] [] k = laws_eqCol a b (fun (r0 : Bool) => k [⟨.bool, false, r0, []⟩] [] []) := by kernel_rfl
theorem S_laws_eqCol : Sound Try.prog 187 s_laws_eqCol := sound_of (Γ := g_laws_eqCol) (X := []) (ht := .o) (fz := false) (c := c_laws_eqCol) follows tysOk (fns_cons S_laws_eqVal fns_nil) trivial Try.func187 (by kernel_rfl) (by kernel_rfl) (by decide) (by
  intro vals ext k r h
  obtain ⟨a, a_a, t_a, vals, rfl, h1⟩ := av_some h
  obtain ⟨b, a_b, t_b, vals, rfl, h2⟩ := av_some h1
  obtain ⟨rfl, h3⟩ := nl_some h2
  obtain ⟨rfl, h4⟩ := nl_some h3
  exact (E_laws_eqCol a a_a t_a b a_b t_b k).trans h4)
end Go.PI.G
