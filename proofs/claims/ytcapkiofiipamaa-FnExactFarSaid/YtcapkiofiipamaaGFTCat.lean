/-
  Printed: what the functions compute. No conditions.
-/
import Derived.Test.YtcapkiofiipamaaGF0
import Derived.Test.YtcapkiofiipamaaGFTTableS
set_option linter.unusedVariables false
set_option maxRecDepth 100000
namespace Go.PI.G
open Go Go.PI Go.Proofs

/-! ### 80 loop.example/g00462/laws.szCat -/
noncomputable def c_laws_szCat : Code := (Try.f80.body).getD .skip
noncomputable def g_laws_szCat : Env Unit := ⟨tys, [(157, s_laws_szTableS)], 0⟩
noncomputable def laws_szCat (a : List (ByteArray × (List (ByteArray × Int × Bool × Bool × Int × Int × ByteArray)) × List ByteArray)) (left : Int) (k0 : Int → Res) : Res :=
  laws_szTableS a left fun (r : Int) =>
    bif decide (r < 0) then
      k0 (-1)
    else
      k0 r
noncomputable def s_laws_szCat : Sig Unit := ⟨[.look y10 true, .look (.int .i64) false], [false], fun vals ext k => av vals y10 fun a vals => av vals (.int .i64) fun left vals => nl vals <| nl ext <| laws_szCat a left (fun (r0 : Int) => k [⟨(.int .i64), false, r0, []⟩] [] [])⟩
theorem E_laws_szCat (a : List (ByteArray × (List (ByteArray × Int × Bool × Bool × Int × Int × ByteArray)) × List ByteArray)) (a_a : Bool) (t_a : List Tag) (left : Int) (a_left : Bool) (t_left : List Tag) (k : List TVal → List TVal → List TVal → Res) : funC g_laws_szCat [] .o false Try.f80 [.look y10 true, .look (.int .i64) false] [false] [⟨y10, a_a, a, t_a⟩, ⟨(.int .i64), a_left, left, t_left⟩] [] k = laws_szCat a left (fun (r0 : Int) => k [⟨(.int .i64), false, r0, []⟩] [] []) := by kernel_rfl
theorem S_laws_szCat : Sound Try.prog 80 s_laws_szCat := sound_of (Γ := g_laws_szCat) (X := []) (ht := .o) (fz := false) (c := c_laws_szCat) follows tysOk (fns_cons S_laws_szTableS fns_nil) trivial Try.func80 (by kernel_rfl) (by kernel_rfl) (by decide) (by
  intro vals ext k r h
  obtain ⟨a, a_a, t_a, vals, rfl, h1⟩ := av_some h
  obtain ⟨left, a_left, t_left, vals, rfl, h2⟩ := av_some h1
  obtain ⟨rfl, h3⟩ := nl_some h2
  obtain ⟨rfl, h4⟩ := nl_some h3
  exact (E_laws_szCat a a_a t_a left a_left t_left k).trans h4)

/-! ### 83 loop.example/g00462/laws.toCat -/
noncomputable def c_laws_toCat : Code := (Try.f83.body).getD .skip
noncomputable def g_laws_toCat : Env Unit := ⟨tys, [(160, s_laws_toTableS)], 0⟩
noncomputable def laws_toCat (a : List (ByteArray × (List (ByteArray × Int × Bool × Bool × Int × Int × ByteArray)) × List ByteArray)) (k0 : (List (ByteArray × (List (ByteArray × Int × Bool × Bool × Int × Int × ByteArray)) × List ByteArray)) → Res) : Res :=
  laws_toTableS a fun (r : List (ByteArray × (List (ByteArray × Int × Bool × Bool × Int × Int × ByteArray)) × List ByteArray)) =>
    k0 r
noncomputable def s_laws_toCat : Sig Unit := ⟨[.borrow y10 true], [true], fun vals ext k => av vals y10 fun a vals => nl vals <| nl ext <| laws_toCat a (fun (r0 : List (ByteArray × (List (ByteArray × Int × Bool × Bool × Int × Int × ByteArray)) × List ByteArray)) => k [⟨y10, true, r0, [.O]⟩] [] [])⟩
theorem E_laws_toCat (a : List (ByteArray × (List (ByteArray × Int × Bool × Bool × Int × Int × ByteArray)) × List ByteArray)) (a_a : Bool) (t_a : List Tag) (k : List TVal → List TVal → List TVal → Res) : funC g_laws_toCat [] .o false Try.f83 [.borrow y10 true] [true] [⟨y10, a_a, a, t_a⟩] [] k = laws_toCat a (fun (r0 : List (ByteArray × (List (ByteArray × Int × Bool × Bool × Int × Int × ByteArray)) × List ByteArray)) => k [⟨y10, true, r0, [.O]⟩] [] []) := by kernel_rfl
theorem S_laws_toCat : Sound Try.prog 83 s_laws_toCat := sound_of (Γ := g_laws_toCat) (X := []) (ht := .o) (fz := false) (c := c_laws_toCat) follows tysOk (fns_cons S_laws_toTableS fns_nil) trivial Try.func83 (by kernel_rfl) (by kernel_rfl) (by decide) (by
  intro vals ext k r h
  obtain ⟨a, a_a, t_a, vals, rfl, h1⟩ := av_some h
  obtain ⟨rfl, h2⟩ := nl_some h1
  obtain ⟨rfl, h3⟩ := nl_some h2
  exact (E_laws_toCat a a_a t_a k).trans h3)

/-! ### 86 loop.example/g00462/laws.eqCat -/
noncomputable def c_laws_eqCat : Code := (Try.f86.body).getD .skip
noncomputable def g_laws_eqCat : Env Unit := ⟨tys, [(164, s_laws_eqTableS)], 0⟩
noncomputable def laws_eqCat (a : List (ByteArray × (List (ByteArray × Int × Bool × Bool × Int × Int × ByteArray)) × List ByteArray)) (b : List (ByteArray × (List (ByteArray × Int × Bool × Bool × Int × Int × ByteArray)) × List ByteArray)) (k0 : Bool → Res) : Res :=
  laws_eqTableS a b fun (r : Bool) =>
    bif !r then
      k0 false
    else
      k0 true
noncomputable def s_laws_eqCat : Sig Unit := ⟨[.look y10 true, .look y10 true], [false], fun vals ext k => av vals y10 fun a vals => av vals y10 fun b vals => nl vals <| nl ext <| laws_eqCat a b (fun (r0 : Bool) => k [⟨.bool, false, r0, []⟩] [] [])⟩
theorem E_laws_eqCat (a : List (ByteArray × (List (ByteArray × Int × Bool × Bool × Int × Int × ByteArray)) × List ByteArray)) (a_a : Bool) (t_a : List Tag) (b : List (ByteArray × (List (ByteArray × Int × Bool × Bool × Int × Int × ByteArray)) × List ByteArray)) (a_b : Bool) (t_b : List Tag) (k : List TVal → List TVal → List TVal → Res) : funC g_laws_eqCat [] .o false Try.f86 [.look y10 true, .look y10 true] [false] [⟨y10, a_a, a, t_a⟩, ⟨y10, a_b, b, t_b⟩] [] k = laws_eqCat a b (fun (r0 : Bool) => k [⟨.bool, false, r0, []⟩] [] []) := by kernel_rfl
theorem S_laws_eqCat : Sound Try.prog 86 s_laws_eqCat := sound_of (Γ := g_laws_eqCat) (X := []) (ht := .o) (fz := false) (c := c_laws_eqCat) follows tysOk (fns_cons S_laws_eqTableS fns_nil) trivial Try.func86 (by kernel_rfl) (by kernel_rfl) (by decide) (by
  intro vals ext k r h
  obtain ⟨a, a_a, t_a, vals, rfl, h1⟩ := av_some h
  obtain ⟨b, a_b, t_b, vals, rfl, h2⟩ := av_some h1
  obtain ⟨rfl, h3⟩ := nl_some h2
  obtain ⟨rfl, h4⟩ := nl_some h3
  exact (E_laws_eqCat a a_a t_a b a_b t_b k).trans h4)
end Go.PI.G
