/-
  Printed: what the functions compute. No conditions.
-/
import Derived.Test.YtcapkiofiipamaaGR0
import Derived.Test.YtcapkiofiipamaaGRTColS
import Derived.Test.YtcapkiofiipamaaGRTStringS
set_option linter.unusedVariables false
set_option maxRecDepth 100000
namespace Go.PI.G
open Go Go.PI Go.Proofs

/-! ### 136 loop.example/g00462/laws.eqDdl -/
noncomputable def c_laws_eqDdl : Code := (Try.f136.body).getD .skip
noncomputable def g_laws_eqDdl : Env Unit := ⟨tys, [(77, s_laws_eqStringS), (109, s_laws_eqColS)], 0⟩
noncomputable def laws_eqDdl (a : Int × ByteArray × (List (ByteArray × Int × Bool × Bool × Int × Int × ByteArray)) × List ByteArray × ByteArray × ByteArray) (b : Int × ByteArray × (List (ByteArray × Int × Bool × Bool × Int × Int × ByteArray)) × List ByteArray × ByteArray × ByteArray) (k0 : Bool → Res) : Res :=
  bif (a.1 != b.1) then
    k0 false
  else
    bif sNe a.2.1 b.2.1 then
      k0 false
    else
      laws_eqColS a.2.2.1 b.2.2.1 fun (r : Bool) =>
        bif !r then
          k0 false
        else
          laws_eqStringS a.2.2.2.1 b.2.2.2.1 fun (r1 : Bool) =>
            bif !r1 then
              k0 false
            else
              bif sNe a.2.2.2.2.1 b.2.2.2.2.1 then
                k0 false
              else
                bif sNe a.2.2.2.2.2 b.2.2.2.2.2 then
                  k0 false
                else
                  k0 true
noncomputable def s_laws_eqDdl : Sig Unit := ⟨[.look y16 true, .look y16 true], [false], fun vals ext k => av vals y16 fun a vals => av vals y16 fun b vals => nl vals <| nl ext <| laws_eqDdl a b (fun (r0 : Bool) => k [⟨.bool, false, r0, []⟩] [] [])⟩
theorem E_laws_eqDdl (a : Int × ByteArray × (List (ByteArray × Int × Bool × Bool × Int × Int × ByteArray)) × List ByteArray × ByteArray × ByteArray) (a_a : Bool) (t_a : List Tag) (b : Int × ByteArray × (List (ByteArray × Int × Bool × Bool × Int × Int × ByteArray)) × List ByteArray × ByteArray × ByteArray) (a_b : Bool) (t_b : List Tag) (k : List TVal → List TVal → List TVal → Res) : funC g_laws_eqDdl [] .o false Try.f136 [.look y16 true, .look y16 true] [false] [⟨y16, a_a, a, t_a⟩, ⟨y16, a_b, b, t_b⟩] [] k = laws_eqDdl a b (fun (r0 : Bool) => k [⟨.bool, false, r0, []⟩] [] []) := by kernel_rfl
theorem S_laws_eqDdl : Sound Try.prog 136 s_laws_eqDdl := sound_of (Γ := g_laws_eqDdl) (X := []) (ht := .o) (fz := false) (c := c_laws_eqDdl) follows tysOk (fns_cons S_laws_eqStringS (fns_cons S_laws_eqColS fns_nil)) trivial Try.func136 (by kernel_rfl) (by kernel_rfl) (by decide) (by
  intro vals ext k r h
  obtain ⟨a, a_a, t_a, vals, rfl, h1⟩ := av_some h
  obtain ⟨b, a_b, t_b, vals, rfl, h2⟩ := av_some h1
  obtain ⟨rfl, h3⟩ := nl_some h2
  obtain ⟨rfl, h4⟩ := nl_some h3
  exact (E_laws_eqDdl a a_a t_a b a_b t_b k).trans h4)
end Go.PI.G
