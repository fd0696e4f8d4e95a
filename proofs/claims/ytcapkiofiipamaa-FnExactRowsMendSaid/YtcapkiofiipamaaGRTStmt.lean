/-
  Printed: what the functions compute. No conditions.
-/
import Derived.Test.YtcapkiofiipamaaGR0
import Derived.Test.YtcapkiofiipamaaGRTDdl
import Derived.Test.YtcapkiofiipamaaGRTRow
import Derived.Test.YtcapkiofiipamaaGRTValS
set_option linter.unusedVariables false
set_option maxRecDepth 100000
namespace Go.PI.G
open Go Go.PI Go.Proofs

/-! ### 56 loop.example/g00462/laws.eqStmt -/
noncomputable def c_laws_eqStmt : Code := (Try.f56.body).getD .skip
noncomputable def g_laws_eqStmt : Env Unit := ⟨tys, [(94, s_laws_eqValS), (110, s_laws_eqRow), (136, s_laws_eqDdl)], 0⟩
noncomputable def laws_eqStmt (a : Int × ByteArray × (List (Int × Int × ByteArray)) × (List (Int × Int × ByteArray)) × Int × ByteArray × (List (ByteArray × Int × Bool × Bool × Int × Int × ByteArray)) × List ByteArray × ByteArray × ByteArray) (b : Int × ByteArray × (List (Int × Int × ByteArray)) × (List (Int × Int × ByteArray)) × Int × ByteArray × (List (ByteArray × Int × Bool × Bool × Int × Int × ByteArray)) × List ByteArray × ByteArray × ByteArray) (k0 : Bool → Res) : Res :=
  bif (a.1 != b.1) then
    k0 false
  else
    bif sNe a.2.1 b.2.1 then
      k0 false
    else
      laws_eqValS a.2.2.1 b.2.2.1 fun (r : Bool) =>
        bif !r then
          k0 false
        else
          laws_eqRow a.2.2.2.1 b.2.2.2.1 fun (r1 : Bool) =>
            bif !r1 then
              k0 false
            else
              laws_eqDdl a.2.2.2.2 b.2.2.2.2 fun (r2 : Bool) =>
                bif !r2 then
                  k0 false
                else
                  k0 true
noncomputable def s_laws_eqStmt : Sig Unit := ⟨[.look y20 true, .look y20 true], [false], fun vals ext k => av vals y20 fun a vals => av vals y20 fun b vals => nl vals <| nl ext <| laws_eqStmt a b (fun (r0 : Bool) => k [⟨.bool, false, r0, []⟩] [] [])⟩
theorem E_laws_eqStmt (a : Int × ByteArray × (List (Int × Int × ByteArray)) × (List (Int × Int × ByteArray)) × Int × ByteArray × (List (ByteArray × Int × Bool × Bool × Int × Int × ByteArray)) × List ByteArray × ByteArray × ByteArray) (a_a : Bool) (t_a : List Tag) (b : Int × ByteArray × (List (Int × Int × ByteArray)) × (List (Int × Int × ByteArray)) × Int × ByteArray × (List (ByteArray × Int × Bool × Bool × Int × Int × ByteArray)) × List ByteArray × ByteArray × ByteArray) (a_b : Bool) (t_b : List Tag) (k : List TVal → List TVal → List TVal → Res) : funC g_laws_eqStmt [] .o false Try.f56 [.look y20 true, .look y20 true] [false] [⟨y20, a_a, a, t_a⟩, ⟨y20, a_b, b, t_b⟩] [] k = laws_eqStmt a b (fun (r0 : Bool) => k [⟨.bool, false, r0, []⟩] [] []) := by kernel_rfl
theorem S_laws_eqStmt : Sound Try.prog 56 s_laws_eqStmt := sound_of (Γ := g_laws_eqStmt) (X := []) (ht := .o) (fz := false) (c := c_laws_eqStmt) follows tysOk (fns_cons S_laws_eqValS (fns_cons S_laws_eqRow (fns_cons S_laws_eqDdl fns_nil))) trivial Try.func56 (by kernel_rfl) (by kernel_rfl) (by decide) (by
  intro vals ext k r h
  obtain ⟨a, a_a, t_a, vals, rfl, h1⟩ := av_some h
  obtain ⟨b, a_b, t_b, vals, rfl, h2⟩ := av_some h1
  obtain ⟨rfl, h3⟩ := nl_some h2
  obtain ⟨rfl, h4⟩ := nl_some h3
  exact (E_laws_eqStmt a a_a t_a b a_b t_b k).trans h4)
end Go.PI.G
