/-
  Printed: what the functions compute. No conditions.
-/
import Derived.Test.YtcapkiofiipamaaGT0
import Derived.Test.YtcapkiofiipamaaGTL17
import Derived.Test.YtcapkiofiipamaaGTTDb
set_option linter.unusedVariables false
set_option maxRecDepth 100000
namespace Go.PI.G
open Go Go.PI Go.Proofs

/-! ### 7 loop.example/g00462/laws.FnExactTableSum -/
noncomputable def c_laws_FnExactTableSum : Code := (Try.f7.body).getD .skip
noncomputable def g_laws_FnExactTableSum : Env Unit := ⟨tys, [(18, s_laws_szDb), (20, s_laws_toDb), (22, s_laws_eqDb), (42, s_spec_TableSum), (43, s_impl_TableSum)], 0⟩
noncomputable def laws_FnExactTableSum (aD : (List (ByteArray × (List (ByteArray × Int × Bool × Bool × Int × Int × ByteArray)) × List ByteArray)) × List (List (List (Int × Int × ByteArray)))) (aTable : ByteArray) (k0 : Bool → Res) : Res :=
  bif decide ((nI (ByteArray.size aTable)) > 1048576) then
    k0 true
  else
    laws_szDb aD 1048576 fun (r : Int) =>
      bif decide (r < 0) then
        k0 true
      else
        laws_toDb aD fun (r1 : (List (ByteArray × (List (ByteArray × Int × Bool × Bool × Int × Int × ByteArray)) × List ByteArray)) × List (List (List (Int × Int × ByteArray)))) =>
          spec_TableSum r1 aTable fun (r2 : Int) =>
            laws_toDb aD fun (r3 : (List (ByteArray × (List (ByteArray × Int × Bool × Bool × Int × Int × ByteArray)) × List ByteArray)) × List (List (List (Int × Int × ByteArray)))) =>
              impl_TableSum r3 aTable fun (r4 : Int) =>
                bif (r4 != r2) then
                  k0 false
                else
                  laws_toDb aD fun (r5 : (List (ByteArray × (List (ByteArray × Int × Bool × Bool × Int × Int × ByteArray)) × List ByteArray)) × List (List (List (Int × Int × ByteArray)))) =>
                    laws_eqDb r3 r5 fun (r6 : Bool) =>
                      bif !r6 then
                        k0 false
                      else
                        k0 true
noncomputable def s_laws_FnExactTableSum : Sig Unit := ⟨[.borrow y14 true, .borrow .str false], [false], fun vals ext k => av vals y14 fun aD vals => av vals .str fun aTable vals => nl vals <| nl ext <| laws_FnExactTableSum aD aTable (fun (r0 : Bool) => k [⟨.bool, false, r0, []⟩] [] [])⟩
theorem E_laws_FnExactTableSum (aD : (List (ByteArray × (List (ByteArray × Int × Bool × Bool × Int × Int × ByteArray)) × List ByteArray)) × List (List (List (Int × Int × ByteArray)))) (a_aD : Bool) (t_aD : List Tag) (aTable : ByteArray) (a_aTable : Bool) (t_aTable : List Tag) (k : List TVal → List TVal → List TVal → Res) : funC g_laws_FnExactTableSum [] .o false Try.f7 [.borrow y14 true, .borrow .str false] [false] [⟨y14, a_aD, aD, t_aD⟩, ⟨.str, a_aTable, aTable, t_aTable⟩] [] k = laws_FnExactTableSum aD aTable (fun (r0 : Bool) => k [⟨.bool, false, r0, []⟩] [] []) := by kernel_rfl
theorem S_laws_FnExactTableSum : Sound Try.prog 7 s_laws_FnExactTableSum := sound_of (Γ := g_laws_FnExactTableSum) (X := []) (ht := .o) (fz := false) (c := c_laws_FnExactTableSum) follows tysOk (fns_cons S_laws_szDb (fns_cons S_laws_toDb (fns_cons S_laws_eqDb (fns_cons S_spec_TableSum (fns_cons S_impl_TableSum fns_nil))))) trivial Try.func7 (by kernel_rfl) (by kernel_rfl) (by decide) (by
  intro vals ext k r h
  obtain ⟨aD, a_aD, t_aD, vals, rfl, h1⟩ := av_some h
  obtain ⟨aTable, a_aTable, t_aTable, vals, rfl, h2⟩ := av_some h1
  obtain ⟨rfl, h3⟩ := nl_some h2
  obtain ⟨rfl, h4⟩ := nl_some h3
  exact (E_laws_FnExactTableSum aD a_aD t_aD aTable a_aTable t_aTable k).trans h4)
end Go.PI.G
