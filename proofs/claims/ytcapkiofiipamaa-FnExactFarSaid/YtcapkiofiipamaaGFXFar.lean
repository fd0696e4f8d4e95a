/-
  Printed: what the functions compute. No conditions.
-/
import Derived.Test.YtcapkiofiipamaaGF0
import Derived.Test.YtcapkiofiipamaaGFL17
import Derived.Test.YtcapkiofiipamaaGFTDb
set_option linter.unusedVariables false
set_option maxRecDepth 100000
namespace Go.PI.G
open Go Go.PI Go.Proofs

/-! ### 4 loop.example/g00462/laws.FnExactFar -/
noncomputable def c_laws_FnExactFar : Code := (Try.f4.body).getD .skip
noncomputable def g_laws_FnExactFar : Env Unit := ⟨tys, [(18, s_laws_szDb), (19, s_spec_Far), (20, s_laws_toDb), (21, s_impl_Far), (22, s_laws_eqDb)], 0⟩
noncomputable def laws_FnExactFar (aA : (List (ByteArray × (List (ByteArray × Int × Bool × Bool × Int × Int × ByteArray)) × List ByteArray)) × List (List (List (Int × Int × ByteArray)))) (aB : (List (ByteArray × (List (ByteArray × Int × Bool × Bool × Int × Int × ByteArray)) × List ByteArray)) × List (List (List (Int × Int × ByteArray)))) (k0 : Bool → Res) : Res :=
  laws_szDb aA 1048576 fun (r : Int) =>
    bif decide (r < 0) then
      k0 true
    else
      laws_szDb aB r fun (r1 : Int) =>
        bif decide (r1 < 0) then
          k0 true
        else
          laws_toDb aA fun (r2 : (List (ByteArray × (List (ByteArray × Int × Bool × Bool × Int × Int × ByteArray)) × List ByteArray)) × List (List (List (Int × Int × ByteArray)))) =>
            laws_toDb aB fun (r3 : (List (ByteArray × (List (ByteArray × Int × Bool × Bool × Int × Int × ByteArray)) × List ByteArray)) × List (List (List (Int × Int × ByteArray)))) =>
              spec_Far r2 r3 fun (r4 : Int) =>
                laws_toDb aA fun (r5 : (List (ByteArray × (List (ByteArray × Int × Bool × Bool × Int × Int × ByteArray)) × List ByteArray)) × List (List (List (Int × Int × ByteArray)))) =>
                  laws_toDb aB fun (r6 : (List (ByteArray × (List (ByteArray × Int × Bool × Bool × Int × Int × ByteArray)) × List ByteArray)) × List (List (List (Int × Int × ByteArray)))) =>
                    impl_Far r5 r6 fun (r7 : Int) =>
                      bif (r7 != r4) then
                        k0 false
                      else
                        laws_toDb aA fun (r8 : (List (ByteArray × (List (ByteArray × Int × Bool × Bool × Int × Int × ByteArray)) × List ByteArray)) × List (List (List (Int × Int × ByteArray)))) =>
                          laws_eqDb r5 r8 fun (r9 : Bool) =>
                            bif !r9 then
                              k0 false
                            else
                              laws_toDb aB fun (r10 : (List (ByteArray × (List (ByteArray × Int × Bool × Bool × Int × Int × ByteArray)) × List ByteArray)) × List (List (List (Int × Int × ByteArray)))) =>
                                laws_eqDb r6 r10 fun (r11 : Bool) =>
                                  bif !r11 then
                                    k0 false
                                  else
                                    k0 true
noncomputable def s_laws_FnExactFar : Sig Unit := ⟨[.borrow y14 true, .borrow y14 true], [false], fun vals ext k => av vals y14 fun aA vals => av vals y14 fun aB vals => nl vals <| nl ext <| laws_FnExactFar aA aB (fun (r0 : Bool) => k [⟨.bool, false, r0, []⟩] [] [])⟩
theorem E_laws_FnExactFar (aA : (List (ByteArray × (List (ByteArray × Int × Bool × Bool × Int × Int × ByteArray)) × List ByteArray)) × List (List (List (Int × Int × ByteArray)))) (a_aA : Bool) (t_aA : List Tag) (aB : (List (ByteArray × (List (ByteArray × Int × Bool × Bool × Int × Int × ByteArray)) × List ByteArray)) × List (List (List (Int × Int × ByteArray)))) (a_aB : Bool) (t_aB : List Tag) (k : List TVal → List TVal → List TVal → Res) : funC g_laws_FnExactFar [] .o false Try.f4 [.borrow y14 true, .borrow y14 true] [false] [⟨y14, a_aA, aA, t_aA⟩, ⟨y14, a_aB, aB, t_aB⟩] [] k = laws_FnExactFar aA aB (fun (r0 : Bool) => k [⟨.bool, false, r0, []⟩] [] []) := by kernel_rfl
theorem S_laws_FnExactFar : Sound Try.prog 4 s_laws_FnExactFar := sound_of (Γ := g_laws_FnExactFar) (X := []) (ht := .o) (fz := false) (c := c_laws_FnExactFar) follows tysOk (fns_cons S_laws_szDb (fns_cons S_spec_Far (fns_cons S_laws_toDb (fns_cons S_impl_Far (fns_cons S_laws_eqDb fns_nil))))) trivial Try.func4 (by kernel_rfl) (by kernel_rfl) (by decide) (by
  intro vals ext k r h
  obtain ⟨aA, a_aA, t_aA, vals, rfl, h1⟩ := av_some h
  obtain ⟨aB, a_aB, t_aB, vals, rfl, h2⟩ := av_some h1
  obtain ⟨rfl, h3⟩ := nl_some h2
  obtain ⟨rfl, h4⟩ := nl_some h3
  exact (E_laws_FnExactFar aA a_aA t_aA aB a_aB t_aB k).trans h4)
end Go.PI.G
