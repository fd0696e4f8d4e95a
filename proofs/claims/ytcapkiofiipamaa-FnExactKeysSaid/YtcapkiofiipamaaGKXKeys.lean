/-
  Printed: what the functions compute. No conditions.
-/
import Derived.Test.YtcapkiofiipamaaGK0
import Derived.Test.YtcapkiofiipamaaGKL18
import Derived.Test.YtcapkiofiipamaaGKTDb
import Derived.Test.YtcapkiofiipamaaGKTValSS
set_option linter.unusedVariables false
set_option maxRecDepth 100000
namespace Go.PI.G
open Go Go.PI Go.Proofs

/-! ### 5 loop.example/g00462/laws.FnExactKeys -/
noncomputable def c_laws_FnExactKeys : Code := (Try.f5.body).getD .skip
noncomputable def g_laws_FnExactKeys : Env Unit := ⟨tys, [(18, s_laws_szDb), (20, s_laws_toDb), (22, s_laws_eqDb), (23, s_spec_Keys), (24, s_impl_Keys), (25, s_laws_eqValSS), (26, s_laws_markDb), (27, s_laws_markValSS), (28, s_laws_heldValSS)], 0⟩
noncomputable def laws_FnExactKeys_p0 (aTable : ByteArray) (w0 : List (List (Int × Int × ByteArray))) (g0 : List (List (Int × Int × ByteArray))) (k_ : Int) (aD : (List (ByteArray × (List (ByteArray × Int × Bool × Bool × Int × Int × ByteArray)) × List ByteArray)) × List (List (List (Int × Int × ByteArray)))) (k0 : Bool → Res) : Res :=
  bif decide (k_ < 0) then
    k0 false
  else
    laws_eqValSS g0 w0 fun (r : Bool) =>
      bif !r then
        k0 false
      else
        laws_markValSS g0 1 fun (r1 : Int) (a1 : List (List (Int × Int × ByteArray))) =>
          laws_heldValSS a1 1 fun (r2 : Int) =>
            bif decide (r2 < 0) then
              k0 false
            else
              bif (r2 != r1) then
                k0 false
              else
                laws_toDb aD fun (r3 : (List (ByteArray × (List (ByteArray × Int × Bool × Bool × Int × Int × ByteArray)) × List ByteArray)) × List (List (List (Int × Int × ByteArray)))) =>
                  impl_Keys r3 aTable fun (r4 : List (List (Int × Int × ByteArray))) =>
                    laws_eqValSS r4 w0 fun (r5 : Bool) =>
                      bif !r5 then
                        k0 false
                      else
                        laws_heldValSS a1 1 fun (r6 : Int) =>
                          bif decide (r6 < 0) then
                            k0 false
                          else
                            bif (r6 != r1) then
                              k0 false
                            else
                              k0 true
noncomputable def xlaws_FnExactKeys_p0 : Node Unit := fun σ k => rdN σ 77 <| rdV σ 1 .str false [] fun aTable => rdT σ 2 (.ptr ⟨true, 2, []⟩) <| rdV σ 6 y12 false [.O] fun w0 => rdV σ 8 y12 false [.O] fun g0 => rdV σ 9 (.int .i64) false [] fun k_ => rdB σ 2 y14 [.S, .S] fun a aD => laws_FnExactKeys_p0 aTable w0 g0 k_ aD (fun (t4 : Bool) => k .ret (mkS 77 77 [(4, .val ⟨.bool, false, t4, []⟩)] []))
theorem elaws_FnExactKeys_p0 (aTable : ByteArray) (w0 : List (List (Int × Int × ByteArray))) (g0 : List (List (Int × Int × ByteArray))) (k_ : Int) (a : Bool) (aD : (List (ByteArray × (List (ByteArray × Int × Bool × Bool × Int × Int × ByteArray)) × List ByteArray)) × List (List (List (Int × Int × ByteArray)))) (k : Kont Unit) : codeC g_laws_FnExactKeys [] .o (Code.pr (Code.pr (Code.pr (Code.pr (Code.pr (Code.pr (Code.pr (Code.pr (Code.pr (Code.pr (Code.pr (Code.pr c_laws_FnExactKeys)))))))))))) (mkS 77 77 [(1, .val ⟨.str, false, aTable, []⟩), (2, .ptr ⟨true, 2, []⟩), (6, .val ⟨y12, false, w0, [.O]⟩), (8, .val ⟨y12, false, g0, [.O]⟩), (9, .val ⟨(.int .i64), false, k_, []⟩)] [(2, ⟨y14, a, aD, [.S, .S]⟩)]) (fun e σ => k e ((cutC ([], []) [] ([4], [])) e σ)) = laws_FnExactKeys_p0 aTable w0 g0 k_ aD (fun (t4 : Bool) => k .ret (mkS 77 77 [(4, .val ⟨.bool, false, t4, []⟩)] [])) := by kernel_rfl
theorem olaws_FnExactKeys_p0 {W0 : Base} {M : Nat → Prop} (hnp : W0.np ≤ 0) : CodeOk Try.prog W0 M (Code.pr (Code.pr (Code.pr (Code.pr (Code.pr (Code.pr (Code.pr (Code.pr (Code.pr (Code.pr (Code.pr (Code.pr c_laws_FnExactKeys)))))))))))) xlaws_FnExactKeys_p0 := node_ok (code_sound follows tysOk (calls_ok (fns_cons S_laws_szDb (fns_cons S_laws_toDb (fns_cons S_laws_eqDb (fns_cons S_spec_Keys (fns_cons S_impl_Keys (fns_cons S_laws_eqValSS (fns_cons S_laws_markDb (fns_cons S_laws_markValSS (fns_cons S_laws_heldValSS fns_nil)))))))))) hnp [] ((Code.pr (Code.pr (Code.pr (Code.pr (Code.pr (Code.pr (Code.pr (Code.pr (Code.pr (Code.pr (Code.pr (Code.pr c_laws_FnExactKeys))))))))))))) .o trivial) (fg := (cutC ([], []) [] ([4], []))) (cutC_le _ _ _) (by
  intro σ k r h
  obtain ⟨hn, h1⟩ := rdN_some h
  obtain ⟨aTable, hs1, h2⟩ := rdV_some h1
  obtain ⟨hs2, h3⟩ := rdT_some h2
  obtain ⟨w0, hs6, h4⟩ := rdV_some h3
  obtain ⟨g0, hs8, h5⟩ := rdV_some h4
  obtain ⟨k_, hs9, h6⟩ := rdV_some h5
  obtain ⟨a, aD, hb2, h7⟩ := rdB_some h6
  refine ⟨_, ?_, (elaws_FnExactKeys_p0 aTable w0 g0 k_ a aD k).trans h7⟩
  exact mkS_le hn ⟨hs1, hs2, hs6, hs8, hs9, trivial⟩ ⟨hb2, trivial⟩)
noncomputable def laws_FnExactKeys (aD : (List (ByteArray × (List (ByteArray × Int × Bool × Bool × Int × Int × ByteArray)) × List ByteArray)) × List (List (List (Int × Int × ByteArray)))) (aTable : ByteArray) (k0 : Bool → Res) : Res :=
  bif decide ((nI (ByteArray.size aTable)) > 1048576) then
    k0 true
  else
    laws_szDb aD 1048576 fun (r : Int) =>
      bif decide (r < 0) then
        k0 true
      else
        laws_toDb aD fun (r1 : (List (ByteArray × (List (ByteArray × Int × Bool × Bool × Int × Int × ByteArray)) × List ByteArray)) × List (List (List (Int × Int × ByteArray)))) =>
          spec_Keys r1 aTable fun (r2 : List (List (Int × Int × ByteArray))) =>
            laws_toDb aD fun (r3 : (List (ByteArray × (List (ByteArray × Int × Bool × Bool × Int × Int × ByteArray)) × List ByteArray)) × List (List (List (Int × Int × ByteArray)))) =>
              impl_Keys r3 aTable fun (r4 : List (List (Int × Int × ByteArray))) =>
                laws_eqValSS r4 r2 fun (r5 : Bool) =>
                  bif !r5 then
                    k0 false
                  else
                    laws_toDb aD fun (r6 : (List (ByteArray × (List (ByteArray × Int × Bool × Bool × Int × Int × ByteArray)) × List ByteArray)) × List (List (List (Int × Int × ByteArray)))) =>
                      laws_eqDb r3 r6 fun (r7 : Bool) =>
                        bif !r7 then
                          k0 false
                        else
                          laws_markDb r3 1 fun (r8 : Int) (a : (List (ByteArray × (List (ByteArray × Int × Bool × Bool × Int × Int × ByteArray)) × List ByteArray)) × List (List (List (Int × Int × ByteArray)))) =>
                            laws_FnExactKeys_p0 aTable r2 r4 r8 aD fun (t : Bool) =>
                              k0 t
noncomputable def s_laws_FnExactKeys : Sig Unit := ⟨[.borrow y14 true, .borrow .str false], [false], fun vals ext k => av vals y14 fun aD vals => av vals .str fun aTable vals => nl vals <| nl ext <| laws_FnExactKeys aD aTable (fun (r0 : Bool) => k [⟨.bool, false, r0, []⟩] [] [])⟩
theorem E_laws_FnExactKeys (aD : (List (ByteArray × (List (ByteArray × Int × Bool × Bool × Int × Int × ByteArray)) × List ByteArray)) × List (List (List (Int × Int × ByteArray)))) (a_aD : Bool) (t_aD : List Tag) (aTable : ByteArray) (a_aTable : Bool) (t_aTable : List Tag) (k : List TVal → List TVal → List TVal → Res) : funC g_laws_FnExactKeys [xlaws_FnExactKeys_p0] (.t .o (.t .o (.t .o (.t .o (.t .o (.t .o (.t .o (.t .o (.t .o (.t .o (.t .o (.t .o (.x 0))))))))))))) false Try.f5 [.borrow y14 true, .borrow .str false] [false] [⟨y14, a_aD, aD, t_aD⟩, ⟨.str, a_aTable, aTable, t_aTable⟩] [] k = laws_FnExactKeys aD aTable (fun (r0 : Bool) => k [⟨.bool, false, r0, []⟩] [] []) := by kernel_rfl
theorem S_laws_FnExactKeys : Sound Try.prog 5 s_laws_FnExactKeys := sound_of (Γ := g_laws_FnExactKeys) (X := [xlaws_FnExactKeys_p0]) (ht := (.t .o (.t .o (.t .o (.t .o (.t .o (.t .o (.t .o (.t .o (.t .o (.t .o (.t .o (.t .o (.x 0)))))))))))))) (fz := false) (c := c_laws_FnExactKeys) follows tysOk (fns_cons S_laws_szDb (fns_cons S_laws_toDb (fns_cons S_laws_eqDb (fns_cons S_spec_Keys (fns_cons S_impl_Keys (fns_cons S_laws_eqValSS (fns_cons S_laws_markDb (fns_cons S_laws_markValSS (fns_cons S_laws_heldValSS fns_nil))))))))) (OrOk.mk trivial ((OrOk.mk trivial ((OrOk.mk trivial ((OrOk.mk trivial ((OrOk.mk trivial ((OrOk.mk trivial ((OrOk.mk trivial ((OrOk.mk trivial ((OrOk.mk trivial ((OrOk.mk trivial ((OrOk.mk trivial ((OrOk.mk trivial (OrOk.x_mk (fun W0 M hnp => olaws_FnExactKeys_p0 (W0 := W0) (M := M) hnp))))))))))))))))))))))))) Try.func5 (by kernel_rfl) (by kernel_rfl) (by decide) (by
  intro vals ext k r h
  obtain ⟨aD, a_aD, t_aD, vals, rfl, h1⟩ := av_some h
  obtain ⟨aTable, a_aTable, t_aTable, vals, rfl, h2⟩ := av_some h1
  obtain ⟨rfl, h3⟩ := nl_some h2
  obtain ⟨rfl, h4⟩ := nl_some h3
  exact (E_laws_FnExactKeys aD a_aD t_aD aTable a_aTable t_aTable k).trans h4)
end Go.PI.G
