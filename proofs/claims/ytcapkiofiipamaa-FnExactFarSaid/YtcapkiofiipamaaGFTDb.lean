/-
  Printed: what the functions compute. No conditions.
-/
import Derived.Test.YtcapkiofiipamaaGF0
import Derived.Test.YtcapkiofiipamaaGFTCat
import Derived.Test.YtcapkiofiipamaaGFTRowsS
set_option linter.unusedVariables false
set_option maxRecDepth 100000
namespace Go.PI.G
open Go Go.PI Go.Proofs

/-! ### 18 loop.example/g00462/laws.szDb -/
noncomputable def c_laws_szDb : Code := (Try.f18.body).getD .skip
noncomputable def g_laws_szDb : Env Unit := ⟨tys, [(80, s_laws_szCat), (81, s_laws_szRowsS)], 0⟩
noncomputable def laws_szDb (a : (List (ByteArray × (List (ByteArray × Int × Bool × Bool × Int × Int × ByteArray)) × List ByteArray)) × List (List (List (Int × Int × ByteArray)))) (left : Int) (k0 : Int → Res) : Res :=
  laws_szCat a.1 left fun (r : Int) =>
    bif decide (r < 0) then
      k0 (-1)
    else
      laws_szRowsS a.2 r fun (r1 : Int) =>
        bif decide (r1 < 0) then
          k0 (-1)
        else
          k0 r1
noncomputable def s_laws_szDb : Sig Unit := ⟨[.look y14 true, .look (.int .i64) false], [false], fun vals ext k => av vals y14 fun a vals => av vals (.int .i64) fun left vals => nl vals <| nl ext <| laws_szDb a left (fun (r0 : Int) => k [⟨(.int .i64), false, r0, []⟩] [] [])⟩
theorem E_laws_szDb (a : (List (ByteArray × (List (ByteArray × Int × Bool × Bool × Int × Int × ByteArray)) × List ByteArray)) × List (List (List (Int × Int × ByteArray)))) (a_a : Bool) (t_a : List Tag) (left : Int) (a_left : Bool) (t_left : List Tag) (k : List TVal → List TVal → List TVal → Res) : funC g_laws_szDb [] .o false Try.f18 [.look y14 true, .look (.int .i64) false] [false] [⟨y14, a_a, a, t_a⟩, ⟨(.int .i64), a_left, left, t_left⟩] [] k = laws_szDb a left (fun (r0 : Int) => k [⟨(.int .i64), false, r0, []⟩] [] []) := by kernel_rfl
theorem S_laws_szDb : Sound Try.prog 18 s_laws_szDb := sound_of (Γ := g_laws_szDb) (X := []) (ht := .o) (fz := false) (c := c_laws_szDb) follows tysOk (fns_cons S_laws_szCat (fns_cons S_laws_szRowsS fns_nil)) trivial Try.func18 (by kernel_rfl) (by kernel_rfl) (by decide) (by
  intro vals ext k r h
  obtain ⟨a, a_a, t_a, vals, rfl, h1⟩ := av_some h
  obtain ⟨left, a_left, t_left, vals, rfl, h2⟩ := av_some h1
  obtain ⟨rfl, h3⟩ := nl_some h2
  obtain ⟨rfl, h4⟩ := nl_some h3
  exact (E_laws_szDb a a_a t_a left a_left t_left k).trans h4)

/-! ### 20 loop.example/g00462/laws.toDb -/
noncomputable def c_laws_toDb : Code := (Try.f20.body).getD .skip
noncomputable def g_laws_toDb : Env Unit := ⟨tys, [(83, s_laws_toCat), (84, s_laws_toRowsS)], 0⟩
noncomputable def laws_toDb (a : (List (ByteArray × (List (ByteArray × Int × Bool × Bool × Int × Int × ByteArray)) × List ByteArray)) × List (List (List (Int × Int × ByteArray)))) (k0 : ((List (ByteArray × (List (ByteArray × Int × Bool × Bool × Int × Int × ByteArray)) × List ByteArray)) × List (List (List (Int × Int × ByteArray)))) → Res) : Res :=
  laws_toCat a.1 fun (r : List (ByteArray × (List (ByteArray × Int × Bool × Bool × Int × Int × ByteArray)) × List ByteArray)) =>
    laws_toRowsS a.2 fun (r1 : List (List (List (Int × Int × ByteArray)))) =>
      k0 (r, r1)
noncomputable def s_laws_toDb : Sig Unit := ⟨[.borrow y14 true], [true], fun vals ext k => av vals y14 fun a vals => nl vals <| nl ext <| laws_toDb a (fun (r0 : (List (ByteArray × (List (ByteArray × Int × Bool × Bool × Int × Int × ByteArray)) × List ByteArray)) × List (List (List (Int × Int × ByteArray)))) => k [⟨y14, true, r0, [.O, .O]⟩] [] [])⟩
theorem E_laws_toDb (a : (List (ByteArray × (List (ByteArray × Int × Bool × Bool × Int × Int × ByteArray)) × List ByteArray)) × List (List (List (Int × Int × ByteArray)))) (a_a : Bool) (t_a : List Tag) (k : List TVal → List TVal → List TVal → Res) : funC g_laws_toDb [] .o false Try.f20 [.borrow y14 true] [true] [⟨y14, a_a, a, t_a⟩] [] k = laws_toDb a (fun (r0 : (List (ByteArray × (List (ByteArray × Int × Bool × Bool × Int × Int × ByteArray)) × List ByteArray)) × List (List (List (Int × Int × ByteArray)))) => k [⟨y14, true, r0, [.O, .O]⟩] [] []) := by kernel_rfl
theorem S_laws_toDb : Sound Try.prog 20 s_laws_toDb := sound_of (Γ := g_laws_toDb) (X := []) (ht := .o) (fz := false) (c := c_laws_toDb) follows tysOk (fns_cons S_laws_toCat (fns_cons S_laws_toRowsS fns_nil)) trivial Try.func20 (by kernel_rfl) (by kernel_rfl) (by decide) (by
  intro vals ext k r h
  obtain ⟨a, a_a, t_a, vals, rfl, h1⟩ := av_some h
  obtain ⟨rfl, h2⟩ := nl_some h1
  obtain ⟨rfl, h3⟩ := nl_some h2
  exact (E_laws_toDb a a_a t_a k).trans h3)

/-! ### 22 loop.example/g00462/laws.eqDb -/
noncomputable def c_laws_eqDb : Code := (Try.f22.body).getD .skip
noncomputable def g_laws_eqDb : Env Unit := ⟨tys, [(86, s_laws_eqCat), (87, s_laws_eqRowsS)], 0⟩
noncomputable def laws_eqDb (a : (List (ByteArray × (List (ByteArray × Int × Bool × Bool × Int × Int × ByteArray)) × List ByteArray)) × List (List (List (Int × Int × ByteArray)))) (b : (List (ByteArray × (List (ByteArray × Int × Bool × Bool × Int × Int × ByteArray)) × List ByteArray)) × List (List (List (Int × Int × ByteArray)))) (k0 : Bool → Res) : Res :=
  laws_eqCat a.1 b.1 fun (r : Bool) =>
    bif !r then
      k0 false
    else
      laws_eqRowsS a.2 b.2 fun (r1 : Bool) =>
        bif !r1 then
          k0 false
        else
          k0 true
noncomputable def s_laws_eqDb : Sig Unit := ⟨[.look y14 true, .look y14 true], [false], fun vals ext k => av vals y14 fun a vals => av vals y14 fun b vals => nl vals <| nl ext <| laws_eqDb a b (fun (r0 : Bool) => k [⟨.bool, false, r0, []⟩] [] [])⟩
theorem E_laws_eqDb (a : (List (ByteArray × (List (ByteArray × Int × Bool × Bool × Int × Int × ByteArray)) × List ByteArray)) × List (List (List (Int × Int × ByteArray)))) (a_a : Bool) (t_a : List Tag) (b : (List (ByteArray × (List (ByteArray × Int × Bool × Bool × Int × Int × ByteArray)) × List ByteArray)) × List (List (List (Int × Int × ByteArray)))) (a_b : Bool) (t_b : List Tag) (k : List TVal → List TVal → List TVal → Res) : funC g_laws_eqDb [] .o false Try.f22 [.look y14 true, .look y14 true] [false] [⟨y14, a_a, a, t_a⟩, ⟨y14, a_b, b, t_b⟩] [] k = laws_eqDb a b (fun (r0 : Bool) => k [⟨.bool, false, r0, []⟩] [] []) := by kernel_rfl
theorem S_laws_eqDb : Sound Try.prog 22 s_laws_eqDb := sound_of (Γ := g_laws_eqDb) (X := []) (ht := .o) (fz := false) (c := c_laws_eqDb) follows tysOk (fns_cons S_laws_eqCat (fns_cons S_laws_eqRowsS fns_nil)) trivial Try.func22 (by kernel_rfl) (by kernel_rfl) (by decide) (by
  intro vals ext k r h
  obtain ⟨a, a_a, t_a, vals, rfl, h1⟩ := av_some h
  obtain ⟨b, a_b, t_b, vals, rfl, h2⟩ := av_some h1
  obtain ⟨rfl, h3⟩ := nl_some h2
  obtain ⟨rfl, h4⟩ := nl_some h3
  exact (E_laws_eqDb a a_a t_a b a_b t_b k).trans h4)
end Go.PI.G
