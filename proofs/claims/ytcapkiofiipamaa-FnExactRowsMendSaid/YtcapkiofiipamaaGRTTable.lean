/-
  Printed: what the functions compute. No conditions.
-/
import Derived.Test.YtcapkiofiipamaaGR0
import Derived.Test.YtcapkiofiipamaaGRTColS
import Derived.Test.YtcapkiofiipamaaGRTStringS
set_option linter.unusedVariables false
set_option maxRecDepth 100000
namespace Go.PI.G
open Go Go.PI Go.Proofs

/-! ### 29 loop.example/g00462/laws.szTable -/
noncomputable def c_laws_szTable : Code := (Try.f29.body).getD .skip
noncomputable def g_laws_szTable : Env Unit := ⟨tys, [(66, s_laws_szStringS), (99, s_laws_szColS)], 0⟩
noncomputable def laws_szTable (a : ByteArray × (List (ByteArray × Int × Bool × Bool × Int × Int × ByteArray)) × List ByteArray) (left : Int) (k0 : Int → Res) : Res :=
  bif decide ((wi64 (left - (nI (ByteArray.size a.1)))) < 0) then
    k0 (-1)
  else
    laws_szColS a.2.1 (wi64 (left - (nI (ByteArray.size a.1)))) fun (r : Int) =>
      bif decide (r < 0) then
        k0 (-1)
      else
        laws_szStringS a.2.2 r fun (r1 : Int) =>
          bif decide (r1 < 0) then
            k0 (-1)
          else
            k0 r1
noncomputable def s_laws_szTable : Sig Unit := ⟨[.look y9 true, .look (.int .i64) false], [false], fun vals ext k => av vals y9 fun a vals => av vals (.int .i64) fun left vals => nl vals <| nl ext <| laws_szTable a left (fun (r0 : Int) => k [⟨(.int .i64), false, r0, []⟩] [] [])⟩
theorem E_laws_szTable (a : ByteArray × (List (ByteArray × Int × Bool × Bool × Int × Int × ByteArray)) × List ByteArray) (a_a : Bool) (t_a : List Tag) (left : Int) (a_left : Bool) (t_left : List Tag) (k : List TVal → List TVal → List TVal → Res) : funC g_laws_szTable [] .o false Try.f29 [.look y9 true, .look (.int .i64) false] [false] [⟨y9, a_a, a, t_a⟩, ⟨(.int .i64), a_left, left, t_left⟩] [] k = laws_szTable a left (fun (r0 : Int) => k [⟨(.int .i64), false, r0, []⟩] [] []) := by kernel_rfl
theorem S_laws_szTable : Sound Try.prog 29 s_laws_szTable := sound_of (Γ := g_laws_szTable) (X := []) (ht := .o) (fz := false) (c := c_laws_szTable) follows tysOk (fns_cons S_laws_szStringS (fns_cons S_laws_szColS fns_nil)) trivial Try.func29 (by kernel_rfl) (by kernel_rfl) (by decide) (by
  intro vals ext k r h
  obtain ⟨a, a_a, t_a, vals, rfl, h1⟩ := av_some h
  obtain ⟨left, a_left, t_left, vals, rfl, h2⟩ := av_some h1
  obtain ⟨rfl, h3⟩ := nl_some h2
  obtain ⟨rfl, h4⟩ := nl_some h3
  exact (E_laws_szTable a a_a t_a left a_left t_left k).trans h4)

/-! ### 32 loop.example/g00462/laws.toTable -/
noncomputable def c_laws_toTable : Code := (Try.f32.body).getD .skip
noncomputable def g_laws_toTable : Env Unit := ⟨tys, [(71, s_laws_toStringS), (105, s_laws_toColS)], 0⟩
noncomputable def laws_toTable (a : ByteArray × (List (ByteArray × Int × Bool × Bool × Int × Int × ByteArray)) × List ByteArray) (k0 : (ByteArray × (List (ByteArray × Int × Bool × Bool × Int × Int × ByteArray)) × List ByteArray) → Res) : Res :=
  laws_toColS a.2.1 fun (r : List (ByteArray × Int × Bool × Bool × Int × Int × ByteArray)) =>
    laws_toStringS a.2.2 fun (r1 : List ByteArray) =>
      k0 (a.1, r, r1)
noncomputable def s_laws_toTable : Sig Unit := ⟨[.borrow y9 true], [true], fun vals ext k => av vals y9 fun a vals => nl vals <| nl ext <| laws_toTable a (fun (r0 : ByteArray × (List (ByteArray × Int × Bool × Bool × Int × Int × ByteArray)) × List ByteArray) => k [⟨y9, true, r0, [.O, .O]⟩] [] [])⟩
theorem E_laws_toTable (a : ByteArray × (List (ByteArray × Int × Bool × Bool × Int × Int × ByteArray)) × List ByteArray) (a_a : Bool) (t_a : List Tag) (k : List TVal → List TVal → List TVal → Res) : funC g_laws_toTable [] .o false Try.f32 [.borrow y9 true] [true] [⟨y9, a_a, a, t_a⟩] [] k = laws_toTable a (fun (r0 : ByteArray × (List (ByteArray × Int × Bool × Bool × Int × Int × ByteArray)) × List ByteArray) => k [⟨y9, true, r0, [.O, .O]⟩] [] []) := by kernel_rfl
theorem S_laws_toTable : Sound Try.prog 32 s_laws_toTable := sound_of (Γ := g_laws_toTable) (X := []) (ht := .o) (fz := false) (c := c_laws_toTable) follows tysOk (fns_cons S_laws_toStringS (fns_cons S_laws_toColS fns_nil)) trivial Try.func32 (by kernel_rfl) (by kernel_rfl) (by decide) (by
  intro vals ext k r h
  obtain ⟨a, a_a, t_a, vals, rfl, h1⟩ := av_some h
  obtain ⟨rfl, h2⟩ := nl_some h1
  obtain ⟨rfl, h3⟩ := nl_some h2
  exact (E_laws_toTable a a_a t_a k).trans h3)

/-! ### 36 loop.example/g00462/laws.eqTable -/
noncomputable def c_laws_eqTable : Code := (Try.f36.body).getD .skip
noncomputable def g_laws_eqTable : Env Unit := ⟨tys, [(77, s_laws_eqStringS), (109, s_laws_eqColS)], 0⟩
noncomputable def laws_eqTable (a : ByteArray × (List (ByteArray × Int × Bool × Bool × Int × Int × ByteArray)) × List ByteArray) (b : ByteArray × (List (ByteArray × Int × Bool × Bool × Int × Int × ByteArray)) × List ByteArray) (k0 : Bool → Res) : Res :=
  bif sNe a.1 b.1 then
    k0 false
  else
    laws_eqColS a.2.1 b.2.1 fun (r : Bool) =>
      bif !r then
        k0 false
      else
        laws_eqStringS a.2.2 b.2.2 fun (r1 : Bool) =>
          bif !r1 then
            k0 false
          else
            k0 true
noncomputable def s_laws_eqTable : Sig Unit := ⟨[.look y9 true, .look y9 true], [false], fun vals ext k => av vals y9 fun a vals => av vals y9 fun b vals => nl vals <| nl ext <| laws_eqTable a b (fun (r0 : Bool) => k [⟨.bool, false, r0, []⟩] [] [])⟩
theorem E_laws_eqTable (a : ByteArray × (List (ByteArray × Int × Bool × Bool × Int × Int × ByteArray)) × List ByteArray) (a_a : Bool) (t_a : List Tag) (b : ByteArray × (List (ByteArray × Int × Bool × Bool × Int × Int × ByteArray)) × List ByteArray) (a_b : Bool) (t_b : List Tag) (k : List TVal → List TVal → List TVal → Res) : funC g_laws_eqTable [] .o false Try.f36 [.look y9 true, .look y9 true] [false] [⟨y9, a_a, a, t_a⟩, ⟨y9, a_b, b, t_b⟩] [] k = laws_eqTable a b (fun (r0 : Bool) => k [⟨.bool, false, r0, []⟩] [] []) := by kernel_rfl
theorem S_laws_eqTable : Sound Try.prog 36 s_laws_eqTable := sound_of (Γ := g_laws_eqTable) (X := []) (ht := .o) (fz := false) (c := c_laws_eqTable) follows tysOk (fns_cons S_laws_eqStringS (fns_cons S_laws_eqColS fns_nil)) trivial Try.func36 (by kernel_rfl) (by kernel_rfl) (by decide) (by
  intro vals ext k r h
  obtain ⟨a, a_a, t_a, vals, rfl, h1⟩ := av_some h
  obtain ⟨b, a_b, t_b, vals, rfl, h2⟩ := av_some h1
  obtain ⟨rfl, h3⟩ := nl_some h2
  obtain ⟨rfl, h4⟩ := nl_some h3
  exact (E_laws_eqTable a a_a t_a b a_b t_b k).trans h4)

/-! ### 38 loop.example/g00462/laws.markTable -/
noncomputable def c_laws_markTable : Code := (Try.f38.body).getD .skip
noncomputable def g_laws_markTable : Env Unit := ⟨tys, [(78, s_laws_markStringS), (111, s_laws_markColS)], 1⟩
noncomputable def laws_markTable (a : ByteArray × (List (ByteArray × Int × Bool × Bool × Int × Int × ByteArray)) × List ByteArray) (k_ : Int) (k0 : Int → (ByteArray × (List (ByteArray × Int × Bool × Bool × Int × Int × ByteArray)) × List ByteArray) → Res) : Res :=
  laws_markColS a.2.1 k_ fun (r : Int) (a1 : List (ByteArray × Int × Bool × Bool × Int × Int × ByteArray)) =>
    laws_markStringS a.2.2 r fun (r1 : Int) (a2 : List ByteArray) =>
      k0 r1 (a.1, a1, a2)
noncomputable def s_laws_markTable : Sig Unit := ⟨[.inout y9 true, .borrow (.int .i64) false], [false], fun vals ext k => ao vals y9 [.O, .O] fun a vals => av vals (.int .i64) fun k_ vals => nl vals <| nl ext <| laws_markTable a k_ (fun (r0 : Int) (i0 : ByteArray × (List (ByteArray × Int × Bool × Bool × Int × Int × ByteArray)) × List ByteArray) => k [⟨(.int .i64), false, r0, []⟩] [⟨y9, true, i0, [.O, .O]⟩] [])⟩
theorem E_laws_markTable (a_a : Bool) (a : ByteArray × (List (ByteArray × Int × Bool × Bool × Int × Int × ByteArray)) × List ByteArray) (k_ : Int) (a_k_ : Bool) (t_k_ : List Tag) (k : List TVal → List TVal → List TVal → Res) : funC g_laws_markTable [] .o false Try.f38 [.inout y9 true, .borrow (.int .i64) false] [false] [⟨y9, a_a, a, [.O, .O]⟩, ⟨(.int .i64), a_k_, k_, t_k_⟩] [] k = laws_markTable a k_ (fun (r0 : Int) (i0 : ByteArray × (List (ByteArray × Int × Bool × Bool × Int × Int × ByteArray)) × List ByteArray) => k [⟨(.int .i64), false, r0, []⟩] [⟨y9, true, i0, [.O, .O]⟩] []) := by kernel_rfl
theorem S_laws_markTable : Sound Try.prog 38 s_laws_markTable := sound_of (Γ := g_laws_markTable) (X := []) (ht := .o) (fz := false) (c := c_laws_markTable) follows tysOk (fns_cons S_laws_markStringS (fns_cons S_laws_markColS fns_nil)) trivial Try.func38 (by kernel_rfl) (by kernel_rfl) (by decide) (by
  intro vals ext k r h
  obtain ⟨a_a, a, vals, rfl, h1⟩ := ao_some h
  obtain ⟨k_, a_k_, t_k_, vals, rfl, h2⟩ := av_some h1
  obtain ⟨rfl, h3⟩ := nl_some h2
  obtain ⟨rfl, h4⟩ := nl_some h3
  exact (E_laws_markTable a_a a k_ a_k_ t_k_ k).trans h4)
end Go.PI.G
