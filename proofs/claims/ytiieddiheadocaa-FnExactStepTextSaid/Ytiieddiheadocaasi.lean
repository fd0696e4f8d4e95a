/-
  Printed texts and plain laws. No conditions.
-/
import Derived.Test.YtiieddiheadocaaPc
import Derived.Test.Ytiieddiheadocaasa
import Derived.Test.Ytiieddiheadocaash
import Derived.Test.Ytiieddiheadocaasg
set_option linter.unusedVariables false
set_option maxRecDepth 100000
noncomputable section
namespace Go.PI.G
open Go Go.PI Go.Proofs

/-! ### 96 loop.example/g00462/laws.szStmt -/
def c_laws_szStmt : Code := (Try.f96.body).getD .skip
def g_laws_szStmt : Env Unit := ⟨tys, [(136, s_laws_szValS), (137, s_laws_szRow), (138, s_laws_szDdl)], 0⟩
def laws_szStmt (a : Int × ByteArray × qW × qW × Int × ByteArray × qE × List ByteArray × ByteArray × ByteArray) (left : Int) (k0 : Int → Res) : Res :=
 bif decide ((wi64 (left - (nI (ByteArray.size a.2.1)))) < 0) then
  k0 (-1)
 else
  laws_szValS a.2.2.1 (wi64 (left - (nI (ByteArray.size a.2.1)))) fun (r : Int) =>
   bif decide (r < 0) then
    k0 (-1)
   else
    laws_szRow a.2.2.2.1 r fun (r1 : Int) =>
     bif decide (r1 < 0) then
      k0 (-1)
     else
      laws_szDdl a.2.2.2.2 r1 fun (r2 : Int) =>
       bif decide (r2 < 0) then
        k0 (-1)
       else
        k0 r2
def s_laws_szStmt : Sig Unit := ⟨[.look y17 true, .look (.int .i64) false], [false], fun vals ext k => av vals y17 fun a vals => av vals (.int .i64) fun left vals => nl vals <| nl ext <| laws_szStmt a left (fun (r0 : Int) => k [⟨(.int .i64), false, r0, []⟩] [] [])⟩
theorem E_laws_szStmt (a : Int × ByteArray × qW × qW × Int × ByteArray × qE × List ByteArray × ByteArray × ByteArray) (a_a : Bool) (t_a : List Tag) (left : Int) (a_left : Bool) (t_left : List Tag) (k : qK) : funC g_laws_szStmt [] .o false Try.f96 [.look y17 true, .look (.int .i64) false] [false] [⟨y17, a_a, a, t_a⟩, ⟨(.int .i64), a_left, left, t_left⟩] [] k = laws_szStmt a left (fun (r0 : Int) => k [⟨(.int .i64), false, r0, []⟩] [] []) := by kernel_rfl
theorem S_laws_szStmt : Sound Try.prog 96 s_laws_szStmt := sound_of (Γ := g_laws_szStmt) (X := []) (ht := .o) (fz := false) (c := c_laws_szStmt) follows tysOk (fns_cons S_laws_szValS (fns_cons S_laws_szRow (fns_cons S_laws_szDdl fns_nil))) trivial Try.func96 (by kernel_rfl) (by kernel_rfl) (by decide) (by
 intro vals ext k r h
 obtain ⟨a, a_a, t_a, vals, rfl, h1⟩ := av_some h
 obtain ⟨left, a_left, t_left, vals, rfl, h2⟩ := av_some h1
 obtain ⟨rfl, h3⟩ := nl_some h2
 obtain ⟨rfl, h4⟩ := nl_some h3
 exact (E_laws_szStmt a a_a t_a left a_left t_left k).trans h4)

/-! ### 101 loop.example/g00462/laws.toStmt -/
def c_laws_toStmt : Code := (Try.f101.body).getD .skip
def g_laws_toStmt : Env Unit := ⟨tys, [(144, s_laws_toValS), (145, s_laws_toRow), (146, s_laws_toDdl)], 0⟩
def laws_toStmt (a : Int × ByteArray × qW × qW × Int × ByteArray × qE × List ByteArray × ByteArray × ByteArray) (k0 : qS → Res) : Res :=
 laws_toValS a.2.2.1 fun (r : List qV) =>
  laws_toRow a.2.2.2.1 fun (r1 : List qV) =>
   laws_toDdl a.2.2.2.2 fun (r2 : Int × ByteArray × qE × List ByteArray × ByteArray × ByteArray) =>
    k0 (a.1, a.2.1, r, r1, r2)
def s_laws_toStmt : Sig Unit := ⟨[.borrow y17 true], [true], fun vals ext k => av vals y17 fun a vals => nl vals <| nl ext <| laws_toStmt a (fun (r0 : Int × ByteArray × qW × qW × Int × ByteArray × qE × List ByteArray × ByteArray × ByteArray) => k [⟨y17, true, r0, [.O, .O, .O, .O]⟩] [] [])⟩
theorem E_laws_toStmt (a : Int × ByteArray × qW × qW × Int × ByteArray × qE × List ByteArray × ByteArray × ByteArray) (a_a : Bool) (t_a : List Tag) (k : qK) : funC g_laws_toStmt [] .o false Try.f101 [.borrow y17 true] [true] [⟨y17, a_a, a, t_a⟩] [] k = laws_toStmt a (fun (r0 : Int × ByteArray × qW × qW × Int × ByteArray × qE × List ByteArray × ByteArray × ByteArray) => k [⟨y17, true, r0, [.O, .O, .O, .O]⟩] [] []) := by kernel_rfl
theorem S_laws_toStmt : Sound Try.prog 101 s_laws_toStmt := sound_of (Γ := g_laws_toStmt) (X := []) (ht := .o) (fz := false) (c := c_laws_toStmt) follows tysOk (fns_cons S_laws_toValS (fns_cons S_laws_toRow (fns_cons S_laws_toDdl fns_nil))) trivial Try.func101 (by kernel_rfl) (by kernel_rfl) (by decide) (by
 intro vals ext k r h
 obtain ⟨a, a_a, t_a, vals, rfl, h1⟩ := av_some h
 obtain ⟨rfl, h2⟩ := nl_some h1
 obtain ⟨rfl, h3⟩ := nl_some h2
 exact (E_laws_toStmt a a_a t_a k).trans h3)

/-! ### 16 loop.example/g00462/laws.eqStmt -/
def c_laws_eqStmt : Code := (Try.f16.body).getD .skip
def g_laws_eqStmt : Env Unit := ⟨tys, [(63, s_laws_eqValS), (64, s_laws_eqRow), (65, s_laws_eqDdl)], 0⟩
def laws_eqStmt (a : Int × ByteArray × qW × qW × Int × ByteArray × qE × List ByteArray × ByteArray × ByteArray) (b : Int × ByteArray × qW × qW × Int × ByteArray × qE × List ByteArray × ByteArray × ByteArray) (k0 : Bool → Res) : Res :=
 bif (a.1 != b.1) then
  k0 false
 else
  bif sNe a.2.1 b.2.1 then
   k0 false
  else
   laws_eqValS a.2.2.1 b.2.2.1 fun (r : Bool) =>
    bif !r then
     k0 false
    else
     laws_eqRow a.2.2.2.1 b.2.2.2.1 fun (r1 : Bool) =>
      bif !r1 then
       k0 false
      else
       laws_eqDdl a.2.2.2.2 b.2.2.2.2 fun (r2 : Bool) =>
        bif !r2 then
         k0 false
        else
         k0 true
def s_laws_eqStmt : Sig Unit := ⟨[.look y17 true, .look y17 true], [false], fun vals ext k => av vals y17 fun a vals => av vals y17 fun b vals => nl vals <| nl ext <| laws_eqStmt a b (fun (r0 : Bool) => k [⟨.bool, false, r0, []⟩] [] [])⟩
theorem E_laws_eqStmt (a : Int × ByteArray × qW × qW × Int × ByteArray × qE × List ByteArray × ByteArray × ByteArray) (a_a : Bool) (t_a : List Tag) (b : Int × ByteArray × qW × qW × Int × ByteArray × qE × List ByteArray × ByteArray × ByteArray) (a_b : Bool) (t_b : List Tag) (k : qK) : funC g_laws_eqStmt [] .o false Try.f16 [.look y17 true, .look y17 true] [false] [⟨y17, a_a, a, t_a⟩, ⟨y17, a_b, b, t_b⟩] [] k = laws_eqStmt a b (fun (r0 : Bool) => k [⟨.bool, false, r0, []⟩] [] []) := by kernel_rfl
theorem S_laws_eqStmt : Sound Try.prog 16 s_laws_eqStmt := sound_of (Γ := g_laws_eqStmt) (X := []) (ht := .o) (fz := false) (c := c_laws_eqStmt) follows tysOk (fns_cons S_laws_eqValS (fns_cons S_laws_eqRow (fns_cons S_laws_eqDdl fns_nil))) trivial Try.func16 (by kernel_rfl) (by kernel_rfl) (by decide) (by
 intro vals ext k r h
 obtain ⟨a, a_a, t_a, vals, rfl, h1⟩ := av_some h
 obtain ⟨b, a_b, t_b, vals, rfl, h2⟩ := av_some h1
 obtain ⟨rfl, h3⟩ := nl_some h2
 obtain ⟨rfl, h4⟩ := nl_some h3
 exact (E_laws_eqStmt a a_a t_a b a_b t_b k).trans h4)
end Go.PI.G
end
noncomputable section
namespace Go.PI.G
open Go Go.PI Go.Proofs

/-! ### 39 loop.example/g00462/laws.szRec -/
def c_laws_szRec : Code := (Try.f39.body).getD .skip
def g_laws_szRec : Env Unit := ⟨tys, [(96, s_laws_szStmt)], 0⟩
def laws_szRec (a : Int × Int × Int × ByteArray × qW × qW × Int × ByteArray × qE × List ByteArray × ByteArray × ByteArray) (left : Int) (k0 : Int → Res) : Res :=
 laws_szStmt a.2.2 left fun (r : Int) =>
  bif decide (r < 0) then
   k0 (-1)
  else
   k0 r
def s_laws_szRec : Sig Unit := ⟨[.look y19 true, .look (.int .i64) false], [false], fun vals ext k => av vals y19 fun a vals => av vals (.int .i64) fun left vals => nl vals <| nl ext <| laws_szRec a left (fun (r0 : Int) => k [⟨(.int .i64), false, r0, []⟩] [] [])⟩
theorem E_laws_szRec (a : Int × Int × Int × ByteArray × qW × qW × Int × ByteArray × qE × List ByteArray × ByteArray × ByteArray) (a_a : Bool) (t_a : List Tag) (left : Int) (a_left : Bool) (t_left : List Tag) (k : qK) : funC g_laws_szRec [] .o false Try.f39 [.look y19 true, .look (.int .i64) false] [false] [⟨y19, a_a, a, t_a⟩, ⟨(.int .i64), a_left, left, t_left⟩] [] k = laws_szRec a left (fun (r0 : Int) => k [⟨(.int .i64), false, r0, []⟩] [] []) := by kernel_rfl
theorem S_laws_szRec : Sound Try.prog 39 s_laws_szRec := sound_of (Γ := g_laws_szRec) (X := []) (ht := .o) (fz := false) (c := c_laws_szRec) follows tysOk (fns_cons S_laws_szStmt fns_nil) trivial Try.func39 (by kernel_rfl) (by kernel_rfl) (by decide) (by
 intro vals ext k r h
 obtain ⟨a, a_a, t_a, vals, rfl, h1⟩ := av_some h
 obtain ⟨left, a_left, t_left, vals, rfl, h2⟩ := av_some h1
 obtain ⟨rfl, h3⟩ := nl_some h2
 obtain ⟨rfl, h4⟩ := nl_some h3
 exact (E_laws_szRec a a_a t_a left a_left t_left k).trans h4)

/-! ### 44 loop.example/g00462/laws.toRec -/
def c_laws_toRec : Code := (Try.f44.body).getD .skip
def g_laws_toRec : Env Unit := ⟨tys, [(101, s_laws_toStmt)], 0⟩
def laws_toRec (a : Int × Int × Int × ByteArray × qW × qW × Int × ByteArray × qE × List ByteArray × ByteArray × ByteArray) (k0 : (Int × Int × Int × ByteArray × qW × qW × Int × ByteArray × qE × List ByteArray × ByteArray × ByteArray) → Res) : Res :=
 laws_toStmt a.2.2 fun (r : Int × ByteArray × qW × qW × Int × ByteArray × qE × List ByteArray × ByteArray × ByteArray) =>
  k0 (a.1, a.2.1, r)
def s_laws_toRec : Sig Unit := ⟨[.borrow y19 true], [true], fun vals ext k => av vals y19 fun a vals => nl vals <| nl ext <| laws_toRec a (fun (r0 : Int × Int × Int × ByteArray × qW × qW × Int × ByteArray × qE × List ByteArray × ByteArray × ByteArray) => k [⟨y19, true, r0, [.O, .O, .O, .O]⟩] [] [])⟩
theorem E_laws_toRec (a : Int × Int × Int × ByteArray × qW × qW × Int × ByteArray × qE × List ByteArray × ByteArray × ByteArray) (a_a : Bool) (t_a : List Tag) (k : qK) : funC g_laws_toRec [] .o false Try.f44 [.borrow y19 true] [true] [⟨y19, a_a, a, t_a⟩] [] k = laws_toRec a (fun (r0 : Int × Int × Int × ByteArray × qW × qW × Int × ByteArray × qE × List ByteArray × ByteArray × ByteArray) => k [⟨y19, true, r0, [.O, .O, .O, .O]⟩] [] []) := by kernel_rfl
theorem S_laws_toRec : Sound Try.prog 44 s_laws_toRec := sound_of (Γ := g_laws_toRec) (X := []) (ht := .o) (fz := false) (c := c_laws_toRec) follows tysOk (fns_cons S_laws_toStmt fns_nil) trivial Try.func44 (by kernel_rfl) (by kernel_rfl) (by decide) (by
 intro vals ext k r h
 obtain ⟨a, a_a, t_a, vals, rfl, h1⟩ := av_some h
 obtain ⟨rfl, h2⟩ := nl_some h1
 obtain ⟨rfl, h3⟩ := nl_some h2
 exact (E_laws_toRec a a_a t_a k).trans h3)

/-! ### 50 loop.example/g00462/laws.eqRec -/
def c_laws_eqRec : Code := (Try.f50.body).getD .skip
def g_laws_eqRec : Env Unit := ⟨tys, [(16, s_laws_eqStmt)], 0⟩
def laws_eqRec (a : Int × Int × Int × ByteArray × qW × qW × Int × ByteArray × qE × List ByteArray × ByteArray × ByteArray) (b : Int × Int × Int × ByteArray × qW × qW × Int × ByteArray × qE × List ByteArray × ByteArray × ByteArray) (k0 : Bool → Res) : Res :=
 bif (a.1 != b.1) then
  k0 false
 else
  bif (a.2.1 != b.2.1) then
   k0 false
  else
   laws_eqStmt a.2.2 b.2.2 fun (r : Bool) =>
    bif !r then
     k0 false
    else
     k0 true
def s_laws_eqRec : Sig Unit := ⟨[.look y19 true, .look y19 true], [false], fun vals ext k => av vals y19 fun a vals => av vals y19 fun b vals => nl vals <| nl ext <| laws_eqRec a b (fun (r0 : Bool) => k [⟨.bool, false, r0, []⟩] [] [])⟩
theorem E_laws_eqRec (a : Int × Int × Int × ByteArray × qW × qW × Int × ByteArray × qE × List ByteArray × ByteArray × ByteArray) (a_a : Bool) (t_a : List Tag) (b : Int × Int × Int × ByteArray × qW × qW × Int × ByteArray × qE × List ByteArray × ByteArray × ByteArray) (a_b : Bool) (t_b : List Tag) (k : qK) : funC g_laws_eqRec [] .o false Try.f50 [.look y19 true, .look y19 true] [false] [⟨y19, a_a, a, t_a⟩, ⟨y19, a_b, b, t_b⟩] [] k = laws_eqRec a b (fun (r0 : Bool) => k [⟨.bool, false, r0, []⟩] [] []) := by kernel_rfl
theorem S_laws_eqRec : Sound Try.prog 50 s_laws_eqRec := sound_of (Γ := g_laws_eqRec) (X := []) (ht := .o) (fz := false) (c := c_laws_eqRec) follows tysOk (fns_cons S_laws_eqStmt fns_nil) trivial Try.func50 (by kernel_rfl) (by kernel_rfl) (by decide) (by
 intro vals ext k r h
 obtain ⟨a, a_a, t_a, vals, rfl, h1⟩ := av_some h
 obtain ⟨b, a_b, t_b, vals, rfl, h2⟩ := av_some h1
 obtain ⟨rfl, h3⟩ := nl_some h2
 obtain ⟨rfl, h4⟩ := nl_some h3
 exact (E_laws_eqRec a a_a t_a b a_b t_b k).trans h4)
end Go.PI.G
end
noncomputable section
namespace Go.PI.G
open Go Go.PI Go.Proofs

/-! ### 8 loop.example/g00462/laws.szStep -/
def c_laws_szStep : Code := (Try.f8.body).getD .skip
def g_laws_szStep : Env Unit := ⟨tys, [(39, s_laws_szRec)], 0⟩
def laws_szStep (a : Int × (Int × Int × Int × ByteArray × qW × qW × Int × ByteArray × qE × List ByteArray × ByteArray × ByteArray) × Int × Int × Int) (left : Int) (k0 : Int → Res) : Res :=
 laws_szRec a.2.1 left fun (r : Int) =>
  bif decide (r < 0) then
   k0 (-1)
  else
   k0 r
def s_laws_szStep : Sig Unit := ⟨[.look y23 true, .look (.int .i64) false], [false], fun vals ext k => av vals y23 fun a vals => av vals (.int .i64) fun left vals => nl vals <| nl ext <| laws_szStep a left (fun (r0 : Int) => k [⟨(.int .i64), false, r0, []⟩] [] [])⟩
theorem E_laws_szStep (a : Int × (Int × Int × Int × ByteArray × qW × qW × Int × ByteArray × qE × List ByteArray × ByteArray × ByteArray) × Int × Int × Int) (a_a : Bool) (t_a : List Tag) (left : Int) (a_left : Bool) (t_left : List Tag) (k : qK) : funC g_laws_szStep [] .o false Try.f8 [.look y23 true, .look (.int .i64) false] [false] [⟨y23, a_a, a, t_a⟩, ⟨(.int .i64), a_left, left, t_left⟩] [] k = laws_szStep a left (fun (r0 : Int) => k [⟨(.int .i64), false, r0, []⟩] [] []) := by kernel_rfl
theorem S_laws_szStep : Sound Try.prog 8 s_laws_szStep := sound_of (Γ := g_laws_szStep) (X := []) (ht := .o) (fz := false) (c := c_laws_szStep) follows tysOk (fns_cons S_laws_szRec fns_nil) trivial Try.func8 (by kernel_rfl) (by kernel_rfl) (by decide) (by
 intro vals ext k r h
 obtain ⟨a, a_a, t_a, vals, rfl, h1⟩ := av_some h
 obtain ⟨left, a_left, t_left, vals, rfl, h2⟩ := av_some h1
 obtain ⟨rfl, h3⟩ := nl_some h2
 obtain ⟨rfl, h4⟩ := nl_some h3
 exact (E_laws_szStep a a_a t_a left a_left t_left k).trans h4)

/-! ### 10 loop.example/g00462/laws.toStep -/
def c_laws_toStep : Code := (Try.f10.body).getD .skip
def g_laws_toStep : Env Unit := ⟨tys, [(44, s_laws_toRec)], 0⟩
def laws_toStep (a : Int × (Int × Int × Int × ByteArray × qW × qW × Int × ByteArray × qE × List ByteArray × ByteArray × ByteArray) × Int × Int × Int) (k0 : (Int × (Int × Int × Int × ByteArray × qW × qW × Int × ByteArray × qE × List ByteArray × ByteArray × ByteArray) × Int × Int × Int) → Res) : Res :=
 laws_toRec a.2.1 fun (r : Int × Int × Int × ByteArray × qW × qW × Int × ByteArray × qE × List ByteArray × ByteArray × ByteArray) =>
  k0 (a.1, r, a.2.2.1, a.2.2.2.1, a.2.2.2.2)
def s_laws_toStep : Sig Unit := ⟨[.borrow y23 true], [true], fun vals ext k => av vals y23 fun a vals => nl vals <| nl ext <| laws_toStep a (fun (r0 : Int × (Int × Int × Int × ByteArray × qW × qW × Int × ByteArray × qE × List ByteArray × ByteArray × ByteArray) × Int × Int × Int) => k [⟨y23, true, r0, [.O, .O, .O, .O]⟩] [] [])⟩
theorem E_laws_toStep (a : Int × (Int × Int × Int × ByteArray × qW × qW × Int × ByteArray × qE × List ByteArray × ByteArray × ByteArray) × Int × Int × Int) (a_a : Bool) (t_a : List Tag) (k : qK) : funC g_laws_toStep [] .o false Try.f10 [.borrow y23 true] [true] [⟨y23, a_a, a, t_a⟩] [] k = laws_toStep a (fun (r0 : Int × (Int × Int × Int × ByteArray × qW × qW × Int × ByteArray × qE × List ByteArray × ByteArray × ByteArray) × Int × Int × Int) => k [⟨y23, true, r0, [.O, .O, .O, .O]⟩] [] []) := by kernel_rfl
theorem S_laws_toStep : Sound Try.prog 10 s_laws_toStep := sound_of (Γ := g_laws_toStep) (X := []) (ht := .o) (fz := false) (c := c_laws_toStep) follows tysOk (fns_cons S_laws_toRec fns_nil) trivial Try.func10 (by kernel_rfl) (by kernel_rfl) (by decide) (by
 intro vals ext k r h
 obtain ⟨a, a_a, t_a, vals, rfl, h1⟩ := av_some h
 obtain ⟨rfl, h2⟩ := nl_some h1
 obtain ⟨rfl, h3⟩ := nl_some h2
 exact (E_laws_toStep a a_a t_a k).trans h3)

/-! ### 12 loop.example/g00462/laws.eqStep -/
def c_laws_eqStep : Code := (Try.f12.body).getD .skip
def g_laws_eqStep : Env Unit := ⟨tys, [(50, s_laws_eqRec)], 0⟩
def laws_eqStep (a : Int × (Int × Int × Int × ByteArray × qW × qW × Int × ByteArray × qE × List ByteArray × ByteArray × ByteArray) × Int × Int × Int) (b : Int × (Int × Int × Int × ByteArray × qW × qW × Int × ByteArray × qE × List ByteArray × ByteArray × ByteArray) × Int × Int × Int) (k0 : Bool → Res) : Res :=
 bif (a.1 != b.1) then
  k0 false
 else
  laws_eqRec a.2.1 b.2.1 fun (r : Bool) =>
   bif !r then
    k0 false
   else
    bif (a.2.2.1 != b.2.2.1) then
     k0 false
    else
     bif (a.2.2.2.1 != b.2.2.2.1) then
      k0 false
     else
      bif (a.2.2.2.2 != b.2.2.2.2) then
       k0 false
      else
       k0 true
def s_laws_eqStep : Sig Unit := ⟨[.look y23 true, .look y23 true], [false], fun vals ext k => av vals y23 fun a vals => av vals y23 fun b vals => nl vals <| nl ext <| laws_eqStep a b (fun (r0 : Bool) => k [⟨.bool, false, r0, []⟩] [] [])⟩
theorem E_laws_eqStep (a : Int × (Int × Int × Int × ByteArray × qW × qW × Int × ByteArray × qE × List ByteArray × ByteArray × ByteArray) × Int × Int × Int) (a_a : Bool) (t_a : List Tag) (b : Int × (Int × Int × Int × ByteArray × qW × qW × Int × ByteArray × qE × List ByteArray × ByteArray × ByteArray) × Int × Int × Int) (a_b : Bool) (t_b : List Tag) (k : qK) : funC g_laws_eqStep [] .o false Try.f12 [.look y23 true, .look y23 true] [false] [⟨y23, a_a, a, t_a⟩, ⟨y23, a_b, b, t_b⟩] [] k = laws_eqStep a b (fun (r0 : Bool) => k [⟨.bool, false, r0, []⟩] [] []) := by kernel_rfl
theorem S_laws_eqStep : Sound Try.prog 12 s_laws_eqStep := sound_of (Γ := g_laws_eqStep) (X := []) (ht := .o) (fz := false) (c := c_laws_eqStep) follows tysOk (fns_cons S_laws_eqRec fns_nil) trivial Try.func12 (by kernel_rfl) (by kernel_rfl) (by decide) (by
 intro vals ext k r h
 obtain ⟨a, a_a, t_a, vals, rfl, h1⟩ := av_some h
 obtain ⟨b, a_b, t_b, vals, rfl, h2⟩ := av_some h1
 obtain ⟨rfl, h3⟩ := nl_some h2
 obtain ⟨rfl, h4⟩ := nl_some h3
 exact (E_laws_eqStep a a_a t_a b a_b t_b k).trans h4)
end Go.PI.G
end
noncomputable section
namespace Go.PI.G
open Go Go.PI Go.Proofs

/-! ### 3 loop.example/g00462/laws.FnExactStepText -/
def c_laws_FnExactStepText : Code := (Try.f3.body).getD .skip
def g_laws_FnExactStepText : Env Unit := ⟨tys, [(8, s_laws_szStep), (9, s_spec_StepText), (10, s_laws_toStep), (11, s_impl_StepText), (12, s_laws_eqStep)], 0⟩
def laws_FnExactStepText (aS : Int × (Int × Int × Int × ByteArray × qW × qW × Int × ByteArray × qE × List ByteArray × ByteArray × ByteArray) × Int × Int × Int) (k0 : Bool → Res) : Res :=
 laws_szStep aS 1048576 fun (r : Int) =>
  bif decide (r < 0) then
   k0 true
  else
   laws_toStep aS fun (r1 : Int × (Int × Int × Int × ByteArray × qW × qW × Int × ByteArray × qE × List ByteArray × ByteArray × ByteArray) × Int × Int × Int) =>
    spec_StepText r1 fun (r2 : ByteArray) =>
     laws_toStep aS fun (r3 : Int × (Int × Int × Int × ByteArray × qW × qW × Int × ByteArray × qE × List ByteArray × ByteArray × ByteArray) × Int × Int × Int) =>
      impl_StepText r3 fun (r4 : ByteArray) =>
       bif sNe r4 r2 then
        k0 false
       else
        laws_toStep aS fun (r5 : Int × (Int × Int × Int × ByteArray × qW × qW × Int × ByteArray × qE × List ByteArray × ByteArray × ByteArray) × Int × Int × Int) =>
         laws_eqStep r3 r5 fun (r6 : Bool) =>
          bif !r6 then
           k0 false
          else
           k0 true
def s_laws_FnExactStepText : Sig Unit := ⟨[.borrow y23 true], [false], fun vals ext k => av vals y23 fun aS vals => nl vals <| nl ext <| laws_FnExactStepText aS (fun (r0 : Bool) => k [⟨.bool, false, r0, []⟩] [] [])⟩
theorem E_laws_FnExactStepText (aS : Int × (Int × Int × Int × ByteArray × qW × qW × Int × ByteArray × qE × List ByteArray × ByteArray × ByteArray) × Int × Int × Int) (a_aS : Bool) (t_aS : List Tag) (k : qK) : funC g_laws_FnExactStepText [] .o false Try.f3 [.borrow y23 true] [false] [⟨y23, a_aS, aS, t_aS⟩] [] k = laws_FnExactStepText aS (fun (r0 : Bool) => k [⟨.bool, false, r0, []⟩] [] []) := by kernel_rfl
theorem S_laws_FnExactStepText : Sound Try.prog 3 s_laws_FnExactStepText := sound_of (Γ := g_laws_FnExactStepText) (X := []) (ht := .o) (fz := false) (c := c_laws_FnExactStepText) follows tysOk (fns_cons S_laws_szStep (fns_cons S_spec_StepText (fns_cons S_laws_toStep (fns_cons S_impl_StepText (fns_cons S_laws_eqStep fns_nil))))) trivial Try.func3 (by kernel_rfl) (by kernel_rfl) (by decide) (by
 intro vals ext k r h
 obtain ⟨aS, a_aS, t_aS, vals, rfl, h1⟩ := av_some h
 obtain ⟨rfl, h2⟩ := nl_some h1
 obtain ⟨rfl, h3⟩ := nl_some h2
 exact (E_laws_FnExactStepText aS a_aS t_aS k).trans h3)
end Go.PI.G
end
namespace Go.PI.G
open Go Go.PI

abbrev V := Int × Int × ByteArray
theorem wu8_of (n : Int) : wu8 n = n % 256 := by
  unfold wu8 IntKind.wrap
  simp [IntKind.bits, IntKind.signed]
theorem wu8_small {n : Int} (h : 0 ≤ n ∧ n < 256) : wu8 n = n := by rw [wu8_of]; omega
theorem toBytes_len (s : ByteArray) : (toBytes s).length = s.size := by unfold toBytes; simp
theorem ofBytes_size (l : List Int) : (ofBytes l).size = l.length := by
  show ((l.map fun n => UInt8.ofNat n.toNat).toArray).size = _
  simp
/-- A row of bytes. -/
def isB (l : List Int) : Prop := ∀ x ∈ l, 0 ≤ x ∧ x < 256
theorem toBytes_isB (s : ByteArray) : isB (toBytes s) := by
  intro x hx
  unfold toBytes at hx
  obtain ⟨b, _, rfl⟩ := List.mem_map.1 hx
  have := UInt8.toNat_lt b
  omega
theorem ofBytes_toBytes (s : ByteArray) : ofBytes (toBytes s) = s := by
  unfold ofBytes toBytes
  rw [List.map_map]
  have : (fun b : UInt8 => b) = (fun n : Int => UInt8.ofNat n.toNat) ∘ fun b : UInt8 => (b.toNat : Int) := by
    funext b; simp
  rw [← this]
  simp
theorem toBytes_ofBytes {l : List Int} (h : isB l) : toBytes (ofBytes l) = l := by
  unfold ofBytes toBytes
  simp only [List.map_map]
  have : l.map ((fun b : UInt8 => (b.toNat : Int)) ∘ fun n : Int => UInt8.ofNat n.toNat) = l.map id := by
    refine List.map_congr_left fun x hx => ?_
    have := h x hx
    simp only [Function.comp, id]
    rw [UInt8.toNat_ofNat']
    omega
  rw [this, List.map_id]
theorem sEq_iff (a b : ByteArray) : sEq a b = true ↔ a = b := by
  unfold sEq
  rw [beq_iff_eq]
  constructor
  · intro h
    rw [ByteArray.ext_iff]
    have h1 : a.toList = a.data.toList := by rw [ByteArray.toList_eq]
    have h2 : b.toList = b.data.toList := by rw [ByteArray.toList_eq]
    rw [h1, h2] at h
    exact Array.toList_inj.1 h
  · rintro rfl; rfl
theorem sNe_iff (a b : ByteArray) : sNe a b = false ↔ a = b := by
  unfold sNe
  rw [Bool.not_eq_false']
  exact sEq_iff a b
theorem ofBytes_inj {l m : List Int} (hl : isB l) (hm : isB m) (h : ofBytes l = ofBytes m) : l = m := by
  rw [← toBytes_ofBytes hl, h, toBytes_ofBytes hm]

/-! ### right values -/
def numB (n : Int) : Bool := decide (-1099511627775 ≤ n ∧ n ≤ 1099511627775)
def valB (v : V) : Bool :=
  bif v.1 == 0 then (v.2.1 == 0) && sEq v.2.2 eS
  else bif v.1 == 1 then ((v.2.1 == 0) || (v.2.1 == 1)) && sEq v.2.2 eS
  else bif v.1 == 2 then numB v.2.1 && sEq v.2.2 eS
  else bif v.1 == 3 then (v.2.1 == 0) && decide (nI v.2.2.size ≤ 30)
  else false
theorem or_within (x : Int) : decide (0 ≤ x ∧ x ≤ 1) = ((x == 0) || (x == 1)) := by
  by_cases h : 0 ≤ x ∧ x ≤ 1
  · rw [decide_eq_true h]
    have : x = 0 ∨ x = 1 := by omega
    rcases this with rfl | rfl <;> rfl
  · rw [decide_eq_false h]
    have h1 : (x == 0) = false := by simp; omega
    have h2 : (x == 1) = false := by simp; omega
    rw [h1, h2]; rfl
/-- What a right value is. -/
theorem valB_cases {v : V} (h : valB v = true) : v = (0, 0, eS) ∨ (∃ n, (n = 0 ∨ n = 1) ∧ v = (1, n, eS)) ∨ (∃ n, (-1099511627775 ≤ n ∧ n ≤ 1099511627775) ∧ v = (2, n, eS)) ∨ ∃ s : ByteArray, s.size ≤ 30 ∧ v = (3, 0, s) := by
  obtain ⟨t, n, s⟩ := v
  unfold valB at h
  simp only at h
  cases h0 : t == 0
  · cases h1 : t == 1
    · cases h2 : t == 2
      · cases h3 : t == 3
        · rw [h0, h1, h2, h3] at h; cases h
        · rw [h0, h1, h2, h3] at h
          simp only [cond_false, cond_true, Bool.and_eq_true, beq_iff_eq, decide_eq_true_eq] at h h3
          obtain ⟨rfl, h⟩ := h
          subst h3
          exact .inr (.inr (.inr ⟨s, by unfold nI at h; omega, rfl⟩))
      · rw [h0, h1, h2] at h
        simp only [cond_false, cond_true, Bool.and_eq_true, beq_iff_eq] at h h2
        obtain ⟨h, hs⟩ := h
        rw [sEq_iff] at hs
        subst hs; subst h2
        exact .inr (.inr (.inl ⟨n, of_decide_eq_true h, rfl⟩))
    · rw [h0, h1] at h
      simp only [cond_false, cond_true, Bool.and_eq_true, Bool.or_eq_true, beq_iff_eq] at h h1
      obtain ⟨h, hs⟩ := h
      rw [sEq_iff] at hs
      subst hs; subst h1
      exact .inr (.inl ⟨n, h, rfl⟩)
  · rw [h0] at h
    simp only [cond_true, Bool.and_eq_true, beq_iff_eq] at h h0
    obtain ⟨h, hs⟩ := h
    rw [sEq_iff] at hs
    subst hs; subst h0; subst h
    exact .inl rfl
theorem valB_size {v : V} (h : valB v = true) : v.2.2.size ≤ 30 := by
  rcases valB_cases h with rfl | ⟨n, _, rfl⟩ | ⟨n, _, rfl⟩ | ⟨s, hs, rfl⟩
  · show (0 : Nat) ≤ 30; omega
  · show (0 : Nat) ≤ 30; omega
  · show (0 : Nat) ≤ 30; omega
  · exact hs

/-! ### bytes -/
/-- A number in so many bytes. -/
def be (n : Nat) : Nat → List Int
  | 0 => []
  | s + 1 => ((n / 256 ^ s % 256 : Nat) : Int) :: be n s
theorem be_len (n : Nat) : (s : Nat) → (be n s).length = s
  | 0 => rfl
  | s + 1 => by simp [be, be_len n s]
theorem be_isB (n : Nat) : (s : Nat) → isB (be n s)
  | 0 => by intro x hx; cases hx
  | s + 1 => by
    intro x hx
    rcases List.mem_cons.1 hx with rfl | hx
    · omega
    · exact be_isB n s x hx
theorem isB_append {l m : List Int} (hl : isB l) (hm : isB m) : isB (l ++ m) := fun x hx => (List.mem_append.1 hx).elim (hl x) (hm x)
theorem isB_cons {x : Int} {l : List Int} (hx : 0 ≤ x ∧ x < 256) (hl : isB l) : isB (x :: l) := fun y hy => (List.mem_cons.1 hy).elim (fun h => h ▸ hx) (hl y)
theorem isB_nil : isB [] := fun _ h => by cases h
def wB (v : V) : List Int :=
  bif v.1 == 1 then [1, v.2.1]
  else bif v.1 == 2 then 2 :: (bif decide (v.2.1 < 0) then 1 else 0) :: be v.2.1.natAbs 6
  else bif v.1 == 3 then 3 :: nI v.2.2.size :: toBytes v.2.2
  else [0]
def rowW (l : List V) : List Int := nI l.length :: l.flatMap wB
theorem wB_len {v : V} (h : valB v = true) : (wB v).length ≤ 32 := by
  rcases valB_cases h with rfl | ⟨n, _, rfl⟩ | ⟨n, _, rfl⟩ | ⟨s, hs, rfl⟩
  · show (1 : Nat) ≤ 32; omega
  · show (2 : Nat) ≤ 32; omega
  · show (2 :: (bif decide (n < 0) then 1 else 0) :: be n.natAbs 6).length ≤ 32
    simp [be_len]
  · show (3 :: nI s.size :: toBytes s).length ≤ 32
    simp [toBytes_len]; omega
theorem wB_isB {v : V} (h : valB v = true) : isB (wB v) := by
  rcases valB_cases h with rfl | ⟨n, hn, rfl⟩ | ⟨n, _, rfl⟩ | ⟨s, hs, rfl⟩
  · exact isB_cons (by omega) isB_nil
  · exact isB_cons (by omega) (isB_cons (x := n) (by omega) isB_nil)
  · refine isB_cons (x := 2) (by omega) (isB_cons ?_ (be_isB _ _))
    cases decide (n < 0) <;> simp
  · exact isB_cons (x := 3) (by omega) (isB_cons (x := nI s.size) (by unfold nI; omega) (toBytes_isB s))
theorem flat_len : (l : List V) → (∀ v ∈ l, valB v = true) → (l.flatMap wB).length ≤ 32 * l.length
  | [], _ => by simp
  | v :: l, h => by
    have h1 := wB_len (h v (by simp))
    have h2 := flat_len l fun v hv => h v (List.mem_cons_of_mem _ hv)
    simp only [List.flatMap_cons, List.length_append, List.length_cons]
    omega
theorem flat_isB : (l : List V) → (∀ v ∈ l, valB v = true) → isB (l.flatMap wB)
  | [], _ => isB_nil
  | v :: l, h => by
    rw [List.flatMap_cons]
    exact isB_append (wB_isB (h v (by simp))) (flat_isB l fun v hv => h v (List.mem_cons_of_mem _ hv))
theorem rowW_isB {l : List V} (hl : l.length ≤ 255) (h : ∀ v ∈ l, valB v = true) : isB (rowW l) := isB_cons (by unfold nI; omega) (flat_isB l h)
end Go.PI.G
namespace Go.PI.G
open Go Go.PI

/-- How much a value holds. -/
def msr : (τ : Ty) → El τ → Nat
  | .str, s => ByteArray.size s
  | .slice e, l => List.length (α := El e) l + (List.map (msr e) l).sum
  | .pair a b, x => msr a x.1 + msr b x.2
  | .int _, _ => 0
  | .bool, _ => 0
  | .unit, _ => 0
/-- How many marks it takes where it stands in a row; where it is given by value. -/
def wgt : (τ : Ty) → El τ → Nat
  | .str, _ => 1
  | .slice e, l => (List.map (wgt e) l).sum
  | .pair a b, x => wgt a x.1 + wgt b x.2
  | .int _, _ => 1
  | .bool, _ => 1
  | .unit, _ => 0
def wgtT : (τ : Ty) → El τ → Nat
  | .slice e, l => (List.map (wgt e) l).sum
  | .pair a b, x => wgtT a x.1 + wgtT b x.2
  | .str, _ => 0
  | .int _, _ => 0
  | .bool, _ => 0
  | .unit, _ => 0
def width : Ty → Nat
  | .slice e => width e
  | .pair a b => width a + width b
  | .unit => 0
  | _ => 1

theorem sum_le_mul {α : Type} (f g : α → Nat) (c : Nat) (h : ∀ x, f x ≤ (g x + 1) * c) : (l : List α) → (l.map f).sum ≤ (l.length + (l.map g).sum) * c
  | [] => by simp
  | x :: l => by
    have h1 := h x
    have h2 := sum_le_mul f g c h l
    simp only [List.map_cons, List.sum_cons, List.length_cons]
    have : (l.length + 1 + (g x + (l.map g).sum)) * c = (g x + 1) * c + (l.length + (l.map g).sum) * c := by
      rw [← Nat.add_mul]; congr 1; omega
    omega
theorem wgt_le : (τ : Ty) → (x : El τ) → wgt τ x ≤ (msr τ x + 1) * width τ
  | .str, _ => by simp [wgt, width]
  | .int _, _ => by simp [wgt, width]
  | .bool, _ => by simp [wgt, width]
  | .unit, _ => by simp [wgt]
  | .pair a b, x => by
    have h1 := wgt_le a x.1
    have h2 := wgt_le b x.2
    simp only [wgt, msr, width, Nat.mul_add]
    have e1 : (msr a x.1 + 1) * width a ≤ (msr a x.1 + msr b x.2 + 1) * width a := Nat.mul_le_mul_right _ (by omega)
    have e2 : (msr b x.2 + 1) * width b ≤ (msr a x.1 + msr b x.2 + 1) * width b := Nat.mul_le_mul_right _ (by omega)
    omega
  | .slice e, l => by
    have h1 := sum_le_mul (wgt e) (msr e) (width e) (wgt_le e) l
    simp only [wgt, msr, width]
    have e1 : (List.length (α := El e) l + (List.map (msr e) l).sum) * width e ≤ (List.length (α := El e) l + (List.map (msr e) l).sum + 1) * width e := Nat.mul_le_mul_right _ (by omega)
    exact Nat.le_trans h1 e1
theorem wgtT_le_wgt : (τ : Ty) → (x : El τ) → wgtT τ x ≤ wgt τ x
  | .str, _ => Nat.zero_le _
  | .int _, _ => Nat.zero_le _
  | .bool, _ => Nat.zero_le _
  | .unit, _ => Nat.le_refl _
  | .pair a b, x => Nat.add_le_add (wgtT_le_wgt a x.1) (wgtT_le_wgt b x.2)
  | .slice e, l => Nat.le_refl _

theorem msr_fst {a b : Ty} {x : El (.pair a b)} : msr a x.1 ≤ msr (.pair a b) x := Nat.le_add_right _ _
theorem msr_snd {a b : Ty} {x : El (.pair a b)} : msr b x.2 ≤ msr (.pair a b) x := Nat.le_add_left _ _

/-! ### marks -/
def dgt (x : Int) : ByteArray := ofBytes [wu8 (wi64 (48 + x))]
theorem dgt_size (x : Int) : (dgt x).size = 1 := rfl
def digt (n : Nat) : ByteArray := if h : n < 10 then dgt n else digt (n / 10) ++ dgt ((n % 10 : Nat) : Int)
termination_by n
decreasing_by omega
/-- The text of a mark. -/
def mT (k : Int) : ByteArray := (⟨#[109]⟩ : ByteArray) ++ digt k.toNat
def mk : (τ : Ty) → El τ → Int → El τ
  | .str, _, k => mT k
  | .slice e, l, k => mkL (wgt e) (mk e) l k
  | .pair a b, x, k => (mk a x.1 k, mk b x.2 (k + (wgt a x.1 : Int)))
  | .int .u8, _, k => wu8 k
  | .int _, _, k => k
  | .bool, _, k => (Int.tmod k 3 == 0)
  | .unit, x, _ => x
def mkT : (τ : Ty) → El τ → Int → El τ
  | .slice e, l, k => mkL (wgt e) (mk e) l k
  | .pair a b, x, k => (mkT a x.1 k, mkT b x.2 (k + (wgtT a x.1 : Int)))
  | .str, x, _ => x
  | .int _, x, _ => x
  | .bool, x, _ => x
  | .unit, x, _ => x

theorem msr_slice (e : Ty) (l : List (El e)) : msr (.slice e) l = l.length + (l.map (msr e)).sum := rfl
theorem msr_len {e : Ty} {l : List (El e)} {n : Nat} (h : msr (.slice e) l ≤ n) : l.length ≤ n := by
  have : msr (.slice e) l = l.length + (l.map (msr e)).sum := rfl
  omega
theorem msr_mem {e : Ty} {l : List (El e)} {n : Nat} (h : msr (.slice e) l ≤ n) {x : El e} (hx : x ∈ l) : msr e x ≤ n := by
  have h1 : msr (.slice e) l = l.length + (l.map (msr e)).sum := rfl
  have := le_sum (msr e) l x hx
  omega
/-- A small value: all its marks are numbers without trouble. -/
theorem wgt_small {τ : Ty} {x : El τ} (hw : width τ ≤ 200) (h : msr τ x ≤ 1048576) : wgt τ x ≤ 209715400 := by
  have h1 := wgt_le τ x
  have h2 : (msr τ x + 1) * width τ ≤ 1048577 * 200 := Nat.mul_le_mul (by omega) hw
  omega
theorem wgt_slice (e : Ty) (l : List (El e)) : wgt (.slice e) l = (l.map (wgt e)).sum := rfl
theorem wgt_pair (a b : Ty) (x : El (.pair a b)) : wgt (.pair a b) x = wgt a x.1 + wgt b x.2 := rfl
theorem wgt_int (k : IntKind) (x : El (.int k)) : wgt (.int k) x = 1 := rfl
theorem wgt_bool (x : El .bool) : wgt .bool x = 1 := rfl
theorem wgt_str (x : El .str) : wgt .str x = 1 := rfl
theorem mk_pair (a b : Ty) (x : El (.pair a b)) (k : Int) : mk (.pair a b) x k = (mk a x.1 k, mk b x.2 (k + (wgt a x.1 : Int))) := rfl
theorem mk_slice (e : Ty) (l : El (.slice e)) (k : Int) : mk (.slice e) l k = mkL (wgt e) (mk e) l k := rfl
theorem mk_i64 (x : El (.int .i64)) (k : Int) : mk (.int .i64) x k = k := rfl
theorem mk_u8 (x : El (.int .u8)) (k : Int) : mk (.int .u8) x k = wu8 k := rfl
theorem mk_bool (x : El .bool) (k : Int) : mk .bool x k = (Int.tmod k 3 == 0) := rfl
theorem mk_str (x : El .str) (k : Int) : mk .str x k = mT k := rfl
theorem mkT_pair (a b : Ty) (x : El (.pair a b)) (k : Int) : mkT (.pair a b) x k = (mkT a x.1 k, mkT b x.2 (k + (wgtT a x.1 : Int))) := rfl
theorem mkT_slice (e : Ty) (l : El (.slice e)) (k : Int) : mkT (.slice e) l k = mkL (wgt e) (mk e) l k := rfl
theorem mkT_int (i : IntKind) (x : El (.int i)) (k : Int) : mkT (.int i) x k = x := rfl
theorem mkT_bool (x : El .bool) (k : Int) : mkT .bool x k = x := rfl
theorem mkT_str (x : El .str) (k : Int) : mkT .str x k = x := rfl
theorem wgtT_pair (a b : Ty) (x : El (.pair a b)) : wgtT (.pair a b) x = wgtT a x.1 + wgtT b x.2 := rfl
theorem wgtT_slice (e : Ty) (l : El (.slice e)) : wgtT (.slice e) l = wgt (.slice e) l := rfl
theorem wgtT_int (i : IntKind) (x : El (.int i)) : wgtT (.int i) x = 0 := rfl
theorem wgtT_bool (x : El .bool) : wgtT .bool x = 0 := rfl
theorem wgtT_str (x : El .str) : wgtT .str x = 0 := rfl
theorem nth_upd {α : Type} (z : α) (l : List α) (i : Nat) (v : α) (h : i < l.length) : nth z (upd l (i : Int) v) (i : Int) = v := by
  rw [upd_nat, nth_nat _ _ _ (by simpa using h)]; simp
theorem upd_upd {α : Type} (l : List α) (i : Int) (u v : α) : upd (upd l i u) i v = upd l i v := by
  unfold upd; simp
theorem upd_len {α : Type} (l : List α) (i : Int) (v : α) : (upd l i v).length = l.length := by unfold upd; simp
theorem upd_eq {α : Type} (l : List α) (i : Nat) (v w : α) (h : v = w) : upd l (i : Int) v = l.set i w := by rw [upd_nat, h]
end Go.PI.G
namespace Go.PI.G
open Go Go.PI

theorem szR_zero {left : Int} (h : 0 ≤ left) : szR left 0 = left := by unfold szR; rw [if_pos (by omega)]; omega
/-- A budget less a text, less a part; what is left goes on. -/
theorem sz_str {left : Int} {n rest : Nat} {F : Int → Res} {k : Int → Res} (h0 : 0 ≤ left) (h1 : left ≤ 1048576) (hn : n ≤ maxLen) (hF : (n : Int) ≤ left → F (left - n) = k (szR (left - n) rest)) :
    (bif decide (wi64 (left - nI n) < 0) then k (-1) else F (wi64 (left - nI n))) = k (szR left (n + rest)) := by
  unfold maxLen at hn
  rw [wi64_of (by unfold nI; omega) (by unfold nI; omega)]
  unfold nI
  by_cases h : (n : Int) ≤ left
  · rw [dec_lt_f (by omega), cond_false, hF h, szR_step h]
  · rw [dec_lt_t (by omega), cond_true, szR_stop h]
theorem sz_sub {left : Int} {n rest : Nat} {F : Int → Res} {k : Int → Res} (h0 : 0 ≤ left) (h1 : left ≤ 1048576) (hF : (n : Int) ≤ left → F (left - n) = k (szR (left - n) rest)) :
    (bif decide (szR left n < 0) then k (-1) else F (szR left n)) = k (szR left (n + rest)) := by
  by_cases h : (n : Int) ≤ left
  · rw [szR_pos h, dec_lt_f (by omega), cond_false, hF h, szR_step h]
  · rw [szR_neg h, dec_lt_t (by omega), cond_true, szR_stop h]
theorem sz_end {left : Int} {k : Int → Res} (h0 : 0 ≤ left) : k left = k (szR left 0) := by rw [szR_zero h0]

theorem inb_nat {i n : Nat} (h : i < n) : inb (i : Int) n = true := inb_of (by omega) (by omega)
theorem wi64_in {n : Int} (h : -9223372036854775808 ≤ n ∧ n < 9223372036854775808) : wi64 n = n := wi64_of h.1 h.2
theorem tdiv_nat (n : Nat) : Int.tdiv (n : Int) 10 = ((n / 10 : Nat) : Int) := by
  rw [Int.tdiv_eq_ediv_of_nonneg (by omega)]; omega
theorem tmod_nat (n : Nat) : Int.tmod (n : Int) 10 = ((n % 10 : Nat) : Int) := by
  rw [Int.tmod_eq_emod_of_nonneg (by omega)]; omega
theorem digt_lo {n : Nat} (h : n < 10) : digt n = dgt n := by rw [digt, dif_pos h]
theorem digt_hi {n : Nat} (h : ¬ n < 10) : digt n = digt (n / 10) ++ dgt ((n % 10 : Nat) : Int) := by rw [digt, dif_neg h]
theorem digt_size : ∀ (d n : Nat), n < 10 ^ (d + 1) → (digt n).size ≤ d + 1
  | 0, n, h => by rw [digt_lo (by omega), dgt_size]; exact Nat.le_refl _
  | d + 1, n, h => by
    by_cases h1 : n < 10
    · rw [digt_lo h1, dgt_size]; omega
    · rw [digt_hi h1, ByteArray.size_append, dgt_size]
      have : n / 10 < 10 ^ (d + 1) := Nat.div_lt_of_lt_mul (by rw [Nat.pow_succ] at h; omega)
      have := digt_size d (n / 10) this
      omega
theorem eS_app (s : ByteArray) : s ++ eS = s := by
  show s ++ ByteArray.empty = s
  simp
theorem app_eS (s : ByteArray) : eS ++ s = s := by
  show ByteArray.empty ++ s = s
  simp
end Go.PI.G
namespace Go.PI.G
open Go Go.PI

abbrev C := ByteArray × Int × Bool × Bool × V
abbrev T := ByteArray × List C × List ByteArray
abbrev DB := List T × List (List (List V))
abbrev yV : Ty := .pair (.int .i64) (.pair (.int .i64) .str)
abbrev yC : Ty := .pair .str (.pair (.int .i64) (.pair .bool (.pair .bool yV)))
abbrev yT : Ty := .pair .str (.pair (.slice yC) (.slice .str))
abbrev yDB : Ty := .pair (.slice yT) (.slice (.slice (.slice yV)))
abbrev zV : V := (0, 0, eS)
abbrev zC : C := (eS, 0, false, false, 0, 0, eS)
abbrev zT : T := (eS, [], [])

theorem idxI_range {α : Type} (p : α → Bool) (l : List α) : -1 ≤ idxI p l ∧ idxI p l < (l.length : Int) := by
  unfold idxI
  cases h : l.findIdx? p with
  | none => simp only []; omega
  | some i =>
    have := (List.findIdx?_eq_some_iff_findIdx_eq.1 h).1
    simp only []; omega
theorem anyI_congr {α : Type} {f g : Nat → α → Bool} : (l : List α) → (i : Nat) → (∀ (j : Nat) (h : j < l.length), f (i + j) l[j] = g (i + j) l[j]) → anyI f i l = anyI g i l
  | [], _, _ => rfl
  | x :: l, i, h => by
    simp only [anyI]
    have h0 : f i x = g i x := h 0 (by simp)
    have h1 := anyI_congr (f := f) (g := g) l (i + 1) fun j hj => by
      have := h (j + 1) (by simpa using hj)
      rw [show i + 1 + j = i + (j + 1) by omega]
      simpa using this
    rw [h0, h1]
theorem anyI_false {α : Type} {f : Nat → α → Bool} : (l : List α) → (i : Nat) → anyI f i l = false → ∀ (j : Nat) (h : j < l.length), f (i + j) l[j] = false
  | [], _, _, j, h => by simp at h
  | x :: l, i, h, j, hj => by
    simp only [anyI, Bool.or_eq_false_iff] at h
    cases j with
    | zero => simpa using h.1
    | succ j =>
      have := anyI_false l (i + 1) h.2 j (by simpa using hj)
      rw [show i + (j + 1) = i + 1 + j by omega]
      simpa using this
theorem anyI_eq_any {α : Type} (f : α → Bool) : (l : List α) → (i : Nat) → anyI (fun _ x => f x) i l = l.any f
  | [], _ => rfl
  | x :: l, i => by simp only [anyI, List.any_cons]; rw [anyI_eq_any f l]

/-! ### words, values -/
def wordB (s : ByteArray) : Bool := !((toBytes s).any fun b => decide (b < 97) || decide (b > 122)) && (decide (1 ≤ s.size) && decide (s.size ≤ 8))
def veq (a b : V) : Bool := (a.1 == b.1) && ((a.2.1 == b.2.1) && sEq a.2.2 b.2.2)
theorem veq_iff (a b : V) : veq a b = true ↔ a = b := by
  obtain ⟨a1, a2, a3⟩ := a
  obtain ⟨b1, b2, b3⟩ := b
  unfold veq
  simp only [Bool.and_eq_true, beq_iff_eq, sEq_iff, Prod.mk.injEq]
def vlt (a b : V) : Bool := valB a && (valB b && (bif a.1 != b.1 then decide (a.1 < b.1) else bif a.2.1 != b.2.1 then decide (a.2.1 < b.2.1) else sLt a.2.2 b.2.2))

/-! ### columns, tables -/
def nullB (v : V) : Bool := (v.1 == 0) && ((v.2.1 == 0) && sEq v.2.2 eS)
def colB (c : C) : Bool := wordB c.1 && (decide (1 ≤ c.2.1 ∧ c.2.1 ≤ 3) && (valB c.2.2.2.2 && (bif c.2.2.2.1 then (c.2.2.2.2.1 == c.2.1) || ((c.2.2.2.2.1 == 0) && !c.2.2.1) else nullB c.2.2.2.2)))
def colAt (l : List C) (n : ByteArray) : Int := idxI (fun c => sEq c.1 n) l
theorem colAt_range (l : List C) (n : ByteArray) : -1 ≤ colAt l n ∧ colAt l n < (l.length : Int) := idxI_range _ _
theorem valB_null : valB (0, 0, eS) = true := by
  show (((0 : Int) == 0) && sEq eS eS) = true
  rw [sEq_self]; rfl
theorem nullB_null : nullB (0, 0, eS) = true := by
  show (((0 : Int) == 0) && (((0 : Int) == 0) && sEq eS eS)) = true
  rw [sEq_self]; rfl
def keysUp (l : List C) : Int → List ByteArray → Bool
  | _, [] => true
  | last, k :: ks => !decide (colAt l k ≤ last) && ((nth zC l (colAt l k)).2.2.1 && keysUp l (colAt l k) ks)
def colsB (l : List C) : Bool := !anyI (fun i c => !colB c || (colAt l c.1 != (i : Int))) 0 l
def tabB (t : T) : Bool := (wordB t.1 && (decide (1 ≤ t.2.1.length) && (decide (t.2.1.length ≤ 8) && decide (1 ≤ t.2.2.length)))) && (colsB t.2.1 && keysUp t.2.1 (-1) t.2.2)
def tabAt (l : List T) (n : ByteArray) : Int := idxI (fun t => sEq t.1 n) l
def catB (c : List T) : Bool := decide (c.length ≤ 6) && !anyI (fun i t => !tabB t || (decide (0 < i) && sGe (nth zT c ((i : Int) - 1)).1 t.1)) 0 c

/-! ### rows, stores -/
def fits (c : C) (v : V) : Bool := valB v && ((v.1 == c.2.1) || ((v.1 == 0) && !c.2.2.1))
def rowB (l : List C) (r : List V) : Bool := decide (r.length = l.length) && !anyI (fun i c => !fits c (nth zV r (i : Int))) 0 l
def keyV (t : T) (r : List V) : List V := t.2.2.map fun k => nth zV r (colAt t.2.1 k)
def klt : List V → List V → Bool
  | [], [] => false
  | [], _ :: _ => true
  | _ :: _, [] => false
  | x :: xs, y :: ys => bif veq x y then klt xs ys else vlt x y
def rowsB (t : T) (l : List (List V)) : Bool := tabB t && (decide (l.length ≤ 60) && !anyI (fun i r => !rowB t.2.1 r || (decide (0 < i) && !klt (keyV t (nth [] l ((i : Int) - 1))) (keyV t r))) 0 l)
def dbB (d : DB) : Bool := catB d.1 && (decide (d.2.length = d.1.length) && !anyI (fun i t => !rowsB t (nth [] d.2 (i : Int))) 0 d.1)
def keysV (d : DB) (n : ByteArray) : List (List V) := bif dbB d && !decide (tabAt d.1 n < 0) then (nth [] d.2 (tabAt d.1 n)).map (keyV (nth zT d.1 (tabAt d.1 n))) else []

/-! ### what a right table has -/
theorem tabB_parts {t : T} (h : tabB t = true) : wordB t.1 = true ∧ 1 ≤ t.2.1.length ∧ t.2.1.length ≤ 8 ∧ 1 ≤ t.2.2.length ∧ colsB t.2.1 = true ∧ keysUp t.2.1 (-1) t.2.2 = true := by
  unfold tabB at h
  simp only [Bool.and_eq_true, decide_eq_true_eq] at h
  exact ⟨h.1.1, h.1.2.1, h.1.2.2.1, h.1.2.2.2, h.2.1, h.2.2⟩
theorem keysUp_range {l : List C} : (ks : List ByteArray) → (last : Int) → -1 ≤ last → keysUp l last ks = true → ∀ k ∈ ks, 0 ≤ colAt l k ∧ colAt l k < (l.length : Int)
  | [], _, _, _, k, hk => by cases hk
  | q :: ks, last, h0, h, k, hk => by
    simp only [keysUp, Bool.and_eq_true, Bool.not_eq_true', decide_eq_false_iff_not] at h
    have h1 := (idxI_range (fun c : C => sEq c.1 q) l).2
    have h2 : 0 ≤ colAt l q := by omega
    rcases List.mem_cons.1 hk with rfl | hk
    · exact ⟨h2, h1⟩
    · exact keysUp_range ks (colAt l q) (by omega) h.2.2 k hk
theorem colB_ty {c : C} (h : colB c = true) : 1 ≤ c.2.1 ∧ c.2.1 ≤ 3 := by
  unfold colB at h
  simp only [Bool.and_eq_true, decide_eq_true_eq] at h
  exact h.2.1
theorem colsB_get {l : List C} (h : colsB l = true) (i : Nat) (hi : i < l.length) : colB l[i] = true := by
  unfold colsB at h
  have := anyI_false l 0 (by simpa using h) i hi
  simp only [Bool.or_eq_false_iff, Bool.not_eq_false'] at this
  exact this.1
end Go.PI.G
namespace Go.PI.G
open Go Go.PI

def cutG (b : Int) : List Int → List Int → List (List Int)
  | pre, [] => [pre]
  | pre, x :: xs => if x = b then pre :: cutG b [] xs else cutG b (pre ++ [x]) xs
def tlJ (b : Int) : List (List Int) → List Int
  | [] => []
  | w :: ws => b :: (w ++ tlJ b ws)
def joinL (b : Int) : List (List Int) → List Int
  | [] => []
  | w :: ws => w ++ tlJ b ws

theorem cutG_cons (b : Int) : (l pre : List Int) → ∃ w ws, cutG b pre l = w :: ws
  | [], pre => ⟨pre, [], rfl⟩
  | x :: xs, pre => by
    simp only [cutG]
    by_cases h : x = b
    · rw [if_pos h]; exact ⟨_, _, rfl⟩
    · rw [if_neg h]; exact cutG_cons b xs _
theorem join_cut (b : Int) : (l pre : List Int) → joinL b (cutG b pre l) = pre ++ l
  | [], pre => by simp [cutG, joinL, tlJ]
  | x :: xs, pre => by
    simp only [cutG]
    by_cases h : x = b
    · rw [if_pos h]
      have ih := join_cut b xs []
      obtain ⟨w, ws, hw⟩ := cutG_cons b xs []
      rw [hw] at ih ⊢
      simp only [joinL, tlJ, List.nil_append] at ih ⊢
      rw [ih, h]
    · rw [if_neg h, join_cut b xs]; simp
theorem cut_pre (b : Int) (r : List Int) : (w pre : List Int) → b ∉ w → cutG b pre (w ++ r) = cutG b (pre ++ w) r
  | [], pre, _ => by simp
  | x :: w, pre, h => by
    have hx : x ≠ b := fun e => h (by rw [e]; simp)
    simp only [List.cons_append, cutG]
    rw [if_neg hx, cut_pre b r w _ fun hm => h (List.mem_cons_of_mem _ hm)]
    simp
theorem cut_join (b : Int) : (ws : List (List Int)) → (w pre : List Int) → b ∉ w → (∀ v ∈ ws, b ∉ v) → cutG b pre (w ++ tlJ b ws) = (pre ++ w) :: ws
  | [], w, pre, h, _ => by
    have := cut_pre b [] w pre h
    simp only [List.append_nil] at this
    simp only [tlJ, List.append_nil, this, cutG]
  | v :: vs, w, pre, h, hv => by
    rw [cut_pre b _ w pre h]
    simp only [tlJ, cutG, if_pos]
    rw [cut_join b vs v [] (hv v (by simp)) fun u hu => hv u (List.mem_cons_of_mem _ hu)]
    simp
theorem cut_free (b : Int) : (l pre : List Int) → b ∉ pre → ∀ w ∈ cutG b pre l, b ∉ w
  | [], pre, h, w, hw => by
    simp only [cutG, List.mem_singleton] at hw
    subst hw; exact h
  | x :: xs, pre, h, w, hw => by
    simp only [cutG] at hw
    by_cases hx : x = b
    · rw [if_pos hx] at hw
      rcases List.mem_cons.1 hw with rfl | hw
      · exact h
      · exact cut_free b xs [] (by simp) w hw
    · rw [if_neg hx] at hw
      refine cut_free b xs _ ?_ w hw
      simp only [List.mem_append, List.mem_singleton, not_or]
      exact ⟨h, fun e => hx e.symm⟩
theorem cut_len (b : Int) : (l pre : List Int) → (cutG b pre l).length ≤ l.length + 1
  | [], pre => by simp [cutG]
  | x :: xs, pre => by
    simp only [cutG]
    by_cases hx : x = b
    · rw [if_pos hx]
      have := cut_len b xs []
      simp only [List.length_cons]; omega
    · rw [if_neg hx]
      have := cut_len b xs (pre ++ [x])
      simp only [List.length_cons]; omega
theorem cut_size (b : Int) : (l pre : List Int) → ∀ w ∈ cutG b pre l, w.length ≤ pre.length + l.length
  | [], pre, w, hw => by
    simp only [cutG, List.mem_singleton] at hw
    subst hw; simp
  | x :: xs, pre, w, hw => by
    simp only [cutG] at hw
    by_cases hx : x = b
    · rw [if_pos hx] at hw
      rcases List.mem_cons.1 hw with rfl | hw
      · simp
      · have := cut_size b xs [] w hw
        simp only [List.length_nil, List.length_cons] at this ⊢; omega
    · rw [if_neg hx] at hw
      have := cut_size b xs (pre ++ [x]) w hw
      rw [List.length_append] at this
      simp only [List.length_cons, List.length_nil] at this ⊢; omega
theorem cut_isB (b : Int) : (l pre : List Int) → isB pre → isB l → ∀ w ∈ cutG b pre l, isB w
  | [], pre, h, _, w, hw => by
    simp only [cutG, List.mem_singleton] at hw
    subst hw; exact h
  | x :: xs, pre, h, hl, w, hw => by
    simp only [cutG] at hw
    have hx' : isB xs := fun y hy => hl y (List.mem_cons_of_mem _ hy)
    by_cases hx : x = b
    · rw [if_pos hx] at hw
      rcases List.mem_cons.1 hw with rfl | hw
      · exact h
      · exact cut_isB b xs [] isB_nil hx' w hw
    · rw [if_neg hx] at hw
      exact cut_isB b xs _ (isB_append h (isB_cons (hl x (by simp)) isB_nil)) hx' w hw

/-! ### as strings -/
theorem toBytes_app (a b : ByteArray) : toBytes (a ++ b) = toBytes a ++ toBytes b := by
  unfold toBytes
  have : (a ++ b).data = a.data ++ b.data := ByteArray.data_append
  rw [this]
  simp
theorem toBytes_inj {a b : ByteArray} (h : toBytes a = toBytes b) : a = b := by
  rw [← ofBytes_toBytes a, h, ofBytes_toBytes]
theorem ofBytes_app (a b : List Int) : ofBytes (a ++ b) = ofBytes a ++ ofBytes b := by
  apply ByteArray.ext
  rw [ByteArray.data_append]
  unfold ofBytes
  simp
def spB : ByteArray := ⟨#[32]⟩
def tlB : List ByteArray → ByteArray
  | [] => eS
  | w :: ws => spB ++ (w ++ tlB ws)
def joinB : List ByteArray → ByteArray
  | [] => eS
  | w :: ws => w ++ tlB ws
theorem toBytes_eS : toBytes eS = [] := rfl
theorem toBytes_tlB : (ws : List ByteArray) → toBytes (tlB ws) = tlJ 32 (ws.map toBytes)
  | [] => rfl
  | w :: ws => by
    simp only [tlB, List.map_cons, tlJ]
    rw [toBytes_app, toBytes_app, toBytes_tlB ws]; rfl
theorem toBytes_joinB (ws : List ByteArray) : toBytes (joinB ws) = joinL 32 (ws.map toBytes) := by
  cases ws with
  | nil => rfl
  | cons w ws =>
    simp only [joinB, List.map_cons, joinL]
    rw [toBytes_app, toBytes_tlB]
theorem tlB_app : (u v : List ByteArray) → tlB (u ++ v) = tlB u ++ tlB v
  | [], v => (app_eS _).symm
  | w :: u, v => by
    simp only [List.cons_append, tlB]
    rw [tlB_app u v, ByteArray.append_assoc, ByteArray.append_assoc]
theorem joinB_app (w : ByteArray) (u v : List ByteArray) : joinB (w :: (u ++ v)) = joinB (w :: u) ++ tlB v := by
  simp only [joinB]
  rw [tlB_app, ByteArray.append_assoc]
theorem sp_join {u : List ByteArray} (h : u ≠ []) : spB ++ joinB u = tlB u := by
  cases u with
  | nil => exact absurd rfl h
  | cons w u => rfl
/-- The parts of a text between bytes of one kind. -/
def parts (b : Int) (s : ByteArray) : List ByteArray := (cutG b [] (toBytes s)).map ofBytes
def free (b : Int) (s : ByteArray) : Prop := b ∉ toBytes s
theorem parts_cons (b : Int) (s : ByteArray) : ∃ w ws, parts b s = w :: ws := by
  obtain ⟨w, ws, h⟩ := cutG_cons b (toBytes s) []
  exact ⟨ofBytes w, ws.map ofBytes, by unfold parts; rw [h]; rfl⟩
theorem map_toBytes {l : List (List Int)} (h : ∀ w ∈ l, isB w) : (l.map ofBytes).map toBytes = l := by
  rw [List.map_map]
  have : l.map (toBytes ∘ ofBytes) = l.map id := List.map_congr_left fun w hw => by
    simp only [Function.comp, id]
    exact toBytes_ofBytes (h w hw)
  rw [this, List.map_id]
theorem map_ofBytes (l : List ByteArray) : (l.map toBytes).map ofBytes = l := by
  rw [List.map_map]
  have : l.map (ofBytes ∘ toBytes) = l.map id := List.map_congr_left fun w _ => by
    simp only [Function.comp, id]
    exact ofBytes_toBytes w
  rw [this, List.map_id]
theorem parts_toBytes (b : Int) (s : ByteArray) : (parts b s).map toBytes = cutG b [] (toBytes s) :=
  map_toBytes (cut_isB b _ _ isB_nil (toBytes_isB s))
theorem join_parts (s : ByteArray) : joinB (parts 32 s) = s := by
  apply toBytes_inj
  rw [toBytes_joinB, parts_toBytes, join_cut]
  rfl
theorem parts_join {w : ByteArray} {ws : List ByteArray} (h : ∀ v ∈ w :: ws, free 32 v) : parts 32 (joinB (w :: ws)) = w :: ws := by
  unfold parts
  rw [toBytes_joinB]
  simp only [List.map_cons, joinL]
  rw [cut_join 32 (ws.map toBytes) (toBytes w) [] (h w (by simp)) fun v hv => by
    obtain ⟨u, hu, rfl⟩ := List.mem_map.1 hv
    exact h u (List.mem_cons_of_mem _ hu)]
  rw [List.nil_append, List.map_cons, map_ofBytes, ofBytes_toBytes]
theorem parts_free (b : Int) (s : ByteArray) : ∀ w ∈ parts b s, free b w := fun w hw => by
  obtain ⟨u, hu, rfl⟩ := List.mem_map.1 hw
  unfold free
  rw [toBytes_ofBytes (cut_isB b _ _ isB_nil (toBytes_isB s) u hu)]
  exact cut_free b _ [] (by simp) u hu
theorem parts_len (b : Int) (s : ByteArray) : (parts b s).length ≤ s.size + 1 := by
  unfold parts
  rw [List.length_map]
  have := cut_len b (toBytes s) []
  rw [toBytes_len] at this
  exact this
theorem parts_size (b : Int) (s : ByteArray) : ∀ w ∈ parts b s, w.size ≤ s.size := fun w hw => by
  obtain ⟨u, hu, rfl⟩ := List.mem_map.1 hw
  rw [ofBytes_size]
  have := cut_size b (toBytes s) [] u hu
  rw [toBytes_len] at this
  simpa using this
/-- A text is what it was made of, word by word. -/
theorem join_eq {w : ByteArray} {ws : List ByteArray} (h : ∀ v ∈ w :: ws, free 32 v) (s : ByteArray) : joinB (w :: ws) = s ↔ parts 32 s = w :: ws := by
  constructor
  · rintro rfl; exact parts_join h
  · intro hp
    rw [← hp, join_parts]
theorem free_of (b : Int) (s : ByteArray) (h : (toBytes s).all (fun x => x != b) = true) : free b s := fun hm => by
  have := List.all_eq_true.1 h b hm
  simp at this
theorem free_app {b : Int} {s t : ByteArray} (hs : free b s) (ht : free b t) : free b (s ++ t) := by
  unfold free at *
  rw [toBytes_app, List.mem_append, not_or]
  exact ⟨hs, ht⟩
theorem wordB_free {s : ByteArray} (h : wordB s = true) {b : Int} (hb : b < 97) : free b s := fun hm => by
  unfold wordB at h
  rw [Bool.and_eq_true, Bool.not_eq_true', List.any_eq_false] at h
  have := h.1 b hm
  simp only [Bool.or_eq_true, decide_eq_true_eq, not_or] at this
  omega
theorem wordB_size {s : ByteArray} (h : wordB s = true) : 1 ≤ s.size ∧ s.size ≤ 8 := by
  unfold wordB at h
  simp only [Bool.and_eq_true, decide_eq_true_eq] at h
  exact h.2

/-! ### the loop that cuts -/
theorem toBytes_extract (s : ByteArray) (i j : Nat) : toBytes (s.extract i j) = ((toBytes s).take j).drop i := by
  unfold toBytes
  rw [ByteArray.data_extract, Array.toList_extract]
  simp only [List.extract_eq_take_drop, List.map_take, List.map_drop]
  rw [List.drop_take]
theorem pre_step {l : List Int} {from_ i : Nat} (h : from_ ≤ i) (hi : i < l.length) : (l.take (i + 1)).drop from_ = (l.take i).drop from_ ++ [l[i]] := by
  rw [List.take_succ_eq_append_getElem hi, List.drop_append_of_le_length (by rw [List.length_take]; omega)]
theorem pre_nil (l : List Int) (i : Nat) : (l.take i).drop i = [] := by
  rw [List.drop_eq_nil_of_le]; rw [List.length_take]; omega
theorem drop_cons {l : List Int} {i : Nat} (hi : i < l.length) : l.drop i = l[i] :: l.drop (i + 1) := List.drop_eq_getElem_cons hi
end Go.PI.G
