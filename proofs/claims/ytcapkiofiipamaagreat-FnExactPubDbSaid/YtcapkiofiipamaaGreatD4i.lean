/-
  Printed texts and plain laws. No conditions.
-/
import Derived.Test.YtcapkiofiipamaaGreatPc
import Derived.Test.YtcapkiofiipamaaGreatD4a
import Derived.Test.YtcapkiofiipamaaGreatD4g
import Derived.Test.YtcapkiofiipamaaGreatD4h
import Derived.Test.YtcapkiofiipamaaGreatD4f
import Derived.Test.YtcapkiofiipamaaGreatD4d
set_option linter.unusedVariables false
set_option maxRecDepth 100000
noncomputable section
namespace Go.PI.G
open Go Go.PI Go.Proofs

/-! ### 7 loop.example/g00462/laws.szDb -/
def c_laws_szDb : Code := (Tryz.f7.body).getD .skip
def g_laws_szDb : Env Unit := ⟨tys, [(35, s_laws_szCat), (36, s_laws_szRowsS)], 0⟩
def laws_szDb (a : qF × List qR) (left : Int) (k0 : Int → Res) : Res :=
 laws_szCat a.1 left fun (r : Int) =>
  bif decide (r < 0) then
   k0 (-1)
  else
   laws_szRowsS a.2 r fun (r1 : Int) =>
    bif decide (r1 < 0) then
     k0 (-1)
    else
     k0 r1
def s_laws_szDb : Sig Unit := ⟨[.look y14 true, .look (.int .i64) false], [false], fun vals ext k => av vals y14 fun a vals => av vals (.int .i64) fun left vals => nl vals <| nl ext <| laws_szDb a left (fun (r0 : Int) => k [⟨(.int .i64), false, r0, []⟩] [] [])⟩
theorem E_laws_szDb (a : qF × List qR) (a_a : Bool) (t_a : List Tag) (left : Int) (a_left : Bool) (t_left : List Tag) (k : qK) : funC g_laws_szDb [] .o false Tryz.f7 [.look y14 true, .look (.int .i64) false] [false] [⟨y14, a_a, a, t_a⟩, ⟨(.int .i64), a_left, left, t_left⟩] [] k = laws_szDb a left (fun (r0 : Int) => k [⟨(.int .i64), false, r0, []⟩] [] []) := by kernel_rfl
theorem S_laws_szDb : Sound Tryz.prog 7 s_laws_szDb := sound_of (Γ := g_laws_szDb) (X := []) (ht := .o) (fz := false) (c := c_laws_szDb) follows tysOk (fns_cons S_laws_szCat (fns_cons S_laws_szRowsS fns_nil)) trivial Tryz.func7 (by kernel_rfl) (by kernel_rfl) (by decide) (by
 intro vals ext k r h
 obtain ⟨a, a_a, t_a, vals, rfl, h1⟩ := av_some h
 obtain ⟨left, a_left, t_left, vals, rfl, h2⟩ := av_some h1
 obtain ⟨rfl, h3⟩ := nl_some h2
 obtain ⟨rfl, h4⟩ := nl_some h3
 exact (E_laws_szDb a a_a t_a left a_left t_left k).trans h4)

/-! ### 9 loop.example/g00462/laws.toDb -/
def c_laws_toDb : Code := (Tryz.f9.body).getD .skip
def g_laws_toDb : Env Unit := ⟨tys, [(40, s_laws_toCat), (41, s_laws_toRowsS)], 0⟩
def laws_toDb (a : qF × List qR) (k0 : qD → Res) : Res :=
 laws_toCat a.1 fun (r : List qT) =>
  laws_toRowsS a.2 fun (r1 : List qR) =>
   k0 (r, r1)
def s_laws_toDb : Sig Unit := ⟨[.borrow y14 true], [true], fun vals ext k => av vals y14 fun a vals => nl vals <| nl ext <| laws_toDb a (fun (r0 : qF × List qR) => k [⟨y14, true, r0, [.O, .O]⟩] [] [])⟩
theorem E_laws_toDb (a : qF × List qR) (a_a : Bool) (t_a : List Tag) (k : qK) : funC g_laws_toDb [] .o false Tryz.f9 [.borrow y14 true] [true] [⟨y14, a_a, a, t_a⟩] [] k = laws_toDb a (fun (r0 : qF × List qR) => k [⟨y14, true, r0, [.O, .O]⟩] [] []) := by kernel_rfl
theorem S_laws_toDb : Sound Tryz.prog 9 s_laws_toDb := sound_of (Γ := g_laws_toDb) (X := []) (ht := .o) (fz := false) (c := c_laws_toDb) follows tysOk (fns_cons S_laws_toCat (fns_cons S_laws_toRowsS fns_nil)) trivial Tryz.func9 (by kernel_rfl) (by kernel_rfl) (by decide) (by
 intro vals ext k r h
 obtain ⟨a, a_a, t_a, vals, rfl, h1⟩ := av_some h
 obtain ⟨rfl, h2⟩ := nl_some h1
 obtain ⟨rfl, h3⟩ := nl_some h2
 exact (E_laws_toDb a a_a t_a k).trans h3)

/-! ### 12 loop.example/g00462/laws.eqDb -/
def c_laws_eqDb : Code := (Tryz.f12.body).getD .skip
def g_laws_eqDb : Env Unit := ⟨tys, [(45, s_laws_eqCat), (46, s_laws_eqRowsS)], 0⟩
def laws_eqDb (a : qF × List qR) (b : qF × List qR) (k0 : Bool → Res) : Res :=
 laws_eqCat a.1 b.1 fun (r : Bool) =>
  bif !r then
   k0 false
  else
   laws_eqRowsS a.2 b.2 fun (r1 : Bool) =>
    bif !r1 then
     k0 false
    else
     k0 true
def s_laws_eqDb : Sig Unit := ⟨[.look y14 true, .look y14 true], [false], fun vals ext k => av vals y14 fun a vals => av vals y14 fun b vals => nl vals <| nl ext <| laws_eqDb a b (fun (r0 : Bool) => k [⟨.bool, false, r0, []⟩] [] [])⟩
theorem E_laws_eqDb (a : qF × List qR) (a_a : Bool) (t_a : List Tag) (b : qF × List qR) (a_b : Bool) (t_b : List Tag) (k : qK) : funC g_laws_eqDb [] .o false Tryz.f12 [.look y14 true, .look y14 true] [false] [⟨y14, a_a, a, t_a⟩, ⟨y14, a_b, b, t_b⟩] [] k = laws_eqDb a b (fun (r0 : Bool) => k [⟨.bool, false, r0, []⟩] [] []) := by kernel_rfl
theorem S_laws_eqDb : Sound Tryz.prog 12 s_laws_eqDb := sound_of (Γ := g_laws_eqDb) (X := []) (ht := .o) (fz := false) (c := c_laws_eqDb) follows tysOk (fns_cons S_laws_eqCat (fns_cons S_laws_eqRowsS fns_nil)) trivial Tryz.func12 (by kernel_rfl) (by kernel_rfl) (by decide) (by
 intro vals ext k r h
 obtain ⟨a, a_a, t_a, vals, rfl, h1⟩ := av_some h
 obtain ⟨b, a_b, t_b, vals, rfl, h2⟩ := av_some h1
 obtain ⟨rfl, h3⟩ := nl_some h2
 obtain ⟨rfl, h4⟩ := nl_some h3
 exact (E_laws_eqDb a a_a t_a b a_b t_b k).trans h4)

/-! ### 13 loop.example/g00462/laws.markDb -/
def c_laws_markDb : Code := (Tryz.f13.body).getD .skip
def g_laws_markDb : Env Unit := ⟨tys, [(47, s_laws_markCat), (48, s_laws_markRowsS)], 1⟩
def laws_markDb (a : qF × List qR) (k_ : Int) (k0 : Int → qD → Res) : Res :=
 laws_markCat a.1 k_ fun (r : Int) (a1 : List qT) =>
  laws_markRowsS a.2 r fun (r1 : Int) (a2 : List qR) =>
   k0 r1 (a1, a2)
def s_laws_markDb : Sig Unit := ⟨[.inout y14 true, .borrow (.int .i64) false], [false], fun vals ext k => ao vals y14 [.O, .O] fun a vals => av vals (.int .i64) fun k_ vals => nl vals <| nl ext <| laws_markDb a k_ (fun (r0 : Int) (i0 : qF × List qR) => k [⟨(.int .i64), false, r0, []⟩] [⟨y14, true, i0, [.O, .O]⟩] [])⟩
theorem E_laws_markDb (a_a : Bool) (a : qF × List qR) (k_ : Int) (a_k_ : Bool) (t_k_ : List Tag) (k : qK) : funC g_laws_markDb [] .o false Tryz.f13 [.inout y14 true, .borrow (.int .i64) false] [false] [⟨y14, a_a, a, [.O, .O]⟩, ⟨(.int .i64), a_k_, k_, t_k_⟩] [] k = laws_markDb a k_ (fun (r0 : Int) (i0 : qF × List qR) => k [⟨(.int .i64), false, r0, []⟩] [⟨y14, true, i0, [.O, .O]⟩] []) := by kernel_rfl
theorem S_laws_markDb : Sound Tryz.prog 13 s_laws_markDb := sound_of (Γ := g_laws_markDb) (X := []) (ht := .o) (fz := false) (c := c_laws_markDb) follows tysOk (fns_cons S_laws_markCat (fns_cons S_laws_markRowsS fns_nil)) trivial Tryz.func13 (by kernel_rfl) (by kernel_rfl) (by decide) (by
 intro vals ext k r h
 obtain ⟨a_a, a, vals, rfl, h1⟩ := ao_some h
 obtain ⟨k_, a_k_, t_k_, vals, rfl, h2⟩ := av_some h1
 obtain ⟨rfl, h3⟩ := nl_some h2
 obtain ⟨rfl, h4⟩ := nl_some h3
 exact (E_laws_markDb a_a a k_ a_k_ t_k_ k).trans h4)

/-! ### 22 loop.example/g00462/laws.heldDb -/
def c_laws_heldDb : Code := (Tryz.f22.body).getD .skip
def g_laws_heldDb : Env Unit := ⟨tys, [(60, s_laws_heldCat), (61, s_laws_heldRowsS)], 0⟩
def laws_heldDb (a : qF × List qR) (k_ : Int) (k0 : Int → Res) : Res :=
 laws_heldCat a.1 k_ fun (r : Int) =>
  bif decide (r < 0) then
   k0 (-1)
  else
   laws_heldRowsS a.2 r fun (r1 : Int) =>
    bif decide (r1 < 0) then
     k0 (-1)
    else
     k0 r1
def s_laws_heldDb : Sig Unit := ⟨[.look y14 true, .look (.int .i64) false], [false], fun vals ext k => av vals y14 fun a vals => av vals (.int .i64) fun k_ vals => nl vals <| nl ext <| laws_heldDb a k_ (fun (r0 : Int) => k [⟨(.int .i64), false, r0, []⟩] [] [])⟩
theorem E_laws_heldDb (a : qF × List qR) (a_a : Bool) (t_a : List Tag) (k_ : Int) (a_k_ : Bool) (t_k_ : List Tag) (k : qK) : funC g_laws_heldDb [] .o false Tryz.f22 [.look y14 true, .look (.int .i64) false] [false] [⟨y14, a_a, a, t_a⟩, ⟨(.int .i64), a_k_, k_, t_k_⟩] [] k = laws_heldDb a k_ (fun (r0 : Int) => k [⟨(.int .i64), false, r0, []⟩] [] []) := by kernel_rfl
theorem S_laws_heldDb : Sound Tryz.prog 22 s_laws_heldDb := sound_of (Γ := g_laws_heldDb) (X := []) (ht := .o) (fz := false) (c := c_laws_heldDb) follows tysOk (fns_cons S_laws_heldCat (fns_cons S_laws_heldRowsS fns_nil)) trivial Tryz.func22 (by kernel_rfl) (by kernel_rfl) (by decide) (by
 intro vals ext k r h
 obtain ⟨a, a_a, t_a, vals, rfl, h1⟩ := av_some h
 obtain ⟨k_, a_k_, t_k_, vals, rfl, h2⟩ := av_some h1
 obtain ⟨rfl, h3⟩ := nl_some h2
 obtain ⟨rfl, h4⟩ := nl_some h3
 exact (E_laws_heldDb a a_a t_a k_ a_k_ t_k_ k).trans h4)
end Go.PI.G
end
noncomputable section
namespace Go.PI.G
open Go Go.PI Go.Proofs

/-! ### 16 loop.example/g00462/laws.szPub -/
def c_laws_szPub : Code := (Tryz.f16.body).getD .skip
def g_laws_szPub : Env Unit := ⟨tys, [(50, s_laws_szStringS)], 0⟩
def laws_szPub (a : List ByteArray) (left : Int) (k0 : Int → Res) : Res :=
 laws_szStringS a left fun (r : Int) =>
  bif decide (r < 0) then
   k0 (-1)
  else
   k0 r
def s_laws_szPub : Sig Unit := ⟨[.look y7 true, .look (.int .i64) false], [false], fun vals ext k => av vals y7 fun a vals => av vals (.int .i64) fun left vals => nl vals <| nl ext <| laws_szPub a left (fun (r0 : Int) => k [⟨(.int .i64), false, r0, []⟩] [] [])⟩
theorem E_laws_szPub (a : List ByteArray) (a_a : Bool) (t_a : List Tag) (left : Int) (a_left : Bool) (t_left : List Tag) (k : qK) : funC g_laws_szPub [] .o false Tryz.f16 [.look y7 true, .look (.int .i64) false] [false] [⟨y7, a_a, a, t_a⟩, ⟨(.int .i64), a_left, left, t_left⟩] [] k = laws_szPub a left (fun (r0 : Int) => k [⟨(.int .i64), false, r0, []⟩] [] []) := by kernel_rfl
theorem S_laws_szPub : Sound Tryz.prog 16 s_laws_szPub := sound_of (Γ := g_laws_szPub) (X := []) (ht := .o) (fz := false) (c := c_laws_szPub) follows tysOk (fns_cons S_laws_szStringS fns_nil) trivial Tryz.func16 (by kernel_rfl) (by kernel_rfl) (by decide) (by
 intro vals ext k r h
 obtain ⟨a, a_a, t_a, vals, rfl, h1⟩ := av_some h
 obtain ⟨left, a_left, t_left, vals, rfl, h2⟩ := av_some h1
 obtain ⟨rfl, h3⟩ := nl_some h2
 obtain ⟨rfl, h4⟩ := nl_some h3
 exact (E_laws_szPub a a_a t_a left a_left t_left k).trans h4)

/-! ### 18 loop.example/g00462/laws.toPub -/
def c_laws_toPub : Code := (Tryz.f18.body).getD .skip
def g_laws_toPub : Env Unit := ⟨tys, [(55, s_laws_toStringS)], 0⟩
def laws_toPub (a : List ByteArray) (k0 : (List ByteArray) → Res) : Res :=
 laws_toStringS a fun (r : List ByteArray) =>
  k0 r
def s_laws_toPub : Sig Unit := ⟨[.borrow y7 true], [true], fun vals ext k => av vals y7 fun a vals => nl vals <| nl ext <| laws_toPub a (fun (r0 : List ByteArray) => k [⟨y7, true, r0, [.O]⟩] [] [])⟩
theorem E_laws_toPub (a : List ByteArray) (a_a : Bool) (t_a : List Tag) (k : qK) : funC g_laws_toPub [] .o false Tryz.f18 [.borrow y7 true] [true] [⟨y7, a_a, a, t_a⟩] [] k = laws_toPub a (fun (r0 : List ByteArray) => k [⟨y7, true, r0, [.O]⟩] [] []) := by kernel_rfl
theorem S_laws_toPub : Sound Tryz.prog 18 s_laws_toPub := sound_of (Γ := g_laws_toPub) (X := []) (ht := .o) (fz := false) (c := c_laws_toPub) follows tysOk (fns_cons S_laws_toStringS fns_nil) trivial Tryz.func18 (by kernel_rfl) (by kernel_rfl) (by decide) (by
 intro vals ext k r h
 obtain ⟨a, a_a, t_a, vals, rfl, h1⟩ := av_some h
 obtain ⟨rfl, h2⟩ := nl_some h1
 obtain ⟨rfl, h3⟩ := nl_some h2
 exact (E_laws_toPub a a_a t_a k).trans h3)

/-! ### 20 loop.example/g00462/laws.eqPub -/
def c_laws_eqPub : Code := (Tryz.f20.body).getD .skip
def g_laws_eqPub : Env Unit := ⟨tys, [(11, s_laws_eqStringS)], 0⟩
def laws_eqPub (a : List ByteArray) (b : List ByteArray) (k0 : Bool → Res) : Res :=
 laws_eqStringS a b fun (r : Bool) =>
  bif !r then
   k0 false
  else
   k0 true
def s_laws_eqPub : Sig Unit := ⟨[.look y7 true, .look y7 true], [false], fun vals ext k => av vals y7 fun a vals => av vals y7 fun b vals => nl vals <| nl ext <| laws_eqPub a b (fun (r0 : Bool) => k [⟨.bool, false, r0, []⟩] [] [])⟩
theorem E_laws_eqPub (a : List ByteArray) (a_a : Bool) (t_a : List Tag) (b : List ByteArray) (a_b : Bool) (t_b : List Tag) (k : qK) : funC g_laws_eqPub [] .o false Tryz.f20 [.look y7 true, .look y7 true] [false] [⟨y7, a_a, a, t_a⟩, ⟨y7, a_b, b, t_b⟩] [] k = laws_eqPub a b (fun (r0 : Bool) => k [⟨.bool, false, r0, []⟩] [] []) := by kernel_rfl
theorem S_laws_eqPub : Sound Tryz.prog 20 s_laws_eqPub := sound_of (Γ := g_laws_eqPub) (X := []) (ht := .o) (fz := false) (c := c_laws_eqPub) follows tysOk (fns_cons S_laws_eqStringS fns_nil) trivial Tryz.func20 (by kernel_rfl) (by kernel_rfl) (by decide) (by
 intro vals ext k r h
 obtain ⟨a, a_a, t_a, vals, rfl, h1⟩ := av_some h
 obtain ⟨b, a_b, t_b, vals, rfl, h2⟩ := av_some h1
 obtain ⟨rfl, h3⟩ := nl_some h2
 obtain ⟨rfl, h4⟩ := nl_some h3
 exact (E_laws_eqPub a a_a t_a b a_b t_b k).trans h4)

/-! ### 21 loop.example/g00462/laws.markPub -/
def c_laws_markPub : Code := (Tryz.f21.body).getD .skip
def g_laws_markPub : Env Unit := ⟨tys, [(14, s_laws_markStringS)], 1⟩
def laws_markPub (a : List ByteArray) (k_ : Int) (k0 : Int → (List ByteArray) → Res) : Res :=
 laws_markStringS a k_ fun (r : Int) (a1 : List ByteArray) =>
  k0 r a1
def s_laws_markPub : Sig Unit := ⟨[.inout y7 true, .borrow (.int .i64) false], [false], fun vals ext k => ao vals y7 [.O] fun a vals => av vals (.int .i64) fun k_ vals => nl vals <| nl ext <| laws_markPub a k_ (fun (r0 : Int) (i0 : List ByteArray) => k [⟨(.int .i64), false, r0, []⟩] [⟨y7, true, i0, [.O]⟩] [])⟩
theorem E_laws_markPub (a_a : Bool) (a : List ByteArray) (k_ : Int) (a_k_ : Bool) (t_k_ : List Tag) (k : qK) : funC g_laws_markPub [] .o false Tryz.f21 [.inout y7 true, .borrow (.int .i64) false] [false] [⟨y7, a_a, a, [.O]⟩, ⟨(.int .i64), a_k_, k_, t_k_⟩] [] k = laws_markPub a k_ (fun (r0 : Int) (i0 : List ByteArray) => k [⟨(.int .i64), false, r0, []⟩] [⟨y7, true, i0, [.O]⟩] []) := by kernel_rfl
theorem S_laws_markPub : Sound Tryz.prog 21 s_laws_markPub := sound_of (Γ := g_laws_markPub) (X := []) (ht := .o) (fz := false) (c := c_laws_markPub) follows tysOk (fns_cons S_laws_markStringS fns_nil) trivial Tryz.func21 (by kernel_rfl) (by kernel_rfl) (by decide) (by
 intro vals ext k r h
 obtain ⟨a_a, a, vals, rfl, h1⟩ := ao_some h
 obtain ⟨k_, a_k_, t_k_, vals, rfl, h2⟩ := av_some h1
 obtain ⟨rfl, h3⟩ := nl_some h2
 obtain ⟨rfl, h4⟩ := nl_some h3
 exact (E_laws_markPub a_a a k_ a_k_ t_k_ k).trans h4)
end Go.PI.G
end
noncomputable section
namespace Go.PI.G
open Go Go.PI Go.Proofs

/-! ### 4 loop.example/g00462/laws.FnExactPubDb -/
def c_laws_FnExactPubDb : Code := (Tryz.f4.body).getD .skip
def g_laws_FnExactPubDb : Env Unit := ⟨tys, [(7, s_laws_szDb), (9, s_laws_toDb), (12, s_laws_eqDb), (13, s_laws_markDb), (16, s_laws_szPub), (17, s_spec_PubDb), (18, s_laws_toPub), (19, s_impl_PubDb), (20, s_laws_eqPub), (21, s_laws_markPub), (22, s_laws_heldDb)], 0⟩
def laws_FnExactPubDb_p0 (aP : List ByteArray) (aD : qF × List qR) (k0 : qD → Res) : Res :=
 both
  (laws_toPub aP fun (r : List ByteArray) =>
   both
    (laws_toDb aD fun (r1 : qF × List qR) =>
     both
      (spec_PubDb r r1 fun (r2 : qF × List qR) =>
       k0 r2)
      (spec_PubDb r r1 fun (r3 : qF × List qR) =>
       k0 r3))
    (laws_toDb aD fun (r4 : qF × List qR) =>
     spec_PubDb r r4 fun (r5 : qF × List qR) =>
      k0 r5))
  (laws_toPub aP fun (r6 : List ByteArray) =>
   laws_toDb aD fun (r7 : qF × List qR) =>
    spec_PubDb r6 r7 fun (r8 : qF × List qR) =>
     k0 r8)
def xlaws_FnExactPubDb_p0 : Node Unit := fun σ k => rdN σ 92 <| rdT σ 2 (.ptr ⟨true, 2, []⟩) <| rdT σ 3 (.ptr ⟨true, 3, []⟩) <| rdB σ 2 y7 [.S] fun a aP => rdB σ 3 y14 [.S, .S] fun a1 aD => laws_FnExactPubDb_p0 aP aD (fun (w0 : qF × List qR) => k .normal (mkS 92 92 [(2, .ptr ⟨true, 2, []⟩), (3, .ptr ⟨true, 3, []⟩), (6, .ptr ⟨true, 6, []⟩)] [(2, ⟨y7, a, aP, [.S]⟩), (3, ⟨y14, a1, aD, [.S, .S]⟩), (6, ⟨y14, false, w0, [.O, .O]⟩)]))
theorem elaws_FnExactPubDb_p0 (a : Bool) (aP : List ByteArray) (a1 : Bool) (aD : qF × List qR) (k : Kont Unit) : codeC g_laws_FnExactPubDb [] .o (Code.pl (Code.pr (Code.pr (Code.pr (Code.pr (Code.pr (Code.pr c_laws_FnExactPubDb))))))) (mkS 92 92 [(2, .ptr ⟨true, 2, []⟩), (3, .ptr ⟨true, 3, []⟩)] [(2, ⟨y7, a, aP, [.S]⟩), (3, ⟨y14, a1, aD, [.S, .S]⟩)]) (fun e σ => k e ((cutC ([2, 3, 6], [2, 3, 6]) [] ([], [])) e σ)) = laws_FnExactPubDb_p0 aP aD (fun (w0 : qF × List qR) => k .normal (mkS 92 92 [(2, .ptr ⟨true, 2, []⟩), (3, .ptr ⟨true, 3, []⟩), (6, .ptr ⟨true, 6, []⟩)] [(2, ⟨y7, a, aP, [.S]⟩), (3, ⟨y14, a1, aD, [.S, .S]⟩), (6, ⟨y14, false, w0, [.O, .O]⟩)])) := by kernel_rfl
theorem olaws_FnExactPubDb_p0 {W0 : Base} {M : Nat → Prop} (hnp : W0.np ≤ 0) : CodeOk Tryz.prog W0 M (Code.pl (Code.pr (Code.pr (Code.pr (Code.pr (Code.pr (Code.pr c_laws_FnExactPubDb))))))) xlaws_FnExactPubDb_p0 := node_ok (code_sound follows tysOk (calls_ok (fns_cons S_laws_szDb (fns_cons S_laws_toDb (fns_cons S_laws_eqDb (fns_cons S_laws_markDb (fns_cons S_laws_szPub (fns_cons S_spec_PubDb (fns_cons S_laws_toPub (fns_cons S_impl_PubDb (fns_cons S_laws_eqPub (fns_cons S_laws_markPub (fns_cons S_laws_heldDb fns_nil)))))))))))) hnp [] ((Code.pl (Code.pr (Code.pr (Code.pr (Code.pr (Code.pr (Code.pr c_laws_FnExactPubDb)))))))) .o trivial) (fg := (cutC ([2, 3, 6], [2, 3, 6]) [] ([], []))) (cutC_le _ _ _) (by
 intro σ k r h
 obtain ⟨hn, h1⟩ := rdN_some h
 obtain ⟨hs2, h2⟩ := rdT_some h1
 obtain ⟨hs3, h3⟩ := rdT_some h2
 obtain ⟨a, aP, hb2, h4⟩ := rdB_some h3
 obtain ⟨a1, aD, hb3, h5⟩ := rdB_some h4
 refine ⟨_, ?_, (elaws_FnExactPubDb_p0 a aP a1 aD k).trans h5⟩
 exact mkS_le hn ⟨hs2, hs3, trivial⟩ ⟨hb2, hb3, trivial⟩)
def laws_FnExactPubDb_p1 (aP : List ByteArray) (aD : qF × List qR) (k0 : qD → Res) : Res :=
 both
  (laws_toPub aP fun (r : List ByteArray) =>
   both
    (laws_toDb aD fun (r1 : qF × List qR) =>
     both
      (impl_PubDb r r1 fun (r2 : qF × List qR) =>
       k0 r2)
      (impl_PubDb r r1 fun (r3 : qF × List qR) =>
       k0 r3))
    (laws_toDb aD fun (r4 : qF × List qR) =>
     impl_PubDb r r4 fun (r5 : qF × List qR) =>
      k0 r5))
  (laws_toPub aP fun (r6 : List ByteArray) =>
   laws_toDb aD fun (r7 : qF × List qR) =>
    impl_PubDb r6 r7 fun (r8 : qF × List qR) =>
     k0 r8)
def xlaws_FnExactPubDb_p1 : Node Unit := fun σ k => rdN σ 92 <| rdT σ 2 (.ptr ⟨true, 2, []⟩) <| rdT σ 3 (.ptr ⟨true, 3, []⟩) <| rdT σ 6 (.ptr ⟨true, 6, []⟩) <| rdT σ 9 (.ptr ⟨true, 9, []⟩) <| rdV σ 11 (.int .i64) false [] fun m => rdB σ 2 y7 [.S] fun a aP => rdB σ 3 y14 [.S, .S] fun a1 aD => rdB σ 6 y14 [.O, .O] fun a2 w0 => rdB σ 9 y14 [.O, .O] fun a3 g0 => laws_FnExactPubDb_p1 aP aD (fun (h0 : qF × List qR) => k .normal (mkS 92 92 [(6, .ptr ⟨true, 6, []⟩), (9, .ptr ⟨true, 9, []⟩), (11, .val ⟨(.int .i64), false, m, []⟩), (13, .ptr ⟨true, 13, []⟩)] [(6, ⟨y14, a2, w0, [.O, .O]⟩), (9, ⟨y14, a3, g0, [.O, .O]⟩), (13, ⟨y14, false, h0, [.O, .O]⟩)]))
theorem elaws_FnExactPubDb_p1 (m : Int) (a : Bool) (aP : List ByteArray) (a1 : Bool) (aD : qF × List qR) (a2 : Bool) (w0 : qF × List qR) (a3 : Bool) (g0 : qF × List qR) (k : Kont Unit) : codeC g_laws_FnExactPubDb [xlaws_FnExactPubDb_p0] .o (Code.pl (Code.pr (Code.pr (Code.pr (Code.pr (Code.pr (Code.pr (Code.pr (Code.pr (Code.pr (Code.pr (Code.pr (Code.pr (Code.pr (Code.pr (Code.pr (Code.pr (Code.pr (Code.pr (Code.pr (Code.pr (Code.pr (Code.pr (Code.pr c_laws_FnExactPubDb)))))))))))))))))))))))) (mkS 92 92 [(2, .ptr ⟨true, 2, []⟩), (3, .ptr ⟨true, 3, []⟩), (6, .ptr ⟨true, 6, []⟩), (9, .ptr ⟨true, 9, []⟩), (11, .val ⟨(.int .i64), false, m, []⟩)] [(2, ⟨y7, a, aP, [.S]⟩), (3, ⟨y14, a1, aD, [.S, .S]⟩), (6, ⟨y14, a2, w0, [.O, .O]⟩), (9, ⟨y14, a3, g0, [.O, .O]⟩)]) (fun e σ => k e ((cutC ([6, 9, 11, 13], [6, 9, 13]) [] ([], [])) e σ)) = laws_FnExactPubDb_p1 aP aD (fun (h0 : qF × List qR) => k .normal (mkS 92 92 [(6, .ptr ⟨true, 6, []⟩), (9, .ptr ⟨true, 9, []⟩), (11, .val ⟨(.int .i64), false, m, []⟩), (13, .ptr ⟨true, 13, []⟩)] [(6, ⟨y14, a2, w0, [.O, .O]⟩), (9, ⟨y14, a3, g0, [.O, .O]⟩), (13, ⟨y14, false, h0, [.O, .O]⟩)])) := by kernel_rfl
theorem olaws_FnExactPubDb_p1 {W0 : Base} {M : Nat → Prop} (hnp : W0.np ≤ 0) : CodeOk Tryz.prog W0 M (Code.pl (Code.pr (Code.pr (Code.pr (Code.pr (Code.pr (Code.pr (Code.pr (Code.pr (Code.pr (Code.pr (Code.pr (Code.pr (Code.pr (Code.pr (Code.pr (Code.pr (Code.pr (Code.pr (Code.pr (Code.pr (Code.pr (Code.pr (Code.pr c_laws_FnExactPubDb)))))))))))))))))))))))) xlaws_FnExactPubDb_p1 := node_ok (code_sound follows tysOk (calls_ok (fns_cons S_laws_szDb (fns_cons S_laws_toDb (fns_cons S_laws_eqDb (fns_cons S_laws_markDb (fns_cons S_laws_szPub (fns_cons S_spec_PubDb (fns_cons S_laws_toPub (fns_cons S_impl_PubDb (fns_cons S_laws_eqPub (fns_cons S_laws_markPub (fns_cons S_laws_heldDb fns_nil)))))))))))) hnp [xlaws_FnExactPubDb_p0] ((Code.pl (Code.pr (Code.pr (Code.pr (Code.pr (Code.pr (Code.pr (Code.pr (Code.pr (Code.pr (Code.pr (Code.pr (Code.pr (Code.pr (Code.pr (Code.pr (Code.pr (Code.pr (Code.pr (Code.pr (Code.pr (Code.pr (Code.pr (Code.pr c_laws_FnExactPubDb))))))))))))))))))))))))) .o trivial) (fg := (cutC ([6, 9, 11, 13], [6, 9, 13]) [] ([], []))) (cutC_le _ _ _) (by
 intro σ k r h
 obtain ⟨hn, h1⟩ := rdN_some h
 obtain ⟨hs2, h2⟩ := rdT_some h1
 obtain ⟨hs3, h3⟩ := rdT_some h2
 obtain ⟨hs6, h4⟩ := rdT_some h3
 obtain ⟨hs9, h5⟩ := rdT_some h4
 obtain ⟨m, hs11, h6⟩ := rdV_some h5
 obtain ⟨a, aP, hb2, h7⟩ := rdB_some h6
 obtain ⟨a1, aD, hb3, h8⟩ := rdB_some h7
 obtain ⟨a2, w0, hb6, h9⟩ := rdB_some h8
 obtain ⟨a3, g0, hb9, h10⟩ := rdB_some h9
 refine ⟨_, ?_, (elaws_FnExactPubDb_p1 m a aP a1 aD a2 w0 a3 g0 k).trans h10⟩
 exact mkS_le hn ⟨hs2, hs3, hs6, hs9, hs11, trivial⟩ ⟨hb2, hb3, hb6, hb9, trivial⟩)
def laws_FnExactPubDb_p2 (aP : List ByteArray) (aD : qF × List qR) (w0 : qF × List qR) (x0 : List ByteArray) (x1 : qF × List qR) (g0 : qF × List qR) (k0 : Bool → Res) : Res :=
 laws_markPub x0 1 fun (r : Int) (a6 : List ByteArray) =>
  laws_markDb x1 r fun (r1 : Int) (a7 : qF × List qR) =>
   bif decide (r1 < 0) then
    k0 false
   else
    laws_eqDb g0 w0 fun (r2 : Bool) =>
     bif !r2 then
      k0 false
     else
      laws_markDb g0 1 fun (r3 : Int) (a8 : qF × List qR) =>
       laws_heldDb a8 1 fun (r4 : Int) =>
        bif decide (r4 < 0) then
         k0 false
        else
         bif (r4 != r3) then
          k0 false
         else
          laws_FnExactPubDb_p1 aP aD fun (h_ : qF × List qR) =>
           laws_eqDb h_ w0 fun (r5 : Bool) =>
            bif !r5 then
             k0 false
            else
             laws_heldDb a8 1 fun (r6 : Int) =>
              bif decide (r6 < 0) then
               k0 false
              else
               bif (r6 != r3) then
                k0 false
               else
                k0 true
def xlaws_FnExactPubDb_p2 : Node Unit := fun σ k => rdN σ 92 <| rdT σ 2 (.ptr ⟨true, 2, []⟩) <| rdT σ 3 (.ptr ⟨true, 3, []⟩) <| rdT σ 6 (.ptr ⟨true, 6, []⟩) <| rdT σ 7 (.ptr ⟨true, 7, []⟩) <| rdT σ 8 (.ptr ⟨true, 8, []⟩) <| rdT σ 9 (.ptr ⟨true, 9, []⟩) <| rdB σ 2 y7 [.S] fun a aP => rdB σ 3 y14 [.S, .S] fun a1 aD => rdB σ 6 y14 [.O, .O] fun a2 w0 => rdB σ 7 y7 [.O] fun a3 x0 => rdB σ 8 y14 [.O, .O] fun a4 x1 => rdB σ 9 y14 [.O, .O] fun a5 g0 => laws_FnExactPubDb_p2 aP aD w0 x0 x1 g0 (fun (t4 : Bool) => k .ret (mkS 92 92 [(4, .val ⟨.bool, false, t4, []⟩)] []))
theorem elaws_FnExactPubDb_p2 (a : Bool) (aP : List ByteArray) (a1 : Bool) (aD : qF × List qR) (a2 : Bool) (w0 : qF × List qR) (a3 : Bool) (x0 : List ByteArray) (a4 : Bool) (x1 : qF × List qR) (a5 : Bool) (g0 : qF × List qR) (k : Kont Unit) : codeC g_laws_FnExactPubDb [xlaws_FnExactPubDb_p0, xlaws_FnExactPubDb_p1] (.t .o (.t .o (.t .o (.t .o (.t .o (.t .o (.t .o (.t .o (.t .o (.t .o (.t (.x 1) .o))))))))))) (Code.pr (Code.pr (Code.pr (Code.pr (Code.pr (Code.pr (Code.pr (Code.pr (Code.pr (Code.pr (Code.pr (Code.pr (Code.pr c_laws_FnExactPubDb))))))))))))) (mkS 92 92 [(2, .ptr ⟨true, 2, []⟩), (3, .ptr ⟨true, 3, []⟩), (6, .ptr ⟨true, 6, []⟩), (7, .ptr ⟨true, 7, []⟩), (8, .ptr ⟨true, 8, []⟩), (9, .ptr ⟨true, 9, []⟩)] [(2, ⟨y7, a, aP, [.S]⟩), (3, ⟨y14, a1, aD, [.S, .S]⟩), (6, ⟨y14, a2, w0, [.O, .O]⟩), (7, ⟨y7, a3, x0, [.O]⟩), (8, ⟨y14, a4, x1, [.O, .O]⟩), (9, ⟨y14, a5, g0, [.O, .O]⟩)]) (fun e σ => k e ((cutC ([], []) [] ([4], [])) e σ)) = laws_FnExactPubDb_p2 aP aD w0 x0 x1 g0 (fun (t4 : Bool) => k .ret (mkS 92 92 [(4, .val ⟨.bool, false, t4, []⟩)] [])) := by kernel_rfl
theorem olaws_FnExactPubDb_p2 {W0 : Base} {M : Nat → Prop} (hnp : W0.np ≤ 0) : CodeOk Tryz.prog W0 M (Code.pr (Code.pr (Code.pr (Code.pr (Code.pr (Code.pr (Code.pr (Code.pr (Code.pr (Code.pr (Code.pr (Code.pr (Code.pr c_laws_FnExactPubDb))))))))))))) xlaws_FnExactPubDb_p2 := node_ok (code_sound follows tysOk (calls_ok (fns_cons S_laws_szDb (fns_cons S_laws_toDb (fns_cons S_laws_eqDb (fns_cons S_laws_markDb (fns_cons S_laws_szPub (fns_cons S_spec_PubDb (fns_cons S_laws_toPub (fns_cons S_impl_PubDb (fns_cons S_laws_eqPub (fns_cons S_laws_markPub (fns_cons S_laws_heldDb fns_nil)))))))))))) hnp [xlaws_FnExactPubDb_p0, xlaws_FnExactPubDb_p1] ((Code.pr (Code.pr (Code.pr (Code.pr (Code.pr (Code.pr (Code.pr (Code.pr (Code.pr (Code.pr (Code.pr (Code.pr (Code.pr c_laws_FnExactPubDb)))))))))))))) (.t .o (.t .o (.t .o (.t .o (.t .o (.t .o (.t .o (.t .o (.t .o (.t .o (.t (.x 1) .o))))))))))) (OrOk.mk trivial ((OrOk.mk trivial ((OrOk.mk trivial ((OrOk.mk trivial ((OrOk.mk trivial ((OrOk.mk trivial ((OrOk.mk trivial ((OrOk.mk trivial ((OrOk.mk trivial ((OrOk.mk trivial ((OrOk.mk (OrOk.x_mk (fun W0 M hnp => olaws_FnExactPubDb_p1 (W0 := W0) (M := M) hnp)) trivial)))))))))))))))))))))) (fg := (cutC ([], []) [] ([4], []))) (cutC_le _ _ _) (by
 intro σ k r h
 obtain ⟨hn, h1⟩ := rdN_some h
 obtain ⟨hs2, h2⟩ := rdT_some h1
 obtain ⟨hs3, h3⟩ := rdT_some h2
 obtain ⟨hs6, h4⟩ := rdT_some h3
 obtain ⟨hs7, h5⟩ := rdT_some h4
 obtain ⟨hs8, h6⟩ := rdT_some h5
 obtain ⟨hs9, h7⟩ := rdT_some h6
 obtain ⟨a, aP, hb2, h8⟩ := rdB_some h7
 obtain ⟨a1, aD, hb3, h9⟩ := rdB_some h8
 obtain ⟨a2, w0, hb6, h10⟩ := rdB_some h9
 obtain ⟨a3, x0, hb7, h11⟩ := rdB_some h10
 obtain ⟨a4, x1, hb8, h12⟩ := rdB_some h11
 obtain ⟨a5, g0, hb9, h13⟩ := rdB_some h12
 refine ⟨_, ?_, (elaws_FnExactPubDb_p2 a aP a1 aD a2 w0 a3 x0 a4 x1 a5 g0 k).trans h13⟩
 exact mkS_le hn ⟨hs2, hs3, hs6, hs7, hs8, hs9, trivial⟩ ⟨hb2, hb3, hb6, hb7, hb8, hb9, trivial⟩)
def laws_FnExactPubDb (aP : List ByteArray) (aD : qF × List qR) (k0 : Bool → Res) : Res :=
 laws_szPub aP 1048576 fun (r : Int) =>
  bif decide (r < 0) then
   k0 true
  else
   laws_szDb aD r fun (r1 : Int) =>
    bif decide (r1 < 0) then
     k0 true
    else
     laws_FnExactPubDb_p0 aP aD fun (w : qF × List qR) =>
      laws_toPub aP fun (r2 : List ByteArray) =>
       laws_toDb aD fun (r3 : qF × List qR) =>
        impl_PubDb r2 r3 fun (r4 : qF × List qR) =>
         laws_eqDb r4 w fun (r5 : Bool) =>
          bif !r5 then
           k0 false
          else
           laws_toPub aP fun (r6 : List ByteArray) =>
            laws_eqPub r2 r6 fun (r7 : Bool) =>
             bif !r7 then
              k0 false
             else
              laws_toDb aD fun (r8 : qF × List qR) =>
               laws_eqDb r3 r8 fun (r9 : Bool) =>
                bif !r9 then
                 k0 false
                else
                 laws_FnExactPubDb_p2 aP aD w r2 r3 r4 fun (t : Bool) =>
                  k0 t
def s_laws_FnExactPubDb : Sig Unit := ⟨[.borrow y7 true, .borrow y14 true], [false], fun vals ext k => av vals y7 fun aP vals => av vals y14 fun aD vals => nl vals <| nl ext <| laws_FnExactPubDb aP aD (fun (r0 : Bool) => k [⟨.bool, false, r0, []⟩] [] [])⟩
theorem E_laws_FnExactPubDb (aP : List ByteArray) (a_aP : Bool) (t_aP : List Tag) (aD : qF × List qR) (a_aD : Bool) (t_aD : List Tag) (k : qK) : funC g_laws_FnExactPubDb [xlaws_FnExactPubDb_p0, xlaws_FnExactPubDb_p1, xlaws_FnExactPubDb_p2] (.t .o (.t .o (.t .o (.t .o (.t .o (.t .o (.t (.x 0) (.t .o (.t .o (.t .o (.t .o (.t .o (.t .o (.x 2)))))))))))))) false Tryz.f4 [.borrow y7 true, .borrow y14 true] [false] [⟨y7, a_aP, aP, t_aP⟩, ⟨y14, a_aD, aD, t_aD⟩] [] k = laws_FnExactPubDb aP aD (fun (r0 : Bool) => k [⟨.bool, false, r0, []⟩] [] []) := by kernel_rfl
theorem S_laws_FnExactPubDb : Sound Tryz.prog 4 s_laws_FnExactPubDb := sound_of (Γ := g_laws_FnExactPubDb) (X := [xlaws_FnExactPubDb_p0, xlaws_FnExactPubDb_p1, xlaws_FnExactPubDb_p2]) (ht := (.t .o (.t .o (.t .o (.t .o (.t .o (.t .o (.t (.x 0) (.t .o (.t .o (.t .o (.t .o (.t .o (.t .o (.x 2))))))))))))))) (fz := false) (c := c_laws_FnExactPubDb) follows tysOk (fns_cons S_laws_szDb (fns_cons S_laws_toDb (fns_cons S_laws_eqDb (fns_cons S_laws_markDb (fns_cons S_laws_szPub (fns_cons S_spec_PubDb (fns_cons S_laws_toPub (fns_cons S_impl_PubDb (fns_cons S_laws_eqPub (fns_cons S_laws_markPub (fns_cons S_laws_heldDb fns_nil))))))))))) (OrOk.mk trivial ((OrOk.mk trivial ((OrOk.mk trivial ((OrOk.mk trivial ((OrOk.mk trivial ((OrOk.mk trivial ((OrOk.mk (OrOk.x_mk (fun W0 M hnp => olaws_FnExactPubDb_p0 (W0 := W0) (M := M) hnp)) ((OrOk.mk trivial ((OrOk.mk trivial ((OrOk.mk trivial ((OrOk.mk trivial ((OrOk.mk trivial ((OrOk.mk trivial (OrOk.x_mk (fun W0 M hnp => olaws_FnExactPubDb_p2 (W0 := W0) (M := M) hnp))))))))))))))))))))))))))) Tryz.func4 (by kernel_rfl) (by kernel_rfl) (by decide) (by
 intro vals ext k r h
 obtain ⟨aP, a_aP, t_aP, vals, rfl, h1⟩ := av_some h
 obtain ⟨aD, a_aD, t_aD, vals, rfl, h2⟩ := av_some h1
 obtain ⟨rfl, h3⟩ := nl_some h2
 obtain ⟨rfl, h4⟩ := nl_some h3
 exact (E_laws_FnExactPubDb aP a_aP t_aP aD a_aD t_aD k).trans h4)
end Go.PI.G
end
namespace Go.PI.G
open Go Go.PI

abbrev V := Int × Int × ByteArray
theorem wu8_of (n : Int) : wu8 n = n % 256 := by
  unfold wu8 IntKind.wrap
  simp [IntKind.bits, IntKind.signed]
theorem wu8_small {n : Int} (h : 0 ≤ n ∧ n < 256) : wu8 n = n := by rw [wu8_of]; omega
theorem toBytes_len (s : ByteArray) : (toBytes s).length = s.size := by unfold toBytes; simp
theorem ofBytes_size (l : List Int) : (ofBytes l).size = l.length := by
  show ((l.map fun n => UInt8.ofNat n.toNat).toArray).size = _
  simp
/-- A row of bytes. -/
def isB (l : List Int) : Prop := ∀ x ∈ l, 0 ≤ x ∧ x < 256
theorem toBytes_isB (s : ByteArray) : isB (toBytes s) := by
  intro x hx
  unfold toBytes at hx
  obtain ⟨b, _, rfl⟩ := List.mem_map.1 hx
  have := UInt8.toNat_lt b
  omega
theorem ofBytes_toBytes (s : ByteArray) : ofBytes (toBytes s) = s := by
  unfold ofBytes toBytes
  rw [List.map_map]
  have : (fun b : UInt8 => b) = (fun n : Int => UInt8.ofNat n.toNat) ∘ fun b : UInt8 => (b.toNat : Int) := by
    funext b; simp
  rw [← this]
  simp
theorem toBytes_ofBytes {l : List Int} (h : isB l) : toBytes (ofBytes l) = l := by
  unfold ofBytes toBytes
  simp only [List.map_map]
  have : l.map ((fun b : UInt8 => (b.toNat : Int)) ∘ fun n : Int => UInt8.ofNat n.toNat) = l.map id := by
    refine List.map_congr_left fun x hx => ?_
    have := h x hx
    simp only [Function.comp, id]
    rw [UInt8.toNat_ofNat']
    omega
  rw [this, List.map_id]
theorem sEq_iff (a b : ByteArray) : sEq a b = true ↔ a = b := by
  unfold sEq
  rw [beq_iff_eq]
  constructor
  · intro h
    rw [ByteArray.ext_iff]
    have h1 : a.toList = a.data.toList := by rw [ByteArray.toList_eq]
    have h2 : b.toList = b.data.toList := by rw [ByteArray.toList_eq]
    rw [h1, h2] at h
    exact Array.toList_inj.1 h
  · rintro rfl; rfl
theorem sNe_iff (a b : ByteArray) : sNe a b = false ↔ a = b := by
  unfold sNe
  rw [Bool.not_eq_false']
  exact sEq_iff a b
theorem ofBytes_inj {l m : List Int} (hl : isB l) (hm : isB m) (h : ofBytes l = ofBytes m) : l = m := by
  rw [← toBytes_ofBytes hl, h, toBytes_ofBytes hm]

/-! ### right values -/
def numB (n : Int) : Bool := decide (-1099511627775 ≤ n ∧ n ≤ 1099511627775)
def valB (v : V) : Bool :=
  bif v.1 == 0 then (v.2.1 == 0) && sEq v.2.2 eS
  else bif v.1 == 1 then ((v.2.1 == 0) || (v.2.1 == 1)) && sEq v.2.2 eS
  else bif v.1 == 2 then numB v.2.1 && sEq v.2.2 eS
  else bif v.1 == 3 then (v.2.1 == 0) && decide (nI v.2.2.size ≤ 30)
  else false
theorem or_within (x : Int) : decide (0 ≤ x ∧ x ≤ 1) = ((x == 0) || (x == 1)) := by
  by_cases h : 0 ≤ x ∧ x ≤ 1
  · rw [decide_eq_true h]
    have : x = 0 ∨ x = 1 := by omega
    rcases this with rfl | rfl <;> rfl
  · rw [decide_eq_false h]
    have h1 : (x == 0) = false := by simp; omega
    have h2 : (x == 1) = false := by simp; omega
    rw [h1, h2]; rfl
/-- What a right value is. -/
theorem valB_cases {v : V} (h : valB v = true) : v = (0, 0, eS) ∨ (∃ n, (n = 0 ∨ n = 1) ∧ v = (1, n, eS)) ∨ (∃ n, (-1099511627775 ≤ n ∧ n ≤ 1099511627775) ∧ v = (2, n, eS)) ∨ ∃ s : ByteArray, s.size ≤ 30 ∧ v = (3, 0, s) := by
  obtain ⟨t, n, s⟩ := v
  unfold valB at h
  simp only at h
  cases h0 : t == 0
  · cases h1 : t == 1
    · cases h2 : t == 2
      · cases h3 : t == 3
        · rw [h0, h1, h2, h3] at h; cases h
        · rw [h0, h1, h2, h3] at h
          simp only [cond_false, cond_true, Bool.and_eq_true, beq_iff_eq, decide_eq_true_eq] at h h3
          obtain ⟨rfl, h⟩ := h
          subst h3
          exact .inr (.inr (.inr ⟨s, by unfold nI at h; omega, rfl⟩))
      · rw [h0, h1, h2] at h
        simp only [cond_false, cond_true, Bool.and_eq_true, beq_iff_eq] at h h2
        obtain ⟨h, hs⟩ := h
        rw [sEq_iff] at hs
        subst hs; subst h2
        exact .inr (.inr (.inl ⟨n, of_decide_eq_true h, rfl⟩))
    · rw [h0, h1] at h
      simp only [cond_false, cond_true, Bool.and_eq_true, Bool.or_eq_true, beq_iff_eq] at h h1
      obtain ⟨h, hs⟩ := h
      rw [sEq_iff] at hs
      subst hs; subst h1
      exact .inr (.inl ⟨n, h, rfl⟩)
  · rw [h0] at h
    simp only [cond_true, Bool.and_eq_true, beq_iff_eq] at h h0
    obtain ⟨h, hs⟩ := h
    rw [sEq_iff] at hs
    subst hs; subst h0; subst h
    exact .inl rfl
theorem valB_size {v : V} (h : valB v = true) : v.2.2.size ≤ 30 := by
  rcases valB_cases h with rfl | ⟨n, _, rfl⟩ | ⟨n, _, rfl⟩ | ⟨s, hs, rfl⟩
  · show (0 : Nat) ≤ 30; omega
  · show (0 : Nat) ≤ 30; omega
  · show (0 : Nat) ≤ 30; omega
  · exact hs

/-! ### bytes -/
/-- A number in so many bytes. -/
def be (n : Nat) : Nat → List Int
  | 0 => []
  | s + 1 => ((n / 256 ^ s % 256 : Nat) : Int) :: be n s
theorem be_len (n : Nat) : (s : Nat) → (be n s).length = s
  | 0 => rfl
  | s + 1 => by simp [be, be_len n s]
theorem be_isB (n : Nat) : (s : Nat) → isB (be n s)
  | 0 => by intro x hx; cases hx
  | s + 1 => by
    intro x hx
    rcases List.mem_cons.1 hx with rfl | hx
    · omega
    · exact be_isB n s x hx
theorem isB_append {l m : List Int} (hl : isB l) (hm : isB m) : isB (l ++ m) := fun x hx => (List.mem_append.1 hx).elim (hl x) (hm x)
theorem isB_cons {x : Int} {l : List Int} (hx : 0 ≤ x ∧ x < 256) (hl : isB l) : isB (x :: l) := fun y hy => (List.mem_cons.1 hy).elim (fun h => h ▸ hx) (hl y)
theorem isB_nil : isB [] := fun _ h => by cases h
def wB (v : V) : List Int :=
  bif v.1 == 1 then [1, v.2.1]
  else bif v.1 == 2 then 2 :: (bif decide (v.2.1 < 0) then 1 else 0) :: be v.2.1.natAbs 6
  else bif v.1 == 3 then 3 :: nI v.2.2.size :: toBytes v.2.2
  else [0]
def rowW (l : List V) : List Int := nI l.length :: l.flatMap wB
theorem wB_len {v : V} (h : valB v = true) : (wB v).length ≤ 32 := by
  rcases valB_cases h with rfl | ⟨n, _, rfl⟩ | ⟨n, _, rfl⟩ | ⟨s, hs, rfl⟩
  · show (1 : Nat) ≤ 32; omega
  · show (2 : Nat) ≤ 32; omega
  · show (2 :: (bif decide (n < 0) then 1 else 0) :: be n.natAbs 6).length ≤ 32
    simp [be_len]
  · show (3 :: nI s.size :: toBytes s).length ≤ 32
    simp [toBytes_len]; omega
theorem wB_isB {v : V} (h : valB v = true) : isB (wB v) := by
  rcases valB_cases h with rfl | ⟨n, hn, rfl⟩ | ⟨n, _, rfl⟩ | ⟨s, hs, rfl⟩
  · exact isB_cons (by omega) isB_nil
  · exact isB_cons (by omega) (isB_cons (x := n) (by omega) isB_nil)
  · refine isB_cons (x := 2) (by omega) (isB_cons ?_ (be_isB _ _))
    cases decide (n < 0) <;> simp
  · exact isB_cons (x := 3) (by omega) (isB_cons (x := nI s.size) (by unfold nI; omega) (toBytes_isB s))
theorem flat_len : (l : List V) → (∀ v ∈ l, valB v = true) → (l.flatMap wB).length ≤ 32 * l.length
  | [], _ => by simp
  | v :: l, h => by
    have h1 := wB_len (h v (by simp))
    have h2 := flat_len l fun v hv => h v (List.mem_cons_of_mem _ hv)
    simp only [List.flatMap_cons, List.length_append, List.length_cons]
    omega
theorem flat_isB : (l : List V) → (∀ v ∈ l, valB v = true) → isB (l.flatMap wB)
  | [], _ => isB_nil
  | v :: l, h => by
    rw [List.flatMap_cons]
    exact isB_append (wB_isB (h v (by simp))) (flat_isB l fun v hv => h v (List.mem_cons_of_mem _ hv))
theorem rowW_isB {l : List V} (hl : l.length ≤ 255) (h : ∀ v ∈ l, valB v = true) : isB (rowW l) := isB_cons (by unfold nI; omega) (flat_isB l h)
end Go.PI.G
namespace Go.PI.G
open Go Go.PI Go.Proofs

theorem within_eq (x lo hi : Int) (k : Bool → Res) : impl_within x lo hi k = k (decide (lo ≤ x ∧ x ≤ hi)) := by
  unfold impl_within
  by_cases h : x ≥ lo
  · rw [decide_eq_true h, cond_true]
    congr 1
    exact decide_eq_decide.2 (by omega)
  · rw [decide_eq_false h, cond_false]
    congr 1
    exact (decide_eq_false (by omega)).symm
theorem l01Num_eq (n : Int) (k : Bool → Res) : spec_l01Num n k = k (numB n) := within_eq n _ _ k
theorem specVal_eq (v : V) (k : Bool → Res) : spec_ValOk v k = k (valB v) := by
  unfold spec_ValOk valB
  cases v.1 == 0
  · cases v.1 == 1
    · cases v.1 == 2
      · cases v.1 == 3
        · rfl
        · cases v.2.1 == 0 <;> rfl
      · rw [cond_false, cond_false, cond_true, l01Num_eq]
        cases numB v.2.1 <;> rfl
    · cases v.2.1 == 0
      · cases v.2.1 == 1 <;> rfl
      · rfl
  · cases v.2.1 == 0 <;> rfl
theorem implVal_eq (v : V) (k : Bool → Res) : impl_ValOk v k = k (valB v) := by
  unfold impl_ValOk valB
  simp only [within_eq, or_within]
  cases v.1 == 0
  · cases v.1 == 1
    · cases v.1 == 2
      · cases v.1 == 3
        · rfl
        · cases v.2.1 == 0 <;> rfl
      · rw [cond_false, cond_false, cond_true, cond_false, cond_false, cond_true]
        show (bif numB v.2.1 then _ else _) = _
        cases numB v.2.1 <;> rfl
    · cases v.2.1 == 0
      · cases v.2.1 == 1 <;> rfl
      · rfl
  · cases v.2.1 == 0 <;> rfl
end Go.PI.G
namespace Go.PI.G
open Go Go.PI

/-- How much a value holds. -/
def msr : (τ : Ty) → El τ → Nat
  | .str, s => ByteArray.size s
  | .slice e, l => List.length (α := El e) l + (List.map (msr e) l).sum
  | .pair a b, x => msr a x.1 + msr b x.2
  | .int _, _ => 0
  | .bool, _ => 0
  | .unit, _ => 0
/-- How many marks it takes where it stands in a row; where it is given by value. -/
def wgt : (τ : Ty) → El τ → Nat
  | .str, _ => 1
  | .slice e, l => (List.map (wgt e) l).sum
  | .pair a b, x => wgt a x.1 + wgt b x.2
  | .int _, _ => 1
  | .bool, _ => 1
  | .unit, _ => 0
def wgtT : (τ : Ty) → El τ → Nat
  | .slice e, l => (List.map (wgt e) l).sum
  | .pair a b, x => wgtT a x.1 + wgtT b x.2
  | .str, _ => 0
  | .int _, _ => 0
  | .bool, _ => 0
  | .unit, _ => 0
def width : Ty → Nat
  | .slice e => width e
  | .pair a b => width a + width b
  | .unit => 0
  | _ => 1

theorem sum_le_mul {α : Type} (f g : α → Nat) (c : Nat) (h : ∀ x, f x ≤ (g x + 1) * c) : (l : List α) → (l.map f).sum ≤ (l.length + (l.map g).sum) * c
  | [] => by simp
  | x :: l => by
    have h1 := h x
    have h2 := sum_le_mul f g c h l
    simp only [List.map_cons, List.sum_cons, List.length_cons]
    have : (l.length + 1 + (g x + (l.map g).sum)) * c = (g x + 1) * c + (l.length + (l.map g).sum) * c := by
      rw [← Nat.add_mul]; congr 1; omega
    omega
theorem wgt_le : (τ : Ty) → (x : El τ) → wgt τ x ≤ (msr τ x + 1) * width τ
  | .str, _ => by simp [wgt, width]
  | .int _, _ => by simp [wgt, width]
  | .bool, _ => by simp [wgt, width]
  | .unit, _ => by simp [wgt]
  | .pair a b, x => by
    have h1 := wgt_le a x.1
    have h2 := wgt_le b x.2
    simp only [wgt, msr, width, Nat.mul_add]
    have e1 : (msr a x.1 + 1) * width a ≤ (msr a x.1 + msr b x.2 + 1) * width a := Nat.mul_le_mul_right _ (by omega)
    have e2 : (msr b x.2 + 1) * width b ≤ (msr a x.1 + msr b x.2 + 1) * width b := Nat.mul_le_mul_right _ (by omega)
    omega
  | .slice e, l => by
    have h1 := sum_le_mul (wgt e) (msr e) (width e) (wgt_le e) l
    simp only [wgt, msr, width]
    have e1 : (List.length (α := El e) l + (List.map (msr e) l).sum) * width e ≤ (List.length (α := El e) l + (List.map (msr e) l).sum + 1) * width e := Nat.mul_le_mul_right _ (by omega)
    exact Nat.le_trans h1 e1
theorem wgtT_le_wgt : (τ : Ty) → (x : El τ) → wgtT τ x ≤ wgt τ x
  | .str, _ => Nat.zero_le _
  | .int _, _ => Nat.zero_le _
  | .bool, _ => Nat.zero_le _
  | .unit, _ => Nat.le_refl _
  | .pair a b, x => Nat.add_le_add (wgtT_le_wgt a x.1) (wgtT_le_wgt b x.2)
  | .slice e, l => Nat.le_refl _

/-! ### marks -/
def dgt (x : Int) : ByteArray := ofBytes [wu8 (wi64 (48 + x))]
theorem dgt_size (x : Int) : (dgt x).size = 1 := rfl
def digt (n : Nat) : ByteArray := if h : n < 10 then dgt n else digt (n / 10) ++ dgt ((n % 10 : Nat) : Int)
termination_by n
decreasing_by omega
/-- The text of a mark. -/
def mT (k : Int) : ByteArray := (⟨#[109]⟩ : ByteArray) ++ digt k.toNat
def mk : (τ : Ty) → El τ → Int → El τ
  | .str, _, k => mT k
  | .slice e, l, k => mkL (wgt e) (mk e) l k
  | .pair a b, x, k => (mk a x.1 k, mk b x.2 (k + (wgt a x.1 : Int)))
  | .int .u8, _, k => wu8 k
  | .int _, _, k => k
  | .bool, _, k => (Int.tmod k 3 == 0)
  | .unit, x, _ => x
def mkT : (τ : Ty) → El τ → Int → El τ
  | .slice e, l, k => mkL (wgt e) (mk e) l k
  | .pair a b, x, k => (mkT a x.1 k, mkT b x.2 (k + (wgtT a x.1 : Int)))
  | .str, x, _ => x
  | .int _, x, _ => x
  | .bool, x, _ => x
  | .unit, x, _ => x

theorem msr_slice (e : Ty) (l : List (El e)) : msr (.slice e) l = l.length + (l.map (msr e)).sum := rfl
theorem msr_len {e : Ty} {l : List (El e)} {n : Nat} (h : msr (.slice e) l ≤ n) : l.length ≤ n := by
  have : msr (.slice e) l = l.length + (l.map (msr e)).sum := rfl
  omega
theorem msr_mem {e : Ty} {l : List (El e)} {n : Nat} (h : msr (.slice e) l ≤ n) {x : El e} (hx : x ∈ l) : msr e x ≤ n := by
  have h1 : msr (.slice e) l = l.length + (l.map (msr e)).sum := rfl
  have := le_sum (msr e) l x hx
  omega
/-- A small value: all its marks are numbers without trouble. -/
theorem wgt_small {τ : Ty} {x : El τ} (hw : width τ ≤ 200) (h : msr τ x ≤ 1048576) : wgt τ x ≤ 209715400 := by
  have h1 := wgt_le τ x
  have h2 : (msr τ x + 1) * width τ ≤ 1048577 * 200 := Nat.mul_le_mul (by omega) hw
  omega
theorem wgt_slice (e : Ty) (l : List (El e)) : wgt (.slice e) l = (l.map (wgt e)).sum := rfl
theorem wgt_pair (a b : Ty) (x : El (.pair a b)) : wgt (.pair a b) x = wgt a x.1 + wgt b x.2 := rfl
theorem wgt_int (k : IntKind) (x : El (.int k)) : wgt (.int k) x = 1 := rfl
theorem wgt_bool (x : El .bool) : wgt .bool x = 1 := rfl
theorem wgt_str (x : El .str) : wgt .str x = 1 := rfl
theorem mk_pair (a b : Ty) (x : El (.pair a b)) (k : Int) : mk (.pair a b) x k = (mk a x.1 k, mk b x.2 (k + (wgt a x.1 : Int))) := rfl
theorem mk_slice (e : Ty) (l : El (.slice e)) (k : Int) : mk (.slice e) l k = mkL (wgt e) (mk e) l k := rfl
theorem mk_i64 (x : El (.int .i64)) (k : Int) : mk (.int .i64) x k = k := rfl
theorem mk_u8 (x : El (.int .u8)) (k : Int) : mk (.int .u8) x k = wu8 k := rfl
theorem mk_bool (x : El .bool) (k : Int) : mk .bool x k = (Int.tmod k 3 == 0) := rfl
theorem mk_str (x : El .str) (k : Int) : mk .str x k = mT k := rfl
theorem mkT_pair (a b : Ty) (x : El (.pair a b)) (k : Int) : mkT (.pair a b) x k = (mkT a x.1 k, mkT b x.2 (k + (wgtT a x.1 : Int))) := rfl
theorem mkT_slice (e : Ty) (l : El (.slice e)) (k : Int) : mkT (.slice e) l k = mkL (wgt e) (mk e) l k := rfl
theorem mkT_int (i : IntKind) (x : El (.int i)) (k : Int) : mkT (.int i) x k = x := rfl
theorem mkT_bool (x : El .bool) (k : Int) : mkT .bool x k = x := rfl
theorem mkT_str (x : El .str) (k : Int) : mkT .str x k = x := rfl
theorem wgtT_pair (a b : Ty) (x : El (.pair a b)) : wgtT (.pair a b) x = wgtT a x.1 + wgtT b x.2 := rfl
theorem wgtT_slice (e : Ty) (l : El (.slice e)) : wgtT (.slice e) l = wgt (.slice e) l := rfl
theorem wgtT_int (i : IntKind) (x : El (.int i)) : wgtT (.int i) x = 0 := rfl
theorem wgtT_bool (x : El .bool) : wgtT .bool x = 0 := rfl
theorem wgtT_str (x : El .str) : wgtT .str x = 0 := rfl
theorem nth_upd {α : Type} (z : α) (l : List α) (i : Nat) (v : α) (h : i < l.length) : nth z (upd l (i : Int) v) (i : Int) = v := by
  rw [upd_nat, nth_nat _ _ _ (by simpa using h)]; simp
theorem upd_upd {α : Type} (l : List α) (i : Int) (u v : α) : upd (upd l i u) i v = upd l i v := by
  unfold upd; simp
theorem upd_len {α : Type} (l : List α) (i : Int) (v : α) : (upd l i v).length = l.length := by unfold upd; simp
theorem upd_eq {α : Type} (l : List α) (i : Nat) (v w : α) (h : v = w) : upd l (i : Int) v = l.set i w := by rw [upd_nat, h]
end Go.PI.G
namespace Go.PI.G
open Go Go.PI

theorem szR_zero {left : Int} (h : 0 ≤ left) : szR left 0 = left := by unfold szR; rw [if_pos (by omega)]; omega
/-- A budget less a text, less a part; what is left goes on. -/
theorem sz_str {left : Int} {n rest : Nat} {F : Int → Res} {k : Int → Res} (h0 : 0 ≤ left) (h1 : left ≤ 1048576) (hn : n ≤ maxLen) (hF : (n : Int) ≤ left → F (left - n) = k (szR (left - n) rest)) :
    (bif decide (wi64 (left - nI n) < 0) then k (-1) else F (wi64 (left - nI n))) = k (szR left (n + rest)) := by
  unfold maxLen at hn
  rw [wi64_of (by unfold nI; omega) (by unfold nI; omega)]
  unfold nI
  by_cases h : (n : Int) ≤ left
  · rw [dec_lt_f (by omega), cond_false, hF h, szR_step h]
  · rw [dec_lt_t (by omega), cond_true, szR_stop h]
theorem sz_sub {left : Int} {n rest : Nat} {F : Int → Res} {k : Int → Res} (h0 : 0 ≤ left) (h1 : left ≤ 1048576) (hF : (n : Int) ≤ left → F (left - n) = k (szR (left - n) rest)) :
    (bif decide (szR left n < 0) then k (-1) else F (szR left n)) = k (szR left (n + rest)) := by
  by_cases h : (n : Int) ≤ left
  · rw [szR_pos h, dec_lt_f (by omega), cond_false, hF h, szR_step h]
  · rw [szR_neg h, dec_lt_t (by omega), cond_true, szR_stop h]
theorem sz_end {left : Int} {k : Int → Res} (h0 : 0 ≤ left) : k left = k (szR left 0) := by rw [szR_zero h0]

theorem inb_nat {i n : Nat} (h : i < n) : inb (i : Int) n = true := inb_of (by omega) (by omega)
theorem wi64_in {n : Int} (h : -9223372036854775808 ≤ n ∧ n < 9223372036854775808) : wi64 n = n := wi64_of h.1 h.2
theorem tdiv_nat (n : Nat) : Int.tdiv (n : Int) 10 = ((n / 10 : Nat) : Int) := by
  rw [Int.tdiv_eq_ediv_of_nonneg (by omega)]; omega
theorem tmod_nat (n : Nat) : Int.tmod (n : Int) 10 = ((n % 10 : Nat) : Int) := by
  rw [Int.tmod_eq_emod_of_nonneg (by omega)]; omega
theorem digt_lo {n : Nat} (h : n < 10) : digt n = dgt n := by rw [digt, dif_pos h]
theorem digt_hi {n : Nat} (h : ¬ n < 10) : digt n = digt (n / 10) ++ dgt ((n % 10 : Nat) : Int) := by rw [digt, dif_neg h]
theorem digt_size : ∀ (d n : Nat), n < 10 ^ (d + 1) → (digt n).size ≤ d + 1
  | 0, n, h => by rw [digt_lo (by omega), dgt_size]; exact Nat.le_refl _
  | d + 1, n, h => by
    by_cases h1 : n < 10
    · rw [digt_lo h1, dgt_size]; omega
    · rw [digt_hi h1, ByteArray.size_append, dgt_size]
      have : n / 10 < 10 ^ (d + 1) := Nat.div_lt_of_lt_mul (by rw [Nat.pow_succ] at h; omega)
      have := digt_size d (n / 10) this
      omega
theorem eS_app (s : ByteArray) : s ++ eS = s := by
  show s ++ ByteArray.empty = s
  simp
theorem app_eS (s : ByteArray) : eS ++ s = s := by
  show ByteArray.empty ++ s = s
  simp
end Go.PI.G
namespace Go.PI.G
open Go Go.PI

abbrev C := ByteArray × Int × Bool × Bool × V
abbrev T := ByteArray × List C × List ByteArray
abbrev DB := List T × List (List (List V))
abbrev yV : Ty := .pair (.int .i64) (.pair (.int .i64) .str)
abbrev yC : Ty := .pair .str (.pair (.int .i64) (.pair .bool (.pair .bool yV)))
abbrev yT : Ty := .pair .str (.pair (.slice yC) (.slice .str))
abbrev yDB : Ty := .pair (.slice yT) (.slice (.slice (.slice yV)))
abbrev zV : V := (0, 0, eS)
abbrev zC : C := (eS, 0, false, false, 0, 0, eS)
abbrev zT : T := (eS, [], [])

theorem idxI_range {α : Type} (p : α → Bool) (l : List α) : -1 ≤ idxI p l ∧ idxI p l < (l.length : Int) := by
  unfold idxI
  cases h : l.findIdx? p with
  | none => simp only []; omega
  | some i =>
    have := (List.findIdx?_eq_some_iff_findIdx_eq.1 h).1
    simp only []; omega
theorem anyI_congr {α : Type} {f g : Nat → α → Bool} : (l : List α) → (i : Nat) → (∀ (j : Nat) (h : j < l.length), f (i + j) l[j] = g (i + j) l[j]) → anyI f i l = anyI g i l
  | [], _, _ => rfl
  | x :: l, i, h => by
    simp only [anyI]
    have h0 : f i x = g i x := h 0 (by simp)
    have h1 := anyI_congr (f := f) (g := g) l (i + 1) fun j hj => by
      have := h (j + 1) (by simpa using hj)
      rw [show i + 1 + j = i + (j + 1) by omega]
      simpa using this
    rw [h0, h1]
theorem anyI_false {α : Type} {f : Nat → α → Bool} : (l : List α) → (i : Nat) → anyI f i l = false → ∀ (j : Nat) (h : j < l.length), f (i + j) l[j] = false
  | [], _, _, j, h => by simp at h
  | x :: l, i, h, j, hj => by
    simp only [anyI, Bool.or_eq_false_iff] at h
    cases j with
    | zero => simpa using h.1
    | succ j =>
      have := anyI_false l (i + 1) h.2 j (by simpa using hj)
      rw [show i + (j + 1) = i + 1 + j by omega]
      simpa using this
theorem anyI_eq_any {α : Type} (f : α → Bool) : (l : List α) → (i : Nat) → anyI (fun _ x => f x) i l = l.any f
  | [], _ => rfl
  | x :: l, i => by simp only [anyI, List.any_cons]; rw [anyI_eq_any f l]

/-! ### words, values -/
def wordB (s : ByteArray) : Bool := !((toBytes s).any fun b => decide (b < 97) || decide (b > 122)) && (decide (1 ≤ s.size) && decide (s.size ≤ 8))
def veq (a b : V) : Bool := (a.1 == b.1) && ((a.2.1 == b.2.1) && sEq a.2.2 b.2.2)
theorem veq_iff (a b : V) : veq a b = true ↔ a = b := by
  obtain ⟨a1, a2, a3⟩ := a
  obtain ⟨b1, b2, b3⟩ := b
  unfold veq
  simp only [Bool.and_eq_true, beq_iff_eq, sEq_iff, Prod.mk.injEq]
def vlt (a b : V) : Bool := valB a && (valB b && (bif a.1 != b.1 then decide (a.1 < b.1) else bif a.2.1 != b.2.1 then decide (a.2.1 < b.2.1) else sLt a.2.2 b.2.2))

/-! ### columns, tables -/
def nullB (v : V) : Bool := (v.1 == 0) && ((v.2.1 == 0) && sEq v.2.2 eS)
def colB (c : C) : Bool := wordB c.1 && (decide (1 ≤ c.2.1 ∧ c.2.1 ≤ 3) && (valB c.2.2.2.2 && (bif c.2.2.2.1 then (c.2.2.2.2.1 == c.2.1) || ((c.2.2.2.2.1 == 0) && !c.2.2.1) else nullB c.2.2.2.2)))
def colAt (l : List C) (n : ByteArray) : Int := idxI (fun c => sEq c.1 n) l
theorem colAt_range (l : List C) (n : ByteArray) : -1 ≤ colAt l n ∧ colAt l n < (l.length : Int) := idxI_range _ _
theorem valB_null : valB (0, 0, eS) = true := by
  show (((0 : Int) == 0) && sEq eS eS) = true
  rw [sEq_self]; rfl
theorem nullB_null : nullB (0, 0, eS) = true := by
  show (((0 : Int) == 0) && (((0 : Int) == 0) && sEq eS eS)) = true
  rw [sEq_self]; rfl
def keysUp (l : List C) : Int → List ByteArray → Bool
  | _, [] => true
  | last, k :: ks => !decide (colAt l k ≤ last) && ((nth zC l (colAt l k)).2.2.1 && keysUp l (colAt l k) ks)
def colsB (l : List C) : Bool := !anyI (fun i c => !colB c || (colAt l c.1 != (i : Int))) 0 l
def tabB (t : T) : Bool := (wordB t.1 && (decide (1 ≤ t.2.1.length) && (decide (t.2.1.length ≤ 8) && decide (1 ≤ t.2.2.length)))) && (colsB t.2.1 && keysUp t.2.1 (-1) t.2.2)
def tabAt (l : List T) (n : ByteArray) : Int := idxI (fun t => sEq t.1 n) l
def catB (c : List T) : Bool := decide (c.length ≤ 6) && !anyI (fun i t => !tabB t || (decide (0 < i) && sGe (nth zT c ((i : Int) - 1)).1 t.1)) 0 c

/-! ### rows, stores -/
def fits (c : C) (v : V) : Bool := valB v && ((v.1 == c.2.1) || ((v.1 == 0) && !c.2.2.1))
def rowB (l : List C) (r : List V) : Bool := decide (r.length = l.length) && !anyI (fun i c => !fits c (nth zV r (i : Int))) 0 l
def keyV (t : T) (r : List V) : List V := t.2.2.map fun k => nth zV r (colAt t.2.1 k)
def klt : List V → List V → Bool
  | [], [] => false
  | [], _ :: _ => true
  | _ :: _, [] => false
  | x :: xs, y :: ys => bif veq x y then klt xs ys else vlt x y
def rowsB (t : T) (l : List (List V)) : Bool := tabB t && (decide (l.length ≤ 60) && !anyI (fun i r => !rowB t.2.1 r || (decide (0 < i) && !klt (keyV t (nth [] l ((i : Int) - 1))) (keyV t r))) 0 l)
def dbB (d : DB) : Bool := catB d.1 && (decide (d.2.length = d.1.length) && !anyI (fun i t => !rowsB t (nth [] d.2 (i : Int))) 0 d.1)
def keysV (d : DB) (n : ByteArray) : List (List V) := bif dbB d && !decide (tabAt d.1 n < 0) then (nth [] d.2 (tabAt d.1 n)).map (keyV (nth zT d.1 (tabAt d.1 n))) else []

/-! ### what a right table has -/
theorem tabB_parts {t : T} (h : tabB t = true) : wordB t.1 = true ∧ 1 ≤ t.2.1.length ∧ t.2.1.length ≤ 8 ∧ 1 ≤ t.2.2.length ∧ colsB t.2.1 = true ∧ keysUp t.2.1 (-1) t.2.2 = true := by
  unfold tabB at h
  simp only [Bool.and_eq_true, decide_eq_true_eq] at h
  exact ⟨h.1.1, h.1.2.1, h.1.2.2.1, h.1.2.2.2, h.2.1, h.2.2⟩
theorem keysUp_range {l : List C} : (ks : List ByteArray) → (last : Int) → -1 ≤ last → keysUp l last ks = true → ∀ k ∈ ks, 0 ≤ colAt l k ∧ colAt l k < (l.length : Int)
  | [], _, _, _, k, hk => by cases hk
  | q :: ks, last, h0, h, k, hk => by
    simp only [keysUp, Bool.and_eq_true, Bool.not_eq_true', decide_eq_false_iff_not] at h
    have h1 := (idxI_range (fun c : C => sEq c.1 q) l).2
    have h2 : 0 ≤ colAt l q := by omega
    rcases List.mem_cons.1 hk with rfl | hk
    · exact ⟨h2, h1⟩
    · exact keysUp_range ks (colAt l q) (by omega) h.2.2 k hk
theorem colB_ty {c : C} (h : colB c = true) : 1 ≤ c.2.1 ∧ c.2.1 ≤ 3 := by
  unfold colB at h
  simp only [Bool.and_eq_true, decide_eq_true_eq] at h
  exact h.2.1
theorem colsB_get {l : List C} (h : colsB l = true) (i : Nat) (hi : i < l.length) : colB l[i] = true := by
  unfold colsB at h
  have := anyI_false l 0 (by simpa using h) i hi
  simp only [Bool.or_eq_false_iff, Bool.not_eq_false'] at this
  exact this.1
end Go.PI.G
