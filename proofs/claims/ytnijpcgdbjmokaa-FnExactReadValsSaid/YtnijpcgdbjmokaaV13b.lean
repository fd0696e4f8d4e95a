/-
  Printed texts and plain laws. No conditions.
-/
import Derived.Test.YtnijpcgdbjmokaaV13a
set_option linter.unusedVariables false
set_option maxRecDepth 100000
noncomputable section
namespace Go.PI.G
open Go Go.PI Go.Proofs

/-! ### 122 loop.example/g00462/spec.GetNum -/
def c_spec_GetNum : Code := (Try.f122.body).getD .skip
def g_spec_GetNum : Env Unit := ⟨tys, [], 0⟩
def spec_GetNum_p0 (b : List Int) (at_ : Int) (size : Int) (k0 : Bool → Res) : Res :=
 bif decide (size < 1) then
  k0 true
 else
  bif decide (size > 6) then
   k0 true
  else
   bif decide (at_ < 0) then
    k0 true
   else
    k0 (decide (at_ > (wi64 ((nI (List.length b)) - size))))
def xspec_GetNum_p0 : Node Unit := fun σ k => rdN σ 44 <| rdV σ 0 y0 false [.S] fun b => rdV σ 1 (.int .i64) false [] fun at_ => rdV σ 2 (.int .i64) false [] fun size => spec_GetNum_p0 b at_ size (fun (t27 : Bool) => k .normal (mkS 44 44 [(0, .val ⟨y0, false, b, [.S]⟩), (1, .val ⟨(.int .i64), false, at_, []⟩), (2, .val ⟨(.int .i64), false, size, []⟩), (27, .val ⟨.bool, false, t27, []⟩)] []))
theorem espec_GetNum_p0 (b : List Int) (at_ : Int) (size : Int) (k : Kont Unit) : codeC g_spec_GetNum [] .o (Code.pl (Code.pl (Code.pr c_spec_GetNum))) (mkS 44 44 [(0, .val ⟨y0, false, b, [.S]⟩), (1, .val ⟨(.int .i64), false, at_, []⟩), (2, .val ⟨(.int .i64), false, size, []⟩)] []) (fun e σ => k e ((cutC ([0, 1, 2, 27], []) [] ([], [])) e σ)) = spec_GetNum_p0 b at_ size (fun (t27 : Bool) => k .normal (mkS 44 44 [(0, .val ⟨y0, false, b, [.S]⟩), (1, .val ⟨(.int .i64), false, at_, []⟩), (2, .val ⟨(.int .i64), false, size, []⟩), (27, .val ⟨.bool, false, t27, []⟩)] [])) := by kernel_rfl
theorem ospec_GetNum_p0 {W0 : Base} {M : Nat → Prop} (hnp : W0.np ≤ 0) : CodeOk Try.prog W0 M (Code.pl (Code.pl (Code.pr c_spec_GetNum))) xspec_GetNum_p0 := node_ok (code_sound follows tysOk (calls_ok fns_nil) hnp [] ((Code.pl (Code.pl (Code.pr c_spec_GetNum)))) .o trivial) (fg := (cutC ([0, 1, 2, 27], []) [] ([], []))) (cutC_le _ _ _) (by
 intro σ k r h
 obtain ⟨hn, h1⟩ := rdN_some h
 obtain ⟨b, hs0, h2⟩ := rdV_some h1
 obtain ⟨at_, hs1, h3⟩ := rdV_some h2
 obtain ⟨size, hs2, h4⟩ := rdV_some h3
 refine ⟨_, ?_, (espec_GetNum_p0 b at_ size k).trans h4⟩
 exact mkS_le hn ⟨hs0, hs1, hs2, trivial⟩ trivial)
def spec_GetNum_l1_r (b : List Int) (at_ : Int) (size : Int) (n_ : Int) (i : Int) (rec : Int → Int → Res) (k0 : Int → Res) : Res :=
 bif decide (i < size) then
  bif inb (wi64 (at_ + i)) (List.length b) then
   rec (wi64 ((wi64 (n_ * 256)) + (wi64 (nth 0 b (wi64 (at_ + i)))))) (wi64 (i + 1))
  else none
 else
  k0 n_
def spec_GetNum_l1_s (b : List Int) (at_ : Int) (size : Int) : (Int × Int) → (Int × Int → Res) → ((Int → Res)) → Res := fun v rec q => spec_GetNum_l1_r b at_ size v.1 v.2 (fun n_ i => rec (n_, i)) q
def spec_GetNum_l1 (b : List Int) (at_ : Int) (size : Int) (n : Nat) (n_ : Int) (i : Int) (k0 : Int → Res) : Res := iter (spec_GetNum_l1_s b at_ size) n (n_, i) (k0)
def xspec_GetNum_l1 : Node Unit := fun σ k => rdN σ 44 <| rdV σ 0 y0 false [.S] fun b => rdV σ 1 (.int .i64) false [] fun at_ => rdV σ 2 (.int .i64) false [] fun size => rdV σ 8 (.int .i64) false [] fun n_ => rdV σ 9 (.int .i64) false [] fun i => spec_GetNum_l1 b at_ size FUEL n_ i (fun (n_1 : Int) => k (.exit 0) (mkS 44 44 [(8, .val ⟨(.int .i64), false, n_1, []⟩)] []))
theorem espec_GetNum_l1 (b : List Int) (at_ : Int) (size : Int) (n : Nat) (v : Int × Int) (k : Kont Unit) : loopC (codeC g_spec_GetNum [xspec_GetNum_p0] .o (Code.pl (Code.pl (Code.pr (Code.pl (Code.pr (Code.pr (Code.pr c_spec_GetNum)))))))) (fun σ => σ.forget [0, 1, 2, 8, 9] []) (cutC ([], []) [(0, [8], [])] ([], [])) n (mkS 44 44 [(0, .val ⟨y0, false, b, [.S]⟩), (1, .val ⟨(.int .i64), false, at_, []⟩), (2, .val ⟨(.int .i64), false, size, []⟩), (8, .val ⟨(.int .i64), false, v.1, []⟩), (9, .val ⟨(.int .i64), false, v.2, []⟩)] []) k = iter (spec_GetNum_l1_s b at_ size) n v ((fun (k : Kont Unit) => (((fun (n_1 : Int) => k (.exit 0) (mkS 44 44 [(8, .val ⟨(.int .i64), false, n_1, []⟩)] []))) : (Int → Res))) k) := loop_eq (fun v : Int × Int => (mkS 44 44 [(0, .val ⟨y0, false, b, [.S]⟩), (1, .val ⟨(.int .i64), false, at_, []⟩), (2, .val ⟨(.int .i64), false, size, []⟩), (8, .val ⟨(.int .i64), false, v.1, []⟩), (9, .val ⟨(.int .i64), false, v.2, []⟩)] [])) (spec_GetNum_l1_s b at_ size) (fun (k : Kont Unit) => (((fun (n_1 : Int) => k (.exit 0) (mkS 44 44 [(8, .val ⟨(.int .i64), false, n_1, []⟩)] []))) : (Int → Res))) (fun v rec k => by kernel_rfl) n v k
theorem ospec_GetNum_l1 {W0 : Base} {M : Nat → Prop} (hnp : W0.np ≤ 0) : CodeOk Try.prog W0 M (Code.pl (Code.pr (Code.pl (Code.pr (Code.pr (Code.pr c_spec_GetNum)))))) xspec_GetNum_l1 := show CodeOk Try.prog W0 M (Code.loop (Code.pl (Code.pl (Code.pr (Code.pl (Code.pr (Code.pr (Code.pr c_spec_GetNum)))))))) xspec_GetNum_l1 from loop_ok (code_sound follows tysOk (calls_ok fns_nil) hnp [xspec_GetNum_p0] (Code.pl (Code.pl (Code.pr (Code.pl (Code.pr (Code.pr (Code.pr c_spec_GetNum))))))) .o trivial) (ks := [0, 1, 2, 8, 9]) (bs := []) (fX := (cutC ([], []) [(0, [8], [])] ([], []))) (cutC_le _ _ _) FUEL (by
 intro σ k r h
 obtain ⟨hn, h1⟩ := rdN_some h
 obtain ⟨b, hs0, h2⟩ := rdV_some h1
 obtain ⟨at_, hs1, h3⟩ := rdV_some h2
 obtain ⟨size, hs2, h4⟩ := rdV_some h3
 obtain ⟨n_, hs8, h5⟩ := rdV_some h4
 obtain ⟨i, hs9, h6⟩ := rdV_some h5
 refine ⟨_, ?_, (espec_GetNum_l1 b at_ size FUEL (n_, i) k).trans h6⟩
 exact mkS_le hn ⟨hs0, hs1, hs2, hs8, hs9, trivial⟩ trivial)
def spec_GetNum (b : List Int) (at_ : Int) (size : Int) (k0 : Int → Bool → Res) : Res :=
 spec_GetNum_p0 b at_ size fun (t : Bool) =>
  bif t then
   k0 0 false
  else
   spec_GetNum_l1 b at_ size FUEL 0 0 fun (n_ : Int) =>
    k0 n_ true
def s_spec_GetNum : Sig Unit := ⟨[.look y0 false, .look (.int .i64) false, .look (.int .i64) false], [false, false], fun vals ext k => av vals y0 fun b vals => av vals (.int .i64) fun at_ vals => av vals (.int .i64) fun size vals => nl vals <| nl ext <| spec_GetNum b at_ size (fun (r0 : Int) (r1 : Bool) => k [⟨(.int .i64), false, r0, []⟩, ⟨.bool, false, r1, []⟩] [] [])⟩
theorem E_spec_GetNum (b : List Int) (a_b : Bool) (t_b : List Tag) (at_ : Int) (a_at_ : Bool) (t_at_ : List Tag) (size : Int) (a_size : Bool) (t_size : List Tag) (k : qK) : funC g_spec_GetNum [xspec_GetNum_p0, xspec_GetNum_l1] (.t .o (.t (.t (.x 0) .o) (.t .o (.t (.t .o (.t (.x 1) .o)) .o)))) false Try.f122 [.look y0 false, .look (.int .i64) false, .look (.int .i64) false] [false, false] [⟨y0, a_b, b, t_b⟩, ⟨(.int .i64), a_at_, at_, t_at_⟩, ⟨(.int .i64), a_size, size, t_size⟩] [] k = spec_GetNum b at_ size (fun (r0 : Int) (r1 : Bool) => k [⟨(.int .i64), false, r0, []⟩, ⟨.bool, false, r1, []⟩] [] []) := by kernel_rfl
theorem S_spec_GetNum : Sound Try.prog 122 s_spec_GetNum := sound_of (Γ := g_spec_GetNum) (X := [xspec_GetNum_p0, xspec_GetNum_l1]) (ht := (.t .o (.t (.t (.x 0) .o) (.t .o (.t (.t .o (.t (.x 1) .o)) .o))))) (fz := false) (c := c_spec_GetNum) follows tysOk fns_nil (OrOk.mk trivial ((OrOk.mk ((OrOk.mk (OrOk.x_mk (fun W0 M hnp => ospec_GetNum_p0 (W0 := W0) (M := M) hnp)) trivial)) ((OrOk.mk trivial ((OrOk.mk ((OrOk.mk trivial ((OrOk.mk (OrOk.x_mk (fun W0 M hnp => ospec_GetNum_l1 (W0 := W0) (M := M) hnp)) trivial)))) trivial))))))) Try.func122 (by kernel_rfl) (by kernel_rfl) (by decide) (by
 intro vals ext k r h
 obtain ⟨b, a_b, t_b, vals, rfl, h1⟩ := av_some h
 obtain ⟨at_, a_at_, t_at_, vals, rfl, h2⟩ := av_some h1
 obtain ⟨size, a_size, t_size, vals, rfl, h3⟩ := av_some h2
 obtain ⟨rfl, h4⟩ := nl_some h3
 obtain ⟨rfl, h5⟩ := nl_some h4
 exact (E_spec_GetNum b a_b t_b at_ a_at_ t_at_ size a_size t_size k).trans h5)

/-! ### 112 loop.example/g00462/spec.l06Take -/
def c_spec_l06Take : Code := (Try.f112.body).getD .skip
def g_spec_l06Take : Env Unit := ⟨tys, [(122, s_spec_GetNum)], 0⟩
def spec_l06Take (size : Int) (e0 : List Int × Int) (k0 : Int → (List Int × Int) → Res) : Res :=
 spec_GetNum e0.1 e0.2 size fun (r : Int) (r1 : Bool) =>
  k0 r (e0.1, wi64 (e0.2 + size))
def s_spec_l06Take : Sig Unit := ⟨[.ptr y4, .borrow (.int .i64) false], [false], fun vals ext k => av vals (.int .i64) fun size vals => nl vals <| ab ext y4 [.S] fun a e0 ext => nl ext <| spec_l06Take size e0 (fun (r0 : Int) (x0 : List Int × Int) => k [⟨(.int .i64), false, r0, []⟩] [] [⟨y4, a, x0, [.S]⟩])⟩
theorem E_spec_l06Take (size : Int) (a_size : Bool) (t_size : List Tag) (a : Bool) (e0 : List Int × Int) (k : qK) : funC g_spec_l06Take [] .o false Try.f112 [.ptr y4, .borrow (.int .i64) false] [false] [⟨(.int .i64), a_size, size, t_size⟩] [⟨y4, a, e0, [.S]⟩] k = spec_l06Take size e0 (fun (r0 : Int) (x0 : List Int × Int) => k [⟨(.int .i64), false, r0, []⟩] [] [⟨y4, a, x0, [.S]⟩]) := by kernel_rfl
theorem S_spec_l06Take : Sound Try.prog 112 s_spec_l06Take := sound_of (Γ := g_spec_l06Take) (X := []) (ht := .o) (fz := false) (c := c_spec_l06Take) follows tysOk (fns_cons S_spec_GetNum fns_nil) trivial Try.func112 (by kernel_rfl) (by kernel_rfl) (by decide) (by
 intro vals ext k r h
 obtain ⟨size, a_size, t_size, vals, rfl, h1⟩ := av_some h
 obtain ⟨rfl, h2⟩ := nl_some h1
 obtain ⟨a, e0, ext, rfl, h3⟩ := ab_some h2
 obtain ⟨rfl, h4⟩ := nl_some h3
 exact (E_spec_l06Take size a_size t_size a e0 k).trans h4)

/-! ### 123 loop.example/g00462/spec.l06Text -/
def c_spec_l06Text : Code := (Try.f123.body).getD .skip
def g_spec_l06Text : Env Unit := ⟨tys, [], 0⟩
def spec_l06Text_p0 (n_ : Int) (e0 : List Int × Int) (k0 : Bool → Res) : Res :=
 bif decide (n_ > (wi64 ((nI (List.length e0.1)) - e0.2))) then
  k0 true
 else
  k0 (decide (e0.2 > (nI (List.length e0.1))))
def xspec_l06Text_p0 : Node Unit := fun σ k => rdN σ 63 <| rdT σ 0 (.ptr ⟨true, 63, []⟩) <| rdV σ 1 (.int .i64) false [] fun n_ => rdB σ 63 y4 [.S] fun a e0 => spec_l06Text_p0 n_ e0 (fun (t28 : Bool) => k .normal (mkS 63 64 [(0, .ptr ⟨true, 63, []⟩), (1, .val ⟨(.int .i64), false, n_, []⟩), (28, .val ⟨.bool, false, t28, []⟩)] [(63, ⟨y4, a, e0, [.S]⟩)]))
theorem espec_l06Text_p0 (n_ : Int) (a : Bool) (e0 : List Int × Int) (k : Kont Unit) : codeC g_spec_l06Text [] .o (Code.pl (Code.pl (Code.pr c_spec_l06Text))) (mkS 63 64 [(0, .ptr ⟨true, 63, []⟩), (1, .val ⟨(.int .i64), false, n_, []⟩)] [(63, ⟨y4, a, e0, [.S]⟩)]) (fun e σ => k e ((cutC ([0, 1, 28], [63]) [] ([], [])) e σ)) = spec_l06Text_p0 n_ e0 (fun (t28 : Bool) => k .normal (mkS 63 64 [(0, .ptr ⟨true, 63, []⟩), (1, .val ⟨(.int .i64), false, n_, []⟩), (28, .val ⟨.bool, false, t28, []⟩)] [(63, ⟨y4, a, e0, [.S]⟩)])) := by kernel_rfl
theorem ospec_l06Text_p0 {W0 : Base} {M : Nat → Prop} (hnp : W0.np ≤ 0) : CodeOk Try.prog W0 M (Code.pl (Code.pl (Code.pr c_spec_l06Text))) xspec_l06Text_p0 := node_ok (code_sound follows tysOk (calls_ok fns_nil) hnp [] ((Code.pl (Code.pl (Code.pr c_spec_l06Text)))) .o trivial) (fg := (cutC ([0, 1, 28], [63]) [] ([], []))) (cutC_le _ _ _) (by
 intro σ k r h
 obtain ⟨hn, h1⟩ := rdN_some h
 obtain ⟨hs0, h2⟩ := rdT_some h1
 obtain ⟨n_, hs1, h3⟩ := rdV_some h2
 obtain ⟨a, e0, hb63, h4⟩ := rdB_some h3
 refine ⟨_, ?_, (espec_l06Text_p0 n_ a e0 k).trans h4⟩
 exact mkS_le hn ⟨hs0, hs1, trivial⟩ ⟨hb63, trivial⟩)
def spec_l06Text (n_ : Int) (e0 : List Int × Int) (k0 : ByteArray → (List Int × Int) → Res) : Res :=
 spec_l06Text_p0 n_ e0 fun (t : Bool) =>
  bif t then
   k0 eS (e0.1, wi64 ((nI (List.length e0.1)) + 1))
  else
   bif cutb (wi64 ((wi64 (e0.2 + n_)) - n_)) (wi64 (e0.2 + n_)) (List.length e0.1) then
    k0 (ofBytes (sub e0.1 (wi64 ((wi64 (e0.2 + n_)) - n_)) (wi64 (e0.2 + n_)))) (e0.1, wi64 (e0.2 + n_))
   else none
def s_spec_l06Text : Sig Unit := ⟨[.ptr y4, .borrow (.int .i64) false], [false], fun vals ext k => av vals (.int .i64) fun n_ vals => nl vals <| ab ext y4 [.S] fun a e0 ext => nl ext <| spec_l06Text n_ e0 (fun (r0 : ByteArray) (x0 : List Int × Int) => k [⟨.str, false, r0, []⟩] [] [⟨y4, a, x0, [.S]⟩])⟩
theorem E_spec_l06Text (n_ : Int) (a_n_ : Bool) (t_n_ : List Tag) (a : Bool) (e0 : List Int × Int) (k : qK) : funC g_spec_l06Text [xspec_l06Text_p0] (.t .o (.t (.t (.x 0) .o) .o)) false Try.f123 [.ptr y4, .borrow (.int .i64) false] [false] [⟨(.int .i64), a_n_, n_, t_n_⟩] [⟨y4, a, e0, [.S]⟩] k = spec_l06Text n_ e0 (fun (r0 : ByteArray) (x0 : List Int × Int) => k [⟨.str, false, r0, []⟩] [] [⟨y4, a, x0, [.S]⟩]) := by kernel_rfl
theorem S_spec_l06Text : Sound Try.prog 123 s_spec_l06Text := sound_of (Γ := g_spec_l06Text) (X := [xspec_l06Text_p0]) (ht := (.t .o (.t (.t (.x 0) .o) .o))) (fz := false) (c := c_spec_l06Text) follows tysOk fns_nil (OrOk.mk trivial ((OrOk.mk ((OrOk.mk (OrOk.x_mk (fun W0 M hnp => ospec_l06Text_p0 (W0 := W0) (M := M) hnp)) trivial)) trivial))) Try.func123 (by kernel_rfl) (by kernel_rfl) (by decide) (by
 intro vals ext k r h
 obtain ⟨n_, a_n_, t_n_, vals, rfl, h1⟩ := av_some h
 obtain ⟨rfl, h2⟩ := nl_some h1
 obtain ⟨a, e0, ext, rfl, h3⟩ := ab_some h2
 obtain ⟨rfl, h4⟩ := nl_some h3
 exact (E_spec_l06Text n_ a_n_ t_n_ a e0 k).trans h4)

/-! ### 113 loop.example/g00462/spec.l06Val -/
def c_spec_l06Val : Code := (Try.f113.body).getD .skip
def g_spec_l06Val : Env Unit := ⟨tys, [(112, s_spec_l06Take), (123, s_spec_l06Text)], 0⟩
def spec_l06Val_p0 (t9 : Int) (v_ : Int × Int × ByteArray) (e0 : List Int × Int) (k0 : qV → (List Int × Int) → Res) : Res :=
 bif (t9 == 1) then
  spec_l06Take 1 e0 fun (r : Int) (bt36 : List Int × Int) =>
   k0 (v_.1, r, v_.2.2) bt36
 else
  bif (t9 == 2) then
   spec_l06Take 1 e0 fun (r1 : Int) (bt361 : List Int × Int) =>
    spec_l06Take 6 bt361 fun (r2 : Int) (bt362 : List Int × Int) =>
     bif (r1 == 1) then
      k0 (v_.1, wi64 (0 - r2), v_.2.2) bt362
     else
      k0 (v_.1, r2, v_.2.2) bt362
  else
   bif (t9 == 3) then
    spec_l06Take 1 e0 fun (r3 : Int) (bt363 : List Int × Int) =>
     spec_l06Text r3 bt363 fun (r4 : ByteArray) (bt364 : List Int × Int) =>
      k0 (v_.1, v_.2.1, r4) bt364
   else
    k0 v_ e0
def xspec_l06Val_p0 : Node Unit := fun σ k => rdN σ 36 <| rdT σ 0 (.ptr ⟨true, 36, []⟩) <| rdT σ 2 (.ptr ⟨true, 2, []⟩) <| rdT σ 3 (.ptr ⟨true, 3, []⟩) <| rdV σ 9 (.int .i64) false [] fun t9 => rdB σ 2 y2 [] fun a t2 => rdB σ 3 y2 [] fun a1 v_ => rdB σ 36 y4 [.S] fun a2 e0 => spec_l06Val_p0 t9 v_ e0 (fun (v_1 : Int × Int × ByteArray) (e01 : List Int × Int) => k .normal (mkS 36 37 [(2, .ptr ⟨true, 2, []⟩), (3, .ptr ⟨true, 3, []⟩)] [(2, ⟨y2, a, t2, []⟩), (3, ⟨y2, a1, v_1, []⟩), (36, ⟨y4, a2, e01, [.S]⟩)]))
theorem espec_l06Val_p0 (t9 : Int) (a : Bool) (t2 : Int × Int × ByteArray) (a1 : Bool) (v_ : Int × Int × ByteArray) (a2 : Bool) (e0 : List Int × Int) (k : Kont Unit) : codeC g_spec_l06Val [] .o (Code.pr (Code.pl (Code.pr (Code.pr c_spec_l06Val)))) (mkS 36 37 [(0, .ptr ⟨true, 36, []⟩), (2, .ptr ⟨true, 2, []⟩), (3, .ptr ⟨true, 3, []⟩), (9, .val ⟨(.int .i64), false, t9, []⟩)] [(2, ⟨y2, a, t2, []⟩), (3, ⟨y2, a1, v_, []⟩), (36, ⟨y4, a2, e0, [.S]⟩)]) (fun e σ => k e ((cutC ([2, 3], [2, 3, 36]) [] ([], [])) e σ)) = spec_l06Val_p0 t9 v_ e0 (fun (v_1 : Int × Int × ByteArray) (e01 : List Int × Int) => k .normal (mkS 36 37 [(2, .ptr ⟨true, 2, []⟩), (3, .ptr ⟨true, 3, []⟩)] [(2, ⟨y2, a, t2, []⟩), (3, ⟨y2, a1, v_1, []⟩), (36, ⟨y4, a2, e01, [.S]⟩)])) := by kernel_rfl
theorem ospec_l06Val_p0 {W0 : Base} {M : Nat → Prop} (hnp : W0.np ≤ 0) : CodeOk Try.prog W0 M (Code.pr (Code.pl (Code.pr (Code.pr c_spec_l06Val)))) xspec_l06Val_p0 := node_ok (code_sound follows tysOk (calls_ok (fns_cons S_spec_l06Take (fns_cons S_spec_l06Text fns_nil))) hnp [] ((Code.pr (Code.pl (Code.pr (Code.pr c_spec_l06Val))))) .o trivial) (fg := (cutC ([2, 3], [2, 3, 36]) [] ([], []))) (cutC_le _ _ _) (by
 intro σ k r h
 obtain ⟨hn, h1⟩ := rdN_some h
 obtain ⟨hs0, h2⟩ := rdT_some h1
 obtain ⟨hs2, h3⟩ := rdT_some h2
 obtain ⟨hs3, h4⟩ := rdT_some h3
 obtain ⟨t9, hs9, h5⟩ := rdV_some h4
 obtain ⟨a, t2, hb2, h6⟩ := rdB_some h5
 obtain ⟨a1, v_, hb3, h7⟩ := rdB_some h6
 obtain ⟨a2, e0, hb36, h8⟩ := rdB_some h7
 refine ⟨_, ?_, (espec_l06Val_p0 t9 a t2 a1 v_ a2 e0 k).trans h8⟩
 exact mkS_le hn ⟨hs0, hs2, hs3, hs9, trivial⟩ ⟨hb2, hb3, hb36, trivial⟩)
def spec_l06Val (e0 : List Int × Int) (k0 : qV → (List Int × Int) → Res) : Res :=
 spec_l06Take 1 e0 fun (r : Int) (bt36 : List Int × Int) =>
  spec_l06Val_p0 r (r, 0, eS) bt36 fun (v_ : Int × Int × ByteArray) (e : List Int × Int) =>
   k0 v_ e
def s_spec_l06Val : Sig Unit := ⟨[.ptr y4], [true], fun vals ext k => nl vals <| ab ext y4 [.S] fun a e0 ext => nl ext <| spec_l06Val e0 (fun (r0 : Int × Int × ByteArray) (x0 : List Int × Int) => k [⟨y2, true, r0, []⟩] [] [⟨y4, a, x0, [.S]⟩])⟩
theorem E_spec_l06Val (a : Bool) (e0 : List Int × Int) (k : qK) : funC g_spec_l06Val [xspec_l06Val_p0] (.t .o (.t .o (.t (.t .o (.x 0)) .o))) false Try.f113 [.ptr y4] [true] [] [⟨y4, a, e0, [.S]⟩] k = spec_l06Val e0 (fun (r0 : Int × Int × ByteArray) (x0 : List Int × Int) => k [⟨y2, true, r0, []⟩] [] [⟨y4, a, x0, [.S]⟩]) := by kernel_rfl
theorem S_spec_l06Val : Sound Try.prog 113 s_spec_l06Val := sound_of (Γ := g_spec_l06Val) (X := [xspec_l06Val_p0]) (ht := (.t .o (.t .o (.t (.t .o (.x 0)) .o)))) (fz := false) (c := c_spec_l06Val) follows tysOk (fns_cons S_spec_l06Take (fns_cons S_spec_l06Text fns_nil)) (OrOk.mk trivial ((OrOk.mk trivial ((OrOk.mk ((OrOk.mk trivial (OrOk.x_mk (fun W0 M hnp => ospec_l06Val_p0 (W0 := W0) (M := M) hnp)))) trivial))))) Try.func113 (by kernel_rfl) (by kernel_rfl) (by decide) (by
 intro vals ext k r h
 obtain ⟨rfl, h1⟩ := nl_some h
 obtain ⟨a, e0, ext, rfl, h2⟩ := ab_some h1
 obtain ⟨rfl, h3⟩ := nl_some h2
 exact (E_spec_l06Val a e0 k).trans h3)

/-! ### 96 loop.example/g00462/spec.l06Vals -/
def c_spec_l06Vals : Code := (Try.f96.body).getD .skip
def g_spec_l06Vals : Env Unit := ⟨tys, [(112, s_spec_l06Take), (113, s_spec_l06Val)], 0⟩
def spec_l06Vals_l0_r (n_ : Int) (out : List qV) (i : Int) (e0 : List Int × Int) (rec : qW → Int → (List Int × Int) → Res) (k0 : qW → (List Int × Int) → Res) : Res :=
 bif decide (i < n_) then
  bif decide (i ≤ 8) then
   spec_l06Val e0 fun (r : Int × Int × ByteArray) (bt24 : List Int × Int) =>
    bif lim ((List.length out) + 1) then
     rec (out ++ [r]) (wi64 (i + 1)) bt24
    else none
  else
   k0 out e0
 else
  k0 out e0
def spec_l06Vals_l0_s (n_ : Int) : (qW × Int × (List Int × Int)) → (qW × Int × (List Int × Int) → Res) → ((qW → (List Int × Int) → Res)) → Res := fun v rec q => spec_l06Vals_l0_r n_ v.1 v.2.1 v.2.2 (fun out i e0 => rec (out, i, e0)) q
def spec_l06Vals_l0 (n_ : Int) (n : Nat) (out : List qV) (i : Int) (e0 : List Int × Int) (k0 : qW → (List Int × Int) → Res) : Res := iter (spec_l06Vals_l0_s n_) n (out, i, e0) (k0)
def xspec_l06Vals_l0 : Node Unit := fun σ k => rdN σ 24 <| rdT σ 0 (.ptr ⟨true, 24, []⟩) <| rdV σ 3 y3 false [.O] fun out => rdV σ 4 (.int .i64) false [] fun n_ => rdV σ 5 (.int .i64) false [] fun i => rdB σ 24 y4 [.S] fun a e0 => spec_l06Vals_l0 n_ FUEL out i e0 (fun (out1 : List qV) (e01 : List Int × Int) => k (.exit 0) (mkS 24 25 [(3, .val ⟨y3, false, out1, [.O]⟩)] [(24, ⟨y4, a, e01, [.S]⟩)]))
theorem espec_l06Vals_l0 (n_ : Int) (a : Bool) (n : Nat) (v : qW × Int × (List Int × Int)) (k : Kont Unit) : loopC (codeC g_spec_l06Vals [] .o (Code.pl (Code.pl (Code.pr (Code.pl (Code.pr (Code.pr (Code.pr c_spec_l06Vals)))))))) (fun σ => σ.forget [0, 3, 4, 5] [24]) (cutC ([], []) [(0, [3], [24])] ([], [])) n (mkS 24 25 [(0, .ptr ⟨true, 24, []⟩), (3, .val ⟨y3, false, v.1, [.O]⟩), (4, .val ⟨(.int .i64), false, n_, []⟩), (5, .val ⟨(.int .i64), false, v.2.1, []⟩)] [(24, ⟨y4, a, v.2.2, [.S]⟩)]) k = iter (spec_l06Vals_l0_s n_) n v ((fun (k : Kont Unit) => (((fun (out1 : List qV) (e01 : List Int × Int) => k (.exit 0) (mkS 24 25 [(3, .val ⟨y3, false, out1, [.O]⟩)] [(24, ⟨y4, a, e01, [.S]⟩)]))) : (qW → (List Int × Int) → Res))) k) := loop_eq (fun v : qW × Int × (List Int × Int) => (mkS 24 25 [(0, .ptr ⟨true, 24, []⟩), (3, .val ⟨y3, false, v.1, [.O]⟩), (4, .val ⟨(.int .i64), false, n_, []⟩), (5, .val ⟨(.int .i64), false, v.2.1, []⟩)] [(24, ⟨y4, a, v.2.2, [.S]⟩)])) (spec_l06Vals_l0_s n_) (fun (k : Kont Unit) => (((fun (out1 : List qV) (e01 : List Int × Int) => k (.exit 0) (mkS 24 25 [(3, .val ⟨y3, false, out1, [.O]⟩)] [(24, ⟨y4, a, e01, [.S]⟩)]))) : (qW → (List Int × Int) → Res))) (fun v rec k => by kernel_rfl) n v k
theorem ospec_l06Vals_l0 {W0 : Base} {M : Nat → Prop} (hnp : W0.np ≤ 0) : CodeOk Try.prog W0 M (Code.pl (Code.pr (Code.pl (Code.pr (Code.pr (Code.pr c_spec_l06Vals)))))) xspec_l06Vals_l0 := show CodeOk Try.prog W0 M (Code.loop (Code.pl (Code.pl (Code.pr (Code.pl (Code.pr (Code.pr (Code.pr c_spec_l06Vals)))))))) xspec_l06Vals_l0 from loop_ok (code_sound follows tysOk (calls_ok (fns_cons S_spec_l06Take (fns_cons S_spec_l06Val fns_nil))) hnp [] (Code.pl (Code.pl (Code.pr (Code.pl (Code.pr (Code.pr (Code.pr c_spec_l06Vals))))))) .o trivial) (ks := [0, 3, 4, 5]) (bs := [24]) (fX := (cutC ([], []) [(0, [3], [24])] ([], []))) (cutC_le _ _ _) FUEL (by
 intro σ k r h
 obtain ⟨hn, h1⟩ := rdN_some h
 obtain ⟨hs0, h2⟩ := rdT_some h1
 obtain ⟨out, hs3, h3⟩ := rdV_some h2
 obtain ⟨n_, hs4, h4⟩ := rdV_some h3
 obtain ⟨i, hs5, h5⟩ := rdV_some h4
 obtain ⟨a, e0, hb24, h6⟩ := rdB_some h5
 refine ⟨_, ?_, (espec_l06Vals_l0 n_ a FUEL (out, i, e0) k).trans h6⟩
 exact mkS_le hn ⟨hs0, hs3, hs4, hs5, trivial⟩ ⟨hb24, trivial⟩)
def spec_l06Vals (e0 : List Int × Int) (k0 : qW → (List Int × Int) → Res) : Res :=
 spec_l06Take 1 e0 fun (r : Int) (bt24 : List Int × Int) =>
  spec_l06Vals_l0 r FUEL [] 0 bt24 fun (out : List qV) (e : List Int × Int) =>
   k0 out e
def s_spec_l06Vals : Sig Unit := ⟨[.ptr y4], [false], fun vals ext k => nl vals <| ab ext y4 [.S] fun a e0 ext => nl ext <| spec_l06Vals e0 (fun (r0 : List qV) (x0 : List Int × Int) => k [⟨y3, false, r0, [.O]⟩] [] [⟨y4, a, x0, [.S]⟩])⟩
theorem E_spec_l06Vals (a : Bool) (e0 : List Int × Int) (k : qK) : funC g_spec_l06Vals [xspec_l06Vals_l0] (.t .o (.t .o (.t .o (.t (.t .o (.t (.x 0) .o)) .o)))) false Try.f96 [.ptr y4] [false] [] [⟨y4, a, e0, [.S]⟩] k = spec_l06Vals e0 (fun (r0 : List qV) (x0 : List Int × Int) => k [⟨y3, false, r0, [.O]⟩] [] [⟨y4, a, x0, [.S]⟩]) := by kernel_rfl
theorem S_spec_l06Vals : Sound Try.prog 96 s_spec_l06Vals := sound_of (Γ := g_spec_l06Vals) (X := [xspec_l06Vals_l0]) (ht := (.t .o (.t .o (.t .o (.t (.t .o (.t (.x 0) .o)) .o))))) (fz := false) (c := c_spec_l06Vals) follows tysOk (fns_cons S_spec_l06Take (fns_cons S_spec_l06Val fns_nil)) (OrOk.mk trivial ((OrOk.mk trivial ((OrOk.mk trivial ((OrOk.mk ((OrOk.mk trivial ((OrOk.mk (OrOk.x_mk (fun W0 M hnp => ospec_l06Vals_l0 (W0 := W0) (M := M) hnp)) trivial)))) trivial))))))) Try.func96 (by kernel_rfl) (by kernel_rfl) (by decide) (by
 intro vals ext k r h
 obtain ⟨rfl, h1⟩ := nl_some h
 obtain ⟨a, e0, ext, rfl, h2⟩ := ab_some h1
 obtain ⟨rfl, h3⟩ := nl_some h2
 exact (E_spec_l06Vals a e0 k).trans h3)

/-! ### 134 loop.example/g00462/spec.l06Pow -/
def c_spec_l06Pow : Code := (Try.f134.body).getD .skip
def g_spec_l06Pow : Env Unit := ⟨tys, [], 0⟩
def spec_l06Pow_l0_r (size : Int) (p : Int) (i : Int) (rec : Int → Int → Res) (k0 : Int → Res) : Res :=
 bif decide (i < size) then
  rec (wi64 (p * 256)) (wi64 (i + 1))
 else
  k0 p
def spec_l06Pow_l0_s (size : Int) : (Int × Int) → (Int × Int → Res) → ((Int → Res)) → Res := fun v rec q => spec_l06Pow_l0_r size v.1 v.2 (fun p i => rec (p, i)) q
def spec_l06Pow_l0 (size : Int) (n : Nat) (p : Int) (i : Int) (k0 : Int → Res) : Res := iter (spec_l06Pow_l0_s size) n (p, i) (k0)
def xspec_l06Pow_l0 : Node Unit := fun σ k => rdN σ 13 <| rdV σ 0 (.int .i64) false [] fun size => rdV σ 3 (.int .i64) false [] fun p => rdV σ 4 (.int .i64) false [] fun i => spec_l06Pow_l0 size FUEL p i (fun (p1 : Int) => k (.exit 0) (mkS 13 13 [(3, .val ⟨(.int .i64), false, p1, []⟩)] []))
theorem espec_l06Pow_l0 (size : Int) (n : Nat) (v : Int × Int) (k : Kont Unit) : loopC (codeC g_spec_l06Pow [] .o (Code.pl (Code.pl (Code.pr (Code.pl (Code.pr (Code.pr c_spec_l06Pow))))))) (fun σ => σ.forget [0, 3, 4] []) (cutC ([], []) [(0, [3], [])] ([], [])) n (mkS 13 13 [(0, .val ⟨(.int .i64), false, size, []⟩), (3, .val ⟨(.int .i64), false, v.1, []⟩), (4, .val ⟨(.int .i64), false, v.2, []⟩)] []) k = iter (spec_l06Pow_l0_s size) n v ((fun (k : Kont Unit) => (((fun (p1 : Int) => k (.exit 0) (mkS 13 13 [(3, .val ⟨(.int .i64), false, p1, []⟩)] []))) : (Int → Res))) k) := loop_eq (fun v : Int × Int => (mkS 13 13 [(0, .val ⟨(.int .i64), false, size, []⟩), (3, .val ⟨(.int .i64), false, v.1, []⟩), (4, .val ⟨(.int .i64), false, v.2, []⟩)] [])) (spec_l06Pow_l0_s size) (fun (k : Kont Unit) => (((fun (p1 : Int) => k (.exit 0) (mkS 13 13 [(3, .val ⟨(.int .i64), false, p1, []⟩)] []))) : (Int → Res))) (fun v rec k => by kernel_rfl) n v k
theorem ospec_l06Pow_l0 {W0 : Base} {M : Nat → Prop} (hnp : W0.np ≤ 0) : CodeOk Try.prog W0 M (Code.pl (Code.pr (Code.pl (Code.pr (Code.pr c_spec_l06Pow))))) xspec_l06Pow_l0 := show CodeOk Try.prog W0 M (Code.loop (Code.pl (Code.pl (Code.pr (Code.pl (Code.pr (Code.pr c_spec_l06Pow))))))) xspec_l06Pow_l0 from loop_ok (code_sound follows tysOk (calls_ok fns_nil) hnp [] (Code.pl (Code.pl (Code.pr (Code.pl (Code.pr (Code.pr c_spec_l06Pow)))))) .o trivial) (ks := [0, 3, 4]) (bs := []) (fX := (cutC ([], []) [(0, [3], [])] ([], []))) (cutC_le _ _ _) FUEL (by
 intro σ k r h
 obtain ⟨hn, h1⟩ := rdN_some h
 obtain ⟨size, hs0, h2⟩ := rdV_some h1
 obtain ⟨p, hs3, h3⟩ := rdV_some h2
 obtain ⟨i, hs4, h4⟩ := rdV_some h3
 refine ⟨_, ?_, (espec_l06Pow_l0 size FUEL (p, i) k).trans h4⟩
 exact mkS_le hn ⟨hs0, hs3, hs4, trivial⟩ trivial)
def spec_l06Pow (size : Int) (k0 : Int → Res) : Res :=
 spec_l06Pow_l0 size FUEL 1 0 fun (p : Int) =>
  k0 p
def s_spec_l06Pow : Sig Unit := ⟨[.look (.int .i64) false], [false], fun vals ext k => av vals (.int .i64) fun size vals => nl vals <| nl ext <| spec_l06Pow size (fun (r0 : Int) => k [⟨(.int .i64), false, r0, []⟩] [] [])⟩
theorem E_spec_l06Pow (size : Int) (a_size : Bool) (t_size : List Tag) (k : qK) : funC g_spec_l06Pow [xspec_l06Pow_l0] (.t .o (.t .o (.t (.t .o (.t (.x 0) .o)) .o))) false Try.f134 [.look (.int .i64) false] [false] [⟨(.int .i64), a_size, size, t_size⟩] [] k = spec_l06Pow size (fun (r0 : Int) => k [⟨(.int .i64), false, r0, []⟩] [] []) := by kernel_rfl
theorem S_spec_l06Pow : Sound Try.prog 134 s_spec_l06Pow := sound_of (Γ := g_spec_l06Pow) (X := [xspec_l06Pow_l0]) (ht := (.t .o (.t .o (.t (.t .o (.t (.x 0) .o)) .o)))) (fz := false) (c := c_spec_l06Pow) follows tysOk fns_nil (OrOk.mk trivial ((OrOk.mk trivial ((OrOk.mk ((OrOk.mk trivial ((OrOk.mk (OrOk.x_mk (fun W0 M hnp => ospec_l06Pow_l0 (W0 := W0) (M := M) hnp)) trivial)))) trivial))))) Try.func134 (by kernel_rfl) (by kernel_rfl) (by decide) (by
 intro vals ext k r h
 obtain ⟨size, a_size, t_size, vals, rfl, h1⟩ := av_some h
 obtain ⟨rfl, h2⟩ := nl_some h1
 obtain ⟨rfl, h3⟩ := nl_some h2
 exact (E_spec_l06Pow size a_size t_size k).trans h3)

/-! ### 124 loop.example/g00462/spec.PutNum -/
def c_spec_PutNum : Code := (Try.f124.body).getD .skip
def g_spec_PutNum : Env Unit := ⟨tys, [(134, s_spec_l06Pow)], 0⟩
def spec_PutNum_p0 (n_ : Int) (size : Int) (k0 : Bool → Res) : Res :=
 bif decide (size < 1) then
  k0 true
 else
  bif decide (size > 6) then
   k0 true
  else
   bif decide (n_ < 0) then
    k0 true
   else
    spec_l06Pow size fun (r : Int) =>
     k0 (decide (n_ ≥ r))
def xspec_PutNum_p0 : Node Unit := fun σ k => rdN σ 45 <| rdV σ 0 y0 false [.S] fun b => rdV σ 1 (.int .i64) false [] fun n_ => rdV σ 2 (.int .i64) false [] fun size => spec_PutNum_p0 n_ size (fun (t25 : Bool) => k .normal (mkS 45 45 [(0, .val ⟨y0, false, b, [.S]⟩), (1, .val ⟨(.int .i64), false, n_, []⟩), (2, .val ⟨(.int .i64), false, size, []⟩), (25, .val ⟨.bool, false, t25, []⟩)] []))
theorem espec_PutNum_p0 (b : List Int) (n_ : Int) (size : Int) (k : Kont Unit) : codeC g_spec_PutNum [] .o (Code.pl (Code.pl (Code.pr c_spec_PutNum))) (mkS 45 45 [(0, .val ⟨y0, false, b, [.S]⟩), (1, .val ⟨(.int .i64), false, n_, []⟩), (2, .val ⟨(.int .i64), false, size, []⟩)] []) (fun e σ => k e ((cutC ([0, 1, 2, 25], []) [] ([], [])) e σ)) = spec_PutNum_p0 n_ size (fun (t25 : Bool) => k .normal (mkS 45 45 [(0, .val ⟨y0, false, b, [.S]⟩), (1, .val ⟨(.int .i64), false, n_, []⟩), (2, .val ⟨(.int .i64), false, size, []⟩), (25, .val ⟨.bool, false, t25, []⟩)] [])) := by kernel_rfl
theorem ospec_PutNum_p0 {W0 : Base} {M : Nat → Prop} (hnp : W0.np ≤ 0) : CodeOk Try.prog W0 M (Code.pl (Code.pl (Code.pr c_spec_PutNum))) xspec_PutNum_p0 := node_ok (code_sound follows tysOk (calls_ok (fns_cons S_spec_l06Pow fns_nil)) hnp [] ((Code.pl (Code.pl (Code.pr c_spec_PutNum)))) .o trivial) (fg := (cutC ([0, 1, 2, 25], []) [] ([], []))) (cutC_le _ _ _) (by
 intro σ k r h
 obtain ⟨hn, h1⟩ := rdN_some h
 obtain ⟨b, hs0, h2⟩ := rdV_some h1
 obtain ⟨n_, hs1, h3⟩ := rdV_some h2
 obtain ⟨size, hs2, h4⟩ := rdV_some h3
 refine ⟨_, ?_, (espec_PutNum_p0 b n_ size k).trans h4⟩
 exact mkS_le hn ⟨hs0, hs1, hs2, trivial⟩ trivial)
def spec_PutNum_l1_r (n_ : Int) (out : List Int) (i : Int) (rec : (List Int) → Int → Res) (k0 : (List Int) → Res) : Res :=
 bif decide (i ≥ 0) then
  spec_l06Pow i fun (r : Int) =>
   bif !(decide (r = 0)) then
    bif lim ((List.length out) + 1) then
     rec (out ++ [wu8 (Int.tmod (wi64 (Int.tdiv n_ r)) 256)]) (wi64 (i - 1))
    else none
   else none
 else
  k0 out
def spec_PutNum_l1_s (n_ : Int) : ((List Int) × Int) → ((List Int) × Int → Res) → (((List Int) → Res)) → Res := fun v rec q => spec_PutNum_l1_r n_ v.1 v.2 (fun out i => rec (out, i)) q
def spec_PutNum_l1 (n_ : Int) (n : Nat) (out : List Int) (i : Int) (k0 : (List Int) → Res) : Res := iter (spec_PutNum_l1_s n_) n (out, i) (k0)
def xspec_PutNum_l1 : Node Unit := fun σ k => rdN σ 45 <| rdV σ 1 (.int .i64) false [] fun n_ => rdV σ 8 y0 false [.O] fun out => rdV σ 9 (.int .i64) false [] fun i => spec_PutNum_l1 n_ FUEL out i (fun (out1 : List Int) => k (.exit 0) (mkS 45 45 [(8, .val ⟨y0, false, out1, [.O]⟩)] []))
theorem espec_PutNum_l1 (n_ : Int) (n : Nat) (v : (List Int) × Int) (k : Kont Unit) : loopC (codeC g_spec_PutNum [xspec_PutNum_p0] .o (Code.pl (Code.pl (Code.pr (Code.pl (Code.pr (Code.pr (Code.pr c_spec_PutNum)))))))) (fun σ => σ.forget [1, 8, 9] []) (cutC ([], []) [(0, [8], [])] ([], [])) n (mkS 45 45 [(1, .val ⟨(.int .i64), false, n_, []⟩), (8, .val ⟨y0, false, v.1, [.O]⟩), (9, .val ⟨(.int .i64), false, v.2, []⟩)] []) k = iter (spec_PutNum_l1_s n_) n v ((fun (k : Kont Unit) => (((fun (out1 : List Int) => k (.exit 0) (mkS 45 45 [(8, .val ⟨y0, false, out1, [.O]⟩)] []))) : ((List Int) → Res))) k) := loop_eq (fun v : (List Int) × Int => (mkS 45 45 [(1, .val ⟨(.int .i64), false, n_, []⟩), (8, .val ⟨y0, false, v.1, [.O]⟩), (9, .val ⟨(.int .i64), false, v.2, []⟩)] [])) (spec_PutNum_l1_s n_) (fun (k : Kont Unit) => (((fun (out1 : List Int) => k (.exit 0) (mkS 45 45 [(8, .val ⟨y0, false, out1, [.O]⟩)] []))) : ((List Int) → Res))) (fun v rec k => by kernel_rfl) n v k
theorem ospec_PutNum_l1 {W0 : Base} {M : Nat → Prop} (hnp : W0.np ≤ 0) : CodeOk Try.prog W0 M (Code.pl (Code.pr (Code.pl (Code.pr (Code.pr (Code.pr c_spec_PutNum)))))) xspec_PutNum_l1 := show CodeOk Try.prog W0 M (Code.loop (Code.pl (Code.pl (Code.pr (Code.pl (Code.pr (Code.pr (Code.pr c_spec_PutNum)))))))) xspec_PutNum_l1 from loop_ok (code_sound follows tysOk (calls_ok (fns_cons S_spec_l06Pow fns_nil)) hnp [xspec_PutNum_p0] (Code.pl (Code.pl (Code.pr (Code.pl (Code.pr (Code.pr (Code.pr c_spec_PutNum))))))) .o trivial) (ks := [1, 8, 9]) (bs := []) (fX := (cutC ([], []) [(0, [8], [])] ([], []))) (cutC_le _ _ _) FUEL (by
 intro σ k r h
 obtain ⟨hn, h1⟩ := rdN_some h
 obtain ⟨n_, hs1, h2⟩ := rdV_some h1
 obtain ⟨out, hs8, h3⟩ := rdV_some h2
 obtain ⟨i, hs9, h4⟩ := rdV_some h3
 refine ⟨_, ?_, (espec_PutNum_l1 n_ FUEL (out, i) k).trans h4⟩
 exact mkS_le hn ⟨hs1, hs8, hs9, trivial⟩ trivial)
def spec_PutNum (b : List Int) (n_ : Int) (size : Int) (k0 : (List Int) → Bool → Res) : Res :=
 spec_PutNum_p0 n_ size fun (t : Bool) =>
  bif t then
   k0 [] false
  else
   bif lim (0 + (List.length b)) then
    spec_PutNum_l1 n_ FUEL b (wi64 (size - 1)) fun (out : List Int) =>
     k0 out true
   else none
def s_spec_PutNum : Sig Unit := ⟨[.borrow y0 false, .borrow (.int .i64) false, .borrow (.int .i64) false], [false, false], fun vals ext k => av vals y0 fun b vals => av vals (.int .i64) fun n_ vals => av vals (.int .i64) fun size vals => nl vals <| nl ext <| spec_PutNum b n_ size (fun (r0 : List Int) (r1 : Bool) => k [⟨y0, false, r0, [.O]⟩, ⟨.bool, false, r1, []⟩] [] [])⟩
theorem E_spec_PutNum (b : List Int) (a_b : Bool) (t_b : List Tag) (n_ : Int) (a_n_ : Bool) (t_n_ : List Tag) (size : Int) (a_size : Bool) (t_size : List Tag) (k : qK) : funC g_spec_PutNum [xspec_PutNum_p0, xspec_PutNum_l1] (.t .o (.t (.t (.x 0) .o) (.t .o (.t (.t .o (.t (.x 1) .o)) .o)))) false Try.f124 [.borrow y0 false, .borrow (.int .i64) false, .borrow (.int .i64) false] [false, false] [⟨y0, a_b, b, t_b⟩, ⟨(.int .i64), a_n_, n_, t_n_⟩, ⟨(.int .i64), a_size, size, t_size⟩] [] k = spec_PutNum b n_ size (fun (r0 : List Int) (r1 : Bool) => k [⟨y0, false, r0, [.O]⟩, ⟨.bool, false, r1, []⟩] [] []) := by kernel_rfl
theorem S_spec_PutNum : Sound Try.prog 124 s_spec_PutNum := sound_of (Γ := g_spec_PutNum) (X := [xspec_PutNum_p0, xspec_PutNum_l1]) (ht := (.t .o (.t (.t (.x 0) .o) (.t .o (.t (.t .o (.t (.x 1) .o)) .o))))) (fz := false) (c := c_spec_PutNum) follows tysOk (fns_cons S_spec_l06Pow fns_nil) (OrOk.mk trivial ((OrOk.mk ((OrOk.mk (OrOk.x_mk (fun W0 M hnp => ospec_PutNum_p0 (W0 := W0) (M := M) hnp)) trivial)) ((OrOk.mk trivial ((OrOk.mk ((OrOk.mk trivial ((OrOk.mk (OrOk.x_mk (fun W0 M hnp => ospec_PutNum_l1 (W0 := W0) (M := M) hnp)) trivial)))) trivial))))))) Try.func124 (by kernel_rfl) (by kernel_rfl) (by decide) (by
 intro vals ext k r h
 obtain ⟨b, a_b, t_b, vals, rfl, h1⟩ := av_some h
 obtain ⟨n_, a_n_, t_n_, vals, rfl, h2⟩ := av_some h1
 obtain ⟨size, a_size, t_size, vals, rfl, h3⟩ := av_some h2
 obtain ⟨rfl, h4⟩ := nl_some h3
 obtain ⟨rfl, h5⟩ := nl_some h4
 exact (E_spec_PutNum b a_b t_b n_ a_n_ t_n_ size a_size t_size k).trans h5)

/-! ### 114 loop.example/g00462/spec.ValBytes -/
def c_spec_ValBytes : Code := (Try.f114.body).getD .skip
def g_spec_ValBytes : Env Unit := ⟨tys, [(106, s_spec_ValOk), (124, s_spec_PutNum)], 0⟩
def spec_ValBytes_p0 (n_ : Int) (sign : Int) (t29 : Bool) (k0 : Int → Int → Res) : Res :=
 bif t29 then
  k0 (wi64 (0 - n_)) 1
 else
  k0 n_ sign
def xspec_ValBytes_p0 : Node Unit := fun σ k => rdN σ 54 <| rdV σ 4 y0 false [.O] fun b => rdV σ 5 (.int .i64) false [] fun n_ => rdV σ 6 (.int .u8) false [] fun sign => rdV σ 29 .bool false [] fun t29 => spec_ValBytes_p0 n_ sign t29 (fun (n_1 : Int) (sign1 : Int) => k .normal (mkS 54 54 [(4, .val ⟨y0, false, b, [.O]⟩), (5, .val ⟨(.int .i64), false, n_1, []⟩), (6, .val ⟨(.int .u8), false, sign1, []⟩)] []))
theorem espec_ValBytes_p0 (b : List Int) (n_ : Int) (sign : Int) (t29 : Bool) (k : Kont Unit) : codeC g_spec_ValBytes [] .o (Code.pr (Code.pl (Code.pr (Code.pr (Code.pl (Code.pr (Code.pr (Code.pr (Code.pl (Code.pr (Code.pl (Code.pr (Code.pr (Code.pr c_spec_ValBytes)))))))))))))) (mkS 54 54 [(4, .val ⟨y0, false, b, [.O]⟩), (5, .val ⟨(.int .i64), false, n_, []⟩), (6, .val ⟨(.int .u8), false, sign, []⟩), (29, .val ⟨.bool, false, t29, []⟩)] []) (fun e σ => k e ((cutC ([4, 5, 6], []) [] ([], [])) e σ)) = spec_ValBytes_p0 n_ sign t29 (fun (n_1 : Int) (sign1 : Int) => k .normal (mkS 54 54 [(4, .val ⟨y0, false, b, [.O]⟩), (5, .val ⟨(.int .i64), false, n_1, []⟩), (6, .val ⟨(.int .u8), false, sign1, []⟩)] [])) := by kernel_rfl
theorem ospec_ValBytes_p0 {W0 : Base} {M : Nat → Prop} (hnp : W0.np ≤ 0) : CodeOk Try.prog W0 M (Code.pr (Code.pl (Code.pr (Code.pr (Code.pl (Code.pr (Code.pr (Code.pr (Code.pl (Code.pr (Code.pl (Code.pr (Code.pr (Code.pr c_spec_ValBytes)))))))))))))) xspec_ValBytes_p0 := node_ok (code_sound follows tysOk (calls_ok (fns_cons S_spec_ValOk (fns_cons S_spec_PutNum fns_nil))) hnp [] ((Code.pr (Code.pl (Code.pr (Code.pr (Code.pl (Code.pr (Code.pr (Code.pr (Code.pl (Code.pr (Code.pl (Code.pr (Code.pr (Code.pr c_spec_ValBytes))))))))))))))) .o trivial) (fg := (cutC ([4, 5, 6], []) [] ([], []))) (cutC_le _ _ _) (by
 intro σ k r h
 obtain ⟨hn, h1⟩ := rdN_some h
 obtain ⟨b, hs4, h2⟩ := rdV_some h1
 obtain ⟨n_, hs5, h3⟩ := rdV_some h2
 obtain ⟨sign, hs6, h4⟩ := rdV_some h3
 obtain ⟨t29, hs29, h5⟩ := rdV_some h4
 refine ⟨_, ?_, (espec_ValBytes_p0 b n_ sign t29 k).trans h5⟩
 exact mkS_le hn ⟨hs4, hs5, hs6, hs29, trivial⟩ trivial)
def spec_ValBytes (v_ : Int × Int × ByteArray) (k0 : (List Int) → Bool → Res) : Res :=
 spec_ValOk v_ fun (r : Bool) =>
  bif !r then
   k0 [] false
  else
   bif (v_.1 == 1) then
    k0 [wu8 v_.1, wu8 v_.2.1] true
   else
    bif (v_.1 == 2) then
     spec_ValBytes_p0 v_.2.1 0 (decide (v_.2.1 < 0)) fun (n_ : Int) (sign : Int) =>
      spec_PutNum [wu8 v_.1, sign] n_ 6 fun (r1 : List Int) (r2 : Bool) =>
       k0 r1 r2
    else
     bif (v_.1 == 3) then
      both
       (both
        (bif lim (ByteArray.size v_.2.2) then
         bif lim (2 + (List.length (toBytes v_.2.2))) then
          k0 ([wu8 v_.1, wu8 (nI (ByteArray.size v_.2.2))] ++ (toBytes v_.2.2)) true
         else none
        else none)
        (bif lim (ByteArray.size v_.2.2) then
         bif lim (2 + (List.length (toBytes v_.2.2))) then
          k0 ([wu8 v_.1, wu8 (nI (ByteArray.size v_.2.2))] ++ (toBytes v_.2.2)) true
         else none
        else none))
       (bif lim (ByteArray.size v_.2.2) then
        bif lim (2 + (List.length (toBytes v_.2.2))) then
         k0 ([wu8 v_.1, wu8 (nI (ByteArray.size v_.2.2))] ++ (toBytes v_.2.2)) true
        else none
       else none)
     else
      k0 [wu8 v_.1] true
def s_spec_ValBytes : Sig Unit := ⟨[.borrow y2 true], [false, false], fun vals ext k => av vals y2 fun v_ vals => nl vals <| nl ext <| spec_ValBytes v_ (fun (r0 : List Int) (r1 : Bool) => k [⟨y0, false, r0, [.O]⟩, ⟨.bool, false, r1, []⟩] [] [])⟩
theorem E_spec_ValBytes (v_ : Int × Int × ByteArray) (a_v_ : Bool) (t_v_ : List Tag) (k : qK) : funC g_spec_ValBytes [xspec_ValBytes_p0] (.t .o (.t .o (.t .o (.t (.t .o (.t (.t .o (.t .o (.t .o (.t (.t .o (.t .o (.t (.t .o (.x 0)) .o))) .o)))) .o)) .o)))) false Try.f114 [.borrow y2 true] [false, false] [⟨y2, a_v_, v_, t_v_⟩] [] k = spec_ValBytes v_ (fun (r0 : List Int) (r1 : Bool) => k [⟨y0, false, r0, [.O]⟩, ⟨.bool, false, r1, []⟩] [] []) := by kernel_rfl
theorem S_spec_ValBytes : Sound Try.prog 114 s_spec_ValBytes := sound_of (Γ := g_spec_ValBytes) (X := [xspec_ValBytes_p0]) (ht := (.t .o (.t .o (.t .o (.t (.t .o (.t (.t .o (.t .o (.t .o (.t (.t .o (.t .o (.t (.t .o (.x 0)) .o))) .o)))) .o)) .o))))) (fz := false) (c := c_spec_ValBytes) follows tysOk (fns_cons S_spec_ValOk (fns_cons S_spec_PutNum fns_nil)) (OrOk.mk trivial ((OrOk.mk trivial ((OrOk.mk trivial ((OrOk.mk ((OrOk.mk trivial ((OrOk.mk ((OrOk.mk trivial ((OrOk.mk trivial ((OrOk.mk trivial ((OrOk.mk ((OrOk.mk trivial ((OrOk.mk trivial ((OrOk.mk ((OrOk.mk trivial (OrOk.x_mk (fun W0 M hnp => ospec_ValBytes_p0 (W0 := W0) (M := M) hnp)))) trivial)))))) trivial)))))))) trivial)))) trivial))))))) Try.func114 (by kernel_rfl) (by kernel_rfl) (by decide) (by
 intro vals ext k r h
 obtain ⟨v_, a_v_, t_v_, vals, rfl, h1⟩ := av_some h
 obtain ⟨rfl, h2⟩ := nl_some h1
 obtain ⟨rfl, h3⟩ := nl_some h2
 exact (E_spec_ValBytes v_ a_v_ t_v_ k).trans h3)

/-! ### 97 loop.example/g00462/spec.RowBytes -/
def c_spec_RowBytes : Code := (Try.f97.body).getD .skip
def g_spec_RowBytes : Env Unit := ⟨tys, [(114, s_spec_ValBytes)], 0⟩
def spec_RowBytes_l0_r (t16 : List qV) (t17 : Int) (b : List Int) (t18 : Int) (rec : (List Int) → Int → Res) (k0 : (List Int) → Res) (k1 : Unit → Res) : Res :=
 bif decide (t18 < t17) then
  bif inb t18 (List.length t16) then
   spec_ValBytes (nth (0, 0, eS) t16 t18) fun (r : List Int) (r1 : Bool) =>
    bif !r1 then
     k1 ()
    else
     bif lim ((List.length b) + (List.length r)) then
      rec (b ++ r) (wi64 (t18 + 1))
     else none
  else none
 else
  k0 b
def spec_RowBytes_l0_s (t16 : List qV) (t17 : Int) : ((List Int) × Int) → ((List Int) × Int → Res) → (((List Int) → Res) × (Unit → Res)) → Res := fun v rec q => spec_RowBytes_l0_r t16 t17 v.1 v.2 (fun b t18 => rec (b, t18)) q.1 q.2
def spec_RowBytes_l0 (t16 : List qV) (t17 : Int) (n : Nat) (b : List Int) (t18 : Int) (k0 : (List Int) → Res) (k1 : Unit → Res) : Res := iter (spec_RowBytes_l0_s t16 t17) n (b, t18) (k0, k1)
def xspec_RowBytes_l0 : Node Unit := fun σ k => rdN σ 34 <| rdV σ 4 y0 false [.O] fun b => rdV σ 16 y3 false [.S] fun t16 => rdV σ 17 (.int .i64) false [] fun t17 => rdV σ 18 (.int .i64) false [] fun t18 => spec_RowBytes_l0 t16 t17 FUEL b t18 (fun (b1 : List Int) => k (.exit 0) (mkS 34 34 [(4, .val ⟨y0, false, b1, [.O]⟩)] [])) (fun (_ : Unit) => k .ret (mkS 34 34 [(2, .val ⟨y0, false, [], [.O]⟩), (3, .val ⟨.bool, false, false, []⟩)] []))
theorem espec_RowBytes_l0 (t16 : List qV) (t17 : Int) (n : Nat) (v : (List Int) × Int) (k : Kont Unit) : loopC (codeC g_spec_RowBytes [] .o (Code.pl (Code.pl (Code.pr (Code.pl (Code.pr (Code.pr (Code.pr c_spec_RowBytes)))))))) (fun σ => σ.forget [4, 16, 17, 18] []) (cutC ([], []) [(0, [4], [])] ([2, 3], [])) n (mkS 34 34 [(4, .val ⟨y0, false, v.1, [.O]⟩), (16, .val ⟨y3, false, t16, [.S]⟩), (17, .val ⟨(.int .i64), false, t17, []⟩), (18, .val ⟨(.int .i64), false, v.2, []⟩)] []) k = iter (spec_RowBytes_l0_s t16 t17) n v ((fun (k : Kont Unit) => (((fun (b1 : List Int) => k (.exit 0) (mkS 34 34 [(4, .val ⟨y0, false, b1, [.O]⟩)] [])), (fun (_ : Unit) => k .ret (mkS 34 34 [(2, .val ⟨y0, false, [], [.O]⟩), (3, .val ⟨.bool, false, false, []⟩)] []))) : ((List Int) → Res) × (Unit → Res))) k) := loop_eq (fun v : (List Int) × Int => (mkS 34 34 [(4, .val ⟨y0, false, v.1, [.O]⟩), (16, .val ⟨y3, false, t16, [.S]⟩), (17, .val ⟨(.int .i64), false, t17, []⟩), (18, .val ⟨(.int .i64), false, v.2, []⟩)] [])) (spec_RowBytes_l0_s t16 t17) (fun (k : Kont Unit) => (((fun (b1 : List Int) => k (.exit 0) (mkS 34 34 [(4, .val ⟨y0, false, b1, [.O]⟩)] [])), (fun (_ : Unit) => k .ret (mkS 34 34 [(2, .val ⟨y0, false, [], [.O]⟩), (3, .val ⟨.bool, false, false, []⟩)] []))) : ((List Int) → Res) × (Unit → Res))) (fun v rec k => by kernel_rfl) n v k
theorem ospec_RowBytes_l0 {W0 : Base} {M : Nat → Prop} (hnp : W0.np ≤ 0) : CodeOk Try.prog W0 M (Code.pl (Code.pr (Code.pl (Code.pr (Code.pr (Code.pr c_spec_RowBytes)))))) xspec_RowBytes_l0 := show CodeOk Try.prog W0 M (Code.loop (Code.pl (Code.pl (Code.pr (Code.pl (Code.pr (Code.pr (Code.pr c_spec_RowBytes)))))))) xspec_RowBytes_l0 from loop_ok (code_sound follows tysOk (calls_ok (fns_cons S_spec_ValBytes fns_nil)) hnp [] (Code.pl (Code.pl (Code.pr (Code.pl (Code.pr (Code.pr (Code.pr c_spec_RowBytes))))))) .o trivial) (ks := [4, 16, 17, 18]) (bs := []) (fX := (cutC ([], []) [(0, [4], [])] ([2, 3], []))) (cutC_le _ _ _) FUEL (by
 intro σ k r h
 obtain ⟨hn, h1⟩ := rdN_some h
 obtain ⟨b, hs4, h2⟩ := rdV_some h1
 obtain ⟨t16, hs16, h3⟩ := rdV_some h2
 obtain ⟨t17, hs17, h4⟩ := rdV_some h3
 obtain ⟨t18, hs18, h5⟩ := rdV_some h4
 refine ⟨_, ?_, (espec_RowBytes_l0 t16 t17 FUEL (b, t18) k).trans h5⟩
 exact mkS_le hn ⟨hs4, hs16, hs17, hs18, trivial⟩ trivial)
def spec_RowBytes (l : List qV) (k0 : (List Int) → Bool → Res) : Res :=
 bif decide ((nI (List.length l)) > 8) then
  k0 [] false
 else
  spec_RowBytes_l0 l (nI (List.length l)) FUEL [wu8 (nI (List.length l))] 0
   (fun (b : List Int) =>
    k0 b true)
   (fun (_ : Unit) =>
    k0 [] false)
def s_spec_RowBytes : Sig Unit := ⟨[.borrow y3 false], [false, false], fun vals ext k => av vals y3 fun l vals => nl vals <| nl ext <| spec_RowBytes l (fun (r0 : List Int) (r1 : Bool) => k [⟨y0, false, r0, [.O]⟩, ⟨.bool, false, r1, []⟩] [] [])⟩
theorem E_spec_RowBytes (l : List qV) (a_l : Bool) (t_l : List Tag) (k : qK) : funC g_spec_RowBytes [xspec_RowBytes_l0] (.t .o (.t .o (.t .o (.t (.t .o (.t (.x 0) .o)) .o)))) false Try.f97 [.borrow y3 false] [false, false] [⟨y3, a_l, l, t_l⟩] [] k = spec_RowBytes l (fun (r0 : List Int) (r1 : Bool) => k [⟨y0, false, r0, [.O]⟩, ⟨.bool, false, r1, []⟩] [] []) := by kernel_rfl
theorem S_spec_RowBytes : Sound Try.prog 97 s_spec_RowBytes := sound_of (Γ := g_spec_RowBytes) (X := [xspec_RowBytes_l0]) (ht := (.t .o (.t .o (.t .o (.t (.t .o (.t (.x 0) .o)) .o))))) (fz := false) (c := c_spec_RowBytes) follows tysOk (fns_cons S_spec_ValBytes fns_nil) (OrOk.mk trivial ((OrOk.mk trivial ((OrOk.mk trivial ((OrOk.mk ((OrOk.mk trivial ((OrOk.mk (OrOk.x_mk (fun W0 M hnp => ospec_RowBytes_l0 (W0 := W0) (M := M) hnp)) trivial)))) trivial))))))) Try.func97 (by kernel_rfl) (by kernel_rfl) (by decide) (by
 intro vals ext k r h
 obtain ⟨l, a_l, t_l, vals, rfl, h1⟩ := av_some h
 obtain ⟨rfl, h2⟩ := nl_some h1
 obtain ⟨rfl, h3⟩ := nl_some h2
 exact (E_spec_RowBytes l a_l t_l k).trans h3)

/-! ### 52 loop.example/g00462/spec.ReadVals -/
def c_spec_ReadVals : Code := (Try.f52.body).getD .skip
def g_spec_ReadVals : Env Unit := ⟨tys, [(96, s_spec_l06Vals), (97, s_spec_RowBytes)], 0⟩
def spec_ReadVals (b : List Int) (k0 : qW → Bool → Res) : Res :=
 spec_l06Vals (b, 0) fun (r : List qV) (bt10 : List Int × Int) =>
  spec_RowBytes r fun (r1 : List Int) (r2 : Bool) =>
   bif !r2 then
    k0 [] false
   else
    bif sNe (ofBytes r1) (ofBytes b) then
     k0 [] false
    else
     k0 r true
def s_spec_ReadVals : Sig Unit := ⟨[.borrow y0 false], [false, false], fun vals ext k => av vals y0 fun b vals => nl vals <| nl ext <| spec_ReadVals b (fun (r0 : List qV) (r1 : Bool) => k [⟨y3, false, r0, [.O]⟩, ⟨.bool, false, r1, []⟩] [] [])⟩
theorem E_spec_ReadVals (b : List Int) (a_b : Bool) (t_b : List Tag) (k : qK) : funC g_spec_ReadVals [] .o false Try.f52 [.borrow y0 false] [false, false] [⟨y0, a_b, b, t_b⟩] [] k = spec_ReadVals b (fun (r0 : List qV) (r1 : Bool) => k [⟨y3, false, r0, [.O]⟩, ⟨.bool, false, r1, []⟩] [] []) := by kernel_rfl
theorem S_spec_ReadVals : Sound Try.prog 52 s_spec_ReadVals := sound_of (Γ := g_spec_ReadVals) (X := []) (ht := .o) (fz := false) (c := c_spec_ReadVals) follows tysOk (fns_cons S_spec_l06Vals (fns_cons S_spec_RowBytes fns_nil)) trivial Try.func52 (by kernel_rfl) (by kernel_rfl) (by decide) (by
 intro vals ext k r h
 obtain ⟨b, a_b, t_b, vals, rfl, h1⟩ := av_some h
 obtain ⟨rfl, h2⟩ := nl_some h1
 obtain ⟨rfl, h3⟩ := nl_some h2
 exact (E_spec_ReadVals b a_b t_b k).trans h3)

/-! ### 135 loop.example/g00462/impl.GetNum -/
def c_impl_GetNum : Code := (Try.f135.body).getD .skip
def g_impl_GetNum : Env Unit := ⟨tys, [(103, s_impl_within)], 0⟩
def impl_GetNum_l0_r (t34 : List Int) (t35 : Int) (n_ : Int) (t36 : Int) (rec : Int → Int → Res) (k0 : Int → Res) : Res :=
 bif decide (t36 < t35) then
  bif inb t36 (List.length t34) then
   rec (orI .i64 (shlI .i64 n_ 8) (wi64 (nth 0 t34 t36))) (wi64 (t36 + 1))
  else none
 else
  k0 n_
def impl_GetNum_l0_s (t34 : List Int) (t35 : Int) : (Int × Int) → (Int × Int → Res) → ((Int → Res)) → Res := fun v rec q => impl_GetNum_l0_r t34 t35 v.1 v.2 (fun n_ t36 => rec (n_, t36)) q
def impl_GetNum_l0 (t34 : List Int) (t35 : Int) (n : Nat) (n_ : Int) (t36 : Int) (k0 : Int → Res) : Res := iter (impl_GetNum_l0_s t34 t35) n (n_, t36) (k0)
def ximpl_GetNum_l0 : Node Unit := fun σ k => rdN σ 47 <| rdV σ 8 (.int .i64) false [] fun n_ => rdV σ 34 y0 false [.S] fun t34 => rdV σ 35 (.int .i64) false [] fun t35 => rdV σ 36 (.int .i64) false [] fun t36 => impl_GetNum_l0 t34 t35 FUEL n_ t36 (fun (n_1 : Int) => k (.exit 0) (mkS 47 47 [(8, .val ⟨(.int .i64), false, n_1, []⟩)] []))
theorem eimpl_GetNum_l0 (t34 : List Int) (t35 : Int) (n : Nat) (v : Int × Int) (k : Kont Unit) : loopC (codeC g_impl_GetNum [] .o (Code.pl (Code.pl (Code.pr (Code.pl (Code.pr (Code.pr (Code.pr c_impl_GetNum)))))))) (fun σ => σ.forget [8, 34, 35, 36] []) (cutC ([], []) [(0, [8], [])] ([], [])) n (mkS 47 47 [(8, .val ⟨(.int .i64), false, v.1, []⟩), (34, .val ⟨y0, false, t34, [.S]⟩), (35, .val ⟨(.int .i64), false, t35, []⟩), (36, .val ⟨(.int .i64), false, v.2, []⟩)] []) k = iter (impl_GetNum_l0_s t34 t35) n v ((fun (k : Kont Unit) => (((fun (n_1 : Int) => k (.exit 0) (mkS 47 47 [(8, .val ⟨(.int .i64), false, n_1, []⟩)] []))) : (Int → Res))) k) := loop_eq (fun v : Int × Int => (mkS 47 47 [(8, .val ⟨(.int .i64), false, v.1, []⟩), (34, .val ⟨y0, false, t34, [.S]⟩), (35, .val ⟨(.int .i64), false, t35, []⟩), (36, .val ⟨(.int .i64), false, v.2, []⟩)] [])) (impl_GetNum_l0_s t34 t35) (fun (k : Kont Unit) => (((fun (n_1 : Int) => k (.exit 0) (mkS 47 47 [(8, .val ⟨(.int .i64), false, n_1, []⟩)] []))) : (Int → Res))) (fun v rec k => by kernel_rfl) n v k
theorem oimpl_GetNum_l0 {W0 : Base} {M : Nat → Prop} (hnp : W0.np ≤ 0) : CodeOk Try.prog W0 M (Code.pl (Code.pr (Code.pl (Code.pr (Code.pr (Code.pr c_impl_GetNum)))))) ximpl_GetNum_l0 := show CodeOk Try.prog W0 M (Code.loop (Code.pl (Code.pl (Code.pr (Code.pl (Code.pr (Code.pr (Code.pr c_impl_GetNum)))))))) ximpl_GetNum_l0 from loop_ok (code_sound follows tysOk (calls_ok (fns_cons S_impl_within fns_nil)) hnp [] (Code.pl (Code.pl (Code.pr (Code.pl (Code.pr (Code.pr (Code.pr c_impl_GetNum))))))) .o trivial) (ks := [8, 34, 35, 36]) (bs := []) (fX := (cutC ([], []) [(0, [8], [])] ([], []))) (cutC_le _ _ _) FUEL (by
 intro σ k r h
 obtain ⟨hn, h1⟩ := rdN_some h
 obtain ⟨n_, hs8, h2⟩ := rdV_some h1
 obtain ⟨t34, hs34, h3⟩ := rdV_some h2
 obtain ⟨t35, hs35, h4⟩ := rdV_some h3
 obtain ⟨t36, hs36, h5⟩ := rdV_some h4
 refine ⟨_, ?_, (eimpl_GetNum_l0 t34 t35 FUEL (n_, t36) k).trans h5⟩
 exact mkS_le hn ⟨hs8, hs34, hs35, hs36, trivial⟩ trivial)
def impl_GetNum (b : List Int) (at_ : Int) (size : Int) (k0 : Int → Bool → Res) : Res :=
 impl_within size 1 6 fun (r : Bool) =>
  bif !r then
   k0 0 false
  else
   impl_within at_ 0 (nI (List.length b)) fun (r1 : Bool) =>
    bif !r1 then
     k0 0 false
    else
     bif decide ((wi64 ((nI (List.length b)) - at_)) < size) then
      k0 0 false
     else
      bif cutb at_ (wi64 (at_ + size)) (List.length b) then
       impl_GetNum_l0 (sub b at_ (wi64 (at_ + size))) (nI (List.length (sub b at_ (wi64 (at_ + size))))) FUEL 0 0 fun (n_ : Int) =>
        k0 n_ true
      else none
def s_impl_GetNum : Sig Unit := ⟨[.look y0 false, .look (.int .i64) false, .look (.int .i64) false], [false, false], fun vals ext k => av vals y0 fun b vals => av vals (.int .i64) fun at_ vals => av vals (.int .i64) fun size vals => nl vals <| nl ext <| impl_GetNum b at_ size (fun (r0 : Int) (r1 : Bool) => k [⟨(.int .i64), false, r0, []⟩, ⟨.bool, false, r1, []⟩] [] [])⟩
theorem E_impl_GetNum (b : List Int) (a_b : Bool) (t_b : List Tag) (at_ : Int) (a_at_ : Bool) (t_at_ : List Tag) (size : Int) (a_size : Bool) (t_size : List Tag) (k : qK) : funC g_impl_GetNum [ximpl_GetNum_l0] (.t .o (.t .o (.t .o (.t (.t .o (.t (.x 0) .o)) .o)))) false Try.f135 [.look y0 false, .look (.int .i64) false, .look (.int .i64) false] [false, false] [⟨y0, a_b, b, t_b⟩, ⟨(.int .i64), a_at_, at_, t_at_⟩, ⟨(.int .i64), a_size, size, t_size⟩] [] k = impl_GetNum b at_ size (fun (r0 : Int) (r1 : Bool) => k [⟨(.int .i64), false, r0, []⟩, ⟨.bool, false, r1, []⟩] [] []) := by kernel_rfl
theorem S_impl_GetNum : Sound Try.prog 135 s_impl_GetNum := sound_of (Γ := g_impl_GetNum) (X := [ximpl_GetNum_l0]) (ht := (.t .o (.t .o (.t .o (.t (.t .o (.t (.x 0) .o)) .o))))) (fz := false) (c := c_impl_GetNum) follows tysOk (fns_cons S_impl_within fns_nil) (OrOk.mk trivial ((OrOk.mk trivial ((OrOk.mk trivial ((OrOk.mk ((OrOk.mk trivial ((OrOk.mk (OrOk.x_mk (fun W0 M hnp => oimpl_GetNum_l0 (W0 := W0) (M := M) hnp)) trivial)))) trivial))))))) Try.func135 (by kernel_rfl) (by kernel_rfl) (by decide) (by
 intro vals ext k r h
 obtain ⟨b, a_b, t_b, vals, rfl, h1⟩ := av_some h
 obtain ⟨at_, a_at_, t_at_, vals, rfl, h2⟩ := av_some h1
 obtain ⟨size, a_size, t_size, vals, rfl, h3⟩ := av_some h2
 obtain ⟨rfl, h4⟩ := nl_some h3
 obtain ⟨rfl, h5⟩ := nl_some h4
 exact (E_impl_GetNum b a_b t_b at_ a_at_ t_at_ size a_size t_size k).trans h5)

/-! ### 125 (*loop.example/g00462/impl.scan).num -/
def c_impl_scan_num : Code := (Try.f125.body).getD .skip
def g_impl_scan_num : Env Unit := ⟨tys, [(135, s_impl_GetNum)], 0⟩
def impl_scan_num (size : Int) (e0 : List Int × Int × Bool) (k0 : Int → (List Int × Int × Bool) → Res) : Res :=
 impl_GetNum e0.1 e0.2.1 size fun (r : Int) (r1 : Bool) =>
  bif e0.2.2 then
   k0 0 (e0.1, e0.2.1, true)
  else
   bif !r1 then
    k0 0 (e0.1, e0.2.1, true)
   else
    k0 r (e0.1, wi64 (e0.2.1 + size), e0.2.2)
def s_impl_scan_num : Sig Unit := ⟨[.ptr y6, .borrow (.int .i64) false], [false], fun vals ext k => av vals (.int .i64) fun size vals => nl vals <| ab ext y6 [.S] fun a e0 ext => nl ext <| impl_scan_num size e0 (fun (r0 : Int) (x0 : List Int × Int × Bool) => k [⟨(.int .i64), false, r0, []⟩] [] [⟨y6, a, x0, [.S]⟩])⟩
theorem E_impl_scan_num (size : Int) (a_size : Bool) (t_size : List Tag) (a : Bool) (e0 : List Int × Int × Bool) (k : qK) : funC g_impl_scan_num [] .o false Try.f125 [.ptr y6, .borrow (.int .i64) false] [false] [⟨(.int .i64), a_size, size, t_size⟩] [⟨y6, a, e0, [.S]⟩] k = impl_scan_num size e0 (fun (r0 : Int) (x0 : List Int × Int × Bool) => k [⟨(.int .i64), false, r0, []⟩] [] [⟨y6, a, x0, [.S]⟩]) := by kernel_rfl
theorem S_impl_scan_num : Sound Try.prog 125 s_impl_scan_num := sound_of (Γ := g_impl_scan_num) (X := []) (ht := .o) (fz := false) (c := c_impl_scan_num) follows tysOk (fns_cons S_impl_GetNum fns_nil) trivial Try.func125 (by kernel_rfl) (by kernel_rfl) (by decide) (by
 intro vals ext k r h
 obtain ⟨size, a_size, t_size, vals, rfl, h1⟩ := av_some h
 obtain ⟨rfl, h2⟩ := nl_some h1
 obtain ⟨a, e0, ext, rfl, h3⟩ := ab_some h2
 obtain ⟨rfl, h4⟩ := nl_some h3
 exact (E_impl_scan_num size a_size t_size a e0 k).trans h4)

/-! ### 115 (*loop.example/g00462/impl.scan).many -/
def c_impl_scan_many : Code := (Try.f115.body).getD .skip
def g_impl_scan_many : Env Unit := ⟨tys, [(125, s_impl_scan_num)], 0⟩
def impl_scan_many (most : Int) (e0 : List Int × Int × Bool) (k0 : Int → (List Int × Int × Bool) → Res) : Res :=
 impl_scan_num 1 e0 fun (r : Int) (bt19 : List Int × Int × Bool) =>
  bif decide (r > most) then
   k0 0 (bt19.1, bt19.2.1, true)
  else
   bif bt19.2.2 then
    k0 0 bt19
   else
    k0 r bt19
def s_impl_scan_many : Sig Unit := ⟨[.ptr y6, .borrow (.int .i64) false], [false], fun vals ext k => av vals (.int .i64) fun most vals => nl vals <| ab ext y6 [.S] fun a e0 ext => nl ext <| impl_scan_many most e0 (fun (r0 : Int) (x0 : List Int × Int × Bool) => k [⟨(.int .i64), false, r0, []⟩] [] [⟨y6, a, x0, [.S]⟩])⟩
theorem E_impl_scan_many (most : Int) (a_most : Bool) (t_most : List Tag) (a : Bool) (e0 : List Int × Int × Bool) (k : qK) : funC g_impl_scan_many [] .o false Try.f115 [.ptr y6, .borrow (.int .i64) false] [false] [⟨(.int .i64), a_most, most, t_most⟩] [⟨y6, a, e0, [.S]⟩] k = impl_scan_many most e0 (fun (r0 : Int) (x0 : List Int × Int × Bool) => k [⟨(.int .i64), false, r0, []⟩] [] [⟨y6, a, x0, [.S]⟩]) := by kernel_rfl
theorem S_impl_scan_many : Sound Try.prog 115 s_impl_scan_many := sound_of (Γ := g_impl_scan_many) (X := []) (ht := .o) (fz := false) (c := c_impl_scan_many) follows tysOk (fns_cons S_impl_scan_num fns_nil) trivial Try.func115 (by kernel_rfl) (by kernel_rfl) (by decide) (by
 intro vals ext k r h
 obtain ⟨most, a_most, t_most, vals, rfl, h1⟩ := av_some h
 obtain ⟨rfl, h2⟩ := nl_some h1
 obtain ⟨a, e0, ext, rfl, h3⟩ := ab_some h2
 obtain ⟨rfl, h4⟩ := nl_some h3
 exact (E_impl_scan_many most a_most t_most a e0 k).trans h4)

/-! ### 136 (*loop.example/g00462/impl.scan).take -/
def c_impl_scan_take : Code := (Try.f136.body).getD .skip
def g_impl_scan_take : Env Unit := ⟨tys, [], 0⟩
def impl_scan_take (n_ : Int) (e0 : List Int × Int × Bool) (k0 : (List Int) → (List Int × Int × Bool) → Res) : Res :=
 bif e0.2.2 then
  k0 [] (e0.1, e0.2.1, true)
 else
  bif decide (n_ > (wi64 ((nI (List.length e0.1)) - e0.2.1))) then
   k0 [] (e0.1, e0.2.1, true)
  else
   bif cutb (wi64 ((wi64 (e0.2.1 + n_)) - n_)) (wi64 (e0.2.1 + n_)) (List.length e0.1) then
    k0 (sub e0.1 (wi64 ((wi64 (e0.2.1 + n_)) - n_)) (wi64 (e0.2.1 + n_))) (e0.1, wi64 (e0.2.1 + n_), e0.2.2)
   else none
def s_impl_scan_take : Sig Unit := ⟨[.ptr y6, .borrow (.int .i64) false], [false], fun vals ext k => av vals (.int .i64) fun n_ vals => nl vals <| ab ext y6 [.S] fun a e0 ext => nl ext <| impl_scan_take n_ e0 (fun (r0 : List Int) (x0 : List Int × Int × Bool) => k [⟨y0, false, r0, [.S]⟩] [] [⟨y6, a, x0, [.S]⟩])⟩
theorem E_impl_scan_take (n_ : Int) (a_n_ : Bool) (t_n_ : List Tag) (a : Bool) (e0 : List Int × Int × Bool) (k : qK) : funC g_impl_scan_take [] .o true Try.f136 [.ptr y6, .borrow (.int .i64) false] [false] [⟨(.int .i64), a_n_, n_, t_n_⟩] [⟨y6, a, e0, [.S]⟩] k = impl_scan_take n_ e0 (fun (r0 : List Int) (x0 : List Int × Int × Bool) => k [⟨y0, false, r0, [.S]⟩] [] [⟨y6, a, x0, [.S]⟩]) := by kernel_rfl
theorem S_impl_scan_take : Sound Try.prog 136 s_impl_scan_take := sound_of (Γ := g_impl_scan_take) (X := []) (ht := .o) (fz := true) (c := c_impl_scan_take) follows tysOk fns_nil trivial Try.func136 (by kernel_rfl) (by kernel_rfl) (by decide) (by
 intro vals ext k r h
 obtain ⟨n_, a_n_, t_n_, vals, rfl, h1⟩ := av_some h
 obtain ⟨rfl, h2⟩ := nl_some h1
 obtain ⟨a, e0, ext, rfl, h3⟩ := ab_some h2
 obtain ⟨rfl, h4⟩ := nl_some h3
 exact (E_impl_scan_take n_ a_n_ t_n_ a e0 k).trans h4)

/-! ### 126 (*loop.example/g00462/impl.scan).text -/
def c_impl_scan_text : Code := (Try.f126.body).getD .skip
def g_impl_scan_text : Env Unit := ⟨tys, [(125, s_impl_scan_num), (136, s_impl_scan_take)], 0⟩
def impl_scan_text (e0 : List Int × Int × Bool) (k0 : ByteArray → (List Int × Int × Bool) → Res) : Res :=
 impl_scan_num 1 e0 fun (r : Int) (bt10 : List Int × Int × Bool) =>
  impl_scan_take r bt10 fun (r1 : List Int) (bt101 : List Int × Int × Bool) =>
   k0 (ofBytes r1) bt101
def s_impl_scan_text : Sig Unit := ⟨[.ptr y6], [false], fun vals ext k => nl vals <| ab ext y6 [.S] fun a e0 ext => nl ext <| impl_scan_text e0 (fun (r0 : ByteArray) (x0 : List Int × Int × Bool) => k [⟨.str, false, r0, []⟩] [] [⟨y6, a, x0, [.S]⟩])⟩
theorem E_impl_scan_text (a : Bool) (e0 : List Int × Int × Bool) (k : qK) : funC g_impl_scan_text [] .o false Try.f126 [.ptr y6] [false] [] [⟨y6, a, e0, [.S]⟩] k = impl_scan_text e0 (fun (r0 : ByteArray) (x0 : List Int × Int × Bool) => k [⟨.str, false, r0, []⟩] [] [⟨y6, a, x0, [.S]⟩]) := by kernel_rfl
theorem S_impl_scan_text : Sound Try.prog 126 s_impl_scan_text := sound_of (Γ := g_impl_scan_text) (X := []) (ht := .o) (fz := false) (c := c_impl_scan_text) follows tysOk (fns_cons S_impl_scan_num (fns_cons S_impl_scan_take fns_nil)) trivial Try.func126 (by kernel_rfl) (by kernel_rfl) (by decide) (by
 intro vals ext k r h
 obtain ⟨rfl, h1⟩ := nl_some h
 obtain ⟨a, e0, ext, rfl, h2⟩ := ab_some h1
 obtain ⟨rfl, h3⟩ := nl_some h2
 exact (E_impl_scan_text a e0 k).trans h3)

/-! ### 116 (*loop.example/g00462/impl.scan).val -/
def c_impl_scan_val : Code := (Try.f116.body).getD .skip
def g_impl_scan_val : Env Unit := ⟨tys, [(125, s_impl_scan_num), (126, s_impl_scan_text)], 0⟩
def impl_scan_val_p0 (t9 : Int) (v_ : Int × Int × ByteArray) (e0 : List Int × Int × Bool) (k0 : qV → (List Int × Int × Bool) → Res) : Res :=
 bif (t9 == 1) then
  impl_scan_num 1 e0 fun (r : Int) (bt34 : List Int × Int × Bool) =>
   k0 (v_.1, r, v_.2.2) bt34
 else
  bif (t9 == 2) then
   impl_scan_num 1 e0 fun (r1 : Int) (bt341 : List Int × Int × Bool) =>
    impl_scan_num 6 bt341 fun (r2 : Int) (bt342 : List Int × Int × Bool) =>
     bif (r1 == 1) then
      k0 (v_.1, wi64 (0 - r2), v_.2.2) bt342
     else
      k0 (v_.1, r2, v_.2.2) bt342
  else
   bif (t9 == 3) then
    impl_scan_text e0 fun (r3 : ByteArray) (bt343 : List Int × Int × Bool) =>
     k0 (v_.1, v_.2.1, r3) bt343
   else
    k0 v_ e0
def ximpl_scan_val_p0 : Node Unit := fun σ k => rdN σ 34 <| rdT σ 0 (.ptr ⟨true, 34, []⟩) <| rdT σ 2 (.ptr ⟨true, 2, []⟩) <| rdT σ 3 (.ptr ⟨true, 3, []⟩) <| rdV σ 9 (.int .i64) false [] fun t9 => rdB σ 2 y2 [] fun a t2 => rdB σ 3 y2 [] fun a1 v_ => rdB σ 34 y6 [.S] fun a2 e0 => impl_scan_val_p0 t9 v_ e0 (fun (v_1 : Int × Int × ByteArray) (e01 : List Int × Int × Bool) => k .normal (mkS 34 35 [(2, .ptr ⟨true, 2, []⟩), (3, .ptr ⟨true, 3, []⟩)] [(2, ⟨y2, a, t2, []⟩), (3, ⟨y2, a1, v_1, []⟩), (34, ⟨y6, a2, e01, [.S]⟩)]))
theorem eimpl_scan_val_p0 (t9 : Int) (a : Bool) (t2 : Int × Int × ByteArray) (a1 : Bool) (v_ : Int × Int × ByteArray) (a2 : Bool) (e0 : List Int × Int × Bool) (k : Kont Unit) : codeC g_impl_scan_val [] .o (Code.pr (Code.pl (Code.pr (Code.pr c_impl_scan_val)))) (mkS 34 35 [(0, .ptr ⟨true, 34, []⟩), (2, .ptr ⟨true, 2, []⟩), (3, .ptr ⟨true, 3, []⟩), (9, .val ⟨(.int .i64), false, t9, []⟩)] [(2, ⟨y2, a, t2, []⟩), (3, ⟨y2, a1, v_, []⟩), (34, ⟨y6, a2, e0, [.S]⟩)]) (fun e σ => k e ((cutC ([2, 3], [2, 3, 34]) [] ([], [])) e σ)) = impl_scan_val_p0 t9 v_ e0 (fun (v_1 : Int × Int × ByteArray) (e01 : List Int × Int × Bool) => k .normal (mkS 34 35 [(2, .ptr ⟨true, 2, []⟩), (3, .ptr ⟨true, 3, []⟩)] [(2, ⟨y2, a, t2, []⟩), (3, ⟨y2, a1, v_1, []⟩), (34, ⟨y6, a2, e01, [.S]⟩)])) := by kernel_rfl
theorem oimpl_scan_val_p0 {W0 : Base} {M : Nat → Prop} (hnp : W0.np ≤ 0) : CodeOk Try.prog W0 M (Code.pr (Code.pl (Code.pr (Code.pr c_impl_scan_val)))) ximpl_scan_val_p0 := node_ok (code_sound follows tysOk (calls_ok (fns_cons S_impl_scan_num (fns_cons S_impl_scan_text fns_nil))) hnp [] ((Code.pr (Code.pl (Code.pr (Code.pr c_impl_scan_val))))) .o trivial) (fg := (cutC ([2, 3], [2, 3, 34]) [] ([], []))) (cutC_le _ _ _) (by
 intro σ k r h
 obtain ⟨hn, h1⟩ := rdN_some h
 obtain ⟨hs0, h2⟩ := rdT_some h1
 obtain ⟨hs2, h3⟩ := rdT_some h2
 obtain ⟨hs3, h4⟩ := rdT_some h3
 obtain ⟨t9, hs9, h5⟩ := rdV_some h4
 obtain ⟨a, t2, hb2, h6⟩ := rdB_some h5
 obtain ⟨a1, v_, hb3, h7⟩ := rdB_some h6
 obtain ⟨a2, e0, hb34, h8⟩ := rdB_some h7
 refine ⟨_, ?_, (eimpl_scan_val_p0 t9 a t2 a1 v_ a2 e0 k).trans h8⟩
 exact mkS_le hn ⟨hs0, hs2, hs3, hs9, trivial⟩ ⟨hb2, hb3, hb34, trivial⟩)
def impl_scan_val (e0 : List Int × Int × Bool) (k0 : qV → (List Int × Int × Bool) → Res) : Res :=
 impl_scan_num 1 e0 fun (r : Int) (bt34 : List Int × Int × Bool) =>
  impl_scan_val_p0 r (r, 0, eS) bt34 fun (v_ : Int × Int × ByteArray) (e : List Int × Int × Bool) =>
   k0 v_ e
def s_impl_scan_val : Sig Unit := ⟨[.ptr y6], [true], fun vals ext k => nl vals <| ab ext y6 [.S] fun a e0 ext => nl ext <| impl_scan_val e0 (fun (r0 : Int × Int × ByteArray) (x0 : List Int × Int × Bool) => k [⟨y2, true, r0, []⟩] [] [⟨y6, a, x0, [.S]⟩])⟩
theorem E_impl_scan_val (a : Bool) (e0 : List Int × Int × Bool) (k : qK) : funC g_impl_scan_val [ximpl_scan_val_p0] (.t .o (.t .o (.t (.t .o (.x 0)) .o))) false Try.f116 [.ptr y6] [true] [] [⟨y6, a, e0, [.S]⟩] k = impl_scan_val e0 (fun (r0 : Int × Int × ByteArray) (x0 : List Int × Int × Bool) => k [⟨y2, true, r0, []⟩] [] [⟨y6, a, x0, [.S]⟩]) := by kernel_rfl
theorem S_impl_scan_val : Sound Try.prog 116 s_impl_scan_val := sound_of (Γ := g_impl_scan_val) (X := [ximpl_scan_val_p0]) (ht := (.t .o (.t .o (.t (.t .o (.x 0)) .o)))) (fz := false) (c := c_impl_scan_val) follows tysOk (fns_cons S_impl_scan_num (fns_cons S_impl_scan_text fns_nil)) (OrOk.mk trivial ((OrOk.mk trivial ((OrOk.mk ((OrOk.mk trivial (OrOk.x_mk (fun W0 M hnp => oimpl_scan_val_p0 (W0 := W0) (M := M) hnp)))) trivial))))) Try.func116 (by kernel_rfl) (by kernel_rfl) (by decide) (by
 intro vals ext k r h
 obtain ⟨rfl, h1⟩ := nl_some h
 obtain ⟨a, e0, ext, rfl, h2⟩ := ab_some h1
 obtain ⟨rfl, h3⟩ := nl_some h2
 exact (E_impl_scan_val a e0 k).trans h3)

/-! ### 98 (*loop.example/g00462/impl.scan).vals -/
def c_impl_scan_vals : Code := (Try.f98.body).getD .skip
def g_impl_scan_vals : Env Unit := ⟨tys, [(115, s_impl_scan_many), (116, s_impl_scan_val)], 0⟩
def impl_scan_vals_l0_r (t9 : Int) (out : List qV) (t10 : Int) (e0 : List Int × Int × Bool) (rec : qW → Int → (List Int × Int × Bool) → Res) (k0 : qW → (List Int × Int × Bool) → Res) : Res :=
 bif decide (t10 < t9) then
  impl_scan_val e0 fun (r : Int × Int × ByteArray) (bt20 : List Int × Int × Bool) =>
   bif lim ((List.length out) + 1) then
    rec (out ++ [r]) (wi64 (t10 + 1)) bt20
   else none
 else
  k0 out e0
def impl_scan_vals_l0_s (t9 : Int) : (qW × Int × (List Int × Int × Bool)) → (qW × Int × (List Int × Int × Bool) → Res) → ((qW → (List Int × Int × Bool) → Res)) → Res := fun v rec q => impl_scan_vals_l0_r t9 v.1 v.2.1 v.2.2 (fun out t10 e0 => rec (out, t10, e0)) q
def impl_scan_vals_l0 (t9 : Int) (n : Nat) (out : List qV) (t10 : Int) (e0 : List Int × Int × Bool) (k0 : qW → (List Int × Int × Bool) → Res) : Res := iter (impl_scan_vals_l0_s t9) n (out, t10, e0) (k0)
def ximpl_scan_vals_l0 : Node Unit := fun σ k => rdN σ 20 <| rdT σ 0 (.ptr ⟨true, 20, []⟩) <| rdV σ 3 y3 false [.O] fun out => rdV σ 9 (.int .i64) false [] fun t9 => rdV σ 10 (.int .i64) false [] fun t10 => rdB σ 20 y6 [.S] fun a e0 => impl_scan_vals_l0 t9 FUEL out t10 e0 (fun (out1 : List qV) (e01 : List Int × Int × Bool) => k (.exit 0) (mkS 20 21 [(3, .val ⟨y3, false, out1, [.O]⟩)] [(20, ⟨y6, a, e01, [.S]⟩)]))
theorem eimpl_scan_vals_l0 (t9 : Int) (a : Bool) (n : Nat) (v : qW × Int × (List Int × Int × Bool)) (k : Kont Unit) : loopC (codeC g_impl_scan_vals [] .o (Code.pl (Code.pl (Code.pr (Code.pl (Code.pr (Code.pr (Code.pr c_impl_scan_vals)))))))) (fun σ => σ.forget [0, 3, 9, 10] [20]) (cutC ([], []) [(0, [3], [20])] ([], [])) n (mkS 20 21 [(0, .ptr ⟨true, 20, []⟩), (3, .val ⟨y3, false, v.1, [.O]⟩), (9, .val ⟨(.int .i64), false, t9, []⟩), (10, .val ⟨(.int .i64), false, v.2.1, []⟩)] [(20, ⟨y6, a, v.2.2, [.S]⟩)]) k = iter (impl_scan_vals_l0_s t9) n v ((fun (k : Kont Unit) => (((fun (out1 : List qV) (e01 : List Int × Int × Bool) => k (.exit 0) (mkS 20 21 [(3, .val ⟨y3, false, out1, [.O]⟩)] [(20, ⟨y6, a, e01, [.S]⟩)]))) : (qW → (List Int × Int × Bool) → Res))) k) := loop_eq (fun v : qW × Int × (List Int × Int × Bool) => (mkS 20 21 [(0, .ptr ⟨true, 20, []⟩), (3, .val ⟨y3, false, v.1, [.O]⟩), (9, .val ⟨(.int .i64), false, t9, []⟩), (10, .val ⟨(.int .i64), false, v.2.1, []⟩)] [(20, ⟨y6, a, v.2.2, [.S]⟩)])) (impl_scan_vals_l0_s t9) (fun (k : Kont Unit) => (((fun (out1 : List qV) (e01 : List Int × Int × Bool) => k (.exit 0) (mkS 20 21 [(3, .val ⟨y3, false, out1, [.O]⟩)] [(20, ⟨y6, a, e01, [.S]⟩)]))) : (qW → (List Int × Int × Bool) → Res))) (fun v rec k => by kernel_rfl) n v k
theorem oimpl_scan_vals_l0 {W0 : Base} {M : Nat → Prop} (hnp : W0.np ≤ 0) : CodeOk Try.prog W0 M (Code.pl (Code.pr (Code.pl (Code.pr (Code.pr (Code.pr c_impl_scan_vals)))))) ximpl_scan_vals_l0 := show CodeOk Try.prog W0 M (Code.loop (Code.pl (Code.pl (Code.pr (Code.pl (Code.pr (Code.pr (Code.pr c_impl_scan_vals)))))))) ximpl_scan_vals_l0 from loop_ok (code_sound follows tysOk (calls_ok (fns_cons S_impl_scan_many (fns_cons S_impl_scan_val fns_nil))) hnp [] (Code.pl (Code.pl (Code.pr (Code.pl (Code.pr (Code.pr (Code.pr c_impl_scan_vals))))))) .o trivial) (ks := [0, 3, 9, 10]) (bs := [20]) (fX := (cutC ([], []) [(0, [3], [20])] ([], []))) (cutC_le _ _ _) FUEL (by
 intro σ k r h
 obtain ⟨hn, h1⟩ := rdN_some h
 obtain ⟨hs0, h2⟩ := rdT_some h1
 obtain ⟨out, hs3, h3⟩ := rdV_some h2
 obtain ⟨t9, hs9, h4⟩ := rdV_some h3
 obtain ⟨t10, hs10, h5⟩ := rdV_some h4
 obtain ⟨a, e0, hb20, h6⟩ := rdB_some h5
 refine ⟨_, ?_, (eimpl_scan_vals_l0 t9 a FUEL (out, t10, e0) k).trans h6⟩
 exact mkS_le hn ⟨hs0, hs3, hs9, hs10, trivial⟩ ⟨hb20, trivial⟩)
def impl_scan_vals (e0 : List Int × Int × Bool) (k0 : qW → (List Int × Int × Bool) → Res) : Res :=
 impl_scan_many 8 e0 fun (r : Int) (bt20 : List Int × Int × Bool) =>
  impl_scan_vals_l0 r FUEL [] 0 bt20 fun (out : List qV) (e : List Int × Int × Bool) =>
   k0 out e
def s_impl_scan_vals : Sig Unit := ⟨[.ptr y6], [false], fun vals ext k => nl vals <| ab ext y6 [.S] fun a e0 ext => nl ext <| impl_scan_vals e0 (fun (r0 : List qV) (x0 : List Int × Int × Bool) => k [⟨y3, false, r0, [.O]⟩] [] [⟨y6, a, x0, [.S]⟩])⟩
theorem E_impl_scan_vals (a : Bool) (e0 : List Int × Int × Bool) (k : qK) : funC g_impl_scan_vals [ximpl_scan_vals_l0] (.t .o (.t .o (.t .o (.t (.t .o (.t (.x 0) .o)) .o)))) false Try.f98 [.ptr y6] [false] [] [⟨y6, a, e0, [.S]⟩] k = impl_scan_vals e0 (fun (r0 : List qV) (x0 : List Int × Int × Bool) => k [⟨y3, false, r0, [.O]⟩] [] [⟨y6, a, x0, [.S]⟩]) := by kernel_rfl
theorem S_impl_scan_vals : Sound Try.prog 98 s_impl_scan_vals := sound_of (Γ := g_impl_scan_vals) (X := [ximpl_scan_vals_l0]) (ht := (.t .o (.t .o (.t .o (.t (.t .o (.t (.x 0) .o)) .o))))) (fz := false) (c := c_impl_scan_vals) follows tysOk (fns_cons S_impl_scan_many (fns_cons S_impl_scan_val fns_nil)) (OrOk.mk trivial ((OrOk.mk trivial ((OrOk.mk trivial ((OrOk.mk ((OrOk.mk trivial ((OrOk.mk (OrOk.x_mk (fun W0 M hnp => oimpl_scan_vals_l0 (W0 := W0) (M := M) hnp)) trivial)))) trivial))))))) Try.func98 (by kernel_rfl) (by kernel_rfl) (by decide) (by
 intro vals ext k r h
 obtain ⟨rfl, h1⟩ := nl_some h
 obtain ⟨a, e0, ext, rfl, h2⟩ := ab_some h1
 obtain ⟨rfl, h3⟩ := nl_some h2
 exact (E_impl_scan_vals a e0 k).trans h3)

/-! ### 127 loop.example/g00462/impl.num -/
def c_impl_num : Code := (Try.f127.body).getD .skip
def g_impl_num : Env Unit := ⟨tys, [], 0⟩
def impl_num_l0_r (n_ : Int) (b : List Int) (i : Int) (rec : (List Int) → Int → Res) (k0 : (List Int) → Res) : Res :=
 bif decide (i ≥ 0) then
  bif !(decide ((wi64 (8 * i)) < 0)) then
   bif lim ((List.length b) + 1) then
    rec (b ++ [wu8 (shrI .i64 n_ (wi64 (8 * i)))]) (wi64 (i - 1))
   else none
  else none
 else
  k0 b
def impl_num_l0_s (n_ : Int) : ((List Int) × Int) → ((List Int) × Int → Res) → (((List Int) → Res)) → Res := fun v rec q => impl_num_l0_r n_ v.1 v.2 (fun b i => rec (b, i)) q
def impl_num_l0 (n_ : Int) (n : Nat) (b : List Int) (i : Int) (k0 : (List Int) → Res) : Res := iter (impl_num_l0_s n_) n (b, i) (k0)
def ximpl_num_l0 : Node Unit := fun σ k => rdN σ 23 <| rdV σ 0 y0 false [.O] fun b => rdV σ 1 (.int .i64) false [] fun n_ => rdV σ 7 (.int .i64) false [] fun i => impl_num_l0 n_ FUEL b i (fun (b1 : List Int) => k (.exit 0) (mkS 23 23 [(0, .val ⟨y0, false, b1, [.O]⟩)] []))
theorem eimpl_num_l0 (n_ : Int) (n : Nat) (v : (List Int) × Int) (k : Kont Unit) : loopC (codeC g_impl_num [] .o (Code.pl (Code.pl (Code.pr (Code.pl (Code.pr c_impl_num)))))) (fun σ => σ.forget [0, 1, 7] []) (cutC ([], []) [(0, [0], [])] ([], [])) n (mkS 23 23 [(0, .val ⟨y0, false, v.1, [.O]⟩), (1, .val ⟨(.int .i64), false, n_, []⟩), (7, .val ⟨(.int .i64), false, v.2, []⟩)] []) k = iter (impl_num_l0_s n_) n v ((fun (k : Kont Unit) => (((fun (b1 : List Int) => k (.exit 0) (mkS 23 23 [(0, .val ⟨y0, false, b1, [.O]⟩)] []))) : ((List Int) → Res))) k) := loop_eq (fun v : (List Int) × Int => (mkS 23 23 [(0, .val ⟨y0, false, v.1, [.O]⟩), (1, .val ⟨(.int .i64), false, n_, []⟩), (7, .val ⟨(.int .i64), false, v.2, []⟩)] [])) (impl_num_l0_s n_) (fun (k : Kont Unit) => (((fun (b1 : List Int) => k (.exit 0) (mkS 23 23 [(0, .val ⟨y0, false, b1, [.O]⟩)] []))) : ((List Int) → Res))) (fun v rec k => by kernel_rfl) n v k
theorem oimpl_num_l0 {W0 : Base} {M : Nat → Prop} (hnp : W0.np ≤ 0) : CodeOk Try.prog W0 M (Code.pl (Code.pr (Code.pl (Code.pr c_impl_num)))) ximpl_num_l0 := show CodeOk Try.prog W0 M (Code.loop (Code.pl (Code.pl (Code.pr (Code.pl (Code.pr c_impl_num)))))) ximpl_num_l0 from loop_ok (code_sound follows tysOk (calls_ok fns_nil) hnp [] (Code.pl (Code.pl (Code.pr (Code.pl (Code.pr c_impl_num))))) .o trivial) (ks := [0, 1, 7]) (bs := []) (fX := (cutC ([], []) [(0, [0], [])] ([], []))) (cutC_le _ _ _) FUEL (by
 intro σ k r h
 obtain ⟨hn, h1⟩ := rdN_some h
 obtain ⟨b, hs0, h2⟩ := rdV_some h1
 obtain ⟨n_, hs1, h3⟩ := rdV_some h2
 obtain ⟨i, hs7, h4⟩ := rdV_some h3
 refine ⟨_, ?_, (eimpl_num_l0 n_ FUEL (b, i) k).trans h4⟩
 exact mkS_le hn ⟨hs0, hs1, hs7, trivial⟩ trivial)
def impl_num (b : List Int) (n_ : Int) (size : Int) (k0 : (List Int) → Res) : Res :=
 impl_num_l0 n_ FUEL b (wi64 (size - 1)) fun (b1 : List Int) =>
  k0 b1
def s_impl_num : Sig Unit := ⟨[.eat y0 false, .borrow (.int .i64) false, .borrow (.int .i64) false], [false], fun vals ext k => ao vals y0 [.O] fun b vals => av vals (.int .i64) fun n_ vals => av vals (.int .i64) fun size vals => nl vals <| nl ext <| impl_num b n_ size (fun (r0 : List Int) => k [⟨y0, false, r0, [.O]⟩] [] [])⟩
theorem E_impl_num (a_b : Bool) (b : List Int) (n_ : Int) (a_n_ : Bool) (t_n_ : List Tag) (size : Int) (a_size : Bool) (t_size : List Tag) (k : qK) : funC g_impl_num [ximpl_num_l0] (.t .o (.t (.t .o (.t (.x 0) .o)) .o)) false Try.f127 [.eat y0 false, .borrow (.int .i64) false, .borrow (.int .i64) false] [false] [⟨y0, a_b, b, [.O]⟩, ⟨(.int .i64), a_n_, n_, t_n_⟩, ⟨(.int .i64), a_size, size, t_size⟩] [] k = impl_num b n_ size (fun (r0 : List Int) => k [⟨y0, false, r0, [.O]⟩] [] []) := by kernel_rfl
theorem S_impl_num : Sound Try.prog 127 s_impl_num := sound_of (Γ := g_impl_num) (X := [ximpl_num_l0]) (ht := (.t .o (.t (.t .o (.t (.x 0) .o)) .o))) (fz := false) (c := c_impl_num) follows tysOk fns_nil (OrOk.mk trivial ((OrOk.mk ((OrOk.mk trivial ((OrOk.mk (OrOk.x_mk (fun W0 M hnp => oimpl_num_l0 (W0 := W0) (M := M) hnp)) trivial)))) trivial))) Try.func127 (by kernel_rfl) (by kernel_rfl) (by decide) (by
 intro vals ext k r h
 obtain ⟨a_b, b, vals, rfl, h1⟩ := ao_some h
 obtain ⟨n_, a_n_, t_n_, vals, rfl, h2⟩ := av_some h1
 obtain ⟨size, a_size, t_size, vals, rfl, h3⟩ := av_some h2
 obtain ⟨rfl, h4⟩ := nl_some h3
 obtain ⟨rfl, h5⟩ := nl_some h4
 exact (E_impl_num a_b b n_ a_n_ t_n_ size a_size t_size k).trans h5)

/-! ### 137 loop.example/g00462/impl.flag -/
def c_impl_flag : Code := (Try.f137.body).getD .skip
def g_impl_flag : Env Unit := ⟨tys, [], 0⟩
def impl_flag (b : List Int) (is : Bool) (k0 : (List Int) → Res) : Res :=
 bif is then
  bif lim ((List.length b) + 1) then
   k0 (b ++ [1])
  else none
 else
  bif lim ((List.length b) + 1) then
   k0 (b ++ [0])
  else none
def s_impl_flag : Sig Unit := ⟨[.eat y0 false, .borrow .bool false], [false], fun vals ext k => ao vals y0 [.O] fun b vals => av vals .bool fun is vals => nl vals <| nl ext <| impl_flag b is (fun (r0 : List Int) => k [⟨y0, false, r0, [.O]⟩] [] [])⟩
theorem E_impl_flag (a_b : Bool) (b : List Int) (is : Bool) (a_is : Bool) (t_is : List Tag) (k : qK) : funC g_impl_flag [] .o false Try.f137 [.eat y0 false, .borrow .bool false] [false] [⟨y0, a_b, b, [.O]⟩, ⟨.bool, a_is, is, t_is⟩] [] k = impl_flag b is (fun (r0 : List Int) => k [⟨y0, false, r0, [.O]⟩] [] []) := by kernel_rfl
theorem S_impl_flag : Sound Try.prog 137 s_impl_flag := sound_of (Γ := g_impl_flag) (X := []) (ht := .o) (fz := false) (c := c_impl_flag) follows tysOk fns_nil trivial Try.func137 (by kernel_rfl) (by kernel_rfl) (by decide) (by
 intro vals ext k r h
 obtain ⟨a_b, b, vals, rfl, h1⟩ := ao_some h
 obtain ⟨is, a_is, t_is, vals, rfl, h2⟩ := av_some h1
 obtain ⟨rfl, h3⟩ := nl_some h2
 obtain ⟨rfl, h4⟩ := nl_some h3
 exact (E_impl_flag a_b b is a_is t_is k).trans h4)

/-! ### 138 loop.example/g00462/impl.text -/
def c_impl_text : Code := (Try.f138.body).getD .skip
def g_impl_text : Env Unit := ⟨tys, [(127, s_impl_num)], 0⟩
def impl_text (b : List Int) (s : ByteArray) (k0 : (List Int) → Res) : Res :=
 impl_num b (nI (ByteArray.size s)) 1 fun (r : List Int) =>
  bif lim ((List.length r) + (ByteArray.size s)) then
   k0 (r ++ (toBytes s))
  else none
def s_impl_text : Sig Unit := ⟨[.eat y0 false, .borrow .str false], [false], fun vals ext k => ao vals y0 [.O] fun b vals => av vals .str fun s vals => nl vals <| nl ext <| impl_text b s (fun (r0 : List Int) => k [⟨y0, false, r0, [.O]⟩] [] [])⟩
theorem E_impl_text (a_b : Bool) (b : List Int) (s : ByteArray) (a_s : Bool) (t_s : List Tag) (k : qK) : funC g_impl_text [] .o false Try.f138 [.eat y0 false, .borrow .str false] [false] [⟨y0, a_b, b, [.O]⟩, ⟨.str, a_s, s, t_s⟩] [] k = impl_text b s (fun (r0 : List Int) => k [⟨y0, false, r0, [.O]⟩] [] []) := by kernel_rfl
theorem S_impl_text : Sound Try.prog 138 s_impl_text := sound_of (Γ := g_impl_text) (X := []) (ht := .o) (fz := false) (c := c_impl_text) follows tysOk (fns_cons S_impl_num fns_nil) trivial Try.func138 (by kernel_rfl) (by kernel_rfl) (by decide) (by
 intro vals ext k r h
 obtain ⟨a_b, b, vals, rfl, h1⟩ := ao_some h
 obtain ⟨s, a_s, t_s, vals, rfl, h2⟩ := av_some h1
 obtain ⟨rfl, h3⟩ := nl_some h2
 obtain ⟨rfl, h4⟩ := nl_some h3
 exact (E_impl_text a_b b s a_s t_s k).trans h4)

/-! ### 128 loop.example/g00462/impl.val -/
def c_impl_val : Code := (Try.f128.body).getD .skip
def g_impl_val : Env Unit := ⟨tys, [(127, s_impl_num), (137, s_impl_flag), (138, s_impl_text)], 0⟩
def impl_val (b : List Int) (v_ : Int × Int × ByteArray) (k0 : (List Int) → Res) : Res :=
 impl_num b v_.1 1 fun (r : List Int) =>
  bif (v_.1 == 1) then
   impl_num r v_.2.1 1 fun (r1 : List Int) =>
    k0 r1
  else
   bif (v_.1 == 2) then
    impl_flag r (decide (v_.2.1 < 0)) fun (r2 : List Int) =>
     impl_num r2 (mxI v_.2.1 (wi64 (0 - v_.2.1))) 6 fun (r3 : List Int) =>
      k0 r3
   else
    bif (v_.1 == 3) then
     impl_text r v_.2.2 fun (r4 : List Int) =>
      k0 r4
    else
     k0 r
def s_impl_val : Sig Unit := ⟨[.eat y0 false, .borrow y2 true], [false], fun vals ext k => ao vals y0 [.O] fun b vals => av vals y2 fun v_ vals => nl vals <| nl ext <| impl_val b v_ (fun (r0 : List Int) => k [⟨y0, false, r0, [.O]⟩] [] [])⟩
theorem E_impl_val (a_b : Bool) (b : List Int) (v_ : Int × Int × ByteArray) (a_v_ : Bool) (t_v_ : List Tag) (k : qK) : funC g_impl_val [] .o false Try.f128 [.eat y0 false, .borrow y2 true] [false] [⟨y0, a_b, b, [.O]⟩, ⟨y2, a_v_, v_, t_v_⟩] [] k = impl_val b v_ (fun (r0 : List Int) => k [⟨y0, false, r0, [.O]⟩] [] []) := by kernel_rfl
theorem S_impl_val : Sound Try.prog 128 s_impl_val := sound_of (Γ := g_impl_val) (X := []) (ht := .o) (fz := false) (c := c_impl_val) follows tysOk (fns_cons S_impl_num (fns_cons S_impl_flag (fns_cons S_impl_text fns_nil))) trivial Try.func128 (by kernel_rfl) (by kernel_rfl) (by decide) (by
 intro vals ext k r h
 obtain ⟨a_b, b, vals, rfl, h1⟩ := ao_some h
 obtain ⟨v_, a_v_, t_v_, vals, rfl, h2⟩ := av_some h1
 obtain ⟨rfl, h3⟩ := nl_some h2
 obtain ⟨rfl, h4⟩ := nl_some h3
 exact (E_impl_val a_b b v_ a_v_ t_v_ k).trans h4)

/-! ### 117 loop.example/g00462/impl.vals -/
def c_impl_vals : Code := (Try.f117.body).getD .skip
def g_impl_vals : Env Unit := ⟨tys, [(127, s_impl_num), (128, s_impl_val)], 0⟩
def impl_vals_l0_r (t11 : List qV) (t12 : Int) (b : List Int) (t13 : Int) (rec : (List Int) → Int → Res) (k0 : (List Int) → Res) : Res :=
 bif decide (t13 < t12) then
  bif inb t13 (List.length t11) then
   impl_val b (nth (0, 0, eS) t11 t13) fun (r : List Int) =>
    rec r (wi64 (t13 + 1))
  else none
 else
  k0 b
def impl_vals_l0_s (t11 : List qV) (t12 : Int) : ((List Int) × Int) → ((List Int) × Int → Res) → (((List Int) → Res)) → Res := fun v rec q => impl_vals_l0_r t11 t12 v.1 v.2 (fun b t13 => rec (b, t13)) q
def impl_vals_l0 (t11 : List qV) (t12 : Int) (n : Nat) (b : List Int) (t13 : Int) (k0 : (List Int) → Res) : Res := iter (impl_vals_l0_s t11 t12) n (b, t13) (k0)
def ximpl_vals_l0 : Node Unit := fun σ k => rdN σ 22 <| rdV σ 0 y0 false [.O] fun b => rdV σ 11 y3 false [.S] fun t11 => rdV σ 12 (.int .i64) false [] fun t12 => rdV σ 13 (.int .i64) false [] fun t13 => impl_vals_l0 t11 t12 FUEL b t13 (fun (b1 : List Int) => k (.exit 0) (mkS 22 22 [(0, .val ⟨y0, false, b1, [.O]⟩)] []))
theorem eimpl_vals_l0 (t11 : List qV) (t12 : Int) (n : Nat) (v : (List Int) × Int) (k : Kont Unit) : loopC (codeC g_impl_vals [] .o (Code.pl (Code.pl (Code.pr (Code.pl (Code.pr (Code.pr c_impl_vals))))))) (fun σ => σ.forget [0, 11, 12, 13] []) (cutC ([], []) [(0, [0], [])] ([], [])) n (mkS 22 22 [(0, .val ⟨y0, false, v.1, [.O]⟩), (11, .val ⟨y3, false, t11, [.S]⟩), (12, .val ⟨(.int .i64), false, t12, []⟩), (13, .val ⟨(.int .i64), false, v.2, []⟩)] []) k = iter (impl_vals_l0_s t11 t12) n v ((fun (k : Kont Unit) => (((fun (b1 : List Int) => k (.exit 0) (mkS 22 22 [(0, .val ⟨y0, false, b1, [.O]⟩)] []))) : ((List Int) → Res))) k) := loop_eq (fun v : (List Int) × Int => (mkS 22 22 [(0, .val ⟨y0, false, v.1, [.O]⟩), (11, .val ⟨y3, false, t11, [.S]⟩), (12, .val ⟨(.int .i64), false, t12, []⟩), (13, .val ⟨(.int .i64), false, v.2, []⟩)] [])) (impl_vals_l0_s t11 t12) (fun (k : Kont Unit) => (((fun (b1 : List Int) => k (.exit 0) (mkS 22 22 [(0, .val ⟨y0, false, b1, [.O]⟩)] []))) : ((List Int) → Res))) (fun v rec k => by kernel_rfl) n v k
theorem oimpl_vals_l0 {W0 : Base} {M : Nat → Prop} (hnp : W0.np ≤ 0) : CodeOk Try.prog W0 M (Code.pl (Code.pr (Code.pl (Code.pr (Code.pr c_impl_vals))))) ximpl_vals_l0 := show CodeOk Try.prog W0 M (Code.loop (Code.pl (Code.pl (Code.pr (Code.pl (Code.pr (Code.pr c_impl_vals))))))) ximpl_vals_l0 from loop_ok (code_sound follows tysOk (calls_ok (fns_cons S_impl_num (fns_cons S_impl_val fns_nil))) hnp [] (Code.pl (Code.pl (Code.pr (Code.pl (Code.pr (Code.pr c_impl_vals)))))) .o trivial) (ks := [0, 11, 12, 13]) (bs := []) (fX := (cutC ([], []) [(0, [0], [])] ([], []))) (cutC_le _ _ _) FUEL (by
 intro σ k r h
 obtain ⟨hn, h1⟩ := rdN_some h
 obtain ⟨b, hs0, h2⟩ := rdV_some h1
 obtain ⟨t11, hs11, h3⟩ := rdV_some h2
 obtain ⟨t12, hs12, h4⟩ := rdV_some h3
 obtain ⟨t13, hs13, h5⟩ := rdV_some h4
 refine ⟨_, ?_, (eimpl_vals_l0 t11 t12 FUEL (b, t13) k).trans h5⟩
 exact mkS_le hn ⟨hs0, hs11, hs12, hs13, trivial⟩ trivial)
def impl_vals (b : List Int) (l : List qV) (k0 : (List Int) → Res) : Res :=
 impl_num b (nI (List.length l)) 1 fun (r : List Int) =>
  impl_vals_l0 l (nI (List.length l)) FUEL r 0 fun (b1 : List Int) =>
   k0 b1
def s_impl_vals : Sig Unit := ⟨[.eat y0 false, .borrow y3 false], [false], fun vals ext k => ao vals y0 [.O] fun b vals => av vals y3 fun l vals => nl vals <| nl ext <| impl_vals b l (fun (r0 : List Int) => k [⟨y0, false, r0, [.O]⟩] [] [])⟩
theorem E_impl_vals (a_b : Bool) (b : List Int) (l : List qV) (a_l : Bool) (t_l : List Tag) (k : qK) : funC g_impl_vals [ximpl_vals_l0] (.t .o (.t .o (.t (.t .o (.t (.x 0) .o)) .o))) false Try.f117 [.eat y0 false, .borrow y3 false] [false] [⟨y0, a_b, b, [.O]⟩, ⟨y3, a_l, l, t_l⟩] [] k = impl_vals b l (fun (r0 : List Int) => k [⟨y0, false, r0, [.O]⟩] [] []) := by kernel_rfl
theorem S_impl_vals : Sound Try.prog 117 s_impl_vals := sound_of (Γ := g_impl_vals) (X := [ximpl_vals_l0]) (ht := (.t .o (.t .o (.t (.t .o (.t (.x 0) .o)) .o)))) (fz := false) (c := c_impl_vals) follows tysOk (fns_cons S_impl_num (fns_cons S_impl_val fns_nil)) (OrOk.mk trivial ((OrOk.mk trivial ((OrOk.mk ((OrOk.mk trivial ((OrOk.mk (OrOk.x_mk (fun W0 M hnp => oimpl_vals_l0 (W0 := W0) (M := M) hnp)) trivial)))) trivial))))) Try.func117 (by kernel_rfl) (by kernel_rfl) (by decide) (by
 intro vals ext k r h
 obtain ⟨a_b, b, vals, rfl, h1⟩ := ao_some h
 obtain ⟨l, a_l, t_l, vals, rfl, h2⟩ := av_some h1
 obtain ⟨rfl, h3⟩ := nl_some h2
 obtain ⟨rfl, h4⟩ := nl_some h3
 exact (E_impl_vals a_b b l a_l t_l k).trans h4)

/-! ### 99 loop.example/g00462/impl.RowBytes -/
def c_impl_RowBytes : Code := (Try.f99.body).getD .skip
def g_impl_RowBytes : Env Unit := ⟨tys, [(110, s_impl_ValOk), (117, s_impl_vals)], 0⟩
def impl_RowBytes_l0_r (t6 : List qV) (t7 : Int) (t8 : Int) (rec : Int → Res) (k0 : Unit → Res) (k1 : Unit → Res) : Res :=
 bif decide (t8 < t7) then
  bif inb t8 (List.length t6) then
   impl_ValOk (nth (0, 0, eS) t6 t8) fun (r : Bool) =>
    bif !r then
     k1 ()
    else
     rec (wi64 (t8 + 1))
  else none
 else
  k0 ()
def impl_RowBytes_l0_s (t6 : List qV) (t7 : Int) : Int → (Int → Res) → ((Unit → Res) × (Unit → Res)) → Res := fun v rec q => impl_RowBytes_l0_r t6 t7 v (fun t8 => rec (t8)) q.1 q.2
def impl_RowBytes_l0 (t6 : List qV) (t7 : Int) (n : Nat) (t8 : Int) (k0 : Unit → Res) (k1 : Unit → Res) : Res := iter (impl_RowBytes_l0_s t6 t7) n (t8) (k0, k1)
def ximpl_RowBytes_l0 : Node Unit := fun σ k => rdN σ 22 <| rdV σ 0 y3 false [.S] fun l => rdV σ 6 y3 false [.S] fun t6 => rdV σ 7 (.int .i64) false [] fun t7 => rdV σ 8 (.int .i64) false [] fun t8 => impl_RowBytes_l0 t6 t7 FUEL t8 (fun (_ : Unit) => k (.exit 0) (mkS 22 22 [(0, .val ⟨y3, false, l, [.S]⟩)] [])) (fun (_ : Unit) => k .ret (mkS 22 22 [(2, .val ⟨y0, false, [], [.O]⟩), (3, .val ⟨.bool, false, false, []⟩)] []))
theorem eimpl_RowBytes_l0 (l : List qV) (t6 : List qV) (t7 : Int) (n : Nat) (v : Int) (k : Kont Unit) : loopC (codeC g_impl_RowBytes [] .o (Code.pl (Code.pl (Code.pr (Code.pl (Code.pr c_impl_RowBytes)))))) (fun σ => σ.forget [0, 6, 7, 8] []) (cutC ([], []) [(0, [0], [])] ([2, 3], [])) n (mkS 22 22 [(0, .val ⟨y3, false, l, [.S]⟩), (6, .val ⟨y3, false, t6, [.S]⟩), (7, .val ⟨(.int .i64), false, t7, []⟩), (8, .val ⟨(.int .i64), false, v, []⟩)] []) k = iter (impl_RowBytes_l0_s t6 t7) n v ((fun (k : Kont Unit) => (((fun (_ : Unit) => k (.exit 0) (mkS 22 22 [(0, .val ⟨y3, false, l, [.S]⟩)] [])), (fun (_ : Unit) => k .ret (mkS 22 22 [(2, .val ⟨y0, false, [], [.O]⟩), (3, .val ⟨.bool, false, false, []⟩)] []))) : (Unit → Res) × (Unit → Res))) k) := loop_eq (fun v : Int => (mkS 22 22 [(0, .val ⟨y3, false, l, [.S]⟩), (6, .val ⟨y3, false, t6, [.S]⟩), (7, .val ⟨(.int .i64), false, t7, []⟩), (8, .val ⟨(.int .i64), false, v, []⟩)] [])) (impl_RowBytes_l0_s t6 t7) (fun (k : Kont Unit) => (((fun (_ : Unit) => k (.exit 0) (mkS 22 22 [(0, .val ⟨y3, false, l, [.S]⟩)] [])), (fun (_ : Unit) => k .ret (mkS 22 22 [(2, .val ⟨y0, false, [], [.O]⟩), (3, .val ⟨.bool, false, false, []⟩)] []))) : (Unit → Res) × (Unit → Res))) (fun v rec k => by kernel_rfl) n v k
theorem oimpl_RowBytes_l0 {W0 : Base} {M : Nat → Prop} (hnp : W0.np ≤ 0) : CodeOk Try.prog W0 M (Code.pl (Code.pr (Code.pl (Code.pr c_impl_RowBytes)))) ximpl_RowBytes_l0 := show CodeOk Try.prog W0 M (Code.loop (Code.pl (Code.pl (Code.pr (Code.pl (Code.pr c_impl_RowBytes)))))) ximpl_RowBytes_l0 from loop_ok (code_sound follows tysOk (calls_ok (fns_cons S_impl_ValOk (fns_cons S_impl_vals fns_nil))) hnp [] (Code.pl (Code.pl (Code.pr (Code.pl (Code.pr c_impl_RowBytes))))) .o trivial) (ks := [0, 6, 7, 8]) (bs := []) (fX := (cutC ([], []) [(0, [0], [])] ([2, 3], []))) (cutC_le _ _ _) FUEL (by
 intro σ k r h
 obtain ⟨hn, h1⟩ := rdN_some h
 obtain ⟨l, hs0, h2⟩ := rdV_some h1
 obtain ⟨t6, hs6, h3⟩ := rdV_some h2
 obtain ⟨t7, hs7, h4⟩ := rdV_some h3
 obtain ⟨t8, hs8, h5⟩ := rdV_some h4
 refine ⟨_, ?_, (eimpl_RowBytes_l0 l t6 t7 FUEL (t8) k).trans h5⟩
 exact mkS_le hn ⟨hs0, hs6, hs7, hs8, trivial⟩ trivial)
def impl_RowBytes (l : List qV) (k0 : (List Int) → Bool → Res) : Res :=
 impl_RowBytes_l0 l (nI (List.length l)) FUEL 0
  (fun (_ : Unit) =>
   bif decide ((nI (List.length l)) > 8) then
    k0 [] false
   else
    impl_vals [] l fun (r : List Int) =>
     k0 r true)
  (fun (_ : Unit) =>
   k0 [] false)
def s_impl_RowBytes : Sig Unit := ⟨[.borrow y3 false], [false, false], fun vals ext k => av vals y3 fun l vals => nl vals <| nl ext <| impl_RowBytes l (fun (r0 : List Int) (r1 : Bool) => k [⟨y0, false, r0, [.O]⟩, ⟨.bool, false, r1, []⟩] [] [])⟩
theorem E_impl_RowBytes (l : List qV) (a_l : Bool) (t_l : List Tag) (k : qK) : funC g_impl_RowBytes [ximpl_RowBytes_l0] (.t .o (.t (.t .o (.t (.x 0) .o)) .o)) false Try.f99 [.borrow y3 false] [false, false] [⟨y3, a_l, l, t_l⟩] [] k = impl_RowBytes l (fun (r0 : List Int) (r1 : Bool) => k [⟨y0, false, r0, [.O]⟩, ⟨.bool, false, r1, []⟩] [] []) := by kernel_rfl
theorem S_impl_RowBytes : Sound Try.prog 99 s_impl_RowBytes := sound_of (Γ := g_impl_RowBytes) (X := [ximpl_RowBytes_l0]) (ht := (.t .o (.t (.t .o (.t (.x 0) .o)) .o))) (fz := false) (c := c_impl_RowBytes) follows tysOk (fns_cons S_impl_ValOk (fns_cons S_impl_vals fns_nil)) (OrOk.mk trivial ((OrOk.mk ((OrOk.mk trivial ((OrOk.mk (OrOk.x_mk (fun W0 M hnp => oimpl_RowBytes_l0 (W0 := W0) (M := M) hnp)) trivial)))) trivial))) Try.func99 (by kernel_rfl) (by kernel_rfl) (by decide) (by
 intro vals ext k r h
 obtain ⟨l, a_l, t_l, vals, rfl, h1⟩ := av_some h
 obtain ⟨rfl, h2⟩ := nl_some h1
 obtain ⟨rfl, h3⟩ := nl_some h2
 exact (E_impl_RowBytes l a_l t_l k).trans h3)

/-! ### 54 loop.example/g00462/impl.ReadVals -/
def c_impl_ReadVals : Code := (Try.f54.body).getD .skip
def g_impl_ReadVals : Env Unit := ⟨tys, [(98, s_impl_scan_vals), (99, s_impl_RowBytes)], 0⟩
def impl_ReadVals (b : List Int) (k0 : qW → Bool → Res) : Res :=
 impl_scan_vals (b, 0, false) fun (r : List qV) (bt10 : List Int × Int × Bool) =>
  impl_RowBytes r fun (r1 : List Int) (r2 : Bool) =>
   bif bt10.2.2 then
    k0 [] false
   else
    bif !r2 then
     k0 [] false
    else
     bif sNe (ofBytes r1) (ofBytes b) then
      k0 [] false
     else
      k0 r true
def s_impl_ReadVals : Sig Unit := ⟨[.borrow y0 false], [false, false], fun vals ext k => av vals y0 fun b vals => nl vals <| nl ext <| impl_ReadVals b (fun (r0 : List qV) (r1 : Bool) => k [⟨y3, false, r0, [.O]⟩, ⟨.bool, false, r1, []⟩] [] [])⟩
theorem E_impl_ReadVals (b : List Int) (a_b : Bool) (t_b : List Tag) (k : qK) : funC g_impl_ReadVals [] .o false Try.f54 [.borrow y0 false] [false, false] [⟨y0, a_b, b, t_b⟩] [] k = impl_ReadVals b (fun (r0 : List qV) (r1 : Bool) => k [⟨y3, false, r0, [.O]⟩, ⟨.bool, false, r1, []⟩] [] []) := by kernel_rfl
theorem S_impl_ReadVals : Sound Try.prog 54 s_impl_ReadVals := sound_of (Γ := g_impl_ReadVals) (X := []) (ht := .o) (fz := false) (c := c_impl_ReadVals) follows tysOk (fns_cons S_impl_scan_vals (fns_cons S_impl_RowBytes fns_nil)) trivial Try.func54 (by kernel_rfl) (by kernel_rfl) (by decide) (by
 intro vals ext k r h
 obtain ⟨b, a_b, t_b, vals, rfl, h1⟩ := av_some h
 obtain ⟨rfl, h2⟩ := nl_some h1
 obtain ⟨rfl, h3⟩ := nl_some h2
 exact (E_impl_ReadVals b a_b t_b k).trans h3)
end Go.PI.G
end
