/-
  Printed texts and plain laws. No conditions.
-/
import Derived.Test.Ytiieddiheadocaasa
import Derived.Test.Ytiieddiheadocaasf
set_option linter.unusedVariables false
set_option maxRecDepth 100000
noncomputable section
namespace Go.PI.G
open Go Go.PI Go.Proofs

/-! ### 41 loop.example/g00462/spec.l20Word -/
def c_spec_l20Word : Code := (Try.f41.body).getD .skip
def g_spec_l20Word : Env Unit := ⟨tys, [], 0⟩
def spec_l20Word (s : Int × (Int × Int × Int × ByteArray × qW × qW × Int × ByteArray × qE × List ByteArray × ByteArray × ByteArray) × Int × Int × Int) (k0 : ByteArray → Int → Res) : Res :=
 bif (s.1 == 2) then
  k0 z_send 1
 else
  bif (s.1 == 4) then
   k0 z_take 1
  else
   bif (s.1 == 5) then
    k0 z_save 0
   else
    bif (s.1 == 6) then
     k0 z_fall 0
    else
     bif (s.1 == 7) then
      k0 z_boot 0
     else
      bif (s.1 != 3) then
       k0 eS 0
      else
       bif decide (s.2.2.1 < 1) then
        k0 eS 0
       else
        bif decide (s.2.2.1 > 4) then
         k0 eS 0
        else
         bif inb s.2.2.1 5 then
          k0 (nth eS [eS, z_lose, z_twice, z_late, z_cut] s.2.2.1) 2
         else none
def s_spec_l20Word : Sig Unit := ⟨[.look y23 true], [false, false], fun vals ext k => av vals y23 fun s vals => nl vals <| nl ext <| spec_l20Word s (fun (r0 : ByteArray) (r1 : Int) => k [⟨.str, false, r0, []⟩, ⟨(.int .i64), false, r1, []⟩] [] [])⟩
theorem E_spec_l20Word (s : Int × (Int × Int × Int × ByteArray × qW × qW × Int × ByteArray × qE × List ByteArray × ByteArray × ByteArray) × Int × Int × Int) (a_s : Bool) (t_s : List Tag) (k : qK) : funC g_spec_l20Word [] .o false Try.f41 [.look y23 true] [false, false] [⟨y23, a_s, s, t_s⟩] [] k = spec_l20Word s (fun (r0 : ByteArray) (r1 : Int) => k [⟨.str, false, r0, []⟩, ⟨(.int .i64), false, r1, []⟩] [] []) := by kernel_rfl
theorem S_spec_l20Word : Sound Try.prog 41 s_spec_l20Word := sound_of (Γ := g_spec_l20Word) (X := []) (ht := .o) (fz := false) (c := c_spec_l20Word) follows tysOk fns_nil trivial Try.func41 (by kernel_rfl) (by kernel_rfl) (by decide) (by
 intro vals ext k r h
 obtain ⟨s, a_s, t_s, vals, rfl, h1⟩ := av_some h
 obtain ⟨rfl, h2⟩ := nl_some h1
 obtain ⟨rfl, h3⟩ := nl_some h2
 exact (E_spec_l20Word s a_s t_s k).trans h3)

/-! ### 42 loop.example/g00462/spec.l20Num -/
def c_spec_l20Num : Code := (Try.f42.body).getD .skip
def g_spec_l20Num : Env Unit := ⟨tys, [(98, (s_spec_NumText spec_NumText))], 0⟩
def spec_l20Num (n_ : Int) (k0 : ByteArray → Bool → Res) : Res :=
 spec_NumText n_ fun (r : ByteArray) =>
  bif lim (1 + (ByteArray.size r)) then
   bif decide (n_ ≥ 0) then
    k0 (z___1 ++ r) (sNe r eS)
   else
    k0 (z___1 ++ r) false
  else none
def s_spec_l20Num : Sig Unit := ⟨[.look (.int .i64) false], [false, false], fun vals ext k => av vals (.int .i64) fun n_ vals => nl vals <| nl ext <| spec_l20Num n_ (fun (r0 : ByteArray) (r1 : Bool) => k [⟨.str, false, r0, []⟩, ⟨.bool, false, r1, []⟩] [] [])⟩
theorem E_spec_l20Num (n_ : Int) (a_n_ : Bool) (t_n_ : List Tag) (k : qK) : funC g_spec_l20Num [] .o false Try.f42 [.look (.int .i64) false] [false, false] [⟨(.int .i64), a_n_, n_, t_n_⟩] [] k = spec_l20Num n_ (fun (r0 : ByteArray) (r1 : Bool) => k [⟨.str, false, r0, []⟩, ⟨.bool, false, r1, []⟩] [] []) := by kernel_rfl
theorem S_spec_l20Num : Sound Try.prog 42 s_spec_l20Num := sound_of (Γ := g_spec_l20Num) (X := []) (ht := .o) (fz := false) (c := c_spec_l20Num) follows tysOk (fns_cons S_spec_NumText fns_nil) trivial Try.func42 (by kernel_rfl) (by kernel_rfl) (by decide) (by
 intro vals ext k r h
 obtain ⟨n_, a_n_, t_n_, vals, rfl, h1⟩ := av_some h
 obtain ⟨rfl, h2⟩ := nl_some h1
 obtain ⟨rfl, h3⟩ := nl_some h2
 exact (E_spec_l20Num n_ a_n_ t_n_ k).trans h3)

/-! ### 43 loop.example/g00462/spec.l20Rec -/
def c_spec_l20Rec : Code := (Try.f43.body).getD .skip
def g_spec_l20Rec : Env Unit := ⟨tys, [(100, s_spec_l07NoStmt)], 0⟩
def spec_l20Rec (r : Int × Int × Int × ByteArray × qW × qW × Int × ByteArray × qE × List ByteArray × ByteArray × ByteArray) (k0 : Bool → Res) : Res :=
 bif (r.1 == 0) then
  bif (r.2.1 == 0) then
   spec_l07NoStmt r.2.2 fun (r1 : Bool) =>
    k0 r1
  else
   k0 false
 else
  k0 false
def s_spec_l20Rec : Sig Unit := ⟨[.look y19 true], [false], fun vals ext k => av vals y19 fun r vals => nl vals <| nl ext <| spec_l20Rec r (fun (r0 : Bool) => k [⟨.bool, false, r0, []⟩] [] [])⟩
theorem E_spec_l20Rec (r : Int × Int × Int × ByteArray × qW × qW × Int × ByteArray × qE × List ByteArray × ByteArray × ByteArray) (a_r : Bool) (t_r : List Tag) (k : qK) : funC g_spec_l20Rec [] .o false Try.f43 [.look y19 true] [false] [⟨y19, a_r, r, t_r⟩] [] k = spec_l20Rec r (fun (r0 : Bool) => k [⟨.bool, false, r0, []⟩] [] []) := by kernel_rfl
theorem S_spec_l20Rec : Sound Try.prog 43 s_spec_l20Rec := sound_of (Γ := g_spec_l20Rec) (X := []) (ht := .o) (fz := false) (c := c_spec_l20Rec) follows tysOk (fns_cons S_spec_l07NoStmt fns_nil) trivial Try.func43 (by kernel_rfl) (by kernel_rfl) (by decide) (by
 intro vals ext k r h
 obtain ⟨r, a_r, t_r, vals, rfl, h1⟩ := av_some h
 obtain ⟨rfl, h2⟩ := nl_some h1
 obtain ⟨rfl, h3⟩ := nl_some h2
 exact (E_spec_l20Rec r a_r t_r k).trans h3)

/-! ### 9 loop.example/g00462/spec.StepText -/
def c_spec_StepText : Code := (Try.f9.body).getD .skip
def g_spec_StepText : Env Unit := ⟨tys, [(40, s_spec_RecText), (41, s_spec_l20Word), (42, s_spec_l20Num), (43, s_spec_l20Rec)], 0⟩
def spec_StepText_p0 (t : ByteArray) (s : Int × (Int × Int × Int × ByteArray × qW × qW × Int × ByteArray × qE × List ByteArray × ByteArray × ByteArray) × Int × Int × Int) (k0 : Bool → Res) : Res :=
 bif sEq t eS then
  k0 true
 else
  bif (s.2.2.1 != 0) then
   k0 true
  else
   bif (s.2.2.2.1 != 0) then
    k0 true
   else
    k0 (s.2.2.2.2 != 0)
def xspec_StepText_p0 : Node Unit := fun σ k => rdN σ 135 <| rdT σ 1 (.ptr ⟨true, 1, []⟩) <| rdV σ 3 .str false [] fun t => rdB σ 1 y23 [.S, .S, .S, .S] fun a s => spec_StepText_p0 t s (fun (t34 : Bool) => k .normal (mkS 135 135 [(3, .val ⟨.str, false, t, []⟩), (34, .val ⟨.bool, false, t34, []⟩)] []))
theorem espec_StepText_p0 (t : ByteArray) (a : Bool) (s : Int × (Int × Int × Int × ByteArray × qW × qW × Int × ByteArray × qE × List ByteArray × ByteArray × ByteArray) × Int × Int × Int) (k : Kont Unit) : codeC g_spec_StepText [] .o (Code.pl (Code.pl (Code.pr (Code.pl (Code.pr (Code.pl (Code.pr c_spec_StepText))))))) (mkS 135 135 [(1, .ptr ⟨true, 1, []⟩), (3, .val ⟨.str, false, t, []⟩)] [(1, ⟨y23, a, s, [.S, .S, .S, .S]⟩)]) (fun e σ => k e ((cutC ([3, 34], []) [] ([], [])) e σ)) = spec_StepText_p0 t s (fun (t34 : Bool) => k .normal (mkS 135 135 [(3, .val ⟨.str, false, t, []⟩), (34, .val ⟨.bool, false, t34, []⟩)] [])) := by kernel_rfl
theorem ospec_StepText_p0 {W0 : Base} {M : Nat → Prop} (hnp : W0.np ≤ 0) : CodeOk Try.prog W0 M (Code.pl (Code.pl (Code.pr (Code.pl (Code.pr (Code.pl (Code.pr c_spec_StepText))))))) xspec_StepText_p0 := node_ok (code_sound follows tysOk (calls_ok (fns_cons S_spec_RecText (fns_cons S_spec_l20Word (fns_cons S_spec_l20Num (fns_cons S_spec_l20Rec fns_nil))))) hnp [] ((Code.pl (Code.pl (Code.pr (Code.pl (Code.pr (Code.pl (Code.pr c_spec_StepText)))))))) .o trivial) (fg := (cutC ([3, 34], []) [] ([], []))) (cutC_le _ _ _) (by
 intro σ k r h
 obtain ⟨hn, h1⟩ := rdN_some h
 obtain ⟨hs1, h2⟩ := rdT_some h1
 obtain ⟨t, hs3, h3⟩ := rdV_some h2
 obtain ⟨a, s, hb1, h4⟩ := rdB_some h3
 refine ⟨_, ?_, (espec_StepText_p0 t a s k).trans h4⟩
 exact mkS_le hn ⟨hs1, hs3, trivial⟩ ⟨hb1, trivial⟩)
def spec_StepText_p1 (w : ByteArray) (x : Bool) (y : Bool) (z : Bool) (s : Int × (Int × Int × Int × ByteArray × qW × qW × Int × ByteArray × qE × List ByteArray × ByteArray × ByteArray) × Int × Int × Int) (k0 : Bool → Res) : Res :=
 bif sEq w eS then
  k0 true
 else
  spec_l20Rec s.2.1 fun (r : Bool) =>
   bif !r then
    k0 true
   else
    bif !x then
     k0 true
    else
     bif !y then
      k0 true
     else
      k0 (!z)
def xspec_StepText_p1 : Node Unit := fun σ k => rdN σ 135 <| rdT σ 1 (.ptr ⟨true, 1, []⟩) <| rdV σ 4 .str false [] fun w => rdV σ 5 (.int .i64) false [] fun n_ => rdV σ 6 .str false [] fun a => rdV σ 7 .bool false [] fun x => rdV σ 8 .str false [] fun b => rdV σ 9 .bool false [] fun y => rdV σ 10 .str false [] fun c => rdV σ 11 .bool false [] fun z => rdB σ 1 y23 [.S, .S, .S, .S] fun a1 s => spec_StepText_p1 w x y z s (fun (t79 : Bool) => k .normal (mkS 135 135 [(1, .ptr ⟨true, 1, []⟩), (4, .val ⟨.str, false, w, []⟩), (5, .val ⟨(.int .i64), false, n_, []⟩), (6, .val ⟨.str, false, a, []⟩), (8, .val ⟨.str, false, b, []⟩), (10, .val ⟨.str, false, c, []⟩), (79, .val ⟨.bool, false, t79, []⟩)] [(1, ⟨y23, a1, s, [.S, .S, .S, .S]⟩)]))
theorem espec_StepText_p1 (w : ByteArray) (n_ : Int) (a : ByteArray) (x : Bool) (b : ByteArray) (y : Bool) (c : ByteArray) (z : Bool) (a1 : Bool) (s : Int × (Int × Int × Int × ByteArray × qW × qW × Int × ByteArray × qE × List ByteArray × ByteArray × ByteArray) × Int × Int × Int) (k : Kont Unit) : codeC g_spec_StepText [xspec_StepText_p0] .o (Code.pl (Code.pl (Code.pr (Code.pr (Code.pr (Code.pr (Code.pr (Code.pr c_spec_StepText)))))))) (mkS 135 135 [(1, .ptr ⟨true, 1, []⟩), (4, .val ⟨.str, false, w, []⟩), (5, .val ⟨(.int .i64), false, n_, []⟩), (6, .val ⟨.str, false, a, []⟩), (7, .val ⟨.bool, false, x, []⟩), (8, .val ⟨.str, false, b, []⟩), (9, .val ⟨.bool, false, y, []⟩), (10, .val ⟨.str, false, c, []⟩), (11, .val ⟨.bool, false, z, []⟩)] [(1, ⟨y23, a1, s, [.S, .S, .S, .S]⟩)]) (fun e σ => k e ((cutC ([1, 4, 5, 6, 8, 10, 79], [1]) [] ([], [])) e σ)) = spec_StepText_p1 w x y z s (fun (t79 : Bool) => k .normal (mkS 135 135 [(1, .ptr ⟨true, 1, []⟩), (4, .val ⟨.str, false, w, []⟩), (5, .val ⟨(.int .i64), false, n_, []⟩), (6, .val ⟨.str, false, a, []⟩), (8, .val ⟨.str, false, b, []⟩), (10, .val ⟨.str, false, c, []⟩), (79, .val ⟨.bool, false, t79, []⟩)] [(1, ⟨y23, a1, s, [.S, .S, .S, .S]⟩)])) := by kernel_rfl
theorem ospec_StepText_p1 {W0 : Base} {M : Nat → Prop} (hnp : W0.np ≤ 0) : CodeOk Try.prog W0 M (Code.pl (Code.pl (Code.pr (Code.pr (Code.pr (Code.pr (Code.pr (Code.pr c_spec_StepText)))))))) xspec_StepText_p1 := node_ok (code_sound follows tysOk (calls_ok (fns_cons S_spec_RecText (fns_cons S_spec_l20Word (fns_cons S_spec_l20Num (fns_cons S_spec_l20Rec fns_nil))))) hnp [xspec_StepText_p0] ((Code.pl (Code.pl (Code.pr (Code.pr (Code.pr (Code.pr (Code.pr (Code.pr c_spec_StepText))))))))) .o trivial) (fg := (cutC ([1, 4, 5, 6, 8, 10, 79], [1]) [] ([], []))) (cutC_le _ _ _) (by
 intro σ k r h
 obtain ⟨hn, h1⟩ := rdN_some h
 obtain ⟨hs1, h2⟩ := rdT_some h1
 obtain ⟨w, hs4, h3⟩ := rdV_some h2
 obtain ⟨n_, hs5, h4⟩ := rdV_some h3
 obtain ⟨a, hs6, h5⟩ := rdV_some h4
 obtain ⟨x, hs7, h6⟩ := rdV_some h5
 obtain ⟨b, hs8, h7⟩ := rdV_some h6
 obtain ⟨y, hs9, h8⟩ := rdV_some h7
 obtain ⟨c, hs10, h9⟩ := rdV_some h8
 obtain ⟨z, hs11, h10⟩ := rdV_some h9
 obtain ⟨a1, s, hb1, h11⟩ := rdB_some h10
 refine ⟨_, ?_, (espec_StepText_p1 w n_ a x b y c z a1 s k).trans h11⟩
 exact mkS_le hn ⟨hs1, hs4, hs5, hs6, hs7, hs8, hs9, hs10, hs11, trivial⟩ ⟨hb1, trivial⟩)
def spec_StepText_p2 (n_ : Int) (s : Int × (Int × Int × Int × ByteArray × qW × qW × Int × ByteArray × qE × List ByteArray × ByteArray × ByteArray) × Int × Int × Int) (k0 : Unit → Res) (k1 : Unit → Res) : Res :=
 bif (n_ == 0) then
  bif (s.2.2.1 == 0) then
   bif (s.2.2.2.1 == 0) then
    bif (s.2.2.2.2 == 0) then
     k1 ()
    else
     k0 ()
   else
    k0 ()
  else
   k0 ()
 else
  k0 ()
def xspec_StepText_p2 : Node Unit := fun σ k => rdN σ 135 <| rdT σ 1 (.ptr ⟨true, 1, []⟩) <| rdV σ 4 .str false [] fun w => rdV σ 5 (.int .i64) false [] fun n_ => rdV σ 6 .str false [] fun a => rdV σ 8 .str false [] fun b => rdV σ 10 .str false [] fun c => rdB σ 1 y23 [.S, .S, .S, .S] fun a1 s => spec_StepText_p2 n_ s (fun (_ : Unit) => k .normal (mkS 135 135 [(1, .ptr ⟨true, 1, []⟩), (4, .val ⟨.str, false, w, []⟩), (5, .val ⟨(.int .i64), false, n_, []⟩), (6, .val ⟨.str, false, a, []⟩), (8, .val ⟨.str, false, b, []⟩), (10, .val ⟨.str, false, c, []⟩)] [(1, ⟨y23, a1, s, [.S, .S, .S, .S]⟩)])) (fun (_ : Unit) => k .ret (mkS 135 135 [(2, .val ⟨.str, false, w, []⟩)] []))
theorem espec_StepText_p2 (w : ByteArray) (n_ : Int) (a : ByteArray) (b : ByteArray) (c : ByteArray) (a1 : Bool) (s : Int × (Int × Int × Int × ByteArray × qW × qW × Int × ByteArray × qE × List ByteArray × ByteArray × ByteArray) × Int × Int × Int) (k : Kont Unit) : codeC g_spec_StepText [xspec_StepText_p0, xspec_StepText_p1] .o (Code.pl (Code.pr (Code.pr (Code.pr (Code.pr (Code.pr (Code.pr (Code.pr c_spec_StepText)))))))) (mkS 135 135 [(1, .ptr ⟨true, 1, []⟩), (4, .val ⟨.str, false, w, []⟩), (5, .val ⟨(.int .i64), false, n_, []⟩), (6, .val ⟨.str, false, a, []⟩), (8, .val ⟨.str, false, b, []⟩), (10, .val ⟨.str, false, c, []⟩)] [(1, ⟨y23, a1, s, [.S, .S, .S, .S]⟩)]) (fun e σ => k e ((cutC ([1, 4, 5, 6, 8, 10], [1]) [] ([2], [])) e σ)) = spec_StepText_p2 n_ s (fun (_ : Unit) => k .normal (mkS 135 135 [(1, .ptr ⟨true, 1, []⟩), (4, .val ⟨.str, false, w, []⟩), (5, .val ⟨(.int .i64), false, n_, []⟩), (6, .val ⟨.str, false, a, []⟩), (8, .val ⟨.str, false, b, []⟩), (10, .val ⟨.str, false, c, []⟩)] [(1, ⟨y23, a1, s, [.S, .S, .S, .S]⟩)])) (fun (_ : Unit) => k .ret (mkS 135 135 [(2, .val ⟨.str, false, w, []⟩)] [])) := by kernel_rfl
theorem ospec_StepText_p2 {W0 : Base} {M : Nat → Prop} (hnp : W0.np ≤ 0) : CodeOk Try.prog W0 M (Code.pl (Code.pr (Code.pr (Code.pr (Code.pr (Code.pr (Code.pr (Code.pr c_spec_StepText)))))))) xspec_StepText_p2 := node_ok (code_sound follows tysOk (calls_ok (fns_cons S_spec_RecText (fns_cons S_spec_l20Word (fns_cons S_spec_l20Num (fns_cons S_spec_l20Rec fns_nil))))) hnp [xspec_StepText_p0, xspec_StepText_p1] ((Code.pl (Code.pr (Code.pr (Code.pr (Code.pr (Code.pr (Code.pr (Code.pr c_spec_StepText))))))))) .o trivial) (fg := (cutC ([1, 4, 5, 6, 8, 10], [1]) [] ([2], []))) (cutC_le _ _ _) (by
 intro σ k r h
 obtain ⟨hn, h1⟩ := rdN_some h
 obtain ⟨hs1, h2⟩ := rdT_some h1
 obtain ⟨w, hs4, h3⟩ := rdV_some h2
 obtain ⟨n_, hs5, h4⟩ := rdV_some h3
 obtain ⟨a, hs6, h5⟩ := rdV_some h4
 obtain ⟨b, hs8, h6⟩ := rdV_some h5
 obtain ⟨c, hs10, h7⟩ := rdV_some h6
 obtain ⟨a1, s, hb1, h8⟩ := rdB_some h7
 refine ⟨_, ?_, (espec_StepText_p2 w n_ a b c a1 s k).trans h8⟩
 exact mkS_le hn ⟨hs1, hs4, hs5, hs6, hs8, hs10, trivial⟩ ⟨hb1, trivial⟩)
def spec_StepText_p3 (w : ByteArray) (n_ : Int) (a : ByteArray) (s : Int × (Int × Int × Int × ByteArray × qW × qW × Int × ByteArray × qE × List ByteArray × ByteArray × ByteArray) × Int × Int × Int) (k0 : Unit → Res) (k1 : Unit → Res) : Res :=
 bif (n_ == 1) then
  bif (s.2.2.2.1 == 0) then
   bif (s.2.2.2.2 == 0) then
    bif lim ((ByteArray.size w) + (ByteArray.size a)) then
     k1 ()
    else none
   else
    k0 ()
  else
   k0 ()
 else
  k0 ()
def xspec_StepText_p3 : Node Unit := fun σ k => rdN σ 135 <| rdT σ 1 (.ptr ⟨true, 1, []⟩) <| rdV σ 4 .str false [] fun w => rdV σ 5 (.int .i64) false [] fun n_ => rdV σ 6 .str false [] fun a => rdV σ 8 .str false [] fun b => rdV σ 10 .str false [] fun c => rdB σ 1 y23 [.S, .S, .S, .S] fun a1 s => spec_StepText_p3 w n_ a s (fun (_ : Unit) => k .normal (mkS 135 135 [(1, .ptr ⟨true, 1, []⟩), (4, .val ⟨.str, false, w, []⟩), (5, .val ⟨(.int .i64), false, n_, []⟩), (8, .val ⟨.str, false, b, []⟩), (10, .val ⟨.str, false, c, []⟩)] [(1, ⟨y23, a1, s, [.S, .S, .S, .S]⟩)])) (fun (_ : Unit) => k .ret (mkS 135 135 [(2, .val ⟨.str, false, (w ++ a), []⟩)] []))
theorem espec_StepText_p3 (w : ByteArray) (n_ : Int) (a : ByteArray) (b : ByteArray) (c : ByteArray) (a1 : Bool) (s : Int × (Int × Int × Int × ByteArray × qW × qW × Int × ByteArray × qE × List ByteArray × ByteArray × ByteArray) × Int × Int × Int) (k : Kont Unit) : codeC g_spec_StepText [xspec_StepText_p0, xspec_StepText_p1, xspec_StepText_p2] .o (Code.pl (Code.pr (Code.pr (Code.pr (Code.pr (Code.pr (Code.pr (Code.pr (Code.pr c_spec_StepText))))))))) (mkS 135 135 [(1, .ptr ⟨true, 1, []⟩), (4, .val ⟨.str, false, w, []⟩), (5, .val ⟨(.int .i64), false, n_, []⟩), (6, .val ⟨.str, false, a, []⟩), (8, .val ⟨.str, false, b, []⟩), (10, .val ⟨.str, false, c, []⟩)] [(1, ⟨y23, a1, s, [.S, .S, .S, .S]⟩)]) (fun e σ => k e ((cutC ([1, 4, 5, 8, 10], [1]) [] ([2], [])) e σ)) = spec_StepText_p3 w n_ a s (fun (_ : Unit) => k .normal (mkS 135 135 [(1, .ptr ⟨true, 1, []⟩), (4, .val ⟨.str, false, w, []⟩), (5, .val ⟨(.int .i64), false, n_, []⟩), (8, .val ⟨.str, false, b, []⟩), (10, .val ⟨.str, false, c, []⟩)] [(1, ⟨y23, a1, s, [.S, .S, .S, .S]⟩)])) (fun (_ : Unit) => k .ret (mkS 135 135 [(2, .val ⟨.str, false, (w ++ a), []⟩)] [])) := by kernel_rfl
theorem ospec_StepText_p3 {W0 : Base} {M : Nat → Prop} (hnp : W0.np ≤ 0) : CodeOk Try.prog W0 M (Code.pl (Code.pr (Code.pr (Code.pr (Code.pr (Code.pr (Code.pr (Code.pr (Code.pr c_spec_StepText))))))))) xspec_StepText_p3 := node_ok (code_sound follows tysOk (calls_ok (fns_cons S_spec_RecText (fns_cons S_spec_l20Word (fns_cons S_spec_l20Num (fns_cons S_spec_l20Rec fns_nil))))) hnp [xspec_StepText_p0, xspec_StepText_p1, xspec_StepText_p2] ((Code.pl (Code.pr (Code.pr (Code.pr (Code.pr (Code.pr (Code.pr (Code.pr (Code.pr c_spec_StepText)))))))))) .o trivial) (fg := (cutC ([1, 4, 5, 8, 10], [1]) [] ([2], []))) (cutC_le _ _ _) (by
 intro σ k r h
 obtain ⟨hn, h1⟩ := rdN_some h
 obtain ⟨hs1, h2⟩ := rdT_some h1
 obtain ⟨w, hs4, h3⟩ := rdV_some h2
 obtain ⟨n_, hs5, h4⟩ := rdV_some h3
 obtain ⟨a, hs6, h5⟩ := rdV_some h4
 obtain ⟨b, hs8, h6⟩ := rdV_some h5
 obtain ⟨c, hs10, h7⟩ := rdV_some h6
 obtain ⟨a1, s, hb1, h8⟩ := rdB_some h7
 refine ⟨_, ?_, (espec_StepText_p3 w n_ a b c a1 s k).trans h8⟩
 exact mkS_le hn ⟨hs1, hs4, hs5, hs6, hs8, hs10, trivial⟩ ⟨hb1, trivial⟩)
def spec_StepText_p4 (w : ByteArray) (n_ : Int) (b : ByteArray) (c : ByteArray) (s : Int × (Int × Int × Int × ByteArray × qW × qW × Int × ByteArray × qE × List ByteArray × ByteArray × ByteArray) × Int × Int × Int) (k0 : Unit → Res) (k1 : Unit → Res) : Res :=
 bif (n_ == 2) then
  bif (s.2.2.1 == 4) then
   bif lim ((ByteArray.size w) + (ByteArray.size b)) then
    bif lim ((ByteArray.size (w ++ b)) + (ByteArray.size c)) then
     k1 ()
    else none
   else none
  else
   k0 ()
 else
  k0 ()
def xspec_StepText_p4 : Node Unit := fun σ k => rdN σ 135 <| rdT σ 1 (.ptr ⟨true, 1, []⟩) <| rdV σ 4 .str false [] fun w => rdV σ 5 (.int .i64) false [] fun n_ => rdV σ 8 .str false [] fun b => rdV σ 10 .str false [] fun c => rdB σ 1 y23 [.S, .S, .S, .S] fun a s => spec_StepText_p4 w n_ b c s (fun (_ : Unit) => k .normal (mkS 135 135 [(1, .ptr ⟨true, 1, []⟩), (4, .val ⟨.str, false, w, []⟩), (5, .val ⟨(.int .i64), false, n_, []⟩), (8, .val ⟨.str, false, b, []⟩)] [(1, ⟨y23, a, s, [.S, .S, .S, .S]⟩)])) (fun (_ : Unit) => k .ret (mkS 135 135 [(2, .val ⟨.str, false, ((w ++ b) ++ c), []⟩)] []))
theorem espec_StepText_p4 (w : ByteArray) (n_ : Int) (b : ByteArray) (c : ByteArray) (a : Bool) (s : Int × (Int × Int × Int × ByteArray × qW × qW × Int × ByteArray × qE × List ByteArray × ByteArray × ByteArray) × Int × Int × Int) (k : Kont Unit) : codeC g_spec_StepText [xspec_StepText_p0, xspec_StepText_p1, xspec_StepText_p2, xspec_StepText_p3] .o (Code.pl (Code.pr (Code.pr (Code.pr (Code.pr (Code.pr (Code.pr (Code.pr (Code.pr (Code.pr c_spec_StepText)))))))))) (mkS 135 135 [(1, .ptr ⟨true, 1, []⟩), (4, .val ⟨.str, false, w, []⟩), (5, .val ⟨(.int .i64), false, n_, []⟩), (8, .val ⟨.str, false, b, []⟩), (10, .val ⟨.str, false, c, []⟩)] [(1, ⟨y23, a, s, [.S, .S, .S, .S]⟩)]) (fun e σ => k e ((cutC ([1, 4, 5, 8], [1]) [] ([2], [])) e σ)) = spec_StepText_p4 w n_ b c s (fun (_ : Unit) => k .normal (mkS 135 135 [(1, .ptr ⟨true, 1, []⟩), (4, .val ⟨.str, false, w, []⟩), (5, .val ⟨(.int .i64), false, n_, []⟩), (8, .val ⟨.str, false, b, []⟩)] [(1, ⟨y23, a, s, [.S, .S, .S, .S]⟩)])) (fun (_ : Unit) => k .ret (mkS 135 135 [(2, .val ⟨.str, false, ((w ++ b) ++ c), []⟩)] [])) := by kernel_rfl
theorem ospec_StepText_p4 {W0 : Base} {M : Nat → Prop} (hnp : W0.np ≤ 0) : CodeOk Try.prog W0 M (Code.pl (Code.pr (Code.pr (Code.pr (Code.pr (Code.pr (Code.pr (Code.pr (Code.pr (Code.pr c_spec_StepText)))))))))) xspec_StepText_p4 := node_ok (code_sound follows tysOk (calls_ok (fns_cons S_spec_RecText (fns_cons S_spec_l20Word (fns_cons S_spec_l20Num (fns_cons S_spec_l20Rec fns_nil))))) hnp [xspec_StepText_p0, xspec_StepText_p1, xspec_StepText_p2, xspec_StepText_p3] ((Code.pl (Code.pr (Code.pr (Code.pr (Code.pr (Code.pr (Code.pr (Code.pr (Code.pr (Code.pr c_spec_StepText))))))))))) .o trivial) (fg := (cutC ([1, 4, 5, 8], [1]) [] ([2], []))) (cutC_le _ _ _) (by
 intro σ k r h
 obtain ⟨hn, h1⟩ := rdN_some h
 obtain ⟨hs1, h2⟩ := rdT_some h1
 obtain ⟨w, hs4, h3⟩ := rdV_some h2
 obtain ⟨n_, hs5, h4⟩ := rdV_some h3
 obtain ⟨b, hs8, h5⟩ := rdV_some h4
 obtain ⟨c, hs10, h6⟩ := rdV_some h5
 obtain ⟨a, s, hb1, h7⟩ := rdB_some h6
 refine ⟨_, ?_, (espec_StepText_p4 w n_ b c a s k).trans h7⟩
 exact mkS_le hn ⟨hs1, hs4, hs5, hs8, hs10, trivial⟩ ⟨hb1, trivial⟩)
def spec_StepText (s : Int × (Int × Int × Int × ByteArray × qW × qW × Int × ByteArray × qE × List ByteArray × ByteArray × ByteArray) × Int × Int × Int) (k0 : ByteArray → Res) : Res :=
 bif (s.1 == 1) then
  spec_RecText s.2.1 fun (r : ByteArray) =>
   spec_StepText_p0 r s fun (t : Bool) =>
    bif t then
     k0 eS
    else
     bif lim (4 + (ByteArray.size r)) then
      k0 (z_src_ ++ r)
     else none
 else
  spec_l20Word s fun (r1 : ByteArray) (r2 : Int) =>
   spec_l20Num s.2.2.1 fun (r3 : ByteArray) (r4 : Bool) =>
    spec_l20Num s.2.2.2.1 fun (r5 : ByteArray) (r6 : Bool) =>
     spec_l20Num s.2.2.2.2 fun (r7 : ByteArray) (r8 : Bool) =>
      spec_StepText_p1 r1 r4 r6 r8 s fun (t1 : Bool) =>
       bif t1 then
        k0 eS
       else
        spec_StepText_p2 r2 s
         (fun (_ : Unit) =>
          spec_StepText_p3 r1 r2 r3 s
           (fun (_ : Unit) =>
            spec_StepText_p4 r1 r2 r5 r7 s
             (fun (_ : Unit) =>
              bif (r2 == 2) then
               bif (s.2.2.2.2 == 0) then
                bif lim ((ByteArray.size r1) + (ByteArray.size r5)) then
                 k0 (r1 ++ r5)
                else none
               else
                k0 eS
              else
               k0 eS)
             (fun (_ : Unit) =>
              k0 ((r1 ++ r5) ++ r7)))
           (fun (_ : Unit) =>
            k0 (r1 ++ r3)))
         (fun (_ : Unit) =>
          k0 r1)
def s_spec_StepText : Sig Unit := ⟨[.look y23 true], [false], fun vals ext k => av vals y23 fun s vals => nl vals <| nl ext <| spec_StepText s (fun (r0 : ByteArray) => k [⟨.str, false, r0, []⟩] [] [])⟩
theorem E_spec_StepText (s : Int × (Int × Int × Int × ByteArray × qW × qW × Int × ByteArray × qE × List ByteArray × ByteArray × ByteArray) × Int × Int × Int) (a_s : Bool) (t_s : List Tag) (k : qK) : funC g_spec_StepText [xspec_StepText_p0, xspec_StepText_p1, xspec_StepText_p2, xspec_StepText_p3, xspec_StepText_p4] (.t .o (.t (.t .o (.t (.t .o (.t (.t (.x 0) .o) .o)) .o)) (.t .o (.t .o (.t .o (.t .o (.t (.t (.x 1) .o) (.t (.x 2) (.t (.x 3) (.t (.x 4) .o)))))))))) false Try.f9 [.look y23 true] [false] [⟨y23, a_s, s, t_s⟩] [] k = spec_StepText s (fun (r0 : ByteArray) => k [⟨.str, false, r0, []⟩] [] []) := by kernel_rfl
theorem S_spec_StepText : Sound Try.prog 9 s_spec_StepText := sound_of (Γ := g_spec_StepText) (X := [xspec_StepText_p0, xspec_StepText_p1, xspec_StepText_p2, xspec_StepText_p3, xspec_StepText_p4]) (ht := (.t .o (.t (.t .o (.t (.t .o (.t (.t (.x 0) .o) .o)) .o)) (.t .o (.t .o (.t .o (.t .o (.t (.t (.x 1) .o) (.t (.x 2) (.t (.x 3) (.t (.x 4) .o))))))))))) (fz := false) (c := c_spec_StepText) follows tysOk (fns_cons S_spec_RecText (fns_cons S_spec_l20Word (fns_cons S_spec_l20Num (fns_cons S_spec_l20Rec fns_nil)))) (OrOk.mk trivial ((OrOk.mk ((OrOk.mk trivial ((OrOk.mk ((OrOk.mk trivial ((OrOk.mk ((OrOk.mk (OrOk.x_mk (fun W0 M hnp => ospec_StepText_p0 (W0 := W0) (M := M) hnp)) trivial)) trivial)))) trivial)))) ((OrOk.mk trivial ((OrOk.mk trivial ((OrOk.mk trivial ((OrOk.mk trivial ((OrOk.mk ((OrOk.mk (OrOk.x_mk (fun W0 M hnp => ospec_StepText_p1 (W0 := W0) (M := M) hnp)) trivial)) ((OrOk.mk (OrOk.x_mk (fun W0 M hnp => ospec_StepText_p2 (W0 := W0) (M := M) hnp)) ((OrOk.mk (OrOk.x_mk (fun W0 M hnp => ospec_StepText_p3 (W0 := W0) (M := M) hnp)) ((OrOk.mk (OrOk.x_mk (fun W0 M hnp => ospec_StepText_p4 (W0 := W0) (M := M) hnp)) trivial))))))))))))))))))) Try.func9 (by kernel_rfl) (by kernel_rfl) (by decide) (by
 intro vals ext k r h
 obtain ⟨s, a_s, t_s, vals, rfl, h1⟩ := av_some h
 obtain ⟨rfl, h2⟩ := nl_some h1
 obtain ⟨rfl, h3⟩ := nl_some h2
 exact (E_spec_StepText s a_s t_s k).trans h3)

/-! ### 45 loop.example/g00462/impl.written -/
def c_impl_written : Code := (Try.f45.body).getD .skip
def g_impl_written : Env Unit := ⟨tys, [], 0⟩
def impl_written_p0 (t8 : Int) (s : Int × (Int × Int × Int × ByteArray × qW × qW × Int × ByteArray × qE × List ByteArray × ByteArray × ByteArray) × Int × Int × Int) (x : Int × (Int × Int × Int × ByteArray × qW × qW × Int × ByteArray × qE × List ByteArray × ByteArray × ByteArray) × Int × Int × Int) (k0 : (Int × (Int × Int × Int × ByteArray × qW × qW × Int × ByteArray × qE × List ByteArray × ByteArray × ByteArray) × Int × Int × Int) → Res) : Res :=
 bif (t8 == 2) then
  k0 (x.1, x.2.1, s.2.2.1, x.2.2.2)
 else
  bif (t8 == 4) then
   k0 (x.1, x.2.1, s.2.2.1, x.2.2.2)
  else
   bif (t8 == 3) then
    bif (s.2.2.1 == 4) then
     k0 (x.1, x.2.1, s.2.2.1, s.2.2.2.1, s.2.2.2.2)
    else
     k0 (x.1, x.2.1, s.2.2.1, s.2.2.2.1, x.2.2.2.2)
   else
    k0 x
def ximpl_written_p0 : Node Unit := fun σ k => rdN σ 30 <| rdT σ 1 (.ptr ⟨true, 1, []⟩) <| rdT σ 2 (.ptr ⟨true, 2, []⟩) <| rdT σ 3 (.ptr ⟨true, 3, []⟩) <| rdV σ 8 (.int .i64) false [] fun t8 => rdB σ 1 y23 [.S, .S, .S, .S] fun a s => rdB σ 2 y23 [.O, .O, .O, .O] fun a1 t2 => rdB σ 3 y23 [.O, .O, .O, .O] fun a2 x => impl_written_p0 t8 s x (fun (x1 : Int × (Int × Int × Int × ByteArray × qW × qW × Int × ByteArray × qE × List ByteArray × ByteArray × ByteArray) × Int × Int × Int) => k .normal (mkS 30 30 [(2, .ptr ⟨true, 2, []⟩), (3, .ptr ⟨true, 3, []⟩)] [(2, ⟨y23, a1, t2, [.O, .O, .O, .O]⟩), (3, ⟨y23, a2, x1, [.O, .O, .O, .O]⟩)]))
theorem eimpl_written_p0 (t8 : Int) (a : Bool) (s : Int × (Int × Int × Int × ByteArray × qW × qW × Int × ByteArray × qE × List ByteArray × ByteArray × ByteArray) × Int × Int × Int) (a1 : Bool) (t2 : Int × (Int × Int × Int × ByteArray × qW × qW × Int × ByteArray × qE × List ByteArray × ByteArray × ByteArray) × Int × Int × Int) (a2 : Bool) (x : Int × (Int × Int × Int × ByteArray × qW × qW × Int × ByteArray × qE × List ByteArray × ByteArray × ByteArray) × Int × Int × Int) (k : Kont Unit) : codeC g_impl_written [] .o (Code.pr (Code.pl (Code.pr (Code.pr c_impl_written)))) (mkS 30 30 [(1, .ptr ⟨true, 1, []⟩), (2, .ptr ⟨true, 2, []⟩), (3, .ptr ⟨true, 3, []⟩), (8, .val ⟨(.int .i64), false, t8, []⟩)] [(1, ⟨y23, a, s, [.S, .S, .S, .S]⟩), (2, ⟨y23, a1, t2, [.O, .O, .O, .O]⟩), (3, ⟨y23, a2, x, [.O, .O, .O, .O]⟩)]) (fun e σ => k e ((cutC ([2, 3], [2, 3]) [] ([], [])) e σ)) = impl_written_p0 t8 s x (fun (x1 : Int × (Int × Int × Int × ByteArray × qW × qW × Int × ByteArray × qE × List ByteArray × ByteArray × ByteArray) × Int × Int × Int) => k .normal (mkS 30 30 [(2, .ptr ⟨true, 2, []⟩), (3, .ptr ⟨true, 3, []⟩)] [(2, ⟨y23, a1, t2, [.O, .O, .O, .O]⟩), (3, ⟨y23, a2, x1, [.O, .O, .O, .O]⟩)])) := by kernel_rfl
theorem oimpl_written_p0 {W0 : Base} {M : Nat → Prop} (hnp : W0.np ≤ 0) : CodeOk Try.prog W0 M (Code.pr (Code.pl (Code.pr (Code.pr c_impl_written)))) ximpl_written_p0 := node_ok (code_sound follows tysOk (calls_ok fns_nil) hnp [] ((Code.pr (Code.pl (Code.pr (Code.pr c_impl_written))))) .o trivial) (fg := (cutC ([2, 3], [2, 3]) [] ([], []))) (cutC_le _ _ _) (by
 intro σ k r h
 obtain ⟨hn, h1⟩ := rdN_some h
 obtain ⟨hs1, h2⟩ := rdT_some h1
 obtain ⟨hs2, h3⟩ := rdT_some h2
 obtain ⟨hs3, h4⟩ := rdT_some h3
 obtain ⟨t8, hs8, h5⟩ := rdV_some h4
 obtain ⟨a, s, hb1, h6⟩ := rdB_some h5
 obtain ⟨a1, t2, hb2, h7⟩ := rdB_some h6
 obtain ⟨a2, x, hb3, h8⟩ := rdB_some h7
 refine ⟨_, ?_, (eimpl_written_p0 t8 a s a1 t2 a2 x k).trans h8⟩
 exact mkS_le hn ⟨hs1, hs2, hs3, hs8, trivial⟩ ⟨hb1, hb2, hb3, trivial⟩)
def impl_written (s : Int × (Int × Int × Int × ByteArray × qW × qW × Int × ByteArray × qE × List ByteArray × ByteArray × ByteArray) × Int × Int × Int) (k0 : (Int × (Int × Int × Int × ByteArray × qW × qW × Int × ByteArray × qE × List ByteArray × ByteArray × ByteArray) × Int × Int × Int) → Res) : Res :=
 impl_written_p0 s.1 s (s.1, (0, 0, 0, eS, [], [], 0, eS, [], [], eS, eS), 0, 0, 0) fun (x : Int × (Int × Int × Int × ByteArray × qW × qW × Int × ByteArray × qE × List ByteArray × ByteArray × ByteArray) × Int × Int × Int) =>
  k0 x
def s_impl_written : Sig Unit := ⟨[.borrow y23 true], [true], fun vals ext k => av vals y23 fun s vals => nl vals <| nl ext <| impl_written s (fun (r0 : Int × (Int × Int × Int × ByteArray × qW × qW × Int × ByteArray × qE × List ByteArray × ByteArray × ByteArray) × Int × Int × Int) => k [⟨y23, true, r0, [.O, .O, .O, .O]⟩] [] [])⟩
theorem E_impl_written (s : Int × (Int × Int × Int × ByteArray × qW × qW × Int × ByteArray × qE × List ByteArray × ByteArray × ByteArray) × Int × Int × Int) (a_s : Bool) (t_s : List Tag) (k : qK) : funC g_impl_written [ximpl_written_p0] (.t .o (.t .o (.t (.t .o (.x 0)) .o))) false Try.f45 [.borrow y23 true] [true] [⟨y23, a_s, s, t_s⟩] [] k = impl_written s (fun (r0 : Int × (Int × Int × Int × ByteArray × qW × qW × Int × ByteArray × qE × List ByteArray × ByteArray × ByteArray) × Int × Int × Int) => k [⟨y23, true, r0, [.O, .O, .O, .O]⟩] [] []) := by kernel_rfl
theorem S_impl_written : Sound Try.prog 45 s_impl_written := sound_of (Γ := g_impl_written) (X := [ximpl_written_p0]) (ht := (.t .o (.t .o (.t (.t .o (.x 0)) .o)))) (fz := false) (c := c_impl_written) follows tysOk fns_nil (OrOk.mk trivial ((OrOk.mk trivial ((OrOk.mk ((OrOk.mk trivial (OrOk.x_mk (fun W0 M hnp => oimpl_written_p0 (W0 := W0) (M := M) hnp)))) trivial))))) Try.func45 (by kernel_rfl) (by kernel_rfl) (by decide) (by
 intro vals ext k r h
 obtain ⟨s, a_s, t_s, vals, rfl, h1⟩ := av_some h
 obtain ⟨rfl, h2⟩ := nl_some h1
 obtain ⟨rfl, h3⟩ := nl_some h2
 exact (E_impl_written s a_s t_s k).trans h3)

/-! ### 47 loop.example/g00462/impl.stepWord -/
def c_impl_stepWord : Code := (Try.f47.body).getD .skip
def g_impl_stepWord : Env Unit := ⟨tys, [(104, s_impl_within)], 0⟩
def impl_stepWord (s : Int × (Int × Int × Int × ByteArray × qW × qW × Int × ByteArray × qE × List ByteArray × ByteArray × ByteArray) × Int × Int × Int) (k0 : ByteArray → (List Int) → Res) : Res :=
 bif (s.1 == 2) then
  both
   (k0 z_send [s.2.2.1])
   (k0 z_send [s.2.2.1])
 else
  bif (s.1 == 3) then
   impl_within s.2.2.1 1 3 fun (r : Bool) =>
    bif r then
     both
      (bif inb (wi64 (s.2.2.1 - 1)) 3 then
       both
        (k0 (nth eS [z_lose, z_twice, z_late] (wi64 (s.2.2.1 - 1))) [s.2.2.2.1])
        (k0 (nth eS [z_lose, z_twice, z_late] (wi64 (s.2.2.1 - 1))) [s.2.2.2.1])
      else none)
      (bif inb (wi64 (s.2.2.1 - 1)) 3 then
       k0 (nth eS [z_lose, z_twice, z_late] (wi64 (s.2.2.1 - 1))) [s.2.2.2.1]
      else none)
    else
     bif (s.2.2.1 == 4) then
      both
       (k0 z_cut [s.2.2.2.1, s.2.2.2.2])
       (k0 z_cut [s.2.2.2.1, s.2.2.2.2])
     else
      k0 eS []
  else
   bif (s.1 == 4) then
    both
     (k0 z_take [s.2.2.1])
     (k0 z_take [s.2.2.1])
   else
    bif (s.1 == 5) then
     k0 z_save []
    else
     bif (s.1 == 6) then
      k0 z_fall []
     else
      bif (s.1 == 7) then
       k0 z_boot []
      else
       k0 eS []
def s_impl_stepWord : Sig Unit := ⟨[.borrow y23 true], [false, false], fun vals ext k => av vals y23 fun s vals => nl vals <| nl ext <| impl_stepWord s (fun (r0 : ByteArray) (r1 : List Int) => k [⟨.str, false, r0, []⟩, ⟨y25, false, r1, [.O]⟩] [] [])⟩
theorem E_impl_stepWord (s : Int × (Int × Int × Int × ByteArray × qW × qW × Int × ByteArray × qE × List ByteArray × ByteArray × ByteArray) × Int × Int × Int) (a_s : Bool) (t_s : List Tag) (k : qK) : funC g_impl_stepWord [] .o false Try.f47 [.borrow y23 true] [false, false] [⟨y23, a_s, s, t_s⟩] [] k = impl_stepWord s (fun (r0 : ByteArray) (r1 : List Int) => k [⟨.str, false, r0, []⟩, ⟨y25, false, r1, [.O]⟩] [] []) := by kernel_rfl
theorem S_impl_stepWord : Sound Try.prog 47 s_impl_stepWord := sound_of (Γ := g_impl_stepWord) (X := []) (ht := .o) (fz := false) (c := c_impl_stepWord) follows tysOk (fns_cons S_impl_within fns_nil) trivial Try.func47 (by kernel_rfl) (by kernel_rfl) (by decide) (by
 intro vals ext k r h
 obtain ⟨s, a_s, t_s, vals, rfl, h1⟩ := av_some h
 obtain ⟨rfl, h2⟩ := nl_some h1
 obtain ⟨rfl, h3⟩ := nl_some h2
 exact (E_impl_stepWord s a_s t_s k).trans h3)

/-! ### 11 loop.example/g00462/impl.StepText -/
def c_impl_StepText : Code := (Try.f11.body).getD .skip
def g_impl_StepText : Env Unit := ⟨tys, [(45, s_impl_written), (46, s_impl_RecText), (47, s_impl_stepWord), (48, s_impl_isNoStmt), (49, (s_impl_NumText impl_NumText))], 0⟩
def impl_StepText_p0 (word : ByteArray) (s : Int × (Int × Int × Int × ByteArray × qW × qW × Int × ByteArray × qE × List ByteArray × ByteArray × ByteArray) × Int × Int × Int) (k0 : Bool → Res) : Res :=
 bif sEq word eS then
  k0 true
 else
  bif (s.2.1.1 != 0) then
   k0 true
  else
   bif (s.2.1.2.1 != 0) then
    k0 true
   else
    impl_isNoStmt s.2.1.2.2 fun (r : Bool) =>
     k0 (!r)
def ximpl_StepText_p0 : Node Unit := fun σ k => rdN σ 87 <| rdT σ 1 (.ptr ⟨true, 1, []⟩) <| rdV σ 5 .str false [] fun word => rdV σ 6 y25 false [.O] fun l => rdB σ 1 y23 [.S, .S, .S, .S] fun a s => impl_StepText_p0 word s (fun (t66 : Bool) => k .normal (mkS 87 87 [(5, .val ⟨.str, false, word, []⟩), (6, .val ⟨y25, false, l, [.O]⟩), (66, .val ⟨.bool, false, t66, []⟩)] []))
theorem eimpl_StepText_p0 (word : ByteArray) (l : List Int) (a : Bool) (s : Int × (Int × Int × Int × ByteArray × qW × qW × Int × ByteArray × qE × List ByteArray × ByteArray × ByteArray) × Int × Int × Int) (k : Kont Unit) : codeC g_impl_StepText [] .o (Code.pl (Code.pl (Code.pr (Code.pr (Code.pr (Code.pr (Code.pr c_impl_StepText))))))) (mkS 87 87 [(1, .ptr ⟨true, 1, []⟩), (5, .val ⟨.str, false, word, []⟩), (6, .val ⟨y25, false, l, [.O]⟩)] [(1, ⟨y23, a, s, [.S, .S, .S, .S]⟩)]) (fun e σ => k e ((cutC ([5, 6, 66], []) [] ([], [])) e σ)) = impl_StepText_p0 word s (fun (t66 : Bool) => k .normal (mkS 87 87 [(5, .val ⟨.str, false, word, []⟩), (6, .val ⟨y25, false, l, [.O]⟩), (66, .val ⟨.bool, false, t66, []⟩)] [])) := by kernel_rfl
theorem oimpl_StepText_p0 {W0 : Base} {M : Nat → Prop} (hnp : W0.np ≤ 0) : CodeOk Try.prog W0 M (Code.pl (Code.pl (Code.pr (Code.pr (Code.pr (Code.pr (Code.pr c_impl_StepText))))))) ximpl_StepText_p0 := node_ok (code_sound follows tysOk (calls_ok (fns_cons S_impl_written (fns_cons S_impl_RecText (fns_cons S_impl_stepWord (fns_cons S_impl_isNoStmt (fns_cons S_impl_NumText fns_nil)))))) hnp [] ((Code.pl (Code.pl (Code.pr (Code.pr (Code.pr (Code.pr (Code.pr c_impl_StepText)))))))) .o trivial) (fg := (cutC ([5, 6, 66], []) [] ([], []))) (cutC_le _ _ _) (by
 intro σ k r h
 obtain ⟨hn, h1⟩ := rdN_some h
 obtain ⟨hs1, h2⟩ := rdT_some h1
 obtain ⟨word, hs5, h3⟩ := rdV_some h2
 obtain ⟨l, hs6, h4⟩ := rdV_some h3
 obtain ⟨a, s, hb1, h5⟩ := rdB_some h4
 refine ⟨_, ?_, (eimpl_StepText_p0 word l a s k).trans h5⟩
 exact mkS_le hn ⟨hs1, hs5, hs6, trivial⟩ ⟨hb1, trivial⟩)
def impl_StepText_l1_r (l : List Int) (t68 : Int) (word : ByteArray) (t69 : Int) (rec : ByteArray → Int → Res) (k0 : ByteArray → Res) (k1 : Unit → Res) : Res :=
 bif decide (t69 < t68) then
  bif inb t69 (List.length l) then
   impl_NumText (nth 0 l t69) fun (r : ByteArray) =>
    bif decide ((nth 0 l t69) < 0) then
     k1 ()
    else
     bif sEq r eS then
      k1 ()
     else
      bif lim ((ByteArray.size word) + 1) then
       bif lim ((ByteArray.size (word ++ z___1)) + (ByteArray.size r)) then
        rec ((word ++ z___1) ++ r) (wi64 (t69 + 1))
       else none
      else none
  else none
 else
  k0 word
def impl_StepText_l1_s (l : List Int) (t68 : Int) : (ByteArray × Int) → (ByteArray × Int → Res) → ((ByteArray → Res) × (Unit → Res)) → Res := fun v rec q => impl_StepText_l1_r l t68 v.1 v.2 (fun word t69 => rec (word, t69)) q.1 q.2
def impl_StepText_l1 (l : List Int) (t68 : Int) (n : Nat) (word : ByteArray) (t69 : Int) (k0 : ByteArray → Res) (k1 : Unit → Res) : Res := iter (impl_StepText_l1_s l t68) n (word, t69) (k0, k1)
def ximpl_StepText_l1 : Node Unit := fun σ k => rdN σ 87 <| rdV σ 5 .str false [] fun word => rdV σ 6 y25 false [.O] fun l => rdT σ 67 (.ref ⟨false, 6, []⟩ false) <| rdV σ 68 (.int .i64) false [] fun t68 => rdV σ 69 (.int .i64) false [] fun t69 => impl_StepText_l1 l t68 FUEL word t69 (fun (word1 : ByteArray) => k (.exit 0) (mkS 87 87 [(5, .val ⟨.str, false, word1, []⟩)] [])) (fun (_ : Unit) => k .ret (mkS 87 87 [(2, .val ⟨.str, false, eS, []⟩)] []))
theorem eimpl_StepText_l1 (l : List Int) (t68 : Int) (n : Nat) (v : ByteArray × Int) (k : Kont Unit) : loopC (codeC g_impl_StepText [ximpl_StepText_p0] .o (Code.pl (Code.pl (Code.pr (Code.pl (Code.pr (Code.pr (Code.pr (Code.pr (Code.pr (Code.pr c_impl_StepText))))))))))) (fun σ => σ.forget [5, 6, 67, 68, 69] []) (cutC ([], []) [(0, [5], [])] ([2], [])) n (mkS 87 87 [(5, .val ⟨.str, false, v.1, []⟩), (6, .val ⟨y25, false, l, [.O]⟩), (67, .ref ⟨false, 6, []⟩ false), (68, .val ⟨(.int .i64), false, t68, []⟩), (69, .val ⟨(.int .i64), false, v.2, []⟩)] []) k = iter (impl_StepText_l1_s l t68) n v ((fun (k : Kont Unit) => (((fun (word1 : ByteArray) => k (.exit 0) (mkS 87 87 [(5, .val ⟨.str, false, word1, []⟩)] [])), (fun (_ : Unit) => k .ret (mkS 87 87 [(2, .val ⟨.str, false, eS, []⟩)] []))) : (ByteArray → Res) × (Unit → Res))) k) := loop_eq (fun v : ByteArray × Int => (mkS 87 87 [(5, .val ⟨.str, false, v.1, []⟩), (6, .val ⟨y25, false, l, [.O]⟩), (67, .ref ⟨false, 6, []⟩ false), (68, .val ⟨(.int .i64), false, t68, []⟩), (69, .val ⟨(.int .i64), false, v.2, []⟩)] [])) (impl_StepText_l1_s l t68) (fun (k : Kont Unit) => (((fun (word1 : ByteArray) => k (.exit 0) (mkS 87 87 [(5, .val ⟨.str, false, word1, []⟩)] [])), (fun (_ : Unit) => k .ret (mkS 87 87 [(2, .val ⟨.str, false, eS, []⟩)] []))) : (ByteArray → Res) × (Unit → Res))) (fun v rec k => by kernel_rfl) n v k
theorem oimpl_StepText_l1 {W0 : Base} {M : Nat → Prop} (hnp : W0.np ≤ 0) : CodeOk Try.prog W0 M (Code.pl (Code.pr (Code.pl (Code.pr (Code.pr (Code.pr (Code.pr (Code.pr (Code.pr c_impl_StepText))))))))) ximpl_StepText_l1 := show CodeOk Try.prog W0 M (Code.loop (Code.pl (Code.pl (Code.pr (Code.pl (Code.pr (Code.pr (Code.pr (Code.pr (Code.pr (Code.pr c_impl_StepText))))))))))) ximpl_StepText_l1 from loop_ok (code_sound follows tysOk (calls_ok (fns_cons S_impl_written (fns_cons S_impl_RecText (fns_cons S_impl_stepWord (fns_cons S_impl_isNoStmt (fns_cons S_impl_NumText fns_nil)))))) hnp [ximpl_StepText_p0] (Code.pl (Code.pl (Code.pr (Code.pl (Code.pr (Code.pr (Code.pr (Code.pr (Code.pr (Code.pr c_impl_StepText)))))))))) .o trivial) (ks := [5, 6, 67, 68, 69]) (bs := []) (fX := (cutC ([], []) [(0, [5], [])] ([2], []))) (cutC_le _ _ _) FUEL (by
 intro σ k r h
 obtain ⟨hn, h1⟩ := rdN_some h
 obtain ⟨word, hs5, h2⟩ := rdV_some h1
 obtain ⟨l, hs6, h3⟩ := rdV_some h2
 obtain ⟨hs67, h4⟩ := rdT_some h3
 obtain ⟨t68, hs68, h5⟩ := rdV_some h4
 obtain ⟨t69, hs69, h6⟩ := rdV_some h5
 refine ⟨_, ?_, (eimpl_StepText_l1 l t68 FUEL (word, t69) k).trans h6⟩
 exact mkS_le hn ⟨hs5, hs6, hs67, hs68, hs69, trivial⟩ trivial)
def impl_StepText (s : Int × (Int × Int × Int × ByteArray × qW × qW × Int × ByteArray × qE × List ByteArray × ByteArray × ByteArray) × Int × Int × Int) (k0 : ByteArray → Res) : Res :=
 impl_written s fun (r : Int × (Int × Int × Int × ByteArray × qW × qW × Int × ByteArray × qE × List ByteArray × ByteArray × ByteArray) × Int × Int × Int) =>
  bif (s.2.2.1 != r.2.2.1) then
   k0 eS
  else
   bif (s.2.2.2.1 != r.2.2.2.1) then
    k0 eS
   else
    bif (s.2.2.2.2 != r.2.2.2.2) then
     k0 eS
    else
     bif (s.1 == 1) then
      impl_RecText s.2.1 fun (r1 : ByteArray) =>
       bif sEq r1 eS then
        k0 eS
       else
        bif lim (4 + (ByteArray.size r1)) then
         k0 (z_src_ ++ r1)
        else none
     else
      impl_stepWord s fun (r2 : ByteArray) (r3 : List Int) =>
       impl_StepText_p0 r2 s fun (t : Bool) =>
        bif t then
         k0 eS
        else
         impl_StepText_l1 r3 (nI (List.length r3)) FUEL r2 0
          (fun (word : ByteArray) =>
           k0 word)
          (fun (_ : Unit) =>
           k0 eS)
def s_impl_StepText : Sig Unit := ⟨[.look y23 true], [false], fun vals ext k => av vals y23 fun s vals => nl vals <| nl ext <| impl_StepText s (fun (r0 : ByteArray) => k [⟨.str, false, r0, []⟩] [] [])⟩
theorem E_impl_StepText (s : Int × (Int × Int × Int × ByteArray × qW × qW × Int × ByteArray × qE × List ByteArray × ByteArray × ByteArray) × Int × Int × Int) (a_s : Bool) (t_s : List Tag) (k : qK) : funC g_impl_StepText [ximpl_StepText_p0, ximpl_StepText_l1] (.t .o (.t .o (.t .o (.t .o (.t .o (.t (.t (.x 0) .o) (.t (.t .o (.t (.x 1) .o)) .o))))))) false Try.f11 [.look y23 true] [false] [⟨y23, a_s, s, t_s⟩] [] k = impl_StepText s (fun (r0 : ByteArray) => k [⟨.str, false, r0, []⟩] [] []) := by kernel_rfl
theorem S_impl_StepText : Sound Try.prog 11 s_impl_StepText := sound_of (Γ := g_impl_StepText) (X := [ximpl_StepText_p0, ximpl_StepText_l1]) (ht := (.t .o (.t .o (.t .o (.t .o (.t .o (.t (.t (.x 0) .o) (.t (.t .o (.t (.x 1) .o)) .o)))))))) (fz := false) (c := c_impl_StepText) follows tysOk (fns_cons S_impl_written (fns_cons S_impl_RecText (fns_cons S_impl_stepWord (fns_cons S_impl_isNoStmt (fns_cons S_impl_NumText fns_nil))))) (OrOk.mk trivial ((OrOk.mk trivial ((OrOk.mk trivial ((OrOk.mk trivial ((OrOk.mk trivial ((OrOk.mk ((OrOk.mk (OrOk.x_mk (fun W0 M hnp => oimpl_StepText_p0 (W0 := W0) (M := M) hnp)) trivial)) ((OrOk.mk ((OrOk.mk trivial ((OrOk.mk (OrOk.x_mk (fun W0 M hnp => oimpl_StepText_l1 (W0 := W0) (M := M) hnp)) trivial)))) trivial))))))))))))) Try.func11 (by kernel_rfl) (by kernel_rfl) (by decide) (by
 intro vals ext k r h
 obtain ⟨s, a_s, t_s, vals, rfl, h1⟩ := av_some h
 obtain ⟨rfl, h2⟩ := nl_some h1
 obtain ⟨rfl, h3⟩ := nl_some h2
 exact (E_impl_StepText s a_s t_s k).trans h3)
end Go.PI.G
end
noncomputable section
namespace Go.PI.G
open Go Go.PI Go.Proofs

/-! ### 178 loop.example/g00462/laws.szVal -/
def c_laws_szVal : Code := (Try.f178.body).getD .skip
def g_laws_szVal : Env Unit := ⟨tys, [], 0⟩
def laws_szVal (a : Int × Int × ByteArray) (left : Int) (k0 : Int → Res) : Res :=
 bif decide ((wi64 (left - (nI (ByteArray.size a.2.2)))) < 0) then
  k0 (-1)
 else
  k0 (wi64 (left - (nI (ByteArray.size a.2.2))))
def s_laws_szVal : Sig Unit := ⟨[.look y1 true, .look (.int .i64) false], [false], fun vals ext k => av vals y1 fun a vals => av vals (.int .i64) fun left vals => nl vals <| nl ext <| laws_szVal a left (fun (r0 : Int) => k [⟨(.int .i64), false, r0, []⟩] [] [])⟩
theorem E_laws_szVal (a : Int × Int × ByteArray) (a_a : Bool) (t_a : List Tag) (left : Int) (a_left : Bool) (t_left : List Tag) (k : qK) : funC g_laws_szVal [] .o false Try.f178 [.look y1 true, .look (.int .i64) false] [false] [⟨y1, a_a, a, t_a⟩, ⟨(.int .i64), a_left, left, t_left⟩] [] k = laws_szVal a left (fun (r0 : Int) => k [⟨(.int .i64), false, r0, []⟩] [] []) := by kernel_rfl
theorem S_laws_szVal : Sound Try.prog 178 s_laws_szVal := sound_of (Γ := g_laws_szVal) (X := []) (ht := .o) (fz := false) (c := c_laws_szVal) follows tysOk fns_nil trivial Try.func178 (by kernel_rfl) (by kernel_rfl) (by decide) (by
 intro vals ext k r h
 obtain ⟨a, a_a, t_a, vals, rfl, h1⟩ := av_some h
 obtain ⟨left, a_left, t_left, vals, rfl, h2⟩ := av_some h1
 obtain ⟨rfl, h3⟩ := nl_some h2
 obtain ⟨rfl, h4⟩ := nl_some h3
 exact (E_laws_szVal a a_a t_a left a_left t_left k).trans h4)

/-! ### 182 loop.example/g00462/laws.toVal -/
def c_laws_toVal : Code := (Try.f182.body).getD .skip
def g_laws_toVal : Env Unit := ⟨tys, [], 0⟩
def laws_toVal (a : Int × Int × ByteArray) (k0 : qV → Res) : Res :=
 k0 (a.1, a.2.1, a.2.2)
def s_laws_toVal : Sig Unit := ⟨[.look y1 true], [true], fun vals ext k => av vals y1 fun a vals => nl vals <| nl ext <| laws_toVal a (fun (r0 : Int × Int × ByteArray) => k [⟨y1, true, r0, []⟩] [] [])⟩
theorem E_laws_toVal (a : Int × Int × ByteArray) (a_a : Bool) (t_a : List Tag) (k : qK) : funC g_laws_toVal [] .o false Try.f182 [.look y1 true] [true] [⟨y1, a_a, a, t_a⟩] [] k = laws_toVal a (fun (r0 : Int × Int × ByteArray) => k [⟨y1, true, r0, []⟩] [] []) := by kernel_rfl
theorem S_laws_toVal : Sound Try.prog 182 s_laws_toVal := sound_of (Γ := g_laws_toVal) (X := []) (ht := .o) (fz := false) (c := c_laws_toVal) follows tysOk fns_nil trivial Try.func182 (by kernel_rfl) (by kernel_rfl) (by decide) (by
 intro vals ext k r h
 obtain ⟨a, a_a, t_a, vals, rfl, h1⟩ := av_some h
 obtain ⟨rfl, h2⟩ := nl_some h1
 obtain ⟨rfl, h3⟩ := nl_some h2
 exact (E_laws_toVal a a_a t_a k).trans h3)

/-! ### 121 loop.example/g00462/laws.eqVal -/
def c_laws_eqVal : Code := (Try.f121.body).getD .skip
def g_laws_eqVal : Env Unit := ⟨tys, [], 0⟩
def laws_eqVal (a : Int × Int × ByteArray) (b : Int × Int × ByteArray) (k0 : Bool → Res) : Res :=
 bif (a.1 != b.1) then
  k0 false
 else
  bif (a.2.1 != b.2.1) then
   k0 false
  else
   bif sNe a.2.2 b.2.2 then
    k0 false
   else
    k0 true
def s_laws_eqVal : Sig Unit := ⟨[.look y1 true, .look y1 true], [false], fun vals ext k => av vals y1 fun a vals => av vals y1 fun b vals => nl vals <| nl ext <| laws_eqVal a b (fun (r0 : Bool) => k [⟨.bool, false, r0, []⟩] [] [])⟩
theorem E_laws_eqVal (a : Int × Int × ByteArray) (a_a : Bool) (t_a : List Tag) (b : Int × Int × ByteArray) (a_b : Bool) (t_b : List Tag) (k : qK) : funC g_laws_eqVal [] .o false Try.f121 [.look y1 true, .look y1 true] [false] [⟨y1, a_a, a, t_a⟩, ⟨y1, a_b, b, t_b⟩] [] k = laws_eqVal a b (fun (r0 : Bool) => k [⟨.bool, false, r0, []⟩] [] []) := by kernel_rfl
theorem S_laws_eqVal : Sound Try.prog 121 s_laws_eqVal := sound_of (Γ := g_laws_eqVal) (X := []) (ht := .o) (fz := false) (c := c_laws_eqVal) follows tysOk fns_nil trivial Try.func121 (by kernel_rfl) (by kernel_rfl) (by decide) (by
 intro vals ext k r h
 obtain ⟨a, a_a, t_a, vals, rfl, h1⟩ := av_some h
 obtain ⟨b, a_b, t_b, vals, rfl, h2⟩ := av_some h1
 obtain ⟨rfl, h3⟩ := nl_some h2
 obtain ⟨rfl, h4⟩ := nl_some h3
 exact (E_laws_eqVal a a_a t_a b a_b t_b k).trans h4)
end Go.PI.G
end
noncomputable section
namespace Go.PI.G
open Go Go.PI Go.Proofs

/-! ### 204 loop.example/g00462/laws.szCol -/
def c_laws_szCol : Code := (Try.f204.body).getD .skip
def g_laws_szCol : Env Unit := ⟨tys, [(178, s_laws_szVal)], 0⟩
def laws_szCol (a : ByteArray × Int × Bool × Bool × Int × Int × ByteArray) (left : Int) (k0 : Int → Res) : Res :=
 bif decide ((wi64 (left - (nI (ByteArray.size a.1)))) < 0) then
  k0 (-1)
 else
  laws_szVal a.2.2.2.2 (wi64 (left - (nI (ByteArray.size a.1)))) fun (r : Int) =>
   bif decide (r < 0) then
    k0 (-1)
   else
    k0 r
def s_laws_szCol : Sig Unit := ⟨[.look y6 true, .look (.int .i64) false], [false], fun vals ext k => av vals y6 fun a vals => av vals (.int .i64) fun left vals => nl vals <| nl ext <| laws_szCol a left (fun (r0 : Int) => k [⟨(.int .i64), false, r0, []⟩] [] [])⟩
theorem E_laws_szCol (a : ByteArray × Int × Bool × Bool × Int × Int × ByteArray) (a_a : Bool) (t_a : List Tag) (left : Int) (a_left : Bool) (t_left : List Tag) (k : qK) : funC g_laws_szCol [] .o false Try.f204 [.look y6 true, .look (.int .i64) false] [false] [⟨y6, a_a, a, t_a⟩, ⟨(.int .i64), a_left, left, t_left⟩] [] k = laws_szCol a left (fun (r0 : Int) => k [⟨(.int .i64), false, r0, []⟩] [] []) := by kernel_rfl
theorem S_laws_szCol : Sound Try.prog 204 s_laws_szCol := sound_of (Γ := g_laws_szCol) (X := []) (ht := .o) (fz := false) (c := c_laws_szCol) follows tysOk (fns_cons S_laws_szVal fns_nil) trivial Try.func204 (by kernel_rfl) (by kernel_rfl) (by decide) (by
 intro vals ext k r h
 obtain ⟨a, a_a, t_a, vals, rfl, h1⟩ := av_some h
 obtain ⟨left, a_left, t_left, vals, rfl, h2⟩ := av_some h1
 obtain ⟨rfl, h3⟩ := nl_some h2
 obtain ⟨rfl, h4⟩ := nl_some h3
 exact (E_laws_szCol a a_a t_a left a_left t_left k).trans h4)

/-! ### 208 loop.example/g00462/laws.toCol -/
def c_laws_toCol : Code := (Try.f208.body).getD .skip
def g_laws_toCol : Env Unit := ⟨tys, [(182, s_laws_toVal)], 0⟩
def laws_toCol (a : ByteArray × Int × Bool × Bool × Int × Int × ByteArray) (k0 : qC → Res) : Res :=
 laws_toVal a.2.2.2.2 fun (r : Int × Int × ByteArray) =>
  k0 (a.1, a.2.1, a.2.2.1, a.2.2.2.1, r)
def s_laws_toCol : Sig Unit := ⟨[.look y6 true], [true], fun vals ext k => av vals y6 fun a vals => nl vals <| nl ext <| laws_toCol a (fun (r0 : ByteArray × Int × Bool × Bool × Int × Int × ByteArray) => k [⟨y6, true, r0, []⟩] [] [])⟩
theorem E_laws_toCol (a : ByteArray × Int × Bool × Bool × Int × Int × ByteArray) (a_a : Bool) (t_a : List Tag) (k : qK) : funC g_laws_toCol [] .o false Try.f208 [.look y6 true] [true] [⟨y6, a_a, a, t_a⟩] [] k = laws_toCol a (fun (r0 : ByteArray × Int × Bool × Bool × Int × Int × ByteArray) => k [⟨y6, true, r0, []⟩] [] []) := by kernel_rfl
theorem S_laws_toCol : Sound Try.prog 208 s_laws_toCol := sound_of (Γ := g_laws_toCol) (X := []) (ht := .o) (fz := false) (c := c_laws_toCol) follows tysOk (fns_cons S_laws_toVal fns_nil) trivial Try.func208 (by kernel_rfl) (by kernel_rfl) (by decide) (by
 intro vals ext k r h
 obtain ⟨a, a_a, t_a, vals, rfl, h1⟩ := av_some h
 obtain ⟨rfl, h2⟩ := nl_some h1
 obtain ⟨rfl, h3⟩ := nl_some h2
 exact (E_laws_toCol a a_a t_a k).trans h3)

/-! ### 159 loop.example/g00462/laws.eqCol -/
def c_laws_eqCol : Code := (Try.f159.body).getD .skip
def g_laws_eqCol : Env Unit := ⟨tys, [(121, s_laws_eqVal)], 0⟩
def laws_eqCol (a : ByteArray × Int × Bool × Bool × Int × Int × ByteArray) (b : ByteArray × Int × Bool × Bool × Int × Int × ByteArray) (k0 : Bool → Res) : Res :=
 bif sNe a.1 b.1 then
  k0 false
 else
  bif (a.2.1 != b.2.1) then
   k0 false
  else
   bif !(a.2.2.1 == b.2.2.1) then
    k0 false
   else
    bif !(a.2.2.2.1 == b.2.2.2.1) then
     k0 false
    else
     laws_eqVal a.2.2.2.2 b.2.2.2.2 fun (r : Bool) =>
      bif !r then
       k0 false
      else
       k0 true
def s_laws_eqCol : Sig Unit := ⟨[.look y6 true, .look y6 true], [false], fun vals ext k => av vals y6 fun a vals => av vals y6 fun b vals => nl vals <| nl ext <| laws_eqCol a b (fun (r0 : Bool) => k [⟨.bool, false, r0, []⟩] [] [])⟩
theorem E_laws_eqCol (a : ByteArray × Int × Bool × Bool × Int × Int × ByteArray) (a_a : Bool) (t_a : List Tag) (b : ByteArray × Int × Bool × Bool × Int × Int × ByteArray) (a_b : Bool) (t_b : List Tag) (k : qK) : funC g_laws_eqCol [] .o false Try.f159 [.look y6 true, .look y6 true] [false] [⟨y6, a_a, a, t_a⟩, ⟨y6, a_b, b, t_b⟩] [] k = laws_eqCol a b (fun (r0 : Bool) => k [⟨.bool, false, r0, []⟩] [] []) := by kernel_rfl
theorem S_laws_eqCol : Sound Try.prog 159 s_laws_eqCol := sound_of (Γ := g_laws_eqCol) (X := []) (ht := .o) (fz := false) (c := c_laws_eqCol) follows tysOk (fns_cons S_laws_eqVal fns_nil) trivial Try.func159 (by kernel_rfl) (by kernel_rfl) (by decide) (by
 intro vals ext k r h
 obtain ⟨a, a_a, t_a, vals, rfl, h1⟩ := av_some h
 obtain ⟨b, a_b, t_b, vals, rfl, h2⟩ := av_some h1
 obtain ⟨rfl, h3⟩ := nl_some h2
 obtain ⟨rfl, h4⟩ := nl_some h3
 exact (E_laws_eqCol a a_a t_a b a_b t_b k).trans h4)
end Go.PI.G
end
