/-
  Printed texts and plain laws. No conditions.
-/
import Derived.Test.Ytiieddiheadocaasa
import Derived.Test.Ytiieddiheadocaasc
import Derived.Test.Ytiieddiheadocaasd
import Derived.Test.Ytiieddiheadocaase
set_option linter.unusedVariables false
set_option maxRecDepth 100000
noncomputable section
namespace Go.PI.G
open Go Go.PI Go.Proofs

/-! ### 100 loop.example/g00462/spec.l07NoStmt -/
def c_spec_l07NoStmt : Code := (Try.f100.body).getD .skip
def g_spec_l07NoStmt : Env Unit := ⟨tys, [(143, s_spec_l04NoDdl)], 0⟩
def spec_l07NoStmt (s : Int × ByteArray × qW × qW × Int × ByteArray × qE × List ByteArray × ByteArray × ByteArray) (k0 : Bool → Res) : Res :=
 bif (s.1 == 0) then
  bif sEq s.2.1 eS then
   bif ((nI (List.length s.2.2.1)) == 0) then
    bif ((nI (List.length s.2.2.2.1)) == 0) then
     spec_l04NoDdl s.2.2.2.2 fun (r : Bool) =>
      k0 r
    else
     k0 false
   else
    k0 false
  else
   k0 false
 else
  k0 false
def s_spec_l07NoStmt : Sig Unit := ⟨[.look y17 true], [false], fun vals ext k => av vals y17 fun s vals => nl vals <| nl ext <| spec_l07NoStmt s (fun (r0 : Bool) => k [⟨.bool, false, r0, []⟩] [] [])⟩
theorem E_spec_l07NoStmt (s : Int × ByteArray × qW × qW × Int × ByteArray × qE × List ByteArray × ByteArray × ByteArray) (a_s : Bool) (t_s : List Tag) (k : qK) : funC g_spec_l07NoStmt [] .o false Try.f100 [.look y17 true] [false] [⟨y17, a_s, s, t_s⟩] [] k = spec_l07NoStmt s (fun (r0 : Bool) => k [⟨.bool, false, r0, []⟩] [] []) := by kernel_rfl
theorem S_spec_l07NoStmt : Sound Try.prog 100 s_spec_l07NoStmt := sound_of (Γ := g_spec_l07NoStmt) (X := []) (ht := .o) (fz := false) (c := c_spec_l07NoStmt) follows tysOk (fns_cons S_spec_l04NoDdl fns_nil) trivial Try.func100 (by kernel_rfl) (by kernel_rfl) (by decide) (by
 intro vals ext k r h
 obtain ⟨s, a_s, t_s, vals, rfl, h1⟩ := av_some h
 obtain ⟨rfl, h2⟩ := nl_some h1
 obtain ⟨rfl, h3⟩ := nl_some h2
 exact (E_spec_l07NoStmt s a_s t_s k).trans h3)

/-! ### 97 loop.example/g00462/spec.RecOk -/
def c_spec_RecOk : Code := (Try.f97.body).getD .skip
def g_spec_RecOk : Env Unit := ⟨tys, [(100, s_spec_l07NoStmt), (108, s_spec_StmtOk)], 0⟩
def spec_RecOk_p0 (r : Int × Int × Int × ByteArray × qW × qW × Int × ByteArray × qE × List ByteArray × ByteArray × ByteArray) (k0 : Bool → Res) : Res :=
 bif decide (r.1 < 1) then
  k0 true
 else
  bif decide (r.1 > 4) then
   k0 true
  else
   bif decide (r.2.1 < 1) then
    k0 true
   else
    k0 (decide (r.2.1 > 1000000))
def xspec_RecOk_p0 : Node Unit := fun σ k => rdN σ 30 <| rdT σ 1 (.ptr ⟨true, 1, []⟩) <| rdB σ 1 y19 [.S, .S, .S, .S] fun a r => spec_RecOk_p0 r (fun (t20 : Bool) => k .normal (mkS 30 30 [(1, .ptr ⟨true, 1, []⟩), (20, .val ⟨.bool, false, t20, []⟩)] [(1, ⟨y19, a, r, [.S, .S, .S, .S]⟩)]))
theorem espec_RecOk_p0 (a : Bool) (r : Int × Int × Int × ByteArray × qW × qW × Int × ByteArray × qE × List ByteArray × ByteArray × ByteArray) (k : Kont Unit) : codeC g_spec_RecOk [] .o (Code.pl (Code.pl (Code.pr c_spec_RecOk))) (mkS 30 30 [(1, .ptr ⟨true, 1, []⟩)] [(1, ⟨y19, a, r, [.S, .S, .S, .S]⟩)]) (fun e σ => k e ((cutC ([1, 20], [1]) [] ([], [])) e σ)) = spec_RecOk_p0 r (fun (t20 : Bool) => k .normal (mkS 30 30 [(1, .ptr ⟨true, 1, []⟩), (20, .val ⟨.bool, false, t20, []⟩)] [(1, ⟨y19, a, r, [.S, .S, .S, .S]⟩)])) := by kernel_rfl
theorem ospec_RecOk_p0 {W0 : Base} {M : Nat → Prop} (hnp : W0.np ≤ 0) : CodeOk Try.prog W0 M (Code.pl (Code.pl (Code.pr c_spec_RecOk))) xspec_RecOk_p0 := node_ok (code_sound follows tysOk (calls_ok (fns_cons S_spec_l07NoStmt (fns_cons S_spec_StmtOk fns_nil))) hnp [] ((Code.pl (Code.pl (Code.pr c_spec_RecOk)))) .o trivial) (fg := (cutC ([1, 20], [1]) [] ([], []))) (cutC_le _ _ _) (by
 intro σ k r h
 obtain ⟨hn, h1⟩ := rdN_some h
 obtain ⟨hs1, h2⟩ := rdT_some h1
 obtain ⟨a, r, hb1, h3⟩ := rdB_some h2
 refine ⟨_, ?_, (espec_RecOk_p0 a r k).trans h3⟩
 exact mkS_le hn ⟨hs1, trivial⟩ ⟨hb1, trivial⟩)
def spec_RecOk (r : Int × Int × Int × ByteArray × qW × qW × Int × ByteArray × qE × List ByteArray × ByteArray × ByteArray) (k0 : Bool → Res) : Res :=
 spec_RecOk_p0 r fun (t : Bool) =>
  bif t then
   k0 false
  else
   bif (r.1 == 2) then
    spec_StmtOk r.2.2 fun (r1 : Bool) =>
     k0 r1
   else
    spec_l07NoStmt r.2.2 fun (r2 : Bool) =>
     k0 r2
def s_spec_RecOk : Sig Unit := ⟨[.look y19 true], [false], fun vals ext k => av vals y19 fun r vals => nl vals <| nl ext <| spec_RecOk r (fun (r0 : Bool) => k [⟨.bool, false, r0, []⟩] [] [])⟩
theorem E_spec_RecOk (r : Int × Int × Int × ByteArray × qW × qW × Int × ByteArray × qE × List ByteArray × ByteArray × ByteArray) (a_r : Bool) (t_r : List Tag) (k : qK) : funC g_spec_RecOk [xspec_RecOk_p0] (.t .o (.t (.t (.x 0) .o) .o)) false Try.f97 [.look y19 true] [false] [⟨y19, a_r, r, t_r⟩] [] k = spec_RecOk r (fun (r0 : Bool) => k [⟨.bool, false, r0, []⟩] [] []) := by kernel_rfl
theorem S_spec_RecOk : Sound Try.prog 97 s_spec_RecOk := sound_of (Γ := g_spec_RecOk) (X := [xspec_RecOk_p0]) (ht := (.t .o (.t (.t (.x 0) .o) .o))) (fz := false) (c := c_spec_RecOk) follows tysOk (fns_cons S_spec_l07NoStmt (fns_cons S_spec_StmtOk fns_nil)) (OrOk.mk trivial ((OrOk.mk ((OrOk.mk (OrOk.x_mk (fun W0 M hnp => ospec_RecOk_p0 (W0 := W0) (M := M) hnp)) trivial)) trivial))) Try.func97 (by kernel_rfl) (by kernel_rfl) (by decide) (by
 intro vals ext k r h
 obtain ⟨r, a_r, t_r, vals, rfl, h1⟩ := av_some h
 obtain ⟨rfl, h2⟩ := nl_some h1
 obtain ⟨rfl, h3⟩ := nl_some h2
 exact (E_spec_RecOk r a_r t_r k).trans h3)

/-! ### 40 loop.example/g00462/spec.RecText -/
def c_spec_RecText : Code := (Try.f40.body).getD .skip
def g_spec_RecText : Env Unit := ⟨tys, [(97, s_spec_RecOk), (98, (s_spec_NumText spec_NumText)), (99, s_spec_StmtText)], 0⟩
def spec_RecText_p0 (r : Int × Int × Int × ByteArray × qW × qW × Int × ByteArray × qE × List ByteArray × ByteArray × ByteArray) (k0 : ByteArray → Res) : Res :=
 both
  (bif inb r.1 5 then
   bif lim ((ByteArray.size (nth eS [eS, z_begin, z_do, z_commit, z_abort] r.1)) + 1) then
    spec_NumText r.2.1 fun (r1 : ByteArray) =>
     bif lim ((ByteArray.size ((nth eS [eS, z_begin, z_do, z_commit, z_abort] r.1) ++ z___1)) + (ByteArray.size r1)) then
      k0 (((nth eS [eS, z_begin, z_do, z_commit, z_abort] r.1) ++ z___1) ++ r1)
     else none
   else none
  else none)
  (spec_NumText r.2.1 fun (r2 : ByteArray) =>
   bif inb r.1 5 then
    bif lim ((ByteArray.size (nth eS [eS, z_begin, z_do, z_commit, z_abort] r.1)) + 1) then
     bif lim ((ByteArray.size ((nth eS [eS, z_begin, z_do, z_commit, z_abort] r.1) ++ z___1)) + (ByteArray.size r2)) then
      k0 (((nth eS [eS, z_begin, z_do, z_commit, z_abort] r.1) ++ z___1) ++ r2)
     else none
    else none
   else none)
def xspec_RecText_p0 : Node Unit := fun σ k => rdN σ 27 <| rdT σ 1 (.ptr ⟨true, 1, []⟩) <| rdB σ 1 y19 [.S, .S, .S, .S] fun a r => spec_RecText_p0 r (fun (out : ByteArray) => k .normal (mkS 27 27 [(1, .ptr ⟨true, 1, []⟩), (3, .val ⟨.str, false, out, []⟩)] [(1, ⟨y19, a, r, [.S, .S, .S, .S]⟩)]))
theorem espec_RecText_p0 (a : Bool) (r : Int × Int × Int × ByteArray × qW × qW × Int × ByteArray × qE × List ByteArray × ByteArray × ByteArray) (k : Kont Unit) : codeC g_spec_RecText [] .o (Code.pl (Code.pr (Code.pr c_spec_RecText))) (mkS 27 27 [(1, .ptr ⟨true, 1, []⟩)] [(1, ⟨y19, a, r, [.S, .S, .S, .S]⟩)]) (fun e σ => k e ((cutC ([1, 3], [1]) [] ([], [])) e σ)) = spec_RecText_p0 r (fun (out : ByteArray) => k .normal (mkS 27 27 [(1, .ptr ⟨true, 1, []⟩), (3, .val ⟨.str, false, out, []⟩)] [(1, ⟨y19, a, r, [.S, .S, .S, .S]⟩)])) := by kernel_rfl
theorem ospec_RecText_p0 {W0 : Base} {M : Nat → Prop} (hnp : W0.np ≤ 0) : CodeOk Try.prog W0 M (Code.pl (Code.pr (Code.pr c_spec_RecText))) xspec_RecText_p0 := node_ok (code_sound follows tysOk (calls_ok (fns_cons S_spec_RecOk (fns_cons S_spec_NumText (fns_cons S_spec_StmtText fns_nil)))) hnp [] ((Code.pl (Code.pr (Code.pr c_spec_RecText)))) .o trivial) (fg := (cutC ([1, 3], [1]) [] ([], []))) (cutC_le _ _ _) (by
 intro σ k r h
 obtain ⟨hn, h1⟩ := rdN_some h
 obtain ⟨hs1, h2⟩ := rdT_some h1
 obtain ⟨a, r, hb1, h3⟩ := rdB_some h2
 refine ⟨_, ?_, (espec_RecText_p0 a r k).trans h3⟩
 exact mkS_le hn ⟨hs1, trivial⟩ ⟨hb1, trivial⟩)
def spec_RecText (r : Int × Int × Int × ByteArray × qW × qW × Int × ByteArray × qE × List ByteArray × ByteArray × ByteArray) (k0 : ByteArray → Res) : Res :=
 spec_RecOk r fun (r1 : Bool) =>
  bif !r1 then
   k0 eS
  else
   spec_RecText_p0 r fun (out : ByteArray) =>
    bif (r.1 == 2) then
     bif lim ((ByteArray.size out) + 1) then
      spec_StmtText r.2.2 fun (r2 : ByteArray) =>
       bif lim ((ByteArray.size (out ++ z___1)) + (ByteArray.size r2)) then
        k0 ((out ++ z___1) ++ r2)
       else none
     else none
    else
     k0 out
def s_spec_RecText : Sig Unit := ⟨[.look y19 true], [false], fun vals ext k => av vals y19 fun r vals => nl vals <| nl ext <| spec_RecText r (fun (r0 : ByteArray) => k [⟨.str, false, r0, []⟩] [] [])⟩
theorem E_spec_RecText (r : Int × Int × Int × ByteArray × qW × qW × Int × ByteArray × qE × List ByteArray × ByteArray × ByteArray) (a_r : Bool) (t_r : List Tag) (k : qK) : funC g_spec_RecText [xspec_RecText_p0] (.t .o (.t .o (.t (.x 0) .o))) false Try.f40 [.look y19 true] [false] [⟨y19, a_r, r, t_r⟩] [] k = spec_RecText r (fun (r0 : ByteArray) => k [⟨.str, false, r0, []⟩] [] []) := by kernel_rfl
theorem S_spec_RecText : Sound Try.prog 40 s_spec_RecText := sound_of (Γ := g_spec_RecText) (X := [xspec_RecText_p0]) (ht := (.t .o (.t .o (.t (.x 0) .o)))) (fz := false) (c := c_spec_RecText) follows tysOk (fns_cons S_spec_RecOk (fns_cons S_spec_NumText (fns_cons S_spec_StmtText fns_nil))) (OrOk.mk trivial ((OrOk.mk trivial ((OrOk.mk (OrOk.x_mk (fun W0 M hnp => ospec_RecText_p0 (W0 := W0) (M := M) hnp)) trivial))))) Try.func40 (by kernel_rfl) (by kernel_rfl) (by decide) (by
 intro vals ext k r h
 obtain ⟨r, a_r, t_r, vals, rfl, h1⟩ := av_some h
 obtain ⟨rfl, h2⟩ := nl_some h1
 obtain ⟨rfl, h3⟩ := nl_some h2
 exact (E_spec_RecText r a_r t_r k).trans h3)

/-! ### 48 loop.example/g00462/impl.isNoStmt -/
def c_impl_isNoStmt : Code := (Try.f48.body).getD .skip
def g_impl_isNoStmt : Env Unit := ⟨tys, [(105, s_impl_equalDdl)], 0⟩
def impl_isNoStmt (s : Int × ByteArray × qW × qW × Int × ByteArray × qE × List ByteArray × ByteArray × ByteArray) (k0 : Bool → Res) : Res :=
 bif (s.1 == 0) then
  bif sEq s.2.1 eS then
   bif ((nI (List.length s.2.2.1)) == 0) then
    bif ((nI (List.length s.2.2.2.1)) == 0) then
     impl_equalDdl s.2.2.2.2 (0, eS, [], [], eS, eS) fun (r : Bool) =>
      k0 r
    else
     k0 false
   else
    k0 false
  else
   k0 false
 else
  k0 false
def s_impl_isNoStmt : Sig Unit := ⟨[.look y17 true], [false], fun vals ext k => av vals y17 fun s vals => nl vals <| nl ext <| impl_isNoStmt s (fun (r0 : Bool) => k [⟨.bool, false, r0, []⟩] [] [])⟩
theorem E_impl_isNoStmt (s : Int × ByteArray × qW × qW × Int × ByteArray × qE × List ByteArray × ByteArray × ByteArray) (a_s : Bool) (t_s : List Tag) (k : qK) : funC g_impl_isNoStmt [] .o false Try.f48 [.look y17 true] [false] [⟨y17, a_s, s, t_s⟩] [] k = impl_isNoStmt s (fun (r0 : Bool) => k [⟨.bool, false, r0, []⟩] [] []) := by kernel_rfl
theorem S_impl_isNoStmt : Sound Try.prog 48 s_impl_isNoStmt := sound_of (Γ := g_impl_isNoStmt) (X := []) (ht := .o) (fz := false) (c := c_impl_isNoStmt) follows tysOk (fns_cons S_impl_equalDdl fns_nil) trivial Try.func48 (by kernel_rfl) (by kernel_rfl) (by decide) (by
 intro vals ext k r h
 obtain ⟨s, a_s, t_s, vals, rfl, h1⟩ := av_some h
 obtain ⟨rfl, h2⟩ := nl_some h1
 obtain ⟨rfl, h3⟩ := nl_some h2
 exact (E_impl_isNoStmt s a_s t_s k).trans h3)

/-! ### 102 loop.example/g00462/impl.RecOk -/
def c_impl_RecOk : Code := (Try.f102.body).getD .skip
def g_impl_RecOk : Env Unit := ⟨tys, [(48, s_impl_isNoStmt), (104, s_impl_within), (114, s_impl_StmtOk)], 0⟩
def impl_RecOk (r : Int × Int × Int × ByteArray × qW × qW × Int × ByteArray × qE × List ByteArray × ByteArray × ByteArray) (k0 : Bool → Res) : Res :=
 impl_within r.1 1 4 fun (r1 : Bool) =>
  bif !r1 then
   k0 false
  else
   impl_within r.2.1 1 1000000 fun (r2 : Bool) =>
    bif !r2 then
     k0 false
    else
     bif (r.1 == 2) then
      impl_StmtOk r.2.2 fun (r3 : Bool) =>
       k0 r3
     else
      impl_isNoStmt r.2.2 fun (r4 : Bool) =>
       k0 r4
def s_impl_RecOk : Sig Unit := ⟨[.look y19 true], [false], fun vals ext k => av vals y19 fun r vals => nl vals <| nl ext <| impl_RecOk r (fun (r0 : Bool) => k [⟨.bool, false, r0, []⟩] [] [])⟩
theorem E_impl_RecOk (r : Int × Int × Int × ByteArray × qW × qW × Int × ByteArray × qE × List ByteArray × ByteArray × ByteArray) (a_r : Bool) (t_r : List Tag) (k : qK) : funC g_impl_RecOk [] .o false Try.f102 [.look y19 true] [false] [⟨y19, a_r, r, t_r⟩] [] k = impl_RecOk r (fun (r0 : Bool) => k [⟨.bool, false, r0, []⟩] [] []) := by kernel_rfl
theorem S_impl_RecOk : Sound Try.prog 102 s_impl_RecOk := sound_of (Γ := g_impl_RecOk) (X := []) (ht := .o) (fz := false) (c := c_impl_RecOk) follows tysOk (fns_cons S_impl_isNoStmt (fns_cons S_impl_within (fns_cons S_impl_StmtOk fns_nil))) trivial Try.func102 (by kernel_rfl) (by kernel_rfl) (by decide) (by
 intro vals ext k r h
 obtain ⟨r, a_r, t_r, vals, rfl, h1⟩ := av_some h
 obtain ⟨rfl, h2⟩ := nl_some h1
 obtain ⟨rfl, h3⟩ := nl_some h2
 exact (E_impl_RecOk r a_r t_r k).trans h3)

/-! ### 46 loop.example/g00462/impl.RecText -/
def c_impl_RecText : Code := (Try.f46.body).getD .skip
def g_impl_RecText : Env Unit := ⟨tys, [(49, (s_impl_NumText impl_NumText)), (102, s_impl_RecOk), (103, s_impl_StmtText)], 0⟩
def impl_RecText_p0 (r : Int × Int × Int × ByteArray × qW × qW × Int × ByteArray × qE × List ByteArray × ByteArray × ByteArray) (k0 : ByteArray → Res) : Res :=
 both
  (bif inb (wi64 (r.1 - 1)) 4 then
   bif lim ((ByteArray.size (nth eS [z_begin, z_do, z_commit, z_abort] (wi64 (r.1 - 1)))) + 1) then
    impl_NumText r.2.1 fun (r1 : ByteArray) =>
     bif lim ((ByteArray.size ((nth eS [z_begin, z_do, z_commit, z_abort] (wi64 (r.1 - 1))) ++ z___1)) + (ByteArray.size r1)) then
      k0 (((nth eS [z_begin, z_do, z_commit, z_abort] (wi64 (r.1 - 1))) ++ z___1) ++ r1)
     else none
   else none
  else none)
  (impl_NumText r.2.1 fun (r2 : ByteArray) =>
   bif inb (wi64 (r.1 - 1)) 4 then
    bif lim ((ByteArray.size (nth eS [z_begin, z_do, z_commit, z_abort] (wi64 (r.1 - 1)))) + 1) then
     bif lim ((ByteArray.size ((nth eS [z_begin, z_do, z_commit, z_abort] (wi64 (r.1 - 1))) ++ z___1)) + (ByteArray.size r2)) then
      k0 (((nth eS [z_begin, z_do, z_commit, z_abort] (wi64 (r.1 - 1))) ++ z___1) ++ r2)
     else none
    else none
   else none)
def ximpl_RecText_p0 : Node Unit := fun σ k => rdN σ 28 <| rdT σ 1 (.ptr ⟨true, 1, []⟩) <| rdB σ 1 y19 [.S, .S, .S, .S] fun a r => impl_RecText_p0 r (fun (s : ByteArray) => k .normal (mkS 28 28 [(1, .ptr ⟨true, 1, []⟩), (3, .val ⟨.str, false, s, []⟩)] [(1, ⟨y19, a, r, [.S, .S, .S, .S]⟩)]))
theorem eimpl_RecText_p0 (a : Bool) (r : Int × Int × Int × ByteArray × qW × qW × Int × ByteArray × qE × List ByteArray × ByteArray × ByteArray) (k : Kont Unit) : codeC g_impl_RecText [] .o (Code.pl (Code.pr (Code.pr c_impl_RecText))) (mkS 28 28 [(1, .ptr ⟨true, 1, []⟩)] [(1, ⟨y19, a, r, [.S, .S, .S, .S]⟩)]) (fun e σ => k e ((cutC ([1, 3], [1]) [] ([], [])) e σ)) = impl_RecText_p0 r (fun (s : ByteArray) => k .normal (mkS 28 28 [(1, .ptr ⟨true, 1, []⟩), (3, .val ⟨.str, false, s, []⟩)] [(1, ⟨y19, a, r, [.S, .S, .S, .S]⟩)])) := by kernel_rfl
theorem oimpl_RecText_p0 {W0 : Base} {M : Nat → Prop} (hnp : W0.np ≤ 0) : CodeOk Try.prog W0 M (Code.pl (Code.pr (Code.pr c_impl_RecText))) ximpl_RecText_p0 := node_ok (code_sound follows tysOk (calls_ok (fns_cons S_impl_NumText (fns_cons S_impl_RecOk (fns_cons S_impl_StmtText fns_nil)))) hnp [] ((Code.pl (Code.pr (Code.pr c_impl_RecText)))) .o trivial) (fg := (cutC ([1, 3], [1]) [] ([], []))) (cutC_le _ _ _) (by
 intro σ k r h
 obtain ⟨hn, h1⟩ := rdN_some h
 obtain ⟨hs1, h2⟩ := rdT_some h1
 obtain ⟨a, r, hb1, h3⟩ := rdB_some h2
 refine ⟨_, ?_, (eimpl_RecText_p0 a r k).trans h3⟩
 exact mkS_le hn ⟨hs1, trivial⟩ ⟨hb1, trivial⟩)
def impl_RecText (r : Int × Int × Int × ByteArray × qW × qW × Int × ByteArray × qE × List ByteArray × ByteArray × ByteArray) (k0 : ByteArray → Res) : Res :=
 impl_RecOk r fun (r1 : Bool) =>
  bif !r1 then
   k0 eS
  else
   impl_RecText_p0 r fun (s : ByteArray) =>
    bif (r.1 == 2) then
     bif lim ((ByteArray.size s) + 1) then
      impl_StmtText r.2.2 fun (r2 : ByteArray) =>
       bif lim ((ByteArray.size (s ++ z___1)) + (ByteArray.size r2)) then
        k0 ((s ++ z___1) ++ r2)
       else none
     else none
    else
     k0 s
def s_impl_RecText : Sig Unit := ⟨[.look y19 true], [false], fun vals ext k => av vals y19 fun r vals => nl vals <| nl ext <| impl_RecText r (fun (r0 : ByteArray) => k [⟨.str, false, r0, []⟩] [] [])⟩
theorem E_impl_RecText (r : Int × Int × Int × ByteArray × qW × qW × Int × ByteArray × qE × List ByteArray × ByteArray × ByteArray) (a_r : Bool) (t_r : List Tag) (k : qK) : funC g_impl_RecText [ximpl_RecText_p0] (.t .o (.t .o (.t (.x 0) .o))) false Try.f46 [.look y19 true] [false] [⟨y19, a_r, r, t_r⟩] [] k = impl_RecText r (fun (r0 : ByteArray) => k [⟨.str, false, r0, []⟩] [] []) := by kernel_rfl
theorem S_impl_RecText : Sound Try.prog 46 s_impl_RecText := sound_of (Γ := g_impl_RecText) (X := [ximpl_RecText_p0]) (ht := (.t .o (.t .o (.t (.x 0) .o)))) (fz := false) (c := c_impl_RecText) follows tysOk (fns_cons S_impl_NumText (fns_cons S_impl_RecOk (fns_cons S_impl_StmtText fns_nil))) (OrOk.mk trivial ((OrOk.mk trivial ((OrOk.mk (OrOk.x_mk (fun W0 M hnp => oimpl_RecText_p0 (W0 := W0) (M := M) hnp)) trivial))))) Try.func46 (by kernel_rfl) (by kernel_rfl) (by decide) (by
 intro vals ext k r h
 obtain ⟨r, a_r, t_r, vals, rfl, h1⟩ := av_some h
 obtain ⟨rfl, h2⟩ := nl_some h1
 obtain ⟨rfl, h3⟩ := nl_some h2
 exact (E_impl_RecText r a_r t_r k).trans h3)
end Go.PI.G
end
