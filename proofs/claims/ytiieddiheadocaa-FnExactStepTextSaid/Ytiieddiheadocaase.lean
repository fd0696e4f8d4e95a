/-
  Printed texts and plain laws. No conditions.
-/
import Derived.Test.Ytiieddiheadocaasa
import Derived.Test.Ytiieddiheadocaasc
import Derived.Test.Ytiieddiheadocaasd
set_option linter.unusedVariables false
set_option maxRecDepth 100000
noncomputable section
namespace Go.PI.G
open Go Go.PI Go.Proofs

/-! ### 141 loop.example/g00462/spec.l05Vals -/
def c_spec_l05Vals : Code := (Try.f141.body).getD .skip
def g_spec_l05Vals : Env Unit := ⟨tys, [(180, s_spec_ValText)], 0⟩
def spec_l05Vals_l0_r (t7 : List qV) (t8 : Int) (out : List ByteArray) (t9 : Int) (rec : (List ByteArray) → Int → Res) (k0 : (List ByteArray) → Res) : Res :=
 bif decide (t9 < t8) then
  bif inb t9 (List.length t7) then
   spec_ValText (nth (0, 0, eS) t7 t9) fun (r : ByteArray) =>
    bif lim ((List.length out) + 1) then
     rec (out ++ [r]) (wi64 (t9 + 1))
    else none
  else none
 else
  k0 out
def spec_l05Vals_l0_s (t7 : List qV) (t8 : Int) : ((List ByteArray) × Int) → ((List ByteArray) × Int → Res) → (((List ByteArray) → Res)) → Res := fun v rec q => spec_l05Vals_l0_r t7 t8 v.1 v.2 (fun out t9 => rec (out, t9)) q
def spec_l05Vals_l0 (t7 : List qV) (t8 : Int) (n : Nat) (out : List ByteArray) (t9 : Int) (k0 : (List ByteArray) → Res) : Res := iter (spec_l05Vals_l0_s t7 t8) n (out, t9) (k0)
def xspec_l05Vals_l0 : Node Unit := fun σ k => rdN σ 20 <| rdV σ 3 y8 false [.O] fun out => rdV σ 7 y2 false [.S] fun t7 => rdV σ 8 (.int .i64) false [] fun t8 => rdV σ 9 (.int .i64) false [] fun t9 => spec_l05Vals_l0 t7 t8 FUEL out t9 (fun (out1 : List ByteArray) => k (.exit 0) (mkS 20 20 [(3, .val ⟨y8, false, out1, [.O]⟩)] []))
theorem espec_l05Vals_l0 (t7 : List qV) (t8 : Int) (n : Nat) (v : (List ByteArray) × Int) (k : Kont Unit) : loopC (codeC g_spec_l05Vals [] .o (Code.pl (Code.pl (Code.pr (Code.pl (Code.pr (Code.pr c_spec_l05Vals))))))) (fun σ => σ.forget [3, 7, 8, 9] []) (cutC ([], []) [(0, [3], [])] ([], [])) n (mkS 20 20 [(3, .val ⟨y8, false, v.1, [.O]⟩), (7, .val ⟨y2, false, t7, [.S]⟩), (8, .val ⟨(.int .i64), false, t8, []⟩), (9, .val ⟨(.int .i64), false, v.2, []⟩)] []) k = iter (spec_l05Vals_l0_s t7 t8) n v ((fun (k : Kont Unit) => (((fun (out1 : List ByteArray) => k (.exit 0) (mkS 20 20 [(3, .val ⟨y8, false, out1, [.O]⟩)] []))) : ((List ByteArray) → Res))) k) := loop_eq (fun v : (List ByteArray) × Int => (mkS 20 20 [(3, .val ⟨y8, false, v.1, [.O]⟩), (7, .val ⟨y2, false, t7, [.S]⟩), (8, .val ⟨(.int .i64), false, t8, []⟩), (9, .val ⟨(.int .i64), false, v.2, []⟩)] [])) (spec_l05Vals_l0_s t7 t8) (fun (k : Kont Unit) => (((fun (out1 : List ByteArray) => k (.exit 0) (mkS 20 20 [(3, .val ⟨y8, false, out1, [.O]⟩)] []))) : ((List ByteArray) → Res))) (fun v rec k => by kernel_rfl) n v k
theorem ospec_l05Vals_l0 {W0 : Base} {M : Nat → Prop} (hnp : W0.np ≤ 0) : CodeOk Try.prog W0 M (Code.pl (Code.pr (Code.pl (Code.pr (Code.pr c_spec_l05Vals))))) xspec_l05Vals_l0 := show CodeOk Try.prog W0 M (Code.loop (Code.pl (Code.pl (Code.pr (Code.pl (Code.pr (Code.pr c_spec_l05Vals))))))) xspec_l05Vals_l0 from loop_ok (code_sound follows tysOk (calls_ok (fns_cons S_spec_ValText fns_nil)) hnp [] (Code.pl (Code.pl (Code.pr (Code.pl (Code.pr (Code.pr c_spec_l05Vals)))))) .o trivial) (ks := [3, 7, 8, 9]) (bs := []) (fX := (cutC ([], []) [(0, [3], [])] ([], []))) (cutC_le _ _ _) FUEL (by
 intro σ k r h
 obtain ⟨hn, h1⟩ := rdN_some h
 obtain ⟨out, hs3, h2⟩ := rdV_some h1
 obtain ⟨t7, hs7, h3⟩ := rdV_some h2
 obtain ⟨t8, hs8, h4⟩ := rdV_some h3
 obtain ⟨t9, hs9, h5⟩ := rdV_some h4
 refine ⟨_, ?_, (espec_l05Vals_l0 t7 t8 FUEL (out, t9) k).trans h5⟩
 exact mkS_le hn ⟨hs3, hs7, hs8, hs9, trivial⟩ trivial)
def spec_l05Vals (l : List qV) (k0 : (List ByteArray) → Res) : Res :=
 spec_l05Vals_l0 l (nI (List.length l)) FUEL [] 0 fun (out : List ByteArray) =>
  k0 out
def s_spec_l05Vals : Sig Unit := ⟨[.borrow y2 false], [false], fun vals ext k => av vals y2 fun l vals => nl vals <| nl ext <| spec_l05Vals l (fun (r0 : List ByteArray) => k [⟨y8, false, r0, [.O]⟩] [] [])⟩
theorem E_spec_l05Vals (l : List qV) (a_l : Bool) (t_l : List Tag) (k : qK) : funC g_spec_l05Vals [xspec_l05Vals_l0] (.t .o (.t .o (.t (.t .o (.t (.x 0) .o)) .o))) false Try.f141 [.borrow y2 false] [false] [⟨y2, a_l, l, t_l⟩] [] k = spec_l05Vals l (fun (r0 : List ByteArray) => k [⟨y8, false, r0, [.O]⟩] [] []) := by kernel_rfl
theorem S_spec_l05Vals : Sound Try.prog 141 s_spec_l05Vals := sound_of (Γ := g_spec_l05Vals) (X := [xspec_l05Vals_l0]) (ht := (.t .o (.t .o (.t (.t .o (.t (.x 0) .o)) .o)))) (fz := false) (c := c_spec_l05Vals) follows tysOk (fns_cons S_spec_ValText fns_nil) (OrOk.mk trivial ((OrOk.mk trivial ((OrOk.mk ((OrOk.mk trivial ((OrOk.mk (OrOk.x_mk (fun W0 M hnp => ospec_l05Vals_l0 (W0 := W0) (M := M) hnp)) trivial)))) trivial))))) Try.func141 (by kernel_rfl) (by kernel_rfl) (by decide) (by
 intro vals ext k r h
 obtain ⟨l, a_l, t_l, vals, rfl, h1⟩ := av_some h
 obtain ⟨rfl, h2⟩ := nl_some h1
 obtain ⟨rfl, h3⟩ := nl_some h2
 exact (E_spec_l05Vals l a_l t_l k).trans h3)

/-! ### 140 loop.example/g00462/spec.l05Join -/
def c_spec_l05Join : Code := (Try.f140.body).getD .skip
def g_spec_l05Join : Env Unit := ⟨tys, [], 0⟩
def spec_l05Join_l0_r (t6 : List ByteArray) (t7 : Int) (out : ByteArray) (t8 : Int) (rec : ByteArray → Int → Res) (k0 : ByteArray → Res) : Res :=
 bif decide (t8 < t7) then
  bif inb t8 (List.length t6) then
   bif decide (t8 > 0) then
    bif lim ((ByteArray.size out) + 1) then
     bif lim ((ByteArray.size (out ++ z___1)) + (ByteArray.size (nth eS t6 t8))) then
      rec ((out ++ z___1) ++ (nth eS t6 t8)) (wi64 (t8 + 1))
     else none
    else none
   else
    bif lim ((ByteArray.size out) + (ByteArray.size (nth eS t6 t8))) then
     rec (out ++ (nth eS t6 t8)) (wi64 (t8 + 1))
    else none
  else none
 else
  k0 out
def spec_l05Join_l0_s (t6 : List ByteArray) (t7 : Int) : (ByteArray × Int) → (ByteArray × Int → Res) → ((ByteArray → Res)) → Res := fun v rec q => spec_l05Join_l0_r t6 t7 v.1 v.2 (fun out t8 => rec (out, t8)) q
def spec_l05Join_l0 (t6 : List ByteArray) (t7 : Int) (n : Nat) (out : ByteArray) (t8 : Int) (k0 : ByteArray → Res) : Res := iter (spec_l05Join_l0_s t6 t7) n (out, t8) (k0)
def xspec_l05Join_l0 : Node Unit := fun σ k => rdN σ 22 <| rdV σ 3 .str false [] fun out => rdV σ 6 y8 false [.S] fun t6 => rdV σ 7 (.int .i64) false [] fun t7 => rdV σ 8 (.int .i64) false [] fun t8 => spec_l05Join_l0 t6 t7 FUEL out t8 (fun (out1 : ByteArray) => k (.exit 0) (mkS 22 22 [(3, .val ⟨.str, false, out1, []⟩)] []))
theorem espec_l05Join_l0 (t6 : List ByteArray) (t7 : Int) (n : Nat) (v : ByteArray × Int) (k : Kont Unit) : loopC (codeC g_spec_l05Join [] .o (Code.pl (Code.pl (Code.pr (Code.pl (Code.pr (Code.pr c_spec_l05Join))))))) (fun σ => σ.forget [3, 6, 7, 8] []) (cutC ([], []) [(0, [3], [])] ([], [])) n (mkS 22 22 [(3, .val ⟨.str, false, v.1, []⟩), (6, .val ⟨y8, false, t6, [.S]⟩), (7, .val ⟨(.int .i64), false, t7, []⟩), (8, .val ⟨(.int .i64), false, v.2, []⟩)] []) k = iter (spec_l05Join_l0_s t6 t7) n v ((fun (k : Kont Unit) => (((fun (out1 : ByteArray) => k (.exit 0) (mkS 22 22 [(3, .val ⟨.str, false, out1, []⟩)] []))) : (ByteArray → Res))) k) := loop_eq (fun v : ByteArray × Int => (mkS 22 22 [(3, .val ⟨.str, false, v.1, []⟩), (6, .val ⟨y8, false, t6, [.S]⟩), (7, .val ⟨(.int .i64), false, t7, []⟩), (8, .val ⟨(.int .i64), false, v.2, []⟩)] [])) (spec_l05Join_l0_s t6 t7) (fun (k : Kont Unit) => (((fun (out1 : ByteArray) => k (.exit 0) (mkS 22 22 [(3, .val ⟨.str, false, out1, []⟩)] []))) : (ByteArray → Res))) (fun v rec k => by kernel_rfl) n v k
theorem ospec_l05Join_l0 {W0 : Base} {M : Nat → Prop} (hnp : W0.np ≤ 0) : CodeOk Try.prog W0 M (Code.pl (Code.pr (Code.pl (Code.pr (Code.pr c_spec_l05Join))))) xspec_l05Join_l0 := show CodeOk Try.prog W0 M (Code.loop (Code.pl (Code.pl (Code.pr (Code.pl (Code.pr (Code.pr c_spec_l05Join))))))) xspec_l05Join_l0 from loop_ok (code_sound follows tysOk (calls_ok fns_nil) hnp [] (Code.pl (Code.pl (Code.pr (Code.pl (Code.pr (Code.pr c_spec_l05Join)))))) .o trivial) (ks := [3, 6, 7, 8]) (bs := []) (fX := (cutC ([], []) [(0, [3], [])] ([], []))) (cutC_le _ _ _) FUEL (by
 intro σ k r h
 obtain ⟨hn, h1⟩ := rdN_some h
 obtain ⟨out, hs3, h2⟩ := rdV_some h1
 obtain ⟨t6, hs6, h3⟩ := rdV_some h2
 obtain ⟨t7, hs7, h4⟩ := rdV_some h3
 obtain ⟨t8, hs8, h5⟩ := rdV_some h4
 refine ⟨_, ?_, (espec_l05Join_l0 t6 t7 FUEL (out, t8) k).trans h5⟩
 exact mkS_le hn ⟨hs3, hs6, hs7, hs8, trivial⟩ trivial)
def spec_l05Join (l : List ByteArray) (k0 : ByteArray → Res) : Res :=
 spec_l05Join_l0 l (nI (List.length l)) FUEL eS 0 fun (out : ByteArray) =>
  k0 out
def s_spec_l05Join : Sig Unit := ⟨[.look y8 false], [false], fun vals ext k => av vals y8 fun l vals => nl vals <| nl ext <| spec_l05Join l (fun (r0 : ByteArray) => k [⟨.str, false, r0, []⟩] [] [])⟩
theorem E_spec_l05Join (l : List ByteArray) (a_l : Bool) (t_l : List Tag) (k : qK) : funC g_spec_l05Join [xspec_l05Join_l0] (.t .o (.t .o (.t (.t .o (.t (.x 0) .o)) .o))) false Try.f140 [.look y8 false] [false] [⟨y8, a_l, l, t_l⟩] [] k = spec_l05Join l (fun (r0 : ByteArray) => k [⟨.str, false, r0, []⟩] [] []) := by kernel_rfl
theorem S_spec_l05Join : Sound Try.prog 140 s_spec_l05Join := sound_of (Γ := g_spec_l05Join) (X := [xspec_l05Join_l0]) (ht := (.t .o (.t .o (.t (.t .o (.t (.x 0) .o)) .o)))) (fz := false) (c := c_spec_l05Join) follows tysOk fns_nil (OrOk.mk trivial ((OrOk.mk trivial ((OrOk.mk ((OrOk.mk trivial ((OrOk.mk (OrOk.x_mk (fun W0 M hnp => ospec_l05Join_l0 (W0 := W0) (M := M) hnp)) trivial)))) trivial))))) Try.func140 (by kernel_rfl) (by kernel_rfl) (by decide) (by
 intro vals ext k r h
 obtain ⟨l, a_l, t_l, vals, rfl, h1⟩ := av_some h
 obtain ⟨rfl, h2⟩ := nl_some h1
 obtain ⟨rfl, h3⟩ := nl_some h2
 exact (E_spec_l05Join l a_l t_l k).trans h3)

/-! ### 218 loop.example/g00462/spec.l05Types -/
def c_spec_l05Types : Code := (Try.f218.body).getD .skip
def g_spec_l05Types : Env Unit := ⟨tys, [], 0⟩
def spec_l05Types (k0 : (List ByteArray) → Res) : Res :=
 k0 [eS, z_bool, z_int, z_text]
def s_spec_l05Types : Sig Unit := ⟨[], [false], fun vals ext k => nl vals <| nl ext <| spec_l05Types (fun (r0 : List ByteArray) => k [⟨y8, false, r0, [.O]⟩] [] [])⟩
theorem E_spec_l05Types  (k : qK) : funC g_spec_l05Types [] .o false Try.f218 [] [false] [] [] k = spec_l05Types (fun (r0 : List ByteArray) => k [⟨y8, false, r0, [.O]⟩] [] []) := by kernel_rfl
theorem S_spec_l05Types : Sound Try.prog 218 s_spec_l05Types := sound_of (Γ := g_spec_l05Types) (X := []) (ht := .o) (fz := false) (c := c_spec_l05Types) follows tysOk fns_nil trivial Try.func218 (by kernel_rfl) (by kernel_rfl) (by decide) (by
 intro vals ext k r h
 obtain ⟨rfl, h1⟩ := nl_some h
 obtain ⟨rfl, h2⟩ := nl_some h1
 exact (E_spec_l05Types  k).trans h2)

/-! ### 207 loop.example/g00462/spec.l05Col -/
def c_spec_l05Col : Code := (Try.f207.body).getD .skip
def g_spec_l05Col : Env Unit := ⟨tys, [(180, s_spec_ValText), (218, s_spec_l05Types)], 0⟩
def spec_l05Col_p0 (out : List ByteArray) (t13 : Bool) (k0 : (List ByteArray) → Res) : Res :=
 bif t13 then
  bif lim ((List.length out) + 1) then
   k0 (out ++ [z_not])
  else none
 else
  k0 out
def xspec_l05Col_p0 : Node Unit := fun σ k => rdN σ 27 <| rdT σ 1 (.ptr ⟨true, 1, []⟩) <| rdV σ 3 y8 false [.O] fun out => rdV σ 13 .bool false [] fun t13 => rdB σ 1 y6 [] fun a c => spec_l05Col_p0 out t13 (fun (out1 : List ByteArray) => k .normal (mkS 27 27 [(1, .ptr ⟨true, 1, []⟩), (3, .val ⟨y8, false, out1, [.O]⟩)] [(1, ⟨y6, a, c, []⟩)]))
theorem espec_l05Col_p0 (out : List ByteArray) (t13 : Bool) (a : Bool) (c : ByteArray × Int × Bool × Bool × Int × Int × ByteArray) (k : Kont Unit) : codeC g_spec_l05Col [] .o (Code.pr (Code.pl (Code.pr (Code.pr c_spec_l05Col)))) (mkS 27 27 [(1, .ptr ⟨true, 1, []⟩), (3, .val ⟨y8, false, out, [.O]⟩), (13, .val ⟨.bool, false, t13, []⟩)] [(1, ⟨y6, a, c, []⟩)]) (fun e σ => k e ((cutC ([1, 3], [1]) [] ([], [])) e σ)) = spec_l05Col_p0 out t13 (fun (out1 : List ByteArray) => k .normal (mkS 27 27 [(1, .ptr ⟨true, 1, []⟩), (3, .val ⟨y8, false, out1, [.O]⟩)] [(1, ⟨y6, a, c, []⟩)])) := by kernel_rfl
theorem ospec_l05Col_p0 {W0 : Base} {M : Nat → Prop} (hnp : W0.np ≤ 0) : CodeOk Try.prog W0 M (Code.pr (Code.pl (Code.pr (Code.pr c_spec_l05Col)))) xspec_l05Col_p0 := node_ok (code_sound follows tysOk (calls_ok (fns_cons S_spec_ValText (fns_cons S_spec_l05Types fns_nil))) hnp [] ((Code.pr (Code.pl (Code.pr (Code.pr c_spec_l05Col))))) .o trivial) (fg := (cutC ([1, 3], [1]) [] ([], []))) (cutC_le _ _ _) (by
 intro σ k r h
 obtain ⟨hn, h1⟩ := rdN_some h
 obtain ⟨hs1, h2⟩ := rdT_some h1
 obtain ⟨out, hs3, h3⟩ := rdV_some h2
 obtain ⟨t13, hs13, h4⟩ := rdV_some h3
 obtain ⟨a, c, hb1, h5⟩ := rdB_some h4
 refine ⟨_, ?_, (espec_l05Col_p0 out t13 a c k).trans h5⟩
 exact mkS_le hn ⟨hs1, hs3, hs13, trivial⟩ ⟨hb1, trivial⟩)
def spec_l05Col (c : ByteArray × Int × Bool × Bool × Int × Int × ByteArray) (k0 : (List ByteArray) → Res) : Res :=
 spec_l05Types fun (r : List ByteArray) =>
  bif inb c.2.1 (List.length r) then
   spec_l05Col_p0 [c.1, nth eS r c.2.1] c.2.2.1 fun (out : List ByteArray) =>
    bif c.2.2.2.1 then
     spec_ValText c.2.2.2.2 fun (r1 : ByteArray) =>
      bif lim (1 + (ByteArray.size r1)) then
       bif lim ((List.length out) + 1) then
        k0 (out ++ [(z___2 ++ r1)])
       else none
      else none
    else
     k0 out
  else none
def s_spec_l05Col : Sig Unit := ⟨[.borrow y6 true], [false], fun vals ext k => av vals y6 fun c vals => nl vals <| nl ext <| spec_l05Col c (fun (r0 : List ByteArray) => k [⟨y8, false, r0, [.O]⟩] [] [])⟩
theorem E_spec_l05Col (c : ByteArray × Int × Bool × Bool × Int × Int × ByteArray) (a_c : Bool) (t_c : List Tag) (k : qK) : funC g_spec_l05Col [xspec_l05Col_p0] (.t .o (.t .o (.t (.t .o (.x 0)) .o))) false Try.f207 [.borrow y6 true] [false] [⟨y6, a_c, c, t_c⟩] [] k = spec_l05Col c (fun (r0 : List ByteArray) => k [⟨y8, false, r0, [.O]⟩] [] []) := by kernel_rfl
theorem S_spec_l05Col : Sound Try.prog 207 s_spec_l05Col := sound_of (Γ := g_spec_l05Col) (X := [xspec_l05Col_p0]) (ht := (.t .o (.t .o (.t (.t .o (.x 0)) .o)))) (fz := false) (c := c_spec_l05Col) follows tysOk (fns_cons S_spec_ValText (fns_cons S_spec_l05Types fns_nil)) (OrOk.mk trivial ((OrOk.mk trivial ((OrOk.mk ((OrOk.mk trivial (OrOk.x_mk (fun W0 M hnp => ospec_l05Col_p0 (W0 := W0) (M := M) hnp)))) trivial))))) Try.func207 (by kernel_rfl) (by kernel_rfl) (by decide) (by
 intro vals ext k r h
 obtain ⟨c, a_c, t_c, vals, rfl, h1⟩ := av_some h
 obtain ⟨rfl, h2⟩ := nl_some h1
 obtain ⟨rfl, h3⟩ := nl_some h2
 exact (E_spec_l05Col c a_c t_c k).trans h3)

/-! ### 181 loop.example/g00462/spec.l05Ddl -/
def c_spec_l05Ddl : Code := (Try.f181.body).getD .skip
def g_spec_l05Ddl : Env Unit := ⟨tys, [(207, s_spec_l05Col)], 0⟩
def spec_l05Ddl_l0_r (t19 : List qC) (t20 : Int) (out : List ByteArray) (t21 : Int) (rec : (List ByteArray) → Int → Res) (k0 : (List ByteArray) → Res) : Res :=
 bif decide (t21 < t20) then
  bif inb t21 (List.length t19) then
   both
    (both
     (bif lim ((List.length out) + 1) then
      both
       (spec_l05Col (nth (eS, 0, false, false, 0, 0, eS) t19 t21) fun (r : List ByteArray) =>
        both
         (bif lim ((List.length (out ++ [z___3])) + (List.length r)) then
          bif lim ((List.length ((out ++ [z___3]) ++ r)) + 1) then
           rec (((out ++ [z___3]) ++ r) ++ [z___4]) (wi64 (t21 + 1))
          else none
         else none)
         (bif lim ((List.length (out ++ [z___3])) + (List.length r)) then
          bif lim ((List.length ((out ++ [z___3]) ++ r)) + 1) then
           rec (((out ++ [z___3]) ++ r) ++ [z___4]) (wi64 (t21 + 1))
          else none
         else none))
       (spec_l05Col (nth (eS, 0, false, false, 0, 0, eS) t19 t21) fun (r1 : List ByteArray) =>
        bif lim ((List.length (out ++ [z___3])) + (List.length r1)) then
         bif lim ((List.length ((out ++ [z___3]) ++ r1)) + 1) then
          rec (((out ++ [z___3]) ++ r1) ++ [z___4]) (wi64 (t21 + 1))
         else none
        else none)
     else none)
     (bif lim ((List.length out) + 1) then
      spec_l05Col (nth (eS, 0, false, false, 0, 0, eS) t19 t21) fun (r2 : List ByteArray) =>
       bif lim ((List.length (out ++ [z___3])) + (List.length r2)) then
        bif lim ((List.length ((out ++ [z___3]) ++ r2)) + 1) then
         rec (((out ++ [z___3]) ++ r2) ++ [z___4]) (wi64 (t21 + 1))
        else none
       else none
     else none))
    (bif lim ((List.length out) + 1) then
     spec_l05Col (nth (eS, 0, false, false, 0, 0, eS) t19 t21) fun (r3 : List ByteArray) =>
      bif lim ((List.length (out ++ [z___3])) + (List.length r3)) then
       bif lim ((List.length ((out ++ [z___3]) ++ r3)) + 1) then
        rec (((out ++ [z___3]) ++ r3) ++ [z___4]) (wi64 (t21 + 1))
       else none
      else none
    else none)
  else none
 else
  k0 out
def spec_l05Ddl_l0_s (t19 : List qC) (t20 : Int) : ((List ByteArray) × Int) → ((List ByteArray) × Int → Res) → (((List ByteArray) → Res)) → Res := fun v rec q => spec_l05Ddl_l0_r t19 t20 v.1 v.2 (fun out t21 => rec (out, t21)) q
def spec_l05Ddl_l0 (t19 : List qC) (t20 : Int) (n : Nat) (out : List ByteArray) (t21 : Int) (k0 : (List ByteArray) → Res) : Res := iter (spec_l05Ddl_l0_s t19 t20) n (out, t21) (k0)
def xspec_l05Ddl_l0 : Node Unit := fun σ k => rdN σ 66 <| rdT σ 1 (.ptr ⟨true, 1, []⟩) <| rdV σ 3 y8 false [.O] fun out => rdV σ 19 y7 false [.S] fun t19 => rdV σ 20 (.int .i64) false [] fun t20 => rdV σ 21 (.int .i64) false [] fun t21 => rdB σ 1 y13 [.S, .S] fun a d => spec_l05Ddl_l0 t19 t20 FUEL out t21 (fun (out1 : List ByteArray) => k (.exit 1) (mkS 66 66 [(1, .ptr ⟨true, 1, []⟩), (3, .val ⟨y8, false, out1, [.O]⟩)] [(1, ⟨y13, a, d, [.S, .S]⟩)]))
theorem espec_l05Ddl_l0 (t19 : List qC) (t20 : Int) (a : Bool) (d : Int × ByteArray × qE × List ByteArray × ByteArray × ByteArray) (n : Nat) (v : (List ByteArray) × Int) (k : Kont Unit) : loopC (codeC g_spec_l05Ddl [] .o (Code.pl (Code.pl (Code.pr (Code.pl (Code.pl (Code.pr (Code.pl (Code.pr (Code.pl (Code.pr (Code.pr c_spec_l05Ddl)))))))))))) (fun σ => σ.forget [1, 3, 19, 20, 21] [1]) (cutC ([], []) [(1, [1, 3], [1])] ([], [])) n (mkS 66 66 [(1, .ptr ⟨true, 1, []⟩), (3, .val ⟨y8, false, v.1, [.O]⟩), (19, .val ⟨y7, false, t19, [.S]⟩), (20, .val ⟨(.int .i64), false, t20, []⟩), (21, .val ⟨(.int .i64), false, v.2, []⟩)] [(1, ⟨y13, a, d, [.S, .S]⟩)]) k = iter (spec_l05Ddl_l0_s t19 t20) n v ((fun (k : Kont Unit) => (((fun (out1 : List ByteArray) => k (.exit 1) (mkS 66 66 [(1, .ptr ⟨true, 1, []⟩), (3, .val ⟨y8, false, out1, [.O]⟩)] [(1, ⟨y13, a, d, [.S, .S]⟩)]))) : ((List ByteArray) → Res))) k) := loop_eq (fun v : (List ByteArray) × Int => (mkS 66 66 [(1, .ptr ⟨true, 1, []⟩), (3, .val ⟨y8, false, v.1, [.O]⟩), (19, .val ⟨y7, false, t19, [.S]⟩), (20, .val ⟨(.int .i64), false, t20, []⟩), (21, .val ⟨(.int .i64), false, v.2, []⟩)] [(1, ⟨y13, a, d, [.S, .S]⟩)])) (spec_l05Ddl_l0_s t19 t20) (fun (k : Kont Unit) => (((fun (out1 : List ByteArray) => k (.exit 1) (mkS 66 66 [(1, .ptr ⟨true, 1, []⟩), (3, .val ⟨y8, false, out1, [.O]⟩)] [(1, ⟨y13, a, d, [.S, .S]⟩)]))) : ((List ByteArray) → Res))) (fun v rec k => by kernel_rfl) n v k
theorem ospec_l05Ddl_l0 {W0 : Base} {M : Nat → Prop} (hnp : W0.np ≤ 0) : CodeOk Try.prog W0 M (Code.pl (Code.pr (Code.pl (Code.pl (Code.pr (Code.pl (Code.pr (Code.pl (Code.pr (Code.pr c_spec_l05Ddl)))))))))) xspec_l05Ddl_l0 := show CodeOk Try.prog W0 M (Code.loop (Code.pl (Code.pl (Code.pr (Code.pl (Code.pl (Code.pr (Code.pl (Code.pr (Code.pl (Code.pr (Code.pr c_spec_l05Ddl)))))))))))) xspec_l05Ddl_l0 from loop_ok (code_sound follows tysOk (calls_ok (fns_cons S_spec_l05Col fns_nil)) hnp [] (Code.pl (Code.pl (Code.pr (Code.pl (Code.pl (Code.pr (Code.pl (Code.pr (Code.pl (Code.pr (Code.pr c_spec_l05Ddl))))))))))) .o trivial) (ks := [1, 3, 19, 20, 21]) (bs := [1]) (fX := (cutC ([], []) [(1, [1, 3], [1])] ([], []))) (cutC_le _ _ _) FUEL (by
 intro σ k r h
 obtain ⟨hn, h1⟩ := rdN_some h
 obtain ⟨hs1, h2⟩ := rdT_some h1
 obtain ⟨out, hs3, h3⟩ := rdV_some h2
 obtain ⟨t19, hs19, h4⟩ := rdV_some h3
 obtain ⟨t20, hs20, h5⟩ := rdV_some h4
 obtain ⟨t21, hs21, h6⟩ := rdV_some h5
 obtain ⟨a, d, hb1, h7⟩ := rdB_some h6
 refine ⟨_, ?_, (espec_l05Ddl_l0 t19 t20 a d FUEL (out, t21) k).trans h7⟩
 exact mkS_le hn ⟨hs1, hs3, hs19, hs20, hs21, trivial⟩ ⟨hb1, trivial⟩)
def spec_l05Ddl_p1 (out : List ByteArray) (t15 : Int) (d : Int × ByteArray × qE × List ByteArray × ByteArray × ByteArray) (k0 : (List ByteArray) → Res) : Res :=
 bif (t15 == 1) then
  spec_l05Ddl_l0 d.2.2.1 (nI (List.length d.2.2.1)) FUEL out 0 fun (out1 : List ByteArray) =>
   bif lim ((List.length out1) + 1) then
    bif lim ((List.length (out1 ++ [z_key])) + (List.length d.2.2.2.1)) then
     k0 ((out1 ++ [z_key]) ++ d.2.2.2.1)
    else none
   else none
 else
  bif (t15 == 3) then
   bif inb 0 (List.length d.2.2.1) then
    spec_l05Col (nth (eS, 0, false, false, 0, 0, eS) d.2.2.1 0) fun (r : List ByteArray) =>
     bif lim ((List.length out) + (List.length r)) then
      k0 (out ++ r)
     else none
   else none
  else
   bif (t15 == 4) then
    bif lim ((List.length out) + 1) then
     k0 (out ++ [d.2.2.2.2.1])
    else none
   else
    bif (t15 == 5) then
     bif lim ((List.length out) + 2) then
      k0 (out ++ [d.2.2.2.2.1, d.2.2.2.2.2])
     else none
    else
     k0 out
def xspec_l05Ddl_p1 : Node Unit := fun σ k => rdN σ 66 <| rdT σ 1 (.ptr ⟨true, 1, []⟩) <| rdV σ 3 y8 false [.O] fun out => rdV σ 15 (.int .i64) false [] fun t15 => rdB σ 1 y13 [.S, .S] fun a d => spec_l05Ddl_p1 out t15 d (fun (out2 : List ByteArray) => k .normal (mkS 66 66 [(3, .val ⟨y8, false, out2, [.O]⟩)] []))
theorem espec_l05Ddl_p1 (out : List ByteArray) (t15 : Int) (a : Bool) (d : Int × ByteArray × qE × List ByteArray × ByteArray × ByteArray) (k : Kont Unit) : codeC g_spec_l05Ddl [xspec_l05Ddl_l0] (.t (.t .o (.t (.t (.t .o (.t (.x 0) .o)) .o) .o)) .o) (Code.pr (Code.pl (Code.pr (Code.pr c_spec_l05Ddl)))) (mkS 66 66 [(1, .ptr ⟨true, 1, []⟩), (3, .val ⟨y8, false, out, [.O]⟩), (15, .val ⟨(.int .i64), false, t15, []⟩)] [(1, ⟨y13, a, d, [.S, .S]⟩)]) (fun e σ => k e ((cutC ([3], []) [] ([], [])) e σ)) = spec_l05Ddl_p1 out t15 d (fun (out2 : List ByteArray) => k .normal (mkS 66 66 [(3, .val ⟨y8, false, out2, [.O]⟩)] [])) := by kernel_rfl
theorem ospec_l05Ddl_p1 {W0 : Base} {M : Nat → Prop} (hnp : W0.np ≤ 0) : CodeOk Try.prog W0 M (Code.pr (Code.pl (Code.pr (Code.pr c_spec_l05Ddl)))) xspec_l05Ddl_p1 := node_ok (code_sound follows tysOk (calls_ok (fns_cons S_spec_l05Col fns_nil)) hnp [xspec_l05Ddl_l0] ((Code.pr (Code.pl (Code.pr (Code.pr c_spec_l05Ddl))))) (.t (.t .o (.t (.t (.t .o (.t (.x 0) .o)) .o) .o)) .o) (OrOk.mk ((OrOk.mk trivial ((OrOk.mk ((OrOk.mk ((OrOk.mk trivial ((OrOk.mk (OrOk.x_mk (fun W0 M hnp => ospec_l05Ddl_l0 (W0 := W0) (M := M) hnp)) trivial)))) trivial)) trivial)))) trivial)) (fg := (cutC ([3], []) [] ([], []))) (cutC_le _ _ _) (by
 intro σ k r h
 obtain ⟨hn, h1⟩ := rdN_some h
 obtain ⟨hs1, h2⟩ := rdT_some h1
 obtain ⟨out, hs3, h3⟩ := rdV_some h2
 obtain ⟨t15, hs15, h4⟩ := rdV_some h3
 obtain ⟨a, d, hb1, h5⟩ := rdB_some h4
 refine ⟨_, ?_, (espec_l05Ddl_p1 out t15 a d k).trans h5⟩
 exact mkS_le hn ⟨hs1, hs3, hs15, trivial⟩ ⟨hb1, trivial⟩)
def spec_l05Ddl (d : Int × ByteArray × qE × List ByteArray × ByteArray × ByteArray) (k0 : (List ByteArray) → Res) : Res :=
 bif inb d.1 6 then
  spec_l05Ddl_p1 [nth eS [eS, z_create, z_drop, z_add, z_out, z_name] d.1, d.2.1] d.1 d fun (out : List ByteArray) =>
   k0 out
 else none
def s_spec_l05Ddl : Sig Unit := ⟨[.borrow y13 true], [false], fun vals ext k => av vals y13 fun d vals => nl vals <| nl ext <| spec_l05Ddl d (fun (r0 : List ByteArray) => k [⟨y8, false, r0, [.O]⟩] [] [])⟩
theorem E_spec_l05Ddl (d : Int × ByteArray × qE × List ByteArray × ByteArray × ByteArray) (a_d : Bool) (t_d : List Tag) (k : qK) : funC g_spec_l05Ddl [xspec_l05Ddl_l0, xspec_l05Ddl_p1] (.t .o (.t .o (.t (.t .o (.x 1)) .o))) false Try.f181 [.borrow y13 true] [false] [⟨y13, a_d, d, t_d⟩] [] k = spec_l05Ddl d (fun (r0 : List ByteArray) => k [⟨y8, false, r0, [.O]⟩] [] []) := by kernel_rfl
theorem S_spec_l05Ddl : Sound Try.prog 181 s_spec_l05Ddl := sound_of (Γ := g_spec_l05Ddl) (X := [xspec_l05Ddl_l0, xspec_l05Ddl_p1]) (ht := (.t .o (.t .o (.t (.t .o (.x 1)) .o)))) (fz := false) (c := c_spec_l05Ddl) follows tysOk (fns_cons S_spec_l05Col fns_nil) (OrOk.mk trivial ((OrOk.mk trivial ((OrOk.mk ((OrOk.mk trivial (OrOk.x_mk (fun W0 M hnp => ospec_l05Ddl_p1 (W0 := W0) (M := M) hnp)))) trivial))))) Try.func181 (by kernel_rfl) (by kernel_rfl) (by decide) (by
 intro vals ext k r h
 obtain ⟨d, a_d, t_d, vals, rfl, h1⟩ := av_some h
 obtain ⟨rfl, h2⟩ := nl_some h1
 obtain ⟨rfl, h3⟩ := nl_some h2
 exact (E_spec_l05Ddl d a_d t_d k).trans h3)

/-! ### 142 loop.example/g00462/spec.DdlText -/
def c_spec_DdlText : Code := (Try.f142.body).getD .skip
def g_spec_DdlText : Env Unit := ⟨tys, [(140, s_spec_l05Join), (153, s_spec_DdlOk), (181, s_spec_l05Ddl)], 0⟩
def spec_DdlText (d : Int × ByteArray × qE × List ByteArray × ByteArray × ByteArray) (k0 : ByteArray → Res) : Res :=
 spec_DdlOk d fun (r : Bool) =>
  bif !r then
   k0 eS
  else
   spec_l05Ddl d fun (r1 : List ByteArray) =>
    spec_l05Join r1 fun (r2 : ByteArray) =>
     k0 r2
def s_spec_DdlText : Sig Unit := ⟨[.look y13 true], [false], fun vals ext k => av vals y13 fun d vals => nl vals <| nl ext <| spec_DdlText d (fun (r0 : ByteArray) => k [⟨.str, false, r0, []⟩] [] [])⟩
theorem E_spec_DdlText (d : Int × ByteArray × qE × List ByteArray × ByteArray × ByteArray) (a_d : Bool) (t_d : List Tag) (k : qK) : funC g_spec_DdlText [] .o false Try.f142 [.look y13 true] [false] [⟨y13, a_d, d, t_d⟩] [] k = spec_DdlText d (fun (r0 : ByteArray) => k [⟨.str, false, r0, []⟩] [] []) := by kernel_rfl
theorem S_spec_DdlText : Sound Try.prog 142 s_spec_DdlText := sound_of (Γ := g_spec_DdlText) (X := []) (ht := .o) (fz := false) (c := c_spec_DdlText) follows tysOk (fns_cons S_spec_l05Join (fns_cons S_spec_DdlOk (fns_cons S_spec_l05Ddl fns_nil))) trivial Try.func142 (by kernel_rfl) (by kernel_rfl) (by decide) (by
 intro vals ext k r h
 obtain ⟨d, a_d, t_d, vals, rfl, h1⟩ := av_some h
 obtain ⟨rfl, h2⟩ := nl_some h1
 obtain ⟨rfl, h3⟩ := nl_some h2
 exact (E_spec_DdlText d a_d t_d k).trans h3)

/-! ### 99 loop.example/g00462/spec.StmtText -/
def c_spec_StmtText : Code := (Try.f99.body).getD .skip
def g_spec_StmtText : Env Unit := ⟨tys, [(108, s_spec_StmtOk), (140, s_spec_l05Join), (141, s_spec_l05Vals), (142, s_spec_DdlText)], 0⟩
def spec_StmtText_p0 (s : Int × ByteArray × qW × qW × Int × ByteArray × qE × List ByteArray × ByteArray × ByteArray) (k0 : (List ByteArray) → Res) : Res :=
 both
  (spec_l05Vals s.2.2.1 fun (r : List ByteArray) =>
   bif lim (2 + (List.length r)) then
    k0 ([z_update, s.2.1] ++ r)
   else none)
  (spec_l05Vals s.2.2.1 fun (r1 : List ByteArray) =>
   bif lim (2 + (List.length r1)) then
    k0 ([z_update, s.2.1] ++ r1)
   else none)
def xspec_StmtText_p0 : Node Unit := fun σ k => rdN σ 56 <| rdT σ 1 (.ptr ⟨true, 1, []⟩) <| rdB σ 1 y17 [.S, .S, .S, .S] fun a s => spec_StmtText_p0 s (fun (out : List ByteArray) => k .normal (mkS 56 56 [(1, .ptr ⟨true, 1, []⟩), (3, .val ⟨y8, false, out, [.O]⟩)] [(1, ⟨y17, a, s, [.S, .S, .S, .S]⟩)]))
theorem espec_StmtText_p0 (a : Bool) (s : Int × ByteArray × qW × qW × Int × ByteArray × qE × List ByteArray × ByteArray × ByteArray) (k : Kont Unit) : codeC g_spec_StmtText [] .o (Code.pl (Code.pl (Code.pr (Code.pr (Code.pr (Code.pl (Code.pr (Code.pl (Code.pr (Code.pr c_spec_StmtText)))))))))) (mkS 56 56 [(1, .ptr ⟨true, 1, []⟩)] [(1, ⟨y17, a, s, [.S, .S, .S, .S]⟩)]) (fun e σ => k e ((cutC ([1, 3], [1]) [] ([], [])) e σ)) = spec_StmtText_p0 s (fun (out : List ByteArray) => k .normal (mkS 56 56 [(1, .ptr ⟨true, 1, []⟩), (3, .val ⟨y8, false, out, [.O]⟩)] [(1, ⟨y17, a, s, [.S, .S, .S, .S]⟩)])) := by kernel_rfl
theorem ospec_StmtText_p0 {W0 : Base} {M : Nat → Prop} (hnp : W0.np ≤ 0) : CodeOk Try.prog W0 M (Code.pl (Code.pl (Code.pr (Code.pr (Code.pr (Code.pl (Code.pr (Code.pl (Code.pr (Code.pr c_spec_StmtText)))))))))) xspec_StmtText_p0 := node_ok (code_sound follows tysOk (calls_ok (fns_cons S_spec_StmtOk (fns_cons S_spec_l05Join (fns_cons S_spec_l05Vals (fns_cons S_spec_DdlText fns_nil))))) hnp [] ((Code.pl (Code.pl (Code.pr (Code.pr (Code.pr (Code.pl (Code.pr (Code.pl (Code.pr (Code.pr c_spec_StmtText))))))))))) .o trivial) (fg := (cutC ([1, 3], [1]) [] ([], []))) (cutC_le _ _ _) (by
 intro σ k r h
 obtain ⟨hn, h1⟩ := rdN_some h
 obtain ⟨hs1, h2⟩ := rdT_some h1
 obtain ⟨a, s, hb1, h3⟩ := rdB_some h2
 refine ⟨_, ?_, (espec_StmtText_p0 a s k).trans h3⟩
 exact mkS_le hn ⟨hs1, trivial⟩ ⟨hb1, trivial⟩)
def spec_StmtText (s : Int × ByteArray × qW × qW × Int × ByteArray × qE × List ByteArray × ByteArray × ByteArray) (k0 : ByteArray → Res) : Res :=
 spec_StmtOk s fun (r : Bool) =>
  bif !r then
   k0 eS
  else
   bif (s.1 == 1) then
    both
     (spec_l05Vals s.2.2.2.1 fun (r1 : List ByteArray) =>
      bif lim (2 + (List.length r1)) then
       spec_l05Join ([z_insert, s.2.1] ++ r1) fun (r2 : ByteArray) =>
        k0 r2
      else none)
     (spec_l05Vals s.2.2.2.1 fun (r3 : List ByteArray) =>
      bif lim (2 + (List.length r3)) then
       spec_l05Join ([z_insert, s.2.1] ++ r3) fun (r4 : ByteArray) =>
        k0 r4
      else none)
   else
    bif (s.1 == 2) then
     spec_StmtText_p0 s fun (out : List ByteArray) =>
      bif lim ((List.length out) + 1) then
       spec_l05Vals s.2.2.2.1 fun (r5 : List ByteArray) =>
        bif lim ((List.length (out ++ [z_to])) + (List.length r5)) then
         spec_l05Join ((out ++ [z_to]) ++ r5) fun (r6 : ByteArray) =>
          k0 r6
        else none
      else none
    else
     bif (s.1 == 3) then
      both
       (spec_l05Vals s.2.2.1 fun (r7 : List ByteArray) =>
        bif lim (2 + (List.length r7)) then
         spec_l05Join ([z_delete, s.2.1] ++ r7) fun (r8 : ByteArray) =>
          k0 r8
        else none)
       (spec_l05Vals s.2.2.1 fun (r9 : List ByteArray) =>
        bif lim (2 + (List.length r9)) then
         spec_l05Join ([z_delete, s.2.1] ++ r9) fun (r10 : ByteArray) =>
          k0 r10
        else none)
     else
      bif (s.1 == 4) then
       bif lim (6 + (ByteArray.size s.2.1)) then
        k0 (z_clear_ ++ s.2.1)
       else none
      else
       spec_DdlText s.2.2.2.2 fun (r11 : ByteArray) =>
        k0 r11
def s_spec_StmtText : Sig Unit := ⟨[.look y17 true], [false], fun vals ext k => av vals y17 fun s vals => nl vals <| nl ext <| spec_StmtText s (fun (r0 : ByteArray) => k [⟨.str, false, r0, []⟩] [] [])⟩
theorem E_spec_StmtText (s : Int × ByteArray × qW × qW × Int × ByteArray × qE × List ByteArray × ByteArray × ByteArray) (a_s : Bool) (t_s : List Tag) (k : qK) : funC g_spec_StmtText [xspec_StmtText_p0] (.t .o (.t .o (.t (.t .o (.t (.t .o (.t .o (.t .o (.t (.t (.x 0) .o) .o)))) .o)) .o))) false Try.f99 [.look y17 true] [false] [⟨y17, a_s, s, t_s⟩] [] k = spec_StmtText s (fun (r0 : ByteArray) => k [⟨.str, false, r0, []⟩] [] []) := by kernel_rfl
theorem S_spec_StmtText : Sound Try.prog 99 s_spec_StmtText := sound_of (Γ := g_spec_StmtText) (X := [xspec_StmtText_p0]) (ht := (.t .o (.t .o (.t (.t .o (.t (.t .o (.t .o (.t .o (.t (.t (.x 0) .o) .o)))) .o)) .o)))) (fz := false) (c := c_spec_StmtText) follows tysOk (fns_cons S_spec_StmtOk (fns_cons S_spec_l05Join (fns_cons S_spec_l05Vals (fns_cons S_spec_DdlText fns_nil)))) (OrOk.mk trivial ((OrOk.mk trivial ((OrOk.mk ((OrOk.mk trivial ((OrOk.mk ((OrOk.mk trivial ((OrOk.mk trivial ((OrOk.mk trivial ((OrOk.mk ((OrOk.mk (OrOk.x_mk (fun W0 M hnp => ospec_StmtText_p0 (W0 := W0) (M := M) hnp)) trivial)) trivial)))))))) trivial)))) trivial))))) Try.func99 (by kernel_rfl) (by kernel_rfl) (by decide) (by
 intro vals ext k r h
 obtain ⟨s, a_s, t_s, vals, rfl, h1⟩ := av_some h
 obtain ⟨rfl, h2⟩ := nl_some h1
 obtain ⟨rfl, h3⟩ := nl_some h2
 exact (E_spec_StmtText s a_s t_s k).trans h3)

/-! ### 147 loop.example/g00462/impl.glued -/
def c_impl_glued : Code := (Try.f147.body).getD .skip
def g_impl_glued : Env Unit := ⟨tys, [], 0⟩
def impl_glued_l0_r (t6 : List ByteArray) (t7 : Int) (s : ByteArray) (t8 : Int) (rec : ByteArray → Int → Res) (k0 : ByteArray → Res) : Res :=
 bif decide (t8 < t7) then
  bif inb t8 (List.length t6) then
   bif decide (t8 > 0) then
    bif lim ((ByteArray.size s) + 1) then
     bif lim ((ByteArray.size (s ++ z___1)) + (ByteArray.size (nth eS t6 t8))) then
      rec ((s ++ z___1) ++ (nth eS t6 t8)) (wi64 (t8 + 1))
     else none
    else none
   else
    bif lim ((ByteArray.size s) + (ByteArray.size (nth eS t6 t8))) then
     rec (s ++ (nth eS t6 t8)) (wi64 (t8 + 1))
    else none
  else none
 else
  k0 s
def impl_glued_l0_s (t6 : List ByteArray) (t7 : Int) : (ByteArray × Int) → (ByteArray × Int → Res) → ((ByteArray → Res)) → Res := fun v rec q => impl_glued_l0_r t6 t7 v.1 v.2 (fun s t8 => rec (s, t8)) q
def impl_glued_l0 (t6 : List ByteArray) (t7 : Int) (n : Nat) (s : ByteArray) (t8 : Int) (k0 : ByteArray → Res) : Res := iter (impl_glued_l0_s t6 t7) n (s, t8) (k0)
def ximpl_glued_l0 : Node Unit := fun σ k => rdN σ 22 <| rdV σ 3 .str false [] fun s => rdV σ 6 y8 false [.S] fun t6 => rdV σ 7 (.int .i64) false [] fun t7 => rdV σ 8 (.int .i64) false [] fun t8 => impl_glued_l0 t6 t7 FUEL s t8 (fun (s1 : ByteArray) => k (.exit 0) (mkS 22 22 [(3, .val ⟨.str, false, s1, []⟩)] []))
theorem eimpl_glued_l0 (t6 : List ByteArray) (t7 : Int) (n : Nat) (v : ByteArray × Int) (k : Kont Unit) : loopC (codeC g_impl_glued [] .o (Code.pl (Code.pl (Code.pr (Code.pl (Code.pr (Code.pr c_impl_glued))))))) (fun σ => σ.forget [3, 6, 7, 8] []) (cutC ([], []) [(0, [3], [])] ([], [])) n (mkS 22 22 [(3, .val ⟨.str, false, v.1, []⟩), (6, .val ⟨y8, false, t6, [.S]⟩), (7, .val ⟨(.int .i64), false, t7, []⟩), (8, .val ⟨(.int .i64), false, v.2, []⟩)] []) k = iter (impl_glued_l0_s t6 t7) n v ((fun (k : Kont Unit) => (((fun (s1 : ByteArray) => k (.exit 0) (mkS 22 22 [(3, .val ⟨.str, false, s1, []⟩)] []))) : (ByteArray → Res))) k) := loop_eq (fun v : ByteArray × Int => (mkS 22 22 [(3, .val ⟨.str, false, v.1, []⟩), (6, .val ⟨y8, false, t6, [.S]⟩), (7, .val ⟨(.int .i64), false, t7, []⟩), (8, .val ⟨(.int .i64), false, v.2, []⟩)] [])) (impl_glued_l0_s t6 t7) (fun (k : Kont Unit) => (((fun (s1 : ByteArray) => k (.exit 0) (mkS 22 22 [(3, .val ⟨.str, false, s1, []⟩)] []))) : (ByteArray → Res))) (fun v rec k => by kernel_rfl) n v k
theorem oimpl_glued_l0 {W0 : Base} {M : Nat → Prop} (hnp : W0.np ≤ 0) : CodeOk Try.prog W0 M (Code.pl (Code.pr (Code.pl (Code.pr (Code.pr c_impl_glued))))) ximpl_glued_l0 := show CodeOk Try.prog W0 M (Code.loop (Code.pl (Code.pl (Code.pr (Code.pl (Code.pr (Code.pr c_impl_glued))))))) ximpl_glued_l0 from loop_ok (code_sound follows tysOk (calls_ok fns_nil) hnp [] (Code.pl (Code.pl (Code.pr (Code.pl (Code.pr (Code.pr c_impl_glued)))))) .o trivial) (ks := [3, 6, 7, 8]) (bs := []) (fX := (cutC ([], []) [(0, [3], [])] ([], []))) (cutC_le _ _ _) FUEL (by
 intro σ k r h
 obtain ⟨hn, h1⟩ := rdN_some h
 obtain ⟨s, hs3, h2⟩ := rdV_some h1
 obtain ⟨t6, hs6, h3⟩ := rdV_some h2
 obtain ⟨t7, hs7, h4⟩ := rdV_some h3
 obtain ⟨t8, hs8, h5⟩ := rdV_some h4
 refine ⟨_, ?_, (eimpl_glued_l0 t6 t7 FUEL (s, t8) k).trans h5⟩
 exact mkS_le hn ⟨hs3, hs6, hs7, hs8, trivial⟩ trivial)
def impl_glued (l : List ByteArray) (k0 : ByteArray → Res) : Res :=
 impl_glued_l0 l (nI (List.length l)) FUEL eS 0 fun (s : ByteArray) =>
  k0 s
def s_impl_glued : Sig Unit := ⟨[.look y8 false], [false], fun vals ext k => av vals y8 fun l vals => nl vals <| nl ext <| impl_glued l (fun (r0 : ByteArray) => k [⟨.str, false, r0, []⟩] [] [])⟩
theorem E_impl_glued (l : List ByteArray) (a_l : Bool) (t_l : List Tag) (k : qK) : funC g_impl_glued [ximpl_glued_l0] (.t .o (.t .o (.t (.t .o (.t (.x 0) .o)) .o))) false Try.f147 [.look y8 false] [false] [⟨y8, a_l, l, t_l⟩] [] k = impl_glued l (fun (r0 : ByteArray) => k [⟨.str, false, r0, []⟩] [] []) := by kernel_rfl
theorem S_impl_glued : Sound Try.prog 147 s_impl_glued := sound_of (Γ := g_impl_glued) (X := [ximpl_glued_l0]) (ht := (.t .o (.t .o (.t (.t .o (.t (.x 0) .o)) .o)))) (fz := false) (c := c_impl_glued) follows tysOk fns_nil (OrOk.mk trivial ((OrOk.mk trivial ((OrOk.mk ((OrOk.mk trivial ((OrOk.mk (OrOk.x_mk (fun W0 M hnp => oimpl_glued_l0 (W0 := W0) (M := M) hnp)) trivial)))) trivial))))) Try.func147 (by kernel_rfl) (by kernel_rfl) (by decide) (by
 intro vals ext k r h
 obtain ⟨l, a_l, t_l, vals, rfl, h1⟩ := av_some h
 obtain ⟨rfl, h2⟩ := nl_some h1
 obtain ⟨rfl, h3⟩ := nl_some h2
 exact (E_impl_glued l a_l t_l k).trans h3)

/-! ### 148 loop.example/g00462/impl.valTexts -/
def c_impl_valTexts : Code := (Try.f148.body).getD .skip
def g_impl_valTexts : Env Unit := ⟨tys, [(147, s_impl_glued), (184, s_impl_ValText)], 0⟩
def impl_valTexts_l0_r (t7 : List qV) (t8 : Int) (out : List ByteArray) (t9 : Int) (rec : (List ByteArray) → Int → Res) (k0 : (List ByteArray) → Res) : Res :=
 bif decide (t9 < t8) then
  bif inb t9 (List.length t7) then
   impl_ValText (nth (0, 0, eS) t7 t9) fun (r : ByteArray) =>
    bif lim ((List.length out) + 1) then
     rec (out ++ [r]) (wi64 (t9 + 1))
    else none
  else none
 else
  k0 out
def impl_valTexts_l0_s (t7 : List qV) (t8 : Int) : ((List ByteArray) × Int) → ((List ByteArray) × Int → Res) → (((List ByteArray) → Res)) → Res := fun v rec q => impl_valTexts_l0_r t7 t8 v.1 v.2 (fun out t9 => rec (out, t9)) q
def impl_valTexts_l0 (t7 : List qV) (t8 : Int) (n : Nat) (out : List ByteArray) (t9 : Int) (k0 : (List ByteArray) → Res) : Res := iter (impl_valTexts_l0_s t7 t8) n (out, t9) (k0)
def ximpl_valTexts_l0 : Node Unit := fun σ k => rdN σ 21 <| rdV σ 3 y8 false [.O] fun out => rdV σ 7 y2 false [.S] fun t7 => rdV σ 8 (.int .i64) false [] fun t8 => rdV σ 9 (.int .i64) false [] fun t9 => impl_valTexts_l0 t7 t8 FUEL out t9 (fun (out1 : List ByteArray) => k (.exit 0) (mkS 21 21 [(3, .val ⟨y8, false, out1, [.O]⟩)] []))
theorem eimpl_valTexts_l0 (t7 : List qV) (t8 : Int) (n : Nat) (v : (List ByteArray) × Int) (k : Kont Unit) : loopC (codeC g_impl_valTexts [] .o (Code.pl (Code.pl (Code.pr (Code.pl (Code.pr (Code.pr c_impl_valTexts))))))) (fun σ => σ.forget [3, 7, 8, 9] []) (cutC ([], []) [(0, [3], [])] ([], [])) n (mkS 21 21 [(3, .val ⟨y8, false, v.1, [.O]⟩), (7, .val ⟨y2, false, t7, [.S]⟩), (8, .val ⟨(.int .i64), false, t8, []⟩), (9, .val ⟨(.int .i64), false, v.2, []⟩)] []) k = iter (impl_valTexts_l0_s t7 t8) n v ((fun (k : Kont Unit) => (((fun (out1 : List ByteArray) => k (.exit 0) (mkS 21 21 [(3, .val ⟨y8, false, out1, [.O]⟩)] []))) : ((List ByteArray) → Res))) k) := loop_eq (fun v : (List ByteArray) × Int => (mkS 21 21 [(3, .val ⟨y8, false, v.1, [.O]⟩), (7, .val ⟨y2, false, t7, [.S]⟩), (8, .val ⟨(.int .i64), false, t8, []⟩), (9, .val ⟨(.int .i64), false, v.2, []⟩)] [])) (impl_valTexts_l0_s t7 t8) (fun (k : Kont Unit) => (((fun (out1 : List ByteArray) => k (.exit 0) (mkS 21 21 [(3, .val ⟨y8, false, out1, [.O]⟩)] []))) : ((List ByteArray) → Res))) (fun v rec k => by kernel_rfl) n v k
theorem oimpl_valTexts_l0 {W0 : Base} {M : Nat → Prop} (hnp : W0.np ≤ 0) : CodeOk Try.prog W0 M (Code.pl (Code.pr (Code.pl (Code.pr (Code.pr c_impl_valTexts))))) ximpl_valTexts_l0 := show CodeOk Try.prog W0 M (Code.loop (Code.pl (Code.pl (Code.pr (Code.pl (Code.pr (Code.pr c_impl_valTexts))))))) ximpl_valTexts_l0 from loop_ok (code_sound follows tysOk (calls_ok (fns_cons S_impl_glued (fns_cons S_impl_ValText fns_nil))) hnp [] (Code.pl (Code.pl (Code.pr (Code.pl (Code.pr (Code.pr c_impl_valTexts)))))) .o trivial) (ks := [3, 7, 8, 9]) (bs := []) (fX := (cutC ([], []) [(0, [3], [])] ([], []))) (cutC_le _ _ _) FUEL (by
 intro σ k r h
 obtain ⟨hn, h1⟩ := rdN_some h
 obtain ⟨out, hs3, h2⟩ := rdV_some h1
 obtain ⟨t7, hs7, h3⟩ := rdV_some h2
 obtain ⟨t8, hs8, h4⟩ := rdV_some h3
 obtain ⟨t9, hs9, h5⟩ := rdV_some h4
 refine ⟨_, ?_, (eimpl_valTexts_l0 t7 t8 FUEL (out, t9) k).trans h5⟩
 exact mkS_le hn ⟨hs3, hs7, hs8, hs9, trivial⟩ trivial)
def impl_valTexts (l : List qV) (k0 : ByteArray → Res) : Res :=
 impl_valTexts_l0 l (nI (List.length l)) FUEL [] 0 fun (out : List ByteArray) =>
  impl_glued out fun (r : ByteArray) =>
   k0 r
def s_impl_valTexts : Sig Unit := ⟨[.look y2 false], [false], fun vals ext k => av vals y2 fun l vals => nl vals <| nl ext <| impl_valTexts l (fun (r0 : ByteArray) => k [⟨.str, false, r0, []⟩] [] [])⟩
theorem E_impl_valTexts (l : List qV) (a_l : Bool) (t_l : List Tag) (k : qK) : funC g_impl_valTexts [ximpl_valTexts_l0] (.t .o (.t .o (.t (.t .o (.t (.x 0) .o)) .o))) false Try.f148 [.look y2 false] [false] [⟨y2, a_l, l, t_l⟩] [] k = impl_valTexts l (fun (r0 : ByteArray) => k [⟨.str, false, r0, []⟩] [] []) := by kernel_rfl
theorem S_impl_valTexts : Sound Try.prog 148 s_impl_valTexts := sound_of (Γ := g_impl_valTexts) (X := [ximpl_valTexts_l0]) (ht := (.t .o (.t .o (.t (.t .o (.t (.x 0) .o)) .o)))) (fz := false) (c := c_impl_valTexts) follows tysOk (fns_cons S_impl_glued (fns_cons S_impl_ValText fns_nil)) (OrOk.mk trivial ((OrOk.mk trivial ((OrOk.mk ((OrOk.mk trivial ((OrOk.mk (OrOk.x_mk (fun W0 M hnp => oimpl_valTexts_l0 (W0 := W0) (M := M) hnp)) trivial)))) trivial))))) Try.func148 (by kernel_rfl) (by kernel_rfl) (by decide) (by
 intro vals ext k r h
 obtain ⟨l, a_l, t_l, vals, rfl, h1⟩ := av_some h
 obtain ⟨rfl, h2⟩ := nl_some h1
 obtain ⟨rfl, h3⟩ := nl_some h2
 exact (E_impl_valTexts l a_l t_l k).trans h3)

/-! ### 210 loop.example/g00462/impl.tyName -/
def c_impl_tyName : Code := (Try.f210.body).getD .skip
def g_impl_tyName : Env Unit := ⟨tys, [], 0⟩
def impl_tyName (ty : Int) (k0 : ByteArray → Res) : Res :=
 bif inb ty 4 then
  k0 (nth eS [eS, z_bool, z_int, z_text] ty)
 else none
def s_impl_tyName : Sig Unit := ⟨[.look (.int .i64) false], [false], fun vals ext k => av vals (.int .i64) fun ty vals => nl vals <| nl ext <| impl_tyName ty (fun (r0 : ByteArray) => k [⟨.str, false, r0, []⟩] [] [])⟩
theorem E_impl_tyName (ty : Int) (a_ty : Bool) (t_ty : List Tag) (k : qK) : funC g_impl_tyName [] .o false Try.f210 [.look (.int .i64) false] [false] [⟨(.int .i64), a_ty, ty, t_ty⟩] [] k = impl_tyName ty (fun (r0 : ByteArray) => k [⟨.str, false, r0, []⟩] [] []) := by kernel_rfl
theorem S_impl_tyName : Sound Try.prog 210 s_impl_tyName := sound_of (Γ := g_impl_tyName) (X := []) (ht := .o) (fz := false) (c := c_impl_tyName) follows tysOk fns_nil trivial Try.func210 (by kernel_rfl) (by kernel_rfl) (by decide) (by
 intro vals ext k r h
 obtain ⟨ty, a_ty, t_ty, vals, rfl, h1⟩ := av_some h
 obtain ⟨rfl, h2⟩ := nl_some h1
 obtain ⟨rfl, h3⟩ := nl_some h2
 exact (E_impl_tyName ty a_ty t_ty k).trans h3)

/-! ### 185 loop.example/g00462/impl.ColText -/
def c_impl_ColText : Code := (Try.f185.body).getD .skip
def g_impl_ColText : Env Unit := ⟨tys, [(184, s_impl_ValText), (191, s_impl_ColOk), (210, s_impl_tyName)], 0⟩
def impl_ColText_p0 (s : ByteArray) (t15 : Bool) (k0 : ByteArray → Res) : Res :=
 bif t15 then
  bif lim ((ByteArray.size s) + 4) then
   k0 (s ++ z__not)
  else none
 else
  k0 s
def ximpl_ColText_p0 : Node Unit := fun σ k => rdN σ 27 <| rdT σ 1 (.ptr ⟨true, 1, []⟩) <| rdV σ 3 .str false [] fun s => rdV σ 15 .bool false [] fun t15 => rdB σ 1 y6 [] fun a c => impl_ColText_p0 s t15 (fun (s1 : ByteArray) => k .normal (mkS 27 27 [(1, .ptr ⟨true, 1, []⟩), (3, .val ⟨.str, false, s1, []⟩)] [(1, ⟨y6, a, c, []⟩)]))
theorem eimpl_ColText_p0 (s : ByteArray) (t15 : Bool) (a : Bool) (c : ByteArray × Int × Bool × Bool × Int × Int × ByteArray) (k : Kont Unit) : codeC g_impl_ColText [] .o (Code.pr (Code.pl (Code.pr (Code.pr (Code.pr c_impl_ColText))))) (mkS 27 27 [(1, .ptr ⟨true, 1, []⟩), (3, .val ⟨.str, false, s, []⟩), (15, .val ⟨.bool, false, t15, []⟩)] [(1, ⟨y6, a, c, []⟩)]) (fun e σ => k e ((cutC ([1, 3], [1]) [] ([], [])) e σ)) = impl_ColText_p0 s t15 (fun (s1 : ByteArray) => k .normal (mkS 27 27 [(1, .ptr ⟨true, 1, []⟩), (3, .val ⟨.str, false, s1, []⟩)] [(1, ⟨y6, a, c, []⟩)])) := by kernel_rfl
theorem oimpl_ColText_p0 {W0 : Base} {M : Nat → Prop} (hnp : W0.np ≤ 0) : CodeOk Try.prog W0 M (Code.pr (Code.pl (Code.pr (Code.pr (Code.pr c_impl_ColText))))) ximpl_ColText_p0 := node_ok (code_sound follows tysOk (calls_ok (fns_cons S_impl_ValText (fns_cons S_impl_ColOk (fns_cons S_impl_tyName fns_nil)))) hnp [] ((Code.pr (Code.pl (Code.pr (Code.pr (Code.pr c_impl_ColText)))))) .o trivial) (fg := (cutC ([1, 3], [1]) [] ([], []))) (cutC_le _ _ _) (by
 intro σ k r h
 obtain ⟨hn, h1⟩ := rdN_some h
 obtain ⟨hs1, h2⟩ := rdT_some h1
 obtain ⟨s, hs3, h3⟩ := rdV_some h2
 obtain ⟨t15, hs15, h4⟩ := rdV_some h3
 obtain ⟨a, c, hb1, h5⟩ := rdB_some h4
 refine ⟨_, ?_, (eimpl_ColText_p0 s t15 a c k).trans h5⟩
 exact mkS_le hn ⟨hs1, hs3, hs15, trivial⟩ ⟨hb1, trivial⟩)
def impl_ColText (c : ByteArray × Int × Bool × Bool × Int × Int × ByteArray) (k0 : ByteArray → Res) : Res :=
 impl_ColOk c fun (r : Bool) =>
  bif !r then
   k0 eS
  else
   bif lim ((ByteArray.size c.1) + 1) then
    impl_tyName c.2.1 fun (r1 : ByteArray) =>
     bif lim ((ByteArray.size (c.1 ++ z___1)) + (ByteArray.size r1)) then
      impl_ColText_p0 ((c.1 ++ z___1) ++ r1) c.2.2.1 fun (s : ByteArray) =>
       bif c.2.2.2.1 then
        bif lim ((ByteArray.size s) + 2) then
         impl_ValText c.2.2.2.2 fun (r2 : ByteArray) =>
          bif lim ((ByteArray.size (s ++ z___)) + (ByteArray.size r2)) then
           k0 ((s ++ z___) ++ r2)
          else none
        else none
       else
        k0 s
     else none
   else none
def s_impl_ColText : Sig Unit := ⟨[.look y6 true], [false], fun vals ext k => av vals y6 fun c vals => nl vals <| nl ext <| impl_ColText c (fun (r0 : ByteArray) => k [⟨.str, false, r0, []⟩] [] [])⟩
theorem E_impl_ColText (c : ByteArray × Int × Bool × Bool × Int × Int × ByteArray) (a_c : Bool) (t_c : List Tag) (k : qK) : funC g_impl_ColText [ximpl_ColText_p0] (.t .o (.t .o (.t .o (.t (.t .o (.x 0)) .o)))) false Try.f185 [.look y6 true] [false] [⟨y6, a_c, c, t_c⟩] [] k = impl_ColText c (fun (r0 : ByteArray) => k [⟨.str, false, r0, []⟩] [] []) := by kernel_rfl
theorem S_impl_ColText : Sound Try.prog 185 s_impl_ColText := sound_of (Γ := g_impl_ColText) (X := [ximpl_ColText_p0]) (ht := (.t .o (.t .o (.t .o (.t (.t .o (.x 0)) .o))))) (fz := false) (c := c_impl_ColText) follows tysOk (fns_cons S_impl_ValText (fns_cons S_impl_ColOk (fns_cons S_impl_tyName fns_nil))) (OrOk.mk trivial ((OrOk.mk trivial ((OrOk.mk trivial ((OrOk.mk ((OrOk.mk trivial (OrOk.x_mk (fun W0 M hnp => oimpl_ColText_p0 (W0 := W0) (M := M) hnp)))) trivial))))))) Try.func185 (by kernel_rfl) (by kernel_rfl) (by decide) (by
 intro vals ext k r h
 obtain ⟨c, a_c, t_c, vals, rfl, h1⟩ := av_some h
 obtain ⟨rfl, h2⟩ := nl_some h1
 obtain ⟨rfl, h3⟩ := nl_some h2
 exact (E_impl_ColText c a_c t_c k).trans h3)

/-! ### 149 loop.example/g00462/impl.DdlText -/
def c_impl_DdlText : Code := (Try.f149.body).getD .skip
def g_impl_DdlText : Env Unit := ⟨tys, [(147, s_impl_glued), (157, s_impl_DdlOk), (185, s_impl_ColText)], 0⟩
def impl_DdlText_l0_r (t17 : List qC) (t18 : Int) (s : ByteArray) (t19 : Int) (rec : ByteArray → Int → Res) (k0 : ByteArray → Res) : Res :=
 bif decide (t19 < t18) then
  bif inb t19 (List.length t17) then
   bif lim ((ByteArray.size s) + 3) then
    impl_ColText (nth (eS, 0, false, false, 0, 0, eS) t17 t19) fun (r : ByteArray) =>
     bif lim ((ByteArray.size (s ++ z____)) + (ByteArray.size r)) then
      bif lim ((ByteArray.size ((s ++ z____) ++ r)) + 2) then
       rec (((s ++ z____) ++ r) ++ z____1) (wi64 (t19 + 1))
      else none
     else none
   else none
  else none
 else
  k0 s
def impl_DdlText_l0_s (t17 : List qC) (t18 : Int) : (ByteArray × Int) → (ByteArray × Int → Res) → ((ByteArray → Res)) → Res := fun v rec q => impl_DdlText_l0_r t17 t18 v.1 v.2 (fun s t19 => rec (s, t19)) q
def impl_DdlText_l0 (t17 : List qC) (t18 : Int) (n : Nat) (s : ByteArray) (t19 : Int) (k0 : ByteArray → Res) : Res := iter (impl_DdlText_l0_s t17 t18) n (s, t19) (k0)
def ximpl_DdlText_l0 : Node Unit := fun σ k => rdN σ 68 <| rdT σ 1 (.ptr ⟨true, 1, []⟩) <| rdV σ 3 .str false [] fun s => rdV σ 17 y7 false [.S] fun t17 => rdV σ 18 (.int .i64) false [] fun t18 => rdV σ 19 (.int .i64) false [] fun t19 => rdB σ 1 y13 [.S, .S] fun a d => impl_DdlText_l0 t17 t18 FUEL s t19 (fun (s1 : ByteArray) => k (.exit 1) (mkS 68 68 [(1, .ptr ⟨true, 1, []⟩), (3, .val ⟨.str, false, s1, []⟩)] [(1, ⟨y13, a, d, [.S, .S]⟩)]))
theorem eimpl_DdlText_l0 (t17 : List qC) (t18 : Int) (a : Bool) (d : Int × ByteArray × qE × List ByteArray × ByteArray × ByteArray) (n : Nat) (v : ByteArray × Int) (k : Kont Unit) : loopC (codeC g_impl_DdlText [] .o (Code.pl (Code.pl (Code.pr (Code.pl (Code.pr (Code.pl (Code.pr (Code.pl (Code.pr (Code.pl (Code.pr (Code.pr c_impl_DdlText))))))))))))) (fun σ => σ.forget [1, 3, 17, 18, 19] [1]) (cutC ([], []) [(1, [1, 3], [1])] ([], [])) n (mkS 68 68 [(1, .ptr ⟨true, 1, []⟩), (3, .val ⟨.str, false, v.1, []⟩), (17, .val ⟨y7, false, t17, [.S]⟩), (18, .val ⟨(.int .i64), false, t18, []⟩), (19, .val ⟨(.int .i64), false, v.2, []⟩)] [(1, ⟨y13, a, d, [.S, .S]⟩)]) k = iter (impl_DdlText_l0_s t17 t18) n v ((fun (k : Kont Unit) => (((fun (s1 : ByteArray) => k (.exit 1) (mkS 68 68 [(1, .ptr ⟨true, 1, []⟩), (3, .val ⟨.str, false, s1, []⟩)] [(1, ⟨y13, a, d, [.S, .S]⟩)]))) : (ByteArray → Res))) k) := loop_eq (fun v : ByteArray × Int => (mkS 68 68 [(1, .ptr ⟨true, 1, []⟩), (3, .val ⟨.str, false, v.1, []⟩), (17, .val ⟨y7, false, t17, [.S]⟩), (18, .val ⟨(.int .i64), false, t18, []⟩), (19, .val ⟨(.int .i64), false, v.2, []⟩)] [(1, ⟨y13, a, d, [.S, .S]⟩)])) (impl_DdlText_l0_s t17 t18) (fun (k : Kont Unit) => (((fun (s1 : ByteArray) => k (.exit 1) (mkS 68 68 [(1, .ptr ⟨true, 1, []⟩), (3, .val ⟨.str, false, s1, []⟩)] [(1, ⟨y13, a, d, [.S, .S]⟩)]))) : (ByteArray → Res))) (fun v rec k => by kernel_rfl) n v k
theorem oimpl_DdlText_l0 {W0 : Base} {M : Nat → Prop} (hnp : W0.np ≤ 0) : CodeOk Try.prog W0 M (Code.pl (Code.pr (Code.pl (Code.pr (Code.pl (Code.pr (Code.pl (Code.pr (Code.pl (Code.pr (Code.pr c_impl_DdlText))))))))))) ximpl_DdlText_l0 := show CodeOk Try.prog W0 M (Code.loop (Code.pl (Code.pl (Code.pr (Code.pl (Code.pr (Code.pl (Code.pr (Code.pl (Code.pr (Code.pl (Code.pr (Code.pr c_impl_DdlText))))))))))))) ximpl_DdlText_l0 from loop_ok (code_sound follows tysOk (calls_ok (fns_cons S_impl_glued (fns_cons S_impl_DdlOk (fns_cons S_impl_ColText fns_nil)))) hnp [] (Code.pl (Code.pl (Code.pr (Code.pl (Code.pr (Code.pl (Code.pr (Code.pl (Code.pr (Code.pl (Code.pr (Code.pr c_impl_DdlText)))))))))))) .o trivial) (ks := [1, 3, 17, 18, 19]) (bs := [1]) (fX := (cutC ([], []) [(1, [1, 3], [1])] ([], []))) (cutC_le _ _ _) FUEL (by
 intro σ k r h
 obtain ⟨hn, h1⟩ := rdN_some h
 obtain ⟨hs1, h2⟩ := rdT_some h1
 obtain ⟨s, hs3, h3⟩ := rdV_some h2
 obtain ⟨t17, hs17, h4⟩ := rdV_some h3
 obtain ⟨t18, hs18, h5⟩ := rdV_some h4
 obtain ⟨t19, hs19, h6⟩ := rdV_some h5
 obtain ⟨a, d, hb1, h7⟩ := rdB_some h6
 refine ⟨_, ?_, (eimpl_DdlText_l0 t17 t18 a d FUEL (s, t19) k).trans h7⟩
 exact mkS_le hn ⟨hs1, hs3, hs17, hs18, hs19, trivial⟩ ⟨hb1, trivial⟩)
def impl_DdlText (d : Int × ByteArray × qE × List ByteArray × ByteArray × ByteArray) (k0 : ByteArray → Res) : Res :=
 impl_DdlOk d fun (r : Bool) =>
  bif !r then
   k0 eS
  else
   bif (d.1 == 1) then
    bif lim (7 + (ByteArray.size d.2.1)) then
     impl_DdlText_l0 d.2.2.1 (nI (List.length d.2.2.1)) FUEL (z_create_ ++ d.2.1) 0 fun (s : ByteArray) =>
      bif lim ((ByteArray.size s) + 5) then
       impl_glued d.2.2.2.1 fun (r1 : ByteArray) =>
        bif lim ((ByteArray.size (s ++ z__key_)) + (ByteArray.size r1)) then
         k0 ((s ++ z__key_) ++ r1)
        else none
      else none
    else none
   else
    bif (d.1 == 2) then
     bif lim (5 + (ByteArray.size d.2.1)) then
      k0 (z_drop_ ++ d.2.1)
     else none
    else
     bif (d.1 == 3) then
      bif inb 0 (List.length d.2.2.1) then
       impl_ColText (nth (eS, 0, false, false, 0, 0, eS) d.2.2.1 0) fun (r2 : ByteArray) =>
        impl_glued [z_add, d.2.1, r2] fun (r3 : ByteArray) =>
         k0 r3
      else none
     else
      bif (d.1 == 4) then
       impl_glued [z_out, d.2.1, d.2.2.2.2.1] fun (r4 : ByteArray) =>
        k0 r4
      else
       impl_glued [z_name, d.2.1, d.2.2.2.2.1, d.2.2.2.2.2] fun (r5 : ByteArray) =>
        k0 r5
def s_impl_DdlText : Sig Unit := ⟨[.look y13 true], [false], fun vals ext k => av vals y13 fun d vals => nl vals <| nl ext <| impl_DdlText d (fun (r0 : ByteArray) => k [⟨.str, false, r0, []⟩] [] [])⟩
theorem E_impl_DdlText (d : Int × ByteArray × qE × List ByteArray × ByteArray × ByteArray) (a_d : Bool) (t_d : List Tag) (k : qK) : funC g_impl_DdlText [ximpl_DdlText_l0] (.t .o (.t .o (.t (.t .o (.t (.t .o (.t (.t .o (.t (.t .o (.t (.x 0) .o)) .o)) .o)) .o)) .o))) false Try.f149 [.look y13 true] [false] [⟨y13, a_d, d, t_d⟩] [] k = impl_DdlText d (fun (r0 : ByteArray) => k [⟨.str, false, r0, []⟩] [] []) := by kernel_rfl
theorem S_impl_DdlText : Sound Try.prog 149 s_impl_DdlText := sound_of (Γ := g_impl_DdlText) (X := [ximpl_DdlText_l0]) (ht := (.t .o (.t .o (.t (.t .o (.t (.t .o (.t (.t .o (.t (.t .o (.t (.x 0) .o)) .o)) .o)) .o)) .o)))) (fz := false) (c := c_impl_DdlText) follows tysOk (fns_cons S_impl_glued (fns_cons S_impl_DdlOk (fns_cons S_impl_ColText fns_nil))) (OrOk.mk trivial ((OrOk.mk trivial ((OrOk.mk ((OrOk.mk trivial ((OrOk.mk ((OrOk.mk trivial ((OrOk.mk ((OrOk.mk trivial ((OrOk.mk ((OrOk.mk trivial ((OrOk.mk (OrOk.x_mk (fun W0 M hnp => oimpl_DdlText_l0 (W0 := W0) (M := M) hnp)) trivial)))) trivial)))) trivial)))) trivial)))) trivial))))) Try.func149 (by kernel_rfl) (by kernel_rfl) (by decide) (by
 intro vals ext k r h
 obtain ⟨d, a_d, t_d, vals, rfl, h1⟩ := av_some h
 obtain ⟨rfl, h2⟩ := nl_some h1
 obtain ⟨rfl, h3⟩ := nl_some h2
 exact (E_impl_DdlText d a_d t_d k).trans h3)

/-! ### 103 loop.example/g00462/impl.StmtText -/
def c_impl_StmtText : Code := (Try.f103.body).getD .skip
def g_impl_StmtText : Env Unit := ⟨tys, [(114, s_impl_StmtOk), (147, s_impl_glued), (148, s_impl_valTexts), (149, s_impl_DdlText)], 0⟩
def impl_StmtText (s : Int × ByteArray × qW × qW × Int × ByteArray × qE × List ByteArray × ByteArray × ByteArray) (k0 : ByteArray → Res) : Res :=
 impl_StmtOk s fun (r : Bool) =>
  bif !r then
   k0 eS
  else
   bif (s.1 == 1) then
    impl_valTexts s.2.2.2.1 fun (r1 : ByteArray) =>
     impl_glued [z_insert, s.2.1, r1] fun (r2 : ByteArray) =>
      k0 r2
   else
    bif (s.1 == 2) then
     impl_valTexts s.2.2.1 fun (r3 : ByteArray) =>
      impl_valTexts s.2.2.2.1 fun (r4 : ByteArray) =>
       impl_glued [z_update, s.2.1, r3, z_to, r4] fun (r5 : ByteArray) =>
        k0 r5
    else
     bif (s.1 == 3) then
      impl_valTexts s.2.2.1 fun (r6 : ByteArray) =>
       impl_glued [z_delete, s.2.1, r6] fun (r7 : ByteArray) =>
        k0 r7
     else
      bif (s.1 == 4) then
       bif lim (6 + (ByteArray.size s.2.1)) then
        k0 (z_clear_ ++ s.2.1)
       else none
      else
       impl_DdlText s.2.2.2.2 fun (r8 : ByteArray) =>
        k0 r8
def s_impl_StmtText : Sig Unit := ⟨[.look y17 true], [false], fun vals ext k => av vals y17 fun s vals => nl vals <| nl ext <| impl_StmtText s (fun (r0 : ByteArray) => k [⟨.str, false, r0, []⟩] [] [])⟩
theorem E_impl_StmtText (s : Int × ByteArray × qW × qW × Int × ByteArray × qE × List ByteArray × ByteArray × ByteArray) (a_s : Bool) (t_s : List Tag) (k : qK) : funC g_impl_StmtText [] .o false Try.f103 [.look y17 true] [false] [⟨y17, a_s, s, t_s⟩] [] k = impl_StmtText s (fun (r0 : ByteArray) => k [⟨.str, false, r0, []⟩] [] []) := by kernel_rfl
theorem S_impl_StmtText : Sound Try.prog 103 s_impl_StmtText := sound_of (Γ := g_impl_StmtText) (X := []) (ht := .o) (fz := false) (c := c_impl_StmtText) follows tysOk (fns_cons S_impl_StmtOk (fns_cons S_impl_glued (fns_cons S_impl_valTexts (fns_cons S_impl_DdlText fns_nil)))) trivial Try.func103 (by kernel_rfl) (by kernel_rfl) (by decide) (by
 intro vals ext k r h
 obtain ⟨s, a_s, t_s, vals, rfl, h1⟩ := av_some h
 obtain ⟨rfl, h2⟩ := nl_some h1
 obtain ⟨rfl, h3⟩ := nl_some h2
 exact (E_impl_StmtText s a_s t_s k).trans h3)
end Go.PI.G
end
