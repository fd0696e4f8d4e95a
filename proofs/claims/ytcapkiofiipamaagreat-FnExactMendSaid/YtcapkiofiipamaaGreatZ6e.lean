/-
  Printed texts and plain laws. No conditions.
-/
import Derived.Test.YtcapkiofiipamaaGreatZ6a
import Derived.Test.YtcapkiofiipamaaGreatZ6b
import Derived.Test.YtcapkiofiipamaaGreatZ6c
import Derived.Test.YtcapkiofiipamaaGreatZ6d
set_option linter.unusedVariables false
set_option maxRecDepth 100000
noncomputable section
namespace Go.PI.G
open Go Go.PI Go.Proofs

/-! ### 74 loop.example/g00462/spec.RowsMend -/
def c_spec_RowsMend : Code := (Tryz.f74.body).getD .skip
def g_spec_RowsMend : Env Unit := ⟨tys, [(86, s_spec_RowsOk), (101, s_spec_l03Row), (120, s_spec_RowAt), (121, s_spec_l03Key), (122, s_spec_l03SameVals)], 0⟩
def spec_RowsMend_l0_r (b : List qW) (t27 : List qW) (t28 : Int) (t : ByteArray × qE × List ByteArray) (out : List qS) (t29 : Int) (rec : qU → Int → Res) (k0 : qU → Res) : Res :=
 bif decide (t29 < t28) then
  bif inb t29 (List.length t27) then
   spec_l03Key t (nth [] t27 t29) fun (r : List qV) =>
    spec_RowAt t b r fun (r1 : Int) =>
     bif decide (r1 < 0) then
      spec_l03Key t (nth [] t27 t29) fun (r2 : List qV) =>
       bif lim ((List.length out) + 1) then
        rec (out ++ [(3, t.1, r2, [], 0, eS, [], [], eS, eS)]) (wi64 (t29 + 1))
       else none
     else
      rec out (wi64 (t29 + 1))
  else none
 else
  k0 out
def spec_RowsMend_l0_s (b : List qW) (t27 : List qW) (t28 : Int) (t : ByteArray × qE × List ByteArray) : (qU × Int) → (qU × Int → Res) → ((qU → Res)) → Res := fun v rec q => spec_RowsMend_l0_r b t27 t28 t v.1 v.2 (fun out t29 => rec (out, t29)) q
def spec_RowsMend_l0 (b : List qW) (t27 : List qW) (t28 : Int) (t : ByteArray × qE × List ByteArray) (n : Nat) (out : List qS) (t29 : Int) (k0 : qU → Res) : Res := iter (spec_RowsMend_l0_s b t27 t28 t) n (out, t29) (k0)
def xspec_RowsMend_l0 : Node Unit := fun σ k => rdN σ 110 <| rdV σ 1 y12 false [.S] fun a => rdV σ 2 y12 false [.S] fun b => rdT σ 3 (.ptr ⟨true, 3, []⟩) <| rdV σ 8 y24 false [.O] fun out => rdV σ 27 y12 false [.S] fun t27 => rdV σ 28 (.int .i64) false [] fun t28 => rdV σ 29 (.int .i64) false [] fun t29 => rdB σ 3 y9 [.S, .S] fun a1 t => spec_RowsMend_l0 b t27 t28 t FUEL out t29 (fun (out1 : List qS) => k (.exit 0) (mkS 110 110 [(1, .val ⟨y12, false, a, [.S]⟩), (2, .val ⟨y12, false, b, [.S]⟩), (3, .ptr ⟨true, 3, []⟩), (8, .val ⟨y24, false, out1, [.O]⟩)] [(3, ⟨y9, a1, t, [.S, .S]⟩)]))
theorem espec_RowsMend_l0 (a : List qW) (b : List qW) (t27 : List qW) (t28 : Int) (a1 : Bool) (t : ByteArray × qE × List ByteArray) (n : Nat) (v : qU × Int) (k : Kont Unit) : loopC (codeC g_spec_RowsMend [] .o (Code.pl (Code.pl (Code.pr (Code.pl (Code.pr (Code.pr (Code.pr c_spec_RowsMend)))))))) (fun σ => σ.forget [1, 2, 3, 8, 27, 28, 29] [3]) (cutC ([], []) [(0, [1, 2, 3, 8], [3])] ([], [])) n (mkS 110 110 [(1, .val ⟨y12, false, a, [.S]⟩), (2, .val ⟨y12, false, b, [.S]⟩), (3, .ptr ⟨true, 3, []⟩), (8, .val ⟨y24, false, v.1, [.O]⟩), (27, .val ⟨y12, false, t27, [.S]⟩), (28, .val ⟨(.int .i64), false, t28, []⟩), (29, .val ⟨(.int .i64), false, v.2, []⟩)] [(3, ⟨y9, a1, t, [.S, .S]⟩)]) k = iter (spec_RowsMend_l0_s b t27 t28 t) n v ((fun (k : Kont Unit) => (((fun (out1 : List qS) => k (.exit 0) (mkS 110 110 [(1, .val ⟨y12, false, a, [.S]⟩), (2, .val ⟨y12, false, b, [.S]⟩), (3, .ptr ⟨true, 3, []⟩), (8, .val ⟨y24, false, out1, [.O]⟩)] [(3, ⟨y9, a1, t, [.S, .S]⟩)]))) : (qU → Res))) k) := loop_eq (fun v : qU × Int => (mkS 110 110 [(1, .val ⟨y12, false, a, [.S]⟩), (2, .val ⟨y12, false, b, [.S]⟩), (3, .ptr ⟨true, 3, []⟩), (8, .val ⟨y24, false, v.1, [.O]⟩), (27, .val ⟨y12, false, t27, [.S]⟩), (28, .val ⟨(.int .i64), false, t28, []⟩), (29, .val ⟨(.int .i64), false, v.2, []⟩)] [(3, ⟨y9, a1, t, [.S, .S]⟩)])) (spec_RowsMend_l0_s b t27 t28 t) (fun (k : Kont Unit) => (((fun (out1 : List qS) => k (.exit 0) (mkS 110 110 [(1, .val ⟨y12, false, a, [.S]⟩), (2, .val ⟨y12, false, b, [.S]⟩), (3, .ptr ⟨true, 3, []⟩), (8, .val ⟨y24, false, out1, [.O]⟩)] [(3, ⟨y9, a1, t, [.S, .S]⟩)]))) : (qU → Res))) (fun v rec k => by kernel_rfl) n v k
theorem ospec_RowsMend_l0 {W0 : Base} {M : Nat → Prop} (hnp : W0.np ≤ 0) : CodeOk Tryz.prog W0 M (Code.pl (Code.pr (Code.pl (Code.pr (Code.pr (Code.pr c_spec_RowsMend)))))) xspec_RowsMend_l0 := show CodeOk Tryz.prog W0 M (Code.loop (Code.pl (Code.pl (Code.pr (Code.pl (Code.pr (Code.pr (Code.pr c_spec_RowsMend)))))))) xspec_RowsMend_l0 from loop_ok (code_sound follows tysOk (calls_ok (fns_cons S_spec_RowsOk (fns_cons S_spec_l03Row (fns_cons S_spec_RowAt (fns_cons S_spec_l03Key (fns_cons S_spec_l03SameVals fns_nil)))))) hnp [] (Code.pl (Code.pl (Code.pr (Code.pl (Code.pr (Code.pr (Code.pr c_spec_RowsMend))))))) .o trivial) (ks := [1, 2, 3, 8, 27, 28, 29]) (bs := [3]) (fX := (cutC ([], []) [(0, [1, 2, 3, 8], [3])] ([], []))) (cutC_le _ _ _) FUEL (by
 intro σ k r h
 obtain ⟨hn, h1⟩ := rdN_some h
 obtain ⟨a, hs1, h2⟩ := rdV_some h1
 obtain ⟨b, hs2, h3⟩ := rdV_some h2
 obtain ⟨hs3, h4⟩ := rdT_some h3
 obtain ⟨out, hs8, h5⟩ := rdV_some h4
 obtain ⟨t27, hs27, h6⟩ := rdV_some h5
 obtain ⟨t28, hs28, h7⟩ := rdV_some h6
 obtain ⟨t29, hs29, h8⟩ := rdV_some h7
 obtain ⟨a1, t, hb3, h9⟩ := rdB_some h8
 refine ⟨_, ?_, (espec_RowsMend_l0 a b t27 t28 a1 t FUEL (out, t29) k).trans h9⟩
 exact mkS_le hn ⟨hs1, hs2, hs3, hs8, hs27, hs28, hs29, trivial⟩ ⟨hb3, trivial⟩)
def spec_RowsMend_l1_r (a : List qW) (t50 : List qW) (t51 : Int) (t : ByteArray × qE × List ByteArray) (out : List qS) (t52 : Int) (rec : qU → Int → Res) (k0 : qU → Res) : Res :=
 bif decide (t52 < t51) then
  bif inb t52 (List.length t50) then
   spec_l03Key t (nth [] t50 t52) fun (r : List qV) =>
    spec_RowAt t a r fun (r1 : Int) =>
     bif decide (r1 ≥ 0) then
      bif inb r1 (List.length a) then
       spec_l03SameVals (nth [] a r1) (nth [] t50 t52) fun (r2 : Bool) =>
        bif !r2 then
         spec_l03Key t (nth [] t50 t52) fun (r3 : List qV) =>
          spec_l03Row (nth [] t50 t52) fun (r4 : List qV) =>
           bif lim ((List.length out) + 1) then
            rec (out ++ [(2, t.1, r3, r4, 0, eS, [], [], eS, eS)]) (wi64 (t52 + 1))
           else none
        else
         rec out (wi64 (t52 + 1))
      else none
     else
      rec out (wi64 (t52 + 1))
  else none
 else
  k0 out
def spec_RowsMend_l1_s (a : List qW) (t50 : List qW) (t51 : Int) (t : ByteArray × qE × List ByteArray) : (qU × Int) → (qU × Int → Res) → ((qU → Res)) → Res := fun v rec q => spec_RowsMend_l1_r a t50 t51 t v.1 v.2 (fun out t52 => rec (out, t52)) q
def spec_RowsMend_l1 (a : List qW) (t50 : List qW) (t51 : Int) (t : ByteArray × qE × List ByteArray) (n : Nat) (out : List qS) (t52 : Int) (k0 : qU → Res) : Res := iter (spec_RowsMend_l1_s a t50 t51 t) n (out, t52) (k0)
def xspec_RowsMend_l1 : Node Unit := fun σ k => rdN σ 110 <| rdV σ 1 y12 false [.S] fun a => rdV σ 2 y12 false [.S] fun b => rdT σ 3 (.ptr ⟨true, 3, []⟩) <| rdV σ 8 y24 false [.O] fun out => rdV σ 50 y12 false [.S] fun t50 => rdV σ 51 (.int .i64) false [] fun t51 => rdV σ 52 (.int .i64) false [] fun t52 => rdB σ 3 y9 [.S, .S] fun a1 t => spec_RowsMend_l1 a t50 t51 t FUEL out t52 (fun (out1 : List qS) => k (.exit 2) (mkS 110 110 [(1, .val ⟨y12, false, a, [.S]⟩), (2, .val ⟨y12, false, b, [.S]⟩), (3, .ptr ⟨true, 3, []⟩), (8, .val ⟨y24, false, out1, [.O]⟩)] [(3, ⟨y9, a1, t, [.S, .S]⟩)]))
theorem espec_RowsMend_l1 (a : List qW) (b : List qW) (t50 : List qW) (t51 : Int) (a1 : Bool) (t : ByteArray × qE × List ByteArray) (n : Nat) (v : qU × Int) (k : Kont Unit) : loopC (codeC g_spec_RowsMend [xspec_RowsMend_l0] .o (Code.pl (Code.pl (Code.pr (Code.pl (Code.pr (Code.pr (Code.pr (Code.pr c_spec_RowsMend))))))))) (fun σ => σ.forget [1, 2, 3, 8, 50, 51, 52] [3]) (cutC ([], []) [(2, [1, 2, 3, 8], [3])] ([], [])) n (mkS 110 110 [(1, .val ⟨y12, false, a, [.S]⟩), (2, .val ⟨y12, false, b, [.S]⟩), (3, .ptr ⟨true, 3, []⟩), (8, .val ⟨y24, false, v.1, [.O]⟩), (50, .val ⟨y12, false, t50, [.S]⟩), (51, .val ⟨(.int .i64), false, t51, []⟩), (52, .val ⟨(.int .i64), false, v.2, []⟩)] [(3, ⟨y9, a1, t, [.S, .S]⟩)]) k = iter (spec_RowsMend_l1_s a t50 t51 t) n v ((fun (k : Kont Unit) => (((fun (out1 : List qS) => k (.exit 2) (mkS 110 110 [(1, .val ⟨y12, false, a, [.S]⟩), (2, .val ⟨y12, false, b, [.S]⟩), (3, .ptr ⟨true, 3, []⟩), (8, .val ⟨y24, false, out1, [.O]⟩)] [(3, ⟨y9, a1, t, [.S, .S]⟩)]))) : (qU → Res))) k) := loop_eq (fun v : qU × Int => (mkS 110 110 [(1, .val ⟨y12, false, a, [.S]⟩), (2, .val ⟨y12, false, b, [.S]⟩), (3, .ptr ⟨true, 3, []⟩), (8, .val ⟨y24, false, v.1, [.O]⟩), (50, .val ⟨y12, false, t50, [.S]⟩), (51, .val ⟨(.int .i64), false, t51, []⟩), (52, .val ⟨(.int .i64), false, v.2, []⟩)] [(3, ⟨y9, a1, t, [.S, .S]⟩)])) (spec_RowsMend_l1_s a t50 t51 t) (fun (k : Kont Unit) => (((fun (out1 : List qS) => k (.exit 2) (mkS 110 110 [(1, .val ⟨y12, false, a, [.S]⟩), (2, .val ⟨y12, false, b, [.S]⟩), (3, .ptr ⟨true, 3, []⟩), (8, .val ⟨y24, false, out1, [.O]⟩)] [(3, ⟨y9, a1, t, [.S, .S]⟩)]))) : (qU → Res))) (fun v rec k => by kernel_rfl) n v k
theorem ospec_RowsMend_l1 {W0 : Base} {M : Nat → Prop} (hnp : W0.np ≤ 0) : CodeOk Tryz.prog W0 M (Code.pl (Code.pr (Code.pl (Code.pr (Code.pr (Code.pr (Code.pr c_spec_RowsMend))))))) xspec_RowsMend_l1 := show CodeOk Tryz.prog W0 M (Code.loop (Code.pl (Code.pl (Code.pr (Code.pl (Code.pr (Code.pr (Code.pr (Code.pr c_spec_RowsMend))))))))) xspec_RowsMend_l1 from loop_ok (code_sound follows tysOk (calls_ok (fns_cons S_spec_RowsOk (fns_cons S_spec_l03Row (fns_cons S_spec_RowAt (fns_cons S_spec_l03Key (fns_cons S_spec_l03SameVals fns_nil)))))) hnp [xspec_RowsMend_l0] (Code.pl (Code.pl (Code.pr (Code.pl (Code.pr (Code.pr (Code.pr (Code.pr c_spec_RowsMend)))))))) .o trivial) (ks := [1, 2, 3, 8, 50, 51, 52]) (bs := [3]) (fX := (cutC ([], []) [(2, [1, 2, 3, 8], [3])] ([], []))) (cutC_le _ _ _) FUEL (by
 intro σ k r h
 obtain ⟨hn, h1⟩ := rdN_some h
 obtain ⟨a, hs1, h2⟩ := rdV_some h1
 obtain ⟨b, hs2, h3⟩ := rdV_some h2
 obtain ⟨hs3, h4⟩ := rdT_some h3
 obtain ⟨out, hs8, h5⟩ := rdV_some h4
 obtain ⟨t50, hs50, h6⟩ := rdV_some h5
 obtain ⟨t51, hs51, h7⟩ := rdV_some h6
 obtain ⟨t52, hs52, h8⟩ := rdV_some h7
 obtain ⟨a1, t, hb3, h9⟩ := rdB_some h8
 refine ⟨_, ?_, (espec_RowsMend_l1 a b t50 t51 a1 t FUEL (out, t52) k).trans h9⟩
 exact mkS_le hn ⟨hs1, hs2, hs3, hs8, hs50, hs51, hs52, trivial⟩ ⟨hb3, trivial⟩)
def spec_RowsMend_l2_r (a : List qW) (t87 : List qW) (t88 : Int) (t : ByteArray × qE × List ByteArray) (out : List qS) (t89 : Int) (rec : qU → Int → Res) (k0 : qU → Res) : Res :=
 bif decide (t89 < t88) then
  bif inb t89 (List.length t87) then
   spec_l03Key t (nth [] t87 t89) fun (r : List qV) =>
    spec_RowAt t a r fun (r1 : Int) =>
     bif decide (r1 < 0) then
      spec_l03Row (nth [] t87 t89) fun (r2 : List qV) =>
       bif lim ((List.length out) + 1) then
        rec (out ++ [(1, t.1, [], r2, 0, eS, [], [], eS, eS)]) (wi64 (t89 + 1))
       else none
     else
      rec out (wi64 (t89 + 1))
  else none
 else
  k0 out
def spec_RowsMend_l2_s (a : List qW) (t87 : List qW) (t88 : Int) (t : ByteArray × qE × List ByteArray) : (qU × Int) → (qU × Int → Res) → ((qU → Res)) → Res := fun v rec q => spec_RowsMend_l2_r a t87 t88 t v.1 v.2 (fun out t89 => rec (out, t89)) q
def spec_RowsMend_l2 (a : List qW) (t87 : List qW) (t88 : Int) (t : ByteArray × qE × List ByteArray) (n : Nat) (out : List qS) (t89 : Int) (k0 : qU → Res) : Res := iter (spec_RowsMend_l2_s a t87 t88 t) n (out, t89) (k0)
def xspec_RowsMend_l2 : Node Unit := fun σ k => rdN σ 110 <| rdV σ 1 y12 false [.S] fun a => rdT σ 3 (.ptr ⟨true, 3, []⟩) <| rdV σ 8 y24 false [.O] fun out => rdV σ 87 y12 false [.S] fun t87 => rdV σ 88 (.int .i64) false [] fun t88 => rdV σ 89 (.int .i64) false [] fun t89 => rdB σ 3 y9 [.S, .S] fun a1 t => spec_RowsMend_l2 a t87 t88 t FUEL out t89 (fun (out1 : List qS) => k (.exit 4) (mkS 110 110 [(8, .val ⟨y24, false, out1, [.O]⟩)] []))
theorem espec_RowsMend_l2 (a : List qW) (t87 : List qW) (t88 : Int) (a1 : Bool) (t : ByteArray × qE × List ByteArray) (n : Nat) (v : qU × Int) (k : Kont Unit) : loopC (codeC g_spec_RowsMend [xspec_RowsMend_l0, xspec_RowsMend_l1] .o (Code.pl (Code.pl (Code.pr (Code.pl (Code.pr (Code.pr (Code.pr (Code.pr (Code.pr c_spec_RowsMend)))))))))) (fun σ => σ.forget [1, 3, 8, 87, 88, 89] [3]) (cutC ([], []) [(4, [8], [])] ([], [])) n (mkS 110 110 [(1, .val ⟨y12, false, a, [.S]⟩), (3, .ptr ⟨true, 3, []⟩), (8, .val ⟨y24, false, v.1, [.O]⟩), (87, .val ⟨y12, false, t87, [.S]⟩), (88, .val ⟨(.int .i64), false, t88, []⟩), (89, .val ⟨(.int .i64), false, v.2, []⟩)] [(3, ⟨y9, a1, t, [.S, .S]⟩)]) k = iter (spec_RowsMend_l2_s a t87 t88 t) n v ((fun (k : Kont Unit) => (((fun (out1 : List qS) => k (.exit 4) (mkS 110 110 [(8, .val ⟨y24, false, out1, [.O]⟩)] []))) : (qU → Res))) k) := loop_eq (fun v : qU × Int => (mkS 110 110 [(1, .val ⟨y12, false, a, [.S]⟩), (3, .ptr ⟨true, 3, []⟩), (8, .val ⟨y24, false, v.1, [.O]⟩), (87, .val ⟨y12, false, t87, [.S]⟩), (88, .val ⟨(.int .i64), false, t88, []⟩), (89, .val ⟨(.int .i64), false, v.2, []⟩)] [(3, ⟨y9, a1, t, [.S, .S]⟩)])) (spec_RowsMend_l2_s a t87 t88 t) (fun (k : Kont Unit) => (((fun (out1 : List qS) => k (.exit 4) (mkS 110 110 [(8, .val ⟨y24, false, out1, [.O]⟩)] []))) : (qU → Res))) (fun v rec k => by kernel_rfl) n v k
theorem ospec_RowsMend_l2 {W0 : Base} {M : Nat → Prop} (hnp : W0.np ≤ 0) : CodeOk Tryz.prog W0 M (Code.pl (Code.pr (Code.pl (Code.pr (Code.pr (Code.pr (Code.pr (Code.pr c_spec_RowsMend)))))))) xspec_RowsMend_l2 := show CodeOk Tryz.prog W0 M (Code.loop (Code.pl (Code.pl (Code.pr (Code.pl (Code.pr (Code.pr (Code.pr (Code.pr (Code.pr c_spec_RowsMend)))))))))) xspec_RowsMend_l2 from loop_ok (code_sound follows tysOk (calls_ok (fns_cons S_spec_RowsOk (fns_cons S_spec_l03Row (fns_cons S_spec_RowAt (fns_cons S_spec_l03Key (fns_cons S_spec_l03SameVals fns_nil)))))) hnp [xspec_RowsMend_l0, xspec_RowsMend_l1] (Code.pl (Code.pl (Code.pr (Code.pl (Code.pr (Code.pr (Code.pr (Code.pr (Code.pr c_spec_RowsMend))))))))) .o trivial) (ks := [1, 3, 8, 87, 88, 89]) (bs := [3]) (fX := (cutC ([], []) [(4, [8], [])] ([], []))) (cutC_le _ _ _) FUEL (by
 intro σ k r h
 obtain ⟨hn, h1⟩ := rdN_some h
 obtain ⟨a, hs1, h2⟩ := rdV_some h1
 obtain ⟨hs3, h3⟩ := rdT_some h2
 obtain ⟨out, hs8, h4⟩ := rdV_some h3
 obtain ⟨t87, hs87, h5⟩ := rdV_some h4
 obtain ⟨t88, hs88, h6⟩ := rdV_some h5
 obtain ⟨t89, hs89, h7⟩ := rdV_some h6
 obtain ⟨a1, t, hb3, h8⟩ := rdB_some h7
 refine ⟨_, ?_, (espec_RowsMend_l2 a t87 t88 a1 t FUEL (out, t89) k).trans h8⟩
 exact mkS_le hn ⟨hs1, hs3, hs8, hs87, hs88, hs89, trivial⟩ ⟨hb3, trivial⟩)
def spec_RowsMend (t : ByteArray × qE × List ByteArray) (a : List qW) (b : List qW) (k0 : qU → Bool → Res) : Res :=
 spec_RowsOk t a fun (r : Bool) =>
  bif !r then
   k0 [] false
  else
   spec_RowsOk t b fun (r1 : Bool) =>
    bif !r1 then
     k0 [] false
    else
     spec_RowsMend_l0 b a (nI (List.length a)) t FUEL [] 0 fun (out : List qS) =>
      spec_RowsMend_l1 a b (nI (List.length b)) t FUEL out 0 fun (out1 : List qS) =>
       spec_RowsMend_l2 a b (nI (List.length b)) t FUEL out1 0 fun (out2 : List qS) =>
        k0 out2 true
def s_spec_RowsMend : Sig Unit := ⟨[.borrow y9 true, .borrow y12 false, .borrow y12 false], [false, false], fun vals ext k => av vals y9 fun t vals => av vals y12 fun a vals => av vals y12 fun b vals => nl vals <| nl ext <| spec_RowsMend t a b (fun (r0 : List qS) (r1 : Bool) => k [⟨y24, false, r0, [.O]⟩, ⟨.bool, false, r1, []⟩] [] [])⟩
theorem E_spec_RowsMend (t : ByteArray × qE × List ByteArray) (a_t : Bool) (t_t : List Tag) (a : List qW) (a_a : Bool) (t_a : List Tag) (b : List qW) (a_b : Bool) (t_b : List Tag) (k : qK) : funC g_spec_RowsMend [xspec_RowsMend_l0, xspec_RowsMend_l1, xspec_RowsMend_l2] (.t .o (.t .o (.t .o (.t (.t .o (.t (.x 0) .o)) (.t (.t .o (.t (.x 1) .o)) (.t (.t .o (.t (.x 2) .o)) .o)))))) false Tryz.f74 [.borrow y9 true, .borrow y12 false, .borrow y12 false] [false, false] [⟨y9, a_t, t, t_t⟩, ⟨y12, a_a, a, t_a⟩, ⟨y12, a_b, b, t_b⟩] [] k = spec_RowsMend t a b (fun (r0 : List qS) (r1 : Bool) => k [⟨y24, false, r0, [.O]⟩, ⟨.bool, false, r1, []⟩] [] []) := by kernel_rfl
theorem S_spec_RowsMend : Sound Tryz.prog 74 s_spec_RowsMend := sound_of (Γ := g_spec_RowsMend) (X := [xspec_RowsMend_l0, xspec_RowsMend_l1, xspec_RowsMend_l2]) (ht := (.t .o (.t .o (.t .o (.t (.t .o (.t (.x 0) .o)) (.t (.t .o (.t (.x 1) .o)) (.t (.t .o (.t (.x 2) .o)) .o))))))) (fz := false) (c := c_spec_RowsMend) follows tysOk (fns_cons S_spec_RowsOk (fns_cons S_spec_l03Row (fns_cons S_spec_RowAt (fns_cons S_spec_l03Key (fns_cons S_spec_l03SameVals fns_nil))))) (OrOk.mk trivial ((OrOk.mk trivial ((OrOk.mk trivial ((OrOk.mk ((OrOk.mk trivial ((OrOk.mk (OrOk.x_mk (fun W0 M hnp => ospec_RowsMend_l0 (W0 := W0) (M := M) hnp)) trivial)))) ((OrOk.mk ((OrOk.mk trivial ((OrOk.mk (OrOk.x_mk (fun W0 M hnp => ospec_RowsMend_l1 (W0 := W0) (M := M) hnp)) trivial)))) ((OrOk.mk ((OrOk.mk trivial ((OrOk.mk (OrOk.x_mk (fun W0 M hnp => ospec_RowsMend_l2 (W0 := W0) (M := M) hnp)) trivial)))) trivial))))))))))) Tryz.func74 (by kernel_rfl) (by kernel_rfl) (by decide) (by
 intro vals ext k r h
 obtain ⟨t, a_t, t_t, vals, rfl, h1⟩ := av_some h
 obtain ⟨a, a_a, t_a, vals, rfl, h2⟩ := av_some h1
 obtain ⟨b, a_b, t_b, vals, rfl, h3⟩ := av_some h2
 obtain ⟨rfl, h4⟩ := nl_some h3
 obtain ⟨rfl, h5⟩ := nl_some h4
 exact (E_spec_RowsMend t a_t t_t a a_a t_a b a_b t_b k).trans h5)

/-! ### 30 loop.example/g00462/spec.Mend -/
def c_spec_Mend : Code := (Tryz.f30.body).getD .skip
def g_spec_Mend : Env Unit := ⟨tys, [(37, s_spec_DbOk), (73, s_spec_SameTable), (74, s_spec_RowsMend)], 0⟩
def spec_Mend_l0_r (t31 : List qT) (t32 : Int) (a : qF × List qR) (b : qF × List qR) (out : List qS) (t33 : Int) (rec : qU → Int → Res) (k0 : qU → Res) (k1 : Unit → Res) : Res :=
 bif decide (t33 < t32) then
  bif inb t33 (List.length t31) then
   bif inb t33 (List.length b.1) then
    spec_SameTable (nth (eS, [], []) t31 t33) (nth (eS, [], []) b.1 t33) fun (r : Bool) =>
     bif !r then
      k1 ()
     else
      bif inb t33 (List.length a.2) then
       bif inb t33 (List.length b.2) then
        spec_RowsMend (nth (eS, [], []) t31 t33) (nth [] a.2 t33) (nth [] b.2 t33) fun (r1 : List qS) (r2 : Bool) =>
         bif lim ((List.length out) + (List.length r1)) then
          rec (out ++ r1) (wi64 (t33 + 1))
         else none
       else none
      else none
   else none
  else none
 else
  k0 out
def spec_Mend_l0_s (t31 : List qT) (t32 : Int) (a : qF × List qR) (b : qF × List qR) : (qU × Int) → (qU × Int → Res) → ((qU → Res) × (Unit → Res)) → Res := fun v rec q => spec_Mend_l0_r t31 t32 a b v.1 v.2 (fun out t33 => rec (out, t33)) q.1 q.2
def spec_Mend_l0 (t31 : List qT) (t32 : Int) (a : qF × List qR) (b : qF × List qR) (n : Nat) (out : List qS) (t33 : Int) (k0 : qU → Res) (k1 : Unit → Res) : Res := iter (spec_Mend_l0_s t31 t32 a b) n (out, t33) (k0, k1)
def xspec_Mend_l0 : Node Unit := fun σ k => rdN σ 69 <| rdT σ 2 (.ptr ⟨true, 2, []⟩) <| rdT σ 3 (.ptr ⟨true, 3, []⟩) <| rdV σ 6 y24 false [.O] fun out => rdV σ 31 y10 false [.S] fun t31 => rdV σ 32 (.int .i64) false [] fun t32 => rdV σ 33 (.int .i64) false [] fun t33 => rdB σ 2 y14 [.S, .S] fun a1 a => rdB σ 3 y14 [.S, .S] fun a2 b => spec_Mend_l0 t31 t32 a b FUEL out t33 (fun (out1 : List qS) => k (.exit 0) (mkS 69 69 [(6, .val ⟨y24, false, out1, [.O]⟩)] [])) (fun (_ : Unit) => k .ret (mkS 69 69 [(4, .val ⟨y24, false, [], [.O]⟩), (5, .val ⟨.bool, false, false, []⟩)] []))
theorem espec_Mend_l0 (t31 : List qT) (t32 : Int) (a1 : Bool) (a : qF × List qR) (a2 : Bool) (b : qF × List qR) (n : Nat) (v : qU × Int) (k : Kont Unit) : loopC (codeC g_spec_Mend [] .o (Code.pl (Code.pl (Code.pr (Code.pl (Code.pr (Code.pr (Code.pr c_spec_Mend)))))))) (fun σ => σ.forget [2, 3, 6, 31, 32, 33] [2, 3]) (cutC ([], []) [(0, [6], [])] ([4, 5], [])) n (mkS 69 69 [(2, .ptr ⟨true, 2, []⟩), (3, .ptr ⟨true, 3, []⟩), (6, .val ⟨y24, false, v.1, [.O]⟩), (31, .val ⟨y10, false, t31, [.S]⟩), (32, .val ⟨(.int .i64), false, t32, []⟩), (33, .val ⟨(.int .i64), false, v.2, []⟩)] [(2, ⟨y14, a1, a, [.S, .S]⟩), (3, ⟨y14, a2, b, [.S, .S]⟩)]) k = iter (spec_Mend_l0_s t31 t32 a b) n v ((fun (k : Kont Unit) => (((fun (out1 : List qS) => k (.exit 0) (mkS 69 69 [(6, .val ⟨y24, false, out1, [.O]⟩)] [])), (fun (_ : Unit) => k .ret (mkS 69 69 [(4, .val ⟨y24, false, [], [.O]⟩), (5, .val ⟨.bool, false, false, []⟩)] []))) : (qU → Res) × (Unit → Res))) k) := loop_eq (fun v : qU × Int => (mkS 69 69 [(2, .ptr ⟨true, 2, []⟩), (3, .ptr ⟨true, 3, []⟩), (6, .val ⟨y24, false, v.1, [.O]⟩), (31, .val ⟨y10, false, t31, [.S]⟩), (32, .val ⟨(.int .i64), false, t32, []⟩), (33, .val ⟨(.int .i64), false, v.2, []⟩)] [(2, ⟨y14, a1, a, [.S, .S]⟩), (3, ⟨y14, a2, b, [.S, .S]⟩)])) (spec_Mend_l0_s t31 t32 a b) (fun (k : Kont Unit) => (((fun (out1 : List qS) => k (.exit 0) (mkS 69 69 [(6, .val ⟨y24, false, out1, [.O]⟩)] [])), (fun (_ : Unit) => k .ret (mkS 69 69 [(4, .val ⟨y24, false, [], [.O]⟩), (5, .val ⟨.bool, false, false, []⟩)] []))) : (qU → Res) × (Unit → Res))) (fun v rec k => by kernel_rfl) n v k
theorem ospec_Mend_l0 {W0 : Base} {M : Nat → Prop} (hnp : W0.np ≤ 0) : CodeOk Tryz.prog W0 M (Code.pl (Code.pr (Code.pl (Code.pr (Code.pr (Code.pr c_spec_Mend)))))) xspec_Mend_l0 := show CodeOk Tryz.prog W0 M (Code.loop (Code.pl (Code.pl (Code.pr (Code.pl (Code.pr (Code.pr (Code.pr c_spec_Mend)))))))) xspec_Mend_l0 from loop_ok (code_sound follows tysOk (calls_ok (fns_cons S_spec_DbOk (fns_cons S_spec_SameTable (fns_cons S_spec_RowsMend fns_nil)))) hnp [] (Code.pl (Code.pl (Code.pr (Code.pl (Code.pr (Code.pr (Code.pr c_spec_Mend))))))) .o trivial) (ks := [2, 3, 6, 31, 32, 33]) (bs := [2, 3]) (fX := (cutC ([], []) [(0, [6], [])] ([4, 5], []))) (cutC_le _ _ _) FUEL (by
 intro σ k r h
 obtain ⟨hn, h1⟩ := rdN_some h
 obtain ⟨hs2, h2⟩ := rdT_some h1
 obtain ⟨hs3, h3⟩ := rdT_some h2
 obtain ⟨out, hs6, h4⟩ := rdV_some h3
 obtain ⟨t31, hs31, h5⟩ := rdV_some h4
 obtain ⟨t32, hs32, h6⟩ := rdV_some h5
 obtain ⟨t33, hs33, h7⟩ := rdV_some h6
 obtain ⟨a1, a, hb2, h8⟩ := rdB_some h7
 obtain ⟨a2, b, hb3, h9⟩ := rdB_some h8
 refine ⟨_, ?_, (espec_Mend_l0 t31 t32 a1 a a2 b FUEL (out, t33) k).trans h9⟩
 exact mkS_le hn ⟨hs2, hs3, hs6, hs31, hs32, hs33, trivial⟩ ⟨hb2, hb3, trivial⟩)
def spec_Mend (a : qF × List qR) (b : qF × List qR) (k0 : qU → Bool → Res) : Res :=
 spec_DbOk a fun (r : Bool) =>
  bif !r then
   k0 [] false
  else
   spec_DbOk b fun (r1 : Bool) =>
    bif !r1 then
     k0 [] false
    else
     bif ((nI (List.length a.2)) != (nI (List.length b.2))) then
      k0 [] false
     else
      spec_Mend_l0 a.1 (nI (List.length a.1)) a b FUEL [] 0
       (fun (out : List qS) =>
        k0 out true)
       (fun (_ : Unit) =>
        k0 [] false)
def s_spec_Mend : Sig Unit := ⟨[.borrow y14 true, .borrow y14 true], [false, false], fun vals ext k => av vals y14 fun a vals => av vals y14 fun b vals => nl vals <| nl ext <| spec_Mend a b (fun (r0 : List qS) (r1 : Bool) => k [⟨y24, false, r0, [.O]⟩, ⟨.bool, false, r1, []⟩] [] [])⟩
theorem E_spec_Mend (a : qF × List qR) (a_a : Bool) (t_a : List Tag) (b : qF × List qR) (a_b : Bool) (t_b : List Tag) (k : qK) : funC g_spec_Mend [xspec_Mend_l0] (.t .o (.t .o (.t .o (.t (.t .o (.t (.x 0) .o)) .o)))) false Tryz.f30 [.borrow y14 true, .borrow y14 true] [false, false] [⟨y14, a_a, a, t_a⟩, ⟨y14, a_b, b, t_b⟩] [] k = spec_Mend a b (fun (r0 : List qS) (r1 : Bool) => k [⟨y24, false, r0, [.O]⟩, ⟨.bool, false, r1, []⟩] [] []) := by kernel_rfl
theorem S_spec_Mend : Sound Tryz.prog 30 s_spec_Mend := sound_of (Γ := g_spec_Mend) (X := [xspec_Mend_l0]) (ht := (.t .o (.t .o (.t .o (.t (.t .o (.t (.x 0) .o)) .o))))) (fz := false) (c := c_spec_Mend) follows tysOk (fns_cons S_spec_DbOk (fns_cons S_spec_SameTable (fns_cons S_spec_RowsMend fns_nil))) (OrOk.mk trivial ((OrOk.mk trivial ((OrOk.mk trivial ((OrOk.mk ((OrOk.mk trivial ((OrOk.mk (OrOk.x_mk (fun W0 M hnp => ospec_Mend_l0 (W0 := W0) (M := M) hnp)) trivial)))) trivial))))))) Tryz.func30 (by kernel_rfl) (by kernel_rfl) (by decide) (by
 intro vals ext k r h
 obtain ⟨a, a_a, t_a, vals, rfl, h1⟩ := av_some h
 obtain ⟨b, a_b, t_b, vals, rfl, h2⟩ := av_some h1
 obtain ⟨rfl, h3⟩ := nl_some h2
 obtain ⟨rfl, h4⟩ := nl_some h3
 exact (E_spec_Mend a a_a t_a b a_b t_b k).trans h4)

/-! ### 77 loop.example/g00462/impl.rowsMend -/
def c_impl_rowsMend : Code := (Tryz.f77.body).getD .skip
def g_impl_rowsMend : Env Unit := ⟨tys, [(105, s_impl_copyVals), (125, s_impl_keyOf), (126, s_impl_rowAt), (127, s_slices_Equal_Val)], 0⟩
def impl_rowsMend_l0_r (b : List qW) (t18 : List qW) (t19 : Int) (t : ByteArray × qE × List ByteArray) (out : List qS) (t20 : Int) (rec : qU → Int → Res) (k0 : qU → Res) : Res :=
 bif decide (t20 < t19) then
  bif inb t20 (List.length t18) then
   impl_keyOf t (nth [] t18 t20) fun (r : List qV) =>
    impl_rowAt t b r fun (r1 : Int) =>
     bif decide (r1 < 0) then
      bif lim ((List.length out) + 1) then
       rec (out ++ [(3, t.1, r, [], 0, eS, [], [], eS, eS)]) (wi64 (t20 + 1))
      else none
     else
      rec out (wi64 (t20 + 1))
  else none
 else
  k0 out
def impl_rowsMend_l0_s (b : List qW) (t18 : List qW) (t19 : Int) (t : ByteArray × qE × List ByteArray) : (qU × Int) → (qU × Int → Res) → ((qU → Res)) → Res := fun v rec q => impl_rowsMend_l0_r b t18 t19 t v.1 v.2 (fun out t20 => rec (out, t20)) q
def impl_rowsMend_l0 (b : List qW) (t18 : List qW) (t19 : Int) (t : ByteArray × qE × List ByteArray) (n : Nat) (out : List qS) (t20 : Int) (k0 : qU → Res) : Res := iter (impl_rowsMend_l0_s b t18 t19 t) n (out, t20) (k0)
def ximpl_rowsMend_l0 : Node Unit := fun σ k => rdN σ 103 <| rdV σ 1 y12 false [.S] fun a => rdV σ 2 y12 false [.S] fun b => rdT σ 3 (.ptr ⟨true, 3, []⟩) <| rdV σ 7 y24 false [.O] fun out => rdV σ 18 y12 false [.S] fun t18 => rdV σ 19 (.int .i64) false [] fun t19 => rdV σ 20 (.int .i64) false [] fun t20 => rdB σ 3 y9 [.S, .S] fun a1 t => impl_rowsMend_l0 b t18 t19 t FUEL out t20 (fun (out1 : List qS) => k (.exit 0) (mkS 103 103 [(1, .val ⟨y12, false, a, [.S]⟩), (2, .val ⟨y12, false, b, [.S]⟩), (3, .ptr ⟨true, 3, []⟩), (7, .val ⟨y24, false, out1, [.O]⟩)] [(3, ⟨y9, a1, t, [.S, .S]⟩)]))
theorem eimpl_rowsMend_l0 (a : List qW) (b : List qW) (t18 : List qW) (t19 : Int) (a1 : Bool) (t : ByteArray × qE × List ByteArray) (n : Nat) (v : qU × Int) (k : Kont Unit) : loopC (codeC g_impl_rowsMend [] .o (Code.pl (Code.pl (Code.pr (Code.pl (Code.pr (Code.pr c_impl_rowsMend))))))) (fun σ => σ.forget [1, 2, 3, 7, 18, 19, 20] [3]) (cutC ([], []) [(0, [1, 2, 3, 7], [3])] ([], [])) n (mkS 103 103 [(1, .val ⟨y12, false, a, [.S]⟩), (2, .val ⟨y12, false, b, [.S]⟩), (3, .ptr ⟨true, 3, []⟩), (7, .val ⟨y24, false, v.1, [.O]⟩), (18, .val ⟨y12, false, t18, [.S]⟩), (19, .val ⟨(.int .i64), false, t19, []⟩), (20, .val ⟨(.int .i64), false, v.2, []⟩)] [(3, ⟨y9, a1, t, [.S, .S]⟩)]) k = iter (impl_rowsMend_l0_s b t18 t19 t) n v ((fun (k : Kont Unit) => (((fun (out1 : List qS) => k (.exit 0) (mkS 103 103 [(1, .val ⟨y12, false, a, [.S]⟩), (2, .val ⟨y12, false, b, [.S]⟩), (3, .ptr ⟨true, 3, []⟩), (7, .val ⟨y24, false, out1, [.O]⟩)] [(3, ⟨y9, a1, t, [.S, .S]⟩)]))) : (qU → Res))) k) := loop_eq (fun v : qU × Int => (mkS 103 103 [(1, .val ⟨y12, false, a, [.S]⟩), (2, .val ⟨y12, false, b, [.S]⟩), (3, .ptr ⟨true, 3, []⟩), (7, .val ⟨y24, false, v.1, [.O]⟩), (18, .val ⟨y12, false, t18, [.S]⟩), (19, .val ⟨(.int .i64), false, t19, []⟩), (20, .val ⟨(.int .i64), false, v.2, []⟩)] [(3, ⟨y9, a1, t, [.S, .S]⟩)])) (impl_rowsMend_l0_s b t18 t19 t) (fun (k : Kont Unit) => (((fun (out1 : List qS) => k (.exit 0) (mkS 103 103 [(1, .val ⟨y12, false, a, [.S]⟩), (2, .val ⟨y12, false, b, [.S]⟩), (3, .ptr ⟨true, 3, []⟩), (7, .val ⟨y24, false, out1, [.O]⟩)] [(3, ⟨y9, a1, t, [.S, .S]⟩)]))) : (qU → Res))) (fun v rec k => by kernel_rfl) n v k
theorem oimpl_rowsMend_l0 {W0 : Base} {M : Nat → Prop} (hnp : W0.np ≤ 0) : CodeOk Tryz.prog W0 M (Code.pl (Code.pr (Code.pl (Code.pr (Code.pr c_impl_rowsMend))))) ximpl_rowsMend_l0 := show CodeOk Tryz.prog W0 M (Code.loop (Code.pl (Code.pl (Code.pr (Code.pl (Code.pr (Code.pr c_impl_rowsMend))))))) ximpl_rowsMend_l0 from loop_ok (code_sound follows tysOk (calls_ok (fns_cons S_impl_copyVals (fns_cons S_impl_keyOf (fns_cons S_impl_rowAt (fns_cons S_slices_Equal_Val fns_nil))))) hnp [] (Code.pl (Code.pl (Code.pr (Code.pl (Code.pr (Code.pr c_impl_rowsMend)))))) .o trivial) (ks := [1, 2, 3, 7, 18, 19, 20]) (bs := [3]) (fX := (cutC ([], []) [(0, [1, 2, 3, 7], [3])] ([], []))) (cutC_le _ _ _) FUEL (by
 intro σ k r h
 obtain ⟨hn, h1⟩ := rdN_some h
 obtain ⟨a, hs1, h2⟩ := rdV_some h1
 obtain ⟨b, hs2, h3⟩ := rdV_some h2
 obtain ⟨hs3, h4⟩ := rdT_some h3
 obtain ⟨out, hs7, h5⟩ := rdV_some h4
 obtain ⟨t18, hs18, h6⟩ := rdV_some h5
 obtain ⟨t19, hs19, h7⟩ := rdV_some h6
 obtain ⟨t20, hs20, h8⟩ := rdV_some h7
 obtain ⟨a1, t, hb3, h9⟩ := rdB_some h8
 refine ⟨_, ?_, (eimpl_rowsMend_l0 a b t18 t19 a1 t FUEL (out, t20) k).trans h9⟩
 exact mkS_le hn ⟨hs1, hs2, hs3, hs7, hs18, hs19, hs20, trivial⟩ ⟨hb3, trivial⟩)
def impl_rowsMend_l1_r (a : List qW) (t40 : List qW) (t41 : Int) (t : ByteArray × qE × List ByteArray) (out : List qS) (t42 : Int) (rec : qU → Int → Res) (k0 : qU → Res) : Res :=
 bif decide (t42 < t41) then
  bif inb t42 (List.length t40) then
   impl_keyOf t (nth [] t40 t42) fun (r : List qV) =>
    impl_rowAt t a r fun (r1 : Int) =>
     bif decide (r1 ≥ 0) then
      bif inb r1 (List.length a) then
       slices_Equal_Val (nth [] a r1) (nth [] t40 t42) fun (r2 : Bool) =>
        bif !r2 then
         impl_copyVals (nth [] t40 t42) fun (r3 : List qV) =>
          bif lim ((List.length out) + 1) then
           rec (out ++ [(2, t.1, r, r3, 0, eS, [], [], eS, eS)]) (wi64 (t42 + 1))
          else none
        else
         rec out (wi64 (t42 + 1))
      else none
     else
      rec out (wi64 (t42 + 1))
  else none
 else
  k0 out
def impl_rowsMend_l1_s (a : List qW) (t40 : List qW) (t41 : Int) (t : ByteArray × qE × List ByteArray) : (qU × Int) → (qU × Int → Res) → ((qU → Res)) → Res := fun v rec q => impl_rowsMend_l1_r a t40 t41 t v.1 v.2 (fun out t42 => rec (out, t42)) q
def impl_rowsMend_l1 (a : List qW) (t40 : List qW) (t41 : Int) (t : ByteArray × qE × List ByteArray) (n : Nat) (out : List qS) (t42 : Int) (k0 : qU → Res) : Res := iter (impl_rowsMend_l1_s a t40 t41 t) n (out, t42) (k0)
def ximpl_rowsMend_l1 : Node Unit := fun σ k => rdN σ 103 <| rdV σ 1 y12 false [.S] fun a => rdV σ 2 y12 false [.S] fun b => rdT σ 3 (.ptr ⟨true, 3, []⟩) <| rdV σ 7 y24 false [.O] fun out => rdV σ 40 y12 false [.S] fun t40 => rdV σ 41 (.int .i64) false [] fun t41 => rdV σ 42 (.int .i64) false [] fun t42 => rdB σ 3 y9 [.S, .S] fun a1 t => impl_rowsMend_l1 a t40 t41 t FUEL out t42 (fun (out1 : List qS) => k (.exit 2) (mkS 103 103 [(1, .val ⟨y12, false, a, [.S]⟩), (2, .val ⟨y12, false, b, [.S]⟩), (3, .ptr ⟨true, 3, []⟩), (7, .val ⟨y24, false, out1, [.O]⟩)] [(3, ⟨y9, a1, t, [.S, .S]⟩)]))
theorem eimpl_rowsMend_l1 (a : List qW) (b : List qW) (t40 : List qW) (t41 : Int) (a1 : Bool) (t : ByteArray × qE × List ByteArray) (n : Nat) (v : qU × Int) (k : Kont Unit) : loopC (codeC g_impl_rowsMend [ximpl_rowsMend_l0] .o (Code.pl (Code.pl (Code.pr (Code.pl (Code.pr (Code.pr (Code.pr c_impl_rowsMend)))))))) (fun σ => σ.forget [1, 2, 3, 7, 40, 41, 42] [3]) (cutC ([], []) [(2, [1, 2, 3, 7], [3])] ([], [])) n (mkS 103 103 [(1, .val ⟨y12, false, a, [.S]⟩), (2, .val ⟨y12, false, b, [.S]⟩), (3, .ptr ⟨true, 3, []⟩), (7, .val ⟨y24, false, v.1, [.O]⟩), (40, .val ⟨y12, false, t40, [.S]⟩), (41, .val ⟨(.int .i64), false, t41, []⟩), (42, .val ⟨(.int .i64), false, v.2, []⟩)] [(3, ⟨y9, a1, t, [.S, .S]⟩)]) k = iter (impl_rowsMend_l1_s a t40 t41 t) n v ((fun (k : Kont Unit) => (((fun (out1 : List qS) => k (.exit 2) (mkS 103 103 [(1, .val ⟨y12, false, a, [.S]⟩), (2, .val ⟨y12, false, b, [.S]⟩), (3, .ptr ⟨true, 3, []⟩), (7, .val ⟨y24, false, out1, [.O]⟩)] [(3, ⟨y9, a1, t, [.S, .S]⟩)]))) : (qU → Res))) k) := loop_eq (fun v : qU × Int => (mkS 103 103 [(1, .val ⟨y12, false, a, [.S]⟩), (2, .val ⟨y12, false, b, [.S]⟩), (3, .ptr ⟨true, 3, []⟩), (7, .val ⟨y24, false, v.1, [.O]⟩), (40, .val ⟨y12, false, t40, [.S]⟩), (41, .val ⟨(.int .i64), false, t41, []⟩), (42, .val ⟨(.int .i64), false, v.2, []⟩)] [(3, ⟨y9, a1, t, [.S, .S]⟩)])) (impl_rowsMend_l1_s a t40 t41 t) (fun (k : Kont Unit) => (((fun (out1 : List qS) => k (.exit 2) (mkS 103 103 [(1, .val ⟨y12, false, a, [.S]⟩), (2, .val ⟨y12, false, b, [.S]⟩), (3, .ptr ⟨true, 3, []⟩), (7, .val ⟨y24, false, out1, [.O]⟩)] [(3, ⟨y9, a1, t, [.S, .S]⟩)]))) : (qU → Res))) (fun v rec k => by kernel_rfl) n v k
theorem oimpl_rowsMend_l1 {W0 : Base} {M : Nat → Prop} (hnp : W0.np ≤ 0) : CodeOk Tryz.prog W0 M (Code.pl (Code.pr (Code.pl (Code.pr (Code.pr (Code.pr c_impl_rowsMend)))))) ximpl_rowsMend_l1 := show CodeOk Tryz.prog W0 M (Code.loop (Code.pl (Code.pl (Code.pr (Code.pl (Code.pr (Code.pr (Code.pr c_impl_rowsMend)))))))) ximpl_rowsMend_l1 from loop_ok (code_sound follows tysOk (calls_ok (fns_cons S_impl_copyVals (fns_cons S_impl_keyOf (fns_cons S_impl_rowAt (fns_cons S_slices_Equal_Val fns_nil))))) hnp [ximpl_rowsMend_l0] (Code.pl (Code.pl (Code.pr (Code.pl (Code.pr (Code.pr (Code.pr c_impl_rowsMend))))))) .o trivial) (ks := [1, 2, 3, 7, 40, 41, 42]) (bs := [3]) (fX := (cutC ([], []) [(2, [1, 2, 3, 7], [3])] ([], []))) (cutC_le _ _ _) FUEL (by
 intro σ k r h
 obtain ⟨hn, h1⟩ := rdN_some h
 obtain ⟨a, hs1, h2⟩ := rdV_some h1
 obtain ⟨b, hs2, h3⟩ := rdV_some h2
 obtain ⟨hs3, h4⟩ := rdT_some h3
 obtain ⟨out, hs7, h5⟩ := rdV_some h4
 obtain ⟨t40, hs40, h6⟩ := rdV_some h5
 obtain ⟨t41, hs41, h7⟩ := rdV_some h6
 obtain ⟨t42, hs42, h8⟩ := rdV_some h7
 obtain ⟨a1, t, hb3, h9⟩ := rdB_some h8
 refine ⟨_, ?_, (eimpl_rowsMend_l1 a b t40 t41 a1 t FUEL (out, t42) k).trans h9⟩
 exact mkS_le hn ⟨hs1, hs2, hs3, hs7, hs40, hs41, hs42, trivial⟩ ⟨hb3, trivial⟩)
def impl_rowsMend_l2_r (a : List qW) (t78 : List qW) (t79 : Int) (t : ByteArray × qE × List ByteArray) (out : List qS) (t80 : Int) (rec : qU → Int → Res) (k0 : qU → Res) : Res :=
 bif decide (t80 < t79) then
  bif inb t80 (List.length t78) then
   impl_keyOf t (nth [] t78 t80) fun (r : List qV) =>
    impl_rowAt t a r fun (r1 : Int) =>
     bif decide (r1 < 0) then
      impl_copyVals (nth [] t78 t80) fun (r2 : List qV) =>
       bif lim ((List.length out) + 1) then
        rec (out ++ [(1, t.1, [], r2, 0, eS, [], [], eS, eS)]) (wi64 (t80 + 1))
       else none
     else
      rec out (wi64 (t80 + 1))
  else none
 else
  k0 out
def impl_rowsMend_l2_s (a : List qW) (t78 : List qW) (t79 : Int) (t : ByteArray × qE × List ByteArray) : (qU × Int) → (qU × Int → Res) → ((qU → Res)) → Res := fun v rec q => impl_rowsMend_l2_r a t78 t79 t v.1 v.2 (fun out t80 => rec (out, t80)) q
def impl_rowsMend_l2 (a : List qW) (t78 : List qW) (t79 : Int) (t : ByteArray × qE × List ByteArray) (n : Nat) (out : List qS) (t80 : Int) (k0 : qU → Res) : Res := iter (impl_rowsMend_l2_s a t78 t79 t) n (out, t80) (k0)
def ximpl_rowsMend_l2 : Node Unit := fun σ k => rdN σ 103 <| rdV σ 1 y12 false [.S] fun a => rdT σ 3 (.ptr ⟨true, 3, []⟩) <| rdV σ 7 y24 false [.O] fun out => rdV σ 78 y12 false [.S] fun t78 => rdV σ 79 (.int .i64) false [] fun t79 => rdV σ 80 (.int .i64) false [] fun t80 => rdB σ 3 y9 [.S, .S] fun a1 t => impl_rowsMend_l2 a t78 t79 t FUEL out t80 (fun (out1 : List qS) => k (.exit 4) (mkS 103 103 [(7, .val ⟨y24, false, out1, [.O]⟩)] []))
theorem eimpl_rowsMend_l2 (a : List qW) (t78 : List qW) (t79 : Int) (a1 : Bool) (t : ByteArray × qE × List ByteArray) (n : Nat) (v : qU × Int) (k : Kont Unit) : loopC (codeC g_impl_rowsMend [ximpl_rowsMend_l0, ximpl_rowsMend_l1] .o (Code.pl (Code.pl (Code.pr (Code.pl (Code.pr (Code.pr (Code.pr (Code.pr c_impl_rowsMend))))))))) (fun σ => σ.forget [1, 3, 7, 78, 79, 80] [3]) (cutC ([], []) [(4, [7], [])] ([], [])) n (mkS 103 103 [(1, .val ⟨y12, false, a, [.S]⟩), (3, .ptr ⟨true, 3, []⟩), (7, .val ⟨y24, false, v.1, [.O]⟩), (78, .val ⟨y12, false, t78, [.S]⟩), (79, .val ⟨(.int .i64), false, t79, []⟩), (80, .val ⟨(.int .i64), false, v.2, []⟩)] [(3, ⟨y9, a1, t, [.S, .S]⟩)]) k = iter (impl_rowsMend_l2_s a t78 t79 t) n v ((fun (k : Kont Unit) => (((fun (out1 : List qS) => k (.exit 4) (mkS 103 103 [(7, .val ⟨y24, false, out1, [.O]⟩)] []))) : (qU → Res))) k) := loop_eq (fun v : qU × Int => (mkS 103 103 [(1, .val ⟨y12, false, a, [.S]⟩), (3, .ptr ⟨true, 3, []⟩), (7, .val ⟨y24, false, v.1, [.O]⟩), (78, .val ⟨y12, false, t78, [.S]⟩), (79, .val ⟨(.int .i64), false, t79, []⟩), (80, .val ⟨(.int .i64), false, v.2, []⟩)] [(3, ⟨y9, a1, t, [.S, .S]⟩)])) (impl_rowsMend_l2_s a t78 t79 t) (fun (k : Kont Unit) => (((fun (out1 : List qS) => k (.exit 4) (mkS 103 103 [(7, .val ⟨y24, false, out1, [.O]⟩)] []))) : (qU → Res))) (fun v rec k => by kernel_rfl) n v k
theorem oimpl_rowsMend_l2 {W0 : Base} {M : Nat → Prop} (hnp : W0.np ≤ 0) : CodeOk Tryz.prog W0 M (Code.pl (Code.pr (Code.pl (Code.pr (Code.pr (Code.pr (Code.pr c_impl_rowsMend))))))) ximpl_rowsMend_l2 := show CodeOk Tryz.prog W0 M (Code.loop (Code.pl (Code.pl (Code.pr (Code.pl (Code.pr (Code.pr (Code.pr (Code.pr c_impl_rowsMend))))))))) ximpl_rowsMend_l2 from loop_ok (code_sound follows tysOk (calls_ok (fns_cons S_impl_copyVals (fns_cons S_impl_keyOf (fns_cons S_impl_rowAt (fns_cons S_slices_Equal_Val fns_nil))))) hnp [ximpl_rowsMend_l0, ximpl_rowsMend_l1] (Code.pl (Code.pl (Code.pr (Code.pl (Code.pr (Code.pr (Code.pr (Code.pr c_impl_rowsMend)))))))) .o trivial) (ks := [1, 3, 7, 78, 79, 80]) (bs := [3]) (fX := (cutC ([], []) [(4, [7], [])] ([], []))) (cutC_le _ _ _) FUEL (by
 intro σ k r h
 obtain ⟨hn, h1⟩ := rdN_some h
 obtain ⟨a, hs1, h2⟩ := rdV_some h1
 obtain ⟨hs3, h3⟩ := rdT_some h2
 obtain ⟨out, hs7, h4⟩ := rdV_some h3
 obtain ⟨t78, hs78, h5⟩ := rdV_some h4
 obtain ⟨t79, hs79, h6⟩ := rdV_some h5
 obtain ⟨t80, hs80, h7⟩ := rdV_some h6
 obtain ⟨a1, t, hb3, h8⟩ := rdB_some h7
 refine ⟨_, ?_, (eimpl_rowsMend_l2 a t78 t79 a1 t FUEL (out, t80) k).trans h8⟩
 exact mkS_le hn ⟨hs1, hs3, hs7, hs78, hs79, hs80, trivial⟩ ⟨hb3, trivial⟩)
def impl_rowsMend (t : ByteArray × qE × List ByteArray) (a : List qW) (b : List qW) (k0 : qU → Res) : Res :=
 impl_rowsMend_l0 b a (nI (List.length a)) t FUEL [] 0 fun (out : List qS) =>
  impl_rowsMend_l1 a b (nI (List.length b)) t FUEL out 0 fun (out1 : List qS) =>
   impl_rowsMend_l2 a b (nI (List.length b)) t FUEL out1 0 fun (out2 : List qS) =>
    k0 out2
def s_impl_rowsMend : Sig Unit := ⟨[.borrow y9 true, .borrow y12 false, .borrow y12 false], [false], fun vals ext k => av vals y9 fun t vals => av vals y12 fun a vals => av vals y12 fun b vals => nl vals <| nl ext <| impl_rowsMend t a b (fun (r0 : List qS) => k [⟨y24, false, r0, [.O]⟩] [] [])⟩
theorem E_impl_rowsMend (t : ByteArray × qE × List ByteArray) (a_t : Bool) (t_t : List Tag) (a : List qW) (a_a : Bool) (t_a : List Tag) (b : List qW) (a_b : Bool) (t_b : List Tag) (k : qK) : funC g_impl_rowsMend [ximpl_rowsMend_l0, ximpl_rowsMend_l1, ximpl_rowsMend_l2] (.t .o (.t .o (.t (.t .o (.t (.x 0) .o)) (.t (.t .o (.t (.x 1) .o)) (.t (.t .o (.t (.x 2) .o)) .o))))) false Tryz.f77 [.borrow y9 true, .borrow y12 false, .borrow y12 false] [false] [⟨y9, a_t, t, t_t⟩, ⟨y12, a_a, a, t_a⟩, ⟨y12, a_b, b, t_b⟩] [] k = impl_rowsMend t a b (fun (r0 : List qS) => k [⟨y24, false, r0, [.O]⟩] [] []) := by kernel_rfl
theorem S_impl_rowsMend : Sound Tryz.prog 77 s_impl_rowsMend := sound_of (Γ := g_impl_rowsMend) (X := [ximpl_rowsMend_l0, ximpl_rowsMend_l1, ximpl_rowsMend_l2]) (ht := (.t .o (.t .o (.t (.t .o (.t (.x 0) .o)) (.t (.t .o (.t (.x 1) .o)) (.t (.t .o (.t (.x 2) .o)) .o)))))) (fz := false) (c := c_impl_rowsMend) follows tysOk (fns_cons S_impl_copyVals (fns_cons S_impl_keyOf (fns_cons S_impl_rowAt (fns_cons S_slices_Equal_Val fns_nil)))) (OrOk.mk trivial ((OrOk.mk trivial ((OrOk.mk ((OrOk.mk trivial ((OrOk.mk (OrOk.x_mk (fun W0 M hnp => oimpl_rowsMend_l0 (W0 := W0) (M := M) hnp)) trivial)))) ((OrOk.mk ((OrOk.mk trivial ((OrOk.mk (OrOk.x_mk (fun W0 M hnp => oimpl_rowsMend_l1 (W0 := W0) (M := M) hnp)) trivial)))) ((OrOk.mk ((OrOk.mk trivial ((OrOk.mk (OrOk.x_mk (fun W0 M hnp => oimpl_rowsMend_l2 (W0 := W0) (M := M) hnp)) trivial)))) trivial))))))))) Tryz.func77 (by kernel_rfl) (by kernel_rfl) (by decide) (by
 intro vals ext k r h
 obtain ⟨t, a_t, t_t, vals, rfl, h1⟩ := av_some h
 obtain ⟨a, a_a, t_a, vals, rfl, h2⟩ := av_some h1
 obtain ⟨b, a_b, t_b, vals, rfl, h3⟩ := av_some h2
 obtain ⟨rfl, h4⟩ := nl_some h3
 obtain ⟨rfl, h5⟩ := nl_some h4
 exact (E_impl_rowsMend t a_t t_t a a_a t_a b a_b t_b k).trans h5)

/-! ### 31 loop.example/g00462/impl.Mend -/
def c_impl_Mend : Code := (Tryz.f31.body).getD .skip
def g_impl_Mend : Env Unit := ⟨tys, [(42, s_impl_DbOk), (75, s_slices_EqualFunc_Table), (77, s_impl_rowsMend)], 0⟩
def impl_Mend_l0_r (t30 : List qT) (t31 : Int) (a : qF × List qR) (b : qF × List qR) (out : List qS) (t32 : Int) (rec : qU → Int → Res) (k0 : qU → Res) : Res :=
 bif decide (t32 < t31) then
  bif inb t32 (List.length t30) then
   bif inb t32 (List.length a.2) then
    bif inb t32 (List.length b.2) then
     impl_rowsMend (nth (eS, [], []) t30 t32) (nth [] a.2 t32) (nth [] b.2 t32) fun (r : List qS) =>
      bif lim ((List.length out) + (List.length r)) then
       rec (out ++ r) (wi64 (t32 + 1))
      else none
    else none
   else none
  else none
 else
  k0 out
def impl_Mend_l0_s (t30 : List qT) (t31 : Int) (a : qF × List qR) (b : qF × List qR) : (qU × Int) → (qU × Int → Res) → ((qU → Res)) → Res := fun v rec q => impl_Mend_l0_r t30 t31 a b v.1 v.2 (fun out t32 => rec (out, t32)) q
def impl_Mend_l0 (t30 : List qT) (t31 : Int) (a : qF × List qR) (b : qF × List qR) (n : Nat) (out : List qS) (t32 : Int) (k0 : qU → Res) : Res := iter (impl_Mend_l0_s t30 t31 a b) n (out, t32) (k0)
def ximpl_Mend_l0 : Node Unit := fun σ k => rdN σ 55 <| rdT σ 2 (.ptr ⟨true, 2, []⟩) <| rdT σ 3 (.ptr ⟨true, 3, []⟩) <| rdV σ 6 y24 false [.O] fun out => rdV σ 30 y10 false [.S] fun t30 => rdV σ 31 (.int .i64) false [] fun t31 => rdV σ 32 (.int .i64) false [] fun t32 => rdB σ 2 y14 [.S, .S] fun a1 a => rdB σ 3 y14 [.S, .S] fun a2 b => impl_Mend_l0 t30 t31 a b FUEL out t32 (fun (out1 : List qS) => k (.exit 0) (mkS 55 55 [(6, .val ⟨y24, false, out1, [.O]⟩)] []))
theorem eimpl_Mend_l0 (t30 : List qT) (t31 : Int) (a1 : Bool) (a : qF × List qR) (a2 : Bool) (b : qF × List qR) (n : Nat) (v : qU × Int) (k : Kont Unit) : loopC (codeC g_impl_Mend [] .o (Code.pl (Code.pl (Code.pr (Code.pl (Code.pr (Code.pr (Code.pr c_impl_Mend)))))))) (fun σ => σ.forget [2, 3, 6, 30, 31, 32] [2, 3]) (cutC ([], []) [(0, [6], [])] ([], [])) n (mkS 55 55 [(2, .ptr ⟨true, 2, []⟩), (3, .ptr ⟨true, 3, []⟩), (6, .val ⟨y24, false, v.1, [.O]⟩), (30, .val ⟨y10, false, t30, [.S]⟩), (31, .val ⟨(.int .i64), false, t31, []⟩), (32, .val ⟨(.int .i64), false, v.2, []⟩)] [(2, ⟨y14, a1, a, [.S, .S]⟩), (3, ⟨y14, a2, b, [.S, .S]⟩)]) k = iter (impl_Mend_l0_s t30 t31 a b) n v ((fun (k : Kont Unit) => (((fun (out1 : List qS) => k (.exit 0) (mkS 55 55 [(6, .val ⟨y24, false, out1, [.O]⟩)] []))) : (qU → Res))) k) := loop_eq (fun v : qU × Int => (mkS 55 55 [(2, .ptr ⟨true, 2, []⟩), (3, .ptr ⟨true, 3, []⟩), (6, .val ⟨y24, false, v.1, [.O]⟩), (30, .val ⟨y10, false, t30, [.S]⟩), (31, .val ⟨(.int .i64), false, t31, []⟩), (32, .val ⟨(.int .i64), false, v.2, []⟩)] [(2, ⟨y14, a1, a, [.S, .S]⟩), (3, ⟨y14, a2, b, [.S, .S]⟩)])) (impl_Mend_l0_s t30 t31 a b) (fun (k : Kont Unit) => (((fun (out1 : List qS) => k (.exit 0) (mkS 55 55 [(6, .val ⟨y24, false, out1, [.O]⟩)] []))) : (qU → Res))) (fun v rec k => by kernel_rfl) n v k
theorem oimpl_Mend_l0 {W0 : Base} {M : Nat → Prop} (hnp : W0.np ≤ 0) : CodeOk Tryz.prog W0 M (Code.pl (Code.pr (Code.pl (Code.pr (Code.pr (Code.pr c_impl_Mend)))))) ximpl_Mend_l0 := show CodeOk Tryz.prog W0 M (Code.loop (Code.pl (Code.pl (Code.pr (Code.pl (Code.pr (Code.pr (Code.pr c_impl_Mend)))))))) ximpl_Mend_l0 from loop_ok (code_sound follows tysOk (calls_ok (fns_cons S_impl_DbOk (fns_cons S_slices_EqualFunc_Table (fns_cons S_impl_rowsMend fns_nil)))) hnp [] (Code.pl (Code.pl (Code.pr (Code.pl (Code.pr (Code.pr (Code.pr c_impl_Mend))))))) .o trivial) (ks := [2, 3, 6, 30, 31, 32]) (bs := [2, 3]) (fX := (cutC ([], []) [(0, [6], [])] ([], []))) (cutC_le _ _ _) FUEL (by
 intro σ k r h
 obtain ⟨hn, h1⟩ := rdN_some h
 obtain ⟨hs2, h2⟩ := rdT_some h1
 obtain ⟨hs3, h3⟩ := rdT_some h2
 obtain ⟨out, hs6, h4⟩ := rdV_some h3
 obtain ⟨t30, hs30, h5⟩ := rdV_some h4
 obtain ⟨t31, hs31, h6⟩ := rdV_some h5
 obtain ⟨t32, hs32, h7⟩ := rdV_some h6
 obtain ⟨a1, a, hb2, h8⟩ := rdB_some h7
 obtain ⟨a2, b, hb3, h9⟩ := rdB_some h8
 refine ⟨_, ?_, (eimpl_Mend_l0 t30 t31 a1 a a2 b FUEL (out, t32) k).trans h9⟩
 exact mkS_le hn ⟨hs2, hs3, hs6, hs30, hs31, hs32, trivial⟩ ⟨hb2, hb3, trivial⟩)
def impl_Mend (a : qF × List qR) (b : qF × List qR) (k0 : qU → Bool → Res) : Res :=
 impl_DbOk a fun (r : Bool) =>
  bif !r then
   k0 [] false
  else
   impl_DbOk b fun (r1 : Bool) =>
    bif !r1 then
     k0 [] false
    else
     slices_EqualFunc_Table a.1 b.1 () fun (r2 : Bool) =>
      bif !r2 then
       k0 [] false
      else
       impl_Mend_l0 a.1 (nI (List.length a.1)) a b FUEL [] 0 fun (out : List qS) =>
        k0 out true
def s_impl_Mend : Sig Unit := ⟨[.borrow y14 true, .borrow y14 true], [false, false], fun vals ext k => av vals y14 fun a vals => av vals y14 fun b vals => nl vals <| nl ext <| impl_Mend a b (fun (r0 : List qS) (r1 : Bool) => k [⟨y24, false, r0, [.O]⟩, ⟨.bool, false, r1, []⟩] [] [])⟩
theorem E_impl_Mend (a : qF × List qR) (a_a : Bool) (t_a : List Tag) (b : qF × List qR) (a_b : Bool) (t_b : List Tag) (k : qK) : funC g_impl_Mend [ximpl_Mend_l0] (.t .o (.t .o (.t .o (.t (.t .o (.t (.x 0) .o)) .o)))) false Tryz.f31 [.borrow y14 true, .borrow y14 true] [false, false] [⟨y14, a_a, a, t_a⟩, ⟨y14, a_b, b, t_b⟩] [] k = impl_Mend a b (fun (r0 : List qS) (r1 : Bool) => k [⟨y24, false, r0, [.O]⟩, ⟨.bool, false, r1, []⟩] [] []) := by kernel_rfl
theorem S_impl_Mend : Sound Tryz.prog 31 s_impl_Mend := sound_of (Γ := g_impl_Mend) (X := [ximpl_Mend_l0]) (ht := (.t .o (.t .o (.t .o (.t (.t .o (.t (.x 0) .o)) .o))))) (fz := false) (c := c_impl_Mend) follows tysOk (fns_cons S_impl_DbOk (fns_cons S_slices_EqualFunc_Table (fns_cons S_impl_rowsMend fns_nil))) (OrOk.mk trivial ((OrOk.mk trivial ((OrOk.mk trivial ((OrOk.mk ((OrOk.mk trivial ((OrOk.mk (OrOk.x_mk (fun W0 M hnp => oimpl_Mend_l0 (W0 := W0) (M := M) hnp)) trivial)))) trivial))))))) Tryz.func31 (by kernel_rfl) (by kernel_rfl) (by decide) (by
 intro vals ext k r h
 obtain ⟨a, a_a, t_a, vals, rfl, h1⟩ := av_some h
 obtain ⟨b, a_b, t_b, vals, rfl, h2⟩ := av_some h1
 obtain ⟨rfl, h3⟩ := nl_some h2
 obtain ⟨rfl, h4⟩ := nl_some h3
 exact (E_impl_Mend a a_a t_a b a_b t_b k).trans h4)
end Go.PI.G
end
noncomputable section
namespace Go.PI.G
open Go Go.PI Go.Proofs

/-! ### 196 loop.example/g00462/laws.szVal -/
def c_laws_szVal : Code := (Tryz.f196.body).getD .skip
def g_laws_szVal : Env Unit := ⟨tys, [], 0⟩
def laws_szVal (a : Int × Int × ByteArray) (left : Int) (k0 : Int → Res) : Res :=
 bif decide ((wi64 (left - (nI (ByteArray.size a.2.2)))) < 0) then
  k0 (-1)
 else
  k0 (wi64 (left - (nI (ByteArray.size a.2.2))))
def s_laws_szVal : Sig Unit := ⟨[.look y1 true, .look (.int .i64) false], [false], fun vals ext k => av vals y1 fun a vals => av vals (.int .i64) fun left vals => nl vals <| nl ext <| laws_szVal a left (fun (r0 : Int) => k [⟨(.int .i64), false, r0, []⟩] [] [])⟩
theorem E_laws_szVal (a : Int × Int × ByteArray) (a_a : Bool) (t_a : List Tag) (left : Int) (a_left : Bool) (t_left : List Tag) (k : qK) : funC g_laws_szVal [] .o false Tryz.f196 [.look y1 true, .look (.int .i64) false] [false] [⟨y1, a_a, a, t_a⟩, ⟨(.int .i64), a_left, left, t_left⟩] [] k = laws_szVal a left (fun (r0 : Int) => k [⟨(.int .i64), false, r0, []⟩] [] []) := by kernel_rfl
theorem S_laws_szVal : Sound Tryz.prog 196 s_laws_szVal := sound_of (Γ := g_laws_szVal) (X := []) (ht := .o) (fz := false) (c := c_laws_szVal) follows tysOk fns_nil trivial Tryz.func196 (by kernel_rfl) (by kernel_rfl) (by decide) (by
 intro vals ext k r h
 obtain ⟨a, a_a, t_a, vals, rfl, h1⟩ := av_some h
 obtain ⟨left, a_left, t_left, vals, rfl, h2⟩ := av_some h1
 obtain ⟨rfl, h3⟩ := nl_some h2
 obtain ⟨rfl, h4⟩ := nl_some h3
 exact (E_laws_szVal a a_a t_a left a_left t_left k).trans h4)

/-! ### 197 loop.example/g00462/laws.toVal -/
def c_laws_toVal : Code := (Tryz.f197.body).getD .skip
def g_laws_toVal : Env Unit := ⟨tys, [], 0⟩
def laws_toVal (a : Int × Int × ByteArray) (k0 : qV → Res) : Res :=
 k0 (a.1, a.2.1, a.2.2)
def s_laws_toVal : Sig Unit := ⟨[.look y1 true], [true], fun vals ext k => av vals y1 fun a vals => nl vals <| nl ext <| laws_toVal a (fun (r0 : Int × Int × ByteArray) => k [⟨y1, true, r0, []⟩] [] [])⟩
theorem E_laws_toVal (a : Int × Int × ByteArray) (a_a : Bool) (t_a : List Tag) (k : qK) : funC g_laws_toVal [] .o false Tryz.f197 [.look y1 true] [true] [⟨y1, a_a, a, t_a⟩] [] k = laws_toVal a (fun (r0 : Int × Int × ByteArray) => k [⟨y1, true, r0, []⟩] [] []) := by kernel_rfl
theorem S_laws_toVal : Sound Tryz.prog 197 s_laws_toVal := sound_of (Γ := g_laws_toVal) (X := []) (ht := .o) (fz := false) (c := c_laws_toVal) follows tysOk fns_nil trivial Tryz.func197 (by kernel_rfl) (by kernel_rfl) (by decide) (by
 intro vals ext k r h
 obtain ⟨a, a_a, t_a, vals, rfl, h1⟩ := av_some h
 obtain ⟨rfl, h2⟩ := nl_some h1
 obtain ⟨rfl, h3⟩ := nl_some h2
 exact (E_laws_toVal a a_a t_a k).trans h3)

/-! ### 162 loop.example/g00462/laws.eqVal -/
def c_laws_eqVal : Code := (Tryz.f162.body).getD .skip
def g_laws_eqVal : Env Unit := ⟨tys, [], 0⟩
def laws_eqVal (a : Int × Int × ByteArray) (b : Int × Int × ByteArray) (k0 : Bool → Res) : Res :=
 bif (a.1 != b.1) then
  k0 false
 else
  bif (a.2.1 != b.2.1) then
   k0 false
  else
   bif sNe a.2.2 b.2.2 then
    k0 false
   else
    k0 true
def s_laws_eqVal : Sig Unit := ⟨[.look y1 true, .look y1 true], [false], fun vals ext k => av vals y1 fun a vals => av vals y1 fun b vals => nl vals <| nl ext <| laws_eqVal a b (fun (r0 : Bool) => k [⟨.bool, false, r0, []⟩] [] [])⟩
theorem E_laws_eqVal (a : Int × Int × ByteArray) (a_a : Bool) (t_a : List Tag) (b : Int × Int × ByteArray) (a_b : Bool) (t_b : List Tag) (k : qK) : funC g_laws_eqVal [] .o false Tryz.f162 [.look y1 true, .look y1 true] [false] [⟨y1, a_a, a, t_a⟩, ⟨y1, a_b, b, t_b⟩] [] k = laws_eqVal a b (fun (r0 : Bool) => k [⟨.bool, false, r0, []⟩] [] []) := by kernel_rfl
theorem S_laws_eqVal : Sound Tryz.prog 162 s_laws_eqVal := sound_of (Γ := g_laws_eqVal) (X := []) (ht := .o) (fz := false) (c := c_laws_eqVal) follows tysOk fns_nil trivial Tryz.func162 (by kernel_rfl) (by kernel_rfl) (by decide) (by
 intro vals ext k r h
 obtain ⟨a, a_a, t_a, vals, rfl, h1⟩ := av_some h
 obtain ⟨b, a_b, t_b, vals, rfl, h2⟩ := av_some h1
 obtain ⟨rfl, h3⟩ := nl_some h2
 obtain ⟨rfl, h4⟩ := nl_some h3
 exact (E_laws_eqVal a a_a t_a b a_b t_b k).trans h4)
end Go.PI.G
end
noncomputable section
namespace Go.PI.G
open Go Go.PI Go.Proofs

/-! ### 190 loop.example/g00462/laws.szCol -/
def c_laws_szCol : Code := (Tryz.f190.body).getD .skip
def g_laws_szCol : Env Unit := ⟨tys, [(196, s_laws_szVal)], 0⟩
def laws_szCol (a : ByteArray × Int × Bool × Bool × Int × Int × ByteArray) (left : Int) (k0 : Int → Res) : Res :=
 bif decide ((wi64 (left - (nI (ByteArray.size a.1)))) < 0) then
  k0 (-1)
 else
  laws_szVal a.2.2.2.2 (wi64 (left - (nI (ByteArray.size a.1)))) fun (r : Int) =>
   bif decide (r < 0) then
    k0 (-1)
   else
    k0 r
def s_laws_szCol : Sig Unit := ⟨[.look y5 true, .look (.int .i64) false], [false], fun vals ext k => av vals y5 fun a vals => av vals (.int .i64) fun left vals => nl vals <| nl ext <| laws_szCol a left (fun (r0 : Int) => k [⟨(.int .i64), false, r0, []⟩] [] [])⟩
theorem E_laws_szCol (a : ByteArray × Int × Bool × Bool × Int × Int × ByteArray) (a_a : Bool) (t_a : List Tag) (left : Int) (a_left : Bool) (t_left : List Tag) (k : qK) : funC g_laws_szCol [] .o false Tryz.f190 [.look y5 true, .look (.int .i64) false] [false] [⟨y5, a_a, a, t_a⟩, ⟨(.int .i64), a_left, left, t_left⟩] [] k = laws_szCol a left (fun (r0 : Int) => k [⟨(.int .i64), false, r0, []⟩] [] []) := by kernel_rfl
theorem S_laws_szCol : Sound Tryz.prog 190 s_laws_szCol := sound_of (Γ := g_laws_szCol) (X := []) (ht := .o) (fz := false) (c := c_laws_szCol) follows tysOk (fns_cons S_laws_szVal fns_nil) trivial Tryz.func190 (by kernel_rfl) (by kernel_rfl) (by decide) (by
 intro vals ext k r h
 obtain ⟨a, a_a, t_a, vals, rfl, h1⟩ := av_some h
 obtain ⟨left, a_left, t_left, vals, rfl, h2⟩ := av_some h1
 obtain ⟨rfl, h3⟩ := nl_some h2
 obtain ⟨rfl, h4⟩ := nl_some h3
 exact (E_laws_szCol a a_a t_a left a_left t_left k).trans h4)

/-! ### 193 loop.example/g00462/laws.toCol -/
def c_laws_toCol : Code := (Tryz.f193.body).getD .skip
def g_laws_toCol : Env Unit := ⟨tys, [(197, s_laws_toVal)], 0⟩
def laws_toCol (a : ByteArray × Int × Bool × Bool × Int × Int × ByteArray) (k0 : qC → Res) : Res :=
 laws_toVal a.2.2.2.2 fun (r : Int × Int × ByteArray) =>
  k0 (a.1, a.2.1, a.2.2.1, a.2.2.2.1, r)
def s_laws_toCol : Sig Unit := ⟨[.look y5 true], [true], fun vals ext k => av vals y5 fun a vals => nl vals <| nl ext <| laws_toCol a (fun (r0 : ByteArray × Int × Bool × Bool × Int × Int × ByteArray) => k [⟨y5, true, r0, []⟩] [] [])⟩
theorem E_laws_toCol (a : ByteArray × Int × Bool × Bool × Int × Int × ByteArray) (a_a : Bool) (t_a : List Tag) (k : qK) : funC g_laws_toCol [] .o false Tryz.f193 [.look y5 true] [true] [⟨y5, a_a, a, t_a⟩] [] k = laws_toCol a (fun (r0 : ByteArray × Int × Bool × Bool × Int × Int × ByteArray) => k [⟨y5, true, r0, []⟩] [] []) := by kernel_rfl
theorem S_laws_toCol : Sound Tryz.prog 193 s_laws_toCol := sound_of (Γ := g_laws_toCol) (X := []) (ht := .o) (fz := false) (c := c_laws_toCol) follows tysOk (fns_cons S_laws_toVal fns_nil) trivial Tryz.func193 (by kernel_rfl) (by kernel_rfl) (by decide) (by
 intro vals ext k r h
 obtain ⟨a, a_a, t_a, vals, rfl, h1⟩ := av_some h
 obtain ⟨rfl, h2⟩ := nl_some h1
 obtain ⟨rfl, h3⟩ := nl_some h2
 exact (E_laws_toCol a a_a t_a k).trans h3)

/-! ### 189 loop.example/g00462/laws.eqCol -/
def c_laws_eqCol : Code := (Tryz.f189.body).getD .skip
def g_laws_eqCol : Env Unit := ⟨tys, [(162, s_laws_eqVal)], 0⟩
def laws_eqCol (a : ByteArray × Int × Bool × Bool × Int × Int × ByteArray) (b : ByteArray × Int × Bool × Bool × Int × Int × ByteArray) (k0 : Bool → Res) : Res :=
 bif sNe a.1 b.1 then
  k0 false
 else
  bif (a.2.1 != b.2.1) then
   k0 false
  else
   bif !(a.2.2.1 == b.2.2.1) then
    k0 false
   else
    bif !(a.2.2.2.1 == b.2.2.2.1) then
     k0 false
    else
     laws_eqVal a.2.2.2.2 b.2.2.2.2 fun (r : Bool) =>
      bif !r then
       k0 false
      else
       k0 true
def s_laws_eqCol : Sig Unit := ⟨[.look y5 true, .look y5 true], [false], fun vals ext k => av vals y5 fun a vals => av vals y5 fun b vals => nl vals <| nl ext <| laws_eqCol a b (fun (r0 : Bool) => k [⟨.bool, false, r0, []⟩] [] [])⟩
theorem E_laws_eqCol (a : ByteArray × Int × Bool × Bool × Int × Int × ByteArray) (a_a : Bool) (t_a : List Tag) (b : ByteArray × Int × Bool × Bool × Int × Int × ByteArray) (a_b : Bool) (t_b : List Tag) (k : qK) : funC g_laws_eqCol [] .o false Tryz.f189 [.look y5 true, .look y5 true] [false] [⟨y5, a_a, a, t_a⟩, ⟨y5, a_b, b, t_b⟩] [] k = laws_eqCol a b (fun (r0 : Bool) => k [⟨.bool, false, r0, []⟩] [] []) := by kernel_rfl
theorem S_laws_eqCol : Sound Tryz.prog 189 s_laws_eqCol := sound_of (Γ := g_laws_eqCol) (X := []) (ht := .o) (fz := false) (c := c_laws_eqCol) follows tysOk (fns_cons S_laws_eqVal fns_nil) trivial Tryz.func189 (by kernel_rfl) (by kernel_rfl) (by decide) (by
 intro vals ext k r h
 obtain ⟨a, a_a, t_a, vals, rfl, h1⟩ := av_some h
 obtain ⟨b, a_b, t_b, vals, rfl, h2⟩ := av_some h1
 obtain ⟨rfl, h3⟩ := nl_some h2
 obtain ⟨rfl, h4⟩ := nl_some h3
 exact (E_laws_eqCol a a_a t_a b a_b t_b k).trans h4)
end Go.PI.G
end
