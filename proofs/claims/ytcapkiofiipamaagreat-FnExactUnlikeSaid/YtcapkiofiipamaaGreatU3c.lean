/-
  Printed texts and plain laws. No conditions.
-/
import Derived.Test.YtcapkiofiipamaaGreatU3a
import Derived.Test.YtcapkiofiipamaaGreatU3b
set_option linter.unusedVariables false
set_option maxRecDepth 100000
noncomputable section
namespace Go.PI.G
open Go Go.PI Go.Proofs

/-! ### 166 loop.example/g00462/spec.l03Fits -/
def c_spec_l03Fits : Code := (Tryz.f166.body).getD .skip
def g_spec_l03Fits : Env Unit := ⟨tys, [(168, s_spec_ValOk)], 0⟩
def spec_l03Fits (c : ByteArray × Int × Bool × Bool × Int × Int × ByteArray) (v_ : Int × Int × ByteArray) (k0 : Bool → Res) : Res :=
 bif (v_.1 == 0) then
  spec_ValOk v_ fun (r : Bool) =>
   bif r then
    k0 (!c.2.2.1)
   else
    k0 false
 else
  spec_ValOk v_ fun (r1 : Bool) =>
   bif r1 then
    k0 (v_.1 == c.2.1)
   else
    k0 false
def s_spec_l03Fits : Sig Unit := ⟨[.look y5 true, .look y1 true], [false], fun vals ext k => av vals y5 fun c vals => av vals y1 fun v_ vals => nl vals <| nl ext <| spec_l03Fits c v_ (fun (r0 : Bool) => k [⟨.bool, false, r0, []⟩] [] [])⟩
theorem E_spec_l03Fits (c : ByteArray × Int × Bool × Bool × Int × Int × ByteArray) (a_c : Bool) (t_c : List Tag) (v_ : Int × Int × ByteArray) (a_v_ : Bool) (t_v_ : List Tag) (k : qK) : funC g_spec_l03Fits [] .o false Tryz.f166 [.look y5 true, .look y1 true] [false] [⟨y5, a_c, c, t_c⟩, ⟨y1, a_v_, v_, t_v_⟩] [] k = spec_l03Fits c v_ (fun (r0 : Bool) => k [⟨.bool, false, r0, []⟩] [] []) := by kernel_rfl
theorem S_spec_l03Fits : Sound Tryz.prog 166 s_spec_l03Fits := sound_of (Γ := g_spec_l03Fits) (X := []) (ht := .o) (fz := false) (c := c_spec_l03Fits) follows tysOk (fns_cons S_spec_ValOk fns_nil) trivial Tryz.func166 (by kernel_rfl) (by kernel_rfl) (by decide) (by
 intro vals ext k r h
 obtain ⟨c, a_c, t_c, vals, rfl, h1⟩ := av_some h
 obtain ⟨v_, a_v_, t_v_, vals, rfl, h2⟩ := av_some h1
 obtain ⟨rfl, h3⟩ := nl_some h2
 obtain ⟨rfl, h4⟩ := nl_some h3
 exact (E_spec_l03Fits c a_c t_c v_ a_v_ t_v_ k).trans h4)

/-! ### 133 loop.example/g00462/spec.RowOk -/
def c_spec_RowOk : Code := (Tryz.f133.body).getD .skip
def g_spec_RowOk : Env Unit := ⟨tys, [(119, s_spec_TableOk), (166, s_spec_l03Fits)], 0⟩
def spec_RowOk_l0_r (t20 : List qC) (t21 : Int) (r : List qV) (t22 : Int) (rec : Int → Res) (k0 : Unit → Res) (k1 : Unit → Res) : Res :=
 bif decide (t22 < t21) then
  bif inb t22 (List.length t20) then
   bif inb t22 (List.length r) then
    spec_l03Fits (nth (eS, 0, false, false, 0, 0, eS) t20 t22) (nth (0, 0, eS) r t22) fun (r1 : Bool) =>
     bif !r1 then
      k1 ()
     else
      rec (wi64 (t22 + 1))
   else none
  else none
 else
  k0 ()
def spec_RowOk_l0_s (t20 : List qC) (t21 : Int) (r : List qV) : Int → (Int → Res) → ((Unit → Res) × (Unit → Res)) → Res := fun v rec q => spec_RowOk_l0_r t20 t21 r v (fun t22 => rec (t22)) q.1 q.2
def spec_RowOk_l0 (t20 : List qC) (t21 : Int) (r : List qV) (n : Nat) (t22 : Int) (k0 : Unit → Res) (k1 : Unit → Res) : Res := iter (spec_RowOk_l0_s t20 t21 r) n (t22) (k0, k1)
def xspec_RowOk_l0 : Node Unit := fun σ k => rdN σ 36 <| rdT σ 3 (.ptr ⟨true, 3, []⟩) <| rdV σ 20 y6 false [.S] fun t20 => rdV σ 21 (.int .i64) false [] fun t21 => rdV σ 22 (.int .i64) false [] fun t22 => rdB σ 3 y11 [.S] fun a r => spec_RowOk_l0 t20 t21 r FUEL t22 (fun (_ : Unit) => k (.exit 0) (mkS 36 36 [] [])) (fun (_ : Unit) => k .ret (mkS 36 36 [(4, .val ⟨.bool, false, false, []⟩)] []))
theorem espec_RowOk_l0 (t20 : List qC) (t21 : Int) (a : Bool) (r : List qV) (n : Nat) (v : Int) (k : Kont Unit) : loopC (codeC g_spec_RowOk [] .o (Code.pl (Code.pl (Code.pr (Code.pl (Code.pr (Code.pr c_spec_RowOk))))))) (fun σ => σ.forget [3, 20, 21, 22] [3]) (cutC ([], []) [(0, [], [])] ([4], [])) n (mkS 36 36 [(3, .ptr ⟨true, 3, []⟩), (20, .val ⟨y6, false, t20, [.S]⟩), (21, .val ⟨(.int .i64), false, t21, []⟩), (22, .val ⟨(.int .i64), false, v, []⟩)] [(3, ⟨y11, a, r, [.S]⟩)]) k = iter (spec_RowOk_l0_s t20 t21 r) n v ((fun (k : Kont Unit) => (((fun (_ : Unit) => k (.exit 0) (mkS 36 36 [] [])), (fun (_ : Unit) => k .ret (mkS 36 36 [(4, .val ⟨.bool, false, false, []⟩)] []))) : (Unit → Res) × (Unit → Res))) k) := loop_eq (fun v : Int => (mkS 36 36 [(3, .ptr ⟨true, 3, []⟩), (20, .val ⟨y6, false, t20, [.S]⟩), (21, .val ⟨(.int .i64), false, t21, []⟩), (22, .val ⟨(.int .i64), false, v, []⟩)] [(3, ⟨y11, a, r, [.S]⟩)])) (spec_RowOk_l0_s t20 t21 r) (fun (k : Kont Unit) => (((fun (_ : Unit) => k (.exit 0) (mkS 36 36 [] [])), (fun (_ : Unit) => k .ret (mkS 36 36 [(4, .val ⟨.bool, false, false, []⟩)] []))) : (Unit → Res) × (Unit → Res))) (fun v rec k => by kernel_rfl) n v k
theorem ospec_RowOk_l0 {W0 : Base} {M : Nat → Prop} (hnp : W0.np ≤ 0) : CodeOk Tryz.prog W0 M (Code.pl (Code.pr (Code.pl (Code.pr (Code.pr c_spec_RowOk))))) xspec_RowOk_l0 := show CodeOk Tryz.prog W0 M (Code.loop (Code.pl (Code.pl (Code.pr (Code.pl (Code.pr (Code.pr c_spec_RowOk))))))) xspec_RowOk_l0 from loop_ok (code_sound follows tysOk (calls_ok (fns_cons S_spec_TableOk (fns_cons S_spec_l03Fits fns_nil))) hnp [] (Code.pl (Code.pl (Code.pr (Code.pl (Code.pr (Code.pr c_spec_RowOk)))))) .o trivial) (ks := [3, 20, 21, 22]) (bs := [3]) (fX := (cutC ([], []) [(0, [], [])] ([4], []))) (cutC_le _ _ _) FUEL (by
 intro σ k r h
 obtain ⟨hn, h1⟩ := rdN_some h
 obtain ⟨hs3, h2⟩ := rdT_some h1
 obtain ⟨t20, hs20, h3⟩ := rdV_some h2
 obtain ⟨t21, hs21, h4⟩ := rdV_some h3
 obtain ⟨t22, hs22, h5⟩ := rdV_some h4
 obtain ⟨a, r, hb3, h6⟩ := rdB_some h5
 refine ⟨_, ?_, (espec_RowOk_l0 t20 t21 a r FUEL (t22) k).trans h6⟩
 exact mkS_le hn ⟨hs3, hs20, hs21, hs22, trivial⟩ ⟨hb3, trivial⟩)
def spec_RowOk (t : ByteArray × qE × List ByteArray) (r : List qV) (k0 : Bool → Res) : Res :=
 spec_TableOk t fun (r1 : Bool) =>
  bif !r1 then
   k0 false
  else
   bif ((nI (List.length r)) != (nI (List.length t.2.1))) then
    k0 false
   else
    spec_RowOk_l0 t.2.1 (nI (List.length t.2.1)) r FUEL 0
     (fun (_ : Unit) =>
      k0 true)
     (fun (_ : Unit) =>
      k0 false)
def s_spec_RowOk : Sig Unit := ⟨[.look y9 true, .look y11 true], [false], fun vals ext k => av vals y9 fun t vals => av vals y11 fun r vals => nl vals <| nl ext <| spec_RowOk t r (fun (r0 : Bool) => k [⟨.bool, false, r0, []⟩] [] [])⟩
theorem E_spec_RowOk (t : ByteArray × qE × List ByteArray) (a_t : Bool) (t_t : List Tag) (r : List qV) (a_r : Bool) (t_r : List Tag) (k : qK) : funC g_spec_RowOk [xspec_RowOk_l0] (.t .o (.t .o (.t (.t .o (.t (.x 0) .o)) .o))) false Tryz.f133 [.look y9 true, .look y11 true] [false] [⟨y9, a_t, t, t_t⟩, ⟨y11, a_r, r, t_r⟩] [] k = spec_RowOk t r (fun (r0 : Bool) => k [⟨.bool, false, r0, []⟩] [] []) := by kernel_rfl
theorem S_spec_RowOk : Sound Tryz.prog 133 s_spec_RowOk := sound_of (Γ := g_spec_RowOk) (X := [xspec_RowOk_l0]) (ht := (.t .o (.t .o (.t (.t .o (.t (.x 0) .o)) .o)))) (fz := false) (c := c_spec_RowOk) follows tysOk (fns_cons S_spec_TableOk (fns_cons S_spec_l03Fits fns_nil)) (OrOk.mk trivial ((OrOk.mk trivial ((OrOk.mk ((OrOk.mk trivial ((OrOk.mk (OrOk.x_mk (fun W0 M hnp => ospec_RowOk_l0 (W0 := W0) (M := M) hnp)) trivial)))) trivial))))) Tryz.func133 (by kernel_rfl) (by kernel_rfl) (by decide) (by
 intro vals ext k r h
 obtain ⟨t, a_t, t_t, vals, rfl, h1⟩ := av_some h
 obtain ⟨r, a_r, t_r, vals, rfl, h2⟩ := av_some h1
 obtain ⟨rfl, h3⟩ := nl_some h2
 obtain ⟨rfl, h4⟩ := nl_some h3
 exact (E_spec_RowOk t a_t t_t r a_r t_r k).trans h4)

/-! ### 121 loop.example/g00462/spec.l03Key -/
def c_spec_l03Key : Code := (Tryz.f121.body).getD .skip
def g_spec_l03Key : Env Unit := ⟨tys, [(158, s_spec_ColAt)], 0⟩
def spec_l03Key_l0_r (t10 : List ByteArray) (t11 : Int) (t : ByteArray × qE × List ByteArray) (r : List qV) (out : List qV) (t12 : Int) (rec : qW → Int → Res) (k0 : qW → Res) : Res :=
 bif decide (t12 < t11) then
  bif inb t12 (List.length t10) then
   spec_ColAt t (nth eS t10 t12) fun (r1 : Int) =>
    bif inb r1 (List.length r) then
     bif lim ((List.length out) + 1) then
      rec (out ++ [nth (0, 0, eS) r r1]) (wi64 (t12 + 1))
     else none
    else none
  else none
 else
  k0 out
def spec_l03Key_l0_s (t10 : List ByteArray) (t11 : Int) (t : ByteArray × qE × List ByteArray) (r : List qV) : (qW × Int) → (qW × Int → Res) → ((qW → Res)) → Res := fun v rec q => spec_l03Key_l0_r t10 t11 t r v.1 v.2 (fun out t12 => rec (out, t12)) q
def spec_l03Key_l0 (t10 : List ByteArray) (t11 : Int) (t : ByteArray × qE × List ByteArray) (r : List qV) (n : Nat) (out : List qV) (t12 : Int) (k0 : qW → Res) : Res := iter (spec_l03Key_l0_s t10 t11 t r) n (out, t12) (k0)
def xspec_l03Key_l0 : Node Unit := fun σ k => rdN σ 28 <| rdT σ 2 (.ptr ⟨true, 2, []⟩) <| rdT σ 3 (.ptr ⟨true, 3, []⟩) <| rdV σ 5 y11 false [.O] fun out => rdV σ 10 y7 false [.S] fun t10 => rdV σ 11 (.int .i64) false [] fun t11 => rdV σ 12 (.int .i64) false [] fun t12 => rdB σ 2 y9 [.S, .S] fun a t => rdB σ 3 y11 [.S] fun a1 r => spec_l03Key_l0 t10 t11 t r FUEL out t12 (fun (out1 : List qV) => k (.exit 0) (mkS 28 28 [(5, .val ⟨y11, false, out1, [.O]⟩)] []))
theorem espec_l03Key_l0 (t10 : List ByteArray) (t11 : Int) (a : Bool) (t : ByteArray × qE × List ByteArray) (a1 : Bool) (r : List qV) (n : Nat) (v : qW × Int) (k : Kont Unit) : loopC (codeC g_spec_l03Key [] .o (Code.pl (Code.pl (Code.pr (Code.pl (Code.pr (Code.pr c_spec_l03Key))))))) (fun σ => σ.forget [2, 3, 5, 10, 11, 12] [2, 3]) (cutC ([], []) [(0, [5], [])] ([], [])) n (mkS 28 28 [(2, .ptr ⟨true, 2, []⟩), (3, .ptr ⟨true, 3, []⟩), (5, .val ⟨y11, false, v.1, [.O]⟩), (10, .val ⟨y7, false, t10, [.S]⟩), (11, .val ⟨(.int .i64), false, t11, []⟩), (12, .val ⟨(.int .i64), false, v.2, []⟩)] [(2, ⟨y9, a, t, [.S, .S]⟩), (3, ⟨y11, a1, r, [.S]⟩)]) k = iter (spec_l03Key_l0_s t10 t11 t r) n v ((fun (k : Kont Unit) => (((fun (out1 : List qV) => k (.exit 0) (mkS 28 28 [(5, .val ⟨y11, false, out1, [.O]⟩)] []))) : (qW → Res))) k) := loop_eq (fun v : qW × Int => (mkS 28 28 [(2, .ptr ⟨true, 2, []⟩), (3, .ptr ⟨true, 3, []⟩), (5, .val ⟨y11, false, v.1, [.O]⟩), (10, .val ⟨y7, false, t10, [.S]⟩), (11, .val ⟨(.int .i64), false, t11, []⟩), (12, .val ⟨(.int .i64), false, v.2, []⟩)] [(2, ⟨y9, a, t, [.S, .S]⟩), (3, ⟨y11, a1, r, [.S]⟩)])) (spec_l03Key_l0_s t10 t11 t r) (fun (k : Kont Unit) => (((fun (out1 : List qV) => k (.exit 0) (mkS 28 28 [(5, .val ⟨y11, false, out1, [.O]⟩)] []))) : (qW → Res))) (fun v rec k => by kernel_rfl) n v k
theorem ospec_l03Key_l0 {W0 : Base} {M : Nat → Prop} (hnp : W0.np ≤ 0) : CodeOk Tryz.prog W0 M (Code.pl (Code.pr (Code.pl (Code.pr (Code.pr c_spec_l03Key))))) xspec_l03Key_l0 := show CodeOk Tryz.prog W0 M (Code.loop (Code.pl (Code.pl (Code.pr (Code.pl (Code.pr (Code.pr c_spec_l03Key))))))) xspec_l03Key_l0 from loop_ok (code_sound follows tysOk (calls_ok (fns_cons S_spec_ColAt fns_nil)) hnp [] (Code.pl (Code.pl (Code.pr (Code.pl (Code.pr (Code.pr c_spec_l03Key)))))) .o trivial) (ks := [2, 3, 5, 10, 11, 12]) (bs := [2, 3]) (fX := (cutC ([], []) [(0, [5], [])] ([], []))) (cutC_le _ _ _) FUEL (by
 intro σ k r h
 obtain ⟨hn, h1⟩ := rdN_some h
 obtain ⟨hs2, h2⟩ := rdT_some h1
 obtain ⟨hs3, h3⟩ := rdT_some h2
 obtain ⟨out, hs5, h4⟩ := rdV_some h3
 obtain ⟨t10, hs10, h5⟩ := rdV_some h4
 obtain ⟨t11, hs11, h6⟩ := rdV_some h5
 obtain ⟨t12, hs12, h7⟩ := rdV_some h6
 obtain ⟨a, t, hb2, h8⟩ := rdB_some h7
 obtain ⟨a1, r, hb3, h9⟩ := rdB_some h8
 refine ⟨_, ?_, (espec_l03Key_l0 t10 t11 a t a1 r FUEL (out, t12) k).trans h9⟩
 exact mkS_le hn ⟨hs2, hs3, hs5, hs10, hs11, hs12, trivial⟩ ⟨hb2, hb3, trivial⟩)
def spec_l03Key (t : ByteArray × qE × List ByteArray) (r : List qV) (k0 : qW → Res) : Res :=
 spec_l03Key_l0 t.2.2 (nI (List.length t.2.2)) t r FUEL [] 0 fun (out : List qV) =>
  k0 out
def s_spec_l03Key : Sig Unit := ⟨[.borrow y9 true, .borrow y11 true], [false], fun vals ext k => av vals y9 fun t vals => av vals y11 fun r vals => nl vals <| nl ext <| spec_l03Key t r (fun (r0 : List qV) => k [⟨y11, false, r0, [.O]⟩] [] [])⟩
theorem E_spec_l03Key (t : ByteArray × qE × List ByteArray) (a_t : Bool) (t_t : List Tag) (r : List qV) (a_r : Bool) (t_r : List Tag) (k : qK) : funC g_spec_l03Key [xspec_l03Key_l0] (.t .o (.t .o (.t (.t .o (.t (.x 0) .o)) .o))) false Tryz.f121 [.borrow y9 true, .borrow y11 true] [false] [⟨y9, a_t, t, t_t⟩, ⟨y11, a_r, r, t_r⟩] [] k = spec_l03Key t r (fun (r0 : List qV) => k [⟨y11, false, r0, [.O]⟩] [] []) := by kernel_rfl
theorem S_spec_l03Key : Sound Tryz.prog 121 s_spec_l03Key := sound_of (Γ := g_spec_l03Key) (X := [xspec_l03Key_l0]) (ht := (.t .o (.t .o (.t (.t .o (.t (.x 0) .o)) .o)))) (fz := false) (c := c_spec_l03Key) follows tysOk (fns_cons S_spec_ColAt fns_nil) (OrOk.mk trivial ((OrOk.mk trivial ((OrOk.mk ((OrOk.mk trivial ((OrOk.mk (OrOk.x_mk (fun W0 M hnp => ospec_l03Key_l0 (W0 := W0) (M := M) hnp)) trivial)))) trivial))))) Tryz.func121 (by kernel_rfl) (by kernel_rfl) (by decide) (by
 intro vals ext k r h
 obtain ⟨t, a_t, t_t, vals, rfl, h1⟩ := av_some h
 obtain ⟨r, a_r, t_r, vals, rfl, h2⟩ := av_some h1
 obtain ⟨rfl, h3⟩ := nl_some h2
 obtain ⟨rfl, h4⟩ := nl_some h3
 exact (E_spec_l03Key t a_t t_t r a_r t_r k).trans h4)

/-! ### 134 loop.example/g00462/spec.KeyLess -/
def c_spec_KeyLess : Code := (Tryz.f134.body).getD .skip
def g_spec_KeyLess : Env Unit := ⟨tys, [(167, s_spec_ValLess)], 0⟩
def spec_KeyLess_l0_r (a : List qV) (b : List qV) (i : Int) (rec : Int → Res) (k0 : Unit → Res) (k1 : Bool → Res) : Res :=
 bif decide (i < (nI (List.length a))) then
  bif decide (i < (nI (List.length b))) then
   bif inb i (List.length a) then
    bif inb i (List.length b) then
     bif !(((nth (0, 0, eS) a i).1 == (nth (0, 0, eS) b i).1) && (((nth (0, 0, eS) a i).2.1 == (nth (0, 0, eS) b i).2.1) && (sEq (nth (0, 0, eS) a i).2.2 (nth (0, 0, eS) b i).2.2))) then
      bif inb i (List.length a) then
       bif inb i (List.length b) then
        spec_ValLess (nth (0, 0, eS) a i) (nth (0, 0, eS) b i) fun (r : Bool) =>
         k1 r
       else none
      else none
     else
      rec (wi64 (i + 1))
    else none
   else none
  else
   k0 ()
 else
  k0 ()
def spec_KeyLess_l0_s (a : List qV) (b : List qV) : Int → (Int → Res) → ((Unit → Res) × (Bool → Res)) → Res := fun v rec q => spec_KeyLess_l0_r a b v (fun i => rec (i)) q.1 q.2
def spec_KeyLess_l0 (a : List qV) (b : List qV) (n : Nat) (i : Int) (k0 : Unit → Res) (k1 : Bool → Res) : Res := iter (spec_KeyLess_l0_s a b) n (i) (k0, k1)
def xspec_KeyLess_l0 : Node Unit := fun σ k => rdN σ 41 <| rdV σ 0 y11 false [.S] fun a => rdV σ 1 y11 false [.S] fun b => rdV σ 5 (.int .i64) false [] fun i => spec_KeyLess_l0 a b FUEL i (fun (_ : Unit) => k (.exit 0) (mkS 41 41 [(0, .val ⟨y11, false, a, [.S]⟩), (1, .val ⟨y11, false, b, [.S]⟩)] [])) (fun (t4 : Bool) => k .ret (mkS 41 41 [(4, .val ⟨.bool, false, t4, []⟩)] []))
theorem espec_KeyLess_l0 (a : List qV) (b : List qV) (n : Nat) (v : Int) (k : Kont Unit) : loopC (codeC g_spec_KeyLess [] .o (Code.pl (Code.pl (Code.pr (Code.pl (Code.pr c_spec_KeyLess)))))) (fun σ => σ.forget [0, 1, 5] []) (cutC ([], []) [(0, [0, 1], [])] ([4], [])) n (mkS 41 41 [(0, .val ⟨y11, false, a, [.S]⟩), (1, .val ⟨y11, false, b, [.S]⟩), (5, .val ⟨(.int .i64), false, v, []⟩)] []) k = iter (spec_KeyLess_l0_s a b) n v ((fun (k : Kont Unit) => (((fun (_ : Unit) => k (.exit 0) (mkS 41 41 [(0, .val ⟨y11, false, a, [.S]⟩), (1, .val ⟨y11, false, b, [.S]⟩)] [])), (fun (t4 : Bool) => k .ret (mkS 41 41 [(4, .val ⟨.bool, false, t4, []⟩)] []))) : (Unit → Res) × (Bool → Res))) k) := loop_eq (fun v : Int => (mkS 41 41 [(0, .val ⟨y11, false, a, [.S]⟩), (1, .val ⟨y11, false, b, [.S]⟩), (5, .val ⟨(.int .i64), false, v, []⟩)] [])) (spec_KeyLess_l0_s a b) (fun (k : Kont Unit) => (((fun (_ : Unit) => k (.exit 0) (mkS 41 41 [(0, .val ⟨y11, false, a, [.S]⟩), (1, .val ⟨y11, false, b, [.S]⟩)] [])), (fun (t4 : Bool) => k .ret (mkS 41 41 [(4, .val ⟨.bool, false, t4, []⟩)] []))) : (Unit → Res) × (Bool → Res))) (fun v rec k => by kernel_rfl) n v k
theorem ospec_KeyLess_l0 {W0 : Base} {M : Nat → Prop} (hnp : W0.np ≤ 0) : CodeOk Tryz.prog W0 M (Code.pl (Code.pr (Code.pl (Code.pr c_spec_KeyLess)))) xspec_KeyLess_l0 := show CodeOk Tryz.prog W0 M (Code.loop (Code.pl (Code.pl (Code.pr (Code.pl (Code.pr c_spec_KeyLess)))))) xspec_KeyLess_l0 from loop_ok (code_sound follows tysOk (calls_ok (fns_cons S_spec_ValLess fns_nil)) hnp [] (Code.pl (Code.pl (Code.pr (Code.pl (Code.pr c_spec_KeyLess))))) .o trivial) (ks := [0, 1, 5]) (bs := []) (fX := (cutC ([], []) [(0, [0, 1], [])] ([4], []))) (cutC_le _ _ _) FUEL (by
 intro σ k r h
 obtain ⟨hn, h1⟩ := rdN_some h
 obtain ⟨a, hs0, h2⟩ := rdV_some h1
 obtain ⟨b, hs1, h3⟩ := rdV_some h2
 obtain ⟨i, hs5, h4⟩ := rdV_some h3
 refine ⟨_, ?_, (espec_KeyLess_l0 a b FUEL (i) k).trans h4⟩
 exact mkS_le hn ⟨hs0, hs1, hs5, trivial⟩ trivial)
def spec_KeyLess (a : List qV) (b : List qV) (k0 : Bool → Res) : Res :=
 spec_KeyLess_l0 a b FUEL 0
  (fun (_ : Unit) =>
   k0 (decide ((nI (List.length a)) < (nI (List.length b)))))
  (fun (t : Bool) =>
   k0 t)
def s_spec_KeyLess : Sig Unit := ⟨[.look y11 false, .look y11 false], [false], fun vals ext k => av vals y11 fun a vals => av vals y11 fun b vals => nl vals <| nl ext <| spec_KeyLess a b (fun (r0 : Bool) => k [⟨.bool, false, r0, []⟩] [] [])⟩
theorem E_spec_KeyLess (a : List qV) (a_a : Bool) (t_a : List Tag) (b : List qV) (a_b : Bool) (t_b : List Tag) (k : qK) : funC g_spec_KeyLess [xspec_KeyLess_l0] (.t .o (.t (.t .o (.t (.x 0) .o)) .o)) false Tryz.f134 [.look y11 false, .look y11 false] [false] [⟨y11, a_a, a, t_a⟩, ⟨y11, a_b, b, t_b⟩] [] k = spec_KeyLess a b (fun (r0 : Bool) => k [⟨.bool, false, r0, []⟩] [] []) := by kernel_rfl
theorem S_spec_KeyLess : Sound Tryz.prog 134 s_spec_KeyLess := sound_of (Γ := g_spec_KeyLess) (X := [xspec_KeyLess_l0]) (ht := (.t .o (.t (.t .o (.t (.x 0) .o)) .o))) (fz := false) (c := c_spec_KeyLess) follows tysOk (fns_cons S_spec_ValLess fns_nil) (OrOk.mk trivial ((OrOk.mk ((OrOk.mk trivial ((OrOk.mk (OrOk.x_mk (fun W0 M hnp => ospec_KeyLess_l0 (W0 := W0) (M := M) hnp)) trivial)))) trivial))) Tryz.func134 (by kernel_rfl) (by kernel_rfl) (by decide) (by
 intro vals ext k r h
 obtain ⟨a, a_a, t_a, vals, rfl, h1⟩ := av_some h
 obtain ⟨b, a_b, t_b, vals, rfl, h2⟩ := av_some h1
 obtain ⟨rfl, h3⟩ := nl_some h2
 obtain ⟨rfl, h4⟩ := nl_some h3
 exact (E_spec_KeyLess a a_a t_a b a_b t_b k).trans h4)

/-! ### 86 loop.example/g00462/spec.RowsOk -/
def c_spec_RowsOk : Code := (Tryz.f86.body).getD .skip
def g_spec_RowsOk : Env Unit := ⟨tys, [(119, s_spec_TableOk), (121, s_spec_l03Key), (133, s_spec_RowOk), (134, s_spec_KeyLess)], 0⟩
def spec_RowsOk_l0_r (l : List qW) (t15 : List qW) (t16 : Int) (t : ByteArray × qE × List ByteArray) (t17 : Int) (rec : Int → Res) (k0 : Unit → Res) (k1 : Unit → Res) : Res :=
 bif decide (t17 < t16) then
  bif inb t17 (List.length t15) then
   spec_RowOk t (nth [] t15 t17) fun (r : Bool) =>
    bif !r then
     k1 ()
    else
     bif decide (t17 > 0) then
      bif inb (wi64 (t17 - 1)) (List.length l) then
       spec_l03Key t (nth [] l (wi64 (t17 - 1))) fun (r1 : List qV) =>
        spec_l03Key t (nth [] t15 t17) fun (r2 : List qV) =>
         spec_KeyLess r1 r2 fun (r3 : Bool) =>
          bif !r3 then
           k1 ()
          else
           rec (wi64 (t17 + 1))
      else none
     else
      rec (wi64 (t17 + 1))
  else none
 else
  k0 ()
def spec_RowsOk_l0_s (l : List qW) (t15 : List qW) (t16 : Int) (t : ByteArray × qE × List ByteArray) : Int → (Int → Res) → ((Unit → Res) × (Unit → Res)) → Res := fun v rec q => spec_RowsOk_l0_r l t15 t16 t v (fun t17 => rec (t17)) q.1 q.2
def spec_RowsOk_l0 (l : List qW) (t15 : List qW) (t16 : Int) (t : ByteArray × qE × List ByteArray) (n : Nat) (t17 : Int) (k0 : Unit → Res) (k1 : Unit → Res) : Res := iter (spec_RowsOk_l0_s l t15 t16 t) n (t17) (k0, k1)
def xspec_RowsOk_l0 : Node Unit := fun σ k => rdN σ 45 <| rdV σ 1 y12 false [.S] fun l => rdT σ 2 (.ptr ⟨true, 2, []⟩) <| rdV σ 15 y12 false [.S] fun t15 => rdV σ 16 (.int .i64) false [] fun t16 => rdV σ 17 (.int .i64) false [] fun t17 => rdB σ 2 y9 [.S, .S] fun a t => spec_RowsOk_l0 l t15 t16 t FUEL t17 (fun (_ : Unit) => k (.exit 0) (mkS 45 45 [] [])) (fun (_ : Unit) => k .ret (mkS 45 45 [(4, .val ⟨.bool, false, false, []⟩)] []))
theorem espec_RowsOk_l0 (l : List qW) (t15 : List qW) (t16 : Int) (a : Bool) (t : ByteArray × qE × List ByteArray) (n : Nat) (v : Int) (k : Kont Unit) : loopC (codeC g_spec_RowsOk [] .o (Code.pl (Code.pl (Code.pr (Code.pl (Code.pr (Code.pr c_spec_RowsOk))))))) (fun σ => σ.forget [1, 2, 15, 16, 17] [2]) (cutC ([], []) [(0, [], [])] ([4], [])) n (mkS 45 45 [(1, .val ⟨y12, false, l, [.S]⟩), (2, .ptr ⟨true, 2, []⟩), (15, .val ⟨y12, false, t15, [.S]⟩), (16, .val ⟨(.int .i64), false, t16, []⟩), (17, .val ⟨(.int .i64), false, v, []⟩)] [(2, ⟨y9, a, t, [.S, .S]⟩)]) k = iter (spec_RowsOk_l0_s l t15 t16 t) n v ((fun (k : Kont Unit) => (((fun (_ : Unit) => k (.exit 0) (mkS 45 45 [] [])), (fun (_ : Unit) => k .ret (mkS 45 45 [(4, .val ⟨.bool, false, false, []⟩)] []))) : (Unit → Res) × (Unit → Res))) k) := loop_eq (fun v : Int => (mkS 45 45 [(1, .val ⟨y12, false, l, [.S]⟩), (2, .ptr ⟨true, 2, []⟩), (15, .val ⟨y12, false, t15, [.S]⟩), (16, .val ⟨(.int .i64), false, t16, []⟩), (17, .val ⟨(.int .i64), false, v, []⟩)] [(2, ⟨y9, a, t, [.S, .S]⟩)])) (spec_RowsOk_l0_s l t15 t16 t) (fun (k : Kont Unit) => (((fun (_ : Unit) => k (.exit 0) (mkS 45 45 [] [])), (fun (_ : Unit) => k .ret (mkS 45 45 [(4, .val ⟨.bool, false, false, []⟩)] []))) : (Unit → Res) × (Unit → Res))) (fun v rec k => by kernel_rfl) n v k
theorem ospec_RowsOk_l0 {W0 : Base} {M : Nat → Prop} (hnp : W0.np ≤ 0) : CodeOk Tryz.prog W0 M (Code.pl (Code.pr (Code.pl (Code.pr (Code.pr c_spec_RowsOk))))) xspec_RowsOk_l0 := show CodeOk Tryz.prog W0 M (Code.loop (Code.pl (Code.pl (Code.pr (Code.pl (Code.pr (Code.pr c_spec_RowsOk))))))) xspec_RowsOk_l0 from loop_ok (code_sound follows tysOk (calls_ok (fns_cons S_spec_TableOk (fns_cons S_spec_l03Key (fns_cons S_spec_RowOk (fns_cons S_spec_KeyLess fns_nil))))) hnp [] (Code.pl (Code.pl (Code.pr (Code.pl (Code.pr (Code.pr c_spec_RowsOk)))))) .o trivial) (ks := [1, 2, 15, 16, 17]) (bs := [2]) (fX := (cutC ([], []) [(0, [], [])] ([4], []))) (cutC_le _ _ _) FUEL (by
 intro σ k r h
 obtain ⟨hn, h1⟩ := rdN_some h
 obtain ⟨l, hs1, h2⟩ := rdV_some h1
 obtain ⟨hs2, h3⟩ := rdT_some h2
 obtain ⟨t15, hs15, h4⟩ := rdV_some h3
 obtain ⟨t16, hs16, h5⟩ := rdV_some h4
 obtain ⟨t17, hs17, h6⟩ := rdV_some h5
 obtain ⟨a, t, hb2, h7⟩ := rdB_some h6
 refine ⟨_, ?_, (espec_RowsOk_l0 l t15 t16 a t FUEL (t17) k).trans h7⟩
 exact mkS_le hn ⟨hs1, hs2, hs15, hs16, hs17, trivial⟩ ⟨hb2, trivial⟩)
def spec_RowsOk (t : ByteArray × qE × List ByteArray) (l : List qW) (k0 : Bool → Res) : Res :=
 spec_TableOk t fun (r : Bool) =>
  bif !r then
   k0 false
  else
   bif decide ((nI (List.length l)) > 60) then
    k0 false
   else
    spec_RowsOk_l0 l l (nI (List.length l)) t FUEL 0
     (fun (_ : Unit) =>
      k0 true)
     (fun (_ : Unit) =>
      k0 false)
def s_spec_RowsOk : Sig Unit := ⟨[.look y9 true, .look y12 false], [false], fun vals ext k => av vals y9 fun t vals => av vals y12 fun l vals => nl vals <| nl ext <| spec_RowsOk t l (fun (r0 : Bool) => k [⟨.bool, false, r0, []⟩] [] [])⟩
theorem E_spec_RowsOk (t : ByteArray × qE × List ByteArray) (a_t : Bool) (t_t : List Tag) (l : List qW) (a_l : Bool) (t_l : List Tag) (k : qK) : funC g_spec_RowsOk [xspec_RowsOk_l0] (.t .o (.t .o (.t (.t .o (.t (.x 0) .o)) .o))) false Tryz.f86 [.look y9 true, .look y12 false] [false] [⟨y9, a_t, t, t_t⟩, ⟨y12, a_l, l, t_l⟩] [] k = spec_RowsOk t l (fun (r0 : Bool) => k [⟨.bool, false, r0, []⟩] [] []) := by kernel_rfl
theorem S_spec_RowsOk : Sound Tryz.prog 86 s_spec_RowsOk := sound_of (Γ := g_spec_RowsOk) (X := [xspec_RowsOk_l0]) (ht := (.t .o (.t .o (.t (.t .o (.t (.x 0) .o)) .o)))) (fz := false) (c := c_spec_RowsOk) follows tysOk (fns_cons S_spec_TableOk (fns_cons S_spec_l03Key (fns_cons S_spec_RowOk (fns_cons S_spec_KeyLess fns_nil)))) (OrOk.mk trivial ((OrOk.mk trivial ((OrOk.mk ((OrOk.mk trivial ((OrOk.mk (OrOk.x_mk (fun W0 M hnp => ospec_RowsOk_l0 (W0 := W0) (M := M) hnp)) trivial)))) trivial))))) Tryz.func86 (by kernel_rfl) (by kernel_rfl) (by decide) (by
 intro vals ext k r h
 obtain ⟨t, a_t, t_t, vals, rfl, h1⟩ := av_some h
 obtain ⟨l, a_l, t_l, vals, rfl, h2⟩ := av_some h1
 obtain ⟨rfl, h3⟩ := nl_some h2
 obtain ⟨rfl, h4⟩ := nl_some h3
 exact (E_spec_RowsOk t a_t t_t l a_l t_l k).trans h4)

/-! ### 174 loop.example/g00462/impl.stands -/
def c_impl_stands : Code := (Tryz.f174.body).getD .skip
def g_impl_stands : Env Unit := ⟨tys, [(176, s_impl_ValOk)], 0⟩
def impl_stands (c : ByteArray × Int × Bool × Bool × Int × Int × ByteArray) (v_ : Int × Int × ByteArray) (k0 : Bool → Res) : Res :=
 impl_ValOk v_ fun (r : Bool) =>
  bif r then
   bif (v_.1 == c.2.1) then
    k0 true
   else
    bif (v_.1 == 0) then
     k0 (!c.2.2.1)
    else
     k0 false
  else
   k0 false
def s_impl_stands : Sig Unit := ⟨[.look y5 true, .look y1 true], [false], fun vals ext k => av vals y5 fun c vals => av vals y1 fun v_ vals => nl vals <| nl ext <| impl_stands c v_ (fun (r0 : Bool) => k [⟨.bool, false, r0, []⟩] [] [])⟩
theorem E_impl_stands (c : ByteArray × Int × Bool × Bool × Int × Int × ByteArray) (a_c : Bool) (t_c : List Tag) (v_ : Int × Int × ByteArray) (a_v_ : Bool) (t_v_ : List Tag) (k : qK) : funC g_impl_stands [] .o false Tryz.f174 [.look y5 true, .look y1 true] [false] [⟨y5, a_c, c, t_c⟩, ⟨y1, a_v_, v_, t_v_⟩] [] k = impl_stands c v_ (fun (r0 : Bool) => k [⟨.bool, false, r0, []⟩] [] []) := by kernel_rfl
theorem S_impl_stands : Sound Tryz.prog 174 s_impl_stands := sound_of (Γ := g_impl_stands) (X := []) (ht := .o) (fz := false) (c := c_impl_stands) follows tysOk (fns_cons S_impl_ValOk fns_nil) trivial Tryz.func174 (by kernel_rfl) (by kernel_rfl) (by decide) (by
 intro vals ext k r h
 obtain ⟨c, a_c, t_c, vals, rfl, h1⟩ := av_some h
 obtain ⟨v_, a_v_, t_v_, vals, rfl, h2⟩ := av_some h1
 obtain ⟨rfl, h3⟩ := nl_some h2
 obtain ⟨rfl, h4⟩ := nl_some h3
 exact (E_impl_stands c a_c t_c v_ a_v_ t_v_ k).trans h4)

/-! ### 140 loop.example/g00462/impl.rowOk -/
def c_impl_rowOk : Code := (Tryz.f140.body).getD .skip
def g_impl_rowOk : Env Unit := ⟨tys, [(174, s_impl_stands)], 0⟩
def impl_rowOk_l0_r (t15 : List qV) (t16 : Int) (t : ByteArray × qE × List ByteArray) (t17 : Int) (rec : Int → Res) (k0 : Unit → Res) (k1 : Unit → Res) : Res :=
 bif decide (t17 < t16) then
  bif inb t17 (List.length t15) then
   bif inb t17 (List.length t.2.1) then
    impl_stands (nth (eS, 0, false, false, 0, 0, eS) t.2.1 t17) (nth (0, 0, eS) t15 t17) fun (r : Bool) =>
     bif !r then
      k1 ()
     else
      rec (wi64 (t17 + 1))
   else none
  else none
 else
  k0 ()
def impl_rowOk_l0_s (t15 : List qV) (t16 : Int) (t : ByteArray × qE × List ByteArray) : Int → (Int → Res) → ((Unit → Res) × (Unit → Res)) → Res := fun v rec q => impl_rowOk_l0_r t15 t16 t v (fun t17 => rec (t17)) q.1 q.2
def impl_rowOk_l0 (t15 : List qV) (t16 : Int) (t : ByteArray × qE × List ByteArray) (n : Nat) (t17 : Int) (k0 : Unit → Res) (k1 : Unit → Res) : Res := iter (impl_rowOk_l0_s t15 t16 t) n (t17) (k0, k1)
def ximpl_rowOk_l0 : Node Unit := fun σ k => rdN σ 31 <| rdT σ 2 (.ptr ⟨true, 2, []⟩) <| rdV σ 15 y11 false [.S] fun t15 => rdV σ 16 (.int .i64) false [] fun t16 => rdV σ 17 (.int .i64) false [] fun t17 => rdB σ 2 y9 [.S, .S] fun a t => impl_rowOk_l0 t15 t16 t FUEL t17 (fun (_ : Unit) => k (.exit 0) (mkS 31 31 [] [])) (fun (_ : Unit) => k .ret (mkS 31 31 [(4, .val ⟨.bool, false, false, []⟩)] []))
theorem eimpl_rowOk_l0 (t15 : List qV) (t16 : Int) (a : Bool) (t : ByteArray × qE × List ByteArray) (n : Nat) (v : Int) (k : Kont Unit) : loopC (codeC g_impl_rowOk [] .o (Code.pl (Code.pl (Code.pr (Code.pl (Code.pr (Code.pr c_impl_rowOk))))))) (fun σ => σ.forget [2, 15, 16, 17] [2]) (cutC ([], []) [(0, [], [])] ([4], [])) n (mkS 31 31 [(2, .ptr ⟨true, 2, []⟩), (15, .val ⟨y11, false, t15, [.S]⟩), (16, .val ⟨(.int .i64), false, t16, []⟩), (17, .val ⟨(.int .i64), false, v, []⟩)] [(2, ⟨y9, a, t, [.S, .S]⟩)]) k = iter (impl_rowOk_l0_s t15 t16 t) n v ((fun (k : Kont Unit) => (((fun (_ : Unit) => k (.exit 0) (mkS 31 31 [] [])), (fun (_ : Unit) => k .ret (mkS 31 31 [(4, .val ⟨.bool, false, false, []⟩)] []))) : (Unit → Res) × (Unit → Res))) k) := loop_eq (fun v : Int => (mkS 31 31 [(2, .ptr ⟨true, 2, []⟩), (15, .val ⟨y11, false, t15, [.S]⟩), (16, .val ⟨(.int .i64), false, t16, []⟩), (17, .val ⟨(.int .i64), false, v, []⟩)] [(2, ⟨y9, a, t, [.S, .S]⟩)])) (impl_rowOk_l0_s t15 t16 t) (fun (k : Kont Unit) => (((fun (_ : Unit) => k (.exit 0) (mkS 31 31 [] [])), (fun (_ : Unit) => k .ret (mkS 31 31 [(4, .val ⟨.bool, false, false, []⟩)] []))) : (Unit → Res) × (Unit → Res))) (fun v rec k => by kernel_rfl) n v k
theorem oimpl_rowOk_l0 {W0 : Base} {M : Nat → Prop} (hnp : W0.np ≤ 0) : CodeOk Tryz.prog W0 M (Code.pl (Code.pr (Code.pl (Code.pr (Code.pr c_impl_rowOk))))) ximpl_rowOk_l0 := show CodeOk Tryz.prog W0 M (Code.loop (Code.pl (Code.pl (Code.pr (Code.pl (Code.pr (Code.pr c_impl_rowOk))))))) ximpl_rowOk_l0 from loop_ok (code_sound follows tysOk (calls_ok (fns_cons S_impl_stands fns_nil)) hnp [] (Code.pl (Code.pl (Code.pr (Code.pl (Code.pr (Code.pr c_impl_rowOk)))))) .o trivial) (ks := [2, 15, 16, 17]) (bs := [2]) (fX := (cutC ([], []) [(0, [], [])] ([4], []))) (cutC_le _ _ _) FUEL (by
 intro σ k r h
 obtain ⟨hn, h1⟩ := rdN_some h
 obtain ⟨hs2, h2⟩ := rdT_some h1
 obtain ⟨t15, hs15, h3⟩ := rdV_some h2
 obtain ⟨t16, hs16, h4⟩ := rdV_some h3
 obtain ⟨t17, hs17, h5⟩ := rdV_some h4
 obtain ⟨a, t, hb2, h6⟩ := rdB_some h5
 refine ⟨_, ?_, (eimpl_rowOk_l0 t15 t16 a t FUEL (t17) k).trans h6⟩
 exact mkS_le hn ⟨hs2, hs15, hs16, hs17, trivial⟩ ⟨hb2, trivial⟩)
def impl_rowOk (t : ByteArray × qE × List ByteArray) (r : List qV) (k0 : Bool → Res) : Res :=
 bif ((nI (List.length r)) != (nI (List.length t.2.1))) then
  k0 false
 else
  impl_rowOk_l0 r (nI (List.length r)) t FUEL 0
   (fun (_ : Unit) =>
    k0 true)
   (fun (_ : Unit) =>
    k0 false)
def s_impl_rowOk : Sig Unit := ⟨[.look y9 true, .look y11 true], [false], fun vals ext k => av vals y9 fun t vals => av vals y11 fun r vals => nl vals <| nl ext <| impl_rowOk t r (fun (r0 : Bool) => k [⟨.bool, false, r0, []⟩] [] [])⟩
theorem E_impl_rowOk (t : ByteArray × qE × List ByteArray) (a_t : Bool) (t_t : List Tag) (r : List qV) (a_r : Bool) (t_r : List Tag) (k : qK) : funC g_impl_rowOk [ximpl_rowOk_l0] (.t .o (.t .o (.t (.t .o (.t (.x 0) .o)) .o))) false Tryz.f140 [.look y9 true, .look y11 true] [false] [⟨y9, a_t, t, t_t⟩, ⟨y11, a_r, r, t_r⟩] [] k = impl_rowOk t r (fun (r0 : Bool) => k [⟨.bool, false, r0, []⟩] [] []) := by kernel_rfl
theorem S_impl_rowOk : Sound Tryz.prog 140 s_impl_rowOk := sound_of (Γ := g_impl_rowOk) (X := [ximpl_rowOk_l0]) (ht := (.t .o (.t .o (.t (.t .o (.t (.x 0) .o)) .o)))) (fz := false) (c := c_impl_rowOk) follows tysOk (fns_cons S_impl_stands fns_nil) (OrOk.mk trivial ((OrOk.mk trivial ((OrOk.mk ((OrOk.mk trivial ((OrOk.mk (OrOk.x_mk (fun W0 M hnp => oimpl_rowOk_l0 (W0 := W0) (M := M) hnp)) trivial)))) trivial))))) Tryz.func140 (by kernel_rfl) (by kernel_rfl) (by decide) (by
 intro vals ext k r h
 obtain ⟨t, a_t, t_t, vals, rfl, h1⟩ := av_some h
 obtain ⟨r, a_r, t_r, vals, rfl, h2⟩ := av_some h1
 obtain ⟨rfl, h3⟩ := nl_some h2
 obtain ⟨rfl, h4⟩ := nl_some h3
 exact (E_impl_rowOk t a_t t_t r a_r t_r k).trans h4)

/-! ### 125 loop.example/g00462/impl.keyOf -/
def c_impl_keyOf : Code := (Tryz.f125.body).getD .skip
def g_impl_keyOf : Env Unit := ⟨tys, [(159, s_impl_ColAt)], 0⟩
def impl_keyOf_l0_r (t10 : List ByteArray) (t11 : Int) (t : ByteArray × qE × List ByteArray) (r : List qV) (out : List qV) (t12 : Int) (rec : qW → Int → Res) (k0 : qW → Res) : Res :=
 bif decide (t12 < t11) then
  bif inb t12 (List.length t10) then
   impl_ColAt t (nth eS t10 t12) fun (r1 : Int) =>
    bif inb r1 (List.length r) then
     bif lim ((List.length out) + 1) then
      rec (out ++ [nth (0, 0, eS) r r1]) (wi64 (t12 + 1))
     else none
    else none
  else none
 else
  k0 out
def impl_keyOf_l0_s (t10 : List ByteArray) (t11 : Int) (t : ByteArray × qE × List ByteArray) (r : List qV) : (qW × Int) → (qW × Int → Res) → ((qW → Res)) → Res := fun v rec q => impl_keyOf_l0_r t10 t11 t r v.1 v.2 (fun out t12 => rec (out, t12)) q
def impl_keyOf_l0 (t10 : List ByteArray) (t11 : Int) (t : ByteArray × qE × List ByteArray) (r : List qV) (n : Nat) (out : List qV) (t12 : Int) (k0 : qW → Res) : Res := iter (impl_keyOf_l0_s t10 t11 t r) n (out, t12) (k0)
def ximpl_keyOf_l0 : Node Unit := fun σ k => rdN σ 28 <| rdT σ 2 (.ptr ⟨true, 2, []⟩) <| rdT σ 3 (.ptr ⟨true, 3, []⟩) <| rdV σ 5 y11 false [.O] fun out => rdV σ 10 y7 false [.S] fun t10 => rdV σ 11 (.int .i64) false [] fun t11 => rdV σ 12 (.int .i64) false [] fun t12 => rdB σ 2 y9 [.S, .S] fun a t => rdB σ 3 y11 [.S] fun a1 r => impl_keyOf_l0 t10 t11 t r FUEL out t12 (fun (out1 : List qV) => k (.exit 0) (mkS 28 28 [(5, .val ⟨y11, false, out1, [.O]⟩)] []))
theorem eimpl_keyOf_l0 (t10 : List ByteArray) (t11 : Int) (a : Bool) (t : ByteArray × qE × List ByteArray) (a1 : Bool) (r : List qV) (n : Nat) (v : qW × Int) (k : Kont Unit) : loopC (codeC g_impl_keyOf [] .o (Code.pl (Code.pl (Code.pr (Code.pl (Code.pr (Code.pr c_impl_keyOf))))))) (fun σ => σ.forget [2, 3, 5, 10, 11, 12] [2, 3]) (cutC ([], []) [(0, [5], [])] ([], [])) n (mkS 28 28 [(2, .ptr ⟨true, 2, []⟩), (3, .ptr ⟨true, 3, []⟩), (5, .val ⟨y11, false, v.1, [.O]⟩), (10, .val ⟨y7, false, t10, [.S]⟩), (11, .val ⟨(.int .i64), false, t11, []⟩), (12, .val ⟨(.int .i64), false, v.2, []⟩)] [(2, ⟨y9, a, t, [.S, .S]⟩), (3, ⟨y11, a1, r, [.S]⟩)]) k = iter (impl_keyOf_l0_s t10 t11 t r) n v ((fun (k : Kont Unit) => (((fun (out1 : List qV) => k (.exit 0) (mkS 28 28 [(5, .val ⟨y11, false, out1, [.O]⟩)] []))) : (qW → Res))) k) := loop_eq (fun v : qW × Int => (mkS 28 28 [(2, .ptr ⟨true, 2, []⟩), (3, .ptr ⟨true, 3, []⟩), (5, .val ⟨y11, false, v.1, [.O]⟩), (10, .val ⟨y7, false, t10, [.S]⟩), (11, .val ⟨(.int .i64), false, t11, []⟩), (12, .val ⟨(.int .i64), false, v.2, []⟩)] [(2, ⟨y9, a, t, [.S, .S]⟩), (3, ⟨y11, a1, r, [.S]⟩)])) (impl_keyOf_l0_s t10 t11 t r) (fun (k : Kont Unit) => (((fun (out1 : List qV) => k (.exit 0) (mkS 28 28 [(5, .val ⟨y11, false, out1, [.O]⟩)] []))) : (qW → Res))) (fun v rec k => by kernel_rfl) n v k
theorem oimpl_keyOf_l0 {W0 : Base} {M : Nat → Prop} (hnp : W0.np ≤ 0) : CodeOk Tryz.prog W0 M (Code.pl (Code.pr (Code.pl (Code.pr (Code.pr c_impl_keyOf))))) ximpl_keyOf_l0 := show CodeOk Tryz.prog W0 M (Code.loop (Code.pl (Code.pl (Code.pr (Code.pl (Code.pr (Code.pr c_impl_keyOf))))))) ximpl_keyOf_l0 from loop_ok (code_sound follows tysOk (calls_ok (fns_cons S_impl_ColAt fns_nil)) hnp [] (Code.pl (Code.pl (Code.pr (Code.pl (Code.pr (Code.pr c_impl_keyOf)))))) .o trivial) (ks := [2, 3, 5, 10, 11, 12]) (bs := [2, 3]) (fX := (cutC ([], []) [(0, [5], [])] ([], []))) (cutC_le _ _ _) FUEL (by
 intro σ k r h
 obtain ⟨hn, h1⟩ := rdN_some h
 obtain ⟨hs2, h2⟩ := rdT_some h1
 obtain ⟨hs3, h3⟩ := rdT_some h2
 obtain ⟨out, hs5, h4⟩ := rdV_some h3
 obtain ⟨t10, hs10, h5⟩ := rdV_some h4
 obtain ⟨t11, hs11, h6⟩ := rdV_some h5
 obtain ⟨t12, hs12, h7⟩ := rdV_some h6
 obtain ⟨a, t, hb2, h8⟩ := rdB_some h7
 obtain ⟨a1, r, hb3, h9⟩ := rdB_some h8
 refine ⟨_, ?_, (eimpl_keyOf_l0 t10 t11 a t a1 r FUEL (out, t12) k).trans h9⟩
 exact mkS_le hn ⟨hs2, hs3, hs5, hs10, hs11, hs12, trivial⟩ ⟨hb2, hb3, trivial⟩)
def impl_keyOf (t : ByteArray × qE × List ByteArray) (r : List qV) (k0 : qW → Res) : Res :=
 impl_keyOf_l0 t.2.2 (nI (List.length t.2.2)) t r FUEL [] 0 fun (out : List qV) =>
  k0 out
def s_impl_keyOf : Sig Unit := ⟨[.borrow y9 true, .borrow y11 true], [false], fun vals ext k => av vals y9 fun t vals => av vals y11 fun r vals => nl vals <| nl ext <| impl_keyOf t r (fun (r0 : List qV) => k [⟨y11, false, r0, [.O]⟩] [] [])⟩
theorem E_impl_keyOf (t : ByteArray × qE × List ByteArray) (a_t : Bool) (t_t : List Tag) (r : List qV) (a_r : Bool) (t_r : List Tag) (k : qK) : funC g_impl_keyOf [ximpl_keyOf_l0] (.t .o (.t .o (.t (.t .o (.t (.x 0) .o)) .o))) false Tryz.f125 [.borrow y9 true, .borrow y11 true] [false] [⟨y9, a_t, t, t_t⟩, ⟨y11, a_r, r, t_r⟩] [] k = impl_keyOf t r (fun (r0 : List qV) => k [⟨y11, false, r0, [.O]⟩] [] []) := by kernel_rfl
theorem S_impl_keyOf : Sound Tryz.prog 125 s_impl_keyOf := sound_of (Γ := g_impl_keyOf) (X := [ximpl_keyOf_l0]) (ht := (.t .o (.t .o (.t (.t .o (.t (.x 0) .o)) .o)))) (fz := false) (c := c_impl_keyOf) follows tysOk (fns_cons S_impl_ColAt fns_nil) (OrOk.mk trivial ((OrOk.mk trivial ((OrOk.mk ((OrOk.mk trivial ((OrOk.mk (OrOk.x_mk (fun W0 M hnp => oimpl_keyOf_l0 (W0 := W0) (M := M) hnp)) trivial)))) trivial))))) Tryz.func125 (by kernel_rfl) (by kernel_rfl) (by decide) (by
 intro vals ext k r h
 obtain ⟨t, a_t, t_t, vals, rfl, h1⟩ := av_some h
 obtain ⟨r, a_r, t_r, vals, rfl, h2⟩ := av_some h1
 obtain ⟨rfl, h3⟩ := nl_some h2
 obtain ⟨rfl, h4⟩ := nl_some h3
 exact (E_impl_keyOf t a_t t_t r a_r t_r k).trans h4)

/-! ### 141 loop.example/g00462/impl.KeyLess -/
def c_impl_KeyLess : Code := (Tryz.f141.body).getD .skip
def g_impl_KeyLess : Env Unit := ⟨tys, [(175, s_impl_ValLess)], 0⟩
def impl_KeyLess_l0_r (a : List qV) (b : List qV) (i : Int) (rec : Int → Res) (k0 : Unit → Res) (k1 : Bool → Res) : Res :=
 bif decide (i < (nI (List.length a))) then
  bif decide (i < (nI (List.length b))) then
   bif inb i (List.length a) then
    bif inb i (List.length b) then
     bif !(((nth (0, 0, eS) a i).1 == (nth (0, 0, eS) b i).1) && (((nth (0, 0, eS) a i).2.1 == (nth (0, 0, eS) b i).2.1) && (sEq (nth (0, 0, eS) a i).2.2 (nth (0, 0, eS) b i).2.2))) then
      bif inb i (List.length a) then
       bif inb i (List.length b) then
        impl_ValLess (nth (0, 0, eS) a i) (nth (0, 0, eS) b i) fun (r : Bool) =>
         k1 r
       else none
      else none
     else
      rec (wi64 (i + 1))
    else none
   else none
  else
   k0 ()
 else
  k0 ()
def impl_KeyLess_l0_s (a : List qV) (b : List qV) : Int → (Int → Res) → ((Unit → Res) × (Bool → Res)) → Res := fun v rec q => impl_KeyLess_l0_r a b v (fun i => rec (i)) q.1 q.2
def impl_KeyLess_l0 (a : List qV) (b : List qV) (n : Nat) (i : Int) (k0 : Unit → Res) (k1 : Bool → Res) : Res := iter (impl_KeyLess_l0_s a b) n (i) (k0, k1)
def ximpl_KeyLess_l0 : Node Unit := fun σ k => rdN σ 41 <| rdV σ 0 y11 false [.S] fun a => rdV σ 1 y11 false [.S] fun b => rdV σ 5 (.int .i64) false [] fun i => impl_KeyLess_l0 a b FUEL i (fun (_ : Unit) => k (.exit 0) (mkS 41 41 [(0, .val ⟨y11, false, a, [.S]⟩), (1, .val ⟨y11, false, b, [.S]⟩)] [])) (fun (t4 : Bool) => k .ret (mkS 41 41 [(4, .val ⟨.bool, false, t4, []⟩)] []))
theorem eimpl_KeyLess_l0 (a : List qV) (b : List qV) (n : Nat) (v : Int) (k : Kont Unit) : loopC (codeC g_impl_KeyLess [] .o (Code.pl (Code.pl (Code.pr (Code.pl (Code.pr c_impl_KeyLess)))))) (fun σ => σ.forget [0, 1, 5] []) (cutC ([], []) [(0, [0, 1], [])] ([4], [])) n (mkS 41 41 [(0, .val ⟨y11, false, a, [.S]⟩), (1, .val ⟨y11, false, b, [.S]⟩), (5, .val ⟨(.int .i64), false, v, []⟩)] []) k = iter (impl_KeyLess_l0_s a b) n v ((fun (k : Kont Unit) => (((fun (_ : Unit) => k (.exit 0) (mkS 41 41 [(0, .val ⟨y11, false, a, [.S]⟩), (1, .val ⟨y11, false, b, [.S]⟩)] [])), (fun (t4 : Bool) => k .ret (mkS 41 41 [(4, .val ⟨.bool, false, t4, []⟩)] []))) : (Unit → Res) × (Bool → Res))) k) := loop_eq (fun v : Int => (mkS 41 41 [(0, .val ⟨y11, false, a, [.S]⟩), (1, .val ⟨y11, false, b, [.S]⟩), (5, .val ⟨(.int .i64), false, v, []⟩)] [])) (impl_KeyLess_l0_s a b) (fun (k : Kont Unit) => (((fun (_ : Unit) => k (.exit 0) (mkS 41 41 [(0, .val ⟨y11, false, a, [.S]⟩), (1, .val ⟨y11, false, b, [.S]⟩)] [])), (fun (t4 : Bool) => k .ret (mkS 41 41 [(4, .val ⟨.bool, false, t4, []⟩)] []))) : (Unit → Res) × (Bool → Res))) (fun v rec k => by kernel_rfl) n v k
theorem oimpl_KeyLess_l0 {W0 : Base} {M : Nat → Prop} (hnp : W0.np ≤ 0) : CodeOk Tryz.prog W0 M (Code.pl (Code.pr (Code.pl (Code.pr c_impl_KeyLess)))) ximpl_KeyLess_l0 := show CodeOk Tryz.prog W0 M (Code.loop (Code.pl (Code.pl (Code.pr (Code.pl (Code.pr c_impl_KeyLess)))))) ximpl_KeyLess_l0 from loop_ok (code_sound follows tysOk (calls_ok (fns_cons S_impl_ValLess fns_nil)) hnp [] (Code.pl (Code.pl (Code.pr (Code.pl (Code.pr c_impl_KeyLess))))) .o trivial) (ks := [0, 1, 5]) (bs := []) (fX := (cutC ([], []) [(0, [0, 1], [])] ([4], []))) (cutC_le _ _ _) FUEL (by
 intro σ k r h
 obtain ⟨hn, h1⟩ := rdN_some h
 obtain ⟨a, hs0, h2⟩ := rdV_some h1
 obtain ⟨b, hs1, h3⟩ := rdV_some h2
 obtain ⟨i, hs5, h4⟩ := rdV_some h3
 refine ⟨_, ?_, (eimpl_KeyLess_l0 a b FUEL (i) k).trans h4⟩
 exact mkS_le hn ⟨hs0, hs1, hs5, trivial⟩ trivial)
def impl_KeyLess (a : List qV) (b : List qV) (k0 : Bool → Res) : Res :=
 impl_KeyLess_l0 a b FUEL 0
  (fun (_ : Unit) =>
   k0 (decide ((nI (List.length a)) < (nI (List.length b)))))
  (fun (t : Bool) =>
   k0 t)
def s_impl_KeyLess : Sig Unit := ⟨[.look y11 false, .look y11 false], [false], fun vals ext k => av vals y11 fun a vals => av vals y11 fun b vals => nl vals <| nl ext <| impl_KeyLess a b (fun (r0 : Bool) => k [⟨.bool, false, r0, []⟩] [] [])⟩
theorem E_impl_KeyLess (a : List qV) (a_a : Bool) (t_a : List Tag) (b : List qV) (a_b : Bool) (t_b : List Tag) (k : qK) : funC g_impl_KeyLess [ximpl_KeyLess_l0] (.t .o (.t (.t .o (.t (.x 0) .o)) .o)) false Tryz.f141 [.look y11 false, .look y11 false] [false] [⟨y11, a_a, a, t_a⟩, ⟨y11, a_b, b, t_b⟩] [] k = impl_KeyLess a b (fun (r0 : Bool) => k [⟨.bool, false, r0, []⟩] [] []) := by kernel_rfl
theorem S_impl_KeyLess : Sound Tryz.prog 141 s_impl_KeyLess := sound_of (Γ := g_impl_KeyLess) (X := [ximpl_KeyLess_l0]) (ht := (.t .o (.t (.t .o (.t (.x 0) .o)) .o))) (fz := false) (c := c_impl_KeyLess) follows tysOk (fns_cons S_impl_ValLess fns_nil) (OrOk.mk trivial ((OrOk.mk ((OrOk.mk trivial ((OrOk.mk (OrOk.x_mk (fun W0 M hnp => oimpl_KeyLess_l0 (W0 := W0) (M := M) hnp)) trivial)))) trivial))) Tryz.func141 (by kernel_rfl) (by kernel_rfl) (by decide) (by
 intro vals ext k r h
 obtain ⟨a, a_a, t_a, vals, rfl, h1⟩ := av_some h
 obtain ⟨b, a_b, t_b, vals, rfl, h2⟩ := av_some h1
 obtain ⟨rfl, h3⟩ := nl_some h2
 obtain ⟨rfl, h4⟩ := nl_some h3
 exact (E_impl_KeyLess a a_a t_a b a_b t_b k).trans h4)

/-! ### 91 loop.example/g00462/impl.RowsOk -/
def c_impl_RowsOk : Code := (Tryz.f91.body).getD .skip
def g_impl_RowsOk : Env Unit := ⟨tys, [(125, s_impl_keyOf), (139, s_impl_TableOk), (140, s_impl_rowOk), (141, s_impl_KeyLess)], 0⟩
def impl_RowsOk_l0_r (l : List qW) (t15 : List qW) (t16 : Int) (t : ByteArray × qE × List ByteArray) (t17 : Int) (rec : Int → Res) (k0 : Unit → Res) (k1 : Unit → Res) : Res :=
 bif decide (t17 < t16) then
  bif inb t17 (List.length t15) then
   impl_rowOk t (nth [] t15 t17) fun (r : Bool) =>
    bif !r then
     k1 ()
    else
     bif decide (t17 > 0) then
      bif inb (wi64 (t17 - 1)) (List.length l) then
       impl_keyOf t (nth [] l (wi64 (t17 - 1))) fun (r1 : List qV) =>
        impl_keyOf t (nth [] t15 t17) fun (r2 : List qV) =>
         impl_KeyLess r1 r2 fun (r3 : Bool) =>
          bif !r3 then
           k1 ()
          else
           rec (wi64 (t17 + 1))
      else none
     else
      rec (wi64 (t17 + 1))
  else none
 else
  k0 ()
def impl_RowsOk_l0_s (l : List qW) (t15 : List qW) (t16 : Int) (t : ByteArray × qE × List ByteArray) : Int → (Int → Res) → ((Unit → Res) × (Unit → Res)) → Res := fun v rec q => impl_RowsOk_l0_r l t15 t16 t v (fun t17 => rec (t17)) q.1 q.2
def impl_RowsOk_l0 (l : List qW) (t15 : List qW) (t16 : Int) (t : ByteArray × qE × List ByteArray) (n : Nat) (t17 : Int) (k0 : Unit → Res) (k1 : Unit → Res) : Res := iter (impl_RowsOk_l0_s l t15 t16 t) n (t17) (k0, k1)
def ximpl_RowsOk_l0 : Node Unit := fun σ k => rdN σ 45 <| rdV σ 1 y12 false [.S] fun l => rdT σ 2 (.ptr ⟨true, 2, []⟩) <| rdV σ 15 y12 false [.S] fun t15 => rdV σ 16 (.int .i64) false [] fun t16 => rdV σ 17 (.int .i64) false [] fun t17 => rdB σ 2 y9 [.S, .S] fun a t => impl_RowsOk_l0 l t15 t16 t FUEL t17 (fun (_ : Unit) => k (.exit 0) (mkS 45 45 [] [])) (fun (_ : Unit) => k .ret (mkS 45 45 [(4, .val ⟨.bool, false, false, []⟩)] []))
theorem eimpl_RowsOk_l0 (l : List qW) (t15 : List qW) (t16 : Int) (a : Bool) (t : ByteArray × qE × List ByteArray) (n : Nat) (v : Int) (k : Kont Unit) : loopC (codeC g_impl_RowsOk [] .o (Code.pl (Code.pl (Code.pr (Code.pl (Code.pr (Code.pr c_impl_RowsOk))))))) (fun σ => σ.forget [1, 2, 15, 16, 17] [2]) (cutC ([], []) [(0, [], [])] ([4], [])) n (mkS 45 45 [(1, .val ⟨y12, false, l, [.S]⟩), (2, .ptr ⟨true, 2, []⟩), (15, .val ⟨y12, false, t15, [.S]⟩), (16, .val ⟨(.int .i64), false, t16, []⟩), (17, .val ⟨(.int .i64), false, v, []⟩)] [(2, ⟨y9, a, t, [.S, .S]⟩)]) k = iter (impl_RowsOk_l0_s l t15 t16 t) n v ((fun (k : Kont Unit) => (((fun (_ : Unit) => k (.exit 0) (mkS 45 45 [] [])), (fun (_ : Unit) => k .ret (mkS 45 45 [(4, .val ⟨.bool, false, false, []⟩)] []))) : (Unit → Res) × (Unit → Res))) k) := loop_eq (fun v : Int => (mkS 45 45 [(1, .val ⟨y12, false, l, [.S]⟩), (2, .ptr ⟨true, 2, []⟩), (15, .val ⟨y12, false, t15, [.S]⟩), (16, .val ⟨(.int .i64), false, t16, []⟩), (17, .val ⟨(.int .i64), false, v, []⟩)] [(2, ⟨y9, a, t, [.S, .S]⟩)])) (impl_RowsOk_l0_s l t15 t16 t) (fun (k : Kont Unit) => (((fun (_ : Unit) => k (.exit 0) (mkS 45 45 [] [])), (fun (_ : Unit) => k .ret (mkS 45 45 [(4, .val ⟨.bool, false, false, []⟩)] []))) : (Unit → Res) × (Unit → Res))) (fun v rec k => by kernel_rfl) n v k
theorem oimpl_RowsOk_l0 {W0 : Base} {M : Nat → Prop} (hnp : W0.np ≤ 0) : CodeOk Tryz.prog W0 M (Code.pl (Code.pr (Code.pl (Code.pr (Code.pr c_impl_RowsOk))))) ximpl_RowsOk_l0 := show CodeOk Tryz.prog W0 M (Code.loop (Code.pl (Code.pl (Code.pr (Code.pl (Code.pr (Code.pr c_impl_RowsOk))))))) ximpl_RowsOk_l0 from loop_ok (code_sound follows tysOk (calls_ok (fns_cons S_impl_keyOf (fns_cons S_impl_TableOk (fns_cons S_impl_rowOk (fns_cons S_impl_KeyLess fns_nil))))) hnp [] (Code.pl (Code.pl (Code.pr (Code.pl (Code.pr (Code.pr c_impl_RowsOk)))))) .o trivial) (ks := [1, 2, 15, 16, 17]) (bs := [2]) (fX := (cutC ([], []) [(0, [], [])] ([4], []))) (cutC_le _ _ _) FUEL (by
 intro σ k r h
 obtain ⟨hn, h1⟩ := rdN_some h
 obtain ⟨l, hs1, h2⟩ := rdV_some h1
 obtain ⟨hs2, h3⟩ := rdT_some h2
 obtain ⟨t15, hs15, h4⟩ := rdV_some h3
 obtain ⟨t16, hs16, h5⟩ := rdV_some h4
 obtain ⟨t17, hs17, h6⟩ := rdV_some h5
 obtain ⟨a, t, hb2, h7⟩ := rdB_some h6
 refine ⟨_, ?_, (eimpl_RowsOk_l0 l t15 t16 a t FUEL (t17) k).trans h7⟩
 exact mkS_le hn ⟨hs1, hs2, hs15, hs16, hs17, trivial⟩ ⟨hb2, trivial⟩)
def impl_RowsOk (t : ByteArray × qE × List ByteArray) (l : List qW) (k0 : Bool → Res) : Res :=
 impl_TableOk t fun (r : Bool) =>
  bif !r then
   k0 false
  else
   bif decide ((nI (List.length l)) > 60) then
    k0 false
   else
    impl_RowsOk_l0 l l (nI (List.length l)) t FUEL 0
     (fun (_ : Unit) =>
      k0 true)
     (fun (_ : Unit) =>
      k0 false)
def s_impl_RowsOk : Sig Unit := ⟨[.look y9 true, .look y12 false], [false], fun vals ext k => av vals y9 fun t vals => av vals y12 fun l vals => nl vals <| nl ext <| impl_RowsOk t l (fun (r0 : Bool) => k [⟨.bool, false, r0, []⟩] [] [])⟩
theorem E_impl_RowsOk (t : ByteArray × qE × List ByteArray) (a_t : Bool) (t_t : List Tag) (l : List qW) (a_l : Bool) (t_l : List Tag) (k : qK) : funC g_impl_RowsOk [ximpl_RowsOk_l0] (.t .o (.t .o (.t (.t .o (.t (.x 0) .o)) .o))) false Tryz.f91 [.look y9 true, .look y12 false] [false] [⟨y9, a_t, t, t_t⟩, ⟨y12, a_l, l, t_l⟩] [] k = impl_RowsOk t l (fun (r0 : Bool) => k [⟨.bool, false, r0, []⟩] [] []) := by kernel_rfl
theorem S_impl_RowsOk : Sound Tryz.prog 91 s_impl_RowsOk := sound_of (Γ := g_impl_RowsOk) (X := [ximpl_RowsOk_l0]) (ht := (.t .o (.t .o (.t (.t .o (.t (.x 0) .o)) .o)))) (fz := false) (c := c_impl_RowsOk) follows tysOk (fns_cons S_impl_keyOf (fns_cons S_impl_TableOk (fns_cons S_impl_rowOk (fns_cons S_impl_KeyLess fns_nil)))) (OrOk.mk trivial ((OrOk.mk trivial ((OrOk.mk ((OrOk.mk trivial ((OrOk.mk (OrOk.x_mk (fun W0 M hnp => oimpl_RowsOk_l0 (W0 := W0) (M := M) hnp)) trivial)))) trivial))))) Tryz.func91 (by kernel_rfl) (by kernel_rfl) (by decide) (by
 intro vals ext k r h
 obtain ⟨t, a_t, t_t, vals, rfl, h1⟩ := av_some h
 obtain ⟨l, a_l, t_l, vals, rfl, h2⟩ := av_some h1
 obtain ⟨rfl, h3⟩ := nl_some h2
 obtain ⟨rfl, h4⟩ := nl_some h3
 exact (E_impl_RowsOk t a_t t_t l a_l t_l k).trans h4)
end Go.PI.G
end
