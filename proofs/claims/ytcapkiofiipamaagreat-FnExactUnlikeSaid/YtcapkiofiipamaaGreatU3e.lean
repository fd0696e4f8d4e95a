/-
  Printed texts and plain laws. No conditions.
-/
import Derived.Test.YtcapkiofiipamaaGreatU3a
import Derived.Test.YtcapkiofiipamaaGreatU3b
import Derived.Test.YtcapkiofiipamaaGreatU3d
set_option linter.unusedVariables false
set_option maxRecDepth 100000
noncomputable section
namespace Go.PI.G
open Go Go.PI Go.Proofs

/-! ### 87 loop.example/g00462/spec.RowSum -/
def c_spec_RowSum : Code := (Tryz.f87.body).getD .skip
def g_spec_RowSum : Env Unit := ⟨tys, [(135, s_spec_Sum), (136, s_spec_RowText)], 0⟩
def spec_RowSum (r : List qV) (k0 : Int → Res) : Res :=
 spec_RowText r fun (r1 : ByteArray) =>
  bif lim (ByteArray.size r1) then
   spec_Sum (toBytes r1) fun (r2 : Int) =>
    k0 r2
  else none
def s_spec_RowSum : Sig Unit := ⟨[.look y11 true], [false], fun vals ext k => av vals y11 fun r vals => nl vals <| nl ext <| spec_RowSum r (fun (r0 : Int) => k [⟨(.int .i64), false, r0, []⟩] [] [])⟩
theorem E_spec_RowSum (r : List qV) (a_r : Bool) (t_r : List Tag) (k : qK) : funC g_spec_RowSum [] .o false Tryz.f87 [.look y11 true] [false] [⟨y11, a_r, r, t_r⟩] [] k = spec_RowSum r (fun (r0 : Int) => k [⟨(.int .i64), false, r0, []⟩] [] []) := by kernel_rfl
theorem S_spec_RowSum : Sound Tryz.prog 87 s_spec_RowSum := sound_of (Γ := g_spec_RowSum) (X := []) (ht := .o) (fz := false) (c := c_spec_RowSum) follows tysOk (fns_cons S_spec_Sum (fns_cons S_spec_RowText fns_nil)) trivial Tryz.func87 (by kernel_rfl) (by kernel_rfl) (by decide) (by
 intro vals ext k r h
 obtain ⟨r, a_r, t_r, vals, rfl, h1⟩ := av_some h
 obtain ⟨rfl, h2⟩ := nl_some h1
 obtain ⟨rfl, h3⟩ := nl_some h2
 exact (E_spec_RowSum r a_r t_r k).trans h3)

/-! ### 39 loop.example/g00462/spec.TableSum -/
def c_spec_TableSum : Code := (Tryz.f39.body).getD .skip
def g_spec_TableSum : Env Unit := ⟨tys, [(37, s_spec_DbOk), (38, s_spec_l02At), (87, s_spec_RowSum)], 0⟩
def spec_TableSum_l0_r (t25 : List qW) (t26 : Int) (n_ : Int) (t27 : Int) (rec : Int → Int → Res) (k0 : Int → Res) : Res :=
 bif decide (t27 < t26) then
  bif inb t27 (List.length t25) then
   spec_RowSum (nth [] t25 t27) fun (r : Int) =>
    rec (Int.tmod (wi64 (n_ + r)) 16777213) (wi64 (t27 + 1))
  else none
 else
  k0 n_
def spec_TableSum_l0_s (t25 : List qW) (t26 : Int) : (Int × Int) → (Int × Int → Res) → ((Int → Res)) → Res := fun v rec q => spec_TableSum_l0_r t25 t26 v.1 v.2 (fun n_ t27 => rec (n_, t27)) q
def spec_TableSum_l0 (t25 : List qW) (t26 : Int) (n : Nat) (n_ : Int) (t27 : Int) (k0 : Int → Res) : Res := iter (spec_TableSum_l0_s t25 t26) n (n_, t27) (k0)
def xspec_TableSum_l0 : Node Unit := fun σ k => rdN σ 38 <| rdV σ 6 (.int .i64) false [] fun n_ => rdV σ 25 y12 false [.S] fun t25 => rdV σ 26 (.int .i64) false [] fun t26 => rdV σ 27 (.int .i64) false [] fun t27 => spec_TableSum_l0 t25 t26 FUEL n_ t27 (fun (n_1 : Int) => k (.exit 0) (mkS 38 38 [(6, .val ⟨(.int .i64), false, n_1, []⟩)] []))
theorem espec_TableSum_l0 (t25 : List qW) (t26 : Int) (n : Nat) (v : Int × Int) (k : Kont Unit) : loopC (codeC g_spec_TableSum [] .o (Code.pl (Code.pl (Code.pr (Code.pl (Code.pr (Code.pr (Code.pr (Code.pr c_spec_TableSum))))))))) (fun σ => σ.forget [6, 25, 26, 27] []) (cutC ([], []) [(0, [6], [])] ([], [])) n (mkS 38 38 [(6, .val ⟨(.int .i64), false, v.1, []⟩), (25, .val ⟨y12, false, t25, [.S]⟩), (26, .val ⟨(.int .i64), false, t26, []⟩), (27, .val ⟨(.int .i64), false, v.2, []⟩)] []) k = iter (spec_TableSum_l0_s t25 t26) n v ((fun (k : Kont Unit) => (((fun (n_1 : Int) => k (.exit 0) (mkS 38 38 [(6, .val ⟨(.int .i64), false, n_1, []⟩)] []))) : (Int → Res))) k) := loop_eq (fun v : Int × Int => (mkS 38 38 [(6, .val ⟨(.int .i64), false, v.1, []⟩), (25, .val ⟨y12, false, t25, [.S]⟩), (26, .val ⟨(.int .i64), false, t26, []⟩), (27, .val ⟨(.int .i64), false, v.2, []⟩)] [])) (spec_TableSum_l0_s t25 t26) (fun (k : Kont Unit) => (((fun (n_1 : Int) => k (.exit 0) (mkS 38 38 [(6, .val ⟨(.int .i64), false, n_1, []⟩)] []))) : (Int → Res))) (fun v rec k => by kernel_rfl) n v k
theorem ospec_TableSum_l0 {W0 : Base} {M : Nat → Prop} (hnp : W0.np ≤ 0) : CodeOk Tryz.prog W0 M (Code.pl (Code.pr (Code.pl (Code.pr (Code.pr (Code.pr (Code.pr c_spec_TableSum))))))) xspec_TableSum_l0 := show CodeOk Tryz.prog W0 M (Code.loop (Code.pl (Code.pl (Code.pr (Code.pl (Code.pr (Code.pr (Code.pr (Code.pr c_spec_TableSum))))))))) xspec_TableSum_l0 from loop_ok (code_sound follows tysOk (calls_ok (fns_cons S_spec_DbOk (fns_cons S_spec_l02At (fns_cons S_spec_RowSum fns_nil)))) hnp [] (Code.pl (Code.pl (Code.pr (Code.pl (Code.pr (Code.pr (Code.pr (Code.pr c_spec_TableSum)))))))) .o trivial) (ks := [6, 25, 26, 27]) (bs := []) (fX := (cutC ([], []) [(0, [6], [])] ([], []))) (cutC_le _ _ _) FUEL (by
 intro σ k r h
 obtain ⟨hn, h1⟩ := rdN_some h
 obtain ⟨n_, hs6, h2⟩ := rdV_some h1
 obtain ⟨t25, hs25, h3⟩ := rdV_some h2
 obtain ⟨t26, hs26, h4⟩ := rdV_some h3
 obtain ⟨t27, hs27, h5⟩ := rdV_some h4
 refine ⟨_, ?_, (espec_TableSum_l0 t25 t26 FUEL (n_, t27) k).trans h5⟩
 exact mkS_le hn ⟨hs6, hs25, hs26, hs27, trivial⟩ trivial)
def spec_TableSum (d : qF × List qR) (table : ByteArray) (k0 : Int → Res) : Res :=
 spec_l02At d.1 table fun (r : Int) =>
  spec_DbOk d fun (r1 : Bool) =>
   bif !r1 then
    k0 (-1)
   else
    bif decide (r < 0) then
     k0 (-1)
    else
     bif inb r (List.length d.2) then
      spec_TableSum_l0 (nth [] d.2 r) (nI (List.length (nth [] d.2 r))) FUEL 0 0 fun (n_ : Int) =>
       k0 n_
     else none
def s_spec_TableSum : Sig Unit := ⟨[.look y14 true, .look .str false], [false], fun vals ext k => av vals y14 fun d vals => av vals .str fun table vals => nl vals <| nl ext <| spec_TableSum d table (fun (r0 : Int) => k [⟨(.int .i64), false, r0, []⟩] [] [])⟩
theorem E_spec_TableSum (d : qF × List qR) (a_d : Bool) (t_d : List Tag) (table : ByteArray) (a_table : Bool) (t_table : List Tag) (k : qK) : funC g_spec_TableSum [xspec_TableSum_l0] (.t .o (.t .o (.t .o (.t .o (.t (.t .o (.t (.x 0) .o)) .o))))) false Tryz.f39 [.look y14 true, .look .str false] [false] [⟨y14, a_d, d, t_d⟩, ⟨.str, a_table, table, t_table⟩] [] k = spec_TableSum d table (fun (r0 : Int) => k [⟨(.int .i64), false, r0, []⟩] [] []) := by kernel_rfl
theorem S_spec_TableSum : Sound Tryz.prog 39 s_spec_TableSum := sound_of (Γ := g_spec_TableSum) (X := [xspec_TableSum_l0]) (ht := (.t .o (.t .o (.t .o (.t .o (.t (.t .o (.t (.x 0) .o)) .o)))))) (fz := false) (c := c_spec_TableSum) follows tysOk (fns_cons S_spec_DbOk (fns_cons S_spec_l02At (fns_cons S_spec_RowSum fns_nil))) (OrOk.mk trivial ((OrOk.mk trivial ((OrOk.mk trivial ((OrOk.mk trivial ((OrOk.mk ((OrOk.mk trivial ((OrOk.mk (OrOk.x_mk (fun W0 M hnp => ospec_TableSum_l0 (W0 := W0) (M := M) hnp)) trivial)))) trivial))))))))) Tryz.func39 (by kernel_rfl) (by kernel_rfl) (by decide) (by
 intro vals ext k r h
 obtain ⟨d, a_d, t_d, vals, rfl, h1⟩ := av_some h
 obtain ⟨table, a_table, t_table, vals, rfl, h2⟩ := av_some h1
 obtain ⟨rfl, h3⟩ := nl_some h2
 obtain ⟨rfl, h4⟩ := nl_some h3
 exact (E_spec_TableSum d a_d t_d table a_table t_table k).trans h4)

/-! ### 8 loop.example/g00462/spec.Unlike -/
def c_spec_Unlike : Code := (Tryz.f8.body).getD .skip
def g_spec_Unlike : Env Unit := ⟨tys, [(37, s_spec_DbOk), (38, s_spec_l02At), (39, s_spec_TableSum)], 0⟩
def spec_Unlike_l0_r (t20 : List qT) (t21 : Int) (a : qF × List qR) (b : qF × List qR) (out : List ByteArray) (t22 : Int) (rec : (List ByteArray) → Int → Res) (k0 : (List ByteArray) → Res) : Res :=
 bif decide (t22 < t21) then
  bif inb t22 (List.length t20) then
   spec_l02At b.1 (nth (eS, [], []) t20 t22).1 fun (r : Int) =>
    bif decide (r ≥ 0) then
     spec_TableSum a (nth (eS, [], []) t20 t22).1 fun (r1 : Int) =>
      spec_TableSum b (nth (eS, [], []) t20 t22).1 fun (r2 : Int) =>
       bif (r1 != r2) then
        bif lim ((List.length out) + 1) then
         rec (out ++ [(nth (eS, [], []) t20 t22).1]) (wi64 (t22 + 1))
        else none
       else
        rec out (wi64 (t22 + 1))
    else
     rec out (wi64 (t22 + 1))
  else none
 else
  k0 out
def spec_Unlike_l0_s (t20 : List qT) (t21 : Int) (a : qF × List qR) (b : qF × List qR) : ((List ByteArray) × Int) → ((List ByteArray) × Int → Res) → (((List ByteArray) → Res)) → Res := fun v rec q => spec_Unlike_l0_r t20 t21 a b v.1 v.2 (fun out t22 => rec (out, t22)) q
def spec_Unlike_l0 (t20 : List qT) (t21 : Int) (a : qF × List qR) (b : qF × List qR) (n : Nat) (out : List ByteArray) (t22 : Int) (k0 : (List ByteArray) → Res) : Res := iter (spec_Unlike_l0_s t20 t21 a b) n (out, t22) (k0)
def xspec_Unlike_l0 : Node Unit := fun σ k => rdN σ 50 <| rdT σ 2 (.ptr ⟨true, 2, []⟩) <| rdT σ 3 (.ptr ⟨true, 3, []⟩) <| rdV σ 5 y7 false [.O] fun out => rdV σ 20 y10 false [.S] fun t20 => rdV σ 21 (.int .i64) false [] fun t21 => rdV σ 22 (.int .i64) false [] fun t22 => rdB σ 2 y14 [.S, .S] fun a1 a => rdB σ 3 y14 [.S, .S] fun a2 b => spec_Unlike_l0 t20 t21 a b FUEL out t22 (fun (out1 : List ByteArray) => k (.exit 0) (mkS 50 50 [(5, .val ⟨y7, false, out1, [.O]⟩)] []))
theorem espec_Unlike_l0 (t20 : List qT) (t21 : Int) (a1 : Bool) (a : qF × List qR) (a2 : Bool) (b : qF × List qR) (n : Nat) (v : (List ByteArray) × Int) (k : Kont Unit) : loopC (codeC g_spec_Unlike [] .o (Code.pl (Code.pl (Code.pr (Code.pl (Code.pr (Code.pr (Code.pr c_spec_Unlike)))))))) (fun σ => σ.forget [2, 3, 5, 20, 21, 22] [2, 3]) (cutC ([], []) [(0, [5], [])] ([], [])) n (mkS 50 50 [(2, .ptr ⟨true, 2, []⟩), (3, .ptr ⟨true, 3, []⟩), (5, .val ⟨y7, false, v.1, [.O]⟩), (20, .val ⟨y10, false, t20, [.S]⟩), (21, .val ⟨(.int .i64), false, t21, []⟩), (22, .val ⟨(.int .i64), false, v.2, []⟩)] [(2, ⟨y14, a1, a, [.S, .S]⟩), (3, ⟨y14, a2, b, [.S, .S]⟩)]) k = iter (spec_Unlike_l0_s t20 t21 a b) n v ((fun (k : Kont Unit) => (((fun (out1 : List ByteArray) => k (.exit 0) (mkS 50 50 [(5, .val ⟨y7, false, out1, [.O]⟩)] []))) : ((List ByteArray) → Res))) k) := loop_eq (fun v : (List ByteArray) × Int => (mkS 50 50 [(2, .ptr ⟨true, 2, []⟩), (3, .ptr ⟨true, 3, []⟩), (5, .val ⟨y7, false, v.1, [.O]⟩), (20, .val ⟨y10, false, t20, [.S]⟩), (21, .val ⟨(.int .i64), false, t21, []⟩), (22, .val ⟨(.int .i64), false, v.2, []⟩)] [(2, ⟨y14, a1, a, [.S, .S]⟩), (3, ⟨y14, a2, b, [.S, .S]⟩)])) (spec_Unlike_l0_s t20 t21 a b) (fun (k : Kont Unit) => (((fun (out1 : List ByteArray) => k (.exit 0) (mkS 50 50 [(5, .val ⟨y7, false, out1, [.O]⟩)] []))) : ((List ByteArray) → Res))) (fun v rec k => by kernel_rfl) n v k
theorem ospec_Unlike_l0 {W0 : Base} {M : Nat → Prop} (hnp : W0.np ≤ 0) : CodeOk Tryz.prog W0 M (Code.pl (Code.pr (Code.pl (Code.pr (Code.pr (Code.pr c_spec_Unlike)))))) xspec_Unlike_l0 := show CodeOk Tryz.prog W0 M (Code.loop (Code.pl (Code.pl (Code.pr (Code.pl (Code.pr (Code.pr (Code.pr c_spec_Unlike)))))))) xspec_Unlike_l0 from loop_ok (code_sound follows tysOk (calls_ok (fns_cons S_spec_DbOk (fns_cons S_spec_l02At (fns_cons S_spec_TableSum fns_nil)))) hnp [] (Code.pl (Code.pl (Code.pr (Code.pl (Code.pr (Code.pr (Code.pr c_spec_Unlike))))))) .o trivial) (ks := [2, 3, 5, 20, 21, 22]) (bs := [2, 3]) (fX := (cutC ([], []) [(0, [5], [])] ([], []))) (cutC_le _ _ _) FUEL (by
 intro σ k r h
 obtain ⟨hn, h1⟩ := rdN_some h
 obtain ⟨hs2, h2⟩ := rdT_some h1
 obtain ⟨hs3, h3⟩ := rdT_some h2
 obtain ⟨out, hs5, h4⟩ := rdV_some h3
 obtain ⟨t20, hs20, h5⟩ := rdV_some h4
 obtain ⟨t21, hs21, h6⟩ := rdV_some h5
 obtain ⟨t22, hs22, h7⟩ := rdV_some h6
 obtain ⟨a1, a, hb2, h8⟩ := rdB_some h7
 obtain ⟨a2, b, hb3, h9⟩ := rdB_some h8
 refine ⟨_, ?_, (espec_Unlike_l0 t20 t21 a1 a a2 b FUEL (out, t22) k).trans h9⟩
 exact mkS_le hn ⟨hs2, hs3, hs5, hs20, hs21, hs22, trivial⟩ ⟨hb2, hb3, trivial⟩)
def spec_Unlike (a : qF × List qR) (b : qF × List qR) (k0 : (List ByteArray) → Res) : Res :=
 spec_DbOk a fun (r : Bool) =>
  bif !r then
   k0 []
  else
   spec_DbOk b fun (r1 : Bool) =>
    bif !r1 then
     k0 []
    else
     spec_Unlike_l0 a.1 (nI (List.length a.1)) a b FUEL [] 0 fun (out : List ByteArray) =>
      k0 out
def s_spec_Unlike : Sig Unit := ⟨[.borrow y14 true, .borrow y14 true], [false], fun vals ext k => av vals y14 fun a vals => av vals y14 fun b vals => nl vals <| nl ext <| spec_Unlike a b (fun (r0 : List ByteArray) => k [⟨y7, false, r0, [.O]⟩] [] [])⟩
theorem E_spec_Unlike (a : qF × List qR) (a_a : Bool) (t_a : List Tag) (b : qF × List qR) (a_b : Bool) (t_b : List Tag) (k : qK) : funC g_spec_Unlike [xspec_Unlike_l0] (.t .o (.t .o (.t .o (.t (.t .o (.t (.x 0) .o)) .o)))) false Tryz.f8 [.borrow y14 true, .borrow y14 true] [false] [⟨y14, a_a, a, t_a⟩, ⟨y14, a_b, b, t_b⟩] [] k = spec_Unlike a b (fun (r0 : List ByteArray) => k [⟨y7, false, r0, [.O]⟩] [] []) := by kernel_rfl
theorem S_spec_Unlike : Sound Tryz.prog 8 s_spec_Unlike := sound_of (Γ := g_spec_Unlike) (X := [xspec_Unlike_l0]) (ht := (.t .o (.t .o (.t .o (.t (.t .o (.t (.x 0) .o)) .o))))) (fz := false) (c := c_spec_Unlike) follows tysOk (fns_cons S_spec_DbOk (fns_cons S_spec_l02At (fns_cons S_spec_TableSum fns_nil))) (OrOk.mk trivial ((OrOk.mk trivial ((OrOk.mk trivial ((OrOk.mk ((OrOk.mk trivial ((OrOk.mk (OrOk.x_mk (fun W0 M hnp => ospec_Unlike_l0 (W0 := W0) (M := M) hnp)) trivial)))) trivial))))))) Tryz.func8 (by kernel_rfl) (by kernel_rfl) (by decide) (by
 intro vals ext k r h
 obtain ⟨a, a_a, t_a, vals, rfl, h1⟩ := av_some h
 obtain ⟨b, a_b, t_b, vals, rfl, h2⟩ := av_some h1
 obtain ⟨rfl, h3⟩ := nl_some h2
 obtain ⟨rfl, h4⟩ := nl_some h3
 exact (E_spec_Unlike a a_a t_a b a_b t_b k).trans h4)

/-! ### 94 loop.example/g00462/impl.RowSum -/
def c_impl_RowSum : Code := (Tryz.f94.body).getD .skip
def g_impl_RowSum : Env Unit := ⟨tys, [(142, s_impl_Sum), (143, s_impl_RowText)], 0⟩
def impl_RowSum (r : List qV) (k0 : Int → Res) : Res :=
 impl_RowText r fun (r1 : ByteArray) =>
  bif lim (ByteArray.size r1) then
   impl_Sum (toBytes r1) fun (r2 : Int) =>
    k0 r2
  else none
def s_impl_RowSum : Sig Unit := ⟨[.look y11 true], [false], fun vals ext k => av vals y11 fun r vals => nl vals <| nl ext <| impl_RowSum r (fun (r0 : Int) => k [⟨(.int .i64), false, r0, []⟩] [] [])⟩
theorem E_impl_RowSum (r : List qV) (a_r : Bool) (t_r : List Tag) (k : qK) : funC g_impl_RowSum [] .o false Tryz.f94 [.look y11 true] [false] [⟨y11, a_r, r, t_r⟩] [] k = impl_RowSum r (fun (r0 : Int) => k [⟨(.int .i64), false, r0, []⟩] [] []) := by kernel_rfl
theorem S_impl_RowSum : Sound Tryz.prog 94 s_impl_RowSum := sound_of (Γ := g_impl_RowSum) (X := []) (ht := .o) (fz := false) (c := c_impl_RowSum) follows tysOk (fns_cons S_impl_Sum (fns_cons S_impl_RowText fns_nil)) trivial Tryz.func94 (by kernel_rfl) (by kernel_rfl) (by decide) (by
 intro vals ext k r h
 obtain ⟨r, a_r, t_r, vals, rfl, h1⟩ := av_some h
 obtain ⟨rfl, h2⟩ := nl_some h1
 obtain ⟨rfl, h3⟩ := nl_some h2
 exact (E_impl_RowSum r a_r t_r k).trans h3)

/-! ### 44 loop.example/g00462/impl.TableSum -/
def c_impl_TableSum : Code := (Tryz.f44.body).getD .skip
def g_impl_TableSum : Env Unit := ⟨tys, [(42, s_impl_DbOk), (43, s_impl_Cat_at), (94, s_impl_RowSum)], 0⟩
def impl_TableSum_l0_r (t25 : List qW) (t26 : Int) (n_ : Int) (t27 : Int) (rec : Int → Int → Res) (k0 : Int → Res) : Res :=
 bif decide (t27 < t26) then
  bif inb t27 (List.length t25) then
   impl_RowSum (nth [] t25 t27) fun (r : Int) =>
    rec (Int.tmod (wi64 (n_ + r)) 16777213) (wi64 (t27 + 1))
  else none
 else
  k0 n_
def impl_TableSum_l0_s (t25 : List qW) (t26 : Int) : (Int × Int) → (Int × Int → Res) → ((Int → Res)) → Res := fun v rec q => impl_TableSum_l0_r t25 t26 v.1 v.2 (fun n_ t27 => rec (n_, t27)) q
def impl_TableSum_l0 (t25 : List qW) (t26 : Int) (n : Nat) (n_ : Int) (t27 : Int) (k0 : Int → Res) : Res := iter (impl_TableSum_l0_s t25 t26) n (n_, t27) (k0)
def ximpl_TableSum_l0 : Node Unit := fun σ k => rdN σ 38 <| rdV σ 6 (.int .i64) false [] fun n_ => rdV σ 25 y12 false [.S] fun t25 => rdV σ 26 (.int .i64) false [] fun t26 => rdV σ 27 (.int .i64) false [] fun t27 => impl_TableSum_l0 t25 t26 FUEL n_ t27 (fun (n_1 : Int) => k (.exit 0) (mkS 38 38 [(6, .val ⟨(.int .i64), false, n_1, []⟩)] []))
theorem eimpl_TableSum_l0 (t25 : List qW) (t26 : Int) (n : Nat) (v : Int × Int) (k : Kont Unit) : loopC (codeC g_impl_TableSum [] .o (Code.pl (Code.pl (Code.pr (Code.pl (Code.pr (Code.pr (Code.pr (Code.pr c_impl_TableSum))))))))) (fun σ => σ.forget [6, 25, 26, 27] []) (cutC ([], []) [(0, [6], [])] ([], [])) n (mkS 38 38 [(6, .val ⟨(.int .i64), false, v.1, []⟩), (25, .val ⟨y12, false, t25, [.S]⟩), (26, .val ⟨(.int .i64), false, t26, []⟩), (27, .val ⟨(.int .i64), false, v.2, []⟩)] []) k = iter (impl_TableSum_l0_s t25 t26) n v ((fun (k : Kont Unit) => (((fun (n_1 : Int) => k (.exit 0) (mkS 38 38 [(6, .val ⟨(.int .i64), false, n_1, []⟩)] []))) : (Int → Res))) k) := loop_eq (fun v : Int × Int => (mkS 38 38 [(6, .val ⟨(.int .i64), false, v.1, []⟩), (25, .val ⟨y12, false, t25, [.S]⟩), (26, .val ⟨(.int .i64), false, t26, []⟩), (27, .val ⟨(.int .i64), false, v.2, []⟩)] [])) (impl_TableSum_l0_s t25 t26) (fun (k : Kont Unit) => (((fun (n_1 : Int) => k (.exit 0) (mkS 38 38 [(6, .val ⟨(.int .i64), false, n_1, []⟩)] []))) : (Int → Res))) (fun v rec k => by kernel_rfl) n v k
theorem oimpl_TableSum_l0 {W0 : Base} {M : Nat → Prop} (hnp : W0.np ≤ 0) : CodeOk Tryz.prog W0 M (Code.pl (Code.pr (Code.pl (Code.pr (Code.pr (Code.pr (Code.pr c_impl_TableSum))))))) ximpl_TableSum_l0 := show CodeOk Tryz.prog W0 M (Code.loop (Code.pl (Code.pl (Code.pr (Code.pl (Code.pr (Code.pr (Code.pr (Code.pr c_impl_TableSum))))))))) ximpl_TableSum_l0 from loop_ok (code_sound follows tysOk (calls_ok (fns_cons S_impl_DbOk (fns_cons S_impl_Cat_at (fns_cons S_impl_RowSum fns_nil)))) hnp [] (Code.pl (Code.pl (Code.pr (Code.pl (Code.pr (Code.pr (Code.pr (Code.pr c_impl_TableSum)))))))) .o trivial) (ks := [6, 25, 26, 27]) (bs := []) (fX := (cutC ([], []) [(0, [6], [])] ([], []))) (cutC_le _ _ _) FUEL (by
 intro σ k r h
 obtain ⟨hn, h1⟩ := rdN_some h
 obtain ⟨n_, hs6, h2⟩ := rdV_some h1
 obtain ⟨t25, hs25, h3⟩ := rdV_some h2
 obtain ⟨t26, hs26, h4⟩ := rdV_some h3
 obtain ⟨t27, hs27, h5⟩ := rdV_some h4
 refine ⟨_, ?_, (eimpl_TableSum_l0 t25 t26 FUEL (n_, t27) k).trans h5⟩
 exact mkS_le hn ⟨hs6, hs25, hs26, hs27, trivial⟩ trivial)
def impl_TableSum (d : qF × List qR) (table : ByteArray) (k0 : Int → Res) : Res :=
 impl_Cat_at d.1 table fun (r : Int) =>
  impl_DbOk d fun (r1 : Bool) =>
   bif !r1 then
    k0 (-1)
   else
    bif decide (r < 0) then
     k0 (-1)
    else
     bif inb r (List.length d.2) then
      impl_TableSum_l0 (nth [] d.2 r) (nI (List.length (nth [] d.2 r))) FUEL 0 0 fun (n_ : Int) =>
       k0 n_
     else none
def s_impl_TableSum : Sig Unit := ⟨[.look y14 true, .look .str false], [false], fun vals ext k => av vals y14 fun d vals => av vals .str fun table vals => nl vals <| nl ext <| impl_TableSum d table (fun (r0 : Int) => k [⟨(.int .i64), false, r0, []⟩] [] [])⟩
theorem E_impl_TableSum (d : qF × List qR) (a_d : Bool) (t_d : List Tag) (table : ByteArray) (a_table : Bool) (t_table : List Tag) (k : qK) : funC g_impl_TableSum [ximpl_TableSum_l0] (.t .o (.t .o (.t .o (.t .o (.t (.t .o (.t (.x 0) .o)) .o))))) false Tryz.f44 [.look y14 true, .look .str false] [false] [⟨y14, a_d, d, t_d⟩, ⟨.str, a_table, table, t_table⟩] [] k = impl_TableSum d table (fun (r0 : Int) => k [⟨(.int .i64), false, r0, []⟩] [] []) := by kernel_rfl
theorem S_impl_TableSum : Sound Tryz.prog 44 s_impl_TableSum := sound_of (Γ := g_impl_TableSum) (X := [ximpl_TableSum_l0]) (ht := (.t .o (.t .o (.t .o (.t .o (.t (.t .o (.t (.x 0) .o)) .o)))))) (fz := false) (c := c_impl_TableSum) follows tysOk (fns_cons S_impl_DbOk (fns_cons S_impl_Cat_at (fns_cons S_impl_RowSum fns_nil))) (OrOk.mk trivial ((OrOk.mk trivial ((OrOk.mk trivial ((OrOk.mk trivial ((OrOk.mk ((OrOk.mk trivial ((OrOk.mk (OrOk.x_mk (fun W0 M hnp => oimpl_TableSum_l0 (W0 := W0) (M := M) hnp)) trivial)))) trivial))))))))) Tryz.func44 (by kernel_rfl) (by kernel_rfl) (by decide) (by
 intro vals ext k r h
 obtain ⟨d, a_d, t_d, vals, rfl, h1⟩ := av_some h
 obtain ⟨table, a_table, t_table, vals, rfl, h2⟩ := av_some h1
 obtain ⟨rfl, h3⟩ := nl_some h2
 obtain ⟨rfl, h4⟩ := nl_some h3
 exact (E_impl_TableSum d a_d t_d table a_table t_table k).trans h4)

/-! ### 10 loop.example/g00462/impl.Unlike -/
def c_impl_Unlike : Code := (Tryz.f10.body).getD .skip
def g_impl_Unlike : Env Unit := ⟨tys, [(42, s_impl_DbOk), (43, s_impl_Cat_at), (44, s_impl_TableSum)], 0⟩
def impl_Unlike_l0_r (t20 : List qT) (t21 : Int) (a : qF × List qR) (b : qF × List qR) (out : List ByteArray) (t22 : Int) (rec : (List ByteArray) → Int → Res) (k0 : (List ByteArray) → Res) : Res :=
 bif decide (t22 < t21) then
  bif inb t22 (List.length t20) then
   impl_Cat_at b.1 (nth (eS, [], []) t20 t22).1 fun (r : Int) =>
    bif decide (r ≥ 0) then
     impl_TableSum a (nth (eS, [], []) t20 t22).1 fun (r1 : Int) =>
      impl_TableSum b (nth (eS, [], []) t20 t22).1 fun (r2 : Int) =>
       bif (r1 != r2) then
        bif lim ((List.length out) + 1) then
         rec (out ++ [(nth (eS, [], []) t20 t22).1]) (wi64 (t22 + 1))
        else none
       else
        rec out (wi64 (t22 + 1))
    else
     rec out (wi64 (t22 + 1))
  else none
 else
  k0 out
def impl_Unlike_l0_s (t20 : List qT) (t21 : Int) (a : qF × List qR) (b : qF × List qR) : ((List ByteArray) × Int) → ((List ByteArray) × Int → Res) → (((List ByteArray) → Res)) → Res := fun v rec q => impl_Unlike_l0_r t20 t21 a b v.1 v.2 (fun out t22 => rec (out, t22)) q
def impl_Unlike_l0 (t20 : List qT) (t21 : Int) (a : qF × List qR) (b : qF × List qR) (n : Nat) (out : List ByteArray) (t22 : Int) (k0 : (List ByteArray) → Res) : Res := iter (impl_Unlike_l0_s t20 t21 a b) n (out, t22) (k0)
def ximpl_Unlike_l0 : Node Unit := fun σ k => rdN σ 50 <| rdT σ 2 (.ptr ⟨true, 2, []⟩) <| rdT σ 3 (.ptr ⟨true, 3, []⟩) <| rdV σ 5 y7 false [.O] fun out => rdV σ 20 y10 false [.S] fun t20 => rdV σ 21 (.int .i64) false [] fun t21 => rdV σ 22 (.int .i64) false [] fun t22 => rdB σ 2 y14 [.S, .S] fun a1 a => rdB σ 3 y14 [.S, .S] fun a2 b => impl_Unlike_l0 t20 t21 a b FUEL out t22 (fun (out1 : List ByteArray) => k (.exit 0) (mkS 50 50 [(5, .val ⟨y7, false, out1, [.O]⟩)] []))
theorem eimpl_Unlike_l0 (t20 : List qT) (t21 : Int) (a1 : Bool) (a : qF × List qR) (a2 : Bool) (b : qF × List qR) (n : Nat) (v : (List ByteArray) × Int) (k : Kont Unit) : loopC (codeC g_impl_Unlike [] .o (Code.pl (Code.pl (Code.pr (Code.pl (Code.pr (Code.pr (Code.pr c_impl_Unlike)))))))) (fun σ => σ.forget [2, 3, 5, 20, 21, 22] [2, 3]) (cutC ([], []) [(0, [5], [])] ([], [])) n (mkS 50 50 [(2, .ptr ⟨true, 2, []⟩), (3, .ptr ⟨true, 3, []⟩), (5, .val ⟨y7, false, v.1, [.O]⟩), (20, .val ⟨y10, false, t20, [.S]⟩), (21, .val ⟨(.int .i64), false, t21, []⟩), (22, .val ⟨(.int .i64), false, v.2, []⟩)] [(2, ⟨y14, a1, a, [.S, .S]⟩), (3, ⟨y14, a2, b, [.S, .S]⟩)]) k = iter (impl_Unlike_l0_s t20 t21 a b) n v ((fun (k : Kont Unit) => (((fun (out1 : List ByteArray) => k (.exit 0) (mkS 50 50 [(5, .val ⟨y7, false, out1, [.O]⟩)] []))) : ((List ByteArray) → Res))) k) := loop_eq (fun v : (List ByteArray) × Int => (mkS 50 50 [(2, .ptr ⟨true, 2, []⟩), (3, .ptr ⟨true, 3, []⟩), (5, .val ⟨y7, false, v.1, [.O]⟩), (20, .val ⟨y10, false, t20, [.S]⟩), (21, .val ⟨(.int .i64), false, t21, []⟩), (22, .val ⟨(.int .i64), false, v.2, []⟩)] [(2, ⟨y14, a1, a, [.S, .S]⟩), (3, ⟨y14, a2, b, [.S, .S]⟩)])) (impl_Unlike_l0_s t20 t21 a b) (fun (k : Kont Unit) => (((fun (out1 : List ByteArray) => k (.exit 0) (mkS 50 50 [(5, .val ⟨y7, false, out1, [.O]⟩)] []))) : ((List ByteArray) → Res))) (fun v rec k => by kernel_rfl) n v k
theorem oimpl_Unlike_l0 {W0 : Base} {M : Nat → Prop} (hnp : W0.np ≤ 0) : CodeOk Tryz.prog W0 M (Code.pl (Code.pr (Code.pl (Code.pr (Code.pr (Code.pr c_impl_Unlike)))))) ximpl_Unlike_l0 := show CodeOk Tryz.prog W0 M (Code.loop (Code.pl (Code.pl (Code.pr (Code.pl (Code.pr (Code.pr (Code.pr c_impl_Unlike)))))))) ximpl_Unlike_l0 from loop_ok (code_sound follows tysOk (calls_ok (fns_cons S_impl_DbOk (fns_cons S_impl_Cat_at (fns_cons S_impl_TableSum fns_nil)))) hnp [] (Code.pl (Code.pl (Code.pr (Code.pl (Code.pr (Code.pr (Code.pr c_impl_Unlike))))))) .o trivial) (ks := [2, 3, 5, 20, 21, 22]) (bs := [2, 3]) (fX := (cutC ([], []) [(0, [5], [])] ([], []))) (cutC_le _ _ _) FUEL (by
 intro σ k r h
 obtain ⟨hn, h1⟩ := rdN_some h
 obtain ⟨hs2, h2⟩ := rdT_some h1
 obtain ⟨hs3, h3⟩ := rdT_some h2
 obtain ⟨out, hs5, h4⟩ := rdV_some h3
 obtain ⟨t20, hs20, h5⟩ := rdV_some h4
 obtain ⟨t21, hs21, h6⟩ := rdV_some h5
 obtain ⟨t22, hs22, h7⟩ := rdV_some h6
 obtain ⟨a1, a, hb2, h8⟩ := rdB_some h7
 obtain ⟨a2, b, hb3, h9⟩ := rdB_some h8
 refine ⟨_, ?_, (eimpl_Unlike_l0 t20 t21 a1 a a2 b FUEL (out, t22) k).trans h9⟩
 exact mkS_le hn ⟨hs2, hs3, hs5, hs20, hs21, hs22, trivial⟩ ⟨hb2, hb3, trivial⟩)
def impl_Unlike (a : qF × List qR) (b : qF × List qR) (k0 : (List ByteArray) → Res) : Res :=
 impl_DbOk a fun (r : Bool) =>
  bif !r then
   k0 []
  else
   impl_DbOk b fun (r1 : Bool) =>
    bif !r1 then
     k0 []
    else
     impl_Unlike_l0 a.1 (nI (List.length a.1)) a b FUEL [] 0 fun (out : List ByteArray) =>
      k0 out
def s_impl_Unlike : Sig Unit := ⟨[.borrow y14 true, .borrow y14 true], [false], fun vals ext k => av vals y14 fun a vals => av vals y14 fun b vals => nl vals <| nl ext <| impl_Unlike a b (fun (r0 : List ByteArray) => k [⟨y7, false, r0, [.O]⟩] [] [])⟩
theorem E_impl_Unlike (a : qF × List qR) (a_a : Bool) (t_a : List Tag) (b : qF × List qR) (a_b : Bool) (t_b : List Tag) (k : qK) : funC g_impl_Unlike [ximpl_Unlike_l0] (.t .o (.t .o (.t .o (.t (.t .o (.t (.x 0) .o)) .o)))) false Tryz.f10 [.borrow y14 true, .borrow y14 true] [false] [⟨y14, a_a, a, t_a⟩, ⟨y14, a_b, b, t_b⟩] [] k = impl_Unlike a b (fun (r0 : List ByteArray) => k [⟨y7, false, r0, [.O]⟩] [] []) := by kernel_rfl
theorem S_impl_Unlike : Sound Tryz.prog 10 s_impl_Unlike := sound_of (Γ := g_impl_Unlike) (X := [ximpl_Unlike_l0]) (ht := (.t .o (.t .o (.t .o (.t (.t .o (.t (.x 0) .o)) .o))))) (fz := false) (c := c_impl_Unlike) follows tysOk (fns_cons S_impl_DbOk (fns_cons S_impl_Cat_at (fns_cons S_impl_TableSum fns_nil))) (OrOk.mk trivial ((OrOk.mk trivial ((OrOk.mk trivial ((OrOk.mk ((OrOk.mk trivial ((OrOk.mk (OrOk.x_mk (fun W0 M hnp => oimpl_Unlike_l0 (W0 := W0) (M := M) hnp)) trivial)))) trivial))))))) Tryz.func10 (by kernel_rfl) (by kernel_rfl) (by decide) (by
 intro vals ext k r h
 obtain ⟨a, a_a, t_a, vals, rfl, h1⟩ := av_some h
 obtain ⟨b, a_b, t_b, vals, rfl, h2⟩ := av_some h1
 obtain ⟨rfl, h3⟩ := nl_some h2
 obtain ⟨rfl, h4⟩ := nl_some h3
 exact (E_impl_Unlike a a_a t_a b a_b t_b k).trans h4)
end Go.PI.G
end
noncomputable section
namespace Go.PI.G
open Go Go.PI Go.Proofs

/-! ### 196 loop.example/g00462/laws.szVal -/
def c_laws_szVal : Code := (Tryz.f196.body).getD .skip
def g_laws_szVal : Env Unit := ⟨tys, [], 0⟩
def laws_szVal (a : Int × Int × ByteArray) (left : Int) (k0 : Int → Res) : Res :=
 bif decide ((wi64 (left - (nI (ByteArray.size a.2.2)))) < 0) then
  k0 (-1)
 else
  k0 (wi64 (left - (nI (ByteArray.size a.2.2))))
def s_laws_szVal : Sig Unit := ⟨[.look y1 true, .look (.int .i64) false], [false], fun vals ext k => av vals y1 fun a vals => av vals (.int .i64) fun left vals => nl vals <| nl ext <| laws_szVal a left (fun (r0 : Int) => k [⟨(.int .i64), false, r0, []⟩] [] [])⟩
theorem E_laws_szVal (a : Int × Int × ByteArray) (a_a : Bool) (t_a : List Tag) (left : Int) (a_left : Bool) (t_left : List Tag) (k : qK) : funC g_laws_szVal [] .o false Tryz.f196 [.look y1 true, .look (.int .i64) false] [false] [⟨y1, a_a, a, t_a⟩, ⟨(.int .i64), a_left, left, t_left⟩] [] k = laws_szVal a left (fun (r0 : Int) => k [⟨(.int .i64), false, r0, []⟩] [] []) := by kernel_rfl
theorem S_laws_szVal : Sound Tryz.prog 196 s_laws_szVal := sound_of (Γ := g_laws_szVal) (X := []) (ht := .o) (fz := false) (c := c_laws_szVal) follows tysOk fns_nil trivial Tryz.func196 (by kernel_rfl) (by kernel_rfl) (by decide) (by
 intro vals ext k r h
 obtain ⟨a, a_a, t_a, vals, rfl, h1⟩ := av_some h
 obtain ⟨left, a_left, t_left, vals, rfl, h2⟩ := av_some h1
 obtain ⟨rfl, h3⟩ := nl_some h2
 obtain ⟨rfl, h4⟩ := nl_some h3
 exact (E_laws_szVal a a_a t_a left a_left t_left k).trans h4)

/-! ### 197 loop.example/g00462/laws.toVal -/
def c_laws_toVal : Code := (Tryz.f197.body).getD .skip
def g_laws_toVal : Env Unit := ⟨tys, [], 0⟩
def laws_toVal (a : Int × Int × ByteArray) (k0 : qV → Res) : Res :=
 k0 (a.1, a.2.1, a.2.2)
def s_laws_toVal : Sig Unit := ⟨[.look y1 true], [true], fun vals ext k => av vals y1 fun a vals => nl vals <| nl ext <| laws_toVal a (fun (r0 : Int × Int × ByteArray) => k [⟨y1, true, r0, []⟩] [] [])⟩
theorem E_laws_toVal (a : Int × Int × ByteArray) (a_a : Bool) (t_a : List Tag) (k : qK) : funC g_laws_toVal [] .o false Tryz.f197 [.look y1 true] [true] [⟨y1, a_a, a, t_a⟩] [] k = laws_toVal a (fun (r0 : Int × Int × ByteArray) => k [⟨y1, true, r0, []⟩] [] []) := by kernel_rfl
theorem S_laws_toVal : Sound Tryz.prog 197 s_laws_toVal := sound_of (Γ := g_laws_toVal) (X := []) (ht := .o) (fz := false) (c := c_laws_toVal) follows tysOk fns_nil trivial Tryz.func197 (by kernel_rfl) (by kernel_rfl) (by decide) (by
 intro vals ext k r h
 obtain ⟨a, a_a, t_a, vals, rfl, h1⟩ := av_some h
 obtain ⟨rfl, h2⟩ := nl_some h1
 obtain ⟨rfl, h3⟩ := nl_some h2
 exact (E_laws_toVal a a_a t_a k).trans h3)

/-! ### 162 loop.example/g00462/laws.eqVal -/
def c_laws_eqVal : Code := (Tryz.f162.body).getD .skip
def g_laws_eqVal : Env Unit := ⟨tys, [], 0⟩
def laws_eqVal (a : Int × Int × ByteArray) (b : Int × Int × ByteArray) (k0 : Bool → Res) : Res :=
 bif (a.1 != b.1) then
  k0 false
 else
  bif (a.2.1 != b.2.1) then
   k0 false
  else
   bif sNe a.2.2 b.2.2 then
    k0 false
   else
    k0 true
def s_laws_eqVal : Sig Unit := ⟨[.look y1 true, .look y1 true], [false], fun vals ext k => av vals y1 fun a vals => av vals y1 fun b vals => nl vals <| nl ext <| laws_eqVal a b (fun (r0 : Bool) => k [⟨.bool, false, r0, []⟩] [] [])⟩
theorem E_laws_eqVal (a : Int × Int × ByteArray) (a_a : Bool) (t_a : List Tag) (b : Int × Int × ByteArray) (a_b : Bool) (t_b : List Tag) (k : qK) : funC g_laws_eqVal [] .o false Tryz.f162 [.look y1 true, .look y1 true] [false] [⟨y1, a_a, a, t_a⟩, ⟨y1, a_b, b, t_b⟩] [] k = laws_eqVal a b (fun (r0 : Bool) => k [⟨.bool, false, r0, []⟩] [] []) := by kernel_rfl
theorem S_laws_eqVal : Sound Tryz.prog 162 s_laws_eqVal := sound_of (Γ := g_laws_eqVal) (X := []) (ht := .o) (fz := false) (c := c_laws_eqVal) follows tysOk fns_nil trivial Tryz.func162 (by kernel_rfl) (by kernel_rfl) (by decide) (by
 intro vals ext k r h
 obtain ⟨a, a_a, t_a, vals, rfl, h1⟩ := av_some h
 obtain ⟨b, a_b, t_b, vals, rfl, h2⟩ := av_some h1
 obtain ⟨rfl, h3⟩ := nl_some h2
 obtain ⟨rfl, h4⟩ := nl_some h3
 exact (E_laws_eqVal a a_a t_a b a_b t_b k).trans h4)
end Go.PI.G
end
noncomputable section
namespace Go.PI.G
open Go Go.PI Go.Proofs

/-! ### 190 loop.example/g00462/laws.szCol -/
def c_laws_szCol : Code := (Tryz.f190.body).getD .skip
def g_laws_szCol : Env Unit := ⟨tys, [(196, s_laws_szVal)], 0⟩
def laws_szCol (a : ByteArray × Int × Bool × Bool × Int × Int × ByteArray) (left : Int) (k0 : Int → Res) : Res :=
 bif decide ((wi64 (left - (nI (ByteArray.size a.1)))) < 0) then
  k0 (-1)
 else
  laws_szVal a.2.2.2.2 (wi64 (left - (nI (ByteArray.size a.1)))) fun (r : Int) =>
   bif decide (r < 0) then
    k0 (-1)
   else
    k0 r
def s_laws_szCol : Sig Unit := ⟨[.look y5 true, .look (.int .i64) false], [false], fun vals ext k => av vals y5 fun a vals => av vals (.int .i64) fun left vals => nl vals <| nl ext <| laws_szCol a left (fun (r0 : Int) => k [⟨(.int .i64), false, r0, []⟩] [] [])⟩
theorem E_laws_szCol (a : ByteArray × Int × Bool × Bool × Int × Int × ByteArray) (a_a : Bool) (t_a : List Tag) (left : Int) (a_left : Bool) (t_left : List Tag) (k : qK) : funC g_laws_szCol [] .o false Tryz.f190 [.look y5 true, .look (.int .i64) false] [false] [⟨y5, a_a, a, t_a⟩, ⟨(.int .i64), a_left, left, t_left⟩] [] k = laws_szCol a left (fun (r0 : Int) => k [⟨(.int .i64), false, r0, []⟩] [] []) := by kernel_rfl
theorem S_laws_szCol : Sound Tryz.prog 190 s_laws_szCol := sound_of (Γ := g_laws_szCol) (X := []) (ht := .o) (fz := false) (c := c_laws_szCol) follows tysOk (fns_cons S_laws_szVal fns_nil) trivial Tryz.func190 (by kernel_rfl) (by kernel_rfl) (by decide) (by
 intro vals ext k r h
 obtain ⟨a, a_a, t_a, vals, rfl, h1⟩ := av_some h
 obtain ⟨left, a_left, t_left, vals, rfl, h2⟩ := av_some h1
 obtain ⟨rfl, h3⟩ := nl_some h2
 obtain ⟨rfl, h4⟩ := nl_some h3
 exact (E_laws_szCol a a_a t_a left a_left t_left k).trans h4)

/-! ### 193 loop.example/g00462/laws.toCol -/
def c_laws_toCol : Code := (Tryz.f193.body).getD .skip
def g_laws_toCol : Env Unit := ⟨tys, [(197, s_laws_toVal)], 0⟩
def laws_toCol (a : ByteArray × Int × Bool × Bool × Int × Int × ByteArray) (k0 : qC → Res) : Res :=
 laws_toVal a.2.2.2.2 fun (r : Int × Int × ByteArray) =>
  k0 (a.1, a.2.1, a.2.2.1, a.2.2.2.1, r)
def s_laws_toCol : Sig Unit := ⟨[.look y5 true], [true], fun vals ext k => av vals y5 fun a vals => nl vals <| nl ext <| laws_toCol a (fun (r0 : ByteArray × Int × Bool × Bool × Int × Int × ByteArray) => k [⟨y5, true, r0, []⟩] [] [])⟩
theorem E_laws_toCol (a : ByteArray × Int × Bool × Bool × Int × Int × ByteArray) (a_a : Bool) (t_a : List Tag) (k : qK) : funC g_laws_toCol [] .o false Tryz.f193 [.look y5 true] [true] [⟨y5, a_a, a, t_a⟩] [] k = laws_toCol a (fun (r0 : ByteArray × Int × Bool × Bool × Int × Int × ByteArray) => k [⟨y5, true, r0, []⟩] [] []) := by kernel_rfl
theorem S_laws_toCol : Sound Tryz.prog 193 s_laws_toCol := sound_of (Γ := g_laws_toCol) (X := []) (ht := .o) (fz := false) (c := c_laws_toCol) follows tysOk (fns_cons S_laws_toVal fns_nil) trivial Tryz.func193 (by kernel_rfl) (by kernel_rfl) (by decide) (by
 intro vals ext k r h
 obtain ⟨a, a_a, t_a, vals, rfl, h1⟩ := av_some h
 obtain ⟨rfl, h2⟩ := nl_some h1
 obtain ⟨rfl, h3⟩ := nl_some h2
 exact (E_laws_toCol a a_a t_a k).trans h3)

/-! ### 189 loop.example/g00462/laws.eqCol -/
def c_laws_eqCol : Code := (Tryz.f189.body).getD .skip
def g_laws_eqCol : Env Unit := ⟨tys, [(162, s_laws_eqVal)], 0⟩
def laws_eqCol (a : ByteArray × Int × Bool × Bool × Int × Int × ByteArray) (b : ByteArray × Int × Bool × Bool × Int × Int × ByteArray) (k0 : Bool → Res) : Res :=
 bif sNe a.1 b.1 then
  k0 false
 else
  bif (a.2.1 != b.2.1) then
   k0 false
  else
   bif !(a.2.2.1 == b.2.2.1) then
    k0 false
   else
    bif !(a.2.2.2.1 == b.2.2.2.1) then
     k0 false
    else
     laws_eqVal a.2.2.2.2 b.2.2.2.2 fun (r : Bool) =>
      bif !r then
       k0 false
      else
       k0 true
def s_laws_eqCol : Sig Unit := ⟨[.look y5 true, .look y5 true], [false], fun vals ext k => av vals y5 fun a vals => av vals y5 fun b vals => nl vals <| nl ext <| laws_eqCol a b (fun (r0 : Bool) => k [⟨.bool, false, r0, []⟩] [] [])⟩
theorem E_laws_eqCol (a : ByteArray × Int × Bool × Bool × Int × Int × ByteArray) (a_a : Bool) (t_a : List Tag) (b : ByteArray × Int × Bool × Bool × Int × Int × ByteArray) (a_b : Bool) (t_b : List Tag) (k : qK) : funC g_laws_eqCol [] .o false Tryz.f189 [.look y5 true, .look y5 true] [false] [⟨y5, a_a, a, t_a⟩, ⟨y5, a_b, b, t_b⟩] [] k = laws_eqCol a b (fun (r0 : Bool) => k [⟨.bool, false, r0, []⟩] [] []) := by kernel_rfl
theorem S_laws_eqCol : Sound Tryz.prog 189 s_laws_eqCol := sound_of (Γ := g_laws_eqCol) (X := []) (ht := .o) (fz := false) (c := c_laws_eqCol) follows tysOk (fns_cons S_laws_eqVal fns_nil) trivial Tryz.func189 (by kernel_rfl) (by kernel_rfl) (by decide) (by
 intro vals ext k r h
 obtain ⟨a, a_a, t_a, vals, rfl, h1⟩ := av_some h
 obtain ⟨b, a_b, t_b, vals, rfl, h2⟩ := av_some h1
 obtain ⟨rfl, h3⟩ := nl_some h2
 obtain ⟨rfl, h4⟩ := nl_some h3
 exact (E_laws_eqCol a a_a t_a b a_b t_b k).trans h4)
end Go.PI.G
end
noncomputable section
namespace Go.PI.G
open Go Go.PI Go.Proofs

/-! ### 49 loop.example/g00462/laws.markText -/
def c_laws_markText : Code := (Tryz.f49.body).getD .skip
def g_laws_markText : Env Unit := ⟨tys, [], 0⟩
def laws_markText_l0_r (k_ : Int) (out : ByteArray) (rec : Int → ByteArray → Res) (k0 : ByteArray → Res) : Res :=
 bif decide (k_ > 0) then
  bif lim ((ByteArray.size (ofBytes [wu8 (wi64 (48 + (Int.tmod k_ 10)))])) + (ByteArray.size out)) then
   rec (wi64 (Int.tdiv k_ 10)) ((ofBytes [wu8 (wi64 (48 + (Int.tmod k_ 10)))]) ++ out)
  else none
 else
  k0 out
def laws_markText_l0_s : (Int × ByteArray) → (Int × ByteArray → Res) → ((ByteArray → Res)) → Res := fun v rec q => laws_markText_l0_r v.1 v.2 (fun k_ out => rec (k_, out)) q
def laws_markText_l0 (n : Nat) (k_ : Int) (out : ByteArray) (k0 : ByteArray → Res) : Res := iter (laws_markText_l0_s) n (k_, out) (k0)
def xlaws_markText_l0 : Node Unit := fun σ k => rdN σ 20 <| rdV σ 0 (.int .i64) false [] fun k_ => rdV σ 3 .str false [] fun out => laws_markText_l0 FUEL k_ out (fun (out1 : ByteArray) => k (.exit 0) (mkS 20 20 [(3, .val ⟨.str, false, out1, []⟩)] []))
theorem elaws_markText_l0  (n : Nat) (v : Int × ByteArray) (k : Kont Unit) : loopC (codeC g_laws_markText [] .o (Code.pl (Code.pl (Code.pl (Code.pr (Code.pr (Code.pr c_laws_markText))))))) (fun σ => σ.forget [0, 3] []) (cutC ([], []) [(0, [3], [])] ([], [])) n (mkS 20 20 [(0, .val ⟨(.int .i64), false, v.1, []⟩), (3, .val ⟨.str, false, v.2, []⟩)] []) k = iter (laws_markText_l0_s) n v ((fun (k : Kont Unit) => (((fun (out1 : ByteArray) => k (.exit 0) (mkS 20 20 [(3, .val ⟨.str, false, out1, []⟩)] []))) : (ByteArray → Res))) k) := loop_eq (fun v : Int × ByteArray => (mkS 20 20 [(0, .val ⟨(.int .i64), false, v.1, []⟩), (3, .val ⟨.str, false, v.2, []⟩)] [])) (laws_markText_l0_s) (fun (k : Kont Unit) => (((fun (out1 : ByteArray) => k (.exit 0) (mkS 20 20 [(3, .val ⟨.str, false, out1, []⟩)] []))) : (ByteArray → Res))) (fun v rec k => by kernel_rfl) n v k
theorem olaws_markText_l0 {W0 : Base} {M : Nat → Prop} (hnp : W0.np ≤ 0) : CodeOk Tryz.prog W0 M (Code.pl (Code.pl (Code.pr (Code.pr (Code.pr c_laws_markText))))) xlaws_markText_l0 := show CodeOk Tryz.prog W0 M (Code.loop (Code.pl (Code.pl (Code.pl (Code.pr (Code.pr (Code.pr c_laws_markText))))))) xlaws_markText_l0 from loop_ok (code_sound follows tysOk (calls_ok fns_nil) hnp [] (Code.pl (Code.pl (Code.pl (Code.pr (Code.pr (Code.pr c_laws_markText)))))) .o trivial) (ks := [0, 3]) (bs := []) (fX := (cutC ([], []) [(0, [3], [])] ([], []))) (cutC_le _ _ _) FUEL (by
 intro σ k r h
 obtain ⟨hn, h1⟩ := rdN_some h
 obtain ⟨k_, hs0, h2⟩ := rdV_some h1
 obtain ⟨out, hs3, h3⟩ := rdV_some h2
 refine ⟨_, ?_, (elaws_markText_l0  FUEL (k_, out) k).trans h3⟩
 exact mkS_le hn ⟨hs0, hs3, trivial⟩ trivial)
def laws_markText (k_ : Int) (k0 : ByteArray → Res) : Res :=
 bif decide (k_ ≤ 0) then
  k0 z_m0
 else
  laws_markText_l0 FUEL k_ eS fun (out : ByteArray) =>
   bif lim (1 + (ByteArray.size out)) then
    k0 (z_m ++ out)
   else none
def s_laws_markText : Sig Unit := ⟨[.look (.int .i64) false], [false], fun vals ext k => av vals (.int .i64) fun k_ vals => nl vals <| nl ext <| laws_markText k_ (fun (r0 : ByteArray) => k [⟨.str, false, r0, []⟩] [] [])⟩
theorem E_laws_markText (k_ : Int) (a_k_ : Bool) (t_k_ : List Tag) (k : qK) : funC g_laws_markText [xlaws_markText_l0] (.t .o (.t .o (.t .o (.t (.t (.x 0) .o) .o)))) false Tryz.f49 [.look (.int .i64) false] [false] [⟨(.int .i64), a_k_, k_, t_k_⟩] [] k = laws_markText k_ (fun (r0 : ByteArray) => k [⟨.str, false, r0, []⟩] [] []) := by kernel_rfl
theorem S_laws_markText : Sound Tryz.prog 49 s_laws_markText := sound_of (Γ := g_laws_markText) (X := [xlaws_markText_l0]) (ht := (.t .o (.t .o (.t .o (.t (.t (.x 0) .o) .o))))) (fz := false) (c := c_laws_markText) follows tysOk fns_nil (OrOk.mk trivial ((OrOk.mk trivial ((OrOk.mk trivial ((OrOk.mk ((OrOk.mk (OrOk.x_mk (fun W0 M hnp => olaws_markText_l0 (W0 := W0) (M := M) hnp)) trivial)) trivial))))))) Tryz.func49 (by kernel_rfl) (by kernel_rfl) (by decide) (by
 intro vals ext k r h
 obtain ⟨k_, a_k_, t_k_, vals, rfl, h1⟩ := av_some h
 obtain ⟨rfl, h2⟩ := nl_some h1
 obtain ⟨rfl, h3⟩ := nl_some h2
 exact (E_laws_markText k_ a_k_ t_k_ k).trans h3)
end Go.PI.G
end
