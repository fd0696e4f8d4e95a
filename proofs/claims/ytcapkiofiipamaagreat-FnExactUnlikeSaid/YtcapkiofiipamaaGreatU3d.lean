/-
  Printed texts and plain laws. No conditions.
-/
import Derived.Test.YtcapkiofiipamaaGreatU3a
import Derived.Test.YtcapkiofiipamaaGreatU3b
import Derived.Test.YtcapkiofiipamaaGreatU3c
set_option linter.unusedVariables false
set_option maxRecDepth 100000
noncomputable section
namespace Go.PI.G
open Go Go.PI Go.Proofs

/-! ### 37 loop.example/g00462/spec.DbOk -/
def c_spec_DbOk : Code := (Tryz.f37.body).getD .skip
def g_spec_DbOk : Env Unit := ⟨tys, [(85, s_spec_CatOk), (86, s_spec_RowsOk)], 0⟩
def spec_DbOk_l0_r (t21 : List qT) (t22 : Int) (d : qF × List qR) (t23 : Int) (rec : Int → Res) (k0 : Unit → Res) (k1 : Unit → Res) : Res :=
 bif decide (t23 < t22) then
  bif inb t23 (List.length t21) then
   bif inb t23 (List.length d.2) then
    spec_RowsOk (nth (eS, [], []) t21 t23) (nth [] d.2 t23) fun (r : Bool) =>
     bif !r then
      k1 ()
     else
      rec (wi64 (t23 + 1))
   else none
  else none
 else
  k0 ()
def spec_DbOk_l0_s (t21 : List qT) (t22 : Int) (d : qF × List qR) : Int → (Int → Res) → ((Unit → Res) × (Unit → Res)) → Res := fun v rec q => spec_DbOk_l0_r t21 t22 d v (fun t23 => rec (t23)) q.1 q.2
def spec_DbOk_l0 (t21 : List qT) (t22 : Int) (d : qF × List qR) (n : Nat) (t23 : Int) (k0 : Unit → Res) (k1 : Unit → Res) : Res := iter (spec_DbOk_l0_s t21 t22 d) n (t23) (k0, k1)
def xspec_DbOk_l0 : Node Unit := fun σ k => rdN σ 38 <| rdT σ 1 (.ptr ⟨true, 1, []⟩) <| rdV σ 21 y10 false [.S] fun t21 => rdV σ 22 (.int .i64) false [] fun t22 => rdV σ 23 (.int .i64) false [] fun t23 => rdB σ 1 y14 [.S, .S] fun a d => spec_DbOk_l0 t21 t22 d FUEL t23 (fun (_ : Unit) => k (.exit 0) (mkS 38 38 [] [])) (fun (_ : Unit) => k .ret (mkS 38 38 [(2, .val ⟨.bool, false, false, []⟩)] []))
theorem espec_DbOk_l0 (t21 : List qT) (t22 : Int) (a : Bool) (d : qF × List qR) (n : Nat) (v : Int) (k : Kont Unit) : loopC (codeC g_spec_DbOk [] .o (Code.pl (Code.pl (Code.pr (Code.pl (Code.pr (Code.pr c_spec_DbOk))))))) (fun σ => σ.forget [1, 21, 22, 23] [1]) (cutC ([], []) [(0, [], [])] ([2], [])) n (mkS 38 38 [(1, .ptr ⟨true, 1, []⟩), (21, .val ⟨y10, false, t21, [.S]⟩), (22, .val ⟨(.int .i64), false, t22, []⟩), (23, .val ⟨(.int .i64), false, v, []⟩)] [(1, ⟨y14, a, d, [.S, .S]⟩)]) k = iter (spec_DbOk_l0_s t21 t22 d) n v ((fun (k : Kont Unit) => (((fun (_ : Unit) => k (.exit 0) (mkS 38 38 [] [])), (fun (_ : Unit) => k .ret (mkS 38 38 [(2, .val ⟨.bool, false, false, []⟩)] []))) : (Unit → Res) × (Unit → Res))) k) := loop_eq (fun v : Int => (mkS 38 38 [(1, .ptr ⟨true, 1, []⟩), (21, .val ⟨y10, false, t21, [.S]⟩), (22, .val ⟨(.int .i64), false, t22, []⟩), (23, .val ⟨(.int .i64), false, v, []⟩)] [(1, ⟨y14, a, d, [.S, .S]⟩)])) (spec_DbOk_l0_s t21 t22 d) (fun (k : Kont Unit) => (((fun (_ : Unit) => k (.exit 0) (mkS 38 38 [] [])), (fun (_ : Unit) => k .ret (mkS 38 38 [(2, .val ⟨.bool, false, false, []⟩)] []))) : (Unit → Res) × (Unit → Res))) (fun v rec k => by kernel_rfl) n v k
theorem ospec_DbOk_l0 {W0 : Base} {M : Nat → Prop} (hnp : W0.np ≤ 0) : CodeOk Tryz.prog W0 M (Code.pl (Code.pr (Code.pl (Code.pr (Code.pr c_spec_DbOk))))) xspec_DbOk_l0 := show CodeOk Tryz.prog W0 M (Code.loop (Code.pl (Code.pl (Code.pr (Code.pl (Code.pr (Code.pr c_spec_DbOk))))))) xspec_DbOk_l0 from loop_ok (code_sound follows tysOk (calls_ok (fns_cons S_spec_CatOk (fns_cons S_spec_RowsOk fns_nil))) hnp [] (Code.pl (Code.pl (Code.pr (Code.pl (Code.pr (Code.pr c_spec_DbOk)))))) .o trivial) (ks := [1, 21, 22, 23]) (bs := [1]) (fX := (cutC ([], []) [(0, [], [])] ([2], []))) (cutC_le _ _ _) FUEL (by
 intro σ k r h
 obtain ⟨hn, h1⟩ := rdN_some h
 obtain ⟨hs1, h2⟩ := rdT_some h1
 obtain ⟨t21, hs21, h3⟩ := rdV_some h2
 obtain ⟨t22, hs22, h4⟩ := rdV_some h3
 obtain ⟨t23, hs23, h5⟩ := rdV_some h4
 obtain ⟨a, d, hb1, h6⟩ := rdB_some h5
 refine ⟨_, ?_, (espec_DbOk_l0 t21 t22 a d FUEL (t23) k).trans h6⟩
 exact mkS_le hn ⟨hs1, hs21, hs22, hs23, trivial⟩ ⟨hb1, trivial⟩)
def spec_DbOk (d : qF × List qR) (k0 : Bool → Res) : Res :=
 spec_CatOk d.1 fun (r : Bool) =>
  bif !r then
   k0 false
  else
   bif ((nI (List.length d.2)) != (nI (List.length d.1))) then
    k0 false
   else
    spec_DbOk_l0 d.1 (nI (List.length d.1)) d FUEL 0
     (fun (_ : Unit) =>
      k0 true)
     (fun (_ : Unit) =>
      k0 false)
def s_spec_DbOk : Sig Unit := ⟨[.look y14 true], [false], fun vals ext k => av vals y14 fun d vals => nl vals <| nl ext <| spec_DbOk d (fun (r0 : Bool) => k [⟨.bool, false, r0, []⟩] [] [])⟩
theorem E_spec_DbOk (d : qF × List qR) (a_d : Bool) (t_d : List Tag) (k : qK) : funC g_spec_DbOk [xspec_DbOk_l0] (.t .o (.t .o (.t (.t .o (.t (.x 0) .o)) .o))) false Tryz.f37 [.look y14 true] [false] [⟨y14, a_d, d, t_d⟩] [] k = spec_DbOk d (fun (r0 : Bool) => k [⟨.bool, false, r0, []⟩] [] []) := by kernel_rfl
theorem S_spec_DbOk : Sound Tryz.prog 37 s_spec_DbOk := sound_of (Γ := g_spec_DbOk) (X := [xspec_DbOk_l0]) (ht := (.t .o (.t .o (.t (.t .o (.t (.x 0) .o)) .o)))) (fz := false) (c := c_spec_DbOk) follows tysOk (fns_cons S_spec_CatOk (fns_cons S_spec_RowsOk fns_nil)) (OrOk.mk trivial ((OrOk.mk trivial ((OrOk.mk ((OrOk.mk trivial ((OrOk.mk (OrOk.x_mk (fun W0 M hnp => ospec_DbOk_l0 (W0 := W0) (M := M) hnp)) trivial)))) trivial))))) Tryz.func37 (by kernel_rfl) (by kernel_rfl) (by decide) (by
 intro vals ext k r h
 obtain ⟨d, a_d, t_d, vals, rfl, h1⟩ := av_some h
 obtain ⟨rfl, h2⟩ := nl_some h1
 obtain ⟨rfl, h3⟩ := nl_some h2
 exact (E_spec_DbOk d a_d t_d k).trans h3)

/-! ### 42 loop.example/g00462/impl.DbOk -/
def c_impl_DbOk : Code := (Tryz.f42.body).getD .skip
def g_impl_DbOk : Env Unit := ⟨tys, [(90, s_impl_CatOk), (91, s_impl_RowsOk)], 0⟩
def impl_DbOk_l0_r (t21 : List qT) (t22 : Int) (d : qF × List qR) (t23 : Int) (rec : Int → Res) (k0 : Unit → Res) (k1 : Unit → Res) : Res :=
 bif decide (t23 < t22) then
  bif inb t23 (List.length t21) then
   bif inb t23 (List.length d.2) then
    impl_RowsOk (nth (eS, [], []) t21 t23) (nth [] d.2 t23) fun (r : Bool) =>
     bif !r then
      k1 ()
     else
      rec (wi64 (t23 + 1))
   else none
  else none
 else
  k0 ()
def impl_DbOk_l0_s (t21 : List qT) (t22 : Int) (d : qF × List qR) : Int → (Int → Res) → ((Unit → Res) × (Unit → Res)) → Res := fun v rec q => impl_DbOk_l0_r t21 t22 d v (fun t23 => rec (t23)) q.1 q.2
def impl_DbOk_l0 (t21 : List qT) (t22 : Int) (d : qF × List qR) (n : Nat) (t23 : Int) (k0 : Unit → Res) (k1 : Unit → Res) : Res := iter (impl_DbOk_l0_s t21 t22 d) n (t23) (k0, k1)
def ximpl_DbOk_l0 : Node Unit := fun σ k => rdN σ 38 <| rdT σ 1 (.ptr ⟨true, 1, []⟩) <| rdV σ 21 y10 false [.S] fun t21 => rdV σ 22 (.int .i64) false [] fun t22 => rdV σ 23 (.int .i64) false [] fun t23 => rdB σ 1 y14 [.S, .S] fun a d => impl_DbOk_l0 t21 t22 d FUEL t23 (fun (_ : Unit) => k (.exit 0) (mkS 38 38 [] [])) (fun (_ : Unit) => k .ret (mkS 38 38 [(2, .val ⟨.bool, false, false, []⟩)] []))
theorem eimpl_DbOk_l0 (t21 : List qT) (t22 : Int) (a : Bool) (d : qF × List qR) (n : Nat) (v : Int) (k : Kont Unit) : loopC (codeC g_impl_DbOk [] .o (Code.pl (Code.pl (Code.pr (Code.pl (Code.pr (Code.pr c_impl_DbOk))))))) (fun σ => σ.forget [1, 21, 22, 23] [1]) (cutC ([], []) [(0, [], [])] ([2], [])) n (mkS 38 38 [(1, .ptr ⟨true, 1, []⟩), (21, .val ⟨y10, false, t21, [.S]⟩), (22, .val ⟨(.int .i64), false, t22, []⟩), (23, .val ⟨(.int .i64), false, v, []⟩)] [(1, ⟨y14, a, d, [.S, .S]⟩)]) k = iter (impl_DbOk_l0_s t21 t22 d) n v ((fun (k : Kont Unit) => (((fun (_ : Unit) => k (.exit 0) (mkS 38 38 [] [])), (fun (_ : Unit) => k .ret (mkS 38 38 [(2, .val ⟨.bool, false, false, []⟩)] []))) : (Unit → Res) × (Unit → Res))) k) := loop_eq (fun v : Int => (mkS 38 38 [(1, .ptr ⟨true, 1, []⟩), (21, .val ⟨y10, false, t21, [.S]⟩), (22, .val ⟨(.int .i64), false, t22, []⟩), (23, .val ⟨(.int .i64), false, v, []⟩)] [(1, ⟨y14, a, d, [.S, .S]⟩)])) (impl_DbOk_l0_s t21 t22 d) (fun (k : Kont Unit) => (((fun (_ : Unit) => k (.exit 0) (mkS 38 38 [] [])), (fun (_ : Unit) => k .ret (mkS 38 38 [(2, .val ⟨.bool, false, false, []⟩)] []))) : (Unit → Res) × (Unit → Res))) (fun v rec k => by kernel_rfl) n v k
theorem oimpl_DbOk_l0 {W0 : Base} {M : Nat → Prop} (hnp : W0.np ≤ 0) : CodeOk Tryz.prog W0 M (Code.pl (Code.pr (Code.pl (Code.pr (Code.pr c_impl_DbOk))))) ximpl_DbOk_l0 := show CodeOk Tryz.prog W0 M (Code.loop (Code.pl (Code.pl (Code.pr (Code.pl (Code.pr (Code.pr c_impl_DbOk))))))) ximpl_DbOk_l0 from loop_ok (code_sound follows tysOk (calls_ok (fns_cons S_impl_CatOk (fns_cons S_impl_RowsOk fns_nil))) hnp [] (Code.pl (Code.pl (Code.pr (Code.pl (Code.pr (Code.pr c_impl_DbOk)))))) .o trivial) (ks := [1, 21, 22, 23]) (bs := [1]) (fX := (cutC ([], []) [(0, [], [])] ([2], []))) (cutC_le _ _ _) FUEL (by
 intro σ k r h
 obtain ⟨hn, h1⟩ := rdN_some h
 obtain ⟨hs1, h2⟩ := rdT_some h1
 obtain ⟨t21, hs21, h3⟩ := rdV_some h2
 obtain ⟨t22, hs22, h4⟩ := rdV_some h3
 obtain ⟨t23, hs23, h5⟩ := rdV_some h4
 obtain ⟨a, d, hb1, h6⟩ := rdB_some h5
 refine ⟨_, ?_, (eimpl_DbOk_l0 t21 t22 a d FUEL (t23) k).trans h6⟩
 exact mkS_le hn ⟨hs1, hs21, hs22, hs23, trivial⟩ ⟨hb1, trivial⟩)
def impl_DbOk (d : qF × List qR) (k0 : Bool → Res) : Res :=
 impl_CatOk d.1 fun (r : Bool) =>
  bif !r then
   k0 false
  else
   bif ((nI (List.length d.2)) != (nI (List.length d.1))) then
    k0 false
   else
    impl_DbOk_l0 d.1 (nI (List.length d.1)) d FUEL 0
     (fun (_ : Unit) =>
      k0 true)
     (fun (_ : Unit) =>
      k0 false)
def s_impl_DbOk : Sig Unit := ⟨[.look y14 true], [false], fun vals ext k => av vals y14 fun d vals => nl vals <| nl ext <| impl_DbOk d (fun (r0 : Bool) => k [⟨.bool, false, r0, []⟩] [] [])⟩
theorem E_impl_DbOk (d : qF × List qR) (a_d : Bool) (t_d : List Tag) (k : qK) : funC g_impl_DbOk [ximpl_DbOk_l0] (.t .o (.t .o (.t (.t .o (.t (.x 0) .o)) .o))) false Tryz.f42 [.look y14 true] [false] [⟨y14, a_d, d, t_d⟩] [] k = impl_DbOk d (fun (r0 : Bool) => k [⟨.bool, false, r0, []⟩] [] []) := by kernel_rfl
theorem S_impl_DbOk : Sound Tryz.prog 42 s_impl_DbOk := sound_of (Γ := g_impl_DbOk) (X := [ximpl_DbOk_l0]) (ht := (.t .o (.t .o (.t (.t .o (.t (.x 0) .o)) .o)))) (fz := false) (c := c_impl_DbOk) follows tysOk (fns_cons S_impl_CatOk (fns_cons S_impl_RowsOk fns_nil)) (OrOk.mk trivial ((OrOk.mk trivial ((OrOk.mk ((OrOk.mk trivial ((OrOk.mk (OrOk.x_mk (fun W0 M hnp => oimpl_DbOk_l0 (W0 := W0) (M := M) hnp)) trivial)))) trivial))))) Tryz.func42 (by kernel_rfl) (by kernel_rfl) (by decide) (by
 intro vals ext k r h
 obtain ⟨d, a_d, t_d, vals, rfl, h1⟩ := av_some h
 obtain ⟨rfl, h2⟩ := nl_some h1
 obtain ⟨rfl, h3⟩ := nl_some h2
 exact (E_impl_DbOk d a_d t_d k).trans h3)
end Go.PI.G
end
noncomputable section
namespace Go.PI.G
open Go Go.PI Go.Proofs

/-! ### 170 loop.example/g00462/spec.l05Vals -/
def c_spec_l05Vals : Code := (Tryz.f170.body).getD .skip
def g_spec_l05Vals : Env Unit := ⟨tys, [(192, s_spec_ValText)], 0⟩
def spec_l05Vals_l0_r (t7 : List qV) (t8 : Int) (out : List ByteArray) (t9 : Int) (rec : (List ByteArray) → Int → Res) (k0 : (List ByteArray) → Res) : Res :=
 bif decide (t9 < t8) then
  bif inb t9 (List.length t7) then
   spec_ValText (nth (0, 0, eS) t7 t9) fun (r : ByteArray) =>
    bif lim ((List.length out) + 1) then
     rec (out ++ [r]) (wi64 (t9 + 1))
    else none
  else none
 else
  k0 out
def spec_l05Vals_l0_s (t7 : List qV) (t8 : Int) : ((List ByteArray) × Int) → ((List ByteArray) × Int → Res) → (((List ByteArray) → Res)) → Res := fun v rec q => spec_l05Vals_l0_r t7 t8 v.1 v.2 (fun out t9 => rec (out, t9)) q
def spec_l05Vals_l0 (t7 : List qV) (t8 : Int) (n : Nat) (out : List ByteArray) (t9 : Int) (k0 : (List ByteArray) → Res) : Res := iter (spec_l05Vals_l0_s t7 t8) n (out, t9) (k0)
def xspec_l05Vals_l0 : Node Unit := fun σ k => rdN σ 20 <| rdV σ 3 y7 false [.O] fun out => rdV σ 7 y11 false [.S] fun t7 => rdV σ 8 (.int .i64) false [] fun t8 => rdV σ 9 (.int .i64) false [] fun t9 => spec_l05Vals_l0 t7 t8 FUEL out t9 (fun (out1 : List ByteArray) => k (.exit 0) (mkS 20 20 [(3, .val ⟨y7, false, out1, [.O]⟩)] []))
theorem espec_l05Vals_l0 (t7 : List qV) (t8 : Int) (n : Nat) (v : (List ByteArray) × Int) (k : Kont Unit) : loopC (codeC g_spec_l05Vals [] .o (Code.pl (Code.pl (Code.pr (Code.pl (Code.pr (Code.pr c_spec_l05Vals))))))) (fun σ => σ.forget [3, 7, 8, 9] []) (cutC ([], []) [(0, [3], [])] ([], [])) n (mkS 20 20 [(3, .val ⟨y7, false, v.1, [.O]⟩), (7, .val ⟨y11, false, t7, [.S]⟩), (8, .val ⟨(.int .i64), false, t8, []⟩), (9, .val ⟨(.int .i64), false, v.2, []⟩)] []) k = iter (spec_l05Vals_l0_s t7 t8) n v ((fun (k : Kont Unit) => (((fun (out1 : List ByteArray) => k (.exit 0) (mkS 20 20 [(3, .val ⟨y7, false, out1, [.O]⟩)] []))) : ((List ByteArray) → Res))) k) := loop_eq (fun v : (List ByteArray) × Int => (mkS 20 20 [(3, .val ⟨y7, false, v.1, [.O]⟩), (7, .val ⟨y11, false, t7, [.S]⟩), (8, .val ⟨(.int .i64), false, t8, []⟩), (9, .val ⟨(.int .i64), false, v.2, []⟩)] [])) (spec_l05Vals_l0_s t7 t8) (fun (k : Kont Unit) => (((fun (out1 : List ByteArray) => k (.exit 0) (mkS 20 20 [(3, .val ⟨y7, false, out1, [.O]⟩)] []))) : ((List ByteArray) → Res))) (fun v rec k => by kernel_rfl) n v k
theorem ospec_l05Vals_l0 {W0 : Base} {M : Nat → Prop} (hnp : W0.np ≤ 0) : CodeOk Tryz.prog W0 M (Code.pl (Code.pr (Code.pl (Code.pr (Code.pr c_spec_l05Vals))))) xspec_l05Vals_l0 := show CodeOk Tryz.prog W0 M (Code.loop (Code.pl (Code.pl (Code.pr (Code.pl (Code.pr (Code.pr c_spec_l05Vals))))))) xspec_l05Vals_l0 from loop_ok (code_sound follows tysOk (calls_ok (fns_cons S_spec_ValText fns_nil)) hnp [] (Code.pl (Code.pl (Code.pr (Code.pl (Code.pr (Code.pr c_spec_l05Vals)))))) .o trivial) (ks := [3, 7, 8, 9]) (bs := []) (fX := (cutC ([], []) [(0, [3], [])] ([], []))) (cutC_le _ _ _) FUEL (by
 intro σ k r h
 obtain ⟨hn, h1⟩ := rdN_some h
 obtain ⟨out, hs3, h2⟩ := rdV_some h1
 obtain ⟨t7, hs7, h3⟩ := rdV_some h2
 obtain ⟨t8, hs8, h4⟩ := rdV_some h3
 obtain ⟨t9, hs9, h5⟩ := rdV_some h4
 refine ⟨_, ?_, (espec_l05Vals_l0 t7 t8 FUEL (out, t9) k).trans h5⟩
 exact mkS_le hn ⟨hs3, hs7, hs8, hs9, trivial⟩ trivial)
def spec_l05Vals (l : List qV) (k0 : (List ByteArray) → Res) : Res :=
 spec_l05Vals_l0 l (nI (List.length l)) FUEL [] 0 fun (out : List ByteArray) =>
  k0 out
def s_spec_l05Vals : Sig Unit := ⟨[.borrow y11 false], [false], fun vals ext k => av vals y11 fun l vals => nl vals <| nl ext <| spec_l05Vals l (fun (r0 : List ByteArray) => k [⟨y7, false, r0, [.O]⟩] [] [])⟩
theorem E_spec_l05Vals (l : List qV) (a_l : Bool) (t_l : List Tag) (k : qK) : funC g_spec_l05Vals [xspec_l05Vals_l0] (.t .o (.t .o (.t (.t .o (.t (.x 0) .o)) .o))) false Tryz.f170 [.borrow y11 false] [false] [⟨y11, a_l, l, t_l⟩] [] k = spec_l05Vals l (fun (r0 : List ByteArray) => k [⟨y7, false, r0, [.O]⟩] [] []) := by kernel_rfl
theorem S_spec_l05Vals : Sound Tryz.prog 170 s_spec_l05Vals := sound_of (Γ := g_spec_l05Vals) (X := [xspec_l05Vals_l0]) (ht := (.t .o (.t .o (.t (.t .o (.t (.x 0) .o)) .o)))) (fz := false) (c := c_spec_l05Vals) follows tysOk (fns_cons S_spec_ValText fns_nil) (OrOk.mk trivial ((OrOk.mk trivial ((OrOk.mk ((OrOk.mk trivial ((OrOk.mk (OrOk.x_mk (fun W0 M hnp => ospec_l05Vals_l0 (W0 := W0) (M := M) hnp)) trivial)))) trivial))))) Tryz.func170 (by kernel_rfl) (by kernel_rfl) (by decide) (by
 intro vals ext k r h
 obtain ⟨l, a_l, t_l, vals, rfl, h1⟩ := av_some h
 obtain ⟨rfl, h2⟩ := nl_some h1
 obtain ⟨rfl, h3⟩ := nl_some h2
 exact (E_spec_l05Vals l a_l t_l k).trans h3)

/-! ### 169 loop.example/g00462/spec.l05Join -/
def c_spec_l05Join : Code := (Tryz.f169.body).getD .skip
def g_spec_l05Join : Env Unit := ⟨tys, [], 0⟩
def spec_l05Join_l0_r (t6 : List ByteArray) (t7 : Int) (out : ByteArray) (t8 : Int) (rec : ByteArray → Int → Res) (k0 : ByteArray → Res) : Res :=
 bif decide (t8 < t7) then
  bif inb t8 (List.length t6) then
   bif decide (t8 > 0) then
    bif lim ((ByteArray.size out) + 1) then
     bif lim ((ByteArray.size (out ++ z___1)) + (ByteArray.size (nth eS t6 t8))) then
      rec ((out ++ z___1) ++ (nth eS t6 t8)) (wi64 (t8 + 1))
     else none
    else none
   else
    bif lim ((ByteArray.size out) + (ByteArray.size (nth eS t6 t8))) then
     rec (out ++ (nth eS t6 t8)) (wi64 (t8 + 1))
    else none
  else none
 else
  k0 out
def spec_l05Join_l0_s (t6 : List ByteArray) (t7 : Int) : (ByteArray × Int) → (ByteArray × Int → Res) → ((ByteArray → Res)) → Res := fun v rec q => spec_l05Join_l0_r t6 t7 v.1 v.2 (fun out t8 => rec (out, t8)) q
def spec_l05Join_l0 (t6 : List ByteArray) (t7 : Int) (n : Nat) (out : ByteArray) (t8 : Int) (k0 : ByteArray → Res) : Res := iter (spec_l05Join_l0_s t6 t7) n (out, t8) (k0)
def xspec_l05Join_l0 : Node Unit := fun σ k => rdN σ 22 <| rdV σ 3 .str false [] fun out => rdV σ 6 y7 false [.S] fun t6 => rdV σ 7 (.int .i64) false [] fun t7 => rdV σ 8 (.int .i64) false [] fun t8 => spec_l05Join_l0 t6 t7 FUEL out t8 (fun (out1 : ByteArray) => k (.exit 0) (mkS 22 22 [(3, .val ⟨.str, false, out1, []⟩)] []))
theorem espec_l05Join_l0 (t6 : List ByteArray) (t7 : Int) (n : Nat) (v : ByteArray × Int) (k : Kont Unit) : loopC (codeC g_spec_l05Join [] .o (Code.pl (Code.pl (Code.pr (Code.pl (Code.pr (Code.pr c_spec_l05Join))))))) (fun σ => σ.forget [3, 6, 7, 8] []) (cutC ([], []) [(0, [3], [])] ([], [])) n (mkS 22 22 [(3, .val ⟨.str, false, v.1, []⟩), (6, .val ⟨y7, false, t6, [.S]⟩), (7, .val ⟨(.int .i64), false, t7, []⟩), (8, .val ⟨(.int .i64), false, v.2, []⟩)] []) k = iter (spec_l05Join_l0_s t6 t7) n v ((fun (k : Kont Unit) => (((fun (out1 : ByteArray) => k (.exit 0) (mkS 22 22 [(3, .val ⟨.str, false, out1, []⟩)] []))) : (ByteArray → Res))) k) := loop_eq (fun v : ByteArray × Int => (mkS 22 22 [(3, .val ⟨.str, false, v.1, []⟩), (6, .val ⟨y7, false, t6, [.S]⟩), (7, .val ⟨(.int .i64), false, t7, []⟩), (8, .val ⟨(.int .i64), false, v.2, []⟩)] [])) (spec_l05Join_l0_s t6 t7) (fun (k : Kont Unit) => (((fun (out1 : ByteArray) => k (.exit 0) (mkS 22 22 [(3, .val ⟨.str, false, out1, []⟩)] []))) : (ByteArray → Res))) (fun v rec k => by kernel_rfl) n v k
theorem ospec_l05Join_l0 {W0 : Base} {M : Nat → Prop} (hnp : W0.np ≤ 0) : CodeOk Tryz.prog W0 M (Code.pl (Code.pr (Code.pl (Code.pr (Code.pr c_spec_l05Join))))) xspec_l05Join_l0 := show CodeOk Tryz.prog W0 M (Code.loop (Code.pl (Code.pl (Code.pr (Code.pl (Code.pr (Code.pr c_spec_l05Join))))))) xspec_l05Join_l0 from loop_ok (code_sound follows tysOk (calls_ok fns_nil) hnp [] (Code.pl (Code.pl (Code.pr (Code.pl (Code.pr (Code.pr c_spec_l05Join)))))) .o trivial) (ks := [3, 6, 7, 8]) (bs := []) (fX := (cutC ([], []) [(0, [3], [])] ([], []))) (cutC_le _ _ _) FUEL (by
 intro σ k r h
 obtain ⟨hn, h1⟩ := rdN_some h
 obtain ⟨out, hs3, h2⟩ := rdV_some h1
 obtain ⟨t6, hs6, h3⟩ := rdV_some h2
 obtain ⟨t7, hs7, h4⟩ := rdV_some h3
 obtain ⟨t8, hs8, h5⟩ := rdV_some h4
 refine ⟨_, ?_, (espec_l05Join_l0 t6 t7 FUEL (out, t8) k).trans h5⟩
 exact mkS_le hn ⟨hs3, hs6, hs7, hs8, trivial⟩ trivial)
def spec_l05Join (l : List ByteArray) (k0 : ByteArray → Res) : Res :=
 spec_l05Join_l0 l (nI (List.length l)) FUEL eS 0 fun (out : ByteArray) =>
  k0 out
def s_spec_l05Join : Sig Unit := ⟨[.look y7 false], [false], fun vals ext k => av vals y7 fun l vals => nl vals <| nl ext <| spec_l05Join l (fun (r0 : ByteArray) => k [⟨.str, false, r0, []⟩] [] [])⟩
theorem E_spec_l05Join (l : List ByteArray) (a_l : Bool) (t_l : List Tag) (k : qK) : funC g_spec_l05Join [xspec_l05Join_l0] (.t .o (.t .o (.t (.t .o (.t (.x 0) .o)) .o))) false Tryz.f169 [.look y7 false] [false] [⟨y7, a_l, l, t_l⟩] [] k = spec_l05Join l (fun (r0 : ByteArray) => k [⟨.str, false, r0, []⟩] [] []) := by kernel_rfl
theorem S_spec_l05Join : Sound Tryz.prog 169 s_spec_l05Join := sound_of (Γ := g_spec_l05Join) (X := [xspec_l05Join_l0]) (ht := (.t .o (.t .o (.t (.t .o (.t (.x 0) .o)) .o)))) (fz := false) (c := c_spec_l05Join) follows tysOk fns_nil (OrOk.mk trivial ((OrOk.mk trivial ((OrOk.mk ((OrOk.mk trivial ((OrOk.mk (OrOk.x_mk (fun W0 M hnp => ospec_l05Join_l0 (W0 := W0) (M := M) hnp)) trivial)))) trivial))))) Tryz.func169 (by kernel_rfl) (by kernel_rfl) (by decide) (by
 intro vals ext k r h
 obtain ⟨l, a_l, t_l, vals, rfl, h1⟩ := av_some h
 obtain ⟨rfl, h2⟩ := nl_some h1
 obtain ⟨rfl, h3⟩ := nl_some h2
 exact (E_spec_l05Join l a_l t_l k).trans h3)

/-! ### 136 loop.example/g00462/spec.RowText -/
def c_spec_RowText : Code := (Tryz.f136.body).getD .skip
def g_spec_RowText : Env Unit := ⟨tys, [(168, s_spec_ValOk), (169, s_spec_l05Join), (170, s_spec_l05Vals)], 0⟩
def spec_RowText_l0_r (t6 : List qV) (t7 : Int) (t8 : Int) (rec : Int → Res) (k0 : Unit → Res) (k1 : Unit → Res) : Res :=
 bif decide (t8 < t7) then
  bif inb t8 (List.length t6) then
   spec_ValOk (nth (0, 0, eS) t6 t8) fun (r1 : Bool) =>
    bif !r1 then
     k1 ()
    else
     rec (wi64 (t8 + 1))
  else none
 else
  k0 ()
def spec_RowText_l0_s (t6 : List qV) (t7 : Int) : Int → (Int → Res) → ((Unit → Res) × (Unit → Res)) → Res := fun v rec q => spec_RowText_l0_r t6 t7 v (fun t8 => rec (t8)) q.1 q.2
def spec_RowText_l0 (t6 : List qV) (t7 : Int) (n : Nat) (t8 : Int) (k0 : Unit → Res) (k1 : Unit → Res) : Res := iter (spec_RowText_l0_s t6 t7) n (t8) (k0, k1)
def xspec_RowText_l0 : Node Unit := fun σ k => rdN σ 20 <| rdT σ 1 (.ptr ⟨true, 1, []⟩) <| rdV σ 6 y11 false [.S] fun t6 => rdV σ 7 (.int .i64) false [] fun t7 => rdV σ 8 (.int .i64) false [] fun t8 => rdB σ 1 y11 [.S] fun a r => spec_RowText_l0 t6 t7 FUEL t8 (fun (_ : Unit) => k (.exit 0) (mkS 20 20 [(1, .ptr ⟨true, 1, []⟩)] [(1, ⟨y11, a, r, [.S]⟩)])) (fun (_ : Unit) => k .ret (mkS 20 20 [(2, .val ⟨.str, false, eS, []⟩)] []))
theorem espec_RowText_l0 (t6 : List qV) (t7 : Int) (a : Bool) (r : List qV) (n : Nat) (v : Int) (k : Kont Unit) : loopC (codeC g_spec_RowText [] .o (Code.pl (Code.pl (Code.pr (Code.pl (Code.pr c_spec_RowText)))))) (fun σ => σ.forget [1, 6, 7, 8] [1]) (cutC ([], []) [(0, [1], [1])] ([2], [])) n (mkS 20 20 [(1, .ptr ⟨true, 1, []⟩), (6, .val ⟨y11, false, t6, [.S]⟩), (7, .val ⟨(.int .i64), false, t7, []⟩), (8, .val ⟨(.int .i64), false, v, []⟩)] [(1, ⟨y11, a, r, [.S]⟩)]) k = iter (spec_RowText_l0_s t6 t7) n v ((fun (k : Kont Unit) => (((fun (_ : Unit) => k (.exit 0) (mkS 20 20 [(1, .ptr ⟨true, 1, []⟩)] [(1, ⟨y11, a, r, [.S]⟩)])), (fun (_ : Unit) => k .ret (mkS 20 20 [(2, .val ⟨.str, false, eS, []⟩)] []))) : (Unit → Res) × (Unit → Res))) k) := loop_eq (fun v : Int => (mkS 20 20 [(1, .ptr ⟨true, 1, []⟩), (6, .val ⟨y11, false, t6, [.S]⟩), (7, .val ⟨(.int .i64), false, t7, []⟩), (8, .val ⟨(.int .i64), false, v, []⟩)] [(1, ⟨y11, a, r, [.S]⟩)])) (spec_RowText_l0_s t6 t7) (fun (k : Kont Unit) => (((fun (_ : Unit) => k (.exit 0) (mkS 20 20 [(1, .ptr ⟨true, 1, []⟩)] [(1, ⟨y11, a, r, [.S]⟩)])), (fun (_ : Unit) => k .ret (mkS 20 20 [(2, .val ⟨.str, false, eS, []⟩)] []))) : (Unit → Res) × (Unit → Res))) (fun v rec k => by kernel_rfl) n v k
theorem ospec_RowText_l0 {W0 : Base} {M : Nat → Prop} (hnp : W0.np ≤ 0) : CodeOk Tryz.prog W0 M (Code.pl (Code.pr (Code.pl (Code.pr c_spec_RowText)))) xspec_RowText_l0 := show CodeOk Tryz.prog W0 M (Code.loop (Code.pl (Code.pl (Code.pr (Code.pl (Code.pr c_spec_RowText)))))) xspec_RowText_l0 from loop_ok (code_sound follows tysOk (calls_ok (fns_cons S_spec_ValOk (fns_cons S_spec_l05Join (fns_cons S_spec_l05Vals fns_nil)))) hnp [] (Code.pl (Code.pl (Code.pr (Code.pl (Code.pr c_spec_RowText))))) .o trivial) (ks := [1, 6, 7, 8]) (bs := [1]) (fX := (cutC ([], []) [(0, [1], [1])] ([2], []))) (cutC_le _ _ _) FUEL (by
 intro σ k r h
 obtain ⟨hn, h1⟩ := rdN_some h
 obtain ⟨hs1, h2⟩ := rdT_some h1
 obtain ⟨t6, hs6, h3⟩ := rdV_some h2
 obtain ⟨t7, hs7, h4⟩ := rdV_some h3
 obtain ⟨t8, hs8, h5⟩ := rdV_some h4
 obtain ⟨a, r, hb1, h6⟩ := rdB_some h5
 refine ⟨_, ?_, (espec_RowText_l0 t6 t7 a r FUEL (t8) k).trans h6⟩
 exact mkS_le hn ⟨hs1, hs6, hs7, hs8, trivial⟩ ⟨hb1, trivial⟩)
def spec_RowText (r : List qV) (k0 : ByteArray → Res) : Res :=
 spec_RowText_l0 r (nI (List.length r)) FUEL 0
  (fun (_ : Unit) =>
   spec_l05Vals r fun (r1 : List ByteArray) =>
    spec_l05Join r1 fun (r2 : ByteArray) =>
     k0 r2)
  (fun (_ : Unit) =>
   k0 eS)
def s_spec_RowText : Sig Unit := ⟨[.look y11 true], [false], fun vals ext k => av vals y11 fun r vals => nl vals <| nl ext <| spec_RowText r (fun (r0 : ByteArray) => k [⟨.str, false, r0, []⟩] [] [])⟩
theorem E_spec_RowText (r : List qV) (a_r : Bool) (t_r : List Tag) (k : qK) : funC g_spec_RowText [xspec_RowText_l0] (.t .o (.t (.t .o (.t (.x 0) .o)) .o)) false Tryz.f136 [.look y11 true] [false] [⟨y11, a_r, r, t_r⟩] [] k = spec_RowText r (fun (r0 : ByteArray) => k [⟨.str, false, r0, []⟩] [] []) := by kernel_rfl
theorem S_spec_RowText : Sound Tryz.prog 136 s_spec_RowText := sound_of (Γ := g_spec_RowText) (X := [xspec_RowText_l0]) (ht := (.t .o (.t (.t .o (.t (.x 0) .o)) .o))) (fz := false) (c := c_spec_RowText) follows tysOk (fns_cons S_spec_ValOk (fns_cons S_spec_l05Join (fns_cons S_spec_l05Vals fns_nil))) (OrOk.mk trivial ((OrOk.mk ((OrOk.mk trivial ((OrOk.mk (OrOk.x_mk (fun W0 M hnp => ospec_RowText_l0 (W0 := W0) (M := M) hnp)) trivial)))) trivial))) Tryz.func136 (by kernel_rfl) (by kernel_rfl) (by decide) (by
 intro vals ext k r h
 obtain ⟨r, a_r, t_r, vals, rfl, h1⟩ := av_some h
 obtain ⟨rfl, h2⟩ := nl_some h1
 obtain ⟨rfl, h3⟩ := nl_some h2
 exact (E_spec_RowText r a_r t_r k).trans h3)

/-! ### 195 loop.example/g00462/impl.glued -/
def c_impl_glued : Code := (Tryz.f195.body).getD .skip
def g_impl_glued : Env Unit := ⟨tys, [], 0⟩
def impl_glued_l0_r (t6 : List ByteArray) (t7 : Int) (s : ByteArray) (t8 : Int) (rec : ByteArray → Int → Res) (k0 : ByteArray → Res) : Res :=
 bif decide (t8 < t7) then
  bif inb t8 (List.length t6) then
   bif decide (t8 > 0) then
    bif lim ((ByteArray.size s) + 1) then
     bif lim ((ByteArray.size (s ++ z___1)) + (ByteArray.size (nth eS t6 t8))) then
      rec ((s ++ z___1) ++ (nth eS t6 t8)) (wi64 (t8 + 1))
     else none
    else none
   else
    bif lim ((ByteArray.size s) + (ByteArray.size (nth eS t6 t8))) then
     rec (s ++ (nth eS t6 t8)) (wi64 (t8 + 1))
    else none
  else none
 else
  k0 s
def impl_glued_l0_s (t6 : List ByteArray) (t7 : Int) : (ByteArray × Int) → (ByteArray × Int → Res) → ((ByteArray → Res)) → Res := fun v rec q => impl_glued_l0_r t6 t7 v.1 v.2 (fun s t8 => rec (s, t8)) q
def impl_glued_l0 (t6 : List ByteArray) (t7 : Int) (n : Nat) (s : ByteArray) (t8 : Int) (k0 : ByteArray → Res) : Res := iter (impl_glued_l0_s t6 t7) n (s, t8) (k0)
def ximpl_glued_l0 : Node Unit := fun σ k => rdN σ 22 <| rdV σ 3 .str false [] fun s => rdV σ 6 y7 false [.S] fun t6 => rdV σ 7 (.int .i64) false [] fun t7 => rdV σ 8 (.int .i64) false [] fun t8 => impl_glued_l0 t6 t7 FUEL s t8 (fun (s1 : ByteArray) => k (.exit 0) (mkS 22 22 [(3, .val ⟨.str, false, s1, []⟩)] []))
theorem eimpl_glued_l0 (t6 : List ByteArray) (t7 : Int) (n : Nat) (v : ByteArray × Int) (k : Kont Unit) : loopC (codeC g_impl_glued [] .o (Code.pl (Code.pl (Code.pr (Code.pl (Code.pr (Code.pr c_impl_glued))))))) (fun σ => σ.forget [3, 6, 7, 8] []) (cutC ([], []) [(0, [3], [])] ([], [])) n (mkS 22 22 [(3, .val ⟨.str, false, v.1, []⟩), (6, .val ⟨y7, false, t6, [.S]⟩), (7, .val ⟨(.int .i64), false, t7, []⟩), (8, .val ⟨(.int .i64), false, v.2, []⟩)] []) k = iter (impl_glued_l0_s t6 t7) n v ((fun (k : Kont Unit) => (((fun (s1 : ByteArray) => k (.exit 0) (mkS 22 22 [(3, .val ⟨.str, false, s1, []⟩)] []))) : (ByteArray → Res))) k) := loop_eq (fun v : ByteArray × Int => (mkS 22 22 [(3, .val ⟨.str, false, v.1, []⟩), (6, .val ⟨y7, false, t6, [.S]⟩), (7, .val ⟨(.int .i64), false, t7, []⟩), (8, .val ⟨(.int .i64), false, v.2, []⟩)] [])) (impl_glued_l0_s t6 t7) (fun (k : Kont Unit) => (((fun (s1 : ByteArray) => k (.exit 0) (mkS 22 22 [(3, .val ⟨.str, false, s1, []⟩)] []))) : (ByteArray → Res))) (fun v rec k => by kernel_rfl) n v k
theorem oimpl_glued_l0 {W0 : Base} {M : Nat → Prop} (hnp : W0.np ≤ 0) : CodeOk Tryz.prog W0 M (Code.pl (Code.pr (Code.pl (Code.pr (Code.pr c_impl_glued))))) ximpl_glued_l0 := show CodeOk Tryz.prog W0 M (Code.loop (Code.pl (Code.pl (Code.pr (Code.pl (Code.pr (Code.pr c_impl_glued))))))) ximpl_glued_l0 from loop_ok (code_sound follows tysOk (calls_ok fns_nil) hnp [] (Code.pl (Code.pl (Code.pr (Code.pl (Code.pr (Code.pr c_impl_glued)))))) .o trivial) (ks := [3, 6, 7, 8]) (bs := []) (fX := (cutC ([], []) [(0, [3], [])] ([], []))) (cutC_le _ _ _) FUEL (by
 intro σ k r h
 obtain ⟨hn, h1⟩ := rdN_some h
 obtain ⟨s, hs3, h2⟩ := rdV_some h1
 obtain ⟨t6, hs6, h3⟩ := rdV_some h2
 obtain ⟨t7, hs7, h4⟩ := rdV_some h3
 obtain ⟨t8, hs8, h5⟩ := rdV_some h4
 refine ⟨_, ?_, (eimpl_glued_l0 t6 t7 FUEL (s, t8) k).trans h5⟩
 exact mkS_le hn ⟨hs3, hs6, hs7, hs8, trivial⟩ trivial)
def impl_glued (l : List ByteArray) (k0 : ByteArray → Res) : Res :=
 impl_glued_l0 l (nI (List.length l)) FUEL eS 0 fun (s : ByteArray) =>
  k0 s
def s_impl_glued : Sig Unit := ⟨[.look y7 false], [false], fun vals ext k => av vals y7 fun l vals => nl vals <| nl ext <| impl_glued l (fun (r0 : ByteArray) => k [⟨.str, false, r0, []⟩] [] [])⟩
theorem E_impl_glued (l : List ByteArray) (a_l : Bool) (t_l : List Tag) (k : qK) : funC g_impl_glued [ximpl_glued_l0] (.t .o (.t .o (.t (.t .o (.t (.x 0) .o)) .o))) false Tryz.f195 [.look y7 false] [false] [⟨y7, a_l, l, t_l⟩] [] k = impl_glued l (fun (r0 : ByteArray) => k [⟨.str, false, r0, []⟩] [] []) := by kernel_rfl
theorem S_impl_glued : Sound Tryz.prog 195 s_impl_glued := sound_of (Γ := g_impl_glued) (X := [ximpl_glued_l0]) (ht := (.t .o (.t .o (.t (.t .o (.t (.x 0) .o)) .o)))) (fz := false) (c := c_impl_glued) follows tysOk fns_nil (OrOk.mk trivial ((OrOk.mk trivial ((OrOk.mk ((OrOk.mk trivial ((OrOk.mk (OrOk.x_mk (fun W0 M hnp => oimpl_glued_l0 (W0 := W0) (M := M) hnp)) trivial)))) trivial))))) Tryz.func195 (by kernel_rfl) (by kernel_rfl) (by decide) (by
 intro vals ext k r h
 obtain ⟨l, a_l, t_l, vals, rfl, h1⟩ := av_some h
 obtain ⟨rfl, h2⟩ := nl_some h1
 obtain ⟨rfl, h3⟩ := nl_some h2
 exact (E_impl_glued l a_l t_l k).trans h3)

/-! ### 177 loop.example/g00462/impl.valTexts -/
def c_impl_valTexts : Code := (Tryz.f177.body).getD .skip
def g_impl_valTexts : Env Unit := ⟨tys, [(194, s_impl_ValText), (195, s_impl_glued)], 0⟩
def impl_valTexts_l0_r (t7 : List qV) (t8 : Int) (out : List ByteArray) (t9 : Int) (rec : (List ByteArray) → Int → Res) (k0 : (List ByteArray) → Res) : Res :=
 bif decide (t9 < t8) then
  bif inb t9 (List.length t7) then
   impl_ValText (nth (0, 0, eS) t7 t9) fun (r : ByteArray) =>
    bif lim ((List.length out) + 1) then
     rec (out ++ [r]) (wi64 (t9 + 1))
    else none
  else none
 else
  k0 out
def impl_valTexts_l0_s (t7 : List qV) (t8 : Int) : ((List ByteArray) × Int) → ((List ByteArray) × Int → Res) → (((List ByteArray) → Res)) → Res := fun v rec q => impl_valTexts_l0_r t7 t8 v.1 v.2 (fun out t9 => rec (out, t9)) q
def impl_valTexts_l0 (t7 : List qV) (t8 : Int) (n : Nat) (out : List ByteArray) (t9 : Int) (k0 : (List ByteArray) → Res) : Res := iter (impl_valTexts_l0_s t7 t8) n (out, t9) (k0)
def ximpl_valTexts_l0 : Node Unit := fun σ k => rdN σ 21 <| rdV σ 3 y7 false [.O] fun out => rdV σ 7 y11 false [.S] fun t7 => rdV σ 8 (.int .i64) false [] fun t8 => rdV σ 9 (.int .i64) false [] fun t9 => impl_valTexts_l0 t7 t8 FUEL out t9 (fun (out1 : List ByteArray) => k (.exit 0) (mkS 21 21 [(3, .val ⟨y7, false, out1, [.O]⟩)] []))
theorem eimpl_valTexts_l0 (t7 : List qV) (t8 : Int) (n : Nat) (v : (List ByteArray) × Int) (k : Kont Unit) : loopC (codeC g_impl_valTexts [] .o (Code.pl (Code.pl (Code.pr (Code.pl (Code.pr (Code.pr c_impl_valTexts))))))) (fun σ => σ.forget [3, 7, 8, 9] []) (cutC ([], []) [(0, [3], [])] ([], [])) n (mkS 21 21 [(3, .val ⟨y7, false, v.1, [.O]⟩), (7, .val ⟨y11, false, t7, [.S]⟩), (8, .val ⟨(.int .i64), false, t8, []⟩), (9, .val ⟨(.int .i64), false, v.2, []⟩)] []) k = iter (impl_valTexts_l0_s t7 t8) n v ((fun (k : Kont Unit) => (((fun (out1 : List ByteArray) => k (.exit 0) (mkS 21 21 [(3, .val ⟨y7, false, out1, [.O]⟩)] []))) : ((List ByteArray) → Res))) k) := loop_eq (fun v : (List ByteArray) × Int => (mkS 21 21 [(3, .val ⟨y7, false, v.1, [.O]⟩), (7, .val ⟨y11, false, t7, [.S]⟩), (8, .val ⟨(.int .i64), false, t8, []⟩), (9, .val ⟨(.int .i64), false, v.2, []⟩)] [])) (impl_valTexts_l0_s t7 t8) (fun (k : Kont Unit) => (((fun (out1 : List ByteArray) => k (.exit 0) (mkS 21 21 [(3, .val ⟨y7, false, out1, [.O]⟩)] []))) : ((List ByteArray) → Res))) (fun v rec k => by kernel_rfl) n v k
theorem oimpl_valTexts_l0 {W0 : Base} {M : Nat → Prop} (hnp : W0.np ≤ 0) : CodeOk Tryz.prog W0 M (Code.pl (Code.pr (Code.pl (Code.pr (Code.pr c_impl_valTexts))))) ximpl_valTexts_l0 := show CodeOk Tryz.prog W0 M (Code.loop (Code.pl (Code.pl (Code.pr (Code.pl (Code.pr (Code.pr c_impl_valTexts))))))) ximpl_valTexts_l0 from loop_ok (code_sound follows tysOk (calls_ok (fns_cons S_impl_ValText (fns_cons S_impl_glued fns_nil))) hnp [] (Code.pl (Code.pl (Code.pr (Code.pl (Code.pr (Code.pr c_impl_valTexts)))))) .o trivial) (ks := [3, 7, 8, 9]) (bs := []) (fX := (cutC ([], []) [(0, [3], [])] ([], []))) (cutC_le _ _ _) FUEL (by
 intro σ k r h
 obtain ⟨hn, h1⟩ := rdN_some h
 obtain ⟨out, hs3, h2⟩ := rdV_some h1
 obtain ⟨t7, hs7, h3⟩ := rdV_some h2
 obtain ⟨t8, hs8, h4⟩ := rdV_some h3
 obtain ⟨t9, hs9, h5⟩ := rdV_some h4
 refine ⟨_, ?_, (eimpl_valTexts_l0 t7 t8 FUEL (out, t9) k).trans h5⟩
 exact mkS_le hn ⟨hs3, hs7, hs8, hs9, trivial⟩ trivial)
def impl_valTexts (l : List qV) (k0 : ByteArray → Res) : Res :=
 impl_valTexts_l0 l (nI (List.length l)) FUEL [] 0 fun (out : List ByteArray) =>
  impl_glued out fun (r : ByteArray) =>
   k0 r
def s_impl_valTexts : Sig Unit := ⟨[.look y11 false], [false], fun vals ext k => av vals y11 fun l vals => nl vals <| nl ext <| impl_valTexts l (fun (r0 : ByteArray) => k [⟨.str, false, r0, []⟩] [] [])⟩
theorem E_impl_valTexts (l : List qV) (a_l : Bool) (t_l : List Tag) (k : qK) : funC g_impl_valTexts [ximpl_valTexts_l0] (.t .o (.t .o (.t (.t .o (.t (.x 0) .o)) .o))) false Tryz.f177 [.look y11 false] [false] [⟨y11, a_l, l, t_l⟩] [] k = impl_valTexts l (fun (r0 : ByteArray) => k [⟨.str, false, r0, []⟩] [] []) := by kernel_rfl
theorem S_impl_valTexts : Sound Tryz.prog 177 s_impl_valTexts := sound_of (Γ := g_impl_valTexts) (X := [ximpl_valTexts_l0]) (ht := (.t .o (.t .o (.t (.t .o (.t (.x 0) .o)) .o)))) (fz := false) (c := c_impl_valTexts) follows tysOk (fns_cons S_impl_ValText (fns_cons S_impl_glued fns_nil)) (OrOk.mk trivial ((OrOk.mk trivial ((OrOk.mk ((OrOk.mk trivial ((OrOk.mk (OrOk.x_mk (fun W0 M hnp => oimpl_valTexts_l0 (W0 := W0) (M := M) hnp)) trivial)))) trivial))))) Tryz.func177 (by kernel_rfl) (by kernel_rfl) (by decide) (by
 intro vals ext k r h
 obtain ⟨l, a_l, t_l, vals, rfl, h1⟩ := av_some h
 obtain ⟨rfl, h2⟩ := nl_some h1
 obtain ⟨rfl, h3⟩ := nl_some h2
 exact (E_impl_valTexts l a_l t_l k).trans h3)

/-! ### 143 loop.example/g00462/impl.RowText -/
def c_impl_RowText : Code := (Tryz.f143.body).getD .skip
def g_impl_RowText : Env Unit := ⟨tys, [(176, s_impl_ValOk), (177, s_impl_valTexts)], 0⟩
def impl_RowText_l0_r (t6 : List qV) (t7 : Int) (t8 : Int) (rec : Int → Res) (k0 : Unit → Res) (k1 : Unit → Res) : Res :=
 bif decide (t8 < t7) then
  bif inb t8 (List.length t6) then
   impl_ValOk (nth (0, 0, eS) t6 t8) fun (r1 : Bool) =>
    bif !r1 then
     k1 ()
    else
     rec (wi64 (t8 + 1))
  else none
 else
  k0 ()
def impl_RowText_l0_s (t6 : List qV) (t7 : Int) : Int → (Int → Res) → ((Unit → Res) × (Unit → Res)) → Res := fun v rec q => impl_RowText_l0_r t6 t7 v (fun t8 => rec (t8)) q.1 q.2
def impl_RowText_l0 (t6 : List qV) (t7 : Int) (n : Nat) (t8 : Int) (k0 : Unit → Res) (k1 : Unit → Res) : Res := iter (impl_RowText_l0_s t6 t7) n (t8) (k0, k1)
def ximpl_RowText_l0 : Node Unit := fun σ k => rdN σ 19 <| rdT σ 1 (.ptr ⟨true, 1, []⟩) <| rdV σ 6 y11 false [.S] fun t6 => rdV σ 7 (.int .i64) false [] fun t7 => rdV σ 8 (.int .i64) false [] fun t8 => rdB σ 1 y11 [.S] fun a r => impl_RowText_l0 t6 t7 FUEL t8 (fun (_ : Unit) => k (.exit 0) (mkS 19 19 [(1, .ptr ⟨true, 1, []⟩)] [(1, ⟨y11, a, r, [.S]⟩)])) (fun (_ : Unit) => k .ret (mkS 19 19 [(2, .val ⟨.str, false, eS, []⟩)] []))
theorem eimpl_RowText_l0 (t6 : List qV) (t7 : Int) (a : Bool) (r : List qV) (n : Nat) (v : Int) (k : Kont Unit) : loopC (codeC g_impl_RowText [] .o (Code.pl (Code.pl (Code.pr (Code.pl (Code.pr c_impl_RowText)))))) (fun σ => σ.forget [1, 6, 7, 8] [1]) (cutC ([], []) [(0, [1], [1])] ([2], [])) n (mkS 19 19 [(1, .ptr ⟨true, 1, []⟩), (6, .val ⟨y11, false, t6, [.S]⟩), (7, .val ⟨(.int .i64), false, t7, []⟩), (8, .val ⟨(.int .i64), false, v, []⟩)] [(1, ⟨y11, a, r, [.S]⟩)]) k = iter (impl_RowText_l0_s t6 t7) n v ((fun (k : Kont Unit) => (((fun (_ : Unit) => k (.exit 0) (mkS 19 19 [(1, .ptr ⟨true, 1, []⟩)] [(1, ⟨y11, a, r, [.S]⟩)])), (fun (_ : Unit) => k .ret (mkS 19 19 [(2, .val ⟨.str, false, eS, []⟩)] []))) : (Unit → Res) × (Unit → Res))) k) := loop_eq (fun v : Int => (mkS 19 19 [(1, .ptr ⟨true, 1, []⟩), (6, .val ⟨y11, false, t6, [.S]⟩), (7, .val ⟨(.int .i64), false, t7, []⟩), (8, .val ⟨(.int .i64), false, v, []⟩)] [(1, ⟨y11, a, r, [.S]⟩)])) (impl_RowText_l0_s t6 t7) (fun (k : Kont Unit) => (((fun (_ : Unit) => k (.exit 0) (mkS 19 19 [(1, .ptr ⟨true, 1, []⟩)] [(1, ⟨y11, a, r, [.S]⟩)])), (fun (_ : Unit) => k .ret (mkS 19 19 [(2, .val ⟨.str, false, eS, []⟩)] []))) : (Unit → Res) × (Unit → Res))) (fun v rec k => by kernel_rfl) n v k
theorem oimpl_RowText_l0 {W0 : Base} {M : Nat → Prop} (hnp : W0.np ≤ 0) : CodeOk Tryz.prog W0 M (Code.pl (Code.pr (Code.pl (Code.pr c_impl_RowText)))) ximpl_RowText_l0 := show CodeOk Tryz.prog W0 M (Code.loop (Code.pl (Code.pl (Code.pr (Code.pl (Code.pr c_impl_RowText)))))) ximpl_RowText_l0 from loop_ok (code_sound follows tysOk (calls_ok (fns_cons S_impl_ValOk (fns_cons S_impl_valTexts fns_nil))) hnp [] (Code.pl (Code.pl (Code.pr (Code.pl (Code.pr c_impl_RowText))))) .o trivial) (ks := [1, 6, 7, 8]) (bs := [1]) (fX := (cutC ([], []) [(0, [1], [1])] ([2], []))) (cutC_le _ _ _) FUEL (by
 intro σ k r h
 obtain ⟨hn, h1⟩ := rdN_some h
 obtain ⟨hs1, h2⟩ := rdT_some h1
 obtain ⟨t6, hs6, h3⟩ := rdV_some h2
 obtain ⟨t7, hs7, h4⟩ := rdV_some h3
 obtain ⟨t8, hs8, h5⟩ := rdV_some h4
 obtain ⟨a, r, hb1, h6⟩ := rdB_some h5
 refine ⟨_, ?_, (eimpl_RowText_l0 t6 t7 a r FUEL (t8) k).trans h6⟩
 exact mkS_le hn ⟨hs1, hs6, hs7, hs8, trivial⟩ ⟨hb1, trivial⟩)
def impl_RowText (r : List qV) (k0 : ByteArray → Res) : Res :=
 impl_RowText_l0 r (nI (List.length r)) FUEL 0
  (fun (_ : Unit) =>
   impl_valTexts r fun (r1 : ByteArray) =>
    k0 r1)
  (fun (_ : Unit) =>
   k0 eS)
def s_impl_RowText : Sig Unit := ⟨[.look y11 true], [false], fun vals ext k => av vals y11 fun r vals => nl vals <| nl ext <| impl_RowText r (fun (r0 : ByteArray) => k [⟨.str, false, r0, []⟩] [] [])⟩
theorem E_impl_RowText (r : List qV) (a_r : Bool) (t_r : List Tag) (k : qK) : funC g_impl_RowText [ximpl_RowText_l0] (.t .o (.t (.t .o (.t (.x 0) .o)) .o)) false Tryz.f143 [.look y11 true] [false] [⟨y11, a_r, r, t_r⟩] [] k = impl_RowText r (fun (r0 : ByteArray) => k [⟨.str, false, r0, []⟩] [] []) := by kernel_rfl
theorem S_impl_RowText : Sound Tryz.prog 143 s_impl_RowText := sound_of (Γ := g_impl_RowText) (X := [ximpl_RowText_l0]) (ht := (.t .o (.t (.t .o (.t (.x 0) .o)) .o))) (fz := false) (c := c_impl_RowText) follows tysOk (fns_cons S_impl_ValOk (fns_cons S_impl_valTexts fns_nil)) (OrOk.mk trivial ((OrOk.mk ((OrOk.mk trivial ((OrOk.mk (OrOk.x_mk (fun W0 M hnp => oimpl_RowText_l0 (W0 := W0) (M := M) hnp)) trivial)))) trivial))) Tryz.func143 (by kernel_rfl) (by kernel_rfl) (by decide) (by
 intro vals ext k r h
 obtain ⟨r, a_r, t_r, vals, rfl, h1⟩ := av_some h
 obtain ⟨rfl, h2⟩ := nl_some h1
 obtain ⟨rfl, h3⟩ := nl_some h2
 exact (E_impl_RowText r a_r t_r k).trans h3)
end Go.PI.G
end
noncomputable section
namespace Go.PI.G
open Go Go.PI Go.Proofs

/-! ### 135 loop.example/g00462/spec.Sum -/
def c_spec_Sum : Code := (Tryz.f135.body).getD .skip
def g_spec_Sum : Env Unit := ⟨tys, [], 0⟩
def spec_Sum_l0_r (t6 : List Int) (t7 : Int) (n_ : Int) (t8 : Int) (rec : Int → Int → Res) (k0 : Int → Res) : Res :=
 bif decide (t8 < t7) then
  bif inb t8 (List.length t6) then
   rec (Int.tmod (wi64 ((wi64 ((wi64 (257 * n_)) + (wi64 (nth 0 t6 t8)))) + 1)) 16777213) (wi64 (t8 + 1))
  else none
 else
  k0 n_
def spec_Sum_l0_s (t6 : List Int) (t7 : Int) : (Int × Int) → (Int × Int → Res) → ((Int → Res)) → Res := fun v rec q => spec_Sum_l0_r t6 t7 v.1 v.2 (fun n_ t8 => rec (n_, t8)) q
def spec_Sum_l0 (t6 : List Int) (t7 : Int) (n : Nat) (n_ : Int) (t8 : Int) (k0 : Int → Res) : Res := iter (spec_Sum_l0_s t6 t7) n (n_, t8) (k0)
def xspec_Sum_l0 : Node Unit := fun σ k => rdN σ 21 <| rdV σ 3 (.int .i64) false [] fun n_ => rdV σ 6 y15 false [.S] fun t6 => rdV σ 7 (.int .i64) false [] fun t7 => rdV σ 8 (.int .i64) false [] fun t8 => spec_Sum_l0 t6 t7 FUEL n_ t8 (fun (n_1 : Int) => k (.exit 0) (mkS 21 21 [(3, .val ⟨(.int .i64), false, n_1, []⟩)] []))
theorem espec_Sum_l0 (t6 : List Int) (t7 : Int) (n : Nat) (v : Int × Int) (k : Kont Unit) : loopC (codeC g_spec_Sum [] .o (Code.pl (Code.pl (Code.pr (Code.pl (Code.pr (Code.pr c_spec_Sum))))))) (fun σ => σ.forget [3, 6, 7, 8] []) (cutC ([], []) [(0, [3], [])] ([], [])) n (mkS 21 21 [(3, .val ⟨(.int .i64), false, v.1, []⟩), (6, .val ⟨y15, false, t6, [.S]⟩), (7, .val ⟨(.int .i64), false, t7, []⟩), (8, .val ⟨(.int .i64), false, v.2, []⟩)] []) k = iter (spec_Sum_l0_s t6 t7) n v ((fun (k : Kont Unit) => (((fun (n_1 : Int) => k (.exit 0) (mkS 21 21 [(3, .val ⟨(.int .i64), false, n_1, []⟩)] []))) : (Int → Res))) k) := loop_eq (fun v : Int × Int => (mkS 21 21 [(3, .val ⟨(.int .i64), false, v.1, []⟩), (6, .val ⟨y15, false, t6, [.S]⟩), (7, .val ⟨(.int .i64), false, t7, []⟩), (8, .val ⟨(.int .i64), false, v.2, []⟩)] [])) (spec_Sum_l0_s t6 t7) (fun (k : Kont Unit) => (((fun (n_1 : Int) => k (.exit 0) (mkS 21 21 [(3, .val ⟨(.int .i64), false, n_1, []⟩)] []))) : (Int → Res))) (fun v rec k => by kernel_rfl) n v k
theorem ospec_Sum_l0 {W0 : Base} {M : Nat → Prop} (hnp : W0.np ≤ 0) : CodeOk Tryz.prog W0 M (Code.pl (Code.pr (Code.pl (Code.pr (Code.pr c_spec_Sum))))) xspec_Sum_l0 := show CodeOk Tryz.prog W0 M (Code.loop (Code.pl (Code.pl (Code.pr (Code.pl (Code.pr (Code.pr c_spec_Sum))))))) xspec_Sum_l0 from loop_ok (code_sound follows tysOk (calls_ok fns_nil) hnp [] (Code.pl (Code.pl (Code.pr (Code.pl (Code.pr (Code.pr c_spec_Sum)))))) .o trivial) (ks := [3, 6, 7, 8]) (bs := []) (fX := (cutC ([], []) [(0, [3], [])] ([], []))) (cutC_le _ _ _) FUEL (by
 intro σ k r h
 obtain ⟨hn, h1⟩ := rdN_some h
 obtain ⟨n_, hs3, h2⟩ := rdV_some h1
 obtain ⟨t6, hs6, h3⟩ := rdV_some h2
 obtain ⟨t7, hs7, h4⟩ := rdV_some h3
 obtain ⟨t8, hs8, h5⟩ := rdV_some h4
 refine ⟨_, ?_, (espec_Sum_l0 t6 t7 FUEL (n_, t8) k).trans h5⟩
 exact mkS_le hn ⟨hs3, hs6, hs7, hs8, trivial⟩ trivial)
def spec_Sum (b : List Int) (k0 : Int → Res) : Res :=
 spec_Sum_l0 b (nI (List.length b)) FUEL 1 0 fun (n_ : Int) =>
  k0 n_
def s_spec_Sum : Sig Unit := ⟨[.look y15 false], [false], fun vals ext k => av vals y15 fun b vals => nl vals <| nl ext <| spec_Sum b (fun (r0 : Int) => k [⟨(.int .i64), false, r0, []⟩] [] [])⟩
theorem E_spec_Sum (b : List Int) (a_b : Bool) (t_b : List Tag) (k : qK) : funC g_spec_Sum [xspec_Sum_l0] (.t .o (.t .o (.t (.t .o (.t (.x 0) .o)) .o))) false Tryz.f135 [.look y15 false] [false] [⟨y15, a_b, b, t_b⟩] [] k = spec_Sum b (fun (r0 : Int) => k [⟨(.int .i64), false, r0, []⟩] [] []) := by kernel_rfl
theorem S_spec_Sum : Sound Tryz.prog 135 s_spec_Sum := sound_of (Γ := g_spec_Sum) (X := [xspec_Sum_l0]) (ht := (.t .o (.t .o (.t (.t .o (.t (.x 0) .o)) .o)))) (fz := false) (c := c_spec_Sum) follows tysOk fns_nil (OrOk.mk trivial ((OrOk.mk trivial ((OrOk.mk ((OrOk.mk trivial ((OrOk.mk (OrOk.x_mk (fun W0 M hnp => ospec_Sum_l0 (W0 := W0) (M := M) hnp)) trivial)))) trivial))))) Tryz.func135 (by kernel_rfl) (by kernel_rfl) (by decide) (by
 intro vals ext k r h
 obtain ⟨b, a_b, t_b, vals, rfl, h1⟩ := av_some h
 obtain ⟨rfl, h2⟩ := nl_some h1
 obtain ⟨rfl, h3⟩ := nl_some h2
 exact (E_spec_Sum b a_b t_b k).trans h3)

/-! ### 142 loop.example/g00462/impl.Sum -/
def c_impl_Sum : Code := (Tryz.f142.body).getD .skip
def g_impl_Sum : Env Unit := ⟨tys, [], 0⟩
def impl_Sum_l0_r (t6 : List Int) (t7 : Int) (n_ : Int) (t8 : Int) (rec : Int → Int → Res) (k0 : Int → Res) : Res :=
 bif decide (t8 < t7) then
  bif inb t8 (List.length t6) then
   rec (Int.tmod (wi64 ((wi64 ((wi64 (257 * n_)) + (wi64 (nth 0 t6 t8)))) + 1)) 16777213) (wi64 (t8 + 1))
  else none
 else
  k0 n_
def impl_Sum_l0_s (t6 : List Int) (t7 : Int) : (Int × Int) → (Int × Int → Res) → ((Int → Res)) → Res := fun v rec q => impl_Sum_l0_r t6 t7 v.1 v.2 (fun n_ t8 => rec (n_, t8)) q
def impl_Sum_l0 (t6 : List Int) (t7 : Int) (n : Nat) (n_ : Int) (t8 : Int) (k0 : Int → Res) : Res := iter (impl_Sum_l0_s t6 t7) n (n_, t8) (k0)
def ximpl_Sum_l0 : Node Unit := fun σ k => rdN σ 21 <| rdV σ 3 (.int .i64) false [] fun n_ => rdV σ 6 y15 false [.S] fun t6 => rdV σ 7 (.int .i64) false [] fun t7 => rdV σ 8 (.int .i64) false [] fun t8 => impl_Sum_l0 t6 t7 FUEL n_ t8 (fun (n_1 : Int) => k (.exit 0) (mkS 21 21 [(3, .val ⟨(.int .i64), false, n_1, []⟩)] []))
theorem eimpl_Sum_l0 (t6 : List Int) (t7 : Int) (n : Nat) (v : Int × Int) (k : Kont Unit) : loopC (codeC g_impl_Sum [] .o (Code.pl (Code.pl (Code.pr (Code.pl (Code.pr (Code.pr c_impl_Sum))))))) (fun σ => σ.forget [3, 6, 7, 8] []) (cutC ([], []) [(0, [3], [])] ([], [])) n (mkS 21 21 [(3, .val ⟨(.int .i64), false, v.1, []⟩), (6, .val ⟨y15, false, t6, [.S]⟩), (7, .val ⟨(.int .i64), false, t7, []⟩), (8, .val ⟨(.int .i64), false, v.2, []⟩)] []) k = iter (impl_Sum_l0_s t6 t7) n v ((fun (k : Kont Unit) => (((fun (n_1 : Int) => k (.exit 0) (mkS 21 21 [(3, .val ⟨(.int .i64), false, n_1, []⟩)] []))) : (Int → Res))) k) := loop_eq (fun v : Int × Int => (mkS 21 21 [(3, .val ⟨(.int .i64), false, v.1, []⟩), (6, .val ⟨y15, false, t6, [.S]⟩), (7, .val ⟨(.int .i64), false, t7, []⟩), (8, .val ⟨(.int .i64), false, v.2, []⟩)] [])) (impl_Sum_l0_s t6 t7) (fun (k : Kont Unit) => (((fun (n_1 : Int) => k (.exit 0) (mkS 21 21 [(3, .val ⟨(.int .i64), false, n_1, []⟩)] []))) : (Int → Res))) (fun v rec k => by kernel_rfl) n v k
theorem oimpl_Sum_l0 {W0 : Base} {M : Nat → Prop} (hnp : W0.np ≤ 0) : CodeOk Tryz.prog W0 M (Code.pl (Code.pr (Code.pl (Code.pr (Code.pr c_impl_Sum))))) ximpl_Sum_l0 := show CodeOk Tryz.prog W0 M (Code.loop (Code.pl (Code.pl (Code.pr (Code.pl (Code.pr (Code.pr c_impl_Sum))))))) ximpl_Sum_l0 from loop_ok (code_sound follows tysOk (calls_ok fns_nil) hnp [] (Code.pl (Code.pl (Code.pr (Code.pl (Code.pr (Code.pr c_impl_Sum)))))) .o trivial) (ks := [3, 6, 7, 8]) (bs := []) (fX := (cutC ([], []) [(0, [3], [])] ([], []))) (cutC_le _ _ _) FUEL (by
 intro σ k r h
 obtain ⟨hn, h1⟩ := rdN_some h
 obtain ⟨n_, hs3, h2⟩ := rdV_some h1
 obtain ⟨t6, hs6, h3⟩ := rdV_some h2
 obtain ⟨t7, hs7, h4⟩ := rdV_some h3
 obtain ⟨t8, hs8, h5⟩ := rdV_some h4
 refine ⟨_, ?_, (eimpl_Sum_l0 t6 t7 FUEL (n_, t8) k).trans h5⟩
 exact mkS_le hn ⟨hs3, hs6, hs7, hs8, trivial⟩ trivial)
def impl_Sum (b : List Int) (k0 : Int → Res) : Res :=
 impl_Sum_l0 b (nI (List.length b)) FUEL 1 0 fun (n_ : Int) =>
  k0 n_
def s_impl_Sum : Sig Unit := ⟨[.look y15 false], [false], fun vals ext k => av vals y15 fun b vals => nl vals <| nl ext <| impl_Sum b (fun (r0 : Int) => k [⟨(.int .i64), false, r0, []⟩] [] [])⟩
theorem E_impl_Sum (b : List Int) (a_b : Bool) (t_b : List Tag) (k : qK) : funC g_impl_Sum [ximpl_Sum_l0] (.t .o (.t .o (.t (.t .o (.t (.x 0) .o)) .o))) false Tryz.f142 [.look y15 false] [false] [⟨y15, a_b, b, t_b⟩] [] k = impl_Sum b (fun (r0 : Int) => k [⟨(.int .i64), false, r0, []⟩] [] []) := by kernel_rfl
theorem S_impl_Sum : Sound Tryz.prog 142 s_impl_Sum := sound_of (Γ := g_impl_Sum) (X := [ximpl_Sum_l0]) (ht := (.t .o (.t .o (.t (.t .o (.t (.x 0) .o)) .o)))) (fz := false) (c := c_impl_Sum) follows tysOk fns_nil (OrOk.mk trivial ((OrOk.mk trivial ((OrOk.mk ((OrOk.mk trivial ((OrOk.mk (OrOk.x_mk (fun W0 M hnp => oimpl_Sum_l0 (W0 := W0) (M := M) hnp)) trivial)))) trivial))))) Tryz.func142 (by kernel_rfl) (by kernel_rfl) (by decide) (by
 intro vals ext k r h
 obtain ⟨b, a_b, t_b, vals, rfl, h1⟩ := av_some h
 obtain ⟨rfl, h2⟩ := nl_some h1
 obtain ⟨rfl, h3⟩ := nl_some h2
 exact (E_impl_Sum b a_b t_b k).trans h3)
end Go.PI.G
end
