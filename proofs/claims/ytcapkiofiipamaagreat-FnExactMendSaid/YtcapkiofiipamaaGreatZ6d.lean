/-
  Printed texts and plain laws. No conditions.
-/
import Derived.Test.YtcapkiofiipamaaGreatZ6a
import Derived.Test.YtcapkiofiipamaaGreatZ6b
import Derived.Test.YtcapkiofiipamaaGreatZ6c
set_option linter.unusedVariables false
set_option maxRecDepth 100000
noncomputable section
namespace Go.PI.G
open Go Go.PI Go.Proofs

/-! ### 37 loop.example/g00462/spec.DbOk -/
def c_spec_DbOk : Code := (Tryz.f37.body).getD .skip
def g_spec_DbOk : Env Unit := ⟨tys, [(85, s_spec_CatOk), (86, s_spec_RowsOk)], 0⟩
def spec_DbOk_l0_r (t21 : List qT) (t22 : Int) (d : qF × List qR) (t23 : Int) (rec : Int → Res) (k0 : Unit → Res) (k1 : Unit → Res) : Res :=
 bif decide (t23 < t22) then
  bif inb t23 (List.length t21) then
   bif inb t23 (List.length d.2) then
    spec_RowsOk (nth (eS, [], []) t21 t23) (nth [] d.2 t23) fun (r : Bool) =>
     bif !r then
      k1 ()
     else
      rec (wi64 (t23 + 1))
   else none
  else none
 else
  k0 ()
def spec_DbOk_l0_s (t21 : List qT) (t22 : Int) (d : qF × List qR) : Int → (Int → Res) → ((Unit → Res) × (Unit → Res)) → Res := fun v rec q => spec_DbOk_l0_r t21 t22 d v (fun t23 => rec (t23)) q.1 q.2
def spec_DbOk_l0 (t21 : List qT) (t22 : Int) (d : qF × List qR) (n : Nat) (t23 : Int) (k0 : Unit → Res) (k1 : Unit → Res) : Res := iter (spec_DbOk_l0_s t21 t22 d) n (t23) (k0, k1)
def xspec_DbOk_l0 : Node Unit := fun σ k => rdN σ 38 <| rdT σ 1 (.ptr ⟨true, 1, []⟩) <| rdV σ 21 y10 false [.S] fun t21 => rdV σ 22 (.int .i64) false [] fun t22 => rdV σ 23 (.int .i64) false [] fun t23 => rdB σ 1 y14 [.S, .S] fun a d => spec_DbOk_l0 t21 t22 d FUEL t23 (fun (_ : Unit) => k (.exit 0) (mkS 38 38 [] [])) (fun (_ : Unit) => k .ret (mkS 38 38 [(2, .val ⟨.bool, false, false, []⟩)] []))
theorem espec_DbOk_l0 (t21 : List qT) (t22 : Int) (a : Bool) (d : qF × List qR) (n : Nat) (v : Int) (k : Kont Unit) : loopC (codeC g_spec_DbOk [] .o (Code.pl (Code.pl (Code.pr (Code.pl (Code.pr (Code.pr c_spec_DbOk))))))) (fun σ => σ.forget [1, 21, 22, 23] [1]) (cutC ([], []) [(0, [], [])] ([2], [])) n (mkS 38 38 [(1, .ptr ⟨true, 1, []⟩), (21, .val ⟨y10, false, t21, [.S]⟩), (22, .val ⟨(.int .i64), false, t22, []⟩), (23, .val ⟨(.int .i64), false, v, []⟩)] [(1, ⟨y14, a, d, [.S, .S]⟩)]) k = iter (spec_DbOk_l0_s t21 t22 d) n v ((fun (k : Kont Unit) => (((fun (_ : Unit) => k (.exit 0) (mkS 38 38 [] [])), (fun (_ : Unit) => k .ret (mkS 38 38 [(2, .val ⟨.bool, false, false, []⟩)] []))) : (Unit → Res) × (Unit → Res))) k) := loop_eq (fun v : Int => (mkS 38 38 [(1, .ptr ⟨true, 1, []⟩), (21, .val ⟨y10, false, t21, [.S]⟩), (22, .val ⟨(.int .i64), false, t22, []⟩), (23, .val ⟨(.int .i64), false, v, []⟩)] [(1, ⟨y14, a, d, [.S, .S]⟩)])) (spec_DbOk_l0_s t21 t22 d) (fun (k : Kont Unit) => (((fun (_ : Unit) => k (.exit 0) (mkS 38 38 [] [])), (fun (_ : Unit) => k .ret (mkS 38 38 [(2, .val ⟨.bool, false, false, []⟩)] []))) : (Unit → Res) × (Unit → Res))) (fun v rec k => by kernel_rfl) n v k
theorem ospec_DbOk_l0 {W0 : Base} {M : Nat → Prop} (hnp : W0.np ≤ 0) : CodeOk Tryz.prog W0 M (Code.pl (Code.pr (Code.pl (Code.pr (Code.pr c_spec_DbOk))))) xspec_DbOk_l0 := show CodeOk Tryz.prog W0 M (Code.loop (Code.pl (Code.pl (Code.pr (Code.pl (Code.pr (Code.pr c_spec_DbOk))))))) xspec_DbOk_l0 from loop_ok (code_sound follows tysOk (calls_ok (fns_cons S_spec_CatOk (fns_cons S_spec_RowsOk fns_nil))) hnp [] (Code.pl (Code.pl (Code.pr (Code.pl (Code.pr (Code.pr c_spec_DbOk)))))) .o trivial) (ks := [1, 21, 22, 23]) (bs := [1]) (fX := (cutC ([], []) [(0, [], [])] ([2], []))) (cutC_le _ _ _) FUEL (by
 intro σ k r h
 obtain ⟨hn, h1⟩ := rdN_some h
 obtain ⟨hs1, h2⟩ := rdT_some h1
 obtain ⟨t21, hs21, h3⟩ := rdV_some h2
 obtain ⟨t22, hs22, h4⟩ := rdV_some h3
 obtain ⟨t23, hs23, h5⟩ := rdV_some h4
 obtain ⟨a, d, hb1, h6⟩ := rdB_some h5
 refine ⟨_, ?_, (espec_DbOk_l0 t21 t22 a d FUEL (t23) k).trans h6⟩
 exact mkS_le hn ⟨hs1, hs21, hs22, hs23, trivial⟩ ⟨hb1, trivial⟩)
def spec_DbOk (d : qF × List qR) (k0 : Bool → Res) : Res :=
 spec_CatOk d.1 fun (r : Bool) =>
  bif !r then
   k0 false
  else
   bif ((nI (List.length d.2)) != (nI (List.length d.1))) then
    k0 false
   else
    spec_DbOk_l0 d.1 (nI (List.length d.1)) d FUEL 0
     (fun (_ : Unit) =>
      k0 true)
     (fun (_ : Unit) =>
      k0 false)
def s_spec_DbOk : Sig Unit := ⟨[.look y14 true], [false], fun vals ext k => av vals y14 fun d vals => nl vals <| nl ext <| spec_DbOk d (fun (r0 : Bool) => k [⟨.bool, false, r0, []⟩] [] [])⟩
theorem E_spec_DbOk (d : qF × List qR) (a_d : Bool) (t_d : List Tag) (k : qK) : funC g_spec_DbOk [xspec_DbOk_l0] (.t .o (.t .o (.t (.t .o (.t (.x 0) .o)) .o))) false Tryz.f37 [.look y14 true] [false] [⟨y14, a_d, d, t_d⟩] [] k = spec_DbOk d (fun (r0 : Bool) => k [⟨.bool, false, r0, []⟩] [] []) := by kernel_rfl
theorem S_spec_DbOk : Sound Tryz.prog 37 s_spec_DbOk := sound_of (Γ := g_spec_DbOk) (X := [xspec_DbOk_l0]) (ht := (.t .o (.t .o (.t (.t .o (.t (.x 0) .o)) .o)))) (fz := false) (c := c_spec_DbOk) follows tysOk (fns_cons S_spec_CatOk (fns_cons S_spec_RowsOk fns_nil)) (OrOk.mk trivial ((OrOk.mk trivial ((OrOk.mk ((OrOk.mk trivial ((OrOk.mk (OrOk.x_mk (fun W0 M hnp => ospec_DbOk_l0 (W0 := W0) (M := M) hnp)) trivial)))) trivial))))) Tryz.func37 (by kernel_rfl) (by kernel_rfl) (by decide) (by
 intro vals ext k r h
 obtain ⟨d, a_d, t_d, vals, rfl, h1⟩ := av_some h
 obtain ⟨rfl, h2⟩ := nl_some h1
 obtain ⟨rfl, h3⟩ := nl_some h2
 exact (E_spec_DbOk d a_d t_d k).trans h3)

/-! ### 42 loop.example/g00462/impl.DbOk -/
def c_impl_DbOk : Code := (Tryz.f42.body).getD .skip
def g_impl_DbOk : Env Unit := ⟨tys, [(90, s_impl_CatOk), (91, s_impl_RowsOk)], 0⟩
def impl_DbOk_l0_r (t21 : List qT) (t22 : Int) (d : qF × List qR) (t23 : Int) (rec : Int → Res) (k0 : Unit → Res) (k1 : Unit → Res) : Res :=
 bif decide (t23 < t22) then
  bif inb t23 (List.length t21) then
   bif inb t23 (List.length d.2) then
    impl_RowsOk (nth (eS, [], []) t21 t23) (nth [] d.2 t23) fun (r : Bool) =>
     bif !r then
      k1 ()
     else
      rec (wi64 (t23 + 1))
   else none
  else none
 else
  k0 ()
def impl_DbOk_l0_s (t21 : List qT) (t22 : Int) (d : qF × List qR) : Int → (Int → Res) → ((Unit → Res) × (Unit → Res)) → Res := fun v rec q => impl_DbOk_l0_r t21 t22 d v (fun t23 => rec (t23)) q.1 q.2
def impl_DbOk_l0 (t21 : List qT) (t22 : Int) (d : qF × List qR) (n : Nat) (t23 : Int) (k0 : Unit → Res) (k1 : Unit → Res) : Res := iter (impl_DbOk_l0_s t21 t22 d) n (t23) (k0, k1)
def ximpl_DbOk_l0 : Node Unit := fun σ k => rdN σ 38 <| rdT σ 1 (.ptr ⟨true, 1, []⟩) <| rdV σ 21 y10 false [.S] fun t21 => rdV σ 22 (.int .i64) false [] fun t22 => rdV σ 23 (.int .i64) false [] fun t23 => rdB σ 1 y14 [.S, .S] fun a d => impl_DbOk_l0 t21 t22 d FUEL t23 (fun (_ : Unit) => k (.exit 0) (mkS 38 38 [] [])) (fun (_ : Unit) => k .ret (mkS 38 38 [(2, .val ⟨.bool, false, false, []⟩)] []))
theorem eimpl_DbOk_l0 (t21 : List qT) (t22 : Int) (a : Bool) (d : qF × List qR) (n : Nat) (v : Int) (k : Kont Unit) : loopC (codeC g_impl_DbOk [] .o (Code.pl (Code.pl (Code.pr (Code.pl (Code.pr (Code.pr c_impl_DbOk))))))) (fun σ => σ.forget [1, 21, 22, 23] [1]) (cutC ([], []) [(0, [], [])] ([2], [])) n (mkS 38 38 [(1, .ptr ⟨true, 1, []⟩), (21, .val ⟨y10, false, t21, [.S]⟩), (22, .val ⟨(.int .i64), false, t22, []⟩), (23, .val ⟨(.int .i64), false, v, []⟩)] [(1, ⟨y14, a, d, [.S, .S]⟩)]) k = iter (impl_DbOk_l0_s t21 t22 d) n v ((fun (k : Kont Unit) => (((fun (_ : Unit) => k (.exit 0) (mkS 38 38 [] [])), (fun (_ : Unit) => k .ret (mkS 38 38 [(2, .val ⟨.bool, false, false, []⟩)] []))) : (Unit → Res) × (Unit → Res))) k) := loop_eq (fun v : Int => (mkS 38 38 [(1, .ptr ⟨true, 1, []⟩), (21, .val ⟨y10, false, t21, [.S]⟩), (22, .val ⟨(.int .i64), false, t22, []⟩), (23, .val ⟨(.int .i64), false, v, []⟩)] [(1, ⟨y14, a, d, [.S, .S]⟩)])) (impl_DbOk_l0_s t21 t22 d) (fun (k : Kont Unit) => (((fun (_ : Unit) => k (.exit 0) (mkS 38 38 [] [])), (fun (_ : Unit) => k .ret (mkS 38 38 [(2, .val ⟨.bool, false, false, []⟩)] []))) : (Unit → Res) × (Unit → Res))) (fun v rec k => by kernel_rfl) n v k
theorem oimpl_DbOk_l0 {W0 : Base} {M : Nat → Prop} (hnp : W0.np ≤ 0) : CodeOk Tryz.prog W0 M (Code.pl (Code.pr (Code.pl (Code.pr (Code.pr c_impl_DbOk))))) ximpl_DbOk_l0 := show CodeOk Tryz.prog W0 M (Code.loop (Code.pl (Code.pl (Code.pr (Code.pl (Code.pr (Code.pr c_impl_DbOk))))))) ximpl_DbOk_l0 from loop_ok (code_sound follows tysOk (calls_ok (fns_cons S_impl_CatOk (fns_cons S_impl_RowsOk fns_nil))) hnp [] (Code.pl (Code.pl (Code.pr (Code.pl (Code.pr (Code.pr c_impl_DbOk)))))) .o trivial) (ks := [1, 21, 22, 23]) (bs := [1]) (fX := (cutC ([], []) [(0, [], [])] ([2], []))) (cutC_le _ _ _) FUEL (by
 intro σ k r h
 obtain ⟨hn, h1⟩ := rdN_some h
 obtain ⟨hs1, h2⟩ := rdT_some h1
 obtain ⟨t21, hs21, h3⟩ := rdV_some h2
 obtain ⟨t22, hs22, h4⟩ := rdV_some h3
 obtain ⟨t23, hs23, h5⟩ := rdV_some h4
 obtain ⟨a, d, hb1, h6⟩ := rdB_some h5
 refine ⟨_, ?_, (eimpl_DbOk_l0 t21 t22 a d FUEL (t23) k).trans h6⟩
 exact mkS_le hn ⟨hs1, hs21, hs22, hs23, trivial⟩ ⟨hb1, trivial⟩)
def impl_DbOk (d : qF × List qR) (k0 : Bool → Res) : Res :=
 impl_CatOk d.1 fun (r : Bool) =>
  bif !r then
   k0 false
  else
   bif ((nI (List.length d.2)) != (nI (List.length d.1))) then
    k0 false
   else
    impl_DbOk_l0 d.1 (nI (List.length d.1)) d FUEL 0
     (fun (_ : Unit) =>
      k0 true)
     (fun (_ : Unit) =>
      k0 false)
def s_impl_DbOk : Sig Unit := ⟨[.look y14 true], [false], fun vals ext k => av vals y14 fun d vals => nl vals <| nl ext <| impl_DbOk d (fun (r0 : Bool) => k [⟨.bool, false, r0, []⟩] [] [])⟩
theorem E_impl_DbOk (d : qF × List qR) (a_d : Bool) (t_d : List Tag) (k : qK) : funC g_impl_DbOk [ximpl_DbOk_l0] (.t .o (.t .o (.t (.t .o (.t (.x 0) .o)) .o))) false Tryz.f42 [.look y14 true] [false] [⟨y14, a_d, d, t_d⟩] [] k = impl_DbOk d (fun (r0 : Bool) => k [⟨.bool, false, r0, []⟩] [] []) := by kernel_rfl
theorem S_impl_DbOk : Sound Tryz.prog 42 s_impl_DbOk := sound_of (Γ := g_impl_DbOk) (X := [ximpl_DbOk_l0]) (ht := (.t .o (.t .o (.t (.t .o (.t (.x 0) .o)) .o)))) (fz := false) (c := c_impl_DbOk) follows tysOk (fns_cons S_impl_CatOk (fns_cons S_impl_RowsOk fns_nil)) (OrOk.mk trivial ((OrOk.mk trivial ((OrOk.mk ((OrOk.mk trivial ((OrOk.mk (OrOk.x_mk (fun W0 M hnp => oimpl_DbOk_l0 (W0 := W0) (M := M) hnp)) trivial)))) trivial))))) Tryz.func42 (by kernel_rfl) (by kernel_rfl) (by decide) (by
 intro vals ext k r h
 obtain ⟨d, a_d, t_d, vals, rfl, h1⟩ := av_some h
 obtain ⟨rfl, h2⟩ := nl_some h1
 obtain ⟨rfl, h3⟩ := nl_some h2
 exact (E_impl_DbOk d a_d t_d k).trans h3)
end Go.PI.G
end
