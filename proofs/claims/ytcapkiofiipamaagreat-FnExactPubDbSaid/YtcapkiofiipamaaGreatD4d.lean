/-
  Printed texts and plain laws. No conditions.
-/
import Derived.Test.YtcapkiofiipamaaGreatD4a
import Derived.Test.YtcapkiofiipamaaGreatD4b
import Derived.Test.YtcapkiofiipamaaGreatD4c
set_option linter.unusedVariables false
set_option maxRecDepth 100000
noncomputable section
namespace Go.PI.G
open Go Go.PI Go.Proofs

/-! ### 37 loop.example/g00462/spec.DbOk -/
def c_spec_DbOk : Code := (Tryz.f37.body).getD .skip
def g_spec_DbOk : Env Unit := ⟨tys, [(85, s_spec_CatOk), (86, s_spec_RowsOk)], 0⟩
def spec_DbOk_l0_r (t21 : List qT) (t22 : Int) (d : qF × List qR) (t23 : Int) (rec : Int → Res) (k0 : Unit → Res) (k1 : Unit → Res) : Res :=
 bif decide (t23 < t22) then
  bif inb t23 (List.length t21) then
   bif inb t23 (List.length d.2) then
    spec_RowsOk (nth (eS, [], []) t21 t23) (nth [] d.2 t23) fun (r : Bool) =>
     bif !r then
      k1 ()
     else
      rec (wi64 (t23 + 1))
   else none
  else none
 else
  k0 ()
def spec_DbOk_l0_s (t21 : List qT) (t22 : Int) (d : qF × List qR) : Int → (Int → Res) → ((Unit → Res) × (Unit → Res)) → Res := fun v rec q => spec_DbOk_l0_r t21 t22 d v (fun t23 => rec (t23)) q.1 q.2
def spec_DbOk_l0 (t21 : List qT) (t22 : Int) (d : qF × List qR) (n : Nat) (t23 : Int) (k0 : Unit → Res) (k1 : Unit → Res) : Res := iter (spec_DbOk_l0_s t21 t22 d) n (t23) (k0, k1)
def xspec_DbOk_l0 : Node Unit := fun σ k => rdN σ 38 <| rdT σ 1 (.ptr ⟨true, 1, []⟩) <| rdV σ 21 y10 false [.S] fun t21 => rdV σ 22 (.int .i64) false [] fun t22 => rdV σ 23 (.int .i64) false [] fun t23 => rdB σ 1 y14 [.S, .S] fun a d => spec_DbOk_l0 t21 t22 d FUEL t23 (fun (_ : Unit) => k (.exit 0) (mkS 38 38 [] [])) (fun (_ : Unit) => k .ret (mkS 38 38 [(2, .val ⟨.bool, false, false, []⟩)] []))
theorem espec_DbOk_l0 (t21 : List qT) (t22 : Int) (a : Bool) (d : qF × List qR) (n : Nat) (v : Int) (k : Kont Unit) : loopC (codeC g_spec_DbOk [] .o (Code.pl (Code.pl (Code.pr (Code.pl (Code.pr (Code.pr c_spec_DbOk))))))) (fun σ => σ.forget [1, 21, 22, 23] [1]) (cutC ([], []) [(0, [], [])] ([2], [])) n (mkS 38 38 [(1, .ptr ⟨true, 1, []⟩), (21, .val ⟨y10, false, t21, [.S]⟩), (22, .val ⟨(.int .i64), false, t22, []⟩), (23, .val ⟨(.int .i64), false, v, []⟩)] [(1, ⟨y14, a, d, [.S, .S]⟩)]) k = iter (spec_DbOk_l0_s t21 t22 d) n v ((fun (k : Kont Unit) => (((fun (_ : Unit) => k (.exit 0) (mkS 38 38 [] [])), (fun (_ : Unit) => k .ret (mkS 38 38 [(2, .val ⟨.bool, false, false, []⟩)] []))) : (Unit → Res) × (Unit → Res))) k) := loop_eq (fun v : Int => (mkS 38 38 [(1, .ptr ⟨true, 1, []⟩), (21, .val ⟨y10, false, t21, [.S]⟩), (22, .val ⟨(.int .i64), false, t22, []⟩), (23, .val ⟨(.int .i64), false, v, []⟩)] [(1, ⟨y14, a, d, [.S, .S]⟩)])) (spec_DbOk_l0_s t21 t22 d) (fun (k : Kont Unit) => (((fun (_ : Unit) => k (.exit 0) (mkS 38 38 [] [])), (fun (_ : Unit) => k .ret (mkS 38 38 [(2, .val ⟨.bool, false, false, []⟩)] []))) : (Unit → Res) × (Unit → Res))) (fun v rec k => by kernel_rfl) n v k
theorem ospec_DbOk_l0 {W0 : Base} {M : Nat → Prop} (hnp : W0.np ≤ 0) : CodeOk Tryz.prog W0 M (Code.pl (Code.pr (Code.pl (Code.pr (Code.pr c_spec_DbOk))))) xspec_DbOk_l0 := show CodeOk Tryz.prog W0 M (Code.loop (Code.pl (Code.pl (Code.pr (Code.pl (Code.pr (Code.pr c_spec_DbOk))))))) xspec_DbOk_l0 from loop_ok (code_sound follows tysOk (calls_ok (fns_cons S_spec_CatOk (fns_cons S_spec_RowsOk fns_nil))) hnp [] (Code.pl (Code.pl (Code.pr (Code.pl (Code.pr (Code.pr c_spec_DbOk)))))) .o trivial) (ks := [1, 21, 22, 23]) (bs := [1]) (fX := (cutC ([], []) [(0, [], [])] ([2], []))) (cutC_le _ _ _) FUEL (by
 intro σ k r h
 obtain ⟨hn, h1⟩ := rdN_some h
 obtain ⟨hs1, h2⟩ := rdT_some h1
 obtain ⟨t21, hs21, h3⟩ := rdV_some h2
 obtain ⟨t22, hs22, h4⟩ := rdV_some h3
 obtain ⟨t23, hs23, h5⟩ := rdV_some h4
 obtain ⟨a, d, hb1, h6⟩ := rdB_some h5
 refine ⟨_, ?_, (espec_DbOk_l0 t21 t22 a d FUEL (t23) k).trans h6⟩
 exact mkS_le hn ⟨hs1, hs21, hs22, hs23, trivial⟩ ⟨hb1, trivial⟩)
def spec_DbOk (d : qF × List qR) (k0 : Bool → Res) : Res :=
 spec_CatOk d.1 fun (r : Bool) =>
  bif !r then
   k0 false
  else
   bif ((nI (List.length d.2)) != (nI (List.length d.1))) then
    k0 false
   else
    spec_DbOk_l0 d.1 (nI (List.length d.1)) d FUEL 0
     (fun (_ : Unit) =>
      k0 true)
     (fun (_ : Unit) =>
      k0 false)
def s_spec_DbOk : Sig Unit := ⟨[.look y14 true], [false], fun vals ext k => av vals y14 fun d vals => nl vals <| nl ext <| spec_DbOk d (fun (r0 : Bool) => k [⟨.bool, false, r0, []⟩] [] [])⟩
theorem E_spec_DbOk (d : qF × List qR) (a_d : Bool) (t_d : List Tag) (k : qK) : funC g_spec_DbOk [xspec_DbOk_l0] (.t .o (.t .o (.t (.t .o (.t (.x 0) .o)) .o))) false Tryz.f37 [.look y14 true] [false] [⟨y14, a_d, d, t_d⟩] [] k = spec_DbOk d (fun (r0 : Bool) => k [⟨.bool, false, r0, []⟩] [] []) := by kernel_rfl
theorem S_spec_DbOk : Sound Tryz.prog 37 s_spec_DbOk := sound_of (Γ := g_spec_DbOk) (X := [xspec_DbOk_l0]) (ht := (.t .o (.t .o (.t (.t .o (.t (.x 0) .o)) .o)))) (fz := false) (c := c_spec_DbOk) follows tysOk (fns_cons S_spec_CatOk (fns_cons S_spec_RowsOk fns_nil)) (OrOk.mk trivial ((OrOk.mk trivial ((OrOk.mk ((OrOk.mk trivial ((OrOk.mk (OrOk.x_mk (fun W0 M hnp => ospec_DbOk_l0 (W0 := W0) (M := M) hnp)) trivial)))) trivial))))) Tryz.func37 (by kernel_rfl) (by kernel_rfl) (by decide) (by
 intro vals ext k r h
 obtain ⟨d, a_d, t_d, vals, rfl, h1⟩ := av_some h
 obtain ⟨rfl, h2⟩ := nl_some h1
 obtain ⟨rfl, h3⟩ := nl_some h2
 exact (E_spec_DbOk d a_d t_d k).trans h3)

/-! ### 42 loop.example/g00462/impl.DbOk -/
def c_impl_DbOk : Code := (Tryz.f42.body).getD .skip
def g_impl_DbOk : Env Unit := ⟨tys, [(90, s_impl_CatOk), (91, s_impl_RowsOk)], 0⟩
def impl_DbOk_l0_r (t21 : List qT) (t22 : Int) (d : qF × List qR) (t23 : Int) (rec : Int → Res) (k0 : Unit → Res) (k1 : Unit → Res) : Res :=
 bif decide (t23 < t22) then
  bif inb t23 (List.length t21) then
   bif inb t23 (List.length d.2) then
    impl_RowsOk (nth (eS, [], []) t21 t23) (nth [] d.2 t23) fun (r : Bool) =>
     bif !r then
      k1 ()
     else
      rec (wi64 (t23 + 1))
   else none
  else none
 else
  k0 ()
def impl_DbOk_l0_s (t21 : List qT) (t22 : Int) (d : qF × List qR) : Int → (Int → Res) → ((Unit → Res) × (Unit → Res)) → Res := fun v rec q => impl_DbOk_l0_r t21 t22 d v (fun t23 => rec (t23)) q.1 q.2
def impl_DbOk_l0 (t21 : List qT) (t22 : Int) (d : qF × List qR) (n : Nat) (t23 : Int) (k0 : Unit → Res) (k1 : Unit → Res) : Res := iter (impl_DbOk_l0_s t21 t22 d) n (t23) (k0, k1)
def ximpl_DbOk_l0 : Node Unit := fun σ k => rdN σ 38 <| rdT σ 1 (.ptr ⟨true, 1, []⟩) <| rdV σ 21 y10 false [.S] fun t21 => rdV σ 22 (.int .i64) false [] fun t22 => rdV σ 23 (.int .i64) false [] fun t23 => rdB σ 1 y14 [.S, .S] fun a d => impl_DbOk_l0 t21 t22 d FUEL t23 (fun (_ : Unit) => k (.exit 0) (mkS 38 38 [] [])) (fun (_ : Unit) => k .ret (mkS 38 38 [(2, .val ⟨.bool, false, false, []⟩)] []))
theorem eimpl_DbOk_l0 (t21 : List qT) (t22 : Int) (a : Bool) (d : qF × List qR) (n : Nat) (v : Int) (k : Kont Unit) : loopC (codeC g_impl_DbOk [] .o (Code.pl (Code.pl (Code.pr (Code.pl (Code.pr (Code.pr c_impl_DbOk))))))) (fun σ => σ.forget [1, 21, 22, 23] [1]) (cutC ([], []) [(0, [], [])] ([2], [])) n (mkS 38 38 [(1, .ptr ⟨true, 1, []⟩), (21, .val ⟨y10, false, t21, [.S]⟩), (22, .val ⟨(.int .i64), false, t22, []⟩), (23, .val ⟨(.int .i64), false, v, []⟩)] [(1, ⟨y14, a, d, [.S, .S]⟩)]) k = iter (impl_DbOk_l0_s t21 t22 d) n v ((fun (k : Kont Unit) => (((fun (_ : Unit) => k (.exit 0) (mkS 38 38 [] [])), (fun (_ : Unit) => k .ret (mkS 38 38 [(2, .val ⟨.bool, false, false, []⟩)] []))) : (Unit → Res) × (Unit → Res))) k) := loop_eq (fun v : Int => (mkS 38 38 [(1, .ptr ⟨true, 1, []⟩), (21, .val ⟨y10, false, t21, [.S]⟩), (22, .val ⟨(.int .i64), false, t22, []⟩), (23, .val ⟨(.int .i64), false, v, []⟩)] [(1, ⟨y14, a, d, [.S, .S]⟩)])) (impl_DbOk_l0_s t21 t22 d) (fun (k : Kont Unit) => (((fun (_ : Unit) => k (.exit 0) (mkS 38 38 [] [])), (fun (_ : Unit) => k .ret (mkS 38 38 [(2, .val ⟨.bool, false, false, []⟩)] []))) : (Unit → Res) × (Unit → Res))) (fun v rec k => by kernel_rfl) n v k
theorem oimpl_DbOk_l0 {W0 : Base} {M : Nat → Prop} (hnp : W0.np ≤ 0) : CodeOk Tryz.prog W0 M (Code.pl (Code.pr (Code.pl (Code.pr (Code.pr c_impl_DbOk))))) ximpl_DbOk_l0 := show CodeOk Tryz.prog W0 M (Code.loop (Code.pl (Code.pl (Code.pr (Code.pl (Code.pr (Code.pr c_impl_DbOk))))))) ximpl_DbOk_l0 from loop_ok (code_sound follows tysOk (calls_ok (fns_cons S_impl_CatOk (fns_cons S_impl_RowsOk fns_nil))) hnp [] (Code.pl (Code.pl (Code.pr (Code.pl (Code.pr (Code.pr c_impl_DbOk)))))) .o trivial) (ks := [1, 21, 22, 23]) (bs := [1]) (fX := (cutC ([], []) [(0, [], [])] ([2], []))) (cutC_le _ _ _) FUEL (by
 intro σ k r h
 obtain ⟨hn, h1⟩ := rdN_some h
 obtain ⟨hs1, h2⟩ := rdT_some h1
 obtain ⟨t21, hs21, h3⟩ := rdV_some h2
 obtain ⟨t22, hs22, h4⟩ := rdV_some h3
 obtain ⟨t23, hs23, h5⟩ := rdV_some h4
 obtain ⟨a, d, hb1, h6⟩ := rdB_some h5
 refine ⟨_, ?_, (eimpl_DbOk_l0 t21 t22 a d FUEL (t23) k).trans h6⟩
 exact mkS_le hn ⟨hs1, hs21, hs22, hs23, trivial⟩ ⟨hb1, trivial⟩)
def impl_DbOk (d : qF × List qR) (k0 : Bool → Res) : Res :=
 impl_CatOk d.1 fun (r : Bool) =>
  bif !r then
   k0 false
  else
   bif ((nI (List.length d.2)) != (nI (List.length d.1))) then
    k0 false
   else
    impl_DbOk_l0 d.1 (nI (List.length d.1)) d FUEL 0
     (fun (_ : Unit) =>
      k0 true)
     (fun (_ : Unit) =>
      k0 false)
def s_impl_DbOk : Sig Unit := ⟨[.look y14 true], [false], fun vals ext k => av vals y14 fun d vals => nl vals <| nl ext <| impl_DbOk d (fun (r0 : Bool) => k [⟨.bool, false, r0, []⟩] [] [])⟩
theorem E_impl_DbOk (d : qF × List qR) (a_d : Bool) (t_d : List Tag) (k : qK) : funC g_impl_DbOk [ximpl_DbOk_l0] (.t .o (.t .o (.t (.t .o (.t (.x 0) .o)) .o))) false Tryz.f42 [.look y14 true] [false] [⟨y14, a_d, d, t_d⟩] [] k = impl_DbOk d (fun (r0 : Bool) => k [⟨.bool, false, r0, []⟩] [] []) := by kernel_rfl
theorem S_impl_DbOk : Sound Tryz.prog 42 s_impl_DbOk := sound_of (Γ := g_impl_DbOk) (X := [ximpl_DbOk_l0]) (ht := (.t .o (.t .o (.t (.t .o (.t (.x 0) .o)) .o)))) (fz := false) (c := c_impl_DbOk) follows tysOk (fns_cons S_impl_CatOk (fns_cons S_impl_RowsOk fns_nil)) (OrOk.mk trivial ((OrOk.mk trivial ((OrOk.mk ((OrOk.mk trivial ((OrOk.mk (OrOk.x_mk (fun W0 M hnp => oimpl_DbOk_l0 (W0 := W0) (M := M) hnp)) trivial)))) trivial))))) Tryz.func42 (by kernel_rfl) (by kernel_rfl) (by decide) (by
 intro vals ext k r h
 obtain ⟨d, a_d, t_d, vals, rfl, h1⟩ := av_some h
 obtain ⟨rfl, h2⟩ := nl_some h1
 obtain ⟨rfl, h3⟩ := nl_some h2
 exact (E_impl_DbOk d a_d t_d k).trans h3)
end Go.PI.G
end
noncomputable section
namespace Go.PI.G
open Go Go.PI Go.Proofs

/-! ### 51 loop.example/g00462/spec.PubOk -/
def c_spec_PubOk : Code := (Tryz.f51.body).getD .skip
def g_spec_PubOk : Env Unit := ⟨tys, [(99, s_spec_WordOk)], 0⟩
def spec_PubOk_l0_r (t6 : List ByteArray) (t7 : Int) (p : List ByteArray) (t8 : Int) (rec : Int → Res) (k0 : Unit → Res) (k1 : Unit → Res) : Res :=
 bif decide (t8 < t7) then
  bif inb t8 (List.length t6) then
   spec_WordOk (nth eS t6 t8) fun (r : Bool) =>
    bif !r then
     k1 ()
    else
     bif decide (t8 > 0) then
      bif inb (wi64 (t8 - 1)) (List.length p) then
       bif sGe (nth eS p (wi64 (t8 - 1))) (nth eS t6 t8) then
        k1 ()
       else
        rec (wi64 (t8 + 1))
      else none
     else
      rec (wi64 (t8 + 1))
  else none
 else
  k0 ()
def spec_PubOk_l0_s (t6 : List ByteArray) (t7 : Int) (p : List ByteArray) : Int → (Int → Res) → ((Unit → Res) × (Unit → Res)) → Res := fun v rec q => spec_PubOk_l0_r t6 t7 p v (fun t8 => rec (t8)) q.1 q.2
def spec_PubOk_l0 (t6 : List ByteArray) (t7 : Int) (p : List ByteArray) (n : Nat) (t8 : Int) (k0 : Unit → Res) (k1 : Unit → Res) : Res := iter (spec_PubOk_l0_s t6 t7 p) n (t8) (k0, k1)
def xspec_PubOk_l0 : Node Unit := fun σ k => rdN σ 35 <| rdT σ 1 (.ptr ⟨true, 1, []⟩) <| rdV σ 6 y7 false [.S] fun t6 => rdV σ 7 (.int .i64) false [] fun t7 => rdV σ 8 (.int .i64) false [] fun t8 => rdB σ 1 y7 [.S] fun a p => spec_PubOk_l0 t6 t7 p FUEL t8 (fun (_ : Unit) => k (.exit 0) (mkS 35 35 [(1, .ptr ⟨true, 1, []⟩)] [(1, ⟨y7, a, p, [.S]⟩)])) (fun (_ : Unit) => k .ret (mkS 35 35 [(2, .val ⟨.bool, false, false, []⟩)] []))
theorem espec_PubOk_l0 (t6 : List ByteArray) (t7 : Int) (a : Bool) (p : List ByteArray) (n : Nat) (v : Int) (k : Kont Unit) : loopC (codeC g_spec_PubOk [] .o (Code.pl (Code.pl (Code.pr (Code.pl (Code.pr c_spec_PubOk)))))) (fun σ => σ.forget [1, 6, 7, 8] [1]) (cutC ([], []) [(0, [1], [1])] ([2], [])) n (mkS 35 35 [(1, .ptr ⟨true, 1, []⟩), (6, .val ⟨y7, false, t6, [.S]⟩), (7, .val ⟨(.int .i64), false, t7, []⟩), (8, .val ⟨(.int .i64), false, v, []⟩)] [(1, ⟨y7, a, p, [.S]⟩)]) k = iter (spec_PubOk_l0_s t6 t7 p) n v ((fun (k : Kont Unit) => (((fun (_ : Unit) => k (.exit 0) (mkS 35 35 [(1, .ptr ⟨true, 1, []⟩)] [(1, ⟨y7, a, p, [.S]⟩)])), (fun (_ : Unit) => k .ret (mkS 35 35 [(2, .val ⟨.bool, false, false, []⟩)] []))) : (Unit → Res) × (Unit → Res))) k) := loop_eq (fun v : Int => (mkS 35 35 [(1, .ptr ⟨true, 1, []⟩), (6, .val ⟨y7, false, t6, [.S]⟩), (7, .val ⟨(.int .i64), false, t7, []⟩), (8, .val ⟨(.int .i64), false, v, []⟩)] [(1, ⟨y7, a, p, [.S]⟩)])) (spec_PubOk_l0_s t6 t7 p) (fun (k : Kont Unit) => (((fun (_ : Unit) => k (.exit 0) (mkS 35 35 [(1, .ptr ⟨true, 1, []⟩)] [(1, ⟨y7, a, p, [.S]⟩)])), (fun (_ : Unit) => k .ret (mkS 35 35 [(2, .val ⟨.bool, false, false, []⟩)] []))) : (Unit → Res) × (Unit → Res))) (fun v rec k => by kernel_rfl) n v k
theorem ospec_PubOk_l0 {W0 : Base} {M : Nat → Prop} (hnp : W0.np ≤ 0) : CodeOk Tryz.prog W0 M (Code.pl (Code.pr (Code.pl (Code.pr c_spec_PubOk)))) xspec_PubOk_l0 := show CodeOk Tryz.prog W0 M (Code.loop (Code.pl (Code.pl (Code.pr (Code.pl (Code.pr c_spec_PubOk)))))) xspec_PubOk_l0 from loop_ok (code_sound follows tysOk (calls_ok (fns_cons S_spec_WordOk fns_nil)) hnp [] (Code.pl (Code.pl (Code.pr (Code.pl (Code.pr c_spec_PubOk))))) .o trivial) (ks := [1, 6, 7, 8]) (bs := [1]) (fX := (cutC ([], []) [(0, [1], [1])] ([2], []))) (cutC_le _ _ _) FUEL (by
 intro σ k r h
 obtain ⟨hn, h1⟩ := rdN_some h
 obtain ⟨hs1, h2⟩ := rdT_some h1
 obtain ⟨t6, hs6, h3⟩ := rdV_some h2
 obtain ⟨t7, hs7, h4⟩ := rdV_some h3
 obtain ⟨t8, hs8, h5⟩ := rdV_some h4
 obtain ⟨a, p, hb1, h6⟩ := rdB_some h5
 refine ⟨_, ?_, (espec_PubOk_l0 t6 t7 a p FUEL (t8) k).trans h6⟩
 exact mkS_le hn ⟨hs1, hs6, hs7, hs8, trivial⟩ ⟨hb1, trivial⟩)
def spec_PubOk (p : List ByteArray) (k0 : Bool → Res) : Res :=
 spec_PubOk_l0 p (nI (List.length p)) p FUEL 0
  (fun (_ : Unit) =>
   k0 (decide ((nI (List.length p)) ≤ 6)))
  (fun (_ : Unit) =>
   k0 false)
def s_spec_PubOk : Sig Unit := ⟨[.look y7 true], [false], fun vals ext k => av vals y7 fun p vals => nl vals <| nl ext <| spec_PubOk p (fun (r0 : Bool) => k [⟨.bool, false, r0, []⟩] [] [])⟩
theorem E_spec_PubOk (p : List ByteArray) (a_p : Bool) (t_p : List Tag) (k : qK) : funC g_spec_PubOk [xspec_PubOk_l0] (.t .o (.t (.t .o (.t (.x 0) .o)) .o)) false Tryz.f51 [.look y7 true] [false] [⟨y7, a_p, p, t_p⟩] [] k = spec_PubOk p (fun (r0 : Bool) => k [⟨.bool, false, r0, []⟩] [] []) := by kernel_rfl
theorem S_spec_PubOk : Sound Tryz.prog 51 s_spec_PubOk := sound_of (Γ := g_spec_PubOk) (X := [xspec_PubOk_l0]) (ht := (.t .o (.t (.t .o (.t (.x 0) .o)) .o))) (fz := false) (c := c_spec_PubOk) follows tysOk (fns_cons S_spec_WordOk fns_nil) (OrOk.mk trivial ((OrOk.mk ((OrOk.mk trivial ((OrOk.mk (OrOk.x_mk (fun W0 M hnp => ospec_PubOk_l0 (W0 := W0) (M := M) hnp)) trivial)))) trivial))) Tryz.func51 (by kernel_rfl) (by kernel_rfl) (by decide) (by
 intro vals ext k r h
 obtain ⟨p, a_p, t_p, vals, rfl, h1⟩ := av_some h
 obtain ⟨rfl, h2⟩ := nl_some h1
 obtain ⟨rfl, h3⟩ := nl_some h2
 exact (E_spec_PubOk p a_p t_p k).trans h3)

/-! ### 52 loop.example/g00462/spec.Told -/
def c_spec_Told : Code := (Tryz.f52.body).getD .skip
def g_spec_Told : Env Unit := ⟨tys, [(51, s_spec_PubOk), (100, s_spec_l02Has)], 0⟩
def spec_Told (p : List ByteArray) (table : ByteArray) (k0 : Bool → Res) : Res :=
 spec_PubOk p fun (r : Bool) =>
  bif r then
   spec_l02Has p table fun (r1 : Bool) =>
    k0 r1
  else
   k0 false
def s_spec_Told : Sig Unit := ⟨[.look y7 true, .look .str false], [false], fun vals ext k => av vals y7 fun p vals => av vals .str fun table vals => nl vals <| nl ext <| spec_Told p table (fun (r0 : Bool) => k [⟨.bool, false, r0, []⟩] [] [])⟩
theorem E_spec_Told (p : List ByteArray) (a_p : Bool) (t_p : List Tag) (table : ByteArray) (a_table : Bool) (t_table : List Tag) (k : qK) : funC g_spec_Told [] .o false Tryz.f52 [.look y7 true, .look .str false] [false] [⟨y7, a_p, p, t_p⟩, ⟨.str, a_table, table, t_table⟩] [] k = spec_Told p table (fun (r0 : Bool) => k [⟨.bool, false, r0, []⟩] [] []) := by kernel_rfl
theorem S_spec_Told : Sound Tryz.prog 52 s_spec_Told := sound_of (Γ := g_spec_Told) (X := []) (ht := .o) (fz := false) (c := c_spec_Told) follows tysOk (fns_cons S_spec_PubOk (fns_cons S_spec_l02Has fns_nil)) trivial Tryz.func52 (by kernel_rfl) (by kernel_rfl) (by decide) (by
 intro vals ext k r h
 obtain ⟨p, a_p, t_p, vals, rfl, h1⟩ := av_some h
 obtain ⟨table, a_table, t_table, vals, rfl, h2⟩ := av_some h1
 obtain ⟨rfl, h3⟩ := nl_some h2
 obtain ⟨rfl, h4⟩ := nl_some h3
 exact (E_spec_Told p a_p t_p table a_table t_table k).trans h4)

/-! ### 17 loop.example/g00462/spec.PubDb -/
def c_spec_PubDb : Code := (Tryz.f17.body).getD .skip
def g_spec_PubDb : Env Unit := ⟨tys, [(37, s_spec_DbOk), (51, s_spec_PubOk), (52, s_spec_Told), (53, s_spec_l02Table), (54, s_spec_l03Copy)], 0⟩
def spec_PubDb_l0_r (t20 : List qT) (t21 : Int) (p : List ByteArray) (d : qF × List qR) (t22 : Int) (out : qF × List qR) (rec : Int → qD → Res) (k0 : qD → Res) : Res :=
 bif decide (t22 < t21) then
  bif inb t22 (List.length t20) then
   spec_Told p (nth (eS, [], []) t20 t22).1 fun (r : Bool) =>
    bif r then
     spec_l02Table (nth (eS, [], []) t20 t22) fun (r1 : ByteArray × qE × List ByteArray) =>
      bif lim ((List.length out.1) + 1) then
       bif inb t22 (List.length d.2) then
        spec_l03Copy (nth [] d.2 t22) fun (r2 : List qW) =>
         bif lim ((List.length out.2) + 1) then
          rec (wi64 (t22 + 1)) ((out.1 ++ [r1]), (out.2 ++ [r2]))
         else none
       else none
      else none
    else
     rec (wi64 (t22 + 1)) out
  else none
 else
  k0 out
def spec_PubDb_l0_s (t20 : List qT) (t21 : Int) (p : List ByteArray) (d : qF × List qR) : (Int × qD) → (Int × qD → Res) → ((qD → Res)) → Res := fun v rec q => spec_PubDb_l0_r t20 t21 p d v.1 v.2 (fun t22 out => rec (t22, out)) q
def spec_PubDb_l0 (t20 : List qT) (t21 : Int) (p : List ByteArray) (d : qF × List qR) (n : Nat) (t22 : Int) (out : qF × List qR) (k0 : qD → Res) : Res := iter (spec_PubDb_l0_s t20 t21 p d) n (t22, out) (k0)
def xspec_PubDb_l0 : Node Unit := fun σ k => rdN σ 55 <| rdT σ 2 (.ptr ⟨true, 2, []⟩) <| rdT σ 3 (.ptr ⟨true, 3, []⟩) <| rdT σ 4 (.ptr ⟨true, 4, []⟩) <| rdT σ 5 (.ptr ⟨true, 5, []⟩) <| rdV σ 20 y10 false [.S] fun t20 => rdV σ 21 (.int .i64) false [] fun t21 => rdV σ 22 (.int .i64) false [] fun t22 => rdB σ 2 y7 [.S] fun a p => rdB σ 3 y14 [.S, .S] fun a1 d => rdB σ 4 y14 [.O, .O] fun a2 t4 => rdB σ 5 y14 [.O, .O] fun a3 out => spec_PubDb_l0 t20 t21 p d FUEL t22 out (fun (out1 : qF × List qR) => k (.exit 0) (mkS 55 55 [(4, .ptr ⟨true, 4, []⟩), (5, .ptr ⟨true, 5, []⟩)] [(4, ⟨y14, a2, t4, [.O, .O]⟩), (5, ⟨y14, a3, out1, [.O, .O]⟩)]))
theorem espec_PubDb_l0 (t20 : List qT) (t21 : Int) (a : Bool) (p : List ByteArray) (a1 : Bool) (d : qF × List qR) (a2 : Bool) (t4 : qF × List qR) (a3 : Bool) (n : Nat) (v : Int × qD) (k : Kont Unit) : loopC (codeC g_spec_PubDb [] .o (Code.pl (Code.pl (Code.pr (Code.pl (Code.pr (Code.pr (Code.pr c_spec_PubDb)))))))) (fun σ => σ.forget [2, 3, 4, 5, 20, 21, 22] [2, 3, 4, 5]) (cutC ([], []) [(0, [4, 5], [4, 5])] ([], [])) n (mkS 55 55 [(2, .ptr ⟨true, 2, []⟩), (3, .ptr ⟨true, 3, []⟩), (4, .ptr ⟨true, 4, []⟩), (5, .ptr ⟨true, 5, []⟩), (20, .val ⟨y10, false, t20, [.S]⟩), (21, .val ⟨(.int .i64), false, t21, []⟩), (22, .val ⟨(.int .i64), false, v.1, []⟩)] [(2, ⟨y7, a, p, [.S]⟩), (3, ⟨y14, a1, d, [.S, .S]⟩), (4, ⟨y14, a2, t4, [.O, .O]⟩), (5, ⟨y14, a3, v.2, [.O, .O]⟩)]) k = iter (spec_PubDb_l0_s t20 t21 p d) n v ((fun (k : Kont Unit) => (((fun (out1 : qF × List qR) => k (.exit 0) (mkS 55 55 [(4, .ptr ⟨true, 4, []⟩), (5, .ptr ⟨true, 5, []⟩)] [(4, ⟨y14, a2, t4, [.O, .O]⟩), (5, ⟨y14, a3, out1, [.O, .O]⟩)]))) : (qD → Res))) k) := loop_eq (fun v : Int × qD => (mkS 55 55 [(2, .ptr ⟨true, 2, []⟩), (3, .ptr ⟨true, 3, []⟩), (4, .ptr ⟨true, 4, []⟩), (5, .ptr ⟨true, 5, []⟩), (20, .val ⟨y10, false, t20, [.S]⟩), (21, .val ⟨(.int .i64), false, t21, []⟩), (22, .val ⟨(.int .i64), false, v.1, []⟩)] [(2, ⟨y7, a, p, [.S]⟩), (3, ⟨y14, a1, d, [.S, .S]⟩), (4, ⟨y14, a2, t4, [.O, .O]⟩), (5, ⟨y14, a3, v.2, [.O, .O]⟩)])) (spec_PubDb_l0_s t20 t21 p d) (fun (k : Kont Unit) => (((fun (out1 : qF × List qR) => k (.exit 0) (mkS 55 55 [(4, .ptr ⟨true, 4, []⟩), (5, .ptr ⟨true, 5, []⟩)] [(4, ⟨y14, a2, t4, [.O, .O]⟩), (5, ⟨y14, a3, out1, [.O, .O]⟩)]))) : (qD → Res))) (fun v rec k => by kernel_rfl) n v k
theorem ospec_PubDb_l0 {W0 : Base} {M : Nat → Prop} (hnp : W0.np ≤ 0) : CodeOk Tryz.prog W0 M (Code.pl (Code.pr (Code.pl (Code.pr (Code.pr (Code.pr c_spec_PubDb)))))) xspec_PubDb_l0 := show CodeOk Tryz.prog W0 M (Code.loop (Code.pl (Code.pl (Code.pr (Code.pl (Code.pr (Code.pr (Code.pr c_spec_PubDb)))))))) xspec_PubDb_l0 from loop_ok (code_sound follows tysOk (calls_ok (fns_cons S_spec_DbOk (fns_cons S_spec_PubOk (fns_cons S_spec_Told (fns_cons S_spec_l02Table (fns_cons S_spec_l03Copy fns_nil)))))) hnp [] (Code.pl (Code.pl (Code.pr (Code.pl (Code.pr (Code.pr (Code.pr c_spec_PubDb))))))) .o trivial) (ks := [2, 3, 4, 5, 20, 21, 22]) (bs := [2, 3, 4, 5]) (fX := (cutC ([], []) [(0, [4, 5], [4, 5])] ([], []))) (cutC_le _ _ _) FUEL (by
 intro σ k r h
 obtain ⟨hn, h1⟩ := rdN_some h
 obtain ⟨hs2, h2⟩ := rdT_some h1
 obtain ⟨hs3, h3⟩ := rdT_some h2
 obtain ⟨hs4, h4⟩ := rdT_some h3
 obtain ⟨hs5, h5⟩ := rdT_some h4
 obtain ⟨t20, hs20, h6⟩ := rdV_some h5
 obtain ⟨t21, hs21, h7⟩ := rdV_some h6
 obtain ⟨t22, hs22, h8⟩ := rdV_some h7
 obtain ⟨a, p, hb2, h9⟩ := rdB_some h8
 obtain ⟨a1, d, hb3, h10⟩ := rdB_some h9
 obtain ⟨a2, t4, hb4, h11⟩ := rdB_some h10
 obtain ⟨a3, out, hb5, h12⟩ := rdB_some h11
 refine ⟨_, ?_, (espec_PubDb_l0 t20 t21 a p a1 d a2 t4 a3 FUEL (t22, out) k).trans h12⟩
 exact mkS_le hn ⟨hs2, hs3, hs4, hs5, hs20, hs21, hs22, trivial⟩ ⟨hb2, hb3, hb4, hb5, trivial⟩)
def spec_PubDb (p : List ByteArray) (d : qF × List qR) (k0 : qD → Res) : Res :=
 spec_PubOk p fun (r : Bool) =>
  bif !r then
   k0 ([], [])
  else
   spec_DbOk d fun (r1 : Bool) =>
    bif !r1 then
     k0 ([], [])
    else
     spec_PubDb_l0 d.1 (nI (List.length d.1)) p d FUEL 0 ([], []) fun (out : qF × List qR) =>
      k0 out
def s_spec_PubDb : Sig Unit := ⟨[.borrow y7 true, .borrow y14 true], [true], fun vals ext k => av vals y7 fun p vals => av vals y14 fun d vals => nl vals <| nl ext <| spec_PubDb p d (fun (r0 : qF × List qR) => k [⟨y14, true, r0, [.O, .O]⟩] [] [])⟩
theorem E_spec_PubDb (p : List ByteArray) (a_p : Bool) (t_p : List Tag) (d : qF × List qR) (a_d : Bool) (t_d : List Tag) (k : qK) : funC g_spec_PubDb [xspec_PubDb_l0] (.t .o (.t .o (.t .o (.t (.t .o (.t (.x 0) .o)) .o)))) false Tryz.f17 [.borrow y7 true, .borrow y14 true] [true] [⟨y7, a_p, p, t_p⟩, ⟨y14, a_d, d, t_d⟩] [] k = spec_PubDb p d (fun (r0 : qF × List qR) => k [⟨y14, true, r0, [.O, .O]⟩] [] []) := by kernel_rfl
theorem S_spec_PubDb : Sound Tryz.prog 17 s_spec_PubDb := sound_of (Γ := g_spec_PubDb) (X := [xspec_PubDb_l0]) (ht := (.t .o (.t .o (.t .o (.t (.t .o (.t (.x 0) .o)) .o))))) (fz := false) (c := c_spec_PubDb) follows tysOk (fns_cons S_spec_DbOk (fns_cons S_spec_PubOk (fns_cons S_spec_Told (fns_cons S_spec_l02Table (fns_cons S_spec_l03Copy fns_nil))))) (OrOk.mk trivial ((OrOk.mk trivial ((OrOk.mk trivial ((OrOk.mk ((OrOk.mk trivial ((OrOk.mk (OrOk.x_mk (fun W0 M hnp => ospec_PubDb_l0 (W0 := W0) (M := M) hnp)) trivial)))) trivial))))))) Tryz.func17 (by kernel_rfl) (by kernel_rfl) (by decide) (by
 intro vals ext k r h
 obtain ⟨p, a_p, t_p, vals, rfl, h1⟩ := av_some h
 obtain ⟨d, a_d, t_d, vals, rfl, h2⟩ := av_some h1
 obtain ⟨rfl, h3⟩ := nl_some h2
 obtain ⟨rfl, h4⟩ := nl_some h3
 exact (E_spec_PubDb p a_p t_p d a_d t_d k).trans h4)

/-! ### 56 loop.example/g00462/impl.PubOk -/
def c_impl_PubOk : Code := (Tryz.f56.body).getD .skip
def g_impl_PubOk : Env Unit := ⟨tys, [(102, s_impl_WordOk)], 0⟩
def impl_PubOk_l0_r (t6 : List ByteArray) (t7 : Int) (p : List ByteArray) (t8 : Int) (rec : Int → Res) (k0 : Unit → Res) (k1 : Unit → Res) : Res :=
 bif decide (t8 < t7) then
  bif inb t8 (List.length t6) then
   impl_WordOk (nth eS t6 t8) fun (r : Bool) =>
    bif !r then
     k1 ()
    else
     bif decide (t8 > 0) then
      bif inb (wi64 (t8 - 1)) (List.length p) then
       bif sGe (nth eS p (wi64 (t8 - 1))) (nth eS t6 t8) then
        k1 ()
       else
        rec (wi64 (t8 + 1))
      else none
     else
      rec (wi64 (t8 + 1))
  else none
 else
  k0 ()
def impl_PubOk_l0_s (t6 : List ByteArray) (t7 : Int) (p : List ByteArray) : Int → (Int → Res) → ((Unit → Res) × (Unit → Res)) → Res := fun v rec q => impl_PubOk_l0_r t6 t7 p v (fun t8 => rec (t8)) q.1 q.2
def impl_PubOk_l0 (t6 : List ByteArray) (t7 : Int) (p : List ByteArray) (n : Nat) (t8 : Int) (k0 : Unit → Res) (k1 : Unit → Res) : Res := iter (impl_PubOk_l0_s t6 t7 p) n (t8) (k0, k1)
def ximpl_PubOk_l0 : Node Unit := fun σ k => rdN σ 35 <| rdT σ 1 (.ptr ⟨true, 1, []⟩) <| rdV σ 6 y7 false [.S] fun t6 => rdV σ 7 (.int .i64) false [] fun t7 => rdV σ 8 (.int .i64) false [] fun t8 => rdB σ 1 y7 [.S] fun a p => impl_PubOk_l0 t6 t7 p FUEL t8 (fun (_ : Unit) => k (.exit 0) (mkS 35 35 [(1, .ptr ⟨true, 1, []⟩)] [(1, ⟨y7, a, p, [.S]⟩)])) (fun (_ : Unit) => k .ret (mkS 35 35 [(2, .val ⟨.bool, false, false, []⟩)] []))
theorem eimpl_PubOk_l0 (t6 : List ByteArray) (t7 : Int) (a : Bool) (p : List ByteArray) (n : Nat) (v : Int) (k : Kont Unit) : loopC (codeC g_impl_PubOk [] .o (Code.pl (Code.pl (Code.pr (Code.pl (Code.pr c_impl_PubOk)))))) (fun σ => σ.forget [1, 6, 7, 8] [1]) (cutC ([], []) [(0, [1], [1])] ([2], [])) n (mkS 35 35 [(1, .ptr ⟨true, 1, []⟩), (6, .val ⟨y7, false, t6, [.S]⟩), (7, .val ⟨(.int .i64), false, t7, []⟩), (8, .val ⟨(.int .i64), false, v, []⟩)] [(1, ⟨y7, a, p, [.S]⟩)]) k = iter (impl_PubOk_l0_s t6 t7 p) n v ((fun (k : Kont Unit) => (((fun (_ : Unit) => k (.exit 0) (mkS 35 35 [(1, .ptr ⟨true, 1, []⟩)] [(1, ⟨y7, a, p, [.S]⟩)])), (fun (_ : Unit) => k .ret (mkS 35 35 [(2, .val ⟨.bool, false, false, []⟩)] []))) : (Unit → Res) × (Unit → Res))) k) := loop_eq (fun v : Int => (mkS 35 35 [(1, .ptr ⟨true, 1, []⟩), (6, .val ⟨y7, false, t6, [.S]⟩), (7, .val ⟨(.int .i64), false, t7, []⟩), (8, .val ⟨(.int .i64), false, v, []⟩)] [(1, ⟨y7, a, p, [.S]⟩)])) (impl_PubOk_l0_s t6 t7 p) (fun (k : Kont Unit) => (((fun (_ : Unit) => k (.exit 0) (mkS 35 35 [(1, .ptr ⟨true, 1, []⟩)] [(1, ⟨y7, a, p, [.S]⟩)])), (fun (_ : Unit) => k .ret (mkS 35 35 [(2, .val ⟨.bool, false, false, []⟩)] []))) : (Unit → Res) × (Unit → Res))) (fun v rec k => by kernel_rfl) n v k
theorem oimpl_PubOk_l0 {W0 : Base} {M : Nat → Prop} (hnp : W0.np ≤ 0) : CodeOk Tryz.prog W0 M (Code.pl (Code.pr (Code.pl (Code.pr c_impl_PubOk)))) ximpl_PubOk_l0 := show CodeOk Tryz.prog W0 M (Code.loop (Code.pl (Code.pl (Code.pr (Code.pl (Code.pr c_impl_PubOk)))))) ximpl_PubOk_l0 from loop_ok (code_sound follows tysOk (calls_ok (fns_cons S_impl_WordOk fns_nil)) hnp [] (Code.pl (Code.pl (Code.pr (Code.pl (Code.pr c_impl_PubOk))))) .o trivial) (ks := [1, 6, 7, 8]) (bs := [1]) (fX := (cutC ([], []) [(0, [1], [1])] ([2], []))) (cutC_le _ _ _) FUEL (by
 intro σ k r h
 obtain ⟨hn, h1⟩ := rdN_some h
 obtain ⟨hs1, h2⟩ := rdT_some h1
 obtain ⟨t6, hs6, h3⟩ := rdV_some h2
 obtain ⟨t7, hs7, h4⟩ := rdV_some h3
 obtain ⟨t8, hs8, h5⟩ := rdV_some h4
 obtain ⟨a, p, hb1, h6⟩ := rdB_some h5
 refine ⟨_, ?_, (eimpl_PubOk_l0 t6 t7 a p FUEL (t8) k).trans h6⟩
 exact mkS_le hn ⟨hs1, hs6, hs7, hs8, trivial⟩ ⟨hb1, trivial⟩)
def impl_PubOk (p : List ByteArray) (k0 : Bool → Res) : Res :=
 impl_PubOk_l0 p (nI (List.length p)) p FUEL 0
  (fun (_ : Unit) =>
   k0 (decide ((nI (List.length p)) ≤ 6)))
  (fun (_ : Unit) =>
   k0 false)
def s_impl_PubOk : Sig Unit := ⟨[.look y7 true], [false], fun vals ext k => av vals y7 fun p vals => nl vals <| nl ext <| impl_PubOk p (fun (r0 : Bool) => k [⟨.bool, false, r0, []⟩] [] [])⟩
theorem E_impl_PubOk (p : List ByteArray) (a_p : Bool) (t_p : List Tag) (k : qK) : funC g_impl_PubOk [ximpl_PubOk_l0] (.t .o (.t (.t .o (.t (.x 0) .o)) .o)) false Tryz.f56 [.look y7 true] [false] [⟨y7, a_p, p, t_p⟩] [] k = impl_PubOk p (fun (r0 : Bool) => k [⟨.bool, false, r0, []⟩] [] []) := by kernel_rfl
theorem S_impl_PubOk : Sound Tryz.prog 56 s_impl_PubOk := sound_of (Γ := g_impl_PubOk) (X := [ximpl_PubOk_l0]) (ht := (.t .o (.t (.t .o (.t (.x 0) .o)) .o))) (fz := false) (c := c_impl_PubOk) follows tysOk (fns_cons S_impl_WordOk fns_nil) (OrOk.mk trivial ((OrOk.mk ((OrOk.mk trivial ((OrOk.mk (OrOk.x_mk (fun W0 M hnp => oimpl_PubOk_l0 (W0 := W0) (M := M) hnp)) trivial)))) trivial))) Tryz.func56 (by kernel_rfl) (by kernel_rfl) (by decide) (by
 intro vals ext k r h
 obtain ⟨p, a_p, t_p, vals, rfl, h1⟩ := av_some h
 obtain ⟨rfl, h2⟩ := nl_some h1
 obtain ⟨rfl, h3⟩ := nl_some h2
 exact (E_impl_PubOk p a_p t_p k).trans h3)

/-! ### 19 loop.example/g00462/impl.PubDb -/
def c_impl_PubDb : Code := (Tryz.f19.body).getD .skip
def g_impl_PubDb : Env Unit := ⟨tys, [(42, s_impl_DbOk), (56, s_impl_PubOk), (57, s_slices_Contains_string), (58, s_impl_copyTable), (59, s_impl_copyRows)], 0⟩
def impl_PubDb_l0_r (t20 : List qT) (t21 : Int) (p : List ByteArray) (d : qF × List qR) (t22 : Int) (out : qF × List qR) (rec : Int → qD → Res) (k0 : qD → Res) : Res :=
 bif decide (t22 < t21) then
  bif inb t22 (List.length t20) then
   slices_Contains_string p (nth (eS, [], []) t20 t22).1 fun (r : Bool) =>
    bif r then
     impl_copyTable (nth (eS, [], []) t20 t22) fun (r1 : ByteArray × qE × List ByteArray) =>
      bif lim ((List.length out.1) + 1) then
       bif inb t22 (List.length d.2) then
        impl_copyRows (nth [] d.2 t22) fun (r2 : List qW) =>
         bif lim ((List.length out.2) + 1) then
          rec (wi64 (t22 + 1)) ((out.1 ++ [r1]), (out.2 ++ [r2]))
         else none
       else none
      else none
    else
     rec (wi64 (t22 + 1)) out
  else none
 else
  k0 out
def impl_PubDb_l0_s (t20 : List qT) (t21 : Int) (p : List ByteArray) (d : qF × List qR) : (Int × qD) → (Int × qD → Res) → ((qD → Res)) → Res := fun v rec q => impl_PubDb_l0_r t20 t21 p d v.1 v.2 (fun t22 out => rec (t22, out)) q
def impl_PubDb_l0 (t20 : List qT) (t21 : Int) (p : List ByteArray) (d : qF × List qR) (n : Nat) (t22 : Int) (out : qF × List qR) (k0 : qD → Res) : Res := iter (impl_PubDb_l0_s t20 t21 p d) n (t22, out) (k0)
def ximpl_PubDb_l0 : Node Unit := fun σ k => rdN σ 56 <| rdT σ 2 (.ptr ⟨true, 2, []⟩) <| rdT σ 3 (.ptr ⟨true, 3, []⟩) <| rdT σ 4 (.ptr ⟨true, 4, []⟩) <| rdT σ 5 (.ptr ⟨true, 5, []⟩) <| rdV σ 20 y10 false [.S] fun t20 => rdV σ 21 (.int .i64) false [] fun t21 => rdV σ 22 (.int .i64) false [] fun t22 => rdB σ 2 y7 [.S] fun a p => rdB σ 3 y14 [.S, .S] fun a1 d => rdB σ 4 y14 [.O, .O] fun a2 t4 => rdB σ 5 y14 [.O, .O] fun a3 out => impl_PubDb_l0 t20 t21 p d FUEL t22 out (fun (out1 : qF × List qR) => k (.exit 0) (mkS 56 56 [(4, .ptr ⟨true, 4, []⟩), (5, .ptr ⟨true, 5, []⟩)] [(4, ⟨y14, a2, t4, [.O, .O]⟩), (5, ⟨y14, a3, out1, [.O, .O]⟩)]))
theorem eimpl_PubDb_l0 (t20 : List qT) (t21 : Int) (a : Bool) (p : List ByteArray) (a1 : Bool) (d : qF × List qR) (a2 : Bool) (t4 : qF × List qR) (a3 : Bool) (n : Nat) (v : Int × qD) (k : Kont Unit) : loopC (codeC g_impl_PubDb [] .o (Code.pl (Code.pl (Code.pr (Code.pl (Code.pr (Code.pr (Code.pr c_impl_PubDb)))))))) (fun σ => σ.forget [2, 3, 4, 5, 20, 21, 22] [2, 3, 4, 5]) (cutC ([], []) [(0, [4, 5], [4, 5])] ([], [])) n (mkS 56 56 [(2, .ptr ⟨true, 2, []⟩), (3, .ptr ⟨true, 3, []⟩), (4, .ptr ⟨true, 4, []⟩), (5, .ptr ⟨true, 5, []⟩), (20, .val ⟨y10, false, t20, [.S]⟩), (21, .val ⟨(.int .i64), false, t21, []⟩), (22, .val ⟨(.int .i64), false, v.1, []⟩)] [(2, ⟨y7, a, p, [.S]⟩), (3, ⟨y14, a1, d, [.S, .S]⟩), (4, ⟨y14, a2, t4, [.O, .O]⟩), (5, ⟨y14, a3, v.2, [.O, .O]⟩)]) k = iter (impl_PubDb_l0_s t20 t21 p d) n v ((fun (k : Kont Unit) => (((fun (out1 : qF × List qR) => k (.exit 0) (mkS 56 56 [(4, .ptr ⟨true, 4, []⟩), (5, .ptr ⟨true, 5, []⟩)] [(4, ⟨y14, a2, t4, [.O, .O]⟩), (5, ⟨y14, a3, out1, [.O, .O]⟩)]))) : (qD → Res))) k) := loop_eq (fun v : Int × qD => (mkS 56 56 [(2, .ptr ⟨true, 2, []⟩), (3, .ptr ⟨true, 3, []⟩), (4, .ptr ⟨true, 4, []⟩), (5, .ptr ⟨true, 5, []⟩), (20, .val ⟨y10, false, t20, [.S]⟩), (21, .val ⟨(.int .i64), false, t21, []⟩), (22, .val ⟨(.int .i64), false, v.1, []⟩)] [(2, ⟨y7, a, p, [.S]⟩), (3, ⟨y14, a1, d, [.S, .S]⟩), (4, ⟨y14, a2, t4, [.O, .O]⟩), (5, ⟨y14, a3, v.2, [.O, .O]⟩)])) (impl_PubDb_l0_s t20 t21 p d) (fun (k : Kont Unit) => (((fun (out1 : qF × List qR) => k (.exit 0) (mkS 56 56 [(4, .ptr ⟨true, 4, []⟩), (5, .ptr ⟨true, 5, []⟩)] [(4, ⟨y14, a2, t4, [.O, .O]⟩), (5, ⟨y14, a3, out1, [.O, .O]⟩)]))) : (qD → Res))) (fun v rec k => by kernel_rfl) n v k
theorem oimpl_PubDb_l0 {W0 : Base} {M : Nat → Prop} (hnp : W0.np ≤ 0) : CodeOk Tryz.prog W0 M (Code.pl (Code.pr (Code.pl (Code.pr (Code.pr (Code.pr c_impl_PubDb)))))) ximpl_PubDb_l0 := show CodeOk Tryz.prog W0 M (Code.loop (Code.pl (Code.pl (Code.pr (Code.pl (Code.pr (Code.pr (Code.pr c_impl_PubDb)))))))) ximpl_PubDb_l0 from loop_ok (code_sound follows tysOk (calls_ok (fns_cons S_impl_DbOk (fns_cons S_impl_PubOk (fns_cons S_slices_Contains_string (fns_cons S_impl_copyTable (fns_cons S_impl_copyRows fns_nil)))))) hnp [] (Code.pl (Code.pl (Code.pr (Code.pl (Code.pr (Code.pr (Code.pr c_impl_PubDb))))))) .o trivial) (ks := [2, 3, 4, 5, 20, 21, 22]) (bs := [2, 3, 4, 5]) (fX := (cutC ([], []) [(0, [4, 5], [4, 5])] ([], []))) (cutC_le _ _ _) FUEL (by
 intro σ k r h
 obtain ⟨hn, h1⟩ := rdN_some h
 obtain ⟨hs2, h2⟩ := rdT_some h1
 obtain ⟨hs3, h3⟩ := rdT_some h2
 obtain ⟨hs4, h4⟩ := rdT_some h3
 obtain ⟨hs5, h5⟩ := rdT_some h4
 obtain ⟨t20, hs20, h6⟩ := rdV_some h5
 obtain ⟨t21, hs21, h7⟩ := rdV_some h6
 obtain ⟨t22, hs22, h8⟩ := rdV_some h7
 obtain ⟨a, p, hb2, h9⟩ := rdB_some h8
 obtain ⟨a1, d, hb3, h10⟩ := rdB_some h9
 obtain ⟨a2, t4, hb4, h11⟩ := rdB_some h10
 obtain ⟨a3, out, hb5, h12⟩ := rdB_some h11
 refine ⟨_, ?_, (eimpl_PubDb_l0 t20 t21 a p a1 d a2 t4 a3 FUEL (t22, out) k).trans h12⟩
 exact mkS_le hn ⟨hs2, hs3, hs4, hs5, hs20, hs21, hs22, trivial⟩ ⟨hb2, hb3, hb4, hb5, trivial⟩)
def impl_PubDb (p : List ByteArray) (d : qF × List qR) (k0 : qD → Res) : Res :=
 impl_PubOk p fun (r : Bool) =>
  bif !r then
   k0 ([], [])
  else
   impl_DbOk d fun (r1 : Bool) =>
    bif !r1 then
     k0 ([], [])
    else
     impl_PubDb_l0 d.1 (nI (List.length d.1)) p d FUEL 0 ([], []) fun (out : qF × List qR) =>
      k0 out
def s_impl_PubDb : Sig Unit := ⟨[.borrow y7 true, .borrow y14 true], [true], fun vals ext k => av vals y7 fun p vals => av vals y14 fun d vals => nl vals <| nl ext <| impl_PubDb p d (fun (r0 : qF × List qR) => k [⟨y14, true, r0, [.O, .O]⟩] [] [])⟩
theorem E_impl_PubDb (p : List ByteArray) (a_p : Bool) (t_p : List Tag) (d : qF × List qR) (a_d : Bool) (t_d : List Tag) (k : qK) : funC g_impl_PubDb [ximpl_PubDb_l0] (.t .o (.t .o (.t .o (.t (.t .o (.t (.x 0) .o)) .o)))) false Tryz.f19 [.borrow y7 true, .borrow y14 true] [true] [⟨y7, a_p, p, t_p⟩, ⟨y14, a_d, d, t_d⟩] [] k = impl_PubDb p d (fun (r0 : qF × List qR) => k [⟨y14, true, r0, [.O, .O]⟩] [] []) := by kernel_rfl
theorem S_impl_PubDb : Sound Tryz.prog 19 s_impl_PubDb := sound_of (Γ := g_impl_PubDb) (X := [ximpl_PubDb_l0]) (ht := (.t .o (.t .o (.t .o (.t (.t .o (.t (.x 0) .o)) .o))))) (fz := false) (c := c_impl_PubDb) follows tysOk (fns_cons S_impl_DbOk (fns_cons S_impl_PubOk (fns_cons S_slices_Contains_string (fns_cons S_impl_copyTable (fns_cons S_impl_copyRows fns_nil))))) (OrOk.mk trivial ((OrOk.mk trivial ((OrOk.mk trivial ((OrOk.mk ((OrOk.mk trivial ((OrOk.mk (OrOk.x_mk (fun W0 M hnp => oimpl_PubDb_l0 (W0 := W0) (M := M) hnp)) trivial)))) trivial))))))) Tryz.func19 (by kernel_rfl) (by kernel_rfl) (by decide) (by
 intro vals ext k r h
 obtain ⟨p, a_p, t_p, vals, rfl, h1⟩ := av_some h
 obtain ⟨d, a_d, t_d, vals, rfl, h2⟩ := av_some h1
 obtain ⟨rfl, h3⟩ := nl_some h2
 obtain ⟨rfl, h4⟩ := nl_some h3
 exact (E_impl_PubDb p a_p t_p d a_d t_d k).trans h4)
end Go.PI.G
end
noncomputable section
namespace Go.PI.G
open Go Go.PI Go.Proofs

/-! ### 196 loop.example/g00462/laws.szVal -/
def c_laws_szVal : Code := (Tryz.f196.body).getD .skip
def g_laws_szVal : Env Unit := ⟨tys, [], 0⟩
def laws_szVal (a : Int × Int × ByteArray) (left : Int) (k0 : Int → Res) : Res :=
 bif decide ((wi64 (left - (nI (ByteArray.size a.2.2)))) < 0) then
  k0 (-1)
 else
  k0 (wi64 (left - (nI (ByteArray.size a.2.2))))
def s_laws_szVal : Sig Unit := ⟨[.look y1 true, .look (.int .i64) false], [false], fun vals ext k => av vals y1 fun a vals => av vals (.int .i64) fun left vals => nl vals <| nl ext <| laws_szVal a left (fun (r0 : Int) => k [⟨(.int .i64), false, r0, []⟩] [] [])⟩
theorem E_laws_szVal (a : Int × Int × ByteArray) (a_a : Bool) (t_a : List Tag) (left : Int) (a_left : Bool) (t_left : List Tag) (k : qK) : funC g_laws_szVal [] .o false Tryz.f196 [.look y1 true, .look (.int .i64) false] [false] [⟨y1, a_a, a, t_a⟩, ⟨(.int .i64), a_left, left, t_left⟩] [] k = laws_szVal a left (fun (r0 : Int) => k [⟨(.int .i64), false, r0, []⟩] [] []) := by kernel_rfl
theorem S_laws_szVal : Sound Tryz.prog 196 s_laws_szVal := sound_of (Γ := g_laws_szVal) (X := []) (ht := .o) (fz := false) (c := c_laws_szVal) follows tysOk fns_nil trivial Tryz.func196 (by kernel_rfl) (by kernel_rfl) (by decide) (by
 intro vals ext k r h
 obtain ⟨a, a_a, t_a, vals, rfl, h1⟩ := av_some h
 obtain ⟨left, a_left, t_left, vals, rfl, h2⟩ := av_some h1
 obtain ⟨rfl, h3⟩ := nl_some h2
 obtain ⟨rfl, h4⟩ := nl_some h3
 exact (E_laws_szVal a a_a t_a left a_left t_left k).trans h4)

/-! ### 197 loop.example/g00462/laws.toVal -/
def c_laws_toVal : Code := (Tryz.f197.body).getD .skip
def g_laws_toVal : Env Unit := ⟨tys, [], 0⟩
def laws_toVal (a : Int × Int × ByteArray) (k0 : qV → Res) : Res :=
 k0 (a.1, a.2.1, a.2.2)
def s_laws_toVal : Sig Unit := ⟨[.look y1 true], [true], fun vals ext k => av vals y1 fun a vals => nl vals <| nl ext <| laws_toVal a (fun (r0 : Int × Int × ByteArray) => k [⟨y1, true, r0, []⟩] [] [])⟩
theorem E_laws_toVal (a : Int × Int × ByteArray) (a_a : Bool) (t_a : List Tag) (k : qK) : funC g_laws_toVal [] .o false Tryz.f197 [.look y1 true] [true] [⟨y1, a_a, a, t_a⟩] [] k = laws_toVal a (fun (r0 : Int × Int × ByteArray) => k [⟨y1, true, r0, []⟩] [] []) := by kernel_rfl
theorem S_laws_toVal : Sound Tryz.prog 197 s_laws_toVal := sound_of (Γ := g_laws_toVal) (X := []) (ht := .o) (fz := false) (c := c_laws_toVal) follows tysOk fns_nil trivial Tryz.func197 (by kernel_rfl) (by kernel_rfl) (by decide) (by
 intro vals ext k r h
 obtain ⟨a, a_a, t_a, vals, rfl, h1⟩ := av_some h
 obtain ⟨rfl, h2⟩ := nl_some h1
 obtain ⟨rfl, h3⟩ := nl_some h2
 exact (E_laws_toVal a a_a t_a k).trans h3)

/-! ### 162 loop.example/g00462/laws.eqVal -/
def c_laws_eqVal : Code := (Tryz.f162.body).getD .skip
def g_laws_eqVal : Env Unit := ⟨tys, [], 0⟩
def laws_eqVal (a : Int × Int × ByteArray) (b : Int × Int × ByteArray) (k0 : Bool → Res) : Res :=
 bif (a.1 != b.1) then
  k0 false
 else
  bif (a.2.1 != b.2.1) then
   k0 false
  else
   bif sNe a.2.2 b.2.2 then
    k0 false
   else
    k0 true
def s_laws_eqVal : Sig Unit := ⟨[.look y1 true, .look y1 true], [false], fun vals ext k => av vals y1 fun a vals => av vals y1 fun b vals => nl vals <| nl ext <| laws_eqVal a b (fun (r0 : Bool) => k [⟨.bool, false, r0, []⟩] [] [])⟩
theorem E_laws_eqVal (a : Int × Int × ByteArray) (a_a : Bool) (t_a : List Tag) (b : Int × Int × ByteArray) (a_b : Bool) (t_b : List Tag) (k : qK) : funC g_laws_eqVal [] .o false Tryz.f162 [.look y1 true, .look y1 true] [false] [⟨y1, a_a, a, t_a⟩, ⟨y1, a_b, b, t_b⟩] [] k = laws_eqVal a b (fun (r0 : Bool) => k [⟨.bool, false, r0, []⟩] [] []) := by kernel_rfl
theorem S_laws_eqVal : Sound Tryz.prog 162 s_laws_eqVal := sound_of (Γ := g_laws_eqVal) (X := []) (ht := .o) (fz := false) (c := c_laws_eqVal) follows tysOk fns_nil trivial Tryz.func162 (by kernel_rfl) (by kernel_rfl) (by decide) (by
 intro vals ext k r h
 obtain ⟨a, a_a, t_a, vals, rfl, h1⟩ := av_some h
 obtain ⟨b, a_b, t_b, vals, rfl, h2⟩ := av_some h1
 obtain ⟨rfl, h3⟩ := nl_some h2
 obtain ⟨rfl, h4⟩ := nl_some h3
 exact (E_laws_eqVal a a_a t_a b a_b t_b k).trans h4)
end Go.PI.G
end
noncomputable section
namespace Go.PI.G
open Go Go.PI Go.Proofs

/-! ### 190 loop.example/g00462/laws.szCol -/
def c_laws_szCol : Code := (Tryz.f190.body).getD .skip
def g_laws_szCol : Env Unit := ⟨tys, [(196, s_laws_szVal)], 0⟩
def laws_szCol (a : ByteArray × Int × Bool × Bool × Int × Int × ByteArray) (left : Int) (k0 : Int → Res) : Res :=
 bif decide ((wi64 (left - (nI (ByteArray.size a.1)))) < 0) then
  k0 (-1)
 else
  laws_szVal a.2.2.2.2 (wi64 (left - (nI (ByteArray.size a.1)))) fun (r : Int) =>
   bif decide (r < 0) then
    k0 (-1)
   else
    k0 r
def s_laws_szCol : Sig Unit := ⟨[.look y5 true, .look (.int .i64) false], [false], fun vals ext k => av vals y5 fun a vals => av vals (.int .i64) fun left vals => nl vals <| nl ext <| laws_szCol a left (fun (r0 : Int) => k [⟨(.int .i64), false, r0, []⟩] [] [])⟩
theorem E_laws_szCol (a : ByteArray × Int × Bool × Bool × Int × Int × ByteArray) (a_a : Bool) (t_a : List Tag) (left : Int) (a_left : Bool) (t_left : List Tag) (k : qK) : funC g_laws_szCol [] .o false Tryz.f190 [.look y5 true, .look (.int .i64) false] [false] [⟨y5, a_a, a, t_a⟩, ⟨(.int .i64), a_left, left, t_left⟩] [] k = laws_szCol a left (fun (r0 : Int) => k [⟨(.int .i64), false, r0, []⟩] [] []) := by kernel_rfl
theorem S_laws_szCol : Sound Tryz.prog 190 s_laws_szCol := sound_of (Γ := g_laws_szCol) (X := []) (ht := .o) (fz := false) (c := c_laws_szCol) follows tysOk (fns_cons S_laws_szVal fns_nil) trivial Tryz.func190 (by kernel_rfl) (by kernel_rfl) (by decide) (by
 intro vals ext k r h
 obtain ⟨a, a_a, t_a, vals, rfl, h1⟩ := av_some h
 obtain ⟨left, a_left, t_left, vals, rfl, h2⟩ := av_some h1
 obtain ⟨rfl, h3⟩ := nl_some h2
 obtain ⟨rfl, h4⟩ := nl_some h3
 exact (E_laws_szCol a a_a t_a left a_left t_left k).trans h4)

/-! ### 193 loop.example/g00462/laws.toCol -/
def c_laws_toCol : Code := (Tryz.f193.body).getD .skip
def g_laws_toCol : Env Unit := ⟨tys, [(197, s_laws_toVal)], 0⟩
def laws_toCol (a : ByteArray × Int × Bool × Bool × Int × Int × ByteArray) (k0 : qC → Res) : Res :=
 laws_toVal a.2.2.2.2 fun (r : Int × Int × ByteArray) =>
  k0 (a.1, a.2.1, a.2.2.1, a.2.2.2.1, r)
def s_laws_toCol : Sig Unit := ⟨[.look y5 true], [true], fun vals ext k => av vals y5 fun a vals => nl vals <| nl ext <| laws_toCol a (fun (r0 : ByteArray × Int × Bool × Bool × Int × Int × ByteArray) => k [⟨y5, true, r0, []⟩] [] [])⟩
theorem E_laws_toCol (a : ByteArray × Int × Bool × Bool × Int × Int × ByteArray) (a_a : Bool) (t_a : List Tag) (k : qK) : funC g_laws_toCol [] .o false Tryz.f193 [.look y5 true] [true] [⟨y5, a_a, a, t_a⟩] [] k = laws_toCol a (fun (r0 : ByteArray × Int × Bool × Bool × Int × Int × ByteArray) => k [⟨y5, true, r0, []⟩] [] []) := by kernel_rfl
theorem S_laws_toCol : Sound Tryz.prog 193 s_laws_toCol := sound_of (Γ := g_laws_toCol) (X := []) (ht := .o) (fz := false) (c := c_laws_toCol) follows tysOk (fns_cons S_laws_toVal fns_nil) trivial Tryz.func193 (by kernel_rfl) (by kernel_rfl) (by decide) (by
 intro vals ext k r h
 obtain ⟨a, a_a, t_a, vals, rfl, h1⟩ := av_some h
 obtain ⟨rfl, h2⟩ := nl_some h1
 obtain ⟨rfl, h3⟩ := nl_some h2
 exact (E_laws_toCol a a_a t_a k).trans h3)

/-! ### 189 loop.example/g00462/laws.eqCol -/
def c_laws_eqCol : Code := (Tryz.f189.body).getD .skip
def g_laws_eqCol : Env Unit := ⟨tys, [(162, s_laws_eqVal)], 0⟩
def laws_eqCol (a : ByteArray × Int × Bool × Bool × Int × Int × ByteArray) (b : ByteArray × Int × Bool × Bool × Int × Int × ByteArray) (k0 : Bool → Res) : Res :=
 bif sNe a.1 b.1 then
  k0 false
 else
  bif (a.2.1 != b.2.1) then
   k0 false
  else
   bif !(a.2.2.1 == b.2.2.1) then
    k0 false
   else
    bif !(a.2.2.2.1 == b.2.2.2.1) then
     k0 false
    else
     laws_eqVal a.2.2.2.2 b.2.2.2.2 fun (r : Bool) =>
      bif !r then
       k0 false
      else
       k0 true
def s_laws_eqCol : Sig Unit := ⟨[.look y5 true, .look y5 true], [false], fun vals ext k => av vals y5 fun a vals => av vals y5 fun b vals => nl vals <| nl ext <| laws_eqCol a b (fun (r0 : Bool) => k [⟨.bool, false, r0, []⟩] [] [])⟩
theorem E_laws_eqCol (a : ByteArray × Int × Bool × Bool × Int × Int × ByteArray) (a_a : Bool) (t_a : List Tag) (b : ByteArray × Int × Bool × Bool × Int × Int × ByteArray) (a_b : Bool) (t_b : List Tag) (k : qK) : funC g_laws_eqCol [] .o false Tryz.f189 [.look y5 true, .look y5 true] [false] [⟨y5, a_a, a, t_a⟩, ⟨y5, a_b, b, t_b⟩] [] k = laws_eqCol a b (fun (r0 : Bool) => k [⟨.bool, false, r0, []⟩] [] []) := by kernel_rfl
theorem S_laws_eqCol : Sound Tryz.prog 189 s_laws_eqCol := sound_of (Γ := g_laws_eqCol) (X := []) (ht := .o) (fz := false) (c := c_laws_eqCol) follows tysOk (fns_cons S_laws_eqVal fns_nil) trivial Tryz.func189 (by kernel_rfl) (by kernel_rfl) (by decide) (by
 intro vals ext k r h
 obtain ⟨a, a_a, t_a, vals, rfl, h1⟩ := av_some h
 obtain ⟨b, a_b, t_b, vals, rfl, h2⟩ := av_some h1
 obtain ⟨rfl, h3⟩ := nl_some h2
 obtain ⟨rfl, h4⟩ := nl_some h3
 exact (E_laws_eqCol a a_a t_a b a_b t_b k).trans h4)
end Go.PI.G
end
noncomputable section
namespace Go.PI.G
open Go Go.PI Go.Proofs

/-! ### 49 loop.example/g00462/laws.markText -/
def c_laws_markText : Code := (Tryz.f49.body).getD .skip
def g_laws_markText : Env Unit := ⟨tys, [], 0⟩
def laws_markText_l0_r (k_ : Int) (out : ByteArray) (rec : Int → ByteArray → Res) (k0 : ByteArray → Res) : Res :=
 bif decide (k_ > 0) then
  bif lim ((ByteArray.size (ofBytes [wu8 (wi64 (48 + (Int.tmod k_ 10)))])) + (ByteArray.size out)) then
   rec (wi64 (Int.tdiv k_ 10)) ((ofBytes [wu8 (wi64 (48 + (Int.tmod k_ 10)))]) ++ out)
  else none
 else
  k0 out
def laws_markText_l0_s : (Int × ByteArray) → (Int × ByteArray → Res) → ((ByteArray → Res)) → Res := fun v rec q => laws_markText_l0_r v.1 v.2 (fun k_ out => rec (k_, out)) q
def laws_markText_l0 (n : Nat) (k_ : Int) (out : ByteArray) (k0 : ByteArray → Res) : Res := iter (laws_markText_l0_s) n (k_, out) (k0)
def xlaws_markText_l0 : Node Unit := fun σ k => rdN σ 20 <| rdV σ 0 (.int .i64) false [] fun k_ => rdV σ 3 .str false [] fun out => laws_markText_l0 FUEL k_ out (fun (out1 : ByteArray) => k (.exit 0) (mkS 20 20 [(3, .val ⟨.str, false, out1, []⟩)] []))
theorem elaws_markText_l0  (n : Nat) (v : Int × ByteArray) (k : Kont Unit) : loopC (codeC g_laws_markText [] .o (Code.pl (Code.pl (Code.pl (Code.pr (Code.pr (Code.pr c_laws_markText))))))) (fun σ => σ.forget [0, 3] []) (cutC ([], []) [(0, [3], [])] ([], [])) n (mkS 20 20 [(0, .val ⟨(.int .i64), false, v.1, []⟩), (3, .val ⟨.str, false, v.2, []⟩)] []) k = iter (laws_markText_l0_s) n v ((fun (k : Kont Unit) => (((fun (out1 : ByteArray) => k (.exit 0) (mkS 20 20 [(3, .val ⟨.str, false, out1, []⟩)] []))) : (ByteArray → Res))) k) := loop_eq (fun v : Int × ByteArray => (mkS 20 20 [(0, .val ⟨(.int .i64), false, v.1, []⟩), (3, .val ⟨.str, false, v.2, []⟩)] [])) (laws_markText_l0_s) (fun (k : Kont Unit) => (((fun (out1 : ByteArray) => k (.exit 0) (mkS 20 20 [(3, .val ⟨.str, false, out1, []⟩)] []))) : (ByteArray → Res))) (fun v rec k => by kernel_rfl) n v k
theorem olaws_markText_l0 {W0 : Base} {M : Nat → Prop} (hnp : W0.np ≤ 0) : CodeOk Tryz.prog W0 M (Code.pl (Code.pl (Code.pr (Code.pr (Code.pr c_laws_markText))))) xlaws_markText_l0 := show CodeOk Tryz.prog W0 M (Code.loop (Code.pl (Code.pl (Code.pl (Code.pr (Code.pr (Code.pr c_laws_markText))))))) xlaws_markText_l0 from loop_ok (code_sound follows tysOk (calls_ok fns_nil) hnp [] (Code.pl (Code.pl (Code.pl (Code.pr (Code.pr (Code.pr c_laws_markText)))))) .o trivial) (ks := [0, 3]) (bs := []) (fX := (cutC ([], []) [(0, [3], [])] ([], []))) (cutC_le _ _ _) FUEL (by
 intro σ k r h
 obtain ⟨hn, h1⟩ := rdN_some h
 obtain ⟨k_, hs0, h2⟩ := rdV_some h1
 obtain ⟨out, hs3, h3⟩ := rdV_some h2
 refine ⟨_, ?_, (elaws_markText_l0  FUEL (k_, out) k).trans h3⟩
 exact mkS_le hn ⟨hs0, hs3, trivial⟩ trivial)
def laws_markText (k_ : Int) (k0 : ByteArray → Res) : Res :=
 bif decide (k_ ≤ 0) then
  k0 z_m0
 else
  laws_markText_l0 FUEL k_ eS fun (out : ByteArray) =>
   bif lim (1 + (ByteArray.size out)) then
    k0 (z_m ++ out)
   else none
def s_laws_markText : Sig Unit := ⟨[.look (.int .i64) false], [false], fun vals ext k => av vals (.int .i64) fun k_ vals => nl vals <| nl ext <| laws_markText k_ (fun (r0 : ByteArray) => k [⟨.str, false, r0, []⟩] [] [])⟩
theorem E_laws_markText (k_ : Int) (a_k_ : Bool) (t_k_ : List Tag) (k : qK) : funC g_laws_markText [xlaws_markText_l0] (.t .o (.t .o (.t .o (.t (.t (.x 0) .o) .o)))) false Tryz.f49 [.look (.int .i64) false] [false] [⟨(.int .i64), a_k_, k_, t_k_⟩] [] k = laws_markText k_ (fun (r0 : ByteArray) => k [⟨.str, false, r0, []⟩] [] []) := by kernel_rfl
theorem S_laws_markText : Sound Tryz.prog 49 s_laws_markText := sound_of (Γ := g_laws_markText) (X := [xlaws_markText_l0]) (ht := (.t .o (.t .o (.t .o (.t (.t (.x 0) .o) .o))))) (fz := false) (c := c_laws_markText) follows tysOk fns_nil (OrOk.mk trivial ((OrOk.mk trivial ((OrOk.mk trivial ((OrOk.mk ((OrOk.mk (OrOk.x_mk (fun W0 M hnp => olaws_markText_l0 (W0 := W0) (M := M) hnp)) trivial)) trivial))))))) Tryz.func49 (by kernel_rfl) (by kernel_rfl) (by decide) (by
 intro vals ext k r h
 obtain ⟨k_, a_k_, t_k_, vals, rfl, h1⟩ := av_some h
 obtain ⟨rfl, h2⟩ := nl_some h1
 obtain ⟨rfl, h3⟩ := nl_some h2
 exact (E_laws_markText k_ a_k_ t_k_ k).trans h3)
end Go.PI.G
end
