/-
  Printed: what the functions compute. No conditions.
-/
import Derived.Test.YtcapkiofiipamaaGK0
import Derived.Test.YtcapkiofiipamaaGKL02
import Derived.Test.YtcapkiofiipamaaGKL03
import Derived.Test.YtcapkiofiipamaaGKL04
set_option linter.unusedVariables false
set_option maxRecDepth 100000
namespace Go.PI.G
open Go Go.PI Go.Proofs

/-! ### 23 loop.example/g00462/spec.Keys -/
noncomputable def c_spec_Keys : Code := (Try.f23.body).getD .skip
noncomputable def g_spec_Keys : Env Unit := ⟨tys, [(88, s_spec_l02At), (89, s_spec_DbOk), (90, s_spec_l03Key)], 0⟩
noncomputable def spec_Keys_l0_r (at_ : Int) (t27 : List (List (Int × Int × ByteArray))) (t28 : Int) (d : (List (ByteArray × (List (ByteArray × Int × Bool × Bool × Int × Int × ByteArray)) × List ByteArray)) × List (List (List (Int × Int × ByteArray)))) (out : List (List (Int × Int × ByteArray))) (t29 : Int) (rec : (List (List (Int × Int × ByteArray))) → Int → Res) (k0 : (List (List (Int × Int × ByteArray))) → Res) : Res :=
  bif decide (t29 < t28) then
    bif inb t29 (List.length t27) then
      bif inb at_ (List.length d.1) then
        spec_l03Key (nth (eS, [], []) d.1 at_) (nth [] t27 t29) fun (r : List (Int × Int × ByteArray)) =>
          bif lim ((List.length out) + 1) then
            rec (out ++ [r]) (wi64 (t29 + 1))
          else none
      else none
    else none
  else
    k0 out
noncomputable def spec_Keys_l0_s (at_ : Int) (t27 : List (List (Int × Int × ByteArray))) (t28 : Int) (d : (List (ByteArray × (List (ByteArray × Int × Bool × Bool × Int × Int × ByteArray)) × List ByteArray)) × List (List (List (Int × Int × ByteArray)))) : ((List (List (Int × Int × ByteArray))) × Int) → ((List (List (Int × Int × ByteArray))) × Int → Res) → (((List (List (Int × Int × ByteArray))) → Res)) → Res := fun v rec q => spec_Keys_l0_r at_ t27 t28 d v.1 v.2 (fun out t29 => rec (out, t29)) q
noncomputable def spec_Keys_l0 (at_ : Int) (t27 : List (List (Int × Int × ByteArray))) (t28 : Int) (d : (List (ByteArray × (List (ByteArray × Int × Bool × Bool × Int × Int × ByteArray)) × List ByteArray)) × List (List (List (Int × Int × ByteArray)))) (n : Nat) (out : List (List (Int × Int × ByteArray))) (t29 : Int) (k0 : (List (List (Int × Int × ByteArray))) → Res) : Res := iter (spec_Keys_l0_s at_ t27 t28 d) n (out, t29) (k0)
noncomputable def xspec_Keys_l0 : Node Unit := fun σ k => rdN σ 46 <| rdT σ 2 (.ptr ⟨true, 2, []⟩) <| rdV σ 5 y12 false [.O] fun out => rdV σ 6 (.int .i64) false [] fun at_ => rdV σ 27 y12 false [.S] fun t27 => rdV σ 28 (.int .i64) false [] fun t28 => rdV σ 29 (.int .i64) false [] fun t29 => rdB σ 2 y14 [.S, .S] fun a d => spec_Keys_l0 at_ t27 t28 d FUEL out t29 (fun (out1 : List (List (Int × Int × ByteArray))) => k (.exit 0) (mkS 46 46 [(5, .val ⟨y12, false, out1, [.O]⟩)] []))
theorem espec_Keys_l0 (at_ : Int) (t27 : List (List (Int × Int × ByteArray))) (t28 : Int) (a : Bool) (d : (List (ByteArray × (List (ByteArray × Int × Bool × Bool × Int × Int × ByteArray)) × List ByteArray)) × List (List (List (Int × Int × ByteArray)))) (n : Nat) (v : (List (List (Int × Int × ByteArray))) × Int) (k : Kont Unit) : loopC (codeC g_spec_Keys [] .o (Code.pl (Code.pl (Code.pr (Code.pl (Code.pr (Code.pr (Code.pr (Code.pr c_spec_Keys))))))))) (fun σ => σ.forget [2, 5, 6, 27, 28, 29] [2]) (cutC ([], []) [(0, [5], [])] ([], [])) n (mkS 46 46 [(2, .ptr ⟨true, 2, []⟩), (5, .val ⟨y12, false, v.1, [.O]⟩), (6, .val ⟨(.int .i64), false, at_, []⟩), (27, .val ⟨y12, false, t27, [.S]⟩), (28, .val ⟨(.int .i64), false, t28, []⟩), (29, .val ⟨(.int .i64), false, v.2, []⟩)] [(2, ⟨y14, a, d, [.S, .S]⟩)]) k = iter (spec_Keys_l0_s at_ t27 t28 d) n v ((fun (k : Kont Unit) => (((fun (out1 : List (List (Int × Int × ByteArray))) => k (.exit 0) (mkS 46 46 [(5, .val ⟨y12, false, out1, [.O]⟩)] []))) : ((List (List (Int × Int × ByteArray))) → Res))) k) := loop_eq (fun v : (List (List (Int × Int × ByteArray))) × Int => (mkS 46 46 [(2, .ptr ⟨true, 2, []⟩), (5, .val ⟨y12, false, v.1, [.O]⟩), (6, .val ⟨(.int .i64), false, at_, []⟩), (27, .val ⟨y12, false, t27, [.S]⟩), (28, .val ⟨(.int .i64), false, t28, []⟩), (29, .val ⟨(.int .i64), false, v.2, []⟩)] [(2, ⟨y14, a, d, [.S, .S]⟩)])) (spec_Keys_l0_s at_ t27 t28 d) (fun (k : Kont Unit) => (((fun (out1 : List (List (Int × Int × ByteArray))) => k (.exit 0) (mkS 46 46 [(5, .val ⟨y12, false, out1, [.O]⟩)] []))) : ((List (List (Int × Int × ByteArray))) → Res))) (fun v rec k => by kernel_rfl) n v k
theorem ospec_Keys_l0 {W0 : Base} {M : Nat → Prop} (hnp : W0.np ≤ 0) : CodeOk Try.prog W0 M (Code.pl (Code.pr (Code.pl (Code.pr (Code.pr (Code.pr (Code.pr c_spec_Keys))))))) xspec_Keys_l0 := show CodeOk Try.prog W0 M (Code.loop (Code.pl (Code.pl (Code.pr (Code.pl (Code.pr (Code.pr (Code.pr (Code.pr c_spec_Keys))))))))) xspec_Keys_l0 from loop_ok (code_sound follows tysOk (calls_ok (fns_cons S_spec_l02At (fns_cons S_spec_DbOk (fns_cons S_spec_l03Key fns_nil)))) hnp [] (Code.pl (Code.pl (Code.pr (Code.pl (Code.pr (Code.pr (Code.pr (Code.pr c_spec_Keys)))))))) .o trivial) (ks := [2, 5, 6, 27, 28, 29]) (bs := [2]) (fX := (cutC ([], []) [(0, [5], [])] ([], []))) (cutC_le _ _ _) FUEL (by
  intro σ k r h
  obtain ⟨hn, h1⟩ := rdN_some h
  obtain ⟨hs2, h2⟩ := rdT_some h1
  obtain ⟨out, hs5, h3⟩ := rdV_some h2
  obtain ⟨at_, hs6, h4⟩ := rdV_some h3
  obtain ⟨t27, hs27, h5⟩ := rdV_some h4
  obtain ⟨t28, hs28, h6⟩ := rdV_some h5
  obtain ⟨t29, hs29, h7⟩ := rdV_some h6
  obtain ⟨a, d, hb2, h8⟩ := rdB_some h7
  refine ⟨_, ?_, (espec_Keys_l0 at_ t27 t28 a d FUEL (out, t29) k).trans h8⟩
  exact mkS_le hn ⟨hs2, hs5, hs6, hs27, hs28, hs29, trivial⟩ ⟨hb2, trivial⟩)
noncomputable def spec_Keys (d : (List (ByteArray × (List (ByteArray × Int × Bool × Bool × Int × Int × ByteArray)) × List ByteArray)) × List (List (List (Int × Int × ByteArray)))) (table : ByteArray) (k0 : (List (List (Int × Int × ByteArray))) → Res) : Res :=
  spec_l02At d.1 table fun (r : Int) =>
    spec_DbOk d fun (r1 : Bool) =>
      bif !r1 then
        k0 []
      else
        bif decide (r < 0) then
          k0 []
        else
          bif inb r (List.length d.2) then
            spec_Keys_l0 r (nth [] d.2 r) (nI (List.length (nth [] d.2 r))) d FUEL [] 0 fun (out : List (List (Int × Int × ByteArray))) =>
              k0 out
          else none
noncomputable def s_spec_Keys : Sig Unit := ⟨[.borrow y14 true, .borrow .str false], [false], fun vals ext k => av vals y14 fun d vals => av vals .str fun table vals => nl vals <| nl ext <| spec_Keys d table (fun (r0 : List (List (Int × Int × ByteArray))) => k [⟨y12, false, r0, [.O]⟩] [] [])⟩
theorem E_spec_Keys (d : (List (ByteArray × (List (ByteArray × Int × Bool × Bool × Int × Int × ByteArray)) × List ByteArray)) × List (List (List (Int × Int × ByteArray)))) (a_d : Bool) (t_d : List Tag) (table : ByteArray) (a_table : Bool) (t_table : List Tag) (k : List TVal → List TVal → List TVal → Res) : funC g_spec_Keys [xspec_Keys_l0] (.t .o (.t .o (.t .o (.t .o (.t (.t .o (.t (.x 0) .o)) .o))))) false Try.f23 [.borrow y14 true, .borrow .str false] [false] [⟨y14, a_d, d, t_d⟩, ⟨.str, a_table, table, t_table⟩] [] k = spec_Keys d table (fun (r0 : List (List (Int × Int × ByteArray))) => k [⟨y12, false, r0, [.O]⟩] [] []) := by kernel_rfl
theorem S_spec_Keys : Sound Try.prog 23 s_spec_Keys := sound_of (Γ := g_spec_Keys) (X := [xspec_Keys_l0]) (ht := (.t .o (.t .o (.t .o (.t .o (.t (.t .o (.t (.x 0) .o)) .o)))))) (fz := false) (c := c_spec_Keys) follows tysOk (fns_cons S_spec_l02At (fns_cons S_spec_DbOk (fns_cons S_spec_l03Key fns_nil))) (OrOk.mk trivial ((OrOk.mk trivial ((OrOk.mk trivial ((OrOk.mk trivial ((OrOk.mk ((OrOk.mk trivial ((OrOk.mk (OrOk.x_mk (fun W0 M hnp => ospec_Keys_l0 (W0 := W0) (M := M) hnp)) trivial)))) trivial))))))))) Try.func23 (by kernel_rfl) (by kernel_rfl) (by decide) (by
  intro vals ext k r h
  obtain ⟨d, a_d, t_d, vals, rfl, h1⟩ := av_some h
  obtain ⟨table, a_table, t_table, vals, rfl, h2⟩ := av_some h1
  obtain ⟨rfl, h3⟩ := nl_some h2
  obtain ⟨rfl, h4⟩ := nl_some h3
  exact (E_spec_Keys d a_d t_d table a_table t_table k).trans h4)

/-! ### 24 loop.example/g00462/impl.Keys -/
noncomputable def c_impl_Keys : Code := (Try.f24.body).getD .skip
noncomputable def g_impl_Keys : Env Unit := ⟨tys, [(91, s_impl_Cat_at), (92, s_impl_DbOk), (93, s_impl_keyOf)], 0⟩
noncomputable def impl_Keys_l0_r (k_ : Int) (t27 : List (List (Int × Int × ByteArray))) (t28 : Int) (d : (List (ByteArray × (List (ByteArray × Int × Bool × Bool × Int × Int × ByteArray)) × List ByteArray)) × List (List (List (Int × Int × ByteArray)))) (out : List (List (Int × Int × ByteArray))) (t29 : Int) (rec : (List (List (Int × Int × ByteArray))) → Int → Res) (k0 : (List (List (Int × Int × ByteArray))) → Res) : Res :=
  bif decide (t29 < t28) then
    bif inb t29 (List.length t27) then
      bif inb k_ (List.length d.1) then
        impl_keyOf (nth (eS, [], []) d.1 k_) (nth [] t27 t29) fun (r : List (Int × Int × ByteArray)) =>
          bif lim ((List.length out) + 1) then
            rec (out ++ [r]) (wi64 (t29 + 1))
          else none
      else none
    else none
  else
    k0 out
noncomputable def impl_Keys_l0_s (k_ : Int) (t27 : List (List (Int × Int × ByteArray))) (t28 : Int) (d : (List (ByteArray × (List (ByteArray × Int × Bool × Bool × Int × Int × ByteArray)) × List ByteArray)) × List (List (List (Int × Int × ByteArray)))) : ((List (List (Int × Int × ByteArray))) × Int) → ((List (List (Int × Int × ByteArray))) × Int → Res) → (((List (List (Int × Int × ByteArray))) → Res)) → Res := fun v rec q => impl_Keys_l0_r k_ t27 t28 d v.1 v.2 (fun out t29 => rec (out, t29)) q
noncomputable def impl_Keys_l0 (k_ : Int) (t27 : List (List (Int × Int × ByteArray))) (t28 : Int) (d : (List (ByteArray × (List (ByteArray × Int × Bool × Bool × Int × Int × ByteArray)) × List ByteArray)) × List (List (List (Int × Int × ByteArray)))) (n : Nat) (out : List (List (Int × Int × ByteArray))) (t29 : Int) (k0 : (List (List (Int × Int × ByteArray))) → Res) : Res := iter (impl_Keys_l0_s k_ t27 t28 d) n (out, t29) (k0)
noncomputable def ximpl_Keys_l0 : Node Unit := fun σ k => rdN σ 46 <| rdT σ 2 (.ptr ⟨true, 2, []⟩) <| rdV σ 5 y12 false [.O] fun out => rdV σ 6 (.int .i64) false [] fun k_ => rdV σ 27 y12 false [.S] fun t27 => rdV σ 28 (.int .i64) false [] fun t28 => rdV σ 29 (.int .i64) false [] fun t29 => rdB σ 2 y14 [.S, .S] fun a d => impl_Keys_l0 k_ t27 t28 d FUEL out t29 (fun (out1 : List (List (Int × Int × ByteArray))) => k (.exit 0) (mkS 46 46 [(5, .val ⟨y12, false, out1, [.O]⟩)] []))
theorem eimpl_Keys_l0 (k_ : Int) (t27 : List (List (Int × Int × ByteArray))) (t28 : Int) (a : Bool) (d : (List (ByteArray × (List (ByteArray × Int × Bool × Bool × Int × Int × ByteArray)) × List ByteArray)) × List (List (List (Int × Int × ByteArray)))) (n : Nat) (v : (List (List (Int × Int × ByteArray))) × Int) (k : Kont Unit) : loopC (codeC g_impl_Keys [] .o (Code.pl (Code.pl (Code.pr (Code.pl (Code.pr (Code.pr (Code.pr (Code.pr c_impl_Keys))))))))) (fun σ => σ.forget [2, 5, 6, 27, 28, 29] [2]) (cutC ([], []) [(0, [5], [])] ([], [])) n (mkS 46 46 [(2, .ptr ⟨true, 2, []⟩), (5, .val ⟨y12, false, v.1, [.O]⟩), (6, .val ⟨(.int .i64), false, k_, []⟩), (27, .val ⟨y12, false, t27, [.S]⟩), (28, .val ⟨(.int .i64), false, t28, []⟩), (29, .val ⟨(.int .i64), false, v.2, []⟩)] [(2, ⟨y14, a, d, [.S, .S]⟩)]) k = iter (impl_Keys_l0_s k_ t27 t28 d) n v ((fun (k : Kont Unit) => (((fun (out1 : List (List (Int × Int × ByteArray))) => k (.exit 0) (mkS 46 46 [(5, .val ⟨y12, false, out1, [.O]⟩)] []))) : ((List (List (Int × Int × ByteArray))) → Res))) k) := loop_eq (fun v : (List (List (Int × Int × ByteArray))) × Int => (mkS 46 46 [(2, .ptr ⟨true, 2, []⟩), (5, .val ⟨y12, false, v.1, [.O]⟩), (6, .val ⟨(.int .i64), false, k_, []⟩), (27, .val ⟨y12, false, t27, [.S]⟩), (28, .val ⟨(.int .i64), false, t28, []⟩), (29, .val ⟨(.int .i64), false, v.2, []⟩)] [(2, ⟨y14, a, d, [.S, .S]⟩)])) (impl_Keys_l0_s k_ t27 t28 d) (fun (k : Kont Unit) => (((fun (out1 : List (List (Int × Int × ByteArray))) => k (.exit 0) (mkS 46 46 [(5, .val ⟨y12, false, out1, [.O]⟩)] []))) : ((List (List (Int × Int × ByteArray))) → Res))) (fun v rec k => by kernel_rfl) n v k
theorem oimpl_Keys_l0 {W0 : Base} {M : Nat → Prop} (hnp : W0.np ≤ 0) : CodeOk Try.prog W0 M (Code.pl (Code.pr (Code.pl (Code.pr (Code.pr (Code.pr (Code.pr c_impl_Keys))))))) ximpl_Keys_l0 := show CodeOk Try.prog W0 M (Code.loop (Code.pl (Code.pl (Code.pr (Code.pl (Code.pr (Code.pr (Code.pr (Code.pr c_impl_Keys))))))))) ximpl_Keys_l0 from loop_ok (code_sound follows tysOk (calls_ok (fns_cons S_impl_Cat_at (fns_cons S_impl_DbOk (fns_cons S_impl_keyOf fns_nil)))) hnp [] (Code.pl (Code.pl (Code.pr (Code.pl (Code.pr (Code.pr (Code.pr (Code.pr c_impl_Keys)))))))) .o trivial) (ks := [2, 5, 6, 27, 28, 29]) (bs := [2]) (fX := (cutC ([], []) [(0, [5], [])] ([], []))) (cutC_le _ _ _) FUEL (by
  intro σ k r h
  obtain ⟨hn, h1⟩ := rdN_some h
  obtain ⟨hs2, h2⟩ := rdT_some h1
  obtain ⟨out, hs5, h3⟩ := rdV_some h2
  obtain ⟨k_, hs6, h4⟩ := rdV_some h3
  obtain ⟨t27, hs27, h5⟩ := rdV_some h4
  obtain ⟨t28, hs28, h6⟩ := rdV_some h5
  obtain ⟨t29, hs29, h7⟩ := rdV_some h6
  obtain ⟨a, d, hb2, h8⟩ := rdB_some h7
  refine ⟨_, ?_, (eimpl_Keys_l0 k_ t27 t28 a d FUEL (out, t29) k).trans h8⟩
  exact mkS_le hn ⟨hs2, hs5, hs6, hs27, hs28, hs29, trivial⟩ ⟨hb2, trivial⟩)
noncomputable def impl_Keys (d : (List (ByteArray × (List (ByteArray × Int × Bool × Bool × Int × Int × ByteArray)) × List ByteArray)) × List (List (List (Int × Int × ByteArray)))) (table : ByteArray) (k0 : (List (List (Int × Int × ByteArray))) → Res) : Res :=
  impl_Cat_at d.1 table fun (r : Int) =>
    impl_DbOk d fun (r1 : Bool) =>
      bif !r1 then
        k0 []
      else
        bif decide (r < 0) then
          k0 []
        else
          bif inb r (List.length d.2) then
            impl_Keys_l0 r (nth [] d.2 r) (nI (List.length (nth [] d.2 r))) d FUEL [] 0 fun (out : List (List (Int × Int × ByteArray))) =>
              k0 out
          else none
noncomputable def s_impl_Keys : Sig Unit := ⟨[.borrow y14 true, .borrow .str false], [false], fun vals ext k => av vals y14 fun d vals => av vals .str fun table vals => nl vals <| nl ext <| impl_Keys d table (fun (r0 : List (List (Int × Int × ByteArray))) => k [⟨y12, false, r0, [.O]⟩] [] [])⟩
theorem E_impl_Keys (d : (List (ByteArray × (List (ByteArray × Int × Bool × Bool × Int × Int × ByteArray)) × List ByteArray)) × List (List (List (Int × Int × ByteArray)))) (a_d : Bool) (t_d : List Tag) (table : ByteArray) (a_table : Bool) (t_table : List Tag) (k : List TVal → List TVal → List TVal → Res) : funC g_impl_Keys [ximpl_Keys_l0] (.t .o (.t .o (.t .o (.t .o (.t (.t .o (.t (.x 0) .o)) .o))))) false Try.f24 [.borrow y14 true, .borrow .str false] [false] [⟨y14, a_d, d, t_d⟩, ⟨.str, a_table, table, t_table⟩] [] k = impl_Keys d table (fun (r0 : List (List (Int × Int × ByteArray))) => k [⟨y12, false, r0, [.O]⟩] [] []) := by kernel_rfl
theorem S_impl_Keys : Sound Try.prog 24 s_impl_Keys := sound_of (Γ := g_impl_Keys) (X := [ximpl_Keys_l0]) (ht := (.t .o (.t .o (.t .o (.t .o (.t (.t .o (.t (.x 0) .o)) .o)))))) (fz := false) (c := c_impl_Keys) follows tysOk (fns_cons S_impl_Cat_at (fns_cons S_impl_DbOk (fns_cons S_impl_keyOf fns_nil))) (OrOk.mk trivial ((OrOk.mk trivial ((OrOk.mk trivial ((OrOk.mk trivial ((OrOk.mk ((OrOk.mk trivial ((OrOk.mk (OrOk.x_mk (fun W0 M hnp => oimpl_Keys_l0 (W0 := W0) (M := M) hnp)) trivial)))) trivial))))))))) Try.func24 (by kernel_rfl) (by kernel_rfl) (by decide) (by
  intro vals ext k r h
  obtain ⟨d, a_d, t_d, vals, rfl, h1⟩ := av_some h
  obtain ⟨table, a_table, t_table, vals, rfl, h2⟩ := av_some h1
  obtain ⟨rfl, h3⟩ := nl_some h2
  obtain ⟨rfl, h4⟩ := nl_some h3
  exact (E_impl_Keys d a_d t_d table a_table t_table k).trans h4)
end Go.PI.G
