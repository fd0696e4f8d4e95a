/-
  Printed: what the functions compute. No conditions.
-/
import Derived.Test.YtcapkiofiipamaaGT0
import Derived.Test.YtcapkiofiipamaaGTL02
import Derived.Test.YtcapkiofiipamaaGTL04
import Derived.Test.YtcapkiofiipamaaGTL05
import Derived.Test.YtcapkiofiipamaaGTL06
set_option linter.unusedVariables false
set_option maxRecDepth 100000
namespace Go.PI.G
open Go Go.PI Go.Proofs

/-! ### 114 loop.example/g00462/spec.RowSum -/
noncomputable def c_spec_RowSum : Code := (Try.f114.body).getD .skip
noncomputable def g_spec_RowSum : Env Unit := ⟨tys, [(188, s_spec_Sum), (189, s_spec_RowText)], 0⟩
noncomputable def spec_RowSum (r : List (Int × Int × ByteArray)) (k0 : Int → Res) : Res :=
  spec_RowText r fun (r1 : ByteArray) =>
    bif lim (ByteArray.size r1) then
      spec_Sum (toBytes r1) fun (r2 : Int) =>
        k0 r2
    else none
noncomputable def s_spec_RowSum : Sig Unit := ⟨[.look y11 true], [false], fun vals ext k => av vals y11 fun r vals => nl vals <| nl ext <| spec_RowSum r (fun (r0 : Int) => k [⟨(.int .i64), false, r0, []⟩] [] [])⟩
theorem E_spec_RowSum (r : List (Int × Int × ByteArray)) (a_r : Bool) (t_r : List Tag) (k : List TVal → List TVal → List TVal → Res) : funC g_spec_RowSum [] .o false Try.f114 [.look y11 true] [false] [⟨y11, a_r, r, t_r⟩] [] k = spec_RowSum r (fun (r0 : Int) => k [⟨(.int .i64), false, r0, []⟩] [] []) := by kernel_rfl
theorem S_spec_RowSum : Sound Try.prog 114 s_spec_RowSum := sound_of (Γ := g_spec_RowSum) (X := []) (ht := .o) (fz := false) (c := c_spec_RowSum) follows tysOk (fns_cons S_spec_Sum (fns_cons S_spec_RowText fns_nil)) trivial Try.func114 (by kernel_rfl) (by kernel_rfl) (by decide) (by
  intro vals ext k r h
  obtain ⟨r, a_r, t_r, vals, rfl, h1⟩ := av_some h
  obtain ⟨rfl, h2⟩ := nl_some h1
  obtain ⟨rfl, h3⟩ := nl_some h2
  exact (E_spec_RowSum r a_r t_r k).trans h3)

/-! ### 42 loop.example/g00462/spec.TableSum -/
noncomputable def c_spec_TableSum : Code := (Try.f42.body).getD .skip
noncomputable def g_spec_TableSum : Env Unit := ⟨tys, [(88, s_spec_l02At), (89, s_spec_DbOk), (114, s_spec_RowSum)], 0⟩
noncomputable def spec_TableSum_l0_r (t25 : List (List (Int × Int × ByteArray))) (t26 : Int) (n_ : Int) (t27 : Int) (rec : Int → Int → Res) (k0 : Int → Res) : Res :=
  bif decide (t27 < t26) then
    bif inb t27 (List.length t25) then
      spec_RowSum (nth [] t25 t27) fun (r : Int) =>
        rec (Int.tmod (wi64 (n_ + r)) 16777213) (wi64 (t27 + 1))
    else none
  else
    k0 n_
noncomputable def spec_TableSum_l0_s (t25 : List (List (Int × Int × ByteArray))) (t26 : Int) : (Int × Int) → (Int × Int → Res) → ((Int → Res)) → Res := fun v rec q => spec_TableSum_l0_r t25 t26 v.1 v.2 (fun n_ t27 => rec (n_, t27)) q
noncomputable def spec_TableSum_l0 (t25 : List (List (Int × Int × ByteArray))) (t26 : Int) (n : Nat) (n_ : Int) (t27 : Int) (k0 : Int → Res) : Res := iter (spec_TableSum_l0_s t25 t26) n (n_, t27) (k0)
noncomputable def xspec_TableSum_l0 : Node Unit := fun σ k => rdN σ 38 <| rdV σ 6 (.int .i64) false [] fun n_ => rdV σ 25 y12 false [.S] fun t25 => rdV σ 26 (.int .i64) false [] fun t26 => rdV σ 27 (.int .i64) false [] fun t27 => spec_TableSum_l0 t25 t26 FUEL n_ t27 (fun (n_1 : Int) => k (.exit 0) (mkS 38 38 [(6, .val ⟨(.int .i64), false, n_1, []⟩)] []))
theorem espec_TableSum_l0 (t25 : List (List (Int × Int × ByteArray))) (t26 : Int) (n : Nat) (v : Int × Int) (k : Kont Unit) : loopC (codeC g_spec_TableSum [] .o (Code.pl (Code.pl (Code.pr (Code.pl (Code.pr (Code.pr (Code.pr (Code.pr c_spec_TableSum))))))))) (fun σ => σ.forget [6, 25, 26, 27] []) (cutC ([], []) [(0, [6], [])] ([], [])) n (mkS 38 38 [(6, .val ⟨(.int .i64), false, v.1, []⟩), (25, .val ⟨y12, false, t25, [.S]⟩), (26, .val ⟨(.int .i64), false, t26, []⟩), (27, .val ⟨(.int .i64), false, v.2, []⟩)] []) k = iter (spec_TableSum_l0_s t25 t26) n v ((fun (k : Kont Unit) => (((fun (n_1 : Int) => k (.exit 0) (mkS 38 38 [(6, .val ⟨(.int .i64), false, n_1, []⟩)] []))) : (Int → Res))) k) := loop_eq (fun v : Int × Int => (mkS 38 38 [(6, .val ⟨(.int .i64), false, v.1, []⟩), (25, .val ⟨y12, false, t25, [.S]⟩), (26, .val ⟨(.int .i64), false, t26, []⟩), (27, .val ⟨(.int .i64), false, v.2, []⟩)] [])) (spec_TableSum_l0_s t25 t26) (fun (k : Kont Unit) => (((fun (n_1 : Int) => k (.exit 0) (mkS 38 38 [(6, .val ⟨(.int .i64), false, n_1, []⟩)] []))) : (Int → Res))) (fun v rec k => by kernel_rfl) n v k
theorem ospec_TableSum_l0 {W0 : Base} {M : Nat → Prop} (hnp : W0.np ≤ 0) : CodeOk Try.prog W0 M (Code.pl (Code.pr (Code.pl (Code.pr (Code.pr (Code.pr (Code.pr c_spec_TableSum))))))) xspec_TableSum_l0 := show CodeOk Try.prog W0 M (Code.loop (Code.pl (Code.pl (Code.pr (Code.pl (Code.pr (Code.pr (Code.pr (Code.pr c_spec_TableSum))))))))) xspec_TableSum_l0 from loop_ok (code_sound follows tysOk (calls_ok (fns_cons S_spec_l02At (fns_cons S_spec_DbOk (fns_cons S_spec_RowSum fns_nil)))) hnp [] (Code.pl (Code.pl (Code.pr (Code.pl (Code.pr (Code.pr (Code.pr (Code.pr c_spec_TableSum)))))))) .o trivial) (ks := [6, 25, 26, 27]) (bs := []) (fX := (cutC ([], []) [(0, [6], [])] ([], []))) (cutC_le _ _ _) FUEL (by
  intro σ k r h
  obtain ⟨hn, h1⟩ := rdN_some h
  obtain ⟨n_, hs6, h2⟩ := rdV_some h1
  obtain ⟨t25, hs25, h3⟩ := rdV_some h2
  obtain ⟨t26, hs26, h4⟩ := rdV_some h3
  obtain ⟨t27, hs27, h5⟩ := rdV_some h4
  refine ⟨_, ?_, (espec_TableSum_l0 t25 t26 FUEL (n_, t27) k).trans h5⟩
  exact mkS_le hn ⟨hs6, hs25, hs26, hs27, trivial⟩ trivial)
noncomputable def spec_TableSum (d : (List (ByteArray × (List (ByteArray × Int × Bool × Bool × Int × Int × ByteArray)) × List ByteArray)) × List (List (List (Int × Int × ByteArray)))) (table : ByteArray) (k0 : Int → Res) : Res :=
  spec_l02At d.1 table fun (r : Int) =>
    spec_DbOk d fun (r1 : Bool) =>
      bif !r1 then
        k0 (-1)
      else
        bif decide (r < 0) then
          k0 (-1)
        else
          bif inb r (List.length d.2) then
            spec_TableSum_l0 (nth [] d.2 r) (nI (List.length (nth [] d.2 r))) FUEL 0 0 fun (n_ : Int) =>
              k0 n_
          else none
noncomputable def s_spec_TableSum : Sig Unit := ⟨[.look y14 true, .look .str false], [false], fun vals ext k => av vals y14 fun d vals => av vals .str fun table vals => nl vals <| nl ext <| spec_TableSum d table (fun (r0 : Int) => k [⟨(.int .i64), false, r0, []⟩] [] [])⟩
theorem E_spec_TableSum (d : (List (ByteArray × (List (ByteArray × Int × Bool × Bool × Int × Int × ByteArray)) × List ByteArray)) × List (List (List (Int × Int × ByteArray)))) (a_d : Bool) (t_d : List Tag) (table : ByteArray) (a_table : Bool) (t_table : List Tag) (k : List TVal → List TVal → List TVal → Res) : funC g_spec_TableSum [xspec_TableSum_l0] (.t .o (.t .o (.t .o (.t .o (.t (.t .o (.t (.x 0) .o)) .o))))) false Try.f42 [.look y14 true, .look .str false] [false] [⟨y14, a_d, d, t_d⟩, ⟨.str, a_table, table, t_table⟩] [] k = spec_TableSum d table (fun (r0 : Int) => k [⟨(.int .i64), false, r0, []⟩] [] []) := by kernel_rfl
theorem S_spec_TableSum : Sound Try.prog 42 s_spec_TableSum := sound_of (Γ := g_spec_TableSum) (X := [xspec_TableSum_l0]) (ht := (.t .o (.t .o (.t .o (.t .o (.t (.t .o (.t (.x 0) .o)) .o)))))) (fz := false) (c := c_spec_TableSum) follows tysOk (fns_cons S_spec_l02At (fns_cons S_spec_DbOk (fns_cons S_spec_RowSum fns_nil))) (OrOk.mk trivial ((OrOk.mk trivial ((OrOk.mk trivial ((OrOk.mk trivial ((OrOk.mk ((OrOk.mk trivial ((OrOk.mk (OrOk.x_mk (fun W0 M hnp => ospec_TableSum_l0 (W0 := W0) (M := M) hnp)) trivial)))) trivial))))))))) Try.func42 (by kernel_rfl) (by kernel_rfl) (by decide) (by
  intro vals ext k r h
  obtain ⟨d, a_d, t_d, vals, rfl, h1⟩ := av_some h
  obtain ⟨table, a_table, t_table, vals, rfl, h2⟩ := av_some h1
  obtain ⟨rfl, h3⟩ := nl_some h2
  obtain ⟨rfl, h4⟩ := nl_some h3
  exact (E_spec_TableSum d a_d t_d table a_table t_table k).trans h4)

/-! ### 115 loop.example/g00462/impl.RowSum -/
noncomputable def c_impl_RowSum : Code := (Try.f115.body).getD .skip
noncomputable def g_impl_RowSum : Env Unit := ⟨tys, [(190, s_impl_Sum), (191, s_impl_RowText)], 0⟩
noncomputable def impl_RowSum (r : List (Int × Int × ByteArray)) (k0 : Int → Res) : Res :=
  impl_RowText r fun (r1 : ByteArray) =>
    bif lim (ByteArray.size r1) then
      impl_Sum (toBytes r1) fun (r2 : Int) =>
        k0 r2
    else none
noncomputable def s_impl_RowSum : Sig Unit := ⟨[.look y11 true], [false], fun vals ext k => av vals y11 fun r vals => nl vals <| nl ext <| impl_RowSum r (fun (r0 : Int) => k [⟨(.int .i64), false, r0, []⟩] [] [])⟩
theorem E_impl_RowSum (r : List (Int × Int × ByteArray)) (a_r : Bool) (t_r : List Tag) (k : List TVal → List TVal → List TVal → Res) : funC g_impl_RowSum [] .o false Try.f115 [.look y11 true] [false] [⟨y11, a_r, r, t_r⟩] [] k = impl_RowSum r (fun (r0 : Int) => k [⟨(.int .i64), false, r0, []⟩] [] []) := by kernel_rfl
theorem S_impl_RowSum : Sound Try.prog 115 s_impl_RowSum := sound_of (Γ := g_impl_RowSum) (X := []) (ht := .o) (fz := false) (c := c_impl_RowSum) follows tysOk (fns_cons S_impl_Sum (fns_cons S_impl_RowText fns_nil)) trivial Try.func115 (by kernel_rfl) (by kernel_rfl) (by decide) (by
  intro vals ext k r h
  obtain ⟨r, a_r, t_r, vals, rfl, h1⟩ := av_some h
  obtain ⟨rfl, h2⟩ := nl_some h1
  obtain ⟨rfl, h3⟩ := nl_some h2
  exact (E_impl_RowSum r a_r t_r k).trans h3)

/-! ### 43 loop.example/g00462/impl.TableSum -/
noncomputable def c_impl_TableSum : Code := (Try.f43.body).getD .skip
noncomputable def g_impl_TableSum : Env Unit := ⟨tys, [(91, s_impl_Cat_at), (92, s_impl_DbOk), (115, s_impl_RowSum)], 0⟩
noncomputable def impl_TableSum_l0_r (t25 : List (List (Int × Int × ByteArray))) (t26 : Int) (n_ : Int) (t27 : Int) (rec : Int → Int → Res) (k0 : Int → Res) : Res :=
  bif decide (t27 < t26) then
    bif inb t27 (List.length t25) then
      impl_RowSum (nth [] t25 t27) fun (r : Int) =>
        rec (Int.tmod (wi64 (n_ + r)) 16777213) (wi64 (t27 + 1))
    else none
  else
    k0 n_
noncomputable def impl_TableSum_l0_s (t25 : List (List (Int × Int × ByteArray))) (t26 : Int) : (Int × Int) → (Int × Int → Res) → ((Int → Res)) → Res := fun v rec q => impl_TableSum_l0_r t25 t26 v.1 v.2 (fun n_ t27 => rec (n_, t27)) q
noncomputable def impl_TableSum_l0 (t25 : List (List (Int × Int × ByteArray))) (t26 : Int) (n : Nat) (n_ : Int) (t27 : Int) (k0 : Int → Res) : Res := iter (impl_TableSum_l0_s t25 t26) n (n_, t27) (k0)
noncomputable def ximpl_TableSum_l0 : Node Unit := fun σ k => rdN σ 38 <| rdV σ 6 (.int .i64) false [] fun n_ => rdV σ 25 y12 false [.S] fun t25 => rdV σ 26 (.int .i64) false [] fun t26 => rdV σ 27 (.int .i64) false [] fun t27 => impl_TableSum_l0 t25 t26 FUEL n_ t27 (fun (n_1 : Int) => k (.exit 0) (mkS 38 38 [(6, .val ⟨(.int .i64), false, n_1, []⟩)] []))
theorem eimpl_TableSum_l0 (t25 : List (List (Int × Int × ByteArray))) (t26 : Int) (n : Nat) (v : Int × Int) (k : Kont Unit) : loopC (codeC g_impl_TableSum [] .o (Code.pl (Code.pl (Code.pr (Code.pl (Code.pr (Code.pr (Code.pr (Code.pr c_impl_TableSum))))))))) (fun σ => σ.forget [6, 25, 26, 27] []) (cutC ([], []) [(0, [6], [])] ([], [])) n (mkS 38 38 [(6, .val ⟨(.int .i64), false, v.1, []⟩), (25, .val ⟨y12, false, t25, [.S]⟩), (26, .val ⟨(.int .i64), false, t26, []⟩), (27, .val ⟨(.int .i64), false, v.2, []⟩)] []) k = iter (impl_TableSum_l0_s t25 t26) n v ((fun (k : Kont Unit) => (((fun (n_1 : Int) => k (.exit 0) (mkS 38 38 [(6, .val ⟨(.int .i64), false, n_1, []⟩)] []))) : (Int → Res))) k) := loop_eq (fun v : Int × Int => (mkS 38 38 [(6, .val ⟨(.int .i64), false, v.1, []⟩), (25, .val ⟨y12, false, t25, [.S]⟩), (26, .val ⟨(.int .i64), false, t26, []⟩), (27, .val ⟨(.int .i64), false, v.2, []⟩)] [])) (impl_TableSum_l0_s t25 t26) (fun (k : Kont Unit) => (((fun (n_1 : Int) => k (.exit 0) (mkS 38 38 [(6, .val ⟨(.int .i64), false, n_1, []⟩)] []))) : (Int → Res))) (fun v rec k => by kernel_rfl) n v k
theorem oimpl_TableSum_l0 {W0 : Base} {M : Nat → Prop} (hnp : W0.np ≤ 0) : CodeOk Try.prog W0 M (Code.pl (Code.pr (Code.pl (Code.pr (Code.pr (Code.pr (Code.pr c_impl_TableSum))))))) ximpl_TableSum_l0 := show CodeOk Try.prog W0 M (Code.loop (Code.pl (Code.pl (Code.pr (Code.pl (Code.pr (Code.pr (Code.pr (Code.pr c_impl_TableSum))))))))) ximpl_TableSum_l0 from loop_ok (code_sound follows tysOk (calls_ok (fns_cons S_impl_Cat_at (fns_cons S_impl_DbOk (fns_cons S_impl_RowSum fns_nil)))) hnp [] (Code.pl (Code.pl (Code.pr (Code.pl (Code.pr (Code.pr (Code.pr (Code.pr c_impl_TableSum)))))))) .o trivial) (ks := [6, 25, 26, 27]) (bs := []) (fX := (cutC ([], []) [(0, [6], [])] ([], []))) (cutC_le _ _ _) FUEL (by
  intro σ k r h
  obtain ⟨hn, h1⟩ := rdN_some h
  obtain ⟨n_, hs6, h2⟩ := rdV_some h1
  obtain ⟨t25, hs25, h3⟩ := rdV_some h2
  obtain ⟨t26, hs26, h4⟩ := rdV_some h3
  obtain ⟨t27, hs27, h5⟩ := rdV_some h4
  refine ⟨_, ?_, (eimpl_TableSum_l0 t25 t26 FUEL (n_, t27) k).trans h5⟩
  exact mkS_le hn ⟨hs6, hs25, hs26, hs27, trivial⟩ trivial)
noncomputable def impl_TableSum (d : (List (ByteArray × (List (ByteArray × Int × Bool × Bool × Int × Int × ByteArray)) × List ByteArray)) × List (List (List (Int × Int × ByteArray)))) (table : ByteArray) (k0 : Int → Res) : Res :=
  impl_Cat_at d.1 table fun (r : Int) =>
    impl_DbOk d fun (r1 : Bool) =>
      bif !r1 then
        k0 (-1)
      else
        bif decide (r < 0) then
          k0 (-1)
        else
          bif inb r (List.length d.2) then
            impl_TableSum_l0 (nth [] d.2 r) (nI (List.length (nth [] d.2 r))) FUEL 0 0 fun (n_ : Int) =>
              k0 n_
          else none
noncomputable def s_impl_TableSum : Sig Unit := ⟨[.look y14 true, .look .str false], [false], fun vals ext k => av vals y14 fun d vals => av vals .str fun table vals => nl vals <| nl ext <| impl_TableSum d table (fun (r0 : Int) => k [⟨(.int .i64), false, r0, []⟩] [] [])⟩
theorem E_impl_TableSum (d : (List (ByteArray × (List (ByteArray × Int × Bool × Bool × Int × Int × ByteArray)) × List ByteArray)) × List (List (List (Int × Int × ByteArray)))) (a_d : Bool) (t_d : List Tag) (table : ByteArray) (a_table : Bool) (t_table : List Tag) (k : List TVal → List TVal → List TVal → Res) : funC g_impl_TableSum [ximpl_TableSum_l0] (.t .o (.t .o (.t .o (.t .o (.t (.t .o (.t (.x 0) .o)) .o))))) false Try.f43 [.look y14 true, .look .str false] [false] [⟨y14, a_d, d, t_d⟩, ⟨.str, a_table, table, t_table⟩] [] k = impl_TableSum d table (fun (r0 : Int) => k [⟨(.int .i64), false, r0, []⟩] [] []) := by kernel_rfl
theorem S_impl_TableSum : Sound Try.prog 43 s_impl_TableSum := sound_of (Γ := g_impl_TableSum) (X := [ximpl_TableSum_l0]) (ht := (.t .o (.t .o (.t .o (.t .o (.t (.t .o (.t (.x 0) .o)) .o)))))) (fz := false) (c := c_impl_TableSum) follows tysOk (fns_cons S_impl_Cat_at (fns_cons S_impl_DbOk (fns_cons S_impl_RowSum fns_nil))) (OrOk.mk trivial ((OrOk.mk trivial ((OrOk.mk trivial ((OrOk.mk trivial ((OrOk.mk ((OrOk.mk trivial ((OrOk.mk (OrOk.x_mk (fun W0 M hnp => oimpl_TableSum_l0 (W0 := W0) (M := M) hnp)) trivial)))) trivial))))))))) Try.func43 (by kernel_rfl) (by kernel_rfl) (by decide) (by
  intro vals ext k r h
  obtain ⟨d, a_d, t_d, vals, rfl, h1⟩ := av_some h
  obtain ⟨table, a_table, t_table, vals, rfl, h2⟩ := av_some h1
  obtain ⟨rfl, h3⟩ := nl_some h2
  obtain ⟨rfl, h4⟩ := nl_some h3
  exact (E_impl_TableSum d a_d t_d table a_table t_table k).trans h4)
end Go.PI.G
