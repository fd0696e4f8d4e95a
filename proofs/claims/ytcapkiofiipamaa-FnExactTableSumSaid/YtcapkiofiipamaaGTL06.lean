/-
  Printed: what the functions compute. No conditions.
-/
import Derived.Test.YtcapkiofiipamaaGT0
set_option linter.unusedVariables false
set_option maxRecDepth 100000
namespace Go.PI.G
open Go Go.PI Go.Proofs

/-! ### 188 loop.example/g00462/spec.Sum -/
noncomputable def c_spec_Sum : Code := (Try.f188.body).getD .skip
noncomputable def g_spec_Sum : Env Unit := ⟨tys, [], 0⟩
noncomputable def spec_Sum_l0_r (t6 : List Int) (t7 : Int) (n_ : Int) (t8 : Int) (rec : Int → Int → Res) (k0 : Int → Res) : Res :=
  bif decide (t8 < t7) then
    bif inb t8 (List.length t6) then
      rec (Int.tmod (wi64 ((wi64 ((wi64 (257 * n_)) + (wi64 (nth 0 t6 t8)))) + 1)) 16777213) (wi64 (t8 + 1))
    else none
  else
    k0 n_
noncomputable def spec_Sum_l0_s (t6 : List Int) (t7 : Int) : (Int × Int) → (Int × Int → Res) → ((Int → Res)) → Res := fun v rec q => spec_Sum_l0_r t6 t7 v.1 v.2 (fun n_ t8 => rec (n_, t8)) q
noncomputable def spec_Sum_l0 (t6 : List Int) (t7 : Int) (n : Nat) (n_ : Int) (t8 : Int) (k0 : Int → Res) : Res := iter (spec_Sum_l0_s t6 t7) n (n_, t8) (k0)
noncomputable def xspec_Sum_l0 : Node Unit := fun σ k => rdN σ 21 <| rdV σ 3 (.int .i64) false [] fun n_ => rdV σ 6 y15 false [.S] fun t6 => rdV σ 7 (.int .i64) false [] fun t7 => rdV σ 8 (.int .i64) false [] fun t8 => spec_Sum_l0 t6 t7 FUEL n_ t8 (fun (n_1 : Int) => k (.exit 0) (mkS 21 21 [(3, .val ⟨(.int .i64), false, n_1, []⟩)] []))
theorem espec_Sum_l0 (t6 : List Int) (t7 : Int) (n : Nat) (v : Int × Int) (k : Kont Unit) : loopC (codeC g_spec_Sum [] .o (Code.pl (Code.pl (Code.pr (Code.pl (Code.pr (Code.pr c_spec_Sum))))))) (fun σ => σ.forget [3, 6, 7, 8] []) (cutC ([], []) [(0, [3], [])] ([], [])) n (mkS 21 21 [(3, .val ⟨(.int .i64), false, v.1, []⟩), (6, .val ⟨y15, false, t6, [.S]⟩), (7, .val ⟨(.int .i64), false, t7, []⟩), (8, .val ⟨(.int .i64), false, v.2, []⟩)] []) k = iter (spec_Sum_l0_s t6 t7) n v ((fun (k : Kont Unit) => (((fun (n_1 : Int) => k (.exit 0) (mkS 21 21 [(3, .val ⟨(.int .i64), false, n_1, []⟩)] []))) : (Int → Res))) k) := loop_eq (fun v : Int × Int => (mkS 21 21 [(3, .val ⟨(.int .i64), false, v.1, []⟩), (6, .val ⟨y15, false, t6, [.S]⟩), (7, .val ⟨(.int .i64), false, t7, []⟩), (8, .val ⟨(.int .i64), false, v.2, []⟩)] [])) (spec_Sum_l0_s t6 t7) (fun (k : Kont Unit) => (((fun (n_1 : Int) => k (.exit 0) (mkS 21 21 [(3, .val ⟨(.int .i64), false, n_1, []⟩)] []))) : (Int → Res))) (fun v rec k => by kernel_rfl) n v k
theorem ospec_Sum_l0 {W0 : Base} {M : Nat → Prop} (hnp : W0.np ≤ 0) : CodeOk Try.prog W0 M (Code.pl (Code.pr (Code.pl (Code.pr (Code.pr c_spec_Sum))))) xspec_Sum_l0 := show CodeOk Try.prog W0 M (Code.loop (Code.pl (Code.pl (Code.pr (Code.pl (Code.pr (Code.pr c_spec_Sum))))))) xspec_Sum_l0 from loop_ok (code_sound follows tysOk (calls_ok fns_nil) hnp [] (Code.pl (Code.pl (Code.pr (Code.pl (Code.pr (Code.pr c_spec_Sum)))))) .o trivial) (ks := [3, 6, 7, 8]) (bs := []) (fX := (cutC ([], []) [(0, [3], [])] ([], []))) (cutC_le _ _ _) FUEL (by
  intro σ k r h
  obtain ⟨hn, h1⟩ := rdN_some h
  obtain ⟨n_, hs3, h2⟩ := rdV_some h1
  obtain ⟨t6, hs6, h3⟩ := rdV_some h2
  obtain ⟨t7, hs7, h4⟩ := rdV_some h3
  obtain ⟨t8, hs8, h5⟩ := rdV_some h4
  refine ⟨_, ?_, (espec_Sum_l0 t6 t7 FUEL (n_, t8) k).trans h5⟩
  exact mkS_le hn ⟨hs3, hs6, hs7, hs8, trivial⟩ trivial)
noncomputable def spec_Sum (b : List Int) (k0 : Int → Res) : Res :=
  spec_Sum_l0 b (nI (List.length b)) FUEL 1 0 fun (n_ : Int) =>
    k0 n_
noncomputable def s_spec_Sum : Sig Unit := ⟨[.look y15 false], [false], fun vals ext k => av vals y15 fun b vals => nl vals <| nl ext <| spec_Sum b (fun (r0 : Int) => k [⟨(.int .i64), false, r0, []⟩] [] [])⟩
theorem E_spec_Sum (b : List Int) (a_b : Bool) (t_b : List Tag) (k : List TVal → List TVal → List TVal → Res) : funC g_spec_Sum [xspec_Sum_l0] (.t .o (.t .o (.t (.t .o (.t (.x 0) .o)) .o))) false Try.f188 [.look y15 false] [false] [⟨y15, a_b, b, t_b⟩] [] k = spec_Sum b (fun (r0 : Int) => k [⟨(.int .i64), false, r0, []⟩] [] []) := by kernel_rfl
theorem S_spec_Sum : Sound Try.prog 188 s_spec_Sum := sound_of (Γ := g_spec_Sum) (X := [xspec_Sum_l0]) (ht := (.t .o (.t .o (.t (.t .o (.t (.x 0) .o)) .o)))) (fz := false) (c := c_spec_Sum) follows tysOk fns_nil (OrOk.mk trivial ((OrOk.mk trivial ((OrOk.mk ((OrOk.mk trivial ((OrOk.mk (OrOk.x_mk (fun W0 M hnp => ospec_Sum_l0 (W0 := W0) (M := M) hnp)) trivial)))) trivial))))) Try.func188 (by kernel_rfl) (by kernel_rfl) (by decide) (by
  intro vals ext k r h
  obtain ⟨b, a_b, t_b, vals, rfl, h1⟩ := av_some h
  obtain ⟨rfl, h2⟩ := nl_some h1
  obtain ⟨rfl, h3⟩ := nl_some h2
  exact (E_spec_Sum b a_b t_b k).trans h3)

/-! ### 190 loop.example/g00462/impl.Sum -/
noncomputable def c_impl_Sum : Code := (Try.f190.body).getD .skip
noncomputable def g_impl_Sum : Env Unit := ⟨tys, [], 0⟩
noncomputable def impl_Sum_l0_r (t6 : List Int) (t7 : Int) (n_ : Int) (t8 : Int) (rec : Int → Int → Res) (k0 : Int → Res) : Res :=
  bif decide (t8 < t7) then
    bif inb t8 (List.length t6) then
      rec (Int.tmod (wi64 ((wi64 ((wi64 (257 * n_)) + (wi64 (nth 0 t6 t8)))) + 1)) 16777213) (wi64 (t8 + 1))
    else none
  else
    k0 n_
noncomputable def impl_Sum_l0_s (t6 : List Int) (t7 : Int) : (Int × Int) → (Int × Int → Res) → ((Int → Res)) → Res := fun v rec q => impl_Sum_l0_r t6 t7 v.1 v.2 (fun n_ t8 => rec (n_, t8)) q
noncomputable def impl_Sum_l0 (t6 : List Int) (t7 : Int) (n : Nat) (n_ : Int) (t8 : Int) (k0 : Int → Res) : Res := iter (impl_Sum_l0_s t6 t7) n (n_, t8) (k0)
noncomputable def ximpl_Sum_l0 : Node Unit := fun σ k => rdN σ 21 <| rdV σ 3 (.int .i64) false [] fun n_ => rdV σ 6 y15 false [.S] fun t6 => rdV σ 7 (.int .i64) false [] fun t7 => rdV σ 8 (.int .i64) false [] fun t8 => impl_Sum_l0 t6 t7 FUEL n_ t8 (fun (n_1 : Int) => k (.exit 0) (mkS 21 21 [(3, .val ⟨(.int .i64), false, n_1, []⟩)] []))
theorem eimpl_Sum_l0 (t6 : List Int) (t7 : Int) (n : Nat) (v : Int × Int) (k : Kont Unit) : loopC (codeC g_impl_Sum [] .o (Code.pl (Code.pl (Code.pr (Code.pl (Code.pr (Code.pr c_impl_Sum))))))) (fun σ => σ.forget [3, 6, 7, 8] []) (cutC ([], []) [(0, [3], [])] ([], [])) n (mkS 21 21 [(3, .val ⟨(.int .i64), false, v.1, []⟩), (6, .val ⟨y15, false, t6, [.S]⟩), (7, .val ⟨(.int .i64), false, t7, []⟩), (8, .val ⟨(.int .i64), false, v.2, []⟩)] []) k = iter (impl_Sum_l0_s t6 t7) n v ((fun (k : Kont Unit) => (((fun (n_1 : Int) => k (.exit 0) (mkS 21 21 [(3, .val ⟨(.int .i64), false, n_1, []⟩)] []))) : (Int → Res))) k) := loop_eq (fun v : Int × Int => (mkS 21 21 [(3, .val ⟨(.int .i64), false, v.1, []⟩), (6, .val ⟨y15, false, t6, [.S]⟩), (7, .val ⟨(.int .i64), false, t7, []⟩), (8, .val ⟨(.int .i64), false, v.2, []⟩)] [])) (impl_Sum_l0_s t6 t7) (fun (k : Kont Unit) => (((fun (n_1 : Int) => k (.exit 0) (mkS 21 21 [(3, .val ⟨(.int .i64), false, n_1, []⟩)] []))) : (Int → Res))) (fun v rec k => by kernel_rfl) n v k
theorem oimpl_Sum_l0 {W0 : Base} {M : Nat → Prop} (hnp : W0.np ≤ 0) : CodeOk Try.prog W0 M (Code.pl (Code.pr (Code.pl (Code.pr (Code.pr c_impl_Sum))))) ximpl_Sum_l0 := show CodeOk Try.prog W0 M (Code.loop (Code.pl (Code.pl (Code.pr (Code.pl (Code.pr (Code.pr c_impl_Sum))))))) ximpl_Sum_l0 from loop_ok (code_sound follows tysOk (calls_ok fns_nil) hnp [] (Code.pl (Code.pl (Code.pr (Code.pl (Code.pr (Code.pr c_impl_Sum)))))) .o trivial) (ks := [3, 6, 7, 8]) (bs := []) (fX := (cutC ([], []) [(0, [3], [])] ([], []))) (cutC_le _ _ _) FUEL (by
  intro σ k r h
  obtain ⟨hn, h1⟩ := rdN_some h
  obtain ⟨n_, hs3, h2⟩ := rdV_some h1
  obtain ⟨t6, hs6, h3⟩ := rdV_some h2
  obtain ⟨t7, hs7, h4⟩ := rdV_some h3
  obtain ⟨t8, hs8, h5⟩ := rdV_some h4
  refine ⟨_, ?_, (eimpl_Sum_l0 t6 t7 FUEL (n_, t8) k).trans h5⟩
  exact mkS_le hn ⟨hs3, hs6, hs7, hs8, trivial⟩ trivial)
noncomputable def impl_Sum (b : List Int) (k0 : Int → Res) : Res :=
  impl_Sum_l0 b (nI (List.length b)) FUEL 1 0 fun (n_ : Int) =>
    k0 n_
noncomputable def s_impl_Sum : Sig Unit := ⟨[.look y15 false], [false], fun vals ext k => av vals y15 fun b vals => nl vals <| nl ext <| impl_Sum b (fun (r0 : Int) => k [⟨(.int .i64), false, r0, []⟩] [] [])⟩
theorem E_impl_Sum (b : List Int) (a_b : Bool) (t_b : List Tag) (k : List TVal → List TVal → List TVal → Res) : funC g_impl_Sum [ximpl_Sum_l0] (.t .o (.t .o (.t (.t .o (.t (.x 0) .o)) .o))) false Try.f190 [.look y15 false] [false] [⟨y15, a_b, b, t_b⟩] [] k = impl_Sum b (fun (r0 : Int) => k [⟨(.int .i64), false, r0, []⟩] [] []) := by kernel_rfl
theorem S_impl_Sum : Sound Try.prog 190 s_impl_Sum := sound_of (Γ := g_impl_Sum) (X := [ximpl_Sum_l0]) (ht := (.t .o (.t .o (.t (.t .o (.t (.x 0) .o)) .o)))) (fz := false) (c := c_impl_Sum) follows tysOk fns_nil (OrOk.mk trivial ((OrOk.mk trivial ((OrOk.mk ((OrOk.mk trivial ((OrOk.mk (OrOk.x_mk (fun W0 M hnp => oimpl_Sum_l0 (W0 := W0) (M := M) hnp)) trivial)))) trivial))))) Try.func190 (by kernel_rfl) (by kernel_rfl) (by decide) (by
  intro vals ext k r h
  obtain ⟨b, a_b, t_b, vals, rfl, h1⟩ := av_some h
  obtain ⟨rfl, h2⟩ := nl_some h1
  obtain ⟨rfl, h3⟩ := nl_some h2
  exact (E_impl_Sum b a_b t_b k).trans h3)
end Go.PI.G
