/-
  Printed: what the functions compute. No conditions.
-/
import Derived.Test.YtcapkiofiipamaaGT0
import Derived.Test.YtcapkiofiipamaaGTL01
set_option linter.unusedVariables false
set_option maxRecDepth 100000
namespace Go.PI.G
open Go Go.PI Go.Proofs

/-! ### 249 loop.example/g00462/spec.l05Vals -/
noncomputable def c_spec_l05Vals : Code := (Try.f249.body).getD .skip
noncomputable def g_spec_l05Vals : Env Unit := ⟨tys, [(277, s_spec_ValText)], 0⟩
noncomputable def spec_l05Vals_l0_r (t7 : List (Int × Int × ByteArray)) (t8 : Int) (out : List ByteArray) (t9 : Int) (rec : (List ByteArray) → Int → Res) (k0 : (List ByteArray) → Res) : Res :=
  bif decide (t9 < t8) then
    bif inb t9 (List.length t7) then
      spec_ValText (nth (0, 0, eS) t7 t9) fun (r : ByteArray) =>
        bif lim ((List.length out) + 1) then
          rec (out ++ [r]) (wi64 (t9 + 1))
        else none
    else none
  else
    k0 out
noncomputable def spec_l05Vals_l0_s (t7 : List (Int × Int × ByteArray)) (t8 : Int) : ((List ByteArray) × Int) → ((List ByteArray) × Int → Res) → (((List ByteArray) → Res)) → Res := fun v rec q => spec_l05Vals_l0_r t7 t8 v.1 v.2 (fun out t9 => rec (out, t9)) q
noncomputable def spec_l05Vals_l0 (t7 : List (Int × Int × ByteArray)) (t8 : Int) (n : Nat) (out : List ByteArray) (t9 : Int) (k0 : (List ByteArray) → Res) : Res := iter (spec_l05Vals_l0_s t7 t8) n (out, t9) (k0)
noncomputable def xspec_l05Vals_l0 : Node Unit := fun σ k => rdN σ 20 <| rdV σ 3 y0 false [.O] fun out => rdV σ 7 y11 false [.S] fun t7 => rdV σ 8 (.int .i64) false [] fun t8 => rdV σ 9 (.int .i64) false [] fun t9 => spec_l05Vals_l0 t7 t8 FUEL out t9 (fun (out1 : List ByteArray) => k (.exit 0) (mkS 20 20 [(3, .val ⟨y0, false, out1, [.O]⟩)] []))
theorem espec_l05Vals_l0 (t7 : List (Int × Int × ByteArray)) (t8 : Int) (n : Nat) (v : (List ByteArray) × Int) (k : Kont Unit) : loopC (codeC g_spec_l05Vals [] .o (Code.pl (Code.pl (Code.pr (Code.pl (Code.pr (Code.pr c_spec_l05Vals))))))) (fun σ => σ.forget [3, 7, 8, 9] []) (cutC ([], []) [(0, [3], [])] ([], [])) n (mkS 20 20 [(3, .val ⟨y0, false, v.1, [.O]⟩), (7, .val ⟨y11, false, t7, [.S]⟩), (8, .val ⟨(.int .i64), false, t8, []⟩), (9, .val ⟨(.int .i64), false, v.2, []⟩)] []) k = iter (spec_l05Vals_l0_s t7 t8) n v ((fun (k : Kont Unit) => (((fun (out1 : List ByteArray) => k (.exit 0) (mkS 20 20 [(3, .val ⟨y0, false, out1, [.O]⟩)] []))) : ((List ByteArray) → Res))) k) := loop_eq (fun v : (List ByteArray) × Int => (mkS 20 20 [(3, .val ⟨y0, false, v.1, [.O]⟩), (7, .val ⟨y11, false, t7, [.S]⟩), (8, .val ⟨(.int .i64), false, t8, []⟩), (9, .val ⟨(.int .i64), false, v.2, []⟩)] [])) (spec_l05Vals_l0_s t7 t8) (fun (k : Kont Unit) => (((fun (out1 : List ByteArray) => k (.exit 0) (mkS 20 20 [(3, .val ⟨y0, false, out1, [.O]⟩)] []))) : ((List ByteArray) → Res))) (fun v rec k => by kernel_rfl) n v k
theorem ospec_l05Vals_l0 {W0 : Base} {M : Nat → Prop} (hnp : W0.np ≤ 0) : CodeOk Try.prog W0 M (Code.pl (Code.pr (Code.pl (Code.pr (Code.pr c_spec_l05Vals))))) xspec_l05Vals_l0 := show CodeOk Try.prog W0 M (Code.loop (Code.pl (Code.pl (Code.pr (Code.pl (Code.pr (Code.pr c_spec_l05Vals))))))) xspec_l05Vals_l0 from loop_ok (code_sound follows tysOk (calls_ok (fns_cons S_spec_ValText fns_nil)) hnp [] (Code.pl (Code.pl (Code.pr (Code.pl (Code.pr (Code.pr c_spec_l05Vals)))))) .o trivial) (ks := [3, 7, 8, 9]) (bs := []) (fX := (cutC ([], []) [(0, [3], [])] ([], []))) (cutC_le _ _ _) FUEL (by
  intro σ k r h
  obtain ⟨hn, h1⟩ := rdN_some h
  obtain ⟨out, hs3, h2⟩ := rdV_some h1
  obtain ⟨t7, hs7, h3⟩ := rdV_some h2
  obtain ⟨t8, hs8, h4⟩ := rdV_some h3
  obtain ⟨t9, hs9, h5⟩ := rdV_some h4
  refine ⟨_, ?_, (espec_l05Vals_l0 t7 t8 FUEL (out, t9) k).trans h5⟩
  exact mkS_le hn ⟨hs3, hs7, hs8, hs9, trivial⟩ trivial)
noncomputable def spec_l05Vals (l : List (Int × Int × ByteArray)) (k0 : (List ByteArray) → Res) : Res :=
  spec_l05Vals_l0 l (nI (List.length l)) FUEL [] 0 fun (out : List ByteArray) =>
    k0 out
noncomputable def s_spec_l05Vals : Sig Unit := ⟨[.borrow y11 false], [false], fun vals ext k => av vals y11 fun l vals => nl vals <| nl ext <| spec_l05Vals l (fun (r0 : List ByteArray) => k [⟨y0, false, r0, [.O]⟩] [] [])⟩
theorem E_spec_l05Vals (l : List (Int × Int × ByteArray)) (a_l : Bool) (t_l : List Tag) (k : List TVal → List TVal → List TVal → Res) : funC g_spec_l05Vals [xspec_l05Vals_l0] (.t .o (.t .o (.t (.t .o (.t (.x 0) .o)) .o))) false Try.f249 [.borrow y11 false] [false] [⟨y11, a_l, l, t_l⟩] [] k = spec_l05Vals l (fun (r0 : List ByteArray) => k [⟨y0, false, r0, [.O]⟩] [] []) := by kernel_rfl
theorem S_spec_l05Vals : Sound Try.prog 249 s_spec_l05Vals := sound_of (Γ := g_spec_l05Vals) (X := [xspec_l05Vals_l0]) (ht := (.t .o (.t .o (.t (.t .o (.t (.x 0) .o)) .o)))) (fz := false) (c := c_spec_l05Vals) follows tysOk (fns_cons S_spec_ValText fns_nil) (OrOk.mk trivial ((OrOk.mk trivial ((OrOk.mk ((OrOk.mk trivial ((OrOk.mk (OrOk.x_mk (fun W0 M hnp => ospec_l05Vals_l0 (W0 := W0) (M := M) hnp)) trivial)))) trivial))))) Try.func249 (by kernel_rfl) (by kernel_rfl) (by decide) (by
  intro vals ext k r h
  obtain ⟨l, a_l, t_l, vals, rfl, h1⟩ := av_some h
  obtain ⟨rfl, h2⟩ := nl_some h1
  obtain ⟨rfl, h3⟩ := nl_some h2
  exact (E_spec_l05Vals l a_l t_l k).trans h3)

/-! ### 248 loop.example/g00462/spec.l05Join -/
noncomputable def c_spec_l05Join : Code := (Try.f248.body).getD .skip
noncomputable def g_spec_l05Join : Env Unit := ⟨tys, [], 0⟩
noncomputable def spec_l05Join_l0_r (t6 : List ByteArray) (t7 : Int) (out : ByteArray) (t8 : Int) (rec : ByteArray → Int → Res) (k0 : ByteArray → Res) : Res :=
  bif decide (t8 < t7) then
    bif inb t8 (List.length t6) then
      bif decide (t8 > 0) then
        bif lim ((ByteArray.size out) + 1) then
          bif lim ((ByteArray.size (out ++ z___1)) + (ByteArray.size (nth eS t6 t8))) then
            rec ((out ++ z___1) ++ (nth eS t6 t8)) (wi64 (t8 + 1))
          else none
        else none
      else
        bif lim ((ByteArray.size out) + (ByteArray.size (nth eS t6 t8))) then
          rec (out ++ (nth eS t6 t8)) (wi64 (t8 + 1))
        else none
    else none
  else
    k0 out
noncomputable def spec_l05Join_l0_s (t6 : List ByteArray) (t7 : Int) : (ByteArray × Int) → (ByteArray × Int → Res) → ((ByteArray → Res)) → Res := fun v rec q => spec_l05Join_l0_r t6 t7 v.1 v.2 (fun out t8 => rec (out, t8)) q
noncomputable def spec_l05Join_l0 (t6 : List ByteArray) (t7 : Int) (n : Nat) (out : ByteArray) (t8 : Int) (k0 : ByteArray → Res) : Res := iter (spec_l05Join_l0_s t6 t7) n (out, t8) (k0)
noncomputable def xspec_l05Join_l0 : Node Unit := fun σ k => rdN σ 22 <| rdV σ 3 .str false [] fun out => rdV σ 6 y0 false [.S] fun t6 => rdV σ 7 (.int .i64) false [] fun t7 => rdV σ 8 (.int .i64) false [] fun t8 => spec_l05Join_l0 t6 t7 FUEL out t8 (fun (out1 : ByteArray) => k (.exit 0) (mkS 22 22 [(3, .val ⟨.str, false, out1, []⟩)] []))
theorem espec_l05Join_l0 (t6 : List ByteArray) (t7 : Int) (n : Nat) (v : ByteArray × Int) (k : Kont Unit) : loopC (codeC g_spec_l05Join [] .o (Code.pl (Code.pl (Code.pr (Code.pl (Code.pr (Code.pr c_spec_l05Join))))))) (fun σ => σ.forget [3, 6, 7, 8] []) (cutC ([], []) [(0, [3], [])] ([], [])) n (mkS 22 22 [(3, .val ⟨.str, false, v.1, []⟩), (6, .val ⟨y0, false, t6, [.S]⟩), (7, .val ⟨(.int .i64), false, t7, []⟩), (8, .val ⟨(.int .i64), false, v.2, []⟩)] []) k = iter (spec_l05Join_l0_s t6 t7) n v ((fun (k : Kont Unit) => (((fun (out1 : ByteArray) => k (.exit 0) (mkS 22 22 [(3, .val ⟨.str, false, out1, []⟩)] []))) : (ByteArray → Res))) k) := loop_eq (fun v : ByteArray × Int => (mkS 22 22 [(3, .val ⟨.str, false, v.1, []⟩), (6, .val ⟨y0, false, t6, [.S]⟩), (7, .val ⟨(.int .i64), false, t7, []⟩), (8, .val ⟨(.int .i64), false, v.2, []⟩)] [])) (spec_l05Join_l0_s t6 t7) (fun (k : Kont Unit) => (((fun (out1 : ByteArray) => k (.exit 0) (mkS 22 22 [(3, .val ⟨.str, false, out1, []⟩)] []))) : (ByteArray → Res))) (fun v rec k => by kernel_rfl) n v k
theorem ospec_l05Join_l0 {W0 : Base} {M : Nat → Prop} (hnp : W0.np ≤ 0) : CodeOk Try.prog W0 M (Code.pl (Code.pr (Code.pl (Code.pr (Code.pr c_spec_l05Join))))) xspec_l05Join_l0 := show CodeOk Try.prog W0 M (Code.loop (Code.pl (Code.pl (Code.pr (Code.pl (Code.pr (Code.pr c_spec_l05Join))))))) xspec_l05Join_l0 from loop_ok (code_sound follows tysOk (calls_ok fns_nil) hnp [] (Code.pl (Code.pl (Code.pr (Code.pl (Code.pr (Code.pr c_spec_l05Join)))))) .o trivial) (ks := [3, 6, 7, 8]) (bs := []) (fX := (cutC ([], []) [(0, [3], [])] ([], []))) (cutC_le _ _ _) FUEL (by
  intro σ k r h
  obtain ⟨hn, h1⟩ := rdN_some h
  obtain ⟨out, hs3, h2⟩ := rdV_some h1
  obtain ⟨t6, hs6, h3⟩ := rdV_some h2
  obtain ⟨t7, hs7, h4⟩ := rdV_some h3
  obtain ⟨t8, hs8, h5⟩ := rdV_some h4
  refine ⟨_, ?_, (espec_l05Join_l0 t6 t7 FUEL (out, t8) k).trans h5⟩
  exact mkS_le hn ⟨hs3, hs6, hs7, hs8, trivial⟩ trivial)
noncomputable def spec_l05Join (l : List ByteArray) (k0 : ByteArray → Res) : Res :=
  spec_l05Join_l0 l (nI (List.length l)) FUEL eS 0 fun (out : ByteArray) =>
    k0 out
noncomputable def s_spec_l05Join : Sig Unit := ⟨[.look y0 false], [false], fun vals ext k => av vals y0 fun l vals => nl vals <| nl ext <| spec_l05Join l (fun (r0 : ByteArray) => k [⟨.str, false, r0, []⟩] [] [])⟩
theorem E_spec_l05Join (l : List ByteArray) (a_l : Bool) (t_l : List Tag) (k : List TVal → List TVal → List TVal → Res) : funC g_spec_l05Join [xspec_l05Join_l0] (.t .o (.t .o (.t (.t .o (.t (.x 0) .o)) .o))) false Try.f248 [.look y0 false] [false] [⟨y0, a_l, l, t_l⟩] [] k = spec_l05Join l (fun (r0 : ByteArray) => k [⟨.str, false, r0, []⟩] [] []) := by kernel_rfl
theorem S_spec_l05Join : Sound Try.prog 248 s_spec_l05Join := sound_of (Γ := g_spec_l05Join) (X := [xspec_l05Join_l0]) (ht := (.t .o (.t .o (.t (.t .o (.t (.x 0) .o)) .o)))) (fz := false) (c := c_spec_l05Join) follows tysOk fns_nil (OrOk.mk trivial ((OrOk.mk trivial ((OrOk.mk ((OrOk.mk trivial ((OrOk.mk (OrOk.x_mk (fun W0 M hnp => ospec_l05Join_l0 (W0 := W0) (M := M) hnp)) trivial)))) trivial))))) Try.func248 (by kernel_rfl) (by kernel_rfl) (by decide) (by
  intro vals ext k r h
  obtain ⟨l, a_l, t_l, vals, rfl, h1⟩ := av_some h
  obtain ⟨rfl, h2⟩ := nl_some h1
  obtain ⟨rfl, h3⟩ := nl_some h2
  exact (E_spec_l05Join l a_l t_l k).trans h3)

/-! ### 189 loop.example/g00462/spec.RowText -/
noncomputable def c_spec_RowText : Code := (Try.f189.body).getD .skip
noncomputable def g_spec_RowText : Env Unit := ⟨tys, [(247, s_spec_ValOk), (248, s_spec_l05Join), (249, s_spec_l05Vals)], 0⟩
noncomputable def spec_RowText_l0_r (t6 : List (Int × Int × ByteArray)) (t7 : Int) (t8 : Int) (rec : Int → Res) (k0 : Unit → Res) (k1 : Unit → Res) : Res :=
  bif decide (t8 < t7) then
    bif inb t8 (List.length t6) then
      spec_ValOk (nth (0, 0, eS) t6 t8) fun (r1 : Bool) =>
        bif !r1 then
          k1 ()
        else
          rec (wi64 (t8 + 1))
    else none
  else
    k0 ()
noncomputable def spec_RowText_l0_s (t6 : List (Int × Int × ByteArray)) (t7 : Int) : Int → (Int → Res) → ((Unit → Res) × (Unit → Res)) → Res := fun v rec q => spec_RowText_l0_r t6 t7 v (fun t8 => rec (t8)) q.1 q.2
noncomputable def spec_RowText_l0 (t6 : List (Int × Int × ByteArray)) (t7 : Int) (n : Nat) (t8 : Int) (k0 : Unit → Res) (k1 : Unit → Res) : Res := iter (spec_RowText_l0_s t6 t7) n (t8) (k0, k1)
noncomputable def xspec_RowText_l0 : Node Unit := fun σ k => rdN σ 20 <| rdT σ 1 (.ptr ⟨true, 1, []⟩) <| rdV σ 6 y11 false [.S] fun t6 => rdV σ 7 (.int .i64) false [] fun t7 => rdV σ 8 (.int .i64) false [] fun t8 => rdB σ 1 y11 [.S] fun a r => spec_RowText_l0 t6 t7 FUEL t8 (fun (_ : Unit) => k (.exit 0) (mkS 20 20 [(1, .ptr ⟨true, 1, []⟩)] [(1, ⟨y11, a, r, [.S]⟩)])) (fun (_ : Unit) => k .ret (mkS 20 20 [(2, .val ⟨.str, false, eS, []⟩)] []))
theorem espec_RowText_l0 (t6 : List (Int × Int × ByteArray)) (t7 : Int) (a : Bool) (r : List (Int × Int × ByteArray)) (n : Nat) (v : Int) (k : Kont Unit) : loopC (codeC g_spec_RowText [] .o (Code.pl (Code.pl (Code.pr (Code.pl (Code.pr c_spec_RowText)))))) (fun σ => σ.forget [1, 6, 7, 8] [1]) (cutC ([], []) [(0, [1], [1])] ([2], [])) n (mkS 20 20 [(1, .ptr ⟨true, 1, []⟩), (6, .val ⟨y11, false, t6, [.S]⟩), (7, .val ⟨(.int .i64), false, t7, []⟩), (8, .val ⟨(.int .i64), false, v, []⟩)] [(1, ⟨y11, a, r, [.S]⟩)]) k = iter (spec_RowText_l0_s t6 t7) n v ((fun (k : Kont Unit) => (((fun (_ : Unit) => k (.exit 0) (mkS 20 20 [(1, .ptr ⟨true, 1, []⟩)] [(1, ⟨y11, a, r, [.S]⟩)])), (fun (_ : Unit) => k .ret (mkS 20 20 [(2, .val ⟨.str, false, eS, []⟩)] []))) : (Unit → Res) × (Unit → Res))) k) := loop_eq (fun v : Int => (mkS 20 20 [(1, .ptr ⟨true, 1, []⟩), (6, .val ⟨y11, false, t6, [.S]⟩), (7, .val ⟨(.int .i64), false, t7, []⟩), (8, .val ⟨(.int .i64), false, v, []⟩)] [(1, ⟨y11, a, r, [.S]⟩)])) (spec_RowText_l0_s t6 t7) (fun (k : Kont Unit) => (((fun (_ : Unit) => k (.exit 0) (mkS 20 20 [(1, .ptr ⟨true, 1, []⟩)] [(1, ⟨y11, a, r, [.S]⟩)])), (fun (_ : Unit) => k .ret (mkS 20 20 [(2, .val ⟨.str, false, eS, []⟩)] []))) : (Unit → Res) × (Unit → Res))) (fun v rec k => by kernel_rfl) n v k
theorem ospec_RowText_l0 {W0 : Base} {M : Nat → Prop} (hnp : W0.np ≤ 0) : CodeOk Try.prog W0 M (Code.pl (Code.pr (Code.pl (Code.pr c_spec_RowText)))) xspec_RowText_l0 := show CodeOk Try.prog W0 M (Code.loop (Code.pl (Code.pl (Code.pr (Code.pl (Code.pr c_spec_RowText)))))) xspec_RowText_l0 from loop_ok (code_sound follows tysOk (calls_ok (fns_cons S_spec_ValOk (fns_cons S_spec_l05Join (fns_cons S_spec_l05Vals fns_nil)))) hnp [] (Code.pl (Code.pl (Code.pr (Code.pl (Code.pr c_spec_RowText))))) .o trivial) (ks := [1, 6, 7, 8]) (bs := [1]) (fX := (cutC ([], []) [(0, [1], [1])] ([2], []))) (cutC_le _ _ _) FUEL (by
  intro σ k r h
  obtain ⟨hn, h1⟩ := rdN_some h
  obtain ⟨hs1, h2⟩ := rdT_some h1
  obtain ⟨t6, hs6, h3⟩ := rdV_some h2
  obtain ⟨t7, hs7, h4⟩ := rdV_some h3
  obtain ⟨t8, hs8, h5⟩ := rdV_some h4
  obtain ⟨a, r, hb1, h6⟩ := rdB_some h5
  refine ⟨_, ?_, (espec_RowText_l0 t6 t7 a r FUEL (t8) k).trans h6⟩
  exact mkS_le hn ⟨hs1, hs6, hs7, hs8, trivial⟩ ⟨hb1, trivial⟩)
noncomputable def spec_RowText (r : List (Int × Int × ByteArray)) (k0 : ByteArray → Res) : Res :=
  spec_RowText_l0 r (nI (List.length r)) FUEL 0
    (fun (_ : Unit) =>
      spec_l05Vals r fun (r1 : List ByteArray) =>
        spec_l05Join r1 fun (r2 : ByteArray) =>
          k0 r2)
    (fun (_ : Unit) =>
      k0 eS)
noncomputable def s_spec_RowText : Sig Unit := ⟨[.look y11 true], [false], fun vals ext k => av vals y11 fun r vals => nl vals <| nl ext <| spec_RowText r (fun (r0 : ByteArray) => k [⟨.str, false, r0, []⟩] [] [])⟩
theorem E_spec_RowText (r : List (Int × Int × ByteArray)) (a_r : Bool) (t_r : List Tag) (k : List TVal → List TVal → List TVal → Res) : funC g_spec_RowText [xspec_RowText_l0] (.t .o (.t (.t .o (.t (.x 0) .o)) .o)) false Try.f189 [.look y11 true] [false] [⟨y11, a_r, r, t_r⟩] [] k = spec_RowText r (fun (r0 : ByteArray) => k [⟨.str, false, r0, []⟩] [] []) := by kernel_rfl
theorem S_spec_RowText : Sound Try.prog 189 s_spec_RowText := sound_of (Γ := g_spec_RowText) (X := [xspec_RowText_l0]) (ht := (.t .o (.t (.t .o (.t (.x 0) .o)) .o))) (fz := false) (c := c_spec_RowText) follows tysOk (fns_cons S_spec_ValOk (fns_cons S_spec_l05Join (fns_cons S_spec_l05Vals fns_nil))) (OrOk.mk trivial ((OrOk.mk ((OrOk.mk trivial ((OrOk.mk (OrOk.x_mk (fun W0 M hnp => ospec_RowText_l0 (W0 := W0) (M := M) hnp)) trivial)))) trivial))) Try.func189 (by kernel_rfl) (by kernel_rfl) (by decide) (by
  intro vals ext k r h
  obtain ⟨r, a_r, t_r, vals, rfl, h1⟩ := av_some h
  obtain ⟨rfl, h2⟩ := nl_some h1
  obtain ⟨rfl, h3⟩ := nl_some h2
  exact (E_spec_RowText r a_r t_r k).trans h3)

/-! ### 269 loop.example/g00462/impl.glued -/
noncomputable def c_impl_glued : Code := (Try.f269.body).getD .skip
noncomputable def g_impl_glued : Env Unit := ⟨tys, [], 0⟩
noncomputable def impl_glued_l0_r (t6 : List ByteArray) (t7 : Int) (s : ByteArray) (t8 : Int) (rec : ByteArray → Int → Res) (k0 : ByteArray → Res) : Res :=
  bif decide (t8 < t7) then
    bif inb t8 (List.length t6) then
      bif decide (t8 > 0) then
        bif lim ((ByteArray.size s) + 1) then
          bif lim ((ByteArray.size (s ++ z___1)) + (ByteArray.size (nth eS t6 t8))) then
            rec ((s ++ z___1) ++ (nth eS t6 t8)) (wi64 (t8 + 1))
          else none
        else none
      else
        bif lim ((ByteArray.size s) + (ByteArray.size (nth eS t6 t8))) then
          rec (s ++ (nth eS t6 t8)) (wi64 (t8 + 1))
        else none
    else none
  else
    k0 s
noncomputable def impl_glued_l0_s (t6 : List ByteArray) (t7 : Int) : (ByteArray × Int) → (ByteArray × Int → Res) → ((ByteArray → Res)) → Res := fun v rec q => impl_glued_l0_r t6 t7 v.1 v.2 (fun s t8 => rec (s, t8)) q
noncomputable def impl_glued_l0 (t6 : List ByteArray) (t7 : Int) (n : Nat) (s : ByteArray) (t8 : Int) (k0 : ByteArray → Res) : Res := iter (impl_glued_l0_s t6 t7) n (s, t8) (k0)
noncomputable def ximpl_glued_l0 : Node Unit := fun σ k => rdN σ 22 <| rdV σ 3 .str false [] fun s => rdV σ 6 y0 false [.S] fun t6 => rdV σ 7 (.int .i64) false [] fun t7 => rdV σ 8 (.int .i64) false [] fun t8 => impl_glued_l0 t6 t7 FUEL s t8 (fun (s1 : ByteArray) => k (.exit 0) (mkS 22 22 [(3, .val ⟨.str, false, s1, []⟩)] []))
theorem eimpl_glued_l0 (t6 : List ByteArray) (t7 : Int) (n : Nat) (v : ByteArray × Int) (k : Kont Unit) : loopC (codeC g_impl_glued [] .o (Code.pl (Code.pl (Code.pr (Code.pl (Code.pr (Code.pr c_impl_glued))))))) (fun σ => σ.forget [3, 6, 7, 8] []) (cutC ([], []) [(0, [3], [])] ([], [])) n (mkS 22 22 [(3, .val ⟨.str, false, v.1, []⟩), (6, .val ⟨y0, false, t6, [.S]⟩), (7, .val ⟨(.int .i64), false, t7, []⟩), (8, .val ⟨(.int .i64), false, v.2, []⟩)] []) k = iter (impl_glued_l0_s t6 t7) n v ((fun (k : Kont Unit) => (((fun (s1 : ByteArray) => k (.exit 0) (mkS 22 22 [(3, .val ⟨.str, false, s1, []⟩)] []))) : (ByteArray → Res))) k) := loop_eq (fun v : ByteArray × Int => (mkS 22 22 [(3, .val ⟨.str, false, v.1, []⟩), (6, .val ⟨y0, false, t6, [.S]⟩), (7, .val ⟨(.int .i64), false, t7, []⟩), (8, .val ⟨(.int .i64), false, v.2, []⟩)] [])) (impl_glued_l0_s t6 t7) (fun (k : Kont Unit) => (((fun (s1 : ByteArray) => k (.exit 0) (mkS 22 22 [(3, .val ⟨.str, false, s1, []⟩)] []))) : (ByteArray → Res))) (fun v rec k => by kernel_rfl) n v k
theorem oimpl_glued_l0 {W0 : Base} {M : Nat → Prop} (hnp : W0.np ≤ 0) : CodeOk Try.prog W0 M (Code.pl (Code.pr (Code.pl (Code.pr (Code.pr c_impl_glued))))) ximpl_glued_l0 := show CodeOk Try.prog W0 M (Code.loop (Code.pl (Code.pl (Code.pr (Code.pl (Code.pr (Code.pr c_impl_glued))))))) ximpl_glued_l0 from loop_ok (code_sound follows tysOk (calls_ok fns_nil) hnp [] (Code.pl (Code.pl (Code.pr (Code.pl (Code.pr (Code.pr c_impl_glued)))))) .o trivial) (ks := [3, 6, 7, 8]) (bs := []) (fX := (cutC ([], []) [(0, [3], [])] ([], []))) (cutC_le _ _ _) FUEL (by
  intro σ k r h
  obtain ⟨hn, h1⟩ := rdN_some h
  obtain ⟨s, hs3, h2⟩ := rdV_some h1
  obtain ⟨t6, hs6, h3⟩ := rdV_some h2
  obtain ⟨t7, hs7, h4⟩ := rdV_some h3
  obtain ⟨t8, hs8, h5⟩ := rdV_some h4
  refine ⟨_, ?_, (eimpl_glued_l0 t6 t7 FUEL (s, t8) k).trans h5⟩
  exact mkS_le hn ⟨hs3, hs6, hs7, hs8, trivial⟩ trivial)
noncomputable def impl_glued (l : List ByteArray) (k0 : ByteArray → Res) : Res :=
  impl_glued_l0 l (nI (List.length l)) FUEL eS 0 fun (s : ByteArray) =>
    k0 s
noncomputable def s_impl_glued : Sig Unit := ⟨[.look y0 false], [false], fun vals ext k => av vals y0 fun l vals => nl vals <| nl ext <| impl_glued l (fun (r0 : ByteArray) => k [⟨.str, false, r0, []⟩] [] [])⟩
theorem E_impl_glued (l : List ByteArray) (a_l : Bool) (t_l : List Tag) (k : List TVal → List TVal → List TVal → Res) : funC g_impl_glued [ximpl_glued_l0] (.t .o (.t .o (.t (.t .o (.t (.x 0) .o)) .o))) false Try.f269 [.look y0 false] [false] [⟨y0, a_l, l, t_l⟩] [] k = impl_glued l (fun (r0 : ByteArray) => k [⟨.str, false, r0, []⟩] [] []) := by kernel_rfl
theorem S_impl_glued : Sound Try.prog 269 s_impl_glued := sound_of (Γ := g_impl_glued) (X := [ximpl_glued_l0]) (ht := (.t .o (.t .o (.t (.t .o (.t (.x 0) .o)) .o)))) (fz := false) (c := c_impl_glued) follows tysOk fns_nil (OrOk.mk trivial ((OrOk.mk trivial ((OrOk.mk ((OrOk.mk trivial ((OrOk.mk (OrOk.x_mk (fun W0 M hnp => oimpl_glued_l0 (W0 := W0) (M := M) hnp)) trivial)))) trivial))))) Try.func269 (by kernel_rfl) (by kernel_rfl) (by decide) (by
  intro vals ext k r h
  obtain ⟨l, a_l, t_l, vals, rfl, h1⟩ := av_some h
  obtain ⟨rfl, h2⟩ := nl_some h1
  obtain ⟨rfl, h3⟩ := nl_some h2
  exact (E_impl_glued l a_l t_l k).trans h3)

/-! ### 251 loop.example/g00462/impl.valTexts -/
noncomputable def c_impl_valTexts : Code := (Try.f251.body).getD .skip
noncomputable def g_impl_valTexts : Env Unit := ⟨tys, [(269, s_impl_glued), (278, s_impl_ValText)], 0⟩
noncomputable def impl_valTexts_l0_r (t7 : List (Int × Int × ByteArray)) (t8 : Int) (out : List ByteArray) (t9 : Int) (rec : (List ByteArray) → Int → Res) (k0 : (List ByteArray) → Res) : Res :=
  bif decide (t9 < t8) then
    bif inb t9 (List.length t7) then
      impl_ValText (nth (0, 0, eS) t7 t9) fun (r : ByteArray) =>
        bif lim ((List.length out) + 1) then
          rec (out ++ [r]) (wi64 (t9 + 1))
        else none
    else none
  else
    k0 out
noncomputable def impl_valTexts_l0_s (t7 : List (Int × Int × ByteArray)) (t8 : Int) : ((List ByteArray) × Int) → ((List ByteArray) × Int → Res) → (((List ByteArray) → Res)) → Res := fun v rec q => impl_valTexts_l0_r t7 t8 v.1 v.2 (fun out t9 => rec (out, t9)) q
noncomputable def impl_valTexts_l0 (t7 : List (Int × Int × ByteArray)) (t8 : Int) (n : Nat) (out : List ByteArray) (t9 : Int) (k0 : (List ByteArray) → Res) : Res := iter (impl_valTexts_l0_s t7 t8) n (out, t9) (k0)
noncomputable def ximpl_valTexts_l0 : Node Unit := fun σ k => rdN σ 21 <| rdV σ 3 y0 false [.O] fun out => rdV σ 7 y11 false [.S] fun t7 => rdV σ 8 (.int .i64) false [] fun t8 => rdV σ 9 (.int .i64) false [] fun t9 => impl_valTexts_l0 t7 t8 FUEL out t9 (fun (out1 : List ByteArray) => k (.exit 0) (mkS 21 21 [(3, .val ⟨y0, false, out1, [.O]⟩)] []))
theorem eimpl_valTexts_l0 (t7 : List (Int × Int × ByteArray)) (t8 : Int) (n : Nat) (v : (List ByteArray) × Int) (k : Kont Unit) : loopC (codeC g_impl_valTexts [] .o (Code.pl (Code.pl (Code.pr (Code.pl (Code.pr (Code.pr c_impl_valTexts))))))) (fun σ => σ.forget [3, 7, 8, 9] []) (cutC ([], []) [(0, [3], [])] ([], [])) n (mkS 21 21 [(3, .val ⟨y0, false, v.1, [.O]⟩), (7, .val ⟨y11, false, t7, [.S]⟩), (8, .val ⟨(.int .i64), false, t8, []⟩), (9, .val ⟨(.int .i64), false, v.2, []⟩)] []) k = iter (impl_valTexts_l0_s t7 t8) n v ((fun (k : Kont Unit) => (((fun (out1 : List ByteArray) => k (.exit 0) (mkS 21 21 [(3, .val ⟨y0, false, out1, [.O]⟩)] []))) : ((List ByteArray) → Res))) k) := loop_eq (fun v : (List ByteArray) × Int => (mkS 21 21 [(3, .val ⟨y0, false, v.1, [.O]⟩), (7, .val ⟨y11, false, t7, [.S]⟩), (8, .val ⟨(.int .i64), false, t8, []⟩), (9, .val ⟨(.int .i64), false, v.2, []⟩)] [])) (impl_valTexts_l0_s t7 t8) (fun (k : Kont Unit) => (((fun (out1 : List ByteArray) => k (.exit 0) (mkS 21 21 [(3, .val ⟨y0, false, out1, [.O]⟩)] []))) : ((List ByteArray) → Res))) (fun v rec k => by kernel_rfl) n v k
theorem oimpl_valTexts_l0 {W0 : Base} {M : Nat → Prop} (hnp : W0.np ≤ 0) : CodeOk Try.prog W0 M (Code.pl (Code.pr (Code.pl (Code.pr (Code.pr c_impl_valTexts))))) ximpl_valTexts_l0 := show CodeOk Try.prog W0 M (Code.loop (Code.pl (Code.pl (Code.pr (Code.pl (Code.pr (Code.pr c_impl_valTexts))))))) ximpl_valTexts_l0 from loop_ok (code_sound follows tysOk (calls_ok (fns_cons S_impl_glued (fns_cons S_impl_ValText fns_nil))) hnp [] (Code.pl (Code.pl (Code.pr (Code.pl (Code.pr (Code.pr c_impl_valTexts)))))) .o trivial) (ks := [3, 7, 8, 9]) (bs := []) (fX := (cutC ([], []) [(0, [3], [])] ([], []))) (cutC_le _ _ _) FUEL (by
  intro σ k r h
  obtain ⟨hn, h1⟩ := rdN_some h
  obtain ⟨out, hs3, h2⟩ := rdV_some h1
  obtain ⟨t7, hs7, h3⟩ := rdV_some h2
  obtain ⟨t8, hs8, h4⟩ := rdV_some h3
  obtain ⟨t9, hs9, h5⟩ := rdV_some h4
  refine ⟨_, ?_, (eimpl_valTexts_l0 t7 t8 FUEL (out, t9) k).trans h5⟩
  exact mkS_le hn ⟨hs3, hs7, hs8, hs9, trivial⟩ trivial)
noncomputable def impl_valTexts (l : List (Int × Int × ByteArray)) (k0 : ByteArray → Res) : Res :=
  impl_valTexts_l0 l (nI (List.length l)) FUEL [] 0 fun (out : List ByteArray) =>
    impl_glued out fun (r : ByteArray) =>
      k0 r
noncomputable def s_impl_valTexts : Sig Unit := ⟨[.look y11 false], [false], fun vals ext k => av vals y11 fun l vals => nl vals <| nl ext <| impl_valTexts l (fun (r0 : ByteArray) => k [⟨.str, false, r0, []⟩] [] [])⟩
theorem E_impl_valTexts (l : List (Int × Int × ByteArray)) (a_l : Bool) (t_l : List Tag) (k : List TVal → List TVal → List TVal → Res) : funC g_impl_valTexts [ximpl_valTexts_l0] (.t .o (.t .o (.t (.t .o (.t (.x 0) .o)) .o))) false Try.f251 [.look y11 false] [false] [⟨y11, a_l, l, t_l⟩] [] k = impl_valTexts l (fun (r0 : ByteArray) => k [⟨.str, false, r0, []⟩] [] []) := by kernel_rfl
theorem S_impl_valTexts : Sound Try.prog 251 s_impl_valTexts := sound_of (Γ := g_impl_valTexts) (X := [ximpl_valTexts_l0]) (ht := (.t .o (.t .o (.t (.t .o (.t (.x 0) .o)) .o)))) (fz := false) (c := c_impl_valTexts) follows tysOk (fns_cons S_impl_glued (fns_cons S_impl_ValText fns_nil)) (OrOk.mk trivial ((OrOk.mk trivial ((OrOk.mk ((OrOk.mk trivial ((OrOk.mk (OrOk.x_mk (fun W0 M hnp => oimpl_valTexts_l0 (W0 := W0) (M := M) hnp)) trivial)))) trivial))))) Try.func251 (by kernel_rfl) (by kernel_rfl) (by decide) (by
  intro vals ext k r h
  obtain ⟨l, a_l, t_l, vals, rfl, h1⟩ := av_some h
  obtain ⟨rfl, h2⟩ := nl_some h1
  obtain ⟨rfl, h3⟩ := nl_some h2
  exact (E_impl_valTexts l a_l t_l k).trans h3)

/-! ### 191 loop.example/g00462/impl.RowText -/
noncomputable def c_impl_RowText : Code := (Try.f191.body).getD .skip
noncomputable def g_impl_RowText : Env Unit := ⟨tys, [(250, s_impl_ValOk), (251, s_impl_valTexts)], 0⟩
noncomputable def impl_RowText_l0_r (t6 : List (Int × Int × ByteArray)) (t7 : Int) (t8 : Int) (rec : Int → Res) (k0 : Unit → Res) (k1 : Unit → Res) : Res :=
  bif decide (t8 < t7) then
    bif inb t8 (List.length t6) then
      impl_ValOk (nth (0, 0, eS) t6 t8) fun (r1 : Bool) =>
        bif !r1 then
          k1 ()
        else
          rec (wi64 (t8 + 1))
    else none
  else
    k0 ()
noncomputable def impl_RowText_l0_s (t6 : List (Int × Int × ByteArray)) (t7 : Int) : Int → (Int → Res) → ((Unit → Res) × (Unit → Res)) → Res := fun v rec q => impl_RowText_l0_r t6 t7 v (fun t8 => rec (t8)) q.1 q.2
noncomputable def impl_RowText_l0 (t6 : List (Int × Int × ByteArray)) (t7 : Int) (n : Nat) (t8 : Int) (k0 : Unit → Res) (k1 : Unit → Res) : Res := iter (impl_RowText_l0_s t6 t7) n (t8) (k0, k1)
noncomputable def ximpl_RowText_l0 : Node Unit := fun σ k => rdN σ 19 <| rdT σ 1 (.ptr ⟨true, 1, []⟩) <| rdV σ 6 y11 false [.S] fun t6 => rdV σ 7 (.int .i64) false [] fun t7 => rdV σ 8 (.int .i64) false [] fun t8 => rdB σ 1 y11 [.S] fun a r => impl_RowText_l0 t6 t7 FUEL t8 (fun (_ : Unit) => k (.exit 0) (mkS 19 19 [(1, .ptr ⟨true, 1, []⟩)] [(1, ⟨y11, a, r, [.S]⟩)])) (fun (_ : Unit) => k .ret (mkS 19 19 [(2, .val ⟨.str, false, eS, []⟩)] []))
theorem eimpl_RowText_l0 (t6 : List (Int × Int × ByteArray)) (t7 : Int) (a : Bool) (r : List (Int × Int × ByteArray)) (n : Nat) (v : Int) (k : Kont Unit) : loopC (codeC g_impl_RowText [] .o (Code.pl (Code.pl (Code.pr (Code.pl (Code.pr c_impl_RowText)))))) (fun σ => σ.forget [1, 6, 7, 8] [1]) (cutC ([], []) [(0, [1], [1])] ([2], [])) n (mkS 19 19 [(1, .ptr ⟨true, 1, []⟩), (6, .val ⟨y11, false, t6, [.S]⟩), (7, .val ⟨(.int .i64), false, t7, []⟩), (8, .val ⟨(.int .i64), false, v, []⟩)] [(1, ⟨y11, a, r, [.S]⟩)]) k = iter (impl_RowText_l0_s t6 t7) n v ((fun (k : Kont Unit) => (((fun (_ : Unit) => k (.exit 0) (mkS 19 19 [(1, .ptr ⟨true, 1, []⟩)] [(1, ⟨y11, a, r, [.S]⟩)])), (fun (_ : Unit) => k .ret (mkS 19 19 [(2, .val ⟨.str, false, eS, []⟩)] []))) : (Unit → Res) × (Unit → Res))) k) := loop_eq (fun v : Int => (mkS 19 19 [(1, .ptr ⟨true, 1, []⟩), (6, .val ⟨y11, false, t6, [.S]⟩), (7, .val ⟨(.int .i64), false, t7, []⟩), (8, .val ⟨(.int .i64), false, v, []⟩)] [(1, ⟨y11, a, r, [.S]⟩)])) (impl_RowText_l0_s t6 t7) (fun (k : Kont Unit) => (((fun (_ : Unit) => k (.exit 0) (mkS 19 19 [(1, .ptr ⟨true, 1, []⟩)] [(1, ⟨y11, a, r, [.S]⟩)])), (fun (_ : Unit) => k .ret (mkS 19 19 [(2, .val ⟨.str, false, eS, []⟩)] []))) : (Unit → Res) × (Unit → Res))) (fun v rec k => by kernel_rfl) n v k
theorem oimpl_RowText_l0 {W0 : Base} {M : Nat → Prop} (hnp : W0.np ≤ 0) : CodeOk Try.prog W0 M (Code.pl (Code.pr (Code.pl (Code.pr c_impl_RowText)))) ximpl_RowText_l0 := show CodeOk Try.prog W0 M (Code.loop (Code.pl (Code.pl (Code.pr (Code.pl (Code.pr c_impl_RowText)))))) ximpl_RowText_l0 from loop_ok (code_sound follows tysOk (calls_ok (fns_cons S_impl_ValOk (fns_cons S_impl_valTexts fns_nil))) hnp [] (Code.pl (Code.pl (Code.pr (Code.pl (Code.pr c_impl_RowText))))) .o trivial) (ks := [1, 6, 7, 8]) (bs := [1]) (fX := (cutC ([], []) [(0, [1], [1])] ([2], []))) (cutC_le _ _ _) FUEL (by
  intro σ k r h
  obtain ⟨hn, h1⟩ := rdN_some h
  obtain ⟨hs1, h2⟩ := rdT_some h1
  obtain ⟨t6, hs6, h3⟩ := rdV_some h2
  obtain ⟨t7, hs7, h4⟩ := rdV_some h3
  obtain ⟨t8, hs8, h5⟩ := rdV_some h4
  obtain ⟨a, r, hb1, h6⟩ := rdB_some h5
  refine ⟨_, ?_, (eimpl_RowText_l0 t6 t7 a r FUEL (t8) k).trans h6⟩
  exact mkS_le hn ⟨hs1, hs6, hs7, hs8, trivial⟩ ⟨hb1, trivial⟩)
noncomputable def impl_RowText (r : List (Int × Int × ByteArray)) (k0 : ByteArray → Res) : Res :=
  impl_RowText_l0 r (nI (List.length r)) FUEL 0
    (fun (_ : Unit) =>
      impl_valTexts r fun (r1 : ByteArray) =>
        k0 r1)
    (fun (_ : Unit) =>
      k0 eS)
noncomputable def s_impl_RowText : Sig Unit := ⟨[.look y11 true], [false], fun vals ext k => av vals y11 fun r vals => nl vals <| nl ext <| impl_RowText r (fun (r0 : ByteArray) => k [⟨.str, false, r0, []⟩] [] [])⟩
theorem E_impl_RowText (r : List (Int × Int × ByteArray)) (a_r : Bool) (t_r : List Tag) (k : List TVal → List TVal → List TVal → Res) : funC g_impl_RowText [ximpl_RowText_l0] (.t .o (.t (.t .o (.t (.x 0) .o)) .o)) false Try.f191 [.look y11 true] [false] [⟨y11, a_r, r, t_r⟩] [] k = impl_RowText r (fun (r0 : ByteArray) => k [⟨.str, false, r0, []⟩] [] []) := by kernel_rfl
theorem S_impl_RowText : Sound Try.prog 191 s_impl_RowText := sound_of (Γ := g_impl_RowText) (X := [ximpl_RowText_l0]) (ht := (.t .o (.t (.t .o (.t (.x 0) .o)) .o))) (fz := false) (c := c_impl_RowText) follows tysOk (fns_cons S_impl_ValOk (fns_cons S_impl_valTexts fns_nil)) (OrOk.mk trivial ((OrOk.mk ((OrOk.mk trivial ((OrOk.mk (OrOk.x_mk (fun W0 M hnp => oimpl_RowText_l0 (W0 := W0) (M := M) hnp)) trivial)))) trivial))) Try.func191 (by kernel_rfl) (by kernel_rfl) (by decide) (by
  intro vals ext k r h
  obtain ⟨r, a_r, t_r, vals, rfl, h1⟩ := av_some h
  obtain ⟨rfl, h2⟩ := nl_some h1
  obtain ⟨rfl, h3⟩ := nl_some h2
  exact (E_impl_RowText r a_r t_r k).trans h3)
end Go.PI.G
