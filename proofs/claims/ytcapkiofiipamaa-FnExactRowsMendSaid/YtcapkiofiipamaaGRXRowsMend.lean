/-
  Printed: what the functions compute. No conditions.
-/
import Derived.Test.YtcapkiofiipamaaGR0
import Derived.Test.YtcapkiofiipamaaGRL17
import Derived.Test.YtcapkiofiipamaaGRTRowS
import Derived.Test.YtcapkiofiipamaaGRTStmtS
import Derived.Test.YtcapkiofiipamaaGRTTable
set_option linter.unusedVariables false
set_option maxRecDepth 100000
namespace Go.PI.G
open Go Go.PI Go.Proofs

/-! ### 6 loop.example/g00462/laws.FnExactRowsMend -/
noncomputable def c_laws_FnExactRowsMend : Code := (Try.f6.body).getD .skip
noncomputable def g_laws_FnExactRowsMend : Env Unit := ⟨tys, [(29, s_laws_szTable), (30, s_laws_szRowS), (31, s_spec_RowsMend), (32, s_laws_toTable), (33, s_laws_toRowS), (34, s_impl_RowsMend), (35, s_laws_eqStmtS), (36, s_laws_eqTable), (37, s_laws_eqRowS), (38, s_laws_markTable), (39, s_laws_markRowS), (40, s_laws_markStmtS), (41, s_laws_heldStmtS)], 0⟩
noncomputable def laws_FnExactRowsMend_p0 (aA : List (List (Int × Int × ByteArray))) (aB : List (List (Int × Int × ByteArray))) (w0 : List (Int × ByteArray × (List (Int × Int × ByteArray)) × (List (Int × Int × ByteArray)) × Int × ByteArray × (List (ByteArray × Int × Bool × Bool × Int × Int × ByteArray)) × List ByteArray × ByteArray × ByteArray)) (w1 : Bool) (g0 : List (Int × ByteArray × (List (Int × Int × ByteArray)) × (List (Int × Int × ByteArray)) × Int × ByteArray × (List (ByteArray × Int × Bool × Bool × Int × Int × ByteArray)) × List ByteArray × ByteArray × ByteArray)) (m : Int) (q_ : Int) (aT : ByteArray × (List (ByteArray × Int × Bool × Bool × Int × Int × ByteArray)) × List ByteArray) (k0 : Bool → Res) : Res :=
  bif (q_ != m) then
    k0 false
  else
    laws_toTable aT fun (r : ByteArray × (List (ByteArray × Int × Bool × Bool × Int × Int × ByteArray)) × List ByteArray) =>
      laws_toRowS aA fun (r1 : List (List (Int × Int × ByteArray))) =>
        laws_toRowS aB fun (r2 : List (List (Int × Int × ByteArray))) =>
          impl_RowsMend r r1 r2 fun (r3 : List (Int × ByteArray × (List (Int × Int × ByteArray)) × (List (Int × Int × ByteArray)) × Int × ByteArray × (List (ByteArray × Int × Bool × Bool × Int × Int × ByteArray)) × List ByteArray × ByteArray × ByteArray)) (r4 : Bool) =>
            laws_eqStmtS r3 w0 fun (r5 : Bool) =>
              bif !r5 then
                k0 false
              else
                bif !(r4 == w1) then
                  k0 false
                else
                  laws_heldStmtS g0 1 fun (r6 : Int) =>
                    bif decide (r6 < 0) then
                      k0 false
                    else
                      bif (r6 != m) then
                        k0 false
                      else
                        k0 true
noncomputable def xlaws_FnExactRowsMend_p0 : Node Unit := fun σ k => rdN σ 142 <| rdV σ 1 y11 false [.S] fun aA => rdV σ 2 y11 false [.S] fun aB => rdT σ 3 (.ptr ⟨true, 3, []⟩) <| rdV σ 8 y21 false [.O] fun w0 => rdV σ 9 .bool false [] fun w1 => rdV σ 13 y21 false [.O] fun g0 => rdV σ 16 (.int .i64) false [] fun m => rdV σ 17 (.int .i64) false [] fun q_ => rdB σ 3 y9 [.S, .S] fun a aT => laws_FnExactRowsMend_p0 aA aB w0 w1 g0 m q_ aT (fun (t6 : Bool) => k .ret (mkS 142 142 [(6, .val ⟨.bool, false, t6, []⟩)] []))
theorem elaws_FnExactRowsMend_p0 (aA : List (List (Int × Int × ByteArray))) (aB : List (List (Int × Int × ByteArray))) (w0 : List (Int × ByteArray × (List (Int × Int × ByteArray)) × (List (Int × Int × ByteArray)) × Int × ByteArray × (List (ByteArray × Int × Bool × Bool × Int × Int × ByteArray)) × List ByteArray × ByteArray × ByteArray)) (w1 : Bool) (g0 : List (Int × ByteArray × (List (Int × Int × ByteArray)) × (List (Int × Int × ByteArray)) × Int × ByteArray × (List (ByteArray × Int × Bool × Bool × Int × Int × ByteArray)) × List ByteArray × ByteArray × ByteArray)) (m : Int) (q_ : Int) (a : Bool) (aT : ByteArray × (List (ByteArray × Int × Bool × Bool × Int × Int × ByteArray)) × List ByteArray) (k : Kont Unit) : codeC g_laws_FnExactRowsMend [] .o (Code.pr (Code.pr (Code.pr (Code.pr (Code.pr (Code.pr (Code.pr (Code.pr (Code.pr (Code.pr (Code.pr (Code.pr (Code.pr (Code.pr (Code.pr (Code.pr (Code.pr (Code.pr (Code.pr (Code.pr (Code.pr (Code.pr (Code.pr (Code.pr (Code.pr (Code.pr (Code.pr c_laws_FnExactRowsMend))))))))))))))))))))))))))) (mkS 142 142 [(1, .val ⟨y11, false, aA, [.S]⟩), (2, .val ⟨y11, false, aB, [.S]⟩), (3, .ptr ⟨true, 3, []⟩), (8, .val ⟨y21, false, w0, [.O]⟩), (9, .val ⟨.bool, false, w1, []⟩), (13, .val ⟨y21, false, g0, [.O]⟩), (16, .val ⟨(.int .i64), false, m, []⟩), (17, .val ⟨(.int .i64), false, q_, []⟩)] [(3, ⟨y9, a, aT, [.S, .S]⟩)]) (fun e σ => k e ((cutC ([], []) [] ([6], [])) e σ)) = laws_FnExactRowsMend_p0 aA aB w0 w1 g0 m q_ aT (fun (t6 : Bool) => k .ret (mkS 142 142 [(6, .val ⟨.bool, false, t6, []⟩)] [])) := by kernel_rfl
theorem olaws_FnExactRowsMend_p0 {W0 : Base} {M : Nat → Prop} (hnp : W0.np ≤ 0) : CodeOk Try.prog W0 M (Code.pr (Code.pr (Code.pr (Code.pr (Code.pr (Code.pr (Code.pr (Code.pr (Code.pr (Code.pr (Code.pr (Code.pr (Code.pr (Code.pr (Code.pr (Code.pr (Code.pr (Code.pr (Code.pr (Code.pr (Code.pr (Code.pr (Code.pr (Code.pr (Code.pr (Code.pr (Code.pr c_laws_FnExactRowsMend))))))))))))))))))))))))))) xlaws_FnExactRowsMend_p0 := node_ok (code_sound follows tysOk (calls_ok (fns_cons S_laws_szTable (fns_cons S_laws_szRowS (fns_cons S_spec_RowsMend (fns_cons S_laws_toTable (fns_cons S_laws_toRowS (fns_cons S_impl_RowsMend (fns_cons S_laws_eqStmtS (fns_cons S_laws_eqTable (fns_cons S_laws_eqRowS (fns_cons S_laws_markTable (fns_cons S_laws_markRowS (fns_cons S_laws_markStmtS (fns_cons S_laws_heldStmtS fns_nil)))))))))))))) hnp [] ((Code.pr (Code.pr (Code.pr (Code.pr (Code.pr (Code.pr (Code.pr (Code.pr (Code.pr (Code.pr (Code.pr (Code.pr (Code.pr (Code.pr (Code.pr (Code.pr (Code.pr (Code.pr (Code.pr (Code.pr (Code.pr (Code.pr (Code.pr (Code.pr (Code.pr (Code.pr (Code.pr c_laws_FnExactRowsMend)))))))))))))))))))))))))))) .o trivial) (fg := (cutC ([], []) [] ([6], []))) (cutC_le _ _ _) (by
  intro σ k r h
  obtain ⟨hn, h1⟩ := rdN_some h
  obtain ⟨aA, hs1, h2⟩ := rdV_some h1
  obtain ⟨aB, hs2, h3⟩ := rdV_some h2
  obtain ⟨hs3, h4⟩ := rdT_some h3
  obtain ⟨w0, hs8, h5⟩ := rdV_some h4
  obtain ⟨w1, hs9, h6⟩ := rdV_some h5
  obtain ⟨g0, hs13, h7⟩ := rdV_some h6
  obtain ⟨m, hs16, h8⟩ := rdV_some h7
  obtain ⟨q_, hs17, h9⟩ := rdV_some h8
  obtain ⟨a, aT, hb3, h10⟩ := rdB_some h9
  refine ⟨_, ?_, (elaws_FnExactRowsMend_p0 aA aB w0 w1 g0 m q_ a aT k).trans h10⟩
  exact mkS_le hn ⟨hs1, hs2, hs3, hs8, hs9, hs13, hs16, hs17, trivial⟩ ⟨hb3, trivial⟩)
noncomputable def laws_FnExactRowsMend_p1 (aA : List (List (Int × Int × ByteArray))) (aB : List (List (Int × Int × ByteArray))) (w0 : List (Int × ByteArray × (List (Int × Int × ByteArray)) × (List (Int × Int × ByteArray)) × Int × ByteArray × (List (ByteArray × Int × Bool × Bool × Int × Int × ByteArray)) × List ByteArray × ByteArray × ByteArray)) (w1 : Bool) (x1 : List (List (Int × Int × ByteArray))) (x2 : List (List (Int × Int × ByteArray))) (g0 : List (Int × ByteArray × (List (Int × Int × ByteArray)) × (List (Int × Int × ByteArray)) × Int × ByteArray × (List (ByteArray × Int × Bool × Bool × Int × Int × ByteArray)) × List ByteArray × ByteArray × ByteArray)) (g1 : Bool) (aT : ByteArray × (List (ByteArray × Int × Bool × Bool × Int × Int × ByteArray)) × List ByteArray) (x0 : ByteArray × (List (ByteArray × Int × Bool × Bool × Int × Int × ByteArray)) × List ByteArray) (k0 : Bool → Res) : Res :=
  laws_markTable x0 1 fun (r : Int) (a2 : ByteArray × (List (ByteArray × Int × Bool × Bool × Int × Int × ByteArray)) × List ByteArray) =>
    laws_markRowS x1 r fun (r1 : Int) (a3 : List (List (Int × Int × ByteArray))) =>
      laws_markRowS x2 r1 fun (r2 : Int) (a4 : List (List (Int × Int × ByteArray))) =>
        bif decide (r2 < 0) then
          k0 false
        else
          laws_eqStmtS g0 w0 fun (r3 : Bool) =>
            bif !r3 then
              k0 false
            else
              bif !(g1 == w1) then
                k0 false
              else
                laws_markStmtS g0 1 fun (r4 : Int) (a5 : List (Int × ByteArray × (List (Int × Int × ByteArray)) × (List (Int × Int × ByteArray)) × Int × ByteArray × (List (ByteArray × Int × Bool × Bool × Int × Int × ByteArray)) × List ByteArray × ByteArray × ByteArray)) =>
                  laws_heldStmtS a5 1 fun (r5 : Int) =>
                    bif decide (r5 < 0) then
                      k0 false
                    else
                      laws_FnExactRowsMend_p0 aA aB w0 w1 a5 r4 r5 aT fun (t : Bool) =>
                        k0 t
noncomputable def xlaws_FnExactRowsMend_p1 : Node Unit := fun σ k => rdN σ 142 <| rdV σ 1 y11 false [.S] fun aA => rdV σ 2 y11 false [.S] fun aB => rdT σ 3 (.ptr ⟨true, 3, []⟩) <| rdV σ 8 y21 false [.O] fun w0 => rdV σ 9 .bool false [] fun w1 => rdT σ 10 (.ptr ⟨true, 10, []⟩) <| rdV σ 11 y11 false [.O] fun x1 => rdV σ 12 y11 false [.O] fun x2 => rdV σ 13 y21 false [.O] fun g0 => rdV σ 14 .bool false [] fun g1 => rdB σ 3 y9 [.S, .S] fun a aT => rdB σ 10 y9 [.O, .O] fun a1 x0 => laws_FnExactRowsMend_p1 aA aB w0 w1 x1 x2 g0 g1 aT x0 (fun (t6 : Bool) => k .ret (mkS 142 142 [(6, .val ⟨.bool, false, t6, []⟩)] []))
theorem elaws_FnExactRowsMend_p1 (aA : List (List (Int × Int × ByteArray))) (aB : List (List (Int × Int × ByteArray))) (w0 : List (Int × ByteArray × (List (Int × Int × ByteArray)) × (List (Int × Int × ByteArray)) × Int × ByteArray × (List (ByteArray × Int × Bool × Bool × Int × Int × ByteArray)) × List ByteArray × ByteArray × ByteArray)) (w1 : Bool) (x1 : List (List (Int × Int × ByteArray))) (x2 : List (List (Int × Int × ByteArray))) (g0 : List (Int × ByteArray × (List (Int × Int × ByteArray)) × (List (Int × Int × ByteArray)) × Int × ByteArray × (List (ByteArray × Int × Bool × Bool × Int × Int × ByteArray)) × List ByteArray × ByteArray × ByteArray)) (g1 : Bool) (a : Bool) (aT : ByteArray × (List (ByteArray × Int × Bool × Bool × Int × Int × ByteArray)) × List ByteArray) (a1 : Bool) (x0 : ByteArray × (List (ByteArray × Int × Bool × Bool × Int × Int × ByteArray)) × List ByteArray) (k : Kont Unit) : codeC g_laws_FnExactRowsMend [xlaws_FnExactRowsMend_p0] (.t .o (.t .o (.t .o (.t .o (.t .o (.t .o (.t .o (.t .o (.t .o (.t .o (.x 0))))))))))) (Code.pr (Code.pr (Code.pr (Code.pr (Code.pr (Code.pr (Code.pr (Code.pr (Code.pr (Code.pr (Code.pr (Code.pr (Code.pr (Code.pr (Code.pr (Code.pr (Code.pr c_laws_FnExactRowsMend))))))))))))))))) (mkS 142 142 [(1, .val ⟨y11, false, aA, [.S]⟩), (2, .val ⟨y11, false, aB, [.S]⟩), (3, .ptr ⟨true, 3, []⟩), (8, .val ⟨y21, false, w0, [.O]⟩), (9, .val ⟨.bool, false, w1, []⟩), (10, .ptr ⟨true, 10, []⟩), (11, .val ⟨y11, false, x1, [.O]⟩), (12, .val ⟨y11, false, x2, [.O]⟩), (13, .val ⟨y21, false, g0, [.O]⟩), (14, .val ⟨.bool, false, g1, []⟩)] [(3, ⟨y9, a, aT, [.S, .S]⟩), (10, ⟨y9, a1, x0, [.O, .O]⟩)]) (fun e σ => k e ((cutC ([], []) [] ([6], [])) e σ)) = laws_FnExactRowsMend_p1 aA aB w0 w1 x1 x2 g0 g1 aT x0 (fun (t6 : Bool) => k .ret (mkS 142 142 [(6, .val ⟨.bool, false, t6, []⟩)] [])) := by kernel_rfl
theorem olaws_FnExactRowsMend_p1 {W0 : Base} {M : Nat → Prop} (hnp : W0.np ≤ 0) : CodeOk Try.prog W0 M (Code.pr (Code.pr (Code.pr (Code.pr (Code.pr (Code.pr (Code.pr (Code.pr (Code.pr (Code.pr (Code.pr (Code.pr (Code.pr (Code.pr (Code.pr (Code.pr (Code.pr c_laws_FnExactRowsMend))))))))))))))))) xlaws_FnExactRowsMend_p1 := node_ok (code_sound follows tysOk (calls_ok (fns_cons S_laws_szTable (fns_cons S_laws_szRowS (fns_cons S_spec_RowsMend (fns_cons S_laws_toTable (fns_cons S_laws_toRowS (fns_cons S_impl_RowsMend (fns_cons S_laws_eqStmtS (fns_cons S_laws_eqTable (fns_cons S_laws_eqRowS (fns_cons S_laws_markTable (fns_cons S_laws_markRowS (fns_cons S_laws_markStmtS (fns_cons S_laws_heldStmtS fns_nil)))))))))))))) hnp [xlaws_FnExactRowsMend_p0] ((Code.pr (Code.pr (Code.pr (Code.pr (Code.pr (Code.pr (Code.pr (Code.pr (Code.pr (Code.pr (Code.pr (Code.pr (Code.pr (Code.pr (Code.pr (Code.pr (Code.pr c_laws_FnExactRowsMend)))))))))))))))))) (.t .o (.t .o (.t .o (.t .o (.t .o (.t .o (.t .o (.t .o (.t .o (.t .o (.x 0))))))))))) (OrOk.mk trivial ((OrOk.mk trivial ((OrOk.mk trivial ((OrOk.mk trivial ((OrOk.mk trivial ((OrOk.mk trivial ((OrOk.mk trivial ((OrOk.mk trivial ((OrOk.mk trivial ((OrOk.mk trivial (OrOk.x_mk (fun W0 M hnp => olaws_FnExactRowsMend_p0 (W0 := W0) (M := M) hnp)))))))))))))))))))))) (fg := (cutC ([], []) [] ([6], []))) (cutC_le _ _ _) (by
  intro σ k r h
  obtain ⟨hn, h1⟩ := rdN_some h
  obtain ⟨aA, hs1, h2⟩ := rdV_some h1
  obtain ⟨aB, hs2, h3⟩ := rdV_some h2
  obtain ⟨hs3, h4⟩ := rdT_some h3
  obtain ⟨w0, hs8, h5⟩ := rdV_some h4
  obtain ⟨w1, hs9, h6⟩ := rdV_some h5
  obtain ⟨hs10, h7⟩ := rdT_some h6
  obtain ⟨x1, hs11, h8⟩ := rdV_some h7
  obtain ⟨x2, hs12, h9⟩ := rdV_some h8
  obtain ⟨g0, hs13, h10⟩ := rdV_some h9
  obtain ⟨g1, hs14, h11⟩ := rdV_some h10
  obtain ⟨a, aT, hb3, h12⟩ := rdB_some h11
  obtain ⟨a1, x0, hb10, h13⟩ := rdB_some h12
  refine ⟨_, ?_, (elaws_FnExactRowsMend_p1 aA aB w0 w1 x1 x2 g0 g1 a aT a1 x0 k).trans h13⟩
  exact mkS_le hn ⟨hs1, hs2, hs3, hs8, hs9, hs10, hs11, hs12, hs13, hs14, trivial⟩ ⟨hb3, hb10, trivial⟩)
noncomputable def laws_FnExactRowsMend_p2 (aA : List (List (Int × Int × ByteArray))) (aB : List (List (Int × Int × ByteArray))) (w0 : List (Int × ByteArray × (List (Int × Int × ByteArray)) × (List (Int × Int × ByteArray)) × Int × ByteArray × (List (ByteArray × Int × Bool × Bool × Int × Int × ByteArray)) × List ByteArray × ByteArray × ByteArray)) (w1 : Bool) (x1 : List (List (Int × Int × ByteArray))) (aT : ByteArray × (List (ByteArray × Int × Bool × Bool × Int × Int × ByteArray)) × List ByteArray) (x0 : ByteArray × (List (ByteArray × Int × Bool × Bool × Int × Int × ByteArray)) × List ByteArray) (k0 : Bool → Res) : Res :=
  laws_toRowS aB fun (r : List (List (Int × Int × ByteArray))) =>
    impl_RowsMend x0 x1 r fun (r1 : List (Int × ByteArray × (List (Int × Int × ByteArray)) × (List (Int × Int × ByteArray)) × Int × ByteArray × (List (ByteArray × Int × Bool × Bool × Int × Int × ByteArray)) × List ByteArray × ByteArray × ByteArray)) (r2 : Bool) =>
      laws_eqStmtS r1 w0 fun (r3 : Bool) =>
        bif !r3 then
          k0 false
        else
          bif !(r2 == w1) then
            k0 false
          else
            laws_toTable aT fun (r4 : ByteArray × (List (ByteArray × Int × Bool × Bool × Int × Int × ByteArray)) × List ByteArray) =>
              laws_eqTable x0 r4 fun (r5 : Bool) =>
                bif !r5 then
                  k0 false
                else
                  laws_toRowS aA fun (r6 : List (List (Int × Int × ByteArray))) =>
                    laws_eqRowS x1 r6 fun (r7 : Bool) =>
                      bif !r7 then
                        k0 false
                      else
                        laws_toRowS aB fun (r8 : List (List (Int × Int × ByteArray))) =>
                          laws_eqRowS r r8 fun (r9 : Bool) =>
                            bif !r9 then
                              k0 false
                            else
                              laws_FnExactRowsMend_p1 aA aB w0 w1 x1 r r1 r2 aT x0 fun (t : Bool) =>
                                k0 t
noncomputable def xlaws_FnExactRowsMend_p2 : Node Unit := fun σ k => rdN σ 142 <| rdV σ 1 y11 false [.S] fun aA => rdV σ 2 y11 false [.S] fun aB => rdT σ 3 (.ptr ⟨true, 3, []⟩) <| rdV σ 8 y21 false [.O] fun w0 => rdV σ 9 .bool false [] fun w1 => rdT σ 10 (.ptr ⟨true, 10, []⟩) <| rdV σ 11 y11 false [.O] fun x1 => rdB σ 3 y9 [.S, .S] fun a aT => rdB σ 10 y9 [.O, .O] fun a1 x0 => laws_FnExactRowsMend_p2 aA aB w0 w1 x1 aT x0 (fun (t6 : Bool) => k .ret (mkS 142 142 [(6, .val ⟨.bool, false, t6, []⟩)] []))
theorem elaws_FnExactRowsMend_p2 (aA : List (List (Int × Int × ByteArray))) (aB : List (List (Int × Int × ByteArray))) (w0 : List (Int × ByteArray × (List (Int × Int × ByteArray)) × (List (Int × Int × ByteArray)) × Int × ByteArray × (List (ByteArray × Int × Bool × Bool × Int × Int × ByteArray)) × List ByteArray × ByteArray × ByteArray)) (w1 : Bool) (x1 : List (List (Int × Int × ByteArray))) (a : Bool) (aT : ByteArray × (List (ByteArray × Int × Bool × Bool × Int × Int × ByteArray)) × List ByteArray) (a1 : Bool) (x0 : ByteArray × (List (ByteArray × Int × Bool × Bool × Int × Int × ByteArray)) × List ByteArray) (k : Kont Unit) : codeC g_laws_FnExactRowsMend [xlaws_FnExactRowsMend_p0, xlaws_FnExactRowsMend_p1] (.t .o (.t .o (.t .o (.t .o (.t .o (.t .o (.x 1))))))) (Code.pr (Code.pr (Code.pr (Code.pr (Code.pr (Code.pr (Code.pr (Code.pr (Code.pr (Code.pr (Code.pr c_laws_FnExactRowsMend))))))))))) (mkS 142 142 [(1, .val ⟨y11, false, aA, [.S]⟩), (2, .val ⟨y11, false, aB, [.S]⟩), (3, .ptr ⟨true, 3, []⟩), (8, .val ⟨y21, false, w0, [.O]⟩), (9, .val ⟨.bool, false, w1, []⟩), (10, .ptr ⟨true, 10, []⟩), (11, .val ⟨y11, false, x1, [.O]⟩)] [(3, ⟨y9, a, aT, [.S, .S]⟩), (10, ⟨y9, a1, x0, [.O, .O]⟩)]) (fun e σ => k e ((cutC ([], []) [] ([6], [])) e σ)) = laws_FnExactRowsMend_p2 aA aB w0 w1 x1 aT x0 (fun (t6 : Bool) => k .ret (mkS 142 142 [(6, .val ⟨.bool, false, t6, []⟩)] [])) := by kernel_rfl
theorem olaws_FnExactRowsMend_p2 {W0 : Base} {M : Nat → Prop} (hnp : W0.np ≤ 0) : CodeOk Try.prog W0 M (Code.pr (Code.pr (Code.pr (Code.pr (Code.pr (Code.pr (Code.pr (Code.pr (Code.pr (Code.pr (Code.pr c_laws_FnExactRowsMend))))))))))) xlaws_FnExactRowsMend_p2 := node_ok (code_sound follows tysOk (calls_ok (fns_cons S_laws_szTable (fns_cons S_laws_szRowS (fns_cons S_spec_RowsMend (fns_cons S_laws_toTable (fns_cons S_laws_toRowS (fns_cons S_impl_RowsMend (fns_cons S_laws_eqStmtS (fns_cons S_laws_eqTable (fns_cons S_laws_eqRowS (fns_cons S_laws_markTable (fns_cons S_laws_markRowS (fns_cons S_laws_markStmtS (fns_cons S_laws_heldStmtS fns_nil)))))))))))))) hnp [xlaws_FnExactRowsMend_p0, xlaws_FnExactRowsMend_p1] ((Code.pr (Code.pr (Code.pr (Code.pr (Code.pr (Code.pr (Code.pr (Code.pr (Code.pr (Code.pr (Code.pr c_laws_FnExactRowsMend)))))))))))) (.t .o (.t .o (.t .o (.t .o (.t .o (.t .o (.x 1))))))) (OrOk.mk trivial ((OrOk.mk trivial ((OrOk.mk trivial ((OrOk.mk trivial ((OrOk.mk trivial ((OrOk.mk trivial (OrOk.x_mk (fun W0 M hnp => olaws_FnExactRowsMend_p1 (W0 := W0) (M := M) hnp)))))))))))))) (fg := (cutC ([], []) [] ([6], []))) (cutC_le _ _ _) (by
  intro σ k r h
  obtain ⟨hn, h1⟩ := rdN_some h
  obtain ⟨aA, hs1, h2⟩ := rdV_some h1
  obtain ⟨aB, hs2, h3⟩ := rdV_some h2
  obtain ⟨hs3, h4⟩ := rdT_some h3
  obtain ⟨w0, hs8, h5⟩ := rdV_some h4
  obtain ⟨w1, hs9, h6⟩ := rdV_some h5
  obtain ⟨hs10, h7⟩ := rdT_some h6
  obtain ⟨x1, hs11, h8⟩ := rdV_some h7
  obtain ⟨a, aT, hb3, h9⟩ := rdB_some h8
  obtain ⟨a1, x0, hb10, h10⟩ := rdB_some h9
  refine ⟨_, ?_, (elaws_FnExactRowsMend_p2 aA aB w0 w1 x1 a aT a1 x0 k).trans h10⟩
  exact mkS_le hn ⟨hs1, hs2, hs3, hs8, hs9, hs10, hs11, trivial⟩ ⟨hb3, hb10, trivial⟩)
noncomputable def laws_FnExactRowsMend (aT : ByteArray × (List (ByteArray × Int × Bool × Bool × Int × Int × ByteArray)) × List ByteArray) (aA : List (List (Int × Int × ByteArray))) (aB : List (List (Int × Int × ByteArray))) (k0 : Bool → Res) : Res :=
  laws_szTable aT 1048576 fun (r : Int) =>
    bif decide (r < 0) then
      k0 true
    else
      laws_szRowS aA r fun (r1 : Int) =>
        bif decide (r1 < 0) then
          k0 true
        else
          laws_szRowS aB r1 fun (r2 : Int) =>
            bif decide (r2 < 0) then
              k0 true
            else
              laws_toTable aT fun (r3 : ByteArray × (List (ByteArray × Int × Bool × Bool × Int × Int × ByteArray)) × List ByteArray) =>
                laws_toRowS aA fun (r4 : List (List (Int × Int × ByteArray))) =>
                  laws_toRowS aB fun (r5 : List (List (Int × Int × ByteArray))) =>
                    spec_RowsMend r3 r4 r5 fun (r6 : List (Int × ByteArray × (List (Int × Int × ByteArray)) × (List (Int × Int × ByteArray)) × Int × ByteArray × (List (ByteArray × Int × Bool × Bool × Int × Int × ByteArray)) × List ByteArray × ByteArray × ByteArray)) (r7 : Bool) =>
                      laws_toTable aT fun (r8 : ByteArray × (List (ByteArray × Int × Bool × Bool × Int × Int × ByteArray)) × List ByteArray) =>
                        laws_toRowS aA fun (r9 : List (List (Int × Int × ByteArray))) =>
                          laws_FnExactRowsMend_p2 aA aB r6 r7 r9 aT r8 fun (t : Bool) =>
                            k0 t
noncomputable def s_laws_FnExactRowsMend : Sig Unit := ⟨[.borrow y9 true, .borrow y11 false, .borrow y11 false], [false], fun vals ext k => av vals y9 fun aT vals => av vals y11 fun aA vals => av vals y11 fun aB vals => nl vals <| nl ext <| laws_FnExactRowsMend aT aA aB (fun (r0 : Bool) => k [⟨.bool, false, r0, []⟩] [] [])⟩
theorem E_laws_FnExactRowsMend (aT : ByteArray × (List (ByteArray × Int × Bool × Bool × Int × Int × ByteArray)) × List ByteArray) (a_aT : Bool) (t_aT : List Tag) (aA : List (List (Int × Int × ByteArray))) (a_aA : Bool) (t_aA : List Tag) (aB : List (List (Int × Int × ByteArray))) (a_aB : Bool) (t_aB : List Tag) (k : List TVal → List TVal → List TVal → Res) : funC g_laws_FnExactRowsMend [xlaws_FnExactRowsMend_p0, xlaws_FnExactRowsMend_p1, xlaws_FnExactRowsMend_p2] (.t .o (.t .o (.t .o (.t .o (.t .o (.t .o (.t .o (.t .o (.t .o (.t .o (.t .o (.x 2)))))))))))) false Try.f6 [.borrow y9 true, .borrow y11 false, .borrow y11 false] [false] [⟨y9, a_aT, aT, t_aT⟩, ⟨y11, a_aA, aA, t_aA⟩, ⟨y11, a_aB, aB, t_aB⟩] [] k = laws_FnExactRowsMend aT aA aB (fun (r0 : Bool) => k [⟨.bool, false, r0, []⟩] [] []) := by kernel_rfl
theorem S_laws_FnExactRowsMend : Sound Try.prog 6 s_laws_FnExactRowsMend := sound_of (Γ := g_laws_FnExactRowsMend) (X := [xlaws_FnExactRowsMend_p0, xlaws_FnExactRowsMend_p1, xlaws_FnExactRowsMend_p2]) (ht := (.t .o (.t .o (.t .o (.t .o (.t .o (.t .o (.t .o (.t .o (.t .o (.t .o (.t .o (.x 2))))))))))))) (fz := false) (c := c_laws_FnExactRowsMend) follows tysOk (fns_cons S_laws_szTable (fns_cons S_laws_szRowS (fns_cons S_spec_RowsMend (fns_cons S_laws_toTable (fns_cons S_laws_toRowS (fns_cons S_impl_RowsMend (fns_cons S_laws_eqStmtS (fns_cons S_laws_eqTable (fns_cons S_laws_eqRowS (fns_cons S_laws_markTable (fns_cons S_laws_markRowS (fns_cons S_laws_markStmtS (fns_cons S_laws_heldStmtS fns_nil))))))))))))) (OrOk.mk trivial ((OrOk.mk trivial ((OrOk.mk trivial ((OrOk.mk trivial ((OrOk.mk trivial ((OrOk.mk trivial ((OrOk.mk trivial ((OrOk.mk trivial ((OrOk.mk trivial ((OrOk.mk trivial ((OrOk.mk trivial (OrOk.x_mk (fun W0 M hnp => olaws_FnExactRowsMend_p2 (W0 := W0) (M := M) hnp))))))))))))))))))))))) Try.func6 (by kernel_rfl) (by kernel_rfl) (by decide) (by
  intro vals ext k r h
  obtain ⟨aT, a_aT, t_aT, vals, rfl, h1⟩ := av_some h
  obtain ⟨aA, a_aA, t_aA, vals, rfl, h2⟩ := av_some h1
  obtain ⟨aB, a_aB, t_aB, vals, rfl, h3⟩ := av_some h2
  obtain ⟨rfl, h4⟩ := nl_some h3
  obtain ⟨rfl, h5⟩ := nl_some h4
  exact (E_laws_FnExactRowsMend aT a_aT t_aT aA a_aA t_aA aB a_aB t_aB k).trans h5)
end Go.PI.G
