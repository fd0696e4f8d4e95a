/-
  Printed: what the functions compute. No conditions.
-/
import Derived.Test.YtcapkiofiipamaaGR0
import Derived.Test.YtcapkiofiipamaaGRTColS
import Derived.Test.YtcapkiofiipamaaGRTStmt
import Derived.Test.YtcapkiofiipamaaGRTStringS
import Derived.Test.YtcapkiofiipamaaGRTText
import Derived.Test.YtcapkiofiipamaaGRTValS
set_option linter.unusedVariables false
set_option maxRecDepth 100000
namespace Go.PI.G
open Go Go.PI Go.Proofs

/-! ### 35 loop.example/g00462/laws.eqStmtS -/
noncomputable def c_laws_eqStmtS : Code := (Try.f35.body).getD .skip
noncomputable def g_laws_eqStmtS : Env Unit := ⟨tys, [(56, s_laws_eqStmt)], 0⟩
noncomputable def laws_eqStmtS_l0_r (a : List (Int × ByteArray × (List (Int × Int × ByteArray)) × (List (Int × Int × ByteArray)) × Int × ByteArray × (List (ByteArray × Int × Bool × Bool × Int × Int × ByteArray)) × List ByteArray × ByteArray × ByteArray)) (b : List (Int × ByteArray × (List (Int × Int × ByteArray)) × (List (Int × Int × ByteArray)) × Int × ByteArray × (List (ByteArray × Int × Bool × Bool × Int × Int × ByteArray)) × List ByteArray × ByteArray × ByteArray)) (i : Int) (rec : Int → Res) (k0 : Unit → Res) (k1 : Unit → Res) : Res :=
  bif decide (i < (nI (List.length a))) then
    bif inb i (List.length a) then
      bif inb i (List.length b) then
        laws_eqStmt (nth (0, eS, [], [], 0, eS, [], [], eS, eS) a i) (nth (0, eS, [], [], 0, eS, [], [], eS, eS) b i) fun (r : Bool) =>
          bif !r then
            k1 ()
          else
            rec (wi64 (i + 1))
      else none
    else none
  else
    k0 ()
noncomputable def laws_eqStmtS_l0_s (a : List (Int × ByteArray × (List (Int × Int × ByteArray)) × (List (Int × Int × ByteArray)) × Int × ByteArray × (List (ByteArray × Int × Bool × Bool × Int × Int × ByteArray)) × List ByteArray × ByteArray × ByteArray)) (b : List (Int × ByteArray × (List (Int × Int × ByteArray)) × (List (Int × Int × ByteArray)) × Int × ByteArray × (List (ByteArray × Int × Bool × Bool × Int × Int × ByteArray)) × List ByteArray × ByteArray × ByteArray)) : Int → (Int → Res) → ((Unit → Res) × (Unit → Res)) → Res := fun v rec q => laws_eqStmtS_l0_r a b v (fun i => rec (i)) q.1 q.2
noncomputable def laws_eqStmtS_l0 (a : List (Int × ByteArray × (List (Int × Int × ByteArray)) × (List (Int × Int × ByteArray)) × Int × ByteArray × (List (ByteArray × Int × Bool × Bool × Int × Int × ByteArray)) × List ByteArray × ByteArray × ByteArray)) (b : List (Int × ByteArray × (List (Int × Int × ByteArray)) × (List (Int × Int × ByteArray)) × Int × ByteArray × (List (ByteArray × Int × Bool × Bool × Int × Int × ByteArray)) × List ByteArray × ByteArray × ByteArray)) (n : Nat) (i : Int) (k0 : Unit → Res) (k1 : Unit → Res) : Res := iter (laws_eqStmtS_l0_s a b) n (i) (k0, k1)
noncomputable def xlaws_eqStmtS_l0 : Node Unit := fun σ k => rdN σ 27 <| rdV σ 0 y21 false [.S] fun a => rdV σ 1 y21 false [.S] fun b => rdV σ 5 (.int .i64) false [] fun i => laws_eqStmtS_l0 a b FUEL i (fun (_ : Unit) => k (.exit 0) (mkS 27 27 [] [])) (fun (_ : Unit) => k .ret (mkS 27 27 [(4, .val ⟨.bool, false, false, []⟩)] []))
theorem elaws_eqStmtS_l0 (a : List (Int × ByteArray × (List (Int × Int × ByteArray)) × (List (Int × Int × ByteArray)) × Int × ByteArray × (List (ByteArray × Int × Bool × Bool × Int × Int × ByteArray)) × List ByteArray × ByteArray × ByteArray)) (b : List (Int × ByteArray × (List (Int × Int × ByteArray)) × (List (Int × Int × ByteArray)) × Int × ByteArray × (List (ByteArray × Int × Bool × Bool × Int × Int × ByteArray)) × List ByteArray × ByteArray × ByteArray)) (n : Nat) (v : Int) (k : Kont Unit) : loopC (codeC g_laws_eqStmtS [] .o (Code.pl (Code.pl (Code.pr (Code.pl (Code.pr (Code.pr c_laws_eqStmtS))))))) (fun σ => σ.forget [0, 1, 5] []) (cutC ([], []) [(0, [], [])] ([4], [])) n (mkS 27 27 [(0, .val ⟨y21, false, a, [.S]⟩), (1, .val ⟨y21, false, b, [.S]⟩), (5, .val ⟨(.int .i64), false, v, []⟩)] []) k = iter (laws_eqStmtS_l0_s a b) n v ((fun (k : Kont Unit) => (((fun (_ : Unit) => k (.exit 0) (mkS 27 27 [] [])), (fun (_ : Unit) => k .ret (mkS 27 27 [(4, .val ⟨.bool, false, false, []⟩)] []))) : (Unit → Res) × (Unit → Res))) k) := loop_eq (fun v : Int => (mkS 27 27 [(0, .val ⟨y21, false, a, [.S]⟩), (1, .val ⟨y21, false, b, [.S]⟩), (5, .val ⟨(.int .i64), false, v, []⟩)] [])) (laws_eqStmtS_l0_s a b) (fun (k : Kont Unit) => (((fun (_ : Unit) => k (.exit 0) (mkS 27 27 [] [])), (fun (_ : Unit) => k .ret (mkS 27 27 [(4, .val ⟨.bool, false, false, []⟩)] []))) : (Unit → Res) × (Unit → Res))) (fun v rec k => by kernel_rfl) n v k
theorem olaws_eqStmtS_l0 {W0 : Base} {M : Nat → Prop} (hnp : W0.np ≤ 0) : CodeOk Try.prog W0 M (Code.pl (Code.pr (Code.pl (Code.pr (Code.pr c_laws_eqStmtS))))) xlaws_eqStmtS_l0 := show CodeOk Try.prog W0 M (Code.loop (Code.pl (Code.pl (Code.pr (Code.pl (Code.pr (Code.pr c_laws_eqStmtS))))))) xlaws_eqStmtS_l0 from loop_ok (code_sound follows tysOk (calls_ok (fns_cons S_laws_eqStmt fns_nil)) hnp [] (Code.pl (Code.pl (Code.pr (Code.pl (Code.pr (Code.pr c_laws_eqStmtS)))))) .o trivial) (ks := [0, 1, 5]) (bs := []) (fX := (cutC ([], []) [(0, [], [])] ([4], []))) (cutC_le _ _ _) FUEL (by
  intro σ k r h
  obtain ⟨hn, h1⟩ := rdN_some h
  obtain ⟨a, hs0, h2⟩ := rdV_some h1
  obtain ⟨b, hs1, h3⟩ := rdV_some h2
  obtain ⟨i, hs5, h4⟩ := rdV_some h3
  refine ⟨_, ?_, (elaws_eqStmtS_l0 a b FUEL (i) k).trans h4⟩
  exact mkS_le hn ⟨hs0, hs1, hs5, trivial⟩ trivial)
noncomputable def laws_eqStmtS (a : List (Int × ByteArray × (List (Int × Int × ByteArray)) × (List (Int × Int × ByteArray)) × Int × ByteArray × (List (ByteArray × Int × Bool × Bool × Int × Int × ByteArray)) × List ByteArray × ByteArray × ByteArray)) (b : List (Int × ByteArray × (List (Int × Int × ByteArray)) × (List (Int × Int × ByteArray)) × Int × ByteArray × (List (ByteArray × Int × Bool × Bool × Int × Int × ByteArray)) × List ByteArray × ByteArray × ByteArray)) (k0 : Bool → Res) : Res :=
  bif ((nI (List.length a)) != (nI (List.length b))) then
    k0 false
  else
    laws_eqStmtS_l0 a b FUEL 0
      (fun (_ : Unit) =>
        k0 true)
      (fun (_ : Unit) =>
        k0 false)
noncomputable def s_laws_eqStmtS : Sig Unit := ⟨[.look y21 false, .look y21 false], [false], fun vals ext k => av vals y21 fun a vals => av vals y21 fun b vals => nl vals <| nl ext <| laws_eqStmtS a b (fun (r0 : Bool) => k [⟨.bool, false, r0, []⟩] [] [])⟩
theorem E_laws_eqStmtS (a : List (Int × ByteArray × (List (Int × Int × ByteArray)) × (List (Int × Int × ByteArray)) × Int × ByteArray × (List (ByteArray × Int × Bool × Bool × Int × Int × ByteArray)) × List ByteArray × ByteArray × ByteArray)) (a_a : Bool) (t_a : List Tag) (b : List (Int × ByteArray × (List (Int × Int × ByteArray)) × (List (Int × Int × ByteArray)) × Int × ByteArray × (List (ByteArray × Int × Bool × Bool × Int × Int × ByteArray)) × List ByteArray × ByteArray × ByteArray)) (a_b : Bool) (t_b : List Tag) (k : List TVal → List TVal → List TVal → Res) : funC g_laws_eqStmtS [xlaws_eqStmtS_l0] (.t .o (.t .o (.t (.t .o (.t (.x 0) .o)) .o))) false Try.f35 [.look y21 false, .look y21 false] [false] [⟨y21, a_a, a, t_a⟩, ⟨y21, a_b, b, t_b⟩] [] k = laws_eqStmtS a b (fun (r0 : Bool) => k [⟨.bool, false, r0, []⟩] [] []) := by kernel_rfl
theorem S_laws_eqStmtS : Sound Try.prog 35 s_laws_eqStmtS := sound_of (Γ := g_laws_eqStmtS) (X := [xlaws_eqStmtS_l0]) (ht := (.t .o (.t .o (.t (.t .o (.t (.x 0) .o)) .o)))) (fz := false) (c := c_laws_eqStmtS) follows tysOk (fns_cons S_laws_eqStmt fns_nil) (OrOk.mk trivial ((OrOk.mk trivial ((OrOk.mk ((OrOk.mk trivial ((OrOk.mk (OrOk.x_mk (fun W0 M hnp => olaws_eqStmtS_l0 (W0 := W0) (M := M) hnp)) trivial)))) trivial))))) Try.func35 (by kernel_rfl) (by kernel_rfl) (by decide) (by
  intro vals ext k r h
  obtain ⟨a, a_a, t_a, vals, rfl, h1⟩ := av_some h
  obtain ⟨b, a_b, t_b, vals, rfl, h2⟩ := av_some h1
  obtain ⟨rfl, h3⟩ := nl_some h2
  obtain ⟨rfl, h4⟩ := nl_some h3
  exact (E_laws_eqStmtS a a_a t_a b a_b t_b k).trans h4)

/-! ### 40 loop.example/g00462/laws.markStmtS -/
noncomputable def c_laws_markStmtS : Code := (Try.f40.body).getD .skip
noncomputable def g_laws_markStmtS : Env Unit := ⟨tys, [(78, s_laws_markStringS), (97, s_laws_markValS), (111, s_laws_markColS), (112, s_laws_markText)], 1⟩
noncomputable def laws_markStmtS_p0 (a : List (Int × ByteArray × (List (Int × Int × ByteArray)) × (List (Int × Int × ByteArray)) × Int × ByteArray × (List (ByteArray × Int × Bool × Bool × Int × Int × ByteArray)) × List ByteArray × ByteArray × ByteArray)) (k_ : Int) (i : Int) (k0 : (List (Int × ByteArray × (List (Int × Int × ByteArray)) × (List (Int × Int × ByteArray)) × Int × ByteArray × (List (ByteArray × Int × Bool × Bool × Int × Int × ByteArray)) × List ByteArray × ByteArray × ByteArray)) → Int → Res) : Res :=
  bif inb i (List.length a) then
    laws_markValS (nth (0, eS, [], [], 0, eS, [], [], eS, eS) a i).2.2.1 k_ fun (r : Int) (a1 : List (Int × Int × ByteArray)) =>
      k0 (upd a i ((nth (0, eS, [], [], 0, eS, [], [], eS, eS) a i).1, (nth (0, eS, [], [], 0, eS, [], [], eS, eS) a i).2.1, a1, (nth (0, eS, [], [], 0, eS, [], [], eS, eS) a i).2.2.2)) r
  else none
noncomputable def xlaws_markStmtS_p0 : Node Unit := fun σ k => rdN σ 94 <| rdV σ 0 y21 false [.O] fun a => rdV σ 1 (.int .i64) false [] fun k_ => rdV σ 5 (.int .i64) false [] fun i => laws_markStmtS_p0 a k_ i (fun (a2 : List (Int × ByteArray × (List (Int × Int × ByteArray)) × (List (Int × Int × ByteArray)) × Int × ByteArray × (List (ByteArray × Int × Bool × Bool × Int × Int × ByteArray)) × List ByteArray × ByteArray × ByteArray)) (k_1 : Int) => k .normal (mkS 94 94 [(0, .val ⟨y21, false, a2, [.O]⟩), (1, .val ⟨(.int .i64), false, k_1, []⟩), (5, .val ⟨(.int .i64), false, i, []⟩)] []))
theorem elaws_markStmtS_p0 (a : List (Int × ByteArray × (List (Int × Int × ByteArray)) × (List (Int × Int × ByteArray)) × Int × ByteArray × (List (ByteArray × Int × Bool × Bool × Int × Int × ByteArray)) × List ByteArray × ByteArray × ByteArray)) (k_ : Int) (i : Int) (k : Kont Unit) : codeC g_laws_markStmtS [] .o (Code.pl (Code.pr (Code.pr (Code.pr (Code.pr (Code.pl (Code.pl (Code.pr (Code.pl (Code.pl (Code.pr (Code.pl (Code.pr c_laws_markStmtS))))))))))))) (mkS 94 94 [(0, .val ⟨y21, false, a, [.O]⟩), (1, .val ⟨(.int .i64), false, k_, []⟩), (5, .val ⟨(.int .i64), false, i, []⟩)] []) (fun e σ => k e ((cutC ([0, 1, 5], []) [] ([], [])) e σ)) = laws_markStmtS_p0 a k_ i (fun (a2 : List (Int × ByteArray × (List (Int × Int × ByteArray)) × (List (Int × Int × ByteArray)) × Int × ByteArray × (List (ByteArray × Int × Bool × Bool × Int × Int × ByteArray)) × List ByteArray × ByteArray × ByteArray)) (k_1 : Int) => k .normal (mkS 94 94 [(0, .val ⟨y21, false, a2, [.O]⟩), (1, .val ⟨(.int .i64), false, k_1, []⟩), (5, .val ⟨(.int .i64), false, i, []⟩)] [])) := by kernel_rfl
theorem olaws_markStmtS_p0 {W0 : Base} {M : Nat → Prop} (hnp : W0.np ≤ 1) : CodeOk Try.prog W0 M (Code.pl (Code.pr (Code.pr (Code.pr (Code.pr (Code.pl (Code.pl (Code.pr (Code.pl (Code.pl (Code.pr (Code.pl (Code.pr c_laws_markStmtS))))))))))))) xlaws_markStmtS_p0 := node_ok (code_sound follows tysOk (calls_ok (fns_cons S_laws_markStringS (fns_cons S_laws_markValS (fns_cons S_laws_markColS (fns_cons S_laws_markText fns_nil))))) hnp [] ((Code.pl (Code.pr (Code.pr (Code.pr (Code.pr (Code.pl (Code.pl (Code.pr (Code.pl (Code.pl (Code.pr (Code.pl (Code.pr c_laws_markStmtS)))))))))))))) .o trivial) (fg := (cutC ([0, 1, 5], []) [] ([], []))) (cutC_le _ _ _) (by
  intro σ k r h
  obtain ⟨hn, h1⟩ := rdN_some h
  obtain ⟨a, hs0, h2⟩ := rdV_some h1
  obtain ⟨k_, hs1, h3⟩ := rdV_some h2
  obtain ⟨i, hs5, h4⟩ := rdV_some h3
  refine ⟨_, ?_, (elaws_markStmtS_p0 a k_ i k).trans h4⟩
  exact mkS_le hn ⟨hs0, hs1, hs5, trivial⟩ trivial)
noncomputable def laws_markStmtS_p1 (a : List (Int × ByteArray × (List (Int × Int × ByteArray)) × (List (Int × Int × ByteArray)) × Int × ByteArray × (List (ByteArray × Int × Bool × Bool × Int × Int × ByteArray)) × List ByteArray × ByteArray × ByteArray)) (k_ : Int) (i : Int) (k0 : (List (Int × ByteArray × (List (Int × Int × ByteArray)) × (List (Int × Int × ByteArray)) × Int × ByteArray × (List (ByteArray × Int × Bool × Bool × Int × Int × ByteArray)) × List ByteArray × ByteArray × ByteArray)) → Res) : Res :=
  bif inb i (List.length a) then
    k0 (upd a i ((nth (0, eS, [], [], 0, eS, [], [], eS, eS) a i).1, (nth (0, eS, [], [], 0, eS, [], [], eS, eS) a i).2.1, (nth (0, eS, [], [], 0, eS, [], [], eS, eS) a i).2.2.1, (nth (0, eS, [], [], 0, eS, [], [], eS, eS) a i).2.2.2.1, k_, (nth (0, eS, [], [], 0, eS, [], [], eS, eS) a i).2.2.2.2.2))
  else none
noncomputable def xlaws_markStmtS_p1 : Node Unit := fun σ k => rdN σ 94 <| rdV σ 0 y21 false [.O] fun a => rdV σ 1 (.int .i64) false [] fun k_ => rdV σ 5 (.int .i64) false [] fun i => laws_markStmtS_p1 a k_ i (fun (a1 : List (Int × ByteArray × (List (Int × Int × ByteArray)) × (List (Int × Int × ByteArray)) × Int × ByteArray × (List (ByteArray × Int × Bool × Bool × Int × Int × ByteArray)) × List ByteArray × ByteArray × ByteArray)) => k .normal (mkS 94 94 [(0, .val ⟨y21, false, a1, [.O]⟩), (1, .val ⟨(.int .i64), false, k_, []⟩), (5, .val ⟨(.int .i64), false, i, []⟩)] []))
theorem elaws_markStmtS_p1 (a : List (Int × ByteArray × (List (Int × Int × ByteArray)) × (List (Int × Int × ByteArray)) × Int × ByteArray × (List (ByteArray × Int × Bool × Bool × Int × Int × ByteArray)) × List ByteArray × ByteArray × ByteArray)) (k_ : Int) (i : Int) (k : Kont Unit) : codeC g_laws_markStmtS [xlaws_markStmtS_p0] .o (Code.pl (Code.pr (Code.pr (Code.pr (Code.pr (Code.pr (Code.pr (Code.pl (Code.pl (Code.pr (Code.pl (Code.pl (Code.pr (Code.pl (Code.pr c_laws_markStmtS))))))))))))))) (mkS 94 94 [(0, .val ⟨y21, false, a, [.O]⟩), (1, .val ⟨(.int .i64), false, k_, []⟩), (5, .val ⟨(.int .i64), false, i, []⟩)] []) (fun e σ => k e ((cutC ([0, 1, 5], []) [] ([], [])) e σ)) = laws_markStmtS_p1 a k_ i (fun (a1 : List (Int × ByteArray × (List (Int × Int × ByteArray)) × (List (Int × Int × ByteArray)) × Int × ByteArray × (List (ByteArray × Int × Bool × Bool × Int × Int × ByteArray)) × List ByteArray × ByteArray × ByteArray)) => k .normal (mkS 94 94 [(0, .val ⟨y21, false, a1, [.O]⟩), (1, .val ⟨(.int .i64), false, k_, []⟩), (5, .val ⟨(.int .i64), false, i, []⟩)] [])) := by kernel_rfl
theorem olaws_markStmtS_p1 {W0 : Base} {M : Nat → Prop} (hnp : W0.np ≤ 1) : CodeOk Try.prog W0 M (Code.pl (Code.pr (Code.pr (Code.pr (Code.pr (Code.pr (Code.pr (Code.pl (Code.pl (Code.pr (Code.pl (Code.pl (Code.pr (Code.pl (Code.pr c_laws_markStmtS))))))))))))))) xlaws_markStmtS_p1 := node_ok (code_sound follows tysOk (calls_ok (fns_cons S_laws_markStringS (fns_cons S_laws_markValS (fns_cons S_laws_markColS (fns_cons S_laws_markText fns_nil))))) hnp [xlaws_markStmtS_p0] ((Code.pl (Code.pr (Code.pr (Code.pr (Code.pr (Code.pr (Code.pr (Code.pl (Code.pl (Code.pr (Code.pl (Code.pl (Code.pr (Code.pl (Code.pr c_laws_markStmtS)))))))))))))))) .o trivial) (fg := (cutC ([0, 1, 5], []) [] ([], []))) (cutC_le _ _ _) (by
  intro σ k r h
  obtain ⟨hn, h1⟩ := rdN_some h
  obtain ⟨a, hs0, h2⟩ := rdV_some h1
  obtain ⟨k_, hs1, h3⟩ := rdV_some h2
  obtain ⟨i, hs5, h4⟩ := rdV_some h3
  refine ⟨_, ?_, (elaws_markStmtS_p1 a k_ i k).trans h4⟩
  exact mkS_le hn ⟨hs0, hs1, hs5, trivial⟩ trivial)
noncomputable def laws_markStmtS_p2 (a : List (Int × ByteArray × (List (Int × Int × ByteArray)) × (List (Int × Int × ByteArray)) × Int × ByteArray × (List (ByteArray × Int × Bool × Bool × Int × Int × ByteArray)) × List ByteArray × ByteArray × ByteArray)) (k_ : Int) (i : Int) (k0 : (List (Int × ByteArray × (List (Int × Int × ByteArray)) × (List (Int × Int × ByteArray)) × Int × ByteArray × (List (ByteArray × Int × Bool × Bool × Int × Int × ByteArray)) × List ByteArray × ByteArray × ByteArray)) → Int → Res) : Res :=
  bif inb i (List.length a) then
    laws_markColS (nth (0, eS, [], [], 0, eS, [], [], eS, eS) a i).2.2.2.2.2.2.1 k_ fun (r : Int) (a1 : List (ByteArray × Int × Bool × Bool × Int × Int × ByteArray)) =>
      k0 (upd a i ((nth (0, eS, [], [], 0, eS, [], [], eS, eS) a i).1, (nth (0, eS, [], [], 0, eS, [], [], eS, eS) a i).2.1, (nth (0, eS, [], [], 0, eS, [], [], eS, eS) a i).2.2.1, (nth (0, eS, [], [], 0, eS, [], [], eS, eS) a i).2.2.2.1, (nth (0, eS, [], [], 0, eS, [], [], eS, eS) a i).2.2.2.2.1, (nth (0, eS, [], [], 0, eS, [], [], eS, eS) a i).2.2.2.2.2.1, a1, (nth (0, eS, [], [], 0, eS, [], [], eS, eS) a i).2.2.2.2.2.2.2)) r
  else none
noncomputable def xlaws_markStmtS_p2 : Node Unit := fun σ k => rdN σ 94 <| rdV σ 0 y21 false [.O] fun a => rdV σ 1 (.int .i64) false [] fun k_ => rdV σ 5 (.int .i64) false [] fun i => laws_markStmtS_p2 a k_ i (fun (a2 : List (Int × ByteArray × (List (Int × Int × ByteArray)) × (List (Int × Int × ByteArray)) × Int × ByteArray × (List (ByteArray × Int × Bool × Bool × Int × Int × ByteArray)) × List ByteArray × ByteArray × ByteArray)) (k_1 : Int) => k .normal (mkS 94 94 [(0, .val ⟨y21, false, a2, [.O]⟩), (1, .val ⟨(.int .i64), false, k_1, []⟩), (5, .val ⟨(.int .i64), false, i, []⟩)] []))
theorem elaws_markStmtS_p2 (a : List (Int × ByteArray × (List (Int × Int × ByteArray)) × (List (Int × Int × ByteArray)) × Int × ByteArray × (List (ByteArray × Int × Bool × Bool × Int × Int × ByteArray)) × List ByteArray × ByteArray × ByteArray)) (k_ : Int) (i : Int) (k : Kont Unit) : codeC g_laws_markStmtS [xlaws_markStmtS_p0, xlaws_markStmtS_p1] .o (Code.pl (Code.pr (Code.pr (Code.pr (Code.pr (Code.pr (Code.pr (Code.pr (Code.pr (Code.pr (Code.pr (Code.pl (Code.pl (Code.pr (Code.pl (Code.pl (Code.pr (Code.pl (Code.pr c_laws_markStmtS))))))))))))))))))) (mkS 94 94 [(0, .val ⟨y21, false, a, [.O]⟩), (1, .val ⟨(.int .i64), false, k_, []⟩), (5, .val ⟨(.int .i64), false, i, []⟩)] []) (fun e σ => k e ((cutC ([0, 1, 5], []) [] ([], [])) e σ)) = laws_markStmtS_p2 a k_ i (fun (a2 : List (Int × ByteArray × (List (Int × Int × ByteArray)) × (List (Int × Int × ByteArray)) × Int × ByteArray × (List (ByteArray × Int × Bool × Bool × Int × Int × ByteArray)) × List ByteArray × ByteArray × ByteArray)) (k_1 : Int) => k .normal (mkS 94 94 [(0, .val ⟨y21, false, a2, [.O]⟩), (1, .val ⟨(.int .i64), false, k_1, []⟩), (5, .val ⟨(.int .i64), false, i, []⟩)] [])) := by kernel_rfl
theorem olaws_markStmtS_p2 {W0 : Base} {M : Nat → Prop} (hnp : W0.np ≤ 1) : CodeOk Try.prog W0 M (Code.pl (Code.pr (Code.pr (Code.pr (Code.pr (Code.pr (Code.pr (Code.pr (Code.pr (Code.pr (Code.pr (Code.pl (Code.pl (Code.pr (Code.pl (Code.pl (Code.pr (Code.pl (Code.pr c_laws_markStmtS))))))))))))))))))) xlaws_markStmtS_p2 := node_ok (code_sound follows tysOk (calls_ok (fns_cons S_laws_markStringS (fns_cons S_laws_markValS (fns_cons S_laws_markColS (fns_cons S_laws_markText fns_nil))))) hnp [xlaws_markStmtS_p0, xlaws_markStmtS_p1] ((Code.pl (Code.pr (Code.pr (Code.pr (Code.pr (Code.pr (Code.pr (Code.pr (Code.pr (Code.pr (Code.pr (Code.pl (Code.pl (Code.pr (Code.pl (Code.pl (Code.pr (Code.pl (Code.pr c_laws_markStmtS)))))))))))))))))))) .o trivial) (fg := (cutC ([0, 1, 5], []) [] ([], []))) (cutC_le _ _ _) (by
  intro σ k r h
  obtain ⟨hn, h1⟩ := rdN_some h
  obtain ⟨a, hs0, h2⟩ := rdV_some h1
  obtain ⟨k_, hs1, h3⟩ := rdV_some h2
  obtain ⟨i, hs5, h4⟩ := rdV_some h3
  refine ⟨_, ?_, (elaws_markStmtS_p2 a k_ i k).trans h4⟩
  exact mkS_le hn ⟨hs0, hs1, hs5, trivial⟩ trivial)
noncomputable def laws_markStmtS_p3 (a : List (Int × ByteArray × (List (Int × Int × ByteArray)) × (List (Int × Int × ByteArray)) × Int × ByteArray × (List (ByteArray × Int × Bool × Bool × Int × Int × ByteArray)) × List ByteArray × ByteArray × ByteArray)) (k_ : Int) (i : Int) (k0 : (List (Int × ByteArray × (List (Int × Int × ByteArray)) × (List (Int × Int × ByteArray)) × Int × ByteArray × (List (ByteArray × Int × Bool × Bool × Int × Int × ByteArray)) × List ByteArray × ByteArray × ByteArray)) → Res) : Res :=
  laws_markText k_ fun (r : ByteArray) =>
    bif inb i (List.length a) then
      k0 (upd a i ((nth (0, eS, [], [], 0, eS, [], [], eS, eS) a i).1, (nth (0, eS, [], [], 0, eS, [], [], eS, eS) a i).2.1, (nth (0, eS, [], [], 0, eS, [], [], eS, eS) a i).2.2.1, (nth (0, eS, [], [], 0, eS, [], [], eS, eS) a i).2.2.2.1, (nth (0, eS, [], [], 0, eS, [], [], eS, eS) a i).2.2.2.2.1, (nth (0, eS, [], [], 0, eS, [], [], eS, eS) a i).2.2.2.2.2.1, (nth (0, eS, [], [], 0, eS, [], [], eS, eS) a i).2.2.2.2.2.2.1, (nth (0, eS, [], [], 0, eS, [], [], eS, eS) a i).2.2.2.2.2.2.2.1, r, (nth (0, eS, [], [], 0, eS, [], [], eS, eS) a i).2.2.2.2.2.2.2.2.2))
    else none
noncomputable def xlaws_markStmtS_p3 : Node Unit := fun σ k => rdN σ 94 <| rdV σ 0 y21 false [.O] fun a => rdV σ 1 (.int .i64) false [] fun k_ => rdV σ 5 (.int .i64) false [] fun i => laws_markStmtS_p3 a k_ i (fun (a1 : List (Int × ByteArray × (List (Int × Int × ByteArray)) × (List (Int × Int × ByteArray)) × Int × ByteArray × (List (ByteArray × Int × Bool × Bool × Int × Int × ByteArray)) × List ByteArray × ByteArray × ByteArray)) => k .normal (mkS 94 94 [(0, .val ⟨y21, false, a1, [.O]⟩), (1, .val ⟨(.int .i64), false, k_, []⟩), (5, .val ⟨(.int .i64), false, i, []⟩)] []))
theorem elaws_markStmtS_p3 (a : List (Int × ByteArray × (List (Int × Int × ByteArray)) × (List (Int × Int × ByteArray)) × Int × ByteArray × (List (ByteArray × Int × Bool × Bool × Int × Int × ByteArray)) × List ByteArray × ByteArray × ByteArray)) (k_ : Int) (i : Int) (k : Kont Unit) : codeC g_laws_markStmtS [xlaws_markStmtS_p0, xlaws_markStmtS_p1, xlaws_markStmtS_p2] .o (Code.pl (Code.pr (Code.pr (Code.pr (Code.pr (Code.pr (Code.pr (Code.pr (Code.pr (Code.pr (Code.pr (Code.pr (Code.pr (Code.pl (Code.pl (Code.pr (Code.pl (Code.pl (Code.pr (Code.pl (Code.pr c_laws_markStmtS))))))))))))))))))))) (mkS 94 94 [(0, .val ⟨y21, false, a, [.O]⟩), (1, .val ⟨(.int .i64), false, k_, []⟩), (5, .val ⟨(.int .i64), false, i, []⟩)] []) (fun e σ => k e ((cutC ([0, 1, 5], []) [] ([], [])) e σ)) = laws_markStmtS_p3 a k_ i (fun (a1 : List (Int × ByteArray × (List (Int × Int × ByteArray)) × (List (Int × Int × ByteArray)) × Int × ByteArray × (List (ByteArray × Int × Bool × Bool × Int × Int × ByteArray)) × List ByteArray × ByteArray × ByteArray)) => k .normal (mkS 94 94 [(0, .val ⟨y21, false, a1, [.O]⟩), (1, .val ⟨(.int .i64), false, k_, []⟩), (5, .val ⟨(.int .i64), false, i, []⟩)] [])) := by kernel_rfl
theorem olaws_markStmtS_p3 {W0 : Base} {M : Nat → Prop} (hnp : W0.np ≤ 1) : CodeOk Try.prog W0 M (Code.pl (Code.pr (Code.pr (Code.pr (Code.pr (Code.pr (Code.pr (Code.pr (Code.pr (Code.pr (Code.pr (Code.pr (Code.pr (Code.pl (Code.pl (Code.pr (Code.pl (Code.pl (Code.pr (Code.pl (Code.pr c_laws_markStmtS))))))))))))))))))))) xlaws_markStmtS_p3 := node_ok (code_sound follows tysOk (calls_ok (fns_cons S_laws_markStringS (fns_cons S_laws_markValS (fns_cons S_laws_markColS (fns_cons S_laws_markText fns_nil))))) hnp [xlaws_markStmtS_p0, xlaws_markStmtS_p1, xlaws_markStmtS_p2] ((Code.pl (Code.pr (Code.pr (Code.pr (Code.pr (Code.pr (Code.pr (Code.pr (Code.pr (Code.pr (Code.pr (Code.pr (Code.pr (Code.pl (Code.pl (Code.pr (Code.pl (Code.pl (Code.pr (Code.pl (Code.pr c_laws_markStmtS)))))))))))))))))))))) .o trivial) (fg := (cutC ([0, 1, 5], []) [] ([], []))) (cutC_le _ _ _) (by
  intro σ k r h
  obtain ⟨hn, h1⟩ := rdN_some h
  obtain ⟨a, hs0, h2⟩ := rdV_some h1
  obtain ⟨k_, hs1, h3⟩ := rdV_some h2
  obtain ⟨i, hs5, h4⟩ := rdV_some h3
  refine ⟨_, ?_, (elaws_markStmtS_p3 a k_ i k).trans h4⟩
  exact mkS_le hn ⟨hs0, hs1, hs5, trivial⟩ trivial)
noncomputable def laws_markStmtS_l4_r (a : List (Int × ByteArray × (List (Int × Int × ByteArray)) × (List (Int × Int × ByteArray)) × Int × ByteArray × (List (ByteArray × Int × Bool × Bool × Int × Int × ByteArray)) × List ByteArray × ByteArray × ByteArray)) (k_ : Int) (i : Int) (rec : (List (Int × ByteArray × (List (Int × Int × ByteArray)) × (List (Int × Int × ByteArray)) × Int × ByteArray × (List (ByteArray × Int × Bool × Bool × Int × Int × ByteArray)) × List ByteArray × ByteArray × ByteArray)) → Int → Int → Res) (k0 : (List (Int × ByteArray × (List (Int × Int × ByteArray)) × (List (Int × Int × ByteArray)) × Int × ByteArray × (List (ByteArray × Int × Bool × Bool × Int × Int × ByteArray)) × List ByteArray × ByteArray × ByteArray)) → Int → Res) : Res :=
  bif decide (i < (nI (List.length a))) then
    bif inb i (List.length a) then
      laws_markText (wi64 (k_ + 1)) fun (r : ByteArray) =>
        bif inb i (List.length (upd a i (k_, (nth (0, eS, [], [], 0, eS, [], [], eS, eS) a i).2))) then
          laws_markStmtS_p0 (upd (upd a i (k_, (nth (0, eS, [], [], 0, eS, [], [], eS, eS) a i).2)) i ((nth (0, eS, [], [], 0, eS, [], [], eS, eS) (upd a i (k_, (nth (0, eS, [], [], 0, eS, [], [], eS, eS) a i).2)) i).1, r, (nth (0, eS, [], [], 0, eS, [], [], eS, eS) (upd a i (k_, (nth (0, eS, [], [], 0, eS, [], [], eS, eS) a i).2)) i).2.2)) (wi64 ((wi64 (k_ + 1)) + 1)) i fun (a1 : List (Int × ByteArray × (List (Int × Int × ByteArray)) × (List (Int × Int × ByteArray)) × Int × ByteArray × (List (ByteArray × Int × Bool × Bool × Int × Int × ByteArray)) × List ByteArray × ByteArray × ByteArray)) (k_1 : Int) =>
            bif inb i (List.length a1) then
              laws_markValS (nth (0, eS, [], [], 0, eS, [], [], eS, eS) a1 i).2.2.2.1 k_1 fun (r1 : Int) (a2 : List (Int × Int × ByteArray)) =>
                laws_markStmtS_p1 (upd a1 i ((nth (0, eS, [], [], 0, eS, [], [], eS, eS) a1 i).1, (nth (0, eS, [], [], 0, eS, [], [], eS, eS) a1 i).2.1, (nth (0, eS, [], [], 0, eS, [], [], eS, eS) a1 i).2.2.1, a2, (nth (0, eS, [], [], 0, eS, [], [], eS, eS) a1 i).2.2.2.2)) r1 i fun (a3 : List (Int × ByteArray × (List (Int × Int × ByteArray)) × (List (Int × Int × ByteArray)) × Int × ByteArray × (List (ByteArray × Int × Bool × Bool × Int × Int × ByteArray)) × List ByteArray × ByteArray × ByteArray)) =>
                  laws_markText (wi64 (r1 + 1)) fun (r2 : ByteArray) =>
                    bif inb i (List.length a3) then
                      laws_markStmtS_p2 (upd a3 i ((nth (0, eS, [], [], 0, eS, [], [], eS, eS) a3 i).1, (nth (0, eS, [], [], 0, eS, [], [], eS, eS) a3 i).2.1, (nth (0, eS, [], [], 0, eS, [], [], eS, eS) a3 i).2.2.1, (nth (0, eS, [], [], 0, eS, [], [], eS, eS) a3 i).2.2.2.1, (nth (0, eS, [], [], 0, eS, [], [], eS, eS) a3 i).2.2.2.2.1, r2, (nth (0, eS, [], [], 0, eS, [], [], eS, eS) a3 i).2.2.2.2.2.2)) (wi64 ((wi64 (r1 + 1)) + 1)) i fun (a4 : List (Int × ByteArray × (List (Int × Int × ByteArray)) × (List (Int × Int × ByteArray)) × Int × ByteArray × (List (ByteArray × Int × Bool × Bool × Int × Int × ByteArray)) × List ByteArray × ByteArray × ByteArray)) (k_2 : Int) =>
                        bif inb i (List.length a4) then
                          laws_markStringS (nth (0, eS, [], [], 0, eS, [], [], eS, eS) a4 i).2.2.2.2.2.2.2.1 k_2 fun (r3 : Int) (a5 : List ByteArray) =>
                            laws_markStmtS_p3 (upd a4 i ((nth (0, eS, [], [], 0, eS, [], [], eS, eS) a4 i).1, (nth (0, eS, [], [], 0, eS, [], [], eS, eS) a4 i).2.1, (nth (0, eS, [], [], 0, eS, [], [], eS, eS) a4 i).2.2.1, (nth (0, eS, [], [], 0, eS, [], [], eS, eS) a4 i).2.2.2.1, (nth (0, eS, [], [], 0, eS, [], [], eS, eS) a4 i).2.2.2.2.1, (nth (0, eS, [], [], 0, eS, [], [], eS, eS) a4 i).2.2.2.2.2.1, (nth (0, eS, [], [], 0, eS, [], [], eS, eS) a4 i).2.2.2.2.2.2.1, a5, (nth (0, eS, [], [], 0, eS, [], [], eS, eS) a4 i).2.2.2.2.2.2.2.2)) r3 i fun (a6 : List (Int × ByteArray × (List (Int × Int × ByteArray)) × (List (Int × Int × ByteArray)) × Int × ByteArray × (List (ByteArray × Int × Bool × Bool × Int × Int × ByteArray)) × List ByteArray × ByteArray × ByteArray)) =>
                              laws_markText (wi64 (r3 + 1)) fun (r4 : ByteArray) =>
                                bif inb i (List.length a6) then
                                  rec (upd a6 i ((nth (0, eS, [], [], 0, eS, [], [], eS, eS) a6 i).1, (nth (0, eS, [], [], 0, eS, [], [], eS, eS) a6 i).2.1, (nth (0, eS, [], [], 0, eS, [], [], eS, eS) a6 i).2.2.1, (nth (0, eS, [], [], 0, eS, [], [], eS, eS) a6 i).2.2.2.1, (nth (0, eS, [], [], 0, eS, [], [], eS, eS) a6 i).2.2.2.2.1, (nth (0, eS, [], [], 0, eS, [], [], eS, eS) a6 i).2.2.2.2.2.1, (nth (0, eS, [], [], 0, eS, [], [], eS, eS) a6 i).2.2.2.2.2.2.1, (nth (0, eS, [], [], 0, eS, [], [], eS, eS) a6 i).2.2.2.2.2.2.2.1, (nth (0, eS, [], [], 0, eS, [], [], eS, eS) a6 i).2.2.2.2.2.2.2.2.1, r4)) (wi64 ((wi64 (r3 + 1)) + 1)) (wi64 (i + 1))
                                else none
                        else none
                    else none
            else none
        else none
    else none
  else
    k0 a k_
noncomputable def laws_markStmtS_l4_s : ((List (Int × ByteArray × (List (Int × Int × ByteArray)) × (List (Int × Int × ByteArray)) × Int × ByteArray × (List (ByteArray × Int × Bool × Bool × Int × Int × ByteArray)) × List ByteArray × ByteArray × ByteArray)) × Int × Int) → ((List (Int × ByteArray × (List (Int × Int × ByteArray)) × (List (Int × Int × ByteArray)) × Int × ByteArray × (List (ByteArray × Int × Bool × Bool × Int × Int × ByteArray)) × List ByteArray × ByteArray × ByteArray)) × Int × Int → Res) → (((List (Int × ByteArray × (List (Int × Int × ByteArray)) × (List (Int × Int × ByteArray)) × Int × ByteArray × (List (ByteArray × Int × Bool × Bool × Int × Int × ByteArray)) × List ByteArray × ByteArray × ByteArray)) → Int → Res)) → Res := fun v rec q => laws_markStmtS_l4_r v.1 v.2.1 v.2.2 (fun a k_ i => rec (a, k_, i)) q
noncomputable def laws_markStmtS_l4 (n : Nat) (a : List (Int × ByteArray × (List (Int × Int × ByteArray)) × (List (Int × Int × ByteArray)) × Int × ByteArray × (List (ByteArray × Int × Bool × Bool × Int × Int × ByteArray)) × List ByteArray × ByteArray × ByteArray)) (k_ : Int) (i : Int) (k0 : (List (Int × ByteArray × (List (Int × Int × ByteArray)) × (List (Int × Int × ByteArray)) × Int × ByteArray × (List (ByteArray × Int × Bool × Bool × Int × Int × ByteArray)) × List ByteArray × ByteArray × ByteArray)) → Int → Res) : Res := iter (laws_markStmtS_l4_s) n (a, k_, i) (k0)
noncomputable def xlaws_markStmtS_l4 : Node Unit := fun σ k => rdN σ 94 <| rdV σ 0 y21 false [.O] fun a => rdV σ 1 (.int .i64) false [] fun k_ => rdV σ 5 (.int .i64) false [] fun i => laws_markStmtS_l4 FUEL a k_ i (fun (a7 : List (Int × ByteArray × (List (Int × Int × ByteArray)) × (List (Int × Int × ByteArray)) × Int × ByteArray × (List (ByteArray × Int × Bool × Bool × Int × Int × ByteArray)) × List ByteArray × ByteArray × ByteArray)) (k_3 : Int) => k (.exit 0) (mkS 94 94 [(0, .val ⟨y21, false, a7, [.O]⟩), (1, .val ⟨(.int .i64), false, k_3, []⟩)] []))
theorem elaws_markStmtS_l4  (n : Nat) (v : (List (Int × ByteArray × (List (Int × Int × ByteArray)) × (List (Int × Int × ByteArray)) × Int × ByteArray × (List (ByteArray × Int × Bool × Bool × Int × Int × ByteArray)) × List ByteArray × ByteArray × ByteArray)) × Int × Int) (k : Kont Unit) : loopC (codeC g_laws_markStmtS [xlaws_markStmtS_p0, xlaws_markStmtS_p1, xlaws_markStmtS_p2, xlaws_markStmtS_p3] (.t .o (.t (.t (.t .o (.t .o (.t .o (.t .o (.t (.x 0) (.t .o (.t (.x 1) (.t .o (.t .o (.t .o (.t (.x 2) (.t .o (.t (.x 3) .o))))))))))))) .o) .o)) (Code.pl (Code.pl (Code.pr (Code.pl (Code.pr c_laws_markStmtS)))))) (fun σ => σ.forget [0, 1, 5] []) (cutC ([], []) [(0, [0, 1], [])] ([], [])) n (mkS 94 94 [(0, .val ⟨y21, false, v.1, [.O]⟩), (1, .val ⟨(.int .i64), false, v.2.1, []⟩), (5, .val ⟨(.int .i64), false, v.2.2, []⟩)] []) k = iter (laws_markStmtS_l4_s) n v ((fun (k : Kont Unit) => (((fun (a7 : List (Int × ByteArray × (List (Int × Int × ByteArray)) × (List (Int × Int × ByteArray)) × Int × ByteArray × (List (ByteArray × Int × Bool × Bool × Int × Int × ByteArray)) × List ByteArray × ByteArray × ByteArray)) (k_3 : Int) => k (.exit 0) (mkS 94 94 [(0, .val ⟨y21, false, a7, [.O]⟩), (1, .val ⟨(.int .i64), false, k_3, []⟩)] []))) : ((List (Int × ByteArray × (List (Int × Int × ByteArray)) × (List (Int × Int × ByteArray)) × Int × ByteArray × (List (ByteArray × Int × Bool × Bool × Int × Int × ByteArray)) × List ByteArray × ByteArray × ByteArray)) → Int → Res))) k) := loop_eq (fun v : (List (Int × ByteArray × (List (Int × Int × ByteArray)) × (List (Int × Int × ByteArray)) × Int × ByteArray × (List (ByteArray × Int × Bool × Bool × Int × Int × ByteArray)) × List ByteArray × ByteArray × ByteArray)) × Int × Int => (mkS 94 94 [(0, .val ⟨y21, false, v.1, [.O]⟩), (1, .val ⟨(.int .i64), false, v.2.1, []⟩), (5, .val ⟨(.int .i64), false, v.2.2, []⟩)] [])) (laws_markStmtS_l4_s) (fun (k : Kont Unit) => (((fun (a7 : List (Int × ByteArray × (List (Int × Int × ByteArray)) × (List (Int × Int × ByteArray)) × Int × ByteArray × (List (ByteArray × Int × Bool × Bool × Int × Int × ByteArray)) × List ByteArray × ByteArray × ByteArray)) (k_3 : Int) => k (.exit 0) (mkS 94 94 [(0, .val ⟨y21, false, a7, [.O]⟩), (1, .val ⟨(.int .i64), false, k_3, []⟩)] []))) : ((List (Int × ByteArray × (List (Int × Int × ByteArray)) × (List (Int × Int × ByteArray)) × Int × ByteArray × (List (ByteArray × Int × Bool × Bool × Int × Int × ByteArray)) × List ByteArray × ByteArray × ByteArray)) → Int → Res))) (fun v rec k => by kernel_rfl) n v k
theorem olaws_markStmtS_l4 {W0 : Base} {M : Nat → Prop} (hnp : W0.np ≤ 1) : CodeOk Try.prog W0 M (Code.pl (Code.pr (Code.pl (Code.pr c_laws_markStmtS)))) xlaws_markStmtS_l4 := show CodeOk Try.prog W0 M (Code.loop (Code.pl (Code.pl (Code.pr (Code.pl (Code.pr c_laws_markStmtS)))))) xlaws_markStmtS_l4 from loop_ok (code_sound follows tysOk (calls_ok (fns_cons S_laws_markStringS (fns_cons S_laws_markValS (fns_cons S_laws_markColS (fns_cons S_laws_markText fns_nil))))) hnp [xlaws_markStmtS_p0, xlaws_markStmtS_p1, xlaws_markStmtS_p2, xlaws_markStmtS_p3] (Code.pl (Code.pl (Code.pr (Code.pl (Code.pr c_laws_markStmtS))))) (.t .o (.t (.t (.t .o (.t .o (.t .o (.t .o (.t (.x 0) (.t .o (.t (.x 1) (.t .o (.t .o (.t .o (.t (.x 2) (.t .o (.t (.x 3) .o))))))))))))) .o) .o)) (OrOk.mk trivial ((OrOk.mk ((OrOk.mk ((OrOk.mk trivial ((OrOk.mk trivial ((OrOk.mk trivial ((OrOk.mk trivial ((OrOk.mk (OrOk.x_mk (fun W0 M hnp => olaws_markStmtS_p0 (W0 := W0) (M := M) hnp)) ((OrOk.mk trivial ((OrOk.mk (OrOk.x_mk (fun W0 M hnp => olaws_markStmtS_p1 (W0 := W0) (M := M) hnp)) ((OrOk.mk trivial ((OrOk.mk trivial ((OrOk.mk trivial ((OrOk.mk (OrOk.x_mk (fun W0 M hnp => olaws_markStmtS_p2 (W0 := W0) (M := M) hnp)) ((OrOk.mk trivial ((OrOk.mk (OrOk.x_mk (fun W0 M hnp => olaws_markStmtS_p3 (W0 := W0) (M := M) hnp)) trivial)))))))))))))))))))))))))) trivial)) trivial)))) (ks := [0, 1, 5]) (bs := []) (fX := (cutC ([], []) [(0, [0, 1], [])] ([], []))) (cutC_le _ _ _) FUEL (by
  intro σ k r h
  obtain ⟨hn, h1⟩ := rdN_some h
  obtain ⟨a, hs0, h2⟩ := rdV_some h1
  obtain ⟨k_, hs1, h3⟩ := rdV_some h2
  obtain ⟨i, hs5, h4⟩ := rdV_some h3
  refine ⟨_, ?_, (elaws_markStmtS_l4  FUEL (a, k_, i) k).trans h4⟩
  exact mkS_le hn ⟨hs0, hs1, hs5, trivial⟩ trivial)
noncomputable def laws_markStmtS (a : List (Int × ByteArray × (List (Int × Int × ByteArray)) × (List (Int × Int × ByteArray)) × Int × ByteArray × (List (ByteArray × Int × Bool × Bool × Int × Int × ByteArray)) × List ByteArray × ByteArray × ByteArray)) (k_ : Int) (k0 : Int → (List (Int × ByteArray × (List (Int × Int × ByteArray)) × (List (Int × Int × ByteArray)) × Int × ByteArray × (List (ByteArray × Int × Bool × Bool × Int × Int × ByteArray)) × List ByteArray × ByteArray × ByteArray)) → Res) : Res :=
  laws_markStmtS_l4 FUEL a k_ 0 fun (a1 : List (Int × ByteArray × (List (Int × Int × ByteArray)) × (List (Int × Int × ByteArray)) × Int × ByteArray × (List (ByteArray × Int × Bool × Bool × Int × Int × ByteArray)) × List ByteArray × ByteArray × ByteArray)) (k_1 : Int) =>
    k0 k_1 a1
noncomputable def s_laws_markStmtS : Sig Unit := ⟨[.inout y21 false, .borrow (.int .i64) false], [false], fun vals ext k => ao vals y21 [.O] fun a vals => av vals (.int .i64) fun k_ vals => nl vals <| nl ext <| laws_markStmtS a k_ (fun (r0 : Int) (i0 : List (Int × ByteArray × (List (Int × Int × ByteArray)) × (List (Int × Int × ByteArray)) × Int × ByteArray × (List (ByteArray × Int × Bool × Bool × Int × Int × ByteArray)) × List ByteArray × ByteArray × ByteArray)) => k [⟨(.int .i64), false, r0, []⟩] [⟨y21, false, i0, [.O]⟩] [])⟩
theorem E_laws_markStmtS (a_a : Bool) (a : List (Int × ByteArray × (List (Int × Int × ByteArray)) × (List (Int × Int × ByteArray)) × Int × ByteArray × (List (ByteArray × Int × Bool × Bool × Int × Int × ByteArray)) × List ByteArray × ByteArray × ByteArray)) (k_ : Int) (a_k_ : Bool) (t_k_ : List Tag) (k : List TVal → List TVal → List TVal → Res) : funC g_laws_markStmtS [xlaws_markStmtS_p0, xlaws_markStmtS_p1, xlaws_markStmtS_p2, xlaws_markStmtS_p3, xlaws_markStmtS_l4] (.t .o (.t (.t .o (.t (.x 4) .o)) .o)) false Try.f40 [.inout y21 false, .borrow (.int .i64) false] [false] [⟨y21, a_a, a, [.O]⟩, ⟨(.int .i64), a_k_, k_, t_k_⟩] [] k = laws_markStmtS a k_ (fun (r0 : Int) (i0 : List (Int × ByteArray × (List (Int × Int × ByteArray)) × (List (Int × Int × ByteArray)) × Int × ByteArray × (List (ByteArray × Int × Bool × Bool × Int × Int × ByteArray)) × List ByteArray × ByteArray × ByteArray)) => k [⟨(.int .i64), false, r0, []⟩] [⟨y21, false, i0, [.O]⟩] []) := by kernel_rfl
theorem S_laws_markStmtS : Sound Try.prog 40 s_laws_markStmtS := sound_of (Γ := g_laws_markStmtS) (X := [xlaws_markStmtS_p0, xlaws_markStmtS_p1, xlaws_markStmtS_p2, xlaws_markStmtS_p3, xlaws_markStmtS_l4]) (ht := (.t .o (.t (.t .o (.t (.x 4) .o)) .o))) (fz := false) (c := c_laws_markStmtS) follows tysOk (fns_cons S_laws_markStringS (fns_cons S_laws_markValS (fns_cons S_laws_markColS (fns_cons S_laws_markText fns_nil)))) (OrOk.mk trivial ((OrOk.mk ((OrOk.mk trivial ((OrOk.mk (OrOk.x_mk (fun W0 M hnp => olaws_markStmtS_l4 (W0 := W0) (M := M) hnp)) trivial)))) trivial))) Try.func40 (by kernel_rfl) (by kernel_rfl) (by decide) (by
  intro vals ext k r h
  obtain ⟨a_a, a, vals, rfl, h1⟩ := ao_some h
  obtain ⟨k_, a_k_, t_k_, vals, rfl, h2⟩ := av_some h1
  obtain ⟨rfl, h3⟩ := nl_some h2
  obtain ⟨rfl, h4⟩ := nl_some h3
  exact (E_laws_markStmtS a_a a k_ a_k_ t_k_ k).trans h4)

/-! ### 41 loop.example/g00462/laws.heldStmtS -/
noncomputable def c_laws_heldStmtS : Code := (Try.f41.body).getD .skip
noncomputable def g_laws_heldStmtS : Env Unit := ⟨tys, [(79, s_laws_heldStringS), (98, s_laws_heldValS), (112, s_laws_markText), (113, s_laws_heldColS)], 0⟩
noncomputable def laws_heldStmtS_l0_r (a : List (Int × ByteArray × (List (Int × Int × ByteArray)) × (List (Int × Int × ByteArray)) × Int × ByteArray × (List (ByteArray × Int × Bool × Bool × Int × Int × ByteArray)) × List ByteArray × ByteArray × ByteArray)) (k_ : Int) (i : Int) (rec : Int → Int → Res) (k0 : Int → Res) (k1 : Unit → Res) : Res :=
  bif decide (i < (nI (List.length a))) then
    bif inb i (List.length a) then
      bif ((nth (0, eS, [], [], 0, eS, [], [], eS, eS) a i).1 != k_) then
        k1 ()
      else
        bif inb i (List.length a) then
          laws_markText (wi64 (k_ + 1)) fun (r : ByteArray) =>
            bif sNe (nth (0, eS, [], [], 0, eS, [], [], eS, eS) a i).2.1 r then
              k1 ()
            else
              bif inb i (List.length a) then
                laws_heldValS (nth (0, eS, [], [], 0, eS, [], [], eS, eS) a i).2.2.1 (wi64 ((wi64 (k_ + 1)) + 1)) fun (r1 : Int) =>
                  bif decide (r1 < 0) then
                    k1 ()
                  else
                    bif inb i (List.length a) then
                      laws_heldValS (nth (0, eS, [], [], 0, eS, [], [], eS, eS) a i).2.2.2.1 r1 fun (r2 : Int) =>
                        bif decide (r2 < 0) then
                          k1 ()
                        else
                          bif inb i (List.length a) then
                            bif ((nth (0, eS, [], [], 0, eS, [], [], eS, eS) a i).2.2.2.2.1 != r2) then
                              k1 ()
                            else
                              bif inb i (List.length a) then
                                laws_markText (wi64 (r2 + 1)) fun (r3 : ByteArray) =>
                                  bif sNe (nth (0, eS, [], [], 0, eS, [], [], eS, eS) a i).2.2.2.2.2.1 r3 then
                                    k1 ()
                                  else
                                    bif inb i (List.length a) then
                                      laws_heldColS (nth (0, eS, [], [], 0, eS, [], [], eS, eS) a i).2.2.2.2.2.2.1 (wi64 ((wi64 (r2 + 1)) + 1)) fun (r4 : Int) =>
                                        bif decide (r4 < 0) then
                                          k1 ()
                                        else
                                          bif inb i (List.length a) then
                                            laws_heldStringS (nth (0, eS, [], [], 0, eS, [], [], eS, eS) a i).2.2.2.2.2.2.2.1 r4 fun (r5 : Int) =>
                                              bif decide (r5 < 0) then
                                                k1 ()
                                              else
                                                bif inb i (List.length a) then
                                                  laws_markText r5 fun (r6 : ByteArray) =>
                                                    bif sNe (nth (0, eS, [], [], 0, eS, [], [], eS, eS) a i).2.2.2.2.2.2.2.2.1 r6 then
                                                      k1 ()
                                                    else
                                                      bif inb i (List.length a) then
                                                        laws_markText (wi64 (r5 + 1)) fun (r7 : ByteArray) =>
                                                          bif sNe (nth (0, eS, [], [], 0, eS, [], [], eS, eS) a i).2.2.2.2.2.2.2.2.2 r7 then
                                                            k1 ()
                                                          else
                                                            rec (wi64 ((wi64 (r5 + 1)) + 1)) (wi64 (i + 1))
                                                      else none
                                                else none
                                          else none
                                    else none
                              else none
                          else none
                    else none
              else none
        else none
    else none
  else
    k0 k_
noncomputable def laws_heldStmtS_l0_s (a : List (Int × ByteArray × (List (Int × Int × ByteArray)) × (List (Int × Int × ByteArray)) × Int × ByteArray × (List (ByteArray × Int × Bool × Bool × Int × Int × ByteArray)) × List ByteArray × ByteArray × ByteArray)) : (Int × Int) → (Int × Int → Res) → ((Int → Res) × (Unit → Res)) → Res := fun v rec q => laws_heldStmtS_l0_r a v.1 v.2 (fun k_ i => rec (k_, i)) q.1 q.2
noncomputable def laws_heldStmtS_l0 (a : List (Int × ByteArray × (List (Int × Int × ByteArray)) × (List (Int × Int × ByteArray)) × Int × ByteArray × (List (ByteArray × Int × Bool × Bool × Int × Int × ByteArray)) × List ByteArray × ByteArray × ByteArray)) (n : Nat) (k_ : Int) (i : Int) (k0 : Int → Res) (k1 : Unit → Res) : Res := iter (laws_heldStmtS_l0_s a) n (k_, i) (k0, k1)
noncomputable def xlaws_heldStmtS_l0 : Node Unit := fun σ k => rdN σ 114 <| rdV σ 0 y21 false [.S] fun a => rdV σ 1 (.int .i64) false [] fun k_ => rdV σ 5 (.int .i64) false [] fun i => laws_heldStmtS_l0 a FUEL k_ i (fun (k_1 : Int) => k (.exit 0) (mkS 114 114 [(1, .val ⟨(.int .i64), false, k_1, []⟩)] [])) (fun (_ : Unit) => k .ret (mkS 114 114 [(4, .val ⟨(.int .i64), false, (-1), []⟩)] []))
theorem elaws_heldStmtS_l0 (a : List (Int × ByteArray × (List (Int × Int × ByteArray)) × (List (Int × Int × ByteArray)) × Int × ByteArray × (List (ByteArray × Int × Bool × Bool × Int × Int × ByteArray)) × List ByteArray × ByteArray × ByteArray)) (n : Nat) (v : Int × Int) (k : Kont Unit) : loopC (codeC g_laws_heldStmtS [] .o (Code.pl (Code.pl (Code.pr (Code.pl (Code.pr c_laws_heldStmtS)))))) (fun σ => σ.forget [0, 1, 5] []) (cutC ([], []) [(0, [1], [])] ([4], [])) n (mkS 114 114 [(0, .val ⟨y21, false, a, [.S]⟩), (1, .val ⟨(.int .i64), false, v.1, []⟩), (5, .val ⟨(.int .i64), false, v.2, []⟩)] []) k = iter (laws_heldStmtS_l0_s a) n v ((fun (k : Kont Unit) => (((fun (k_1 : Int) => k (.exit 0) (mkS 114 114 [(1, .val ⟨(.int .i64), false, k_1, []⟩)] [])), (fun (_ : Unit) => k .ret (mkS 114 114 [(4, .val ⟨(.int .i64), false, (-1), []⟩)] []))) : (Int → Res) × (Unit → Res))) k) := loop_eq (fun v : Int × Int => (mkS 114 114 [(0, .val ⟨y21, false, a, [.S]⟩), (1, .val ⟨(.int .i64), false, v.1, []⟩), (5, .val ⟨(.int .i64), false, v.2, []⟩)] [])) (laws_heldStmtS_l0_s a) (fun (k : Kont Unit) => (((fun (k_1 : Int) => k (.exit 0) (mkS 114 114 [(1, .val ⟨(.int .i64), false, k_1, []⟩)] [])), (fun (_ : Unit) => k .ret (mkS 114 114 [(4, .val ⟨(.int .i64), false, (-1), []⟩)] []))) : (Int → Res) × (Unit → Res))) (fun v rec k => by kernel_rfl) n v k
theorem olaws_heldStmtS_l0 {W0 : Base} {M : Nat → Prop} (hnp : W0.np ≤ 0) : CodeOk Try.prog W0 M (Code.pl (Code.pr (Code.pl (Code.pr c_laws_heldStmtS)))) xlaws_heldStmtS_l0 := show CodeOk Try.prog W0 M (Code.loop (Code.pl (Code.pl (Code.pr (Code.pl (Code.pr c_laws_heldStmtS)))))) xlaws_heldStmtS_l0 from loop_ok (code_sound follows tysOk (calls_ok (fns_cons S_laws_heldStringS (fns_cons S_laws_heldValS (fns_cons S_laws_markText (fns_cons S_laws_heldColS fns_nil))))) hnp [] (Code.pl (Code.pl (Code.pr (Code.pl (Code.pr c_laws_heldStmtS))))) .o trivial) (ks := [0, 1, 5]) (bs := []) (fX := (cutC ([], []) [(0, [1], [])] ([4], []))) (cutC_le _ _ _) FUEL (by
  intro σ k r h
  obtain ⟨hn, h1⟩ := rdN_some h
  obtain ⟨a, hs0, h2⟩ := rdV_some h1
  obtain ⟨k_, hs1, h3⟩ := rdV_some h2
  obtain ⟨i, hs5, h4⟩ := rdV_some h3
  refine ⟨_, ?_, (elaws_heldStmtS_l0 a FUEL (k_, i) k).trans h4⟩
  exact mkS_le hn ⟨hs0, hs1, hs5, trivial⟩ trivial)
noncomputable def laws_heldStmtS (a : List (Int × ByteArray × (List (Int × Int × ByteArray)) × (List (Int × Int × ByteArray)) × Int × ByteArray × (List (ByteArray × Int × Bool × Bool × Int × Int × ByteArray)) × List ByteArray × ByteArray × ByteArray)) (k_ : Int) (k0 : Int → Res) : Res :=
  laws_heldStmtS_l0 a FUEL k_ 0
    (fun (k_1 : Int) =>
      k0 k_1)
    (fun (_ : Unit) =>
      k0 (-1))
noncomputable def s_laws_heldStmtS : Sig Unit := ⟨[.look y21 false, .look (.int .i64) false], [false], fun vals ext k => av vals y21 fun a vals => av vals (.int .i64) fun k_ vals => nl vals <| nl ext <| laws_heldStmtS a k_ (fun (r0 : Int) => k [⟨(.int .i64), false, r0, []⟩] [] [])⟩
theorem E_laws_heldStmtS (a : List (Int × ByteArray × (List (Int × Int × ByteArray)) × (List (Int × Int × ByteArray)) × Int × ByteArray × (List (ByteArray × Int × Bool × Bool × Int × Int × ByteArray)) × List ByteArray × ByteArray × ByteArray)) (a_a : Bool) (t_a : List Tag) (k_ : Int) (a_k_ : Bool) (t_k_ : List Tag) (k : List TVal → List TVal → List TVal → Res) : funC g_laws_heldStmtS [xlaws_heldStmtS_l0] (.t .o (.t (.t .o (.t (.x 0) .o)) .o)) false Try.f41 [.look y21 false, .look (.int .i64) false] [false] [⟨y21, a_a, a, t_a⟩, ⟨(.int .i64), a_k_, k_, t_k_⟩] [] k = laws_heldStmtS a k_ (fun (r0 : Int) => k [⟨(.int .i64), false, r0, []⟩] [] []) := by kernel_rfl
theorem S_laws_heldStmtS : Sound Try.prog 41 s_laws_heldStmtS := sound_of (Γ := g_laws_heldStmtS) (X := [xlaws_heldStmtS_l0]) (ht := (.t .o (.t (.t .o (.t (.x 0) .o)) .o))) (fz := false) (c := c_laws_heldStmtS) follows tysOk (fns_cons S_laws_heldStringS (fns_cons S_laws_heldValS (fns_cons S_laws_markText (fns_cons S_laws_heldColS fns_nil)))) (OrOk.mk trivial ((OrOk.mk ((OrOk.mk trivial ((OrOk.mk (OrOk.x_mk (fun W0 M hnp => olaws_heldStmtS_l0 (W0 := W0) (M := M) hnp)) trivial)))) trivial))) Try.func41 (by kernel_rfl) (by kernel_rfl) (by decide) (by
  intro vals ext k r h
  obtain ⟨a, a_a, t_a, vals, rfl, h1⟩ := av_some h
  obtain ⟨k_, a_k_, t_k_, vals, rfl, h2⟩ := av_some h1
  obtain ⟨rfl, h3⟩ := nl_some h2
  obtain ⟨rfl, h4⟩ := nl_some h3
  exact (E_laws_heldStmtS a a_a t_a k_ a_k_ t_k_ k).trans h4)
end Go.PI.G
