/-
  Printed texts and plain laws. No conditions.
-/
import Derived.Test.YtcapkiofiipamaaGreatPc
import Derived.Test.YtcapkiofiipamaaGreatZ6a
import Derived.Test.YtcapkiofiipamaaGreatZ6f
import Derived.Test.YtcapkiofiipamaaGreatZ6i
import Derived.Test.YtcapkiofiipamaaGreatZ6g
import Derived.Test.YtcapkiofiipamaaGreatZ6h
import Derived.Test.YtcapkiofiipamaaGreatZ6e
set_option linter.unusedVariables false
set_option maxRecDepth 100000
noncomputable section
namespace Go.PI.G
open Go Go.PI Go.Proofs

/-! ### 32 loop.example/g00462/laws.eqStmtS -/
def c_laws_eqStmtS : Code := (Tryz.f32.body).getD .skip
def g_laws_eqStmtS : Env Unit := ⟨tys, [(78, s_laws_eqStmt)], 0⟩
def laws_eqStmtS_l0_r (a : List qS) (b : List qS) (i : Int) (rec : Int → Res) (k0 : Unit → Res) (k1 : Unit → Res) : Res :=
 bif decide (i < (nI (List.length a))) then
  bif inb i (List.length a) then
   bif inb i (List.length b) then
    laws_eqStmt (nth (0, eS, [], [], 0, eS, [], [], eS, eS) a i) (nth (0, eS, [], [], 0, eS, [], [], eS, eS) b i) fun (r : Bool) =>
     bif !r then
      k1 ()
     else
      rec (wi64 (i + 1))
   else none
  else none
 else
  k0 ()
def laws_eqStmtS_l0_s (a : List qS) (b : List qS) : Int → (Int → Res) → ((Unit → Res) × (Unit → Res)) → Res := fun v rec q => laws_eqStmtS_l0_r a b v (fun i => rec (i)) q.1 q.2
def laws_eqStmtS_l0 (a : List qS) (b : List qS) (n : Nat) (i : Int) (k0 : Unit → Res) (k1 : Unit → Res) : Res := iter (laws_eqStmtS_l0_s a b) n (i) (k0, k1)
def xlaws_eqStmtS_l0 : Node Unit := fun σ k => rdN σ 27 <| rdV σ 0 y24 false [.S] fun a => rdV σ 1 y24 false [.S] fun b => rdV σ 5 (.int .i64) false [] fun i => laws_eqStmtS_l0 a b FUEL i (fun (_ : Unit) => k (.exit 0) (mkS 27 27 [] [])) (fun (_ : Unit) => k .ret (mkS 27 27 [(4, .val ⟨.bool, false, false, []⟩)] []))
theorem elaws_eqStmtS_l0 (a : List qS) (b : List qS) (n : Nat) (v : Int) (k : Kont Unit) : loopC (codeC g_laws_eqStmtS [] .o (Code.pl (Code.pl (Code.pr (Code.pl (Code.pr (Code.pr c_laws_eqStmtS))))))) (fun σ => σ.forget [0, 1, 5] []) (cutC ([], []) [(0, [], [])] ([4], [])) n (mkS 27 27 [(0, .val ⟨y24, false, a, [.S]⟩), (1, .val ⟨y24, false, b, [.S]⟩), (5, .val ⟨(.int .i64), false, v, []⟩)] []) k = iter (laws_eqStmtS_l0_s a b) n v ((fun (k : Kont Unit) => (((fun (_ : Unit) => k (.exit 0) (mkS 27 27 [] [])), (fun (_ : Unit) => k .ret (mkS 27 27 [(4, .val ⟨.bool, false, false, []⟩)] []))) : (Unit → Res) × (Unit → Res))) k) := loop_eq (fun v : Int => (mkS 27 27 [(0, .val ⟨y24, false, a, [.S]⟩), (1, .val ⟨y24, false, b, [.S]⟩), (5, .val ⟨(.int .i64), false, v, []⟩)] [])) (laws_eqStmtS_l0_s a b) (fun (k : Kont Unit) => (((fun (_ : Unit) => k (.exit 0) (mkS 27 27 [] [])), (fun (_ : Unit) => k .ret (mkS 27 27 [(4, .val ⟨.bool, false, false, []⟩)] []))) : (Unit → Res) × (Unit → Res))) (fun v rec k => by kernel_rfl) n v k
theorem olaws_eqStmtS_l0 {W0 : Base} {M : Nat → Prop} (hnp : W0.np ≤ 0) : CodeOk Tryz.prog W0 M (Code.pl (Code.pr (Code.pl (Code.pr (Code.pr c_laws_eqStmtS))))) xlaws_eqStmtS_l0 := show CodeOk Tryz.prog W0 M (Code.loop (Code.pl (Code.pl (Code.pr (Code.pl (Code.pr (Code.pr c_laws_eqStmtS))))))) xlaws_eqStmtS_l0 from loop_ok (code_sound follows tysOk (calls_ok (fns_cons S_laws_eqStmt fns_nil)) hnp [] (Code.pl (Code.pl (Code.pr (Code.pl (Code.pr (Code.pr c_laws_eqStmtS)))))) .o trivial) (ks := [0, 1, 5]) (bs := []) (fX := (cutC ([], []) [(0, [], [])] ([4], []))) (cutC_le _ _ _) FUEL (by
 intro σ k r h
 obtain ⟨hn, h1⟩ := rdN_some h
 obtain ⟨a, hs0, h2⟩ := rdV_some h1
 obtain ⟨b, hs1, h3⟩ := rdV_some h2
 obtain ⟨i, hs5, h4⟩ := rdV_some h3
 refine ⟨_, ?_, (elaws_eqStmtS_l0 a b FUEL (i) k).trans h4⟩
 exact mkS_le hn ⟨hs0, hs1, hs5, trivial⟩ trivial)
def laws_eqStmtS (a : List qS) (b : List qS) (k0 : Bool → Res) : Res :=
 bif ((nI (List.length a)) != (nI (List.length b))) then
  k0 false
 else
  laws_eqStmtS_l0 a b FUEL 0
   (fun (_ : Unit) =>
    k0 true)
   (fun (_ : Unit) =>
    k0 false)
def s_laws_eqStmtS : Sig Unit := ⟨[.look y24 false, .look y24 false], [false], fun vals ext k => av vals y24 fun a vals => av vals y24 fun b vals => nl vals <| nl ext <| laws_eqStmtS a b (fun (r0 : Bool) => k [⟨.bool, false, r0, []⟩] [] [])⟩
theorem E_laws_eqStmtS (a : List qS) (a_a : Bool) (t_a : List Tag) (b : List qS) (a_b : Bool) (t_b : List Tag) (k : qK) : funC g_laws_eqStmtS [xlaws_eqStmtS_l0] (.t .o (.t .o (.t (.t .o (.t (.x 0) .o)) .o))) false Tryz.f32 [.look y24 false, .look y24 false] [false] [⟨y24, a_a, a, t_a⟩, ⟨y24, a_b, b, t_b⟩] [] k = laws_eqStmtS a b (fun (r0 : Bool) => k [⟨.bool, false, r0, []⟩] [] []) := by kernel_rfl
theorem S_laws_eqStmtS : Sound Tryz.prog 32 s_laws_eqStmtS := sound_of (Γ := g_laws_eqStmtS) (X := [xlaws_eqStmtS_l0]) (ht := (.t .o (.t .o (.t (.t .o (.t (.x 0) .o)) .o)))) (fz := false) (c := c_laws_eqStmtS) follows tysOk (fns_cons S_laws_eqStmt fns_nil) (OrOk.mk trivial ((OrOk.mk trivial ((OrOk.mk ((OrOk.mk trivial ((OrOk.mk (OrOk.x_mk (fun W0 M hnp => olaws_eqStmtS_l0 (W0 := W0) (M := M) hnp)) trivial)))) trivial))))) Tryz.func32 (by kernel_rfl) (by kernel_rfl) (by decide) (by
 intro vals ext k r h
 obtain ⟨a, a_a, t_a, vals, rfl, h1⟩ := av_some h
 obtain ⟨b, a_b, t_b, vals, rfl, h2⟩ := av_some h1
 obtain ⟨rfl, h3⟩ := nl_some h2
 obtain ⟨rfl, h4⟩ := nl_some h3
 exact (E_laws_eqStmtS a a_a t_a b a_b t_b k).trans h4)

/-! ### 33 loop.example/g00462/laws.markStmtS -/
def c_laws_markStmtS : Code := (Tryz.f33.body).getD .skip
def g_laws_markStmtS : Env Unit := ⟨tys, [(14, s_laws_markStringS), (49, s_laws_markText), (79, s_laws_markValS), (80, s_laws_markColS)], 1⟩
def laws_markStmtS_p0 (a : List qS) (k_ : Int) (i : Int) (k0 : qU → Int → Res) : Res :=
 bif inb i (List.length a) then
  laws_markValS (nth (0, eS, [], [], 0, eS, [], [], eS, eS) a i).2.2.1 k_ fun (r : Int) (a1 : List qV) =>
   k0 (upd a i ((nth (0, eS, [], [], 0, eS, [], [], eS, eS) a i).1, (nth (0, eS, [], [], 0, eS, [], [], eS, eS) a i).2.1, a1, (nth (0, eS, [], [], 0, eS, [], [], eS, eS) a i).2.2.2)) r
 else none
def xlaws_markStmtS_p0 : Node Unit := fun σ k => rdN σ 94 <| rdV σ 0 y24 false [.O] fun a => rdV σ 1 (.int .i64) false [] fun k_ => rdV σ 5 (.int .i64) false [] fun i => laws_markStmtS_p0 a k_ i (fun (a2 : List qS) (k_1 : Int) => k .normal (mkS 94 94 [(0, .val ⟨y24, false, a2, [.O]⟩), (1, .val ⟨(.int .i64), false, k_1, []⟩), (5, .val ⟨(.int .i64), false, i, []⟩)] []))
theorem elaws_markStmtS_p0 (a : List qS) (k_ : Int) (i : Int) (k : Kont Unit) : codeC g_laws_markStmtS [] .o (Code.pl (Code.pr (Code.pr (Code.pr (Code.pr (Code.pl (Code.pl (Code.pr (Code.pl (Code.pl (Code.pr (Code.pl (Code.pr c_laws_markStmtS))))))))))))) (mkS 94 94 [(0, .val ⟨y24, false, a, [.O]⟩), (1, .val ⟨(.int .i64), false, k_, []⟩), (5, .val ⟨(.int .i64), false, i, []⟩)] []) (fun e σ => k e ((cutC ([0, 1, 5], []) [] ([], [])) e σ)) = laws_markStmtS_p0 a k_ i (fun (a2 : List qS) (k_1 : Int) => k .normal (mkS 94 94 [(0, .val ⟨y24, false, a2, [.O]⟩), (1, .val ⟨(.int .i64), false, k_1, []⟩), (5, .val ⟨(.int .i64), false, i, []⟩)] [])) := by kernel_rfl
theorem olaws_markStmtS_p0 {W0 : Base} {M : Nat → Prop} (hnp : W0.np ≤ 1) : CodeOk Tryz.prog W0 M (Code.pl (Code.pr (Code.pr (Code.pr (Code.pr (Code.pl (Code.pl (Code.pr (Code.pl (Code.pl (Code.pr (Code.pl (Code.pr c_laws_markStmtS))))))))))))) xlaws_markStmtS_p0 := node_ok (code_sound follows tysOk (calls_ok (fns_cons S_laws_markStringS (fns_cons S_laws_markText (fns_cons S_laws_markValS (fns_cons S_laws_markColS fns_nil))))) hnp [] ((Code.pl (Code.pr (Code.pr (Code.pr (Code.pr (Code.pl (Code.pl (Code.pr (Code.pl (Code.pl (Code.pr (Code.pl (Code.pr c_laws_markStmtS)))))))))))))) .o trivial) (fg := (cutC ([0, 1, 5], []) [] ([], []))) (cutC_le _ _ _) (by
 intro σ k r h
 obtain ⟨hn, h1⟩ := rdN_some h
 obtain ⟨a, hs0, h2⟩ := rdV_some h1
 obtain ⟨k_, hs1, h3⟩ := rdV_some h2
 obtain ⟨i, hs5, h4⟩ := rdV_some h3
 refine ⟨_, ?_, (elaws_markStmtS_p0 a k_ i k).trans h4⟩
 exact mkS_le hn ⟨hs0, hs1, hs5, trivial⟩ trivial)
def laws_markStmtS_p1 (a : List qS) (k_ : Int) (i : Int) (k0 : qU → Res) : Res :=
 bif inb i (List.length a) then
  k0 (upd a i ((nth (0, eS, [], [], 0, eS, [], [], eS, eS) a i).1, (nth (0, eS, [], [], 0, eS, [], [], eS, eS) a i).2.1, (nth (0, eS, [], [], 0, eS, [], [], eS, eS) a i).2.2.1, (nth (0, eS, [], [], 0, eS, [], [], eS, eS) a i).2.2.2.1, k_, (nth (0, eS, [], [], 0, eS, [], [], eS, eS) a i).2.2.2.2.2))
 else none
def xlaws_markStmtS_p1 : Node Unit := fun σ k => rdN σ 94 <| rdV σ 0 y24 false [.O] fun a => rdV σ 1 (.int .i64) false [] fun k_ => rdV σ 5 (.int .i64) false [] fun i => laws_markStmtS_p1 a k_ i (fun (a1 : List qS) => k .normal (mkS 94 94 [(0, .val ⟨y24, false, a1, [.O]⟩), (1, .val ⟨(.int .i64), false, k_, []⟩), (5, .val ⟨(.int .i64), false, i, []⟩)] []))
theorem elaws_markStmtS_p1 (a : List qS) (k_ : Int) (i : Int) (k : Kont Unit) : codeC g_laws_markStmtS [xlaws_markStmtS_p0] .o (Code.pl (Code.pr (Code.pr (Code.pr (Code.pr (Code.pr (Code.pr (Code.pl (Code.pl (Code.pr (Code.pl (Code.pl (Code.pr (Code.pl (Code.pr c_laws_markStmtS))))))))))))))) (mkS 94 94 [(0, .val ⟨y24, false, a, [.O]⟩), (1, .val ⟨(.int .i64), false, k_, []⟩), (5, .val ⟨(.int .i64), false, i, []⟩)] []) (fun e σ => k e ((cutC ([0, 1, 5], []) [] ([], [])) e σ)) = laws_markStmtS_p1 a k_ i (fun (a1 : List qS) => k .normal (mkS 94 94 [(0, .val ⟨y24, false, a1, [.O]⟩), (1, .val ⟨(.int .i64), false, k_, []⟩), (5, .val ⟨(.int .i64), false, i, []⟩)] [])) := by kernel_rfl
theorem olaws_markStmtS_p1 {W0 : Base} {M : Nat → Prop} (hnp : W0.np ≤ 1) : CodeOk Tryz.prog W0 M (Code.pl (Code.pr (Code.pr (Code.pr (Code.pr (Code.pr (Code.pr (Code.pl (Code.pl (Code.pr (Code.pl (Code.pl (Code.pr (Code.pl (Code.pr c_laws_markStmtS))))))))))))))) xlaws_markStmtS_p1 := node_ok (code_sound follows tysOk (calls_ok (fns_cons S_laws_markStringS (fns_cons S_laws_markText (fns_cons S_laws_markValS (fns_cons S_laws_markColS fns_nil))))) hnp [xlaws_markStmtS_p0] ((Code.pl (Code.pr (Code.pr (Code.pr (Code.pr (Code.pr (Code.pr (Code.pl (Code.pl (Code.pr (Code.pl (Code.pl (Code.pr (Code.pl (Code.pr c_laws_markStmtS)))))))))))))))) .o trivial) (fg := (cutC ([0, 1, 5], []) [] ([], []))) (cutC_le _ _ _) (by
 intro σ k r h
 obtain ⟨hn, h1⟩ := rdN_some h
 obtain ⟨a, hs0, h2⟩ := rdV_some h1
 obtain ⟨k_, hs1, h3⟩ := rdV_some h2
 obtain ⟨i, hs5, h4⟩ := rdV_some h3
 refine ⟨_, ?_, (elaws_markStmtS_p1 a k_ i k).trans h4⟩
 exact mkS_le hn ⟨hs0, hs1, hs5, trivial⟩ trivial)
def laws_markStmtS_p2 (a : List qS) (k_ : Int) (i : Int) (k0 : qU → Int → Res) : Res :=
 bif inb i (List.length a) then
  laws_markColS (nth (0, eS, [], [], 0, eS, [], [], eS, eS) a i).2.2.2.2.2.2.1 k_ fun (r : Int) (a1 : List qC) =>
   k0 (upd a i ((nth (0, eS, [], [], 0, eS, [], [], eS, eS) a i).1, (nth (0, eS, [], [], 0, eS, [], [], eS, eS) a i).2.1, (nth (0, eS, [], [], 0, eS, [], [], eS, eS) a i).2.2.1, (nth (0, eS, [], [], 0, eS, [], [], eS, eS) a i).2.2.2.1, (nth (0, eS, [], [], 0, eS, [], [], eS, eS) a i).2.2.2.2.1, (nth (0, eS, [], [], 0, eS, [], [], eS, eS) a i).2.2.2.2.2.1, a1, (nth (0, eS, [], [], 0, eS, [], [], eS, eS) a i).2.2.2.2.2.2.2)) r
 else none
def xlaws_markStmtS_p2 : Node Unit := fun σ k => rdN σ 94 <| rdV σ 0 y24 false [.O] fun a => rdV σ 1 (.int .i64) false [] fun k_ => rdV σ 5 (.int .i64) false [] fun i => laws_markStmtS_p2 a k_ i (fun (a2 : List qS) (k_1 : Int) => k .normal (mkS 94 94 [(0, .val ⟨y24, false, a2, [.O]⟩), (1, .val ⟨(.int .i64), false, k_1, []⟩), (5, .val ⟨(.int .i64), false, i, []⟩)] []))
theorem elaws_markStmtS_p2 (a : List qS) (k_ : Int) (i : Int) (k : Kont Unit) : codeC g_laws_markStmtS [xlaws_markStmtS_p0, xlaws_markStmtS_p1] .o (Code.pl (Code.pr (Code.pr (Code.pr (Code.pr (Code.pr (Code.pr (Code.pr (Code.pr (Code.pr (Code.pr (Code.pl (Code.pl (Code.pr (Code.pl (Code.pl (Code.pr (Code.pl (Code.pr c_laws_markStmtS))))))))))))))))))) (mkS 94 94 [(0, .val ⟨y24, false, a, [.O]⟩), (1, .val ⟨(.int .i64), false, k_, []⟩), (5, .val ⟨(.int .i64), false, i, []⟩)] []) (fun e σ => k e ((cutC ([0, 1, 5], []) [] ([], [])) e σ)) = laws_markStmtS_p2 a k_ i (fun (a2 : List qS) (k_1 : Int) => k .normal (mkS 94 94 [(0, .val ⟨y24, false, a2, [.O]⟩), (1, .val ⟨(.int .i64), false, k_1, []⟩), (5, .val ⟨(.int .i64), false, i, []⟩)] [])) := by kernel_rfl
theorem olaws_markStmtS_p2 {W0 : Base} {M : Nat → Prop} (hnp : W0.np ≤ 1) : CodeOk Tryz.prog W0 M (Code.pl (Code.pr (Code.pr (Code.pr (Code.pr (Code.pr (Code.pr (Code.pr (Code.pr (Code.pr (Code.pr (Code.pl (Code.pl (Code.pr (Code.pl (Code.pl (Code.pr (Code.pl (Code.pr c_laws_markStmtS))))))))))))))))))) xlaws_markStmtS_p2 := node_ok (code_sound follows tysOk (calls_ok (fns_cons S_laws_markStringS (fns_cons S_laws_markText (fns_cons S_laws_markValS (fns_cons S_laws_markColS fns_nil))))) hnp [xlaws_markStmtS_p0, xlaws_markStmtS_p1] ((Code.pl (Code.pr (Code.pr (Code.pr (Code.pr (Code.pr (Code.pr (Code.pr (Code.pr (Code.pr (Code.pr (Code.pl (Code.pl (Code.pr (Code.pl (Code.pl (Code.pr (Code.pl (Code.pr c_laws_markStmtS)))))))))))))))))))) .o trivial) (fg := (cutC ([0, 1, 5], []) [] ([], []))) (cutC_le _ _ _) (by
 intro σ k r h
 obtain ⟨hn, h1⟩ := rdN_some h
 obtain ⟨a, hs0, h2⟩ := rdV_some h1
 obtain ⟨k_, hs1, h3⟩ := rdV_some h2
 obtain ⟨i, hs5, h4⟩ := rdV_some h3
 refine ⟨_, ?_, (elaws_markStmtS_p2 a k_ i k).trans h4⟩
 exact mkS_le hn ⟨hs0, hs1, hs5, trivial⟩ trivial)
def laws_markStmtS_p3 (a : List qS) (k_ : Int) (i : Int) (k0 : qU → Res) : Res :=
 laws_markText k_ fun (r : ByteArray) =>
  bif inb i (List.length a) then
   k0 (upd a i ((nth (0, eS, [], [], 0, eS, [], [], eS, eS) a i).1, (nth (0, eS, [], [], 0, eS, [], [], eS, eS) a i).2.1, (nth (0, eS, [], [], 0, eS, [], [], eS, eS) a i).2.2.1, (nth (0, eS, [], [], 0, eS, [], [], eS, eS) a i).2.2.2.1, (nth (0, eS, [], [], 0, eS, [], [], eS, eS) a i).2.2.2.2.1, (nth (0, eS, [], [], 0, eS, [], [], eS, eS) a i).2.2.2.2.2.1, (nth (0, eS, [], [], 0, eS, [], [], eS, eS) a i).2.2.2.2.2.2.1, (nth (0, eS, [], [], 0, eS, [], [], eS, eS) a i).2.2.2.2.2.2.2.1, r, (nth (0, eS, [], [], 0, eS, [], [], eS, eS) a i).2.2.2.2.2.2.2.2.2))
  else none
def xlaws_markStmtS_p3 : Node Unit := fun σ k => rdN σ 94 <| rdV σ 0 y24 false [.O] fun a => rdV σ 1 (.int .i64) false [] fun k_ => rdV σ 5 (.int .i64) false [] fun i => laws_markStmtS_p3 a k_ i (fun (a1 : List qS) => k .normal (mkS 94 94 [(0, .val ⟨y24, false, a1, [.O]⟩), (1, .val ⟨(.int .i64), false, k_, []⟩), (5, .val ⟨(.int .i64), false, i, []⟩)] []))
theorem elaws_markStmtS_p3 (a : List qS) (k_ : Int) (i : Int) (k : Kont Unit) : codeC g_laws_markStmtS [xlaws_markStmtS_p0, xlaws_markStmtS_p1, xlaws_markStmtS_p2] .o (Code.pl (Code.pr (Code.pr (Code.pr (Code.pr (Code.pr (Code.pr (Code.pr (Code.pr (Code.pr (Code.pr (Code.pr (Code.pr (Code.pl (Code.pl (Code.pr (Code.pl (Code.pl (Code.pr (Code.pl (Code.pr c_laws_markStmtS))))))))))))))))))))) (mkS 94 94 [(0, .val ⟨y24, false, a, [.O]⟩), (1, .val ⟨(.int .i64), false, k_, []⟩), (5, .val ⟨(.int .i64), false, i, []⟩)] []) (fun e σ => k e ((cutC ([0, 1, 5], []) [] ([], [])) e σ)) = laws_markStmtS_p3 a k_ i (fun (a1 : List qS) => k .normal (mkS 94 94 [(0, .val ⟨y24, false, a1, [.O]⟩), (1, .val ⟨(.int .i64), false, k_, []⟩), (5, .val ⟨(.int .i64), false, i, []⟩)] [])) := by kernel_rfl
theorem olaws_markStmtS_p3 {W0 : Base} {M : Nat → Prop} (hnp : W0.np ≤ 1) : CodeOk Tryz.prog W0 M (Code.pl (Code.pr (Code.pr (Code.pr (Code.pr (Code.pr (Code.pr (Code.pr (Code.pr (Code.pr (Code.pr (Code.pr (Code.pr (Code.pl (Code.pl (Code.pr (Code.pl (Code.pl (Code.pr (Code.pl (Code.pr c_laws_markStmtS))))))))))))))))))))) xlaws_markStmtS_p3 := node_ok (code_sound follows tysOk (calls_ok (fns_cons S_laws_markStringS (fns_cons S_laws_markText (fns_cons S_laws_markValS (fns_cons S_laws_markColS fns_nil))))) hnp [xlaws_markStmtS_p0, xlaws_markStmtS_p1, xlaws_markStmtS_p2] ((Code.pl (Code.pr (Code.pr (Code.pr (Code.pr (Code.pr (Code.pr (Code.pr (Code.pr (Code.pr (Code.pr (Code.pr (Code.pr (Code.pl (Code.pl (Code.pr (Code.pl (Code.pl (Code.pr (Code.pl (Code.pr c_laws_markStmtS)))))))))))))))))))))) .o trivial) (fg := (cutC ([0, 1, 5], []) [] ([], []))) (cutC_le _ _ _) (by
 intro σ k r h
 obtain ⟨hn, h1⟩ := rdN_some h
 obtain ⟨a, hs0, h2⟩ := rdV_some h1
 obtain ⟨k_, hs1, h3⟩ := rdV_some h2
 obtain ⟨i, hs5, h4⟩ := rdV_some h3
 refine ⟨_, ?_, (elaws_markStmtS_p3 a k_ i k).trans h4⟩
 exact mkS_le hn ⟨hs0, hs1, hs5, trivial⟩ trivial)
def laws_markStmtS_l4_r (a : List qS) (k_ : Int) (i : Int) (rec : qU → Int → Int → Res) (k0 : qU → Int → Res) : Res :=
 bif decide (i < (nI (List.length a))) then
  bif inb i (List.length a) then
   laws_markText (wi64 (k_ + 1)) fun (r : ByteArray) =>
    bif inb i (List.length (upd a i (k_, (nth (0, eS, [], [], 0, eS, [], [], eS, eS) a i).2))) then
     laws_markStmtS_p0 (upd (upd a i (k_, (nth (0, eS, [], [], 0, eS, [], [], eS, eS) a i).2)) i ((nth (0, eS, [], [], 0, eS, [], [], eS, eS) (upd a i (k_, (nth (0, eS, [], [], 0, eS, [], [], eS, eS) a i).2)) i).1, r, (nth (0, eS, [], [], 0, eS, [], [], eS, eS) (upd a i (k_, (nth (0, eS, [], [], 0, eS, [], [], eS, eS) a i).2)) i).2.2)) (wi64 ((wi64 (k_ + 1)) + 1)) i fun (a1 : List qS) (k_1 : Int) =>
      bif inb i (List.length a1) then
       laws_markValS (nth (0, eS, [], [], 0, eS, [], [], eS, eS) a1 i).2.2.2.1 k_1 fun (r1 : Int) (a2 : List qV) =>
        laws_markStmtS_p1 (upd a1 i ((nth (0, eS, [], [], 0, eS, [], [], eS, eS) a1 i).1, (nth (0, eS, [], [], 0, eS, [], [], eS, eS) a1 i).2.1, (nth (0, eS, [], [], 0, eS, [], [], eS, eS) a1 i).2.2.1, a2, (nth (0, eS, [], [], 0, eS, [], [], eS, eS) a1 i).2.2.2.2)) r1 i fun (a3 : List qS) =>
         laws_markText (wi64 (r1 + 1)) fun (r2 : ByteArray) =>
          bif inb i (List.length a3) then
           laws_markStmtS_p2 (upd a3 i ((nth (0, eS, [], [], 0, eS, [], [], eS, eS) a3 i).1, (nth (0, eS, [], [], 0, eS, [], [], eS, eS) a3 i).2.1, (nth (0, eS, [], [], 0, eS, [], [], eS, eS) a3 i).2.2.1, (nth (0, eS, [], [], 0, eS, [], [], eS, eS) a3 i).2.2.2.1, (nth (0, eS, [], [], 0, eS, [], [], eS, eS) a3 i).2.2.2.2.1, r2, (nth (0, eS, [], [], 0, eS, [], [], eS, eS) a3 i).2.2.2.2.2.2)) (wi64 ((wi64 (r1 + 1)) + 1)) i fun (a4 : List qS) (k_2 : Int) =>
            bif inb i (List.length a4) then
             laws_markStringS (nth (0, eS, [], [], 0, eS, [], [], eS, eS) a4 i).2.2.2.2.2.2.2.1 k_2 fun (r3 : Int) (a5 : List ByteArray) =>
              laws_markStmtS_p3 (upd a4 i ((nth (0, eS, [], [], 0, eS, [], [], eS, eS) a4 i).1, (nth (0, eS, [], [], 0, eS, [], [], eS, eS) a4 i).2.1, (nth (0, eS, [], [], 0, eS, [], [], eS, eS) a4 i).2.2.1, (nth (0, eS, [], [], 0, eS, [], [], eS, eS) a4 i).2.2.2.1, (nth (0, eS, [], [], 0, eS, [], [], eS, eS) a4 i).2.2.2.2.1, (nth (0, eS, [], [], 0, eS, [], [], eS, eS) a4 i).2.2.2.2.2.1, (nth (0, eS, [], [], 0, eS, [], [], eS, eS) a4 i).2.2.2.2.2.2.1, a5, (nth (0, eS, [], [], 0, eS, [], [], eS, eS) a4 i).2.2.2.2.2.2.2.2)) r3 i fun (a6 : List qS) =>
               laws_markText (wi64 (r3 + 1)) fun (r4 : ByteArray) =>
                bif inb i (List.length a6) then
                 rec (upd a6 i ((nth (0, eS, [], [], 0, eS, [], [], eS, eS) a6 i).1, (nth (0, eS, [], [], 0, eS, [], [], eS, eS) a6 i).2.1, (nth (0, eS, [], [], 0, eS, [], [], eS, eS) a6 i).2.2.1, (nth (0, eS, [], [], 0, eS, [], [], eS, eS) a6 i).2.2.2.1, (nth (0, eS, [], [], 0, eS, [], [], eS, eS) a6 i).2.2.2.2.1, (nth (0, eS, [], [], 0, eS, [], [], eS, eS) a6 i).2.2.2.2.2.1, (nth (0, eS, [], [], 0, eS, [], [], eS, eS) a6 i).2.2.2.2.2.2.1, (nth (0, eS, [], [], 0, eS, [], [], eS, eS) a6 i).2.2.2.2.2.2.2.1, (nth (0, eS, [], [], 0, eS, [], [], eS, eS) a6 i).2.2.2.2.2.2.2.2.1, r4)) (wi64 ((wi64 (r3 + 1)) + 1)) (wi64 (i + 1))
                else none
            else none
          else none
      else none
    else none
  else none
 else
  k0 a k_
def laws_markStmtS_l4_s : (qU × Int × Int) → (qU × Int × Int → Res) → ((qU → Int → Res)) → Res := fun v rec q => laws_markStmtS_l4_r v.1 v.2.1 v.2.2 (fun a k_ i => rec (a, k_, i)) q
def laws_markStmtS_l4 (n : Nat) (a : List qS) (k_ : Int) (i : Int) (k0 : qU → Int → Res) : Res := iter (laws_markStmtS_l4_s) n (a, k_, i) (k0)
def xlaws_markStmtS_l4 : Node Unit := fun σ k => rdN σ 94 <| rdV σ 0 y24 false [.O] fun a => rdV σ 1 (.int .i64) false [] fun k_ => rdV σ 5 (.int .i64) false [] fun i => laws_markStmtS_l4 FUEL a k_ i (fun (a7 : List qS) (k_3 : Int) => k (.exit 0) (mkS 94 94 [(0, .val ⟨y24, false, a7, [.O]⟩), (1, .val ⟨(.int .i64), false, k_3, []⟩)] []))
theorem elaws_markStmtS_l4  (n : Nat) (v : qU × Int × Int) (k : Kont Unit) : loopC (codeC g_laws_markStmtS [xlaws_markStmtS_p0, xlaws_markStmtS_p1, xlaws_markStmtS_p2, xlaws_markStmtS_p3] (.t .o (.t (.t (.t .o (.t .o (.t .o (.t .o (.t (.x 0) (.t .o (.t (.x 1) (.t .o (.t .o (.t .o (.t (.x 2) (.t .o (.t (.x 3) .o))))))))))))) .o) .o)) (Code.pl (Code.pl (Code.pr (Code.pl (Code.pr c_laws_markStmtS)))))) (fun σ => σ.forget [0, 1, 5] []) (cutC ([], []) [(0, [0, 1], [])] ([], [])) n (mkS 94 94 [(0, .val ⟨y24, false, v.1, [.O]⟩), (1, .val ⟨(.int .i64), false, v.2.1, []⟩), (5, .val ⟨(.int .i64), false, v.2.2, []⟩)] []) k = iter (laws_markStmtS_l4_s) n v ((fun (k : Kont Unit) => (((fun (a7 : List qS) (k_3 : Int) => k (.exit 0) (mkS 94 94 [(0, .val ⟨y24, false, a7, [.O]⟩), (1, .val ⟨(.int .i64), false, k_3, []⟩)] []))) : (qU → Int → Res))) k) := loop_eq (fun v : qU × Int × Int => (mkS 94 94 [(0, .val ⟨y24, false, v.1, [.O]⟩), (1, .val ⟨(.int .i64), false, v.2.1, []⟩), (5, .val ⟨(.int .i64), false, v.2.2, []⟩)] [])) (laws_markStmtS_l4_s) (fun (k : Kont Unit) => (((fun (a7 : List qS) (k_3 : Int) => k (.exit 0) (mkS 94 94 [(0, .val ⟨y24, false, a7, [.O]⟩), (1, .val ⟨(.int .i64), false, k_3, []⟩)] []))) : (qU → Int → Res))) (fun v rec k => by kernel_rfl) n v k
theorem olaws_markStmtS_l4 {W0 : Base} {M : Nat → Prop} (hnp : W0.np ≤ 1) : CodeOk Tryz.prog W0 M (Code.pl (Code.pr (Code.pl (Code.pr c_laws_markStmtS)))) xlaws_markStmtS_l4 := show CodeOk Tryz.prog W0 M (Code.loop (Code.pl (Code.pl (Code.pr (Code.pl (Code.pr c_laws_markStmtS)))))) xlaws_markStmtS_l4 from loop_ok (code_sound follows tysOk (calls_ok (fns_cons S_laws_markStringS (fns_cons S_laws_markText (fns_cons S_laws_markValS (fns_cons S_laws_markColS fns_nil))))) hnp [xlaws_markStmtS_p0, xlaws_markStmtS_p1, xlaws_markStmtS_p2, xlaws_markStmtS_p3] (Code.pl (Code.pl (Code.pr (Code.pl (Code.pr c_laws_markStmtS))))) (.t .o (.t (.t (.t .o (.t .o (.t .o (.t .o (.t (.x 0) (.t .o (.t (.x 1) (.t .o (.t .o (.t .o (.t (.x 2) (.t .o (.t (.x 3) .o))))))))))))) .o) .o)) (OrOk.mk trivial ((OrOk.mk ((OrOk.mk ((OrOk.mk trivial ((OrOk.mk trivial ((OrOk.mk trivial ((OrOk.mk trivial ((OrOk.mk (OrOk.x_mk (fun W0 M hnp => olaws_markStmtS_p0 (W0 := W0) (M := M) hnp)) ((OrOk.mk trivial ((OrOk.mk (OrOk.x_mk (fun W0 M hnp => olaws_markStmtS_p1 (W0 := W0) (M := M) hnp)) ((OrOk.mk trivial ((OrOk.mk trivial ((OrOk.mk trivial ((OrOk.mk (OrOk.x_mk (fun W0 M hnp => olaws_markStmtS_p2 (W0 := W0) (M := M) hnp)) ((OrOk.mk trivial ((OrOk.mk (OrOk.x_mk (fun W0 M hnp => olaws_markStmtS_p3 (W0 := W0) (M := M) hnp)) trivial)))))))))))))))))))))))))) trivial)) trivial)))) (ks := [0, 1, 5]) (bs := []) (fX := (cutC ([], []) [(0, [0, 1], [])] ([], []))) (cutC_le _ _ _) FUEL (by
 intro σ k r h
 obtain ⟨hn, h1⟩ := rdN_some h
 obtain ⟨a, hs0, h2⟩ := rdV_some h1
 obtain ⟨k_, hs1, h3⟩ := rdV_some h2
 obtain ⟨i, hs5, h4⟩ := rdV_some h3
 refine ⟨_, ?_, (elaws_markStmtS_l4  FUEL (a, k_, i) k).trans h4⟩
 exact mkS_le hn ⟨hs0, hs1, hs5, trivial⟩ trivial)
def laws_markStmtS (a : List qS) (k_ : Int) (k0 : Int → qU → Res) : Res :=
 laws_markStmtS_l4 FUEL a k_ 0 fun (a1 : List qS) (k_1 : Int) =>
  k0 k_1 a1
def s_laws_markStmtS : Sig Unit := ⟨[.inout y24 false, .borrow (.int .i64) false], [false], fun vals ext k => ao vals y24 [.O] fun a vals => av vals (.int .i64) fun k_ vals => nl vals <| nl ext <| laws_markStmtS a k_ (fun (r0 : Int) (i0 : List qS) => k [⟨(.int .i64), false, r0, []⟩] [⟨y24, false, i0, [.O]⟩] [])⟩
theorem E_laws_markStmtS (a_a : Bool) (a : List qS) (k_ : Int) (a_k_ : Bool) (t_k_ : List Tag) (k : qK) : funC g_laws_markStmtS [xlaws_markStmtS_p0, xlaws_markStmtS_p1, xlaws_markStmtS_p2, xlaws_markStmtS_p3, xlaws_markStmtS_l4] (.t .o (.t (.t .o (.t (.x 4) .o)) .o)) false Tryz.f33 [.inout y24 false, .borrow (.int .i64) false] [false] [⟨y24, a_a, a, [.O]⟩, ⟨(.int .i64), a_k_, k_, t_k_⟩] [] k = laws_markStmtS a k_ (fun (r0 : Int) (i0 : List qS) => k [⟨(.int .i64), false, r0, []⟩] [⟨y24, false, i0, [.O]⟩] []) := by kernel_rfl
theorem S_laws_markStmtS : Sound Tryz.prog 33 s_laws_markStmtS := sound_of (Γ := g_laws_markStmtS) (X := [xlaws_markStmtS_p0, xlaws_markStmtS_p1, xlaws_markStmtS_p2, xlaws_markStmtS_p3, xlaws_markStmtS_l4]) (ht := (.t .o (.t (.t .o (.t (.x 4) .o)) .o))) (fz := false) (c := c_laws_markStmtS) follows tysOk (fns_cons S_laws_markStringS (fns_cons S_laws_markText (fns_cons S_laws_markValS (fns_cons S_laws_markColS fns_nil)))) (OrOk.mk trivial ((OrOk.mk ((OrOk.mk trivial ((OrOk.mk (OrOk.x_mk (fun W0 M hnp => olaws_markStmtS_l4 (W0 := W0) (M := M) hnp)) trivial)))) trivial))) Tryz.func33 (by kernel_rfl) (by kernel_rfl) (by decide) (by
 intro vals ext k r h
 obtain ⟨a_a, a, vals, rfl, h1⟩ := ao_some h
 obtain ⟨k_, a_k_, t_k_, vals, rfl, h2⟩ := av_some h1
 obtain ⟨rfl, h3⟩ := nl_some h2
 obtain ⟨rfl, h4⟩ := nl_some h3
 exact (E_laws_markStmtS a_a a k_ a_k_ t_k_ k).trans h4)

/-! ### 34 loop.example/g00462/laws.heldStmtS -/
def c_laws_heldStmtS : Code := (Tryz.f34.body).getD .skip
def g_laws_heldStmtS : Env Unit := ⟨tys, [(15, s_laws_heldStringS), (49, s_laws_markText), (81, s_laws_heldValS), (82, s_laws_heldColS)], 0⟩
def laws_heldStmtS_l0_r (a : List qS) (k_ : Int) (i : Int) (rec : Int → Int → Res) (k0 : Int → Res) (k1 : Unit → Res) : Res :=
 bif decide (i < (nI (List.length a))) then
  bif inb i (List.length a) then
   bif ((nth (0, eS, [], [], 0, eS, [], [], eS, eS) a i).1 != k_) then
    k1 ()
   else
    bif inb i (List.length a) then
     laws_markText (wi64 (k_ + 1)) fun (r : ByteArray) =>
      bif sNe (nth (0, eS, [], [], 0, eS, [], [], eS, eS) a i).2.1 r then
       k1 ()
      else
       bif inb i (List.length a) then
        laws_heldValS (nth (0, eS, [], [], 0, eS, [], [], eS, eS) a i).2.2.1 (wi64 ((wi64 (k_ + 1)) + 1)) fun (r1 : Int) =>
         bif decide (r1 < 0) then
          k1 ()
         else
          bif inb i (List.length a) then
           laws_heldValS (nth (0, eS, [], [], 0, eS, [], [], eS, eS) a i).2.2.2.1 r1 fun (r2 : Int) =>
            bif decide (r2 < 0) then
             k1 ()
            else
             bif inb i (List.length a) then
              bif ((nth (0, eS, [], [], 0, eS, [], [], eS, eS) a i).2.2.2.2.1 != r2) then
               k1 ()
              else
               bif inb i (List.length a) then
                laws_markText (wi64 (r2 + 1)) fun (r3 : ByteArray) =>
                 bif sNe (nth (0, eS, [], [], 0, eS, [], [], eS, eS) a i).2.2.2.2.2.1 r3 then
                  k1 ()
                 else
                  bif inb i (List.length a) then
                   laws_heldColS (nth (0, eS, [], [], 0, eS, [], [], eS, eS) a i).2.2.2.2.2.2.1 (wi64 ((wi64 (r2 + 1)) + 1)) fun (r4 : Int) =>
                    bif decide (r4 < 0) then
                     k1 ()
                    else
                     bif inb i (List.length a) then
                      laws_heldStringS (nth (0, eS, [], [], 0, eS, [], [], eS, eS) a i).2.2.2.2.2.2.2.1 r4 fun (r5 : Int) =>
                       bif decide (r5 < 0) then
                        k1 ()
                       else
                        bif inb i (List.length a) then
                         laws_markText r5 fun (r6 : ByteArray) =>
                          bif sNe (nth (0, eS, [], [], 0, eS, [], [], eS, eS) a i).2.2.2.2.2.2.2.2.1 r6 then
                           k1 ()
                          else
                           bif inb i (List.length a) then
                            laws_markText (wi64 (r5 + 1)) fun (r7 : ByteArray) =>
                             bif sNe (nth (0, eS, [], [], 0, eS, [], [], eS, eS) a i).2.2.2.2.2.2.2.2.2 r7 then
                              k1 ()
                             else
                              rec (wi64 ((wi64 (r5 + 1)) + 1)) (wi64 (i + 1))
                           else none
                        else none
                     else none
                  else none
               else none
             else none
          else none
       else none
    else none
  else none
 else
  k0 k_
def laws_heldStmtS_l0_s (a : List qS) : (Int × Int) → (Int × Int → Res) → ((Int → Res) × (Unit → Res)) → Res := fun v rec q => laws_heldStmtS_l0_r a v.1 v.2 (fun k_ i => rec (k_, i)) q.1 q.2
def laws_heldStmtS_l0 (a : List qS) (n : Nat) (k_ : Int) (i : Int) (k0 : Int → Res) (k1 : Unit → Res) : Res := iter (laws_heldStmtS_l0_s a) n (k_, i) (k0, k1)
def xlaws_heldStmtS_l0 : Node Unit := fun σ k => rdN σ 114 <| rdV σ 0 y24 false [.S] fun a => rdV σ 1 (.int .i64) false [] fun k_ => rdV σ 5 (.int .i64) false [] fun i => laws_heldStmtS_l0 a FUEL k_ i (fun (k_1 : Int) => k (.exit 0) (mkS 114 114 [(1, .val ⟨(.int .i64), false, k_1, []⟩)] [])) (fun (_ : Unit) => k .ret (mkS 114 114 [(4, .val ⟨(.int .i64), false, (-1), []⟩)] []))
theorem elaws_heldStmtS_l0 (a : List qS) (n : Nat) (v : Int × Int) (k : Kont Unit) : loopC (codeC g_laws_heldStmtS [] .o (Code.pl (Code.pl (Code.pr (Code.pl (Code.pr c_laws_heldStmtS)))))) (fun σ => σ.forget [0, 1, 5] []) (cutC ([], []) [(0, [1], [])] ([4], [])) n (mkS 114 114 [(0, .val ⟨y24, false, a, [.S]⟩), (1, .val ⟨(.int .i64), false, v.1, []⟩), (5, .val ⟨(.int .i64), false, v.2, []⟩)] []) k = iter (laws_heldStmtS_l0_s a) n v ((fun (k : Kont Unit) => (((fun (k_1 : Int) => k (.exit 0) (mkS 114 114 [(1, .val ⟨(.int .i64), false, k_1, []⟩)] [])), (fun (_ : Unit) => k .ret (mkS 114 114 [(4, .val ⟨(.int .i64), false, (-1), []⟩)] []))) : (Int → Res) × (Unit → Res))) k) := loop_eq (fun v : Int × Int => (mkS 114 114 [(0, .val ⟨y24, false, a, [.S]⟩), (1, .val ⟨(.int .i64), false, v.1, []⟩), (5, .val ⟨(.int .i64), false, v.2, []⟩)] [])) (laws_heldStmtS_l0_s a) (fun (k : Kont Unit) => (((fun (k_1 : Int) => k (.exit 0) (mkS 114 114 [(1, .val ⟨(.int .i64), false, k_1, []⟩)] [])), (fun (_ : Unit) => k .ret (mkS 114 114 [(4, .val ⟨(.int .i64), false, (-1), []⟩)] []))) : (Int → Res) × (Unit → Res))) (fun v rec k => by kernel_rfl) n v k
theorem olaws_heldStmtS_l0 {W0 : Base} {M : Nat → Prop} (hnp : W0.np ≤ 0) : CodeOk Tryz.prog W0 M (Code.pl (Code.pr (Code.pl (Code.pr c_laws_heldStmtS)))) xlaws_heldStmtS_l0 := show CodeOk Tryz.prog W0 M (Code.loop (Code.pl (Code.pl (Code.pr (Code.pl (Code.pr c_laws_heldStmtS)))))) xlaws_heldStmtS_l0 from loop_ok (code_sound follows tysOk (calls_ok (fns_cons S_laws_heldStringS (fns_cons S_laws_markText (fns_cons S_laws_heldValS (fns_cons S_laws_heldColS fns_nil))))) hnp [] (Code.pl (Code.pl (Code.pr (Code.pl (Code.pr c_laws_heldStmtS))))) .o trivial) (ks := [0, 1, 5]) (bs := []) (fX := (cutC ([], []) [(0, [1], [])] ([4], []))) (cutC_le _ _ _) FUEL (by
 intro σ k r h
 obtain ⟨hn, h1⟩ := rdN_some h
 obtain ⟨a, hs0, h2⟩ := rdV_some h1
 obtain ⟨k_, hs1, h3⟩ := rdV_some h2
 obtain ⟨i, hs5, h4⟩ := rdV_some h3
 refine ⟨_, ?_, (elaws_heldStmtS_l0 a FUEL (k_, i) k).trans h4⟩
 exact mkS_le hn ⟨hs0, hs1, hs5, trivial⟩ trivial)
def laws_heldStmtS (a : List qS) (k_ : Int) (k0 : Int → Res) : Res :=
 laws_heldStmtS_l0 a FUEL k_ 0
  (fun (k_1 : Int) =>
   k0 k_1)
  (fun (_ : Unit) =>
   k0 (-1))
def s_laws_heldStmtS : Sig Unit := ⟨[.look y24 false, .look (.int .i64) false], [false], fun vals ext k => av vals y24 fun a vals => av vals (.int .i64) fun k_ vals => nl vals <| nl ext <| laws_heldStmtS a k_ (fun (r0 : Int) => k [⟨(.int .i64), false, r0, []⟩] [] [])⟩
theorem E_laws_heldStmtS (a : List qS) (a_a : Bool) (t_a : List Tag) (k_ : Int) (a_k_ : Bool) (t_k_ : List Tag) (k : qK) : funC g_laws_heldStmtS [xlaws_heldStmtS_l0] (.t .o (.t (.t .o (.t (.x 0) .o)) .o)) false Tryz.f34 [.look y24 false, .look (.int .i64) false] [false] [⟨y24, a_a, a, t_a⟩, ⟨(.int .i64), a_k_, k_, t_k_⟩] [] k = laws_heldStmtS a k_ (fun (r0 : Int) => k [⟨(.int .i64), false, r0, []⟩] [] []) := by kernel_rfl
theorem S_laws_heldStmtS : Sound Tryz.prog 34 s_laws_heldStmtS := sound_of (Γ := g_laws_heldStmtS) (X := [xlaws_heldStmtS_l0]) (ht := (.t .o (.t (.t .o (.t (.x 0) .o)) .o))) (fz := false) (c := c_laws_heldStmtS) follows tysOk (fns_cons S_laws_heldStringS (fns_cons S_laws_markText (fns_cons S_laws_heldValS (fns_cons S_laws_heldColS fns_nil)))) (OrOk.mk trivial ((OrOk.mk ((OrOk.mk trivial ((OrOk.mk (OrOk.x_mk (fun W0 M hnp => olaws_heldStmtS_l0 (W0 := W0) (M := M) hnp)) trivial)))) trivial))) Tryz.func34 (by kernel_rfl) (by kernel_rfl) (by decide) (by
 intro vals ext k r h
 obtain ⟨a, a_a, t_a, vals, rfl, h1⟩ := av_some h
 obtain ⟨k_, a_k_, t_k_, vals, rfl, h2⟩ := av_some h1
 obtain ⟨rfl, h3⟩ := nl_some h2
 obtain ⟨rfl, h4⟩ := nl_some h3
 exact (E_laws_heldStmtS a a_a t_a k_ a_k_ t_k_ k).trans h4)
end Go.PI.G
end
noncomputable section
namespace Go.PI.G
open Go Go.PI Go.Proofs

/-! ### 6 loop.example/g00462/laws.FnExactMend -/
def c_laws_FnExactMend : Code := (Tryz.f6.body).getD .skip
def g_laws_FnExactMend : Env Unit := ⟨tys, [(7, s_laws_szDb), (9, s_laws_toDb), (12, s_laws_eqDb), (13, s_laws_markDb), (30, s_spec_Mend), (31, s_impl_Mend), (32, s_laws_eqStmtS), (33, s_laws_markStmtS), (34, s_laws_heldStmtS)], 0⟩
def laws_FnExactMend_p0 (w0 : List qS) (w1 : Bool) (g0 : List qS) (m : Int) (q_ : Int) (aA : qF × List qR) (aB : qF × List qR) (k0 : Bool → Res) : Res :=
 bif (q_ != m) then
  k0 false
 else
  laws_toDb aA fun (r : qF × List qR) =>
   laws_toDb aB fun (r1 : qF × List qR) =>
    impl_Mend r r1 fun (r2 : List qS) (r3 : Bool) =>
     laws_eqStmtS r2 w0 fun (r4 : Bool) =>
      bif !r4 then
       k0 false
      else
       bif !(r3 == w1) then
        k0 false
       else
        laws_heldStmtS g0 1 fun (r5 : Int) =>
         bif decide (r5 < 0) then
          k0 false
         else
          bif (r5 != m) then
           k0 false
          else
           k0 true
def xlaws_FnExactMend_p0 : Node Unit := fun σ k => rdN σ 119 <| rdT σ 2 (.ptr ⟨true, 2, []⟩) <| rdT σ 3 (.ptr ⟨true, 3, []⟩) <| rdV σ 6 y24 false [.O] fun w0 => rdV σ 7 .bool false [] fun w1 => rdV σ 10 y24 false [.O] fun g0 => rdV σ 13 (.int .i64) false [] fun m => rdV σ 14 (.int .i64) false [] fun q_ => rdB σ 2 y14 [.S, .S] fun a aA => rdB σ 3 y14 [.S, .S] fun a1 aB => laws_FnExactMend_p0 w0 w1 g0 m q_ aA aB (fun (t4 : Bool) => k .ret (mkS 119 119 [(4, .val ⟨.bool, false, t4, []⟩)] []))
theorem elaws_FnExactMend_p0 (w0 : List qS) (w1 : Bool) (g0 : List qS) (m : Int) (q_ : Int) (a : Bool) (aA : qF × List qR) (a1 : Bool) (aB : qF × List qR) (k : Kont Unit) : codeC g_laws_FnExactMend [] .o (Code.pr (Code.pr (Code.pr (Code.pr (Code.pr (Code.pr (Code.pr (Code.pr (Code.pr (Code.pr (Code.pr (Code.pr (Code.pr (Code.pr (Code.pr (Code.pr (Code.pr (Code.pr (Code.pr (Code.pr (Code.pr (Code.pr c_laws_FnExactMend)))))))))))))))))))))) (mkS 119 119 [(2, .ptr ⟨true, 2, []⟩), (3, .ptr ⟨true, 3, []⟩), (6, .val ⟨y24, false, w0, [.O]⟩), (7, .val ⟨.bool, false, w1, []⟩), (10, .val ⟨y24, false, g0, [.O]⟩), (13, .val ⟨(.int .i64), false, m, []⟩), (14, .val ⟨(.int .i64), false, q_, []⟩)] [(2, ⟨y14, a, aA, [.S, .S]⟩), (3, ⟨y14, a1, aB, [.S, .S]⟩)]) (fun e σ => k e ((cutC ([], []) [] ([4], [])) e σ)) = laws_FnExactMend_p0 w0 w1 g0 m q_ aA aB (fun (t4 : Bool) => k .ret (mkS 119 119 [(4, .val ⟨.bool, false, t4, []⟩)] [])) := by kernel_rfl
theorem olaws_FnExactMend_p0 {W0 : Base} {M : Nat → Prop} (hnp : W0.np ≤ 0) : CodeOk Tryz.prog W0 M (Code.pr (Code.pr (Code.pr (Code.pr (Code.pr (Code.pr (Code.pr (Code.pr (Code.pr (Code.pr (Code.pr (Code.pr (Code.pr (Code.pr (Code.pr (Code.pr (Code.pr (Code.pr (Code.pr (Code.pr (Code.pr (Code.pr c_laws_FnExactMend)))))))))))))))))))))) xlaws_FnExactMend_p0 := node_ok (code_sound follows tysOk (calls_ok (fns_cons S_laws_szDb (fns_cons S_laws_toDb (fns_cons S_laws_eqDb (fns_cons S_laws_markDb (fns_cons S_spec_Mend (fns_cons S_impl_Mend (fns_cons S_laws_eqStmtS (fns_cons S_laws_markStmtS (fns_cons S_laws_heldStmtS fns_nil)))))))))) hnp [] ((Code.pr (Code.pr (Code.pr (Code.pr (Code.pr (Code.pr (Code.pr (Code.pr (Code.pr (Code.pr (Code.pr (Code.pr (Code.pr (Code.pr (Code.pr (Code.pr (Code.pr (Code.pr (Code.pr (Code.pr (Code.pr (Code.pr c_laws_FnExactMend))))))))))))))))))))))) .o trivial) (fg := (cutC ([], []) [] ([4], []))) (cutC_le _ _ _) (by
 intro σ k r h
 obtain ⟨hn, h1⟩ := rdN_some h
 obtain ⟨hs2, h2⟩ := rdT_some h1
 obtain ⟨hs3, h3⟩ := rdT_some h2
 obtain ⟨w0, hs6, h4⟩ := rdV_some h3
 obtain ⟨w1, hs7, h5⟩ := rdV_some h4
 obtain ⟨g0, hs10, h6⟩ := rdV_some h5
 obtain ⟨m, hs13, h7⟩ := rdV_some h6
 obtain ⟨q_, hs14, h8⟩ := rdV_some h7
 obtain ⟨a, aA, hb2, h9⟩ := rdB_some h8
 obtain ⟨a1, aB, hb3, h10⟩ := rdB_some h9
 refine ⟨_, ?_, (elaws_FnExactMend_p0 w0 w1 g0 m q_ a aA a1 aB k).trans h10⟩
 exact mkS_le hn ⟨hs2, hs3, hs6, hs7, hs10, hs13, hs14, trivial⟩ ⟨hb2, hb3, trivial⟩)
def laws_FnExactMend_p1 (w0 : List qS) (w1 : Bool) (g0 : List qS) (g1 : Bool) (aA : qF × List qR) (aB : qF × List qR) (x0 : qF × List qR) (x1 : qF × List qR) (k0 : Bool → Res) : Res :=
 laws_markDb x0 1 fun (r : Int) (a4 : qF × List qR) =>
  laws_markDb x1 r fun (r1 : Int) (a5 : qF × List qR) =>
   bif decide (r1 < 0) then
    k0 false
   else
    laws_eqStmtS g0 w0 fun (r2 : Bool) =>
     bif !r2 then
      k0 false
     else
      bif !(g1 == w1) then
       k0 false
      else
       laws_markStmtS g0 1 fun (r3 : Int) (a6 : List qS) =>
        laws_heldStmtS a6 1 fun (r4 : Int) =>
         bif decide (r4 < 0) then
          k0 false
         else
          laws_FnExactMend_p0 w0 w1 a6 r3 r4 aA aB fun (t : Bool) =>
           k0 t
def xlaws_FnExactMend_p1 : Node Unit := fun σ k => rdN σ 119 <| rdT σ 2 (.ptr ⟨true, 2, []⟩) <| rdT σ 3 (.ptr ⟨true, 3, []⟩) <| rdV σ 6 y24 false [.O] fun w0 => rdV σ 7 .bool false [] fun w1 => rdT σ 8 (.ptr ⟨true, 8, []⟩) <| rdT σ 9 (.ptr ⟨true, 9, []⟩) <| rdV σ 10 y24 false [.O] fun g0 => rdV σ 11 .bool false [] fun g1 => rdB σ 2 y14 [.S, .S] fun a aA => rdB σ 3 y14 [.S, .S] fun a1 aB => rdB σ 8 y14 [.O, .O] fun a2 x0 => rdB σ 9 y14 [.O, .O] fun a3 x1 => laws_FnExactMend_p1 w0 w1 g0 g1 aA aB x0 x1 (fun (t4 : Bool) => k .ret (mkS 119 119 [(4, .val ⟨.bool, false, t4, []⟩)] []))
theorem elaws_FnExactMend_p1 (w0 : List qS) (w1 : Bool) (g0 : List qS) (g1 : Bool) (a : Bool) (aA : qF × List qR) (a1 : Bool) (aB : qF × List qR) (a2 : Bool) (x0 : qF × List qR) (a3 : Bool) (x1 : qF × List qR) (k : Kont Unit) : codeC g_laws_FnExactMend [xlaws_FnExactMend_p0] (.t .o (.t .o (.t .o (.t .o (.t .o (.t .o (.t .o (.t .o (.t .o (.x 0)))))))))) (Code.pr (Code.pr (Code.pr (Code.pr (Code.pr (Code.pr (Code.pr (Code.pr (Code.pr (Code.pr (Code.pr (Code.pr (Code.pr c_laws_FnExactMend))))))))))))) (mkS 119 119 [(2, .ptr ⟨true, 2, []⟩), (3, .ptr ⟨true, 3, []⟩), (6, .val ⟨y24, false, w0, [.O]⟩), (7, .val ⟨.bool, false, w1, []⟩), (8, .ptr ⟨true, 8, []⟩), (9, .ptr ⟨true, 9, []⟩), (10, .val ⟨y24, false, g0, [.O]⟩), (11, .val ⟨.bool, false, g1, []⟩)] [(2, ⟨y14, a, aA, [.S, .S]⟩), (3, ⟨y14, a1, aB, [.S, .S]⟩), (8, ⟨y14, a2, x0, [.O, .O]⟩), (9, ⟨y14, a3, x1, [.O, .O]⟩)]) (fun e σ => k e ((cutC ([], []) [] ([4], [])) e σ)) = laws_FnExactMend_p1 w0 w1 g0 g1 aA aB x0 x1 (fun (t4 : Bool) => k .ret (mkS 119 119 [(4, .val ⟨.bool, false, t4, []⟩)] [])) := by kernel_rfl
theorem olaws_FnExactMend_p1 {W0 : Base} {M : Nat → Prop} (hnp : W0.np ≤ 0) : CodeOk Tryz.prog W0 M (Code.pr (Code.pr (Code.pr (Code.pr (Code.pr (Code.pr (Code.pr (Code.pr (Code.pr (Code.pr (Code.pr (Code.pr (Code.pr c_laws_FnExactMend))))))))))))) xlaws_FnExactMend_p1 := node_ok (code_sound follows tysOk (calls_ok (fns_cons S_laws_szDb (fns_cons S_laws_toDb (fns_cons S_laws_eqDb (fns_cons S_laws_markDb (fns_cons S_spec_Mend (fns_cons S_impl_Mend (fns_cons S_laws_eqStmtS (fns_cons S_laws_markStmtS (fns_cons S_laws_heldStmtS fns_nil)))))))))) hnp [xlaws_FnExactMend_p0] ((Code.pr (Code.pr (Code.pr (Code.pr (Code.pr (Code.pr (Code.pr (Code.pr (Code.pr (Code.pr (Code.pr (Code.pr (Code.pr c_laws_FnExactMend)))))))))))))) (.t .o (.t .o (.t .o (.t .o (.t .o (.t .o (.t .o (.t .o (.t .o (.x 0)))))))))) (OrOk.mk trivial ((OrOk.mk trivial ((OrOk.mk trivial ((OrOk.mk trivial ((OrOk.mk trivial ((OrOk.mk trivial ((OrOk.mk trivial ((OrOk.mk trivial ((OrOk.mk trivial (OrOk.x_mk (fun W0 M hnp => olaws_FnExactMend_p0 (W0 := W0) (M := M) hnp)))))))))))))))))))) (fg := (cutC ([], []) [] ([4], []))) (cutC_le _ _ _) (by
 intro σ k r h
 obtain ⟨hn, h1⟩ := rdN_some h
 obtain ⟨hs2, h2⟩ := rdT_some h1
 obtain ⟨hs3, h3⟩ := rdT_some h2
 obtain ⟨w0, hs6, h4⟩ := rdV_some h3
 obtain ⟨w1, hs7, h5⟩ := rdV_some h4
 obtain ⟨hs8, h6⟩ := rdT_some h5
 obtain ⟨hs9, h7⟩ := rdT_some h6
 obtain ⟨g0, hs10, h8⟩ := rdV_some h7
 obtain ⟨g1, hs11, h9⟩ := rdV_some h8
 obtain ⟨a, aA, hb2, h10⟩ := rdB_some h9
 obtain ⟨a1, aB, hb3, h11⟩ := rdB_some h10
 obtain ⟨a2, x0, hb8, h12⟩ := rdB_some h11
 obtain ⟨a3, x1, hb9, h13⟩ := rdB_some h12
 refine ⟨_, ?_, (elaws_FnExactMend_p1 w0 w1 g0 g1 a aA a1 aB a2 x0 a3 x1 k).trans h13⟩
 exact mkS_le hn ⟨hs2, hs3, hs6, hs7, hs8, hs9, hs10, hs11, trivial⟩ ⟨hb2, hb3, hb8, hb9, trivial⟩)
def laws_FnExactMend_p2 (w0 : List qS) (w1 : Bool) (aA : qF × List qR) (aB : qF × List qR) (x0 : qF × List qR) (x1 : qF × List qR) (k0 : Bool → Res) : Res :=
 impl_Mend x0 x1 fun (r : List qS) (r1 : Bool) =>
  laws_eqStmtS r w0 fun (r2 : Bool) =>
   bif !r2 then
    k0 false
   else
    bif !(r1 == w1) then
     k0 false
    else
     laws_toDb aA fun (r3 : qF × List qR) =>
      laws_eqDb x0 r3 fun (r4 : Bool) =>
       bif !r4 then
        k0 false
       else
        laws_toDb aB fun (r5 : qF × List qR) =>
         laws_eqDb x1 r5 fun (r6 : Bool) =>
          bif !r6 then
           k0 false
          else
           laws_FnExactMend_p1 w0 w1 r r1 aA aB x0 x1 fun (t : Bool) =>
            k0 t
def xlaws_FnExactMend_p2 : Node Unit := fun σ k => rdN σ 119 <| rdT σ 2 (.ptr ⟨true, 2, []⟩) <| rdT σ 3 (.ptr ⟨true, 3, []⟩) <| rdV σ 6 y24 false [.O] fun w0 => rdV σ 7 .bool false [] fun w1 => rdT σ 8 (.ptr ⟨true, 8, []⟩) <| rdT σ 9 (.ptr ⟨true, 9, []⟩) <| rdB σ 2 y14 [.S, .S] fun a aA => rdB σ 3 y14 [.S, .S] fun a1 aB => rdB σ 8 y14 [.O, .O] fun a2 x0 => rdB σ 9 y14 [.O, .O] fun a3 x1 => laws_FnExactMend_p2 w0 w1 aA aB x0 x1 (fun (t4 : Bool) => k .ret (mkS 119 119 [(4, .val ⟨.bool, false, t4, []⟩)] []))
theorem elaws_FnExactMend_p2 (w0 : List qS) (w1 : Bool) (a : Bool) (aA : qF × List qR) (a1 : Bool) (aB : qF × List qR) (a2 : Bool) (x0 : qF × List qR) (a3 : Bool) (x1 : qF × List qR) (k : Kont Unit) : codeC g_laws_FnExactMend [xlaws_FnExactMend_p0, xlaws_FnExactMend_p1] (.t .o (.t .o (.t .o (.t .o (.x 1))))) (Code.pr (Code.pr (Code.pr (Code.pr (Code.pr (Code.pr (Code.pr (Code.pr (Code.pr c_laws_FnExactMend))))))))) (mkS 119 119 [(2, .ptr ⟨true, 2, []⟩), (3, .ptr ⟨true, 3, []⟩), (6, .val ⟨y24, false, w0, [.O]⟩), (7, .val ⟨.bool, false, w1, []⟩), (8, .ptr ⟨true, 8, []⟩), (9, .ptr ⟨true, 9, []⟩)] [(2, ⟨y14, a, aA, [.S, .S]⟩), (3, ⟨y14, a1, aB, [.S, .S]⟩), (8, ⟨y14, a2, x0, [.O, .O]⟩), (9, ⟨y14, a3, x1, [.O, .O]⟩)]) (fun e σ => k e ((cutC ([], []) [] ([4], [])) e σ)) = laws_FnExactMend_p2 w0 w1 aA aB x0 x1 (fun (t4 : Bool) => k .ret (mkS 119 119 [(4, .val ⟨.bool, false, t4, []⟩)] [])) := by kernel_rfl
theorem olaws_FnExactMend_p2 {W0 : Base} {M : Nat → Prop} (hnp : W0.np ≤ 0) : CodeOk Tryz.prog W0 M (Code.pr (Code.pr (Code.pr (Code.pr (Code.pr (Code.pr (Code.pr (Code.pr (Code.pr c_laws_FnExactMend))))))))) xlaws_FnExactMend_p2 := node_ok (code_sound follows tysOk (calls_ok (fns_cons S_laws_szDb (fns_cons S_laws_toDb (fns_cons S_laws_eqDb (fns_cons S_laws_markDb (fns_cons S_spec_Mend (fns_cons S_impl_Mend (fns_cons S_laws_eqStmtS (fns_cons S_laws_markStmtS (fns_cons S_laws_heldStmtS fns_nil)))))))))) hnp [xlaws_FnExactMend_p0, xlaws_FnExactMend_p1] ((Code.pr (Code.pr (Code.pr (Code.pr (Code.pr (Code.pr (Code.pr (Code.pr (Code.pr c_laws_FnExactMend)))))))))) (.t .o (.t .o (.t .o (.t .o (.x 1))))) (OrOk.mk trivial ((OrOk.mk trivial ((OrOk.mk trivial ((OrOk.mk trivial (OrOk.x_mk (fun W0 M hnp => olaws_FnExactMend_p1 (W0 := W0) (M := M) hnp)))))))))) (fg := (cutC ([], []) [] ([4], []))) (cutC_le _ _ _) (by
 intro σ k r h
 obtain ⟨hn, h1⟩ := rdN_some h
 obtain ⟨hs2, h2⟩ := rdT_some h1
 obtain ⟨hs3, h3⟩ := rdT_some h2
 obtain ⟨w0, hs6, h4⟩ := rdV_some h3
 obtain ⟨w1, hs7, h5⟩ := rdV_some h4
 obtain ⟨hs8, h6⟩ := rdT_some h5
 obtain ⟨hs9, h7⟩ := rdT_some h6
 obtain ⟨a, aA, hb2, h8⟩ := rdB_some h7
 obtain ⟨a1, aB, hb3, h9⟩ := rdB_some h8
 obtain ⟨a2, x0, hb8, h10⟩ := rdB_some h9
 obtain ⟨a3, x1, hb9, h11⟩ := rdB_some h10
 refine ⟨_, ?_, (elaws_FnExactMend_p2 w0 w1 a aA a1 aB a2 x0 a3 x1 k).trans h11⟩
 exact mkS_le hn ⟨hs2, hs3, hs6, hs7, hs8, hs9, trivial⟩ ⟨hb2, hb3, hb8, hb9, trivial⟩)
def laws_FnExactMend (aA : qF × List qR) (aB : qF × List qR) (k0 : Bool → Res) : Res :=
 laws_szDb aA 1048576 fun (r : Int) =>
  bif decide (r < 0) then
   k0 true
  else
   laws_szDb aB r fun (r1 : Int) =>
    bif decide (r1 < 0) then
     k0 true
    else
     laws_toDb aA fun (r2 : qF × List qR) =>
      laws_toDb aB fun (r3 : qF × List qR) =>
       spec_Mend r2 r3 fun (r4 : List qS) (r5 : Bool) =>
        laws_toDb aA fun (r6 : qF × List qR) =>
         laws_toDb aB fun (r7 : qF × List qR) =>
          laws_FnExactMend_p2 r4 r5 aA aB r6 r7 fun (t : Bool) =>
           k0 t
def s_laws_FnExactMend : Sig Unit := ⟨[.borrow y14 true, .borrow y14 true], [false], fun vals ext k => av vals y14 fun aA vals => av vals y14 fun aB vals => nl vals <| nl ext <| laws_FnExactMend aA aB (fun (r0 : Bool) => k [⟨.bool, false, r0, []⟩] [] [])⟩
theorem E_laws_FnExactMend (aA : qF × List qR) (a_aA : Bool) (t_aA : List Tag) (aB : qF × List qR) (a_aB : Bool) (t_aB : List Tag) (k : qK) : funC g_laws_FnExactMend [xlaws_FnExactMend_p0, xlaws_FnExactMend_p1, xlaws_FnExactMend_p2] (.t .o (.t .o (.t .o (.t .o (.t .o (.t .o (.t .o (.t .o (.t .o (.x 2)))))))))) false Tryz.f6 [.borrow y14 true, .borrow y14 true] [false] [⟨y14, a_aA, aA, t_aA⟩, ⟨y14, a_aB, aB, t_aB⟩] [] k = laws_FnExactMend aA aB (fun (r0 : Bool) => k [⟨.bool, false, r0, []⟩] [] []) := by kernel_rfl
theorem S_laws_FnExactMend : Sound Tryz.prog 6 s_laws_FnExactMend := sound_of (Γ := g_laws_FnExactMend) (X := [xlaws_FnExactMend_p0, xlaws_FnExactMend_p1, xlaws_FnExactMend_p2]) (ht := (.t .o (.t .o (.t .o (.t .o (.t .o (.t .o (.t .o (.t .o (.t .o (.x 2))))))))))) (fz := false) (c := c_laws_FnExactMend) follows tysOk (fns_cons S_laws_szDb (fns_cons S_laws_toDb (fns_cons S_laws_eqDb (fns_cons S_laws_markDb (fns_cons S_spec_Mend (fns_cons S_impl_Mend (fns_cons S_laws_eqStmtS (fns_cons S_laws_markStmtS (fns_cons S_laws_heldStmtS fns_nil))))))))) (OrOk.mk trivial ((OrOk.mk trivial ((OrOk.mk trivial ((OrOk.mk trivial ((OrOk.mk trivial ((OrOk.mk trivial ((OrOk.mk trivial ((OrOk.mk trivial ((OrOk.mk trivial (OrOk.x_mk (fun W0 M hnp => olaws_FnExactMend_p2 (W0 := W0) (M := M) hnp))))))))))))))))))) Tryz.func6 (by kernel_rfl) (by kernel_rfl) (by decide) (by
 intro vals ext k r h
 obtain ⟨aA, a_aA, t_aA, vals, rfl, h1⟩ := av_some h
 obtain ⟨aB, a_aB, t_aB, vals, rfl, h2⟩ := av_some h1
 obtain ⟨rfl, h3⟩ := nl_some h2
 obtain ⟨rfl, h4⟩ := nl_some h3
 exact (E_laws_FnExactMend aA a_aA t_aA aB a_aB t_aB k).trans h4)
end Go.PI.G
end
namespace Go.PI.G
open Go Go.PI

abbrev V := Int × Int × ByteArray
theorem wu8_of (n : Int) : wu8 n = n % 256 := by
  unfold wu8 IntKind.wrap
  simp [IntKind.bits, IntKind.signed]
theorem wu8_small {n : Int} (h : 0 ≤ n ∧ n < 256) : wu8 n = n := by rw [wu8_of]; omega
theorem toBytes_len (s : ByteArray) : (toBytes s).length = s.size := by unfold toBytes; simp
theorem ofBytes_size (l : List Int) : (ofBytes l).size = l.length := by
  show ((l.map fun n => UInt8.ofNat n.toNat).toArray).size = _
  simp
/-- A row of bytes. -/
def isB (l : List Int) : Prop := ∀ x ∈ l, 0 ≤ x ∧ x < 256
theorem toBytes_isB (s : ByteArray) : isB (toBytes s) := by
  intro x hx
  unfold toBytes at hx
  obtain ⟨b, _, rfl⟩ := List.mem_map.1 hx
  have := UInt8.toNat_lt b
  omega
theorem ofBytes_toBytes (s : ByteArray) : ofBytes (toBytes s) = s := by
  unfold ofBytes toBytes
  rw [List.map_map]
  have : (fun b : UInt8 => b) = (fun n : Int => UInt8.ofNat n.toNat) ∘ fun b : UInt8 => (b.toNat : Int) := by
    funext b; simp
  rw [← this]
  simp
theorem toBytes_ofBytes {l : List Int} (h : isB l) : toBytes (ofBytes l) = l := by
  unfold ofBytes toBytes
  simp only [List.map_map]
  have : l.map ((fun b : UInt8 => (b.toNat : Int)) ∘ fun n : Int => UInt8.ofNat n.toNat) = l.map id := by
    refine List.map_congr_left fun x hx => ?_
    have := h x hx
    simp only [Function.comp, id]
    rw [UInt8.toNat_ofNat']
    omega
  rw [this, List.map_id]
theorem sEq_iff (a b : ByteArray) : sEq a b = true ↔ a = b := by
  unfold sEq
  rw [beq_iff_eq]
  constructor
  · intro h
    rw [ByteArray.ext_iff]
    have h1 : a.toList = a.data.toList := by rw [ByteArray.toList_eq]
    have h2 : b.toList = b.data.toList := by rw [ByteArray.toList_eq]
    rw [h1, h2] at h
    exact Array.toList_inj.1 h
  · rintro rfl; rfl
theorem sNe_iff (a b : ByteArray) : sNe a b = false ↔ a = b := by
  unfold sNe
  rw [Bool.not_eq_false']
  exact sEq_iff a b
theorem ofBytes_inj {l m : List Int} (hl : isB l) (hm : isB m) (h : ofBytes l = ofBytes m) : l = m := by
  rw [← toBytes_ofBytes hl, h, toBytes_ofBytes hm]

/-! ### right values -/
def numB (n : Int) : Bool := decide (-1099511627775 ≤ n ∧ n ≤ 1099511627775)
def valB (v : V) : Bool :=
  bif v.1 == 0 then (v.2.1 == 0) && sEq v.2.2 eS
  else bif v.1 == 1 then ((v.2.1 == 0) || (v.2.1 == 1)) && sEq v.2.2 eS
  else bif v.1 == 2 then numB v.2.1 && sEq v.2.2 eS
  else bif v.1 == 3 then (v.2.1 == 0) && decide (nI v.2.2.size ≤ 30)
  else false
theorem or_within (x : Int) : decide (0 ≤ x ∧ x ≤ 1) = ((x == 0) || (x == 1)) := by
  by_cases h : 0 ≤ x ∧ x ≤ 1
  · rw [decide_eq_true h]
    have : x = 0 ∨ x = 1 := by omega
    rcases this with rfl | rfl <;> rfl
  · rw [decide_eq_false h]
    have h1 : (x == 0) = false := by simp; omega
    have h2 : (x == 1) = false := by simp; omega
    rw [h1, h2]; rfl
/-- What a right value is. -/
theorem valB_cases {v : V} (h : valB v = true) : v = (0, 0, eS) ∨ (∃ n, (n = 0 ∨ n = 1) ∧ v = (1, n, eS)) ∨ (∃ n, (-1099511627775 ≤ n ∧ n ≤ 1099511627775) ∧ v = (2, n, eS)) ∨ ∃ s : ByteArray, s.size ≤ 30 ∧ v = (3, 0, s) := by
  obtain ⟨t, n, s⟩ := v
  unfold valB at h
  simp only at h
  cases h0 : t == 0
  · cases h1 : t == 1
    · cases h2 : t == 2
      · cases h3 : t == 3
        · rw [h0, h1, h2, h3] at h; cases h
        · rw [h0, h1, h2, h3] at h
          simp only [cond_false, cond_true, Bool.and_eq_true, beq_iff_eq, decide_eq_true_eq] at h h3
          obtain ⟨rfl, h⟩ := h
          subst h3
          exact .inr (.inr (.inr ⟨s, by unfold nI at h; omega, rfl⟩))
      · rw [h0, h1, h2] at h
        simp only [cond_false, cond_true, Bool.and_eq_true, beq_iff_eq] at h h2
        obtain ⟨h, hs⟩ := h
        rw [sEq_iff] at hs
        subst hs; subst h2
        exact .inr (.inr (.inl ⟨n, of_decide_eq_true h, rfl⟩))
    · rw [h0, h1] at h
      simp only [cond_false, cond_true, Bool.and_eq_true, Bool.or_eq_true, beq_iff_eq] at h h1
      obtain ⟨h, hs⟩ := h
      rw [sEq_iff] at hs
      subst hs; subst h1
      exact .inr (.inl ⟨n, h, rfl⟩)
  · rw [h0] at h
    simp only [cond_true, Bool.and_eq_true, beq_iff_eq] at h h0
    obtain ⟨h, hs⟩ := h
    rw [sEq_iff] at hs
    subst hs; subst h0; subst h
    exact .inl rfl
theorem valB_size {v : V} (h : valB v = true) : v.2.2.size ≤ 30 := by
  rcases valB_cases h with rfl | ⟨n, _, rfl⟩ | ⟨n, _, rfl⟩ | ⟨s, hs, rfl⟩
  · show (0 : Nat) ≤ 30; omega
  · show (0 : Nat) ≤ 30; omega
  · show (0 : Nat) ≤ 30; omega
  · exact hs

/-! ### bytes -/
/-- A number in so many bytes. -/
def be (n : Nat) : Nat → List Int
  | 0 => []
  | s + 1 => ((n / 256 ^ s % 256 : Nat) : Int) :: be n s
theorem be_len (n : Nat) : (s : Nat) → (be n s).length = s
  | 0 => rfl
  | s + 1 => by simp [be, be_len n s]
theorem be_isB (n : Nat) : (s : Nat) → isB (be n s)
  | 0 => by intro x hx; cases hx
  | s + 1 => by
    intro x hx
    rcases List.mem_cons.1 hx with rfl | hx
    · omega
    · exact be_isB n s x hx
theorem isB_append {l m : List Int} (hl : isB l) (hm : isB m) : isB (l ++ m) := fun x hx => (List.mem_append.1 hx).elim (hl x) (hm x)
theorem isB_cons {x : Int} {l : List Int} (hx : 0 ≤ x ∧ x < 256) (hl : isB l) : isB (x :: l) := fun y hy => (List.mem_cons.1 hy).elim (fun h => h ▸ hx) (hl y)
theorem isB_nil : isB [] := fun _ h => by cases h
def wB (v : V) : List Int :=
  bif v.1 == 1 then [1, v.2.1]
  else bif v.1 == 2 then 2 :: (bif decide (v.2.1 < 0) then 1 else 0) :: be v.2.1.natAbs 6
  else bif v.1 == 3 then 3 :: nI v.2.2.size :: toBytes v.2.2
  else [0]
def rowW (l : List V) : List Int := nI l.length :: l.flatMap wB
theorem wB_len {v : V} (h : valB v = true) : (wB v).length ≤ 32 := by
  rcases valB_cases h with rfl | ⟨n, _, rfl⟩ | ⟨n, _, rfl⟩ | ⟨s, hs, rfl⟩
  · show (1 : Nat) ≤ 32; omega
  · show (2 : Nat) ≤ 32; omega
  · show (2 :: (bif decide (n < 0) then 1 else 0) :: be n.natAbs 6).length ≤ 32
    simp [be_len]
  · show (3 :: nI s.size :: toBytes s).length ≤ 32
    simp [toBytes_len]; omega
theorem wB_isB {v : V} (h : valB v = true) : isB (wB v) := by
  rcases valB_cases h with rfl | ⟨n, hn, rfl⟩ | ⟨n, _, rfl⟩ | ⟨s, hs, rfl⟩
  · exact isB_cons (by omega) isB_nil
  · exact isB_cons (by omega) (isB_cons (x := n) (by omega) isB_nil)
  · refine isB_cons (x := 2) (by omega) (isB_cons ?_ (be_isB _ _))
    cases decide (n < 0) <;> simp
  · exact isB_cons (x := 3) (by omega) (isB_cons (x := nI s.size) (by unfold nI; omega) (toBytes_isB s))
theorem flat_len : (l : List V) → (∀ v ∈ l, valB v = true) → (l.flatMap wB).length ≤ 32 * l.length
  | [], _ => by simp
  | v :: l, h => by
    have h1 := wB_len (h v (by simp))
    have h2 := flat_len l fun v hv => h v (List.mem_cons_of_mem _ hv)
    simp only [List.flatMap_cons, List.length_append, List.length_cons]
    omega
theorem flat_isB : (l : List V) → (∀ v ∈ l, valB v = true) → isB (l.flatMap wB)
  | [], _ => isB_nil
  | v :: l, h => by
    rw [List.flatMap_cons]
    exact isB_append (wB_isB (h v (by simp))) (flat_isB l fun v hv => h v (List.mem_cons_of_mem _ hv))
theorem rowW_isB {l : List V} (hl : l.length ≤ 255) (h : ∀ v ∈ l, valB v = true) : isB (rowW l) := isB_cons (by unfold nI; omega) (flat_isB l h)
end Go.PI.G
namespace Go.PI.G
open Go Go.PI Go.Proofs

theorem within_eq (x lo hi : Int) (k : Bool → Res) : impl_within x lo hi k = k (decide (lo ≤ x ∧ x ≤ hi)) := by
  unfold impl_within
  by_cases h : x ≥ lo
  · rw [decide_eq_true h, cond_true]
    congr 1
    exact decide_eq_decide.2 (by omega)
  · rw [decide_eq_false h, cond_false]
    congr 1
    exact (decide_eq_false (by omega)).symm
theorem l01Num_eq (n : Int) (k : Bool → Res) : spec_l01Num n k = k (numB n) := within_eq n _ _ k
theorem specVal_eq (v : V) (k : Bool → Res) : spec_ValOk v k = k (valB v) := by
  unfold spec_ValOk valB
  cases v.1 == 0
  · cases v.1 == 1
    · cases v.1 == 2
      · cases v.1 == 3
        · rfl
        · cases v.2.1 == 0 <;> rfl
      · rw [cond_false, cond_false, cond_true, l01Num_eq]
        cases numB v.2.1 <;> rfl
    · cases v.2.1 == 0
      · cases v.2.1 == 1 <;> rfl
      · rfl
  · cases v.2.1 == 0 <;> rfl
theorem implVal_eq (v : V) (k : Bool → Res) : impl_ValOk v k = k (valB v) := by
  unfold impl_ValOk valB
  simp only [within_eq, or_within]
  cases v.1 == 0
  · cases v.1 == 1
    · cases v.1 == 2
      · cases v.1 == 3
        · rfl
        · cases v.2.1 == 0 <;> rfl
      · rw [cond_false, cond_false, cond_true, cond_false, cond_false, cond_true]
        show (bif numB v.2.1 then _ else _) = _
        cases numB v.2.1 <;> rfl
    · cases v.2.1 == 0
      · cases v.2.1 == 1 <;> rfl
      · rfl
  · cases v.2.1 == 0 <;> rfl
end Go.PI.G
