/-
  Printed texts and plain laws. No conditions.
-/
import Derived.Test.YtcapkiofiipamaaGreatU3a
import Derived.Test.YtcapkiofiipamaaGreatU3e
set_option linter.unusedVariables false
set_option maxRecDepth 100000
noncomputable section
namespace Go.PI.G
open Go Go.PI Go.Proofs

/-! ### 164 loop.example/g00462/laws.szColS -/
def c_laws_szColS : Code := (Tryz.f164.body).getD .skip
def g_laws_szColS : Env Unit := ⟨tys, [(190, s_laws_szCol)], 0⟩
def laws_szColS_l0_r (a : List qC) (left : Int) (i : Int) (rec : Int → Int → Res) (k0 : Int → Res) (k1 : Unit → Res) : Res :=
 bif decide (i < (nI (List.length a))) then
  bif inb i (List.length a) then
   laws_szCol (nth (eS, 0, false, false, 0, 0, eS) a i) left fun (r : Int) =>
    bif decide (r < 0) then
     k1 ()
    else
     rec r (wi64 (i + 1))
  else none
 else
  k0 left
def laws_szColS_l0_s (a : List qC) : (Int × Int) → (Int × Int → Res) → ((Int → Res) × (Unit → Res)) → Res := fun v rec q => laws_szColS_l0_r a v.1 v.2 (fun left i => rec (left, i)) q.1 q.2
def laws_szColS_l0 (a : List qC) (n : Nat) (left : Int) (i : Int) (k0 : Int → Res) (k1 : Unit → Res) : Res := iter (laws_szColS_l0_s a) n (left, i) (k0, k1)
def xlaws_szColS_l0 : Node Unit := fun σ k => rdN σ 27 <| rdV σ 0 y6 false [.S] fun a => rdV σ 1 (.int .i64) false [] fun left => rdV σ 5 (.int .i64) false [] fun i => laws_szColS_l0 a FUEL left i (fun (left1 : Int) => k (.exit 0) (mkS 27 27 [(1, .val ⟨(.int .i64), false, left1, []⟩)] [])) (fun (_ : Unit) => k .ret (mkS 27 27 [(4, .val ⟨(.int .i64), false, (-1), []⟩)] []))
theorem elaws_szColS_l0 (a : List qC) (n : Nat) (v : Int × Int) (k : Kont Unit) : loopC (codeC g_laws_szColS [] .o (Code.pl (Code.pl (Code.pr (Code.pl (Code.pr (Code.pr (Code.pr c_laws_szColS)))))))) (fun σ => σ.forget [0, 1, 5] []) (cutC ([], []) [(0, [1], [])] ([4], [])) n (mkS 27 27 [(0, .val ⟨y6, false, a, [.S]⟩), (1, .val ⟨(.int .i64), false, v.1, []⟩), (5, .val ⟨(.int .i64), false, v.2, []⟩)] []) k = iter (laws_szColS_l0_s a) n v ((fun (k : Kont Unit) => (((fun (left1 : Int) => k (.exit 0) (mkS 27 27 [(1, .val ⟨(.int .i64), false, left1, []⟩)] [])), (fun (_ : Unit) => k .ret (mkS 27 27 [(4, .val ⟨(.int .i64), false, (-1), []⟩)] []))) : (Int → Res) × (Unit → Res))) k) := loop_eq (fun v : Int × Int => (mkS 27 27 [(0, .val ⟨y6, false, a, [.S]⟩), (1, .val ⟨(.int .i64), false, v.1, []⟩), (5, .val ⟨(.int .i64), false, v.2, []⟩)] [])) (laws_szColS_l0_s a) (fun (k : Kont Unit) => (((fun (left1 : Int) => k (.exit 0) (mkS 27 27 [(1, .val ⟨(.int .i64), false, left1, []⟩)] [])), (fun (_ : Unit) => k .ret (mkS 27 27 [(4, .val ⟨(.int .i64), false, (-1), []⟩)] []))) : (Int → Res) × (Unit → Res))) (fun v rec k => by kernel_rfl) n v k
theorem olaws_szColS_l0 {W0 : Base} {M : Nat → Prop} (hnp : W0.np ≤ 0) : CodeOk Tryz.prog W0 M (Code.pl (Code.pr (Code.pl (Code.pr (Code.pr (Code.pr c_laws_szColS)))))) xlaws_szColS_l0 := show CodeOk Tryz.prog W0 M (Code.loop (Code.pl (Code.pl (Code.pr (Code.pl (Code.pr (Code.pr (Code.pr c_laws_szColS)))))))) xlaws_szColS_l0 from loop_ok (code_sound follows tysOk (calls_ok (fns_cons S_laws_szCol fns_nil)) hnp [] (Code.pl (Code.pl (Code.pr (Code.pl (Code.pr (Code.pr (Code.pr c_laws_szColS))))))) .o trivial) (ks := [0, 1, 5]) (bs := []) (fX := (cutC ([], []) [(0, [1], [])] ([4], []))) (cutC_le _ _ _) FUEL (by
 intro σ k r h
 obtain ⟨hn, h1⟩ := rdN_some h
 obtain ⟨a, hs0, h2⟩ := rdV_some h1
 obtain ⟨left, hs1, h3⟩ := rdV_some h2
 obtain ⟨i, hs5, h4⟩ := rdV_some h3
 refine ⟨_, ?_, (elaws_szColS_l0 a FUEL (left, i) k).trans h4⟩
 exact mkS_le hn ⟨hs0, hs1, hs5, trivial⟩ trivial)
def laws_szColS (a : List qC) (left : Int) (k0 : Int → Res) : Res :=
 bif decide ((wi64 (left - (nI (List.length a)))) < 0) then
  k0 (-1)
 else
  laws_szColS_l0 a FUEL (wi64 (left - (nI (List.length a)))) 0
   (fun (left1 : Int) =>
    k0 left1)
   (fun (_ : Unit) =>
    k0 (-1))
def s_laws_szColS : Sig Unit := ⟨[.look y6 false, .look (.int .i64) false], [false], fun vals ext k => av vals y6 fun a vals => av vals (.int .i64) fun left vals => nl vals <| nl ext <| laws_szColS a left (fun (r0 : Int) => k [⟨(.int .i64), false, r0, []⟩] [] [])⟩
theorem E_laws_szColS (a : List qC) (a_a : Bool) (t_a : List Tag) (left : Int) (a_left : Bool) (t_left : List Tag) (k : qK) : funC g_laws_szColS [xlaws_szColS_l0] (.t .o (.t .o (.t .o (.t (.t .o (.t (.x 0) .o)) .o)))) false Tryz.f164 [.look y6 false, .look (.int .i64) false] [false] [⟨y6, a_a, a, t_a⟩, ⟨(.int .i64), a_left, left, t_left⟩] [] k = laws_szColS a left (fun (r0 : Int) => k [⟨(.int .i64), false, r0, []⟩] [] []) := by kernel_rfl
theorem S_laws_szColS : Sound Tryz.prog 164 s_laws_szColS := sound_of (Γ := g_laws_szColS) (X := [xlaws_szColS_l0]) (ht := (.t .o (.t .o (.t .o (.t (.t .o (.t (.x 0) .o)) .o))))) (fz := false) (c := c_laws_szColS) follows tysOk (fns_cons S_laws_szCol fns_nil) (OrOk.mk trivial ((OrOk.mk trivial ((OrOk.mk trivial ((OrOk.mk ((OrOk.mk trivial ((OrOk.mk (OrOk.x_mk (fun W0 M hnp => olaws_szColS_l0 (W0 := W0) (M := M) hnp)) trivial)))) trivial))))))) Tryz.func164 (by kernel_rfl) (by kernel_rfl) (by decide) (by
 intro vals ext k r h
 obtain ⟨a, a_a, t_a, vals, rfl, h1⟩ := av_some h
 obtain ⟨left, a_left, t_left, vals, rfl, h2⟩ := av_some h1
 obtain ⟨rfl, h3⟩ := nl_some h2
 obtain ⟨rfl, h4⟩ := nl_some h3
 exact (E_laws_szColS a a_a t_a left a_left t_left k).trans h4)

/-! ### 171 loop.example/g00462/laws.toColS -/
def c_laws_toColS : Code := (Tryz.f171.body).getD .skip
def g_laws_toColS : Env Unit := ⟨tys, [(193, s_laws_toCol)], 0⟩
def laws_toColS_l0_r (a : List qC) (out : List qC) (i : Int) (rec : qE → Int → Res) (k0 : qE → Res) : Res :=
 bif decide (i < (nI (List.length a))) then
  bif inb i (List.length a) then
   laws_toCol (nth (eS, 0, false, false, 0, 0, eS) a i) fun (r : ByteArray × Int × Bool × Bool × Int × Int × ByteArray) =>
    bif inb i (List.length out) then
     rec (upd out i r) (wi64 (i + 1))
    else none
  else none
 else
  k0 out
def laws_toColS_l0_s (a : List qC) : (qE × Int) → (qE × Int → Res) → ((qE → Res)) → Res := fun v rec q => laws_toColS_l0_r a v.1 v.2 (fun out i => rec (out, i)) q
def laws_toColS_l0 (a : List qC) (n : Nat) (out : List qC) (i : Int) (k0 : qE → Res) : Res := iter (laws_toColS_l0_s a) n (out, i) (k0)
def xlaws_toColS_l0 : Node Unit := fun σ k => rdN σ 23 <| rdV σ 0 y6 false [.S] fun a => rdV σ 3 y6 false [.O] fun out => rdV σ 4 (.int .i64) false [] fun i => laws_toColS_l0 a FUEL out i (fun (out1 : List qC) => k (.exit 0) (mkS 23 23 [(3, .val ⟨y6, false, out1, [.O]⟩)] []))
theorem elaws_toColS_l0 (a : List qC) (n : Nat) (v : qE × Int) (k : Kont Unit) : loopC (codeC g_laws_toColS [] .o (Code.pl (Code.pl (Code.pr (Code.pl (Code.pr (Code.pr c_laws_toColS))))))) (fun σ => σ.forget [0, 3, 4] []) (cutC ([], []) [(0, [3], [])] ([], [])) n (mkS 23 23 [(0, .val ⟨y6, false, a, [.S]⟩), (3, .val ⟨y6, false, v.1, [.O]⟩), (4, .val ⟨(.int .i64), false, v.2, []⟩)] []) k = iter (laws_toColS_l0_s a) n v ((fun (k : Kont Unit) => (((fun (out1 : List qC) => k (.exit 0) (mkS 23 23 [(3, .val ⟨y6, false, out1, [.O]⟩)] []))) : (qE → Res))) k) := loop_eq (fun v : qE × Int => (mkS 23 23 [(0, .val ⟨y6, false, a, [.S]⟩), (3, .val ⟨y6, false, v.1, [.O]⟩), (4, .val ⟨(.int .i64), false, v.2, []⟩)] [])) (laws_toColS_l0_s a) (fun (k : Kont Unit) => (((fun (out1 : List qC) => k (.exit 0) (mkS 23 23 [(3, .val ⟨y6, false, out1, [.O]⟩)] []))) : (qE → Res))) (fun v rec k => by kernel_rfl) n v k
theorem olaws_toColS_l0 {W0 : Base} {M : Nat → Prop} (hnp : W0.np ≤ 0) : CodeOk Tryz.prog W0 M (Code.pl (Code.pr (Code.pl (Code.pr (Code.pr c_laws_toColS))))) xlaws_toColS_l0 := show CodeOk Tryz.prog W0 M (Code.loop (Code.pl (Code.pl (Code.pr (Code.pl (Code.pr (Code.pr c_laws_toColS))))))) xlaws_toColS_l0 from loop_ok (code_sound follows tysOk (calls_ok (fns_cons S_laws_toCol fns_nil)) hnp [] (Code.pl (Code.pl (Code.pr (Code.pl (Code.pr (Code.pr c_laws_toColS)))))) .o trivial) (ks := [0, 3, 4]) (bs := []) (fX := (cutC ([], []) [(0, [3], [])] ([], []))) (cutC_le _ _ _) FUEL (by
 intro σ k r h
 obtain ⟨hn, h1⟩ := rdN_some h
 obtain ⟨a, hs0, h2⟩ := rdV_some h1
 obtain ⟨out, hs3, h3⟩ := rdV_some h2
 obtain ⟨i, hs4, h4⟩ := rdV_some h3
 refine ⟨_, ?_, (elaws_toColS_l0 a FUEL (out, i) k).trans h4⟩
 exact mkS_le hn ⟨hs0, hs3, hs4, trivial⟩ trivial)
def laws_toColS (a : List qC) (k0 : qE → Res) : Res :=
 bif mkOk (nI (List.length a)) (nI (List.length a)) then
  laws_toColS_l0 a FUEL (repl (nI (List.length a)) (eS, 0, false, false, 0, 0, eS)) 0 fun (out : List qC) =>
   k0 out
 else none
def s_laws_toColS : Sig Unit := ⟨[.borrow y6 false], [false], fun vals ext k => av vals y6 fun a vals => nl vals <| nl ext <| laws_toColS a (fun (r0 : List qC) => k [⟨y6, false, r0, [.O]⟩] [] [])⟩
theorem E_laws_toColS (a : List qC) (a_a : Bool) (t_a : List Tag) (k : qK) : funC g_laws_toColS [xlaws_toColS_l0] (.t .o (.t .o (.t (.t .o (.t (.x 0) .o)) .o))) false Tryz.f171 [.borrow y6 false] [false] [⟨y6, a_a, a, t_a⟩] [] k = laws_toColS a (fun (r0 : List qC) => k [⟨y6, false, r0, [.O]⟩] [] []) := by kernel_rfl
theorem S_laws_toColS : Sound Tryz.prog 171 s_laws_toColS := sound_of (Γ := g_laws_toColS) (X := [xlaws_toColS_l0]) (ht := (.t .o (.t .o (.t (.t .o (.t (.x 0) .o)) .o)))) (fz := false) (c := c_laws_toColS) follows tysOk (fns_cons S_laws_toCol fns_nil) (OrOk.mk trivial ((OrOk.mk trivial ((OrOk.mk ((OrOk.mk trivial ((OrOk.mk (OrOk.x_mk (fun W0 M hnp => olaws_toColS_l0 (W0 := W0) (M := M) hnp)) trivial)))) trivial))))) Tryz.func171 (by kernel_rfl) (by kernel_rfl) (by decide) (by
 intro vals ext k r h
 obtain ⟨a, a_a, t_a, vals, rfl, h1⟩ := av_some h
 obtain ⟨rfl, h2⟩ := nl_some h1
 obtain ⟨rfl, h3⟩ := nl_some h2
 exact (E_laws_toColS a a_a t_a k).trans h3)

/-! ### 163 loop.example/g00462/laws.eqColS -/
def c_laws_eqColS : Code := (Tryz.f163.body).getD .skip
def g_laws_eqColS : Env Unit := ⟨tys, [(189, s_laws_eqCol)], 0⟩
def laws_eqColS_l0_r (a : List qC) (b : List qC) (i : Int) (rec : Int → Res) (k0 : Unit → Res) (k1 : Unit → Res) : Res :=
 bif decide (i < (nI (List.length a))) then
  bif inb i (List.length a) then
   bif inb i (List.length b) then
    laws_eqCol (nth (eS, 0, false, false, 0, 0, eS) a i) (nth (eS, 0, false, false, 0, 0, eS) b i) fun (r : Bool) =>
     bif !r then
      k1 ()
     else
      rec (wi64 (i + 1))
   else none
  else none
 else
  k0 ()
def laws_eqColS_l0_s (a : List qC) (b : List qC) : Int → (Int → Res) → ((Unit → Res) × (Unit → Res)) → Res := fun v rec q => laws_eqColS_l0_r a b v (fun i => rec (i)) q.1 q.2
def laws_eqColS_l0 (a : List qC) (b : List qC) (n : Nat) (i : Int) (k0 : Unit → Res) (k1 : Unit → Res) : Res := iter (laws_eqColS_l0_s a b) n (i) (k0, k1)
def xlaws_eqColS_l0 : Node Unit := fun σ k => rdN σ 27 <| rdV σ 0 y6 false [.S] fun a => rdV σ 1 y6 false [.S] fun b => rdV σ 5 (.int .i64) false [] fun i => laws_eqColS_l0 a b FUEL i (fun (_ : Unit) => k (.exit 0) (mkS 27 27 [] [])) (fun (_ : Unit) => k .ret (mkS 27 27 [(4, .val ⟨.bool, false, false, []⟩)] []))
theorem elaws_eqColS_l0 (a : List qC) (b : List qC) (n : Nat) (v : Int) (k : Kont Unit) : loopC (codeC g_laws_eqColS [] .o (Code.pl (Code.pl (Code.pr (Code.pl (Code.pr (Code.pr c_laws_eqColS))))))) (fun σ => σ.forget [0, 1, 5] []) (cutC ([], []) [(0, [], [])] ([4], [])) n (mkS 27 27 [(0, .val ⟨y6, false, a, [.S]⟩), (1, .val ⟨y6, false, b, [.S]⟩), (5, .val ⟨(.int .i64), false, v, []⟩)] []) k = iter (laws_eqColS_l0_s a b) n v ((fun (k : Kont Unit) => (((fun (_ : Unit) => k (.exit 0) (mkS 27 27 [] [])), (fun (_ : Unit) => k .ret (mkS 27 27 [(4, .val ⟨.bool, false, false, []⟩)] []))) : (Unit → Res) × (Unit → Res))) k) := loop_eq (fun v : Int => (mkS 27 27 [(0, .val ⟨y6, false, a, [.S]⟩), (1, .val ⟨y6, false, b, [.S]⟩), (5, .val ⟨(.int .i64), false, v, []⟩)] [])) (laws_eqColS_l0_s a b) (fun (k : Kont Unit) => (((fun (_ : Unit) => k (.exit 0) (mkS 27 27 [] [])), (fun (_ : Unit) => k .ret (mkS 27 27 [(4, .val ⟨.bool, false, false, []⟩)] []))) : (Unit → Res) × (Unit → Res))) (fun v rec k => by kernel_rfl) n v k
theorem olaws_eqColS_l0 {W0 : Base} {M : Nat → Prop} (hnp : W0.np ≤ 0) : CodeOk Tryz.prog W0 M (Code.pl (Code.pr (Code.pl (Code.pr (Code.pr c_laws_eqColS))))) xlaws_eqColS_l0 := show CodeOk Tryz.prog W0 M (Code.loop (Code.pl (Code.pl (Code.pr (Code.pl (Code.pr (Code.pr c_laws_eqColS))))))) xlaws_eqColS_l0 from loop_ok (code_sound follows tysOk (calls_ok (fns_cons S_laws_eqCol fns_nil)) hnp [] (Code.pl (Code.pl (Code.pr (Code.pl (Code.pr (Code.pr c_laws_eqColS)))))) .o trivial) (ks := [0, 1, 5]) (bs := []) (fX := (cutC ([], []) [(0, [], [])] ([4], []))) (cutC_le _ _ _) FUEL (by
 intro σ k r h
 obtain ⟨hn, h1⟩ := rdN_some h
 obtain ⟨a, hs0, h2⟩ := rdV_some h1
 obtain ⟨b, hs1, h3⟩ := rdV_some h2
 obtain ⟨i, hs5, h4⟩ := rdV_some h3
 refine ⟨_, ?_, (elaws_eqColS_l0 a b FUEL (i) k).trans h4⟩
 exact mkS_le hn ⟨hs0, hs1, hs5, trivial⟩ trivial)
def laws_eqColS (a : List qC) (b : List qC) (k0 : Bool → Res) : Res :=
 bif ((nI (List.length a)) != (nI (List.length b))) then
  k0 false
 else
  laws_eqColS_l0 a b FUEL 0
   (fun (_ : Unit) =>
    k0 true)
   (fun (_ : Unit) =>
    k0 false)
def s_laws_eqColS : Sig Unit := ⟨[.look y6 false, .look y6 false], [false], fun vals ext k => av vals y6 fun a vals => av vals y6 fun b vals => nl vals <| nl ext <| laws_eqColS a b (fun (r0 : Bool) => k [⟨.bool, false, r0, []⟩] [] [])⟩
theorem E_laws_eqColS (a : List qC) (a_a : Bool) (t_a : List Tag) (b : List qC) (a_b : Bool) (t_b : List Tag) (k : qK) : funC g_laws_eqColS [xlaws_eqColS_l0] (.t .o (.t .o (.t (.t .o (.t (.x 0) .o)) .o))) false Tryz.f163 [.look y6 false, .look y6 false] [false] [⟨y6, a_a, a, t_a⟩, ⟨y6, a_b, b, t_b⟩] [] k = laws_eqColS a b (fun (r0 : Bool) => k [⟨.bool, false, r0, []⟩] [] []) := by kernel_rfl
theorem S_laws_eqColS : Sound Tryz.prog 163 s_laws_eqColS := sound_of (Γ := g_laws_eqColS) (X := [xlaws_eqColS_l0]) (ht := (.t .o (.t .o (.t (.t .o (.t (.x 0) .o)) .o)))) (fz := false) (c := c_laws_eqColS) follows tysOk (fns_cons S_laws_eqCol fns_nil) (OrOk.mk trivial ((OrOk.mk trivial ((OrOk.mk ((OrOk.mk trivial ((OrOk.mk (OrOk.x_mk (fun W0 M hnp => olaws_eqColS_l0 (W0 := W0) (M := M) hnp)) trivial)))) trivial))))) Tryz.func163 (by kernel_rfl) (by kernel_rfl) (by decide) (by
 intro vals ext k r h
 obtain ⟨a, a_a, t_a, vals, rfl, h1⟩ := av_some h
 obtain ⟨b, a_b, t_b, vals, rfl, h2⟩ := av_some h1
 obtain ⟨rfl, h3⟩ := nl_some h2
 obtain ⟨rfl, h4⟩ := nl_some h3
 exact (E_laws_eqColS a a_a t_a b a_b t_b k).trans h4)

/-! ### 80 loop.example/g00462/laws.markColS -/
def c_laws_markColS : Code := (Tryz.f80.body).getD .skip
def g_laws_markColS : Env Unit := ⟨tys, [(49, s_laws_markText)], 1⟩
def laws_markColS_p0 (a : List qC) (k_ : Int) (i : Int) (k0 : qE → Res) : Res :=
 bif inb i (List.length a) then
  k0 (upd a i ((nth (eS, 0, false, false, 0, 0, eS) a i).1, (nth (eS, 0, false, false, 0, 0, eS) a i).2.1, ((Int.tmod k_ 3) == 0), (nth (eS, 0, false, false, 0, 0, eS) a i).2.2.2))
 else none
def xlaws_markColS_p0 : Node Unit := fun σ k => rdN σ 71 <| rdV σ 0 y6 false [.O] fun a => rdV σ 1 (.int .i64) false [] fun k_ => rdV σ 5 (.int .i64) false [] fun i => laws_markColS_p0 a k_ i (fun (a1 : List qC) => k .normal (mkS 71 71 [(0, .val ⟨y6, false, a1, [.O]⟩), (1, .val ⟨(.int .i64), false, k_, []⟩), (5, .val ⟨(.int .i64), false, i, []⟩)] []))
theorem elaws_markColS_p0 (a : List qC) (k_ : Int) (i : Int) (k : Kont Unit) : codeC g_laws_markColS [] .o (Code.pl (Code.pr (Code.pr (Code.pr (Code.pr (Code.pl (Code.pl (Code.pr (Code.pl (Code.pl (Code.pr (Code.pl (Code.pr c_laws_markColS))))))))))))) (mkS 71 71 [(0, .val ⟨y6, false, a, [.O]⟩), (1, .val ⟨(.int .i64), false, k_, []⟩), (5, .val ⟨(.int .i64), false, i, []⟩)] []) (fun e σ => k e ((cutC ([0, 1, 5], []) [] ([], [])) e σ)) = laws_markColS_p0 a k_ i (fun (a1 : List qC) => k .normal (mkS 71 71 [(0, .val ⟨y6, false, a1, [.O]⟩), (1, .val ⟨(.int .i64), false, k_, []⟩), (5, .val ⟨(.int .i64), false, i, []⟩)] [])) := by kernel_rfl
theorem olaws_markColS_p0 {W0 : Base} {M : Nat → Prop} (hnp : W0.np ≤ 1) : CodeOk Tryz.prog W0 M (Code.pl (Code.pr (Code.pr (Code.pr (Code.pr (Code.pl (Code.pl (Code.pr (Code.pl (Code.pl (Code.pr (Code.pl (Code.pr c_laws_markColS))))))))))))) xlaws_markColS_p0 := node_ok (code_sound follows tysOk (calls_ok (fns_cons S_laws_markText fns_nil)) hnp [] ((Code.pl (Code.pr (Code.pr (Code.pr (Code.pr (Code.pl (Code.pl (Code.pr (Code.pl (Code.pl (Code.pr (Code.pl (Code.pr c_laws_markColS)))))))))))))) .o trivial) (fg := (cutC ([0, 1, 5], []) [] ([], []))) (cutC_le _ _ _) (by
 intro σ k r h
 obtain ⟨hn, h1⟩ := rdN_some h
 obtain ⟨a, hs0, h2⟩ := rdV_some h1
 obtain ⟨k_, hs1, h3⟩ := rdV_some h2
 obtain ⟨i, hs5, h4⟩ := rdV_some h3
 refine ⟨_, ?_, (elaws_markColS_p0 a k_ i k).trans h4⟩
 exact mkS_le hn ⟨hs0, hs1, hs5, trivial⟩ trivial)
def laws_markColS_p1 (a : List qC) (k_ : Int) (i : Int) (k0 : qE → Res) : Res :=
 bif inb i (List.length a) then
  k0 (upd a i ((nth (eS, 0, false, false, 0, 0, eS) a i).1, (nth (eS, 0, false, false, 0, 0, eS) a i).2.1, (nth (eS, 0, false, false, 0, 0, eS) a i).2.2.1, (nth (eS, 0, false, false, 0, 0, eS) a i).2.2.2.1, k_, (nth (eS, 0, false, false, 0, 0, eS) a i).2.2.2.2.2))
 else none
def xlaws_markColS_p1 : Node Unit := fun σ k => rdN σ 71 <| rdV σ 0 y6 false [.O] fun a => rdV σ 1 (.int .i64) false [] fun k_ => rdV σ 5 (.int .i64) false [] fun i => laws_markColS_p1 a k_ i (fun (a1 : List qC) => k .normal (mkS 71 71 [(0, .val ⟨y6, false, a1, [.O]⟩), (1, .val ⟨(.int .i64), false, k_, []⟩), (5, .val ⟨(.int .i64), false, i, []⟩)] []))
theorem elaws_markColS_p1 (a : List qC) (k_ : Int) (i : Int) (k : Kont Unit) : codeC g_laws_markColS [xlaws_markColS_p0] .o (Code.pl (Code.pr (Code.pr (Code.pr (Code.pr (Code.pr (Code.pr (Code.pr (Code.pr (Code.pl (Code.pl (Code.pr (Code.pl (Code.pl (Code.pr (Code.pl (Code.pr c_laws_markColS))))))))))))))))) (mkS 71 71 [(0, .val ⟨y6, false, a, [.O]⟩), (1, .val ⟨(.int .i64), false, k_, []⟩), (5, .val ⟨(.int .i64), false, i, []⟩)] []) (fun e σ => k e ((cutC ([0, 1, 5], []) [] ([], [])) e σ)) = laws_markColS_p1 a k_ i (fun (a1 : List qC) => k .normal (mkS 71 71 [(0, .val ⟨y6, false, a1, [.O]⟩), (1, .val ⟨(.int .i64), false, k_, []⟩), (5, .val ⟨(.int .i64), false, i, []⟩)] [])) := by kernel_rfl
theorem olaws_markColS_p1 {W0 : Base} {M : Nat → Prop} (hnp : W0.np ≤ 1) : CodeOk Tryz.prog W0 M (Code.pl (Code.pr (Code.pr (Code.pr (Code.pr (Code.pr (Code.pr (Code.pr (Code.pr (Code.pl (Code.pl (Code.pr (Code.pl (Code.pl (Code.pr (Code.pl (Code.pr c_laws_markColS))))))))))))))))) xlaws_markColS_p1 := node_ok (code_sound follows tysOk (calls_ok (fns_cons S_laws_markText fns_nil)) hnp [xlaws_markColS_p0] ((Code.pl (Code.pr (Code.pr (Code.pr (Code.pr (Code.pr (Code.pr (Code.pr (Code.pr (Code.pl (Code.pl (Code.pr (Code.pl (Code.pl (Code.pr (Code.pl (Code.pr c_laws_markColS)))))))))))))))))) .o trivial) (fg := (cutC ([0, 1, 5], []) [] ([], []))) (cutC_le _ _ _) (by
 intro σ k r h
 obtain ⟨hn, h1⟩ := rdN_some h
 obtain ⟨a, hs0, h2⟩ := rdV_some h1
 obtain ⟨k_, hs1, h3⟩ := rdV_some h2
 obtain ⟨i, hs5, h4⟩ := rdV_some h3
 refine ⟨_, ?_, (elaws_markColS_p1 a k_ i k).trans h4⟩
 exact mkS_le hn ⟨hs0, hs1, hs5, trivial⟩ trivial)
def laws_markColS_p2 (a : List qC) (k_ : Int) (i : Int) (k0 : qE → Res) : Res :=
 laws_markText k_ fun (r : ByteArray) =>
  bif inb i (List.length a) then
   k0 (upd a i ((nth (eS, 0, false, false, 0, 0, eS) a i).1, (nth (eS, 0, false, false, 0, 0, eS) a i).2.1, (nth (eS, 0, false, false, 0, 0, eS) a i).2.2.1, (nth (eS, 0, false, false, 0, 0, eS) a i).2.2.2.1, (nth (eS, 0, false, false, 0, 0, eS) a i).2.2.2.2.1, (nth (eS, 0, false, false, 0, 0, eS) a i).2.2.2.2.2.1, r))
  else none
def xlaws_markColS_p2 : Node Unit := fun σ k => rdN σ 71 <| rdV σ 0 y6 false [.O] fun a => rdV σ 1 (.int .i64) false [] fun k_ => rdV σ 5 (.int .i64) false [] fun i => laws_markColS_p2 a k_ i (fun (a1 : List qC) => k .normal (mkS 71 71 [(0, .val ⟨y6, false, a1, [.O]⟩), (1, .val ⟨(.int .i64), false, k_, []⟩), (5, .val ⟨(.int .i64), false, i, []⟩)] []))
theorem elaws_markColS_p2 (a : List qC) (k_ : Int) (i : Int) (k : Kont Unit) : codeC g_laws_markColS [xlaws_markColS_p0, xlaws_markColS_p1] .o (Code.pl (Code.pr (Code.pr (Code.pr (Code.pr (Code.pr (Code.pr (Code.pr (Code.pr (Code.pr (Code.pr (Code.pr (Code.pr (Code.pl (Code.pl (Code.pr (Code.pl (Code.pl (Code.pr (Code.pl (Code.pr c_laws_markColS))))))))))))))))))))) (mkS 71 71 [(0, .val ⟨y6, false, a, [.O]⟩), (1, .val ⟨(.int .i64), false, k_, []⟩), (5, .val ⟨(.int .i64), false, i, []⟩)] []) (fun e σ => k e ((cutC ([0, 1, 5], []) [] ([], [])) e σ)) = laws_markColS_p2 a k_ i (fun (a1 : List qC) => k .normal (mkS 71 71 [(0, .val ⟨y6, false, a1, [.O]⟩), (1, .val ⟨(.int .i64), false, k_, []⟩), (5, .val ⟨(.int .i64), false, i, []⟩)] [])) := by kernel_rfl
theorem olaws_markColS_p2 {W0 : Base} {M : Nat → Prop} (hnp : W0.np ≤ 1) : CodeOk Tryz.prog W0 M (Code.pl (Code.pr (Code.pr (Code.pr (Code.pr (Code.pr (Code.pr (Code.pr (Code.pr (Code.pr (Code.pr (Code.pr (Code.pr (Code.pl (Code.pl (Code.pr (Code.pl (Code.pl (Code.pr (Code.pl (Code.pr c_laws_markColS))))))))))))))))))))) xlaws_markColS_p2 := node_ok (code_sound follows tysOk (calls_ok (fns_cons S_laws_markText fns_nil)) hnp [xlaws_markColS_p0, xlaws_markColS_p1] ((Code.pl (Code.pr (Code.pr (Code.pr (Code.pr (Code.pr (Code.pr (Code.pr (Code.pr (Code.pr (Code.pr (Code.pr (Code.pr (Code.pl (Code.pl (Code.pr (Code.pl (Code.pl (Code.pr (Code.pl (Code.pr c_laws_markColS)))))))))))))))))))))) .o trivial) (fg := (cutC ([0, 1, 5], []) [] ([], []))) (cutC_le _ _ _) (by
 intro σ k r h
 obtain ⟨hn, h1⟩ := rdN_some h
 obtain ⟨a, hs0, h2⟩ := rdV_some h1
 obtain ⟨k_, hs1, h3⟩ := rdV_some h2
 obtain ⟨i, hs5, h4⟩ := rdV_some h3
 refine ⟨_, ?_, (elaws_markColS_p2 a k_ i k).trans h4⟩
 exact mkS_le hn ⟨hs0, hs1, hs5, trivial⟩ trivial)
def laws_markColS_l3_r (a : List qC) (k_ : Int) (i : Int) (rec : qE → Int → Int → Res) (k0 : qE → Int → Res) : Res :=
 bif decide (i < (nI (List.length a))) then
  laws_markText k_ fun (r : ByteArray) =>
   bif inb i (List.length a) then
    bif inb i (List.length (upd a i (r, (nth (eS, 0, false, false, 0, 0, eS) a i).2))) then
     laws_markColS_p0 (upd (upd a i (r, (nth (eS, 0, false, false, 0, 0, eS) a i).2)) i ((nth (eS, 0, false, false, 0, 0, eS) (upd a i (r, (nth (eS, 0, false, false, 0, 0, eS) a i).2)) i).1, wi64 (k_ + 1), (nth (eS, 0, false, false, 0, 0, eS) (upd a i (r, (nth (eS, 0, false, false, 0, 0, eS) a i).2)) i).2.2)) (wi64 ((wi64 (k_ + 1)) + 1)) i fun (a1 : List qC) =>
      bif inb i (List.length a1) then
       laws_markColS_p1 (upd a1 i ((nth (eS, 0, false, false, 0, 0, eS) a1 i).1, (nth (eS, 0, false, false, 0, 0, eS) a1 i).2.1, (nth (eS, 0, false, false, 0, 0, eS) a1 i).2.2.1, ((Int.tmod (wi64 ((wi64 ((wi64 (k_ + 1)) + 1)) + 1)) 3) == 0), (nth (eS, 0, false, false, 0, 0, eS) a1 i).2.2.2.2)) (wi64 ((wi64 ((wi64 ((wi64 (k_ + 1)) + 1)) + 1)) + 1)) i fun (a2 : List qC) =>
        bif inb i (List.length a2) then
         laws_markColS_p2 (upd a2 i ((nth (eS, 0, false, false, 0, 0, eS) a2 i).1, (nth (eS, 0, false, false, 0, 0, eS) a2 i).2.1, (nth (eS, 0, false, false, 0, 0, eS) a2 i).2.2.1, (nth (eS, 0, false, false, 0, 0, eS) a2 i).2.2.2.1, (nth (eS, 0, false, false, 0, 0, eS) a2 i).2.2.2.2.1, wi64 ((wi64 ((wi64 ((wi64 ((wi64 (k_ + 1)) + 1)) + 1)) + 1)) + 1), (nth (eS, 0, false, false, 0, 0, eS) a2 i).2.2.2.2.2.2)) (wi64 ((wi64 ((wi64 ((wi64 ((wi64 ((wi64 (k_ + 1)) + 1)) + 1)) + 1)) + 1)) + 1)) i fun (a3 : List qC) =>
          rec a3 (wi64 ((wi64 ((wi64 ((wi64 ((wi64 ((wi64 ((wi64 (k_ + 1)) + 1)) + 1)) + 1)) + 1)) + 1)) + 1)) (wi64 (i + 1))
        else none
      else none
    else none
   else none
 else
  k0 a k_
def laws_markColS_l3_s : (qE × Int × Int) → (qE × Int × Int → Res) → ((qE → Int → Res)) → Res := fun v rec q => laws_markColS_l3_r v.1 v.2.1 v.2.2 (fun a k_ i => rec (a, k_, i)) q
def laws_markColS_l3 (n : Nat) (a : List qC) (k_ : Int) (i : Int) (k0 : qE → Int → Res) : Res := iter (laws_markColS_l3_s) n (a, k_, i) (k0)
def xlaws_markColS_l3 : Node Unit := fun σ k => rdN σ 71 <| rdV σ 0 y6 false [.O] fun a => rdV σ 1 (.int .i64) false [] fun k_ => rdV σ 5 (.int .i64) false [] fun i => laws_markColS_l3 FUEL a k_ i (fun (a4 : List qC) (k_1 : Int) => k (.exit 0) (mkS 71 71 [(0, .val ⟨y6, false, a4, [.O]⟩), (1, .val ⟨(.int .i64), false, k_1, []⟩)] []))
theorem elaws_markColS_l3  (n : Nat) (v : qE × Int × Int) (k : Kont Unit) : loopC (codeC g_laws_markColS [xlaws_markColS_p0, xlaws_markColS_p1, xlaws_markColS_p2] (.t .o (.t (.t (.t .o (.t .o (.t .o (.t .o (.t (.x 0) (.t .o (.t .o (.t .o (.t (.x 1) (.t .o (.t .o (.t .o (.t (.x 2) .o))))))))))))) .o) .o)) (Code.pl (Code.pl (Code.pr (Code.pl (Code.pr c_laws_markColS)))))) (fun σ => σ.forget [0, 1, 5] []) (cutC ([], []) [(0, [0, 1], [])] ([], [])) n (mkS 71 71 [(0, .val ⟨y6, false, v.1, [.O]⟩), (1, .val ⟨(.int .i64), false, v.2.1, []⟩), (5, .val ⟨(.int .i64), false, v.2.2, []⟩)] []) k = iter (laws_markColS_l3_s) n v ((fun (k : Kont Unit) => (((fun (a4 : List qC) (k_1 : Int) => k (.exit 0) (mkS 71 71 [(0, .val ⟨y6, false, a4, [.O]⟩), (1, .val ⟨(.int .i64), false, k_1, []⟩)] []))) : (qE → Int → Res))) k) := loop_eq (fun v : qE × Int × Int => (mkS 71 71 [(0, .val ⟨y6, false, v.1, [.O]⟩), (1, .val ⟨(.int .i64), false, v.2.1, []⟩), (5, .val ⟨(.int .i64), false, v.2.2, []⟩)] [])) (laws_markColS_l3_s) (fun (k : Kont Unit) => (((fun (a4 : List qC) (k_1 : Int) => k (.exit 0) (mkS 71 71 [(0, .val ⟨y6, false, a4, [.O]⟩), (1, .val ⟨(.int .i64), false, k_1, []⟩)] []))) : (qE → Int → Res))) (fun v rec k => by kernel_rfl) n v k
theorem olaws_markColS_l3 {W0 : Base} {M : Nat → Prop} (hnp : W0.np ≤ 1) : CodeOk Tryz.prog W0 M (Code.pl (Code.pr (Code.pl (Code.pr c_laws_markColS)))) xlaws_markColS_l3 := show CodeOk Tryz.prog W0 M (Code.loop (Code.pl (Code.pl (Code.pr (Code.pl (Code.pr c_laws_markColS)))))) xlaws_markColS_l3 from loop_ok (code_sound follows tysOk (calls_ok (fns_cons S_laws_markText fns_nil)) hnp [xlaws_markColS_p0, xlaws_markColS_p1, xlaws_markColS_p2] (Code.pl (Code.pl (Code.pr (Code.pl (Code.pr c_laws_markColS))))) (.t .o (.t (.t (.t .o (.t .o (.t .o (.t .o (.t (.x 0) (.t .o (.t .o (.t .o (.t (.x 1) (.t .o (.t .o (.t .o (.t (.x 2) .o))))))))))))) .o) .o)) (OrOk.mk trivial ((OrOk.mk ((OrOk.mk ((OrOk.mk trivial ((OrOk.mk trivial ((OrOk.mk trivial ((OrOk.mk trivial ((OrOk.mk (OrOk.x_mk (fun W0 M hnp => olaws_markColS_p0 (W0 := W0) (M := M) hnp)) ((OrOk.mk trivial ((OrOk.mk trivial ((OrOk.mk trivial ((OrOk.mk (OrOk.x_mk (fun W0 M hnp => olaws_markColS_p1 (W0 := W0) (M := M) hnp)) ((OrOk.mk trivial ((OrOk.mk trivial ((OrOk.mk trivial ((OrOk.mk (OrOk.x_mk (fun W0 M hnp => olaws_markColS_p2 (W0 := W0) (M := M) hnp)) trivial)))))))))))))))))))))))))) trivial)) trivial)))) (ks := [0, 1, 5]) (bs := []) (fX := (cutC ([], []) [(0, [0, 1], [])] ([], []))) (cutC_le _ _ _) FUEL (by
 intro σ k r h
 obtain ⟨hn, h1⟩ := rdN_some h
 obtain ⟨a, hs0, h2⟩ := rdV_some h1
 obtain ⟨k_, hs1, h3⟩ := rdV_some h2
 obtain ⟨i, hs5, h4⟩ := rdV_some h3
 refine ⟨_, ?_, (elaws_markColS_l3  FUEL (a, k_, i) k).trans h4⟩
 exact mkS_le hn ⟨hs0, hs1, hs5, trivial⟩ trivial)
def laws_markColS (a : List qC) (k_ : Int) (k0 : Int → qE → Res) : Res :=
 laws_markColS_l3 FUEL a k_ 0 fun (a1 : List qC) (k_1 : Int) =>
  k0 k_1 a1
def s_laws_markColS : Sig Unit := ⟨[.inout y6 false, .borrow (.int .i64) false], [false], fun vals ext k => ao vals y6 [.O] fun a vals => av vals (.int .i64) fun k_ vals => nl vals <| nl ext <| laws_markColS a k_ (fun (r0 : Int) (i0 : List qC) => k [⟨(.int .i64), false, r0, []⟩] [⟨y6, false, i0, [.O]⟩] [])⟩
theorem E_laws_markColS (a_a : Bool) (a : List qC) (k_ : Int) (a_k_ : Bool) (t_k_ : List Tag) (k : qK) : funC g_laws_markColS [xlaws_markColS_p0, xlaws_markColS_p1, xlaws_markColS_p2, xlaws_markColS_l3] (.t .o (.t (.t .o (.t (.x 3) .o)) .o)) false Tryz.f80 [.inout y6 false, .borrow (.int .i64) false] [false] [⟨y6, a_a, a, [.O]⟩, ⟨(.int .i64), a_k_, k_, t_k_⟩] [] k = laws_markColS a k_ (fun (r0 : Int) (i0 : List qC) => k [⟨(.int .i64), false, r0, []⟩] [⟨y6, false, i0, [.O]⟩] []) := by kernel_rfl
theorem S_laws_markColS : Sound Tryz.prog 80 s_laws_markColS := sound_of (Γ := g_laws_markColS) (X := [xlaws_markColS_p0, xlaws_markColS_p1, xlaws_markColS_p2, xlaws_markColS_l3]) (ht := (.t .o (.t (.t .o (.t (.x 3) .o)) .o))) (fz := false) (c := c_laws_markColS) follows tysOk (fns_cons S_laws_markText fns_nil) (OrOk.mk trivial ((OrOk.mk ((OrOk.mk trivial ((OrOk.mk (OrOk.x_mk (fun W0 M hnp => olaws_markColS_l3 (W0 := W0) (M := M) hnp)) trivial)))) trivial))) Tryz.func80 (by kernel_rfl) (by kernel_rfl) (by decide) (by
 intro vals ext k r h
 obtain ⟨a_a, a, vals, rfl, h1⟩ := ao_some h
 obtain ⟨k_, a_k_, t_k_, vals, rfl, h2⟩ := av_some h1
 obtain ⟨rfl, h3⟩ := nl_some h2
 obtain ⟨rfl, h4⟩ := nl_some h3
 exact (E_laws_markColS a_a a k_ a_k_ t_k_ k).trans h4)
end Go.PI.G
end
noncomputable section
namespace Go.PI.G
open Go Go.PI Go.Proofs

/-! ### 50 loop.example/g00462/laws.szStringS -/
def c_laws_szStringS : Code := (Tryz.f50.body).getD .skip
def g_laws_szStringS : Env Unit := ⟨tys, [], 0⟩
def laws_szStringS_l0_r (a : List ByteArray) (left : Int) (i : Int) (rec : Int → Int → Res) (k0 : Int → Res) (k1 : Unit → Res) : Res :=
 bif decide (i < (nI (List.length a))) then
  bif inb i (List.length a) then
   bif decide ((wi64 (left - (nI (ByteArray.size (nth eS a i))))) < 0) then
    k1 ()
   else
    rec (wi64 (left - (nI (ByteArray.size (nth eS a i))))) (wi64 (i + 1))
  else none
 else
  k0 left
def laws_szStringS_l0_s (a : List ByteArray) : (Int × Int) → (Int × Int → Res) → ((Int → Res) × (Unit → Res)) → Res := fun v rec q => laws_szStringS_l0_r a v.1 v.2 (fun left i => rec (left, i)) q.1 q.2
def laws_szStringS_l0 (a : List ByteArray) (n : Nat) (left : Int) (i : Int) (k0 : Int → Res) (k1 : Unit → Res) : Res := iter (laws_szStringS_l0_s a) n (left, i) (k0, k1)
def xlaws_szStringS_l0 : Node Unit := fun σ k => rdN σ 28 <| rdV σ 0 y7 false [.S] fun a => rdV σ 1 (.int .i64) false [] fun left => rdV σ 5 (.int .i64) false [] fun i => laws_szStringS_l0 a FUEL left i (fun (left1 : Int) => k (.exit 0) (mkS 28 28 [(1, .val ⟨(.int .i64), false, left1, []⟩)] [])) (fun (_ : Unit) => k .ret (mkS 28 28 [(4, .val ⟨(.int .i64), false, (-1), []⟩)] []))
theorem elaws_szStringS_l0 (a : List ByteArray) (n : Nat) (v : Int × Int) (k : Kont Unit) : loopC (codeC g_laws_szStringS [] .o (Code.pl (Code.pl (Code.pr (Code.pl (Code.pr (Code.pr (Code.pr c_laws_szStringS)))))))) (fun σ => σ.forget [0, 1, 5] []) (cutC ([], []) [(0, [1], [])] ([4], [])) n (mkS 28 28 [(0, .val ⟨y7, false, a, [.S]⟩), (1, .val ⟨(.int .i64), false, v.1, []⟩), (5, .val ⟨(.int .i64), false, v.2, []⟩)] []) k = iter (laws_szStringS_l0_s a) n v ((fun (k : Kont Unit) => (((fun (left1 : Int) => k (.exit 0) (mkS 28 28 [(1, .val ⟨(.int .i64), false, left1, []⟩)] [])), (fun (_ : Unit) => k .ret (mkS 28 28 [(4, .val ⟨(.int .i64), false, (-1), []⟩)] []))) : (Int → Res) × (Unit → Res))) k) := loop_eq (fun v : Int × Int => (mkS 28 28 [(0, .val ⟨y7, false, a, [.S]⟩), (1, .val ⟨(.int .i64), false, v.1, []⟩), (5, .val ⟨(.int .i64), false, v.2, []⟩)] [])) (laws_szStringS_l0_s a) (fun (k : Kont Unit) => (((fun (left1 : Int) => k (.exit 0) (mkS 28 28 [(1, .val ⟨(.int .i64), false, left1, []⟩)] [])), (fun (_ : Unit) => k .ret (mkS 28 28 [(4, .val ⟨(.int .i64), false, (-1), []⟩)] []))) : (Int → Res) × (Unit → Res))) (fun v rec k => by kernel_rfl) n v k
theorem olaws_szStringS_l0 {W0 : Base} {M : Nat → Prop} (hnp : W0.np ≤ 0) : CodeOk Tryz.prog W0 M (Code.pl (Code.pr (Code.pl (Code.pr (Code.pr (Code.pr c_laws_szStringS)))))) xlaws_szStringS_l0 := show CodeOk Tryz.prog W0 M (Code.loop (Code.pl (Code.pl (Code.pr (Code.pl (Code.pr (Code.pr (Code.pr c_laws_szStringS)))))))) xlaws_szStringS_l0 from loop_ok (code_sound follows tysOk (calls_ok fns_nil) hnp [] (Code.pl (Code.pl (Code.pr (Code.pl (Code.pr (Code.pr (Code.pr c_laws_szStringS))))))) .o trivial) (ks := [0, 1, 5]) (bs := []) (fX := (cutC ([], []) [(0, [1], [])] ([4], []))) (cutC_le _ _ _) FUEL (by
 intro σ k r h
 obtain ⟨hn, h1⟩ := rdN_some h
 obtain ⟨a, hs0, h2⟩ := rdV_some h1
 obtain ⟨left, hs1, h3⟩ := rdV_some h2
 obtain ⟨i, hs5, h4⟩ := rdV_some h3
 refine ⟨_, ?_, (elaws_szStringS_l0 a FUEL (left, i) k).trans h4⟩
 exact mkS_le hn ⟨hs0, hs1, hs5, trivial⟩ trivial)
def laws_szStringS (a : List ByteArray) (left : Int) (k0 : Int → Res) : Res :=
 bif decide ((wi64 (left - (nI (List.length a)))) < 0) then
  k0 (-1)
 else
  laws_szStringS_l0 a FUEL (wi64 (left - (nI (List.length a)))) 0
   (fun (left1 : Int) =>
    k0 left1)
   (fun (_ : Unit) =>
    k0 (-1))
def s_laws_szStringS : Sig Unit := ⟨[.look y7 false, .look (.int .i64) false], [false], fun vals ext k => av vals y7 fun a vals => av vals (.int .i64) fun left vals => nl vals <| nl ext <| laws_szStringS a left (fun (r0 : Int) => k [⟨(.int .i64), false, r0, []⟩] [] [])⟩
theorem E_laws_szStringS (a : List ByteArray) (a_a : Bool) (t_a : List Tag) (left : Int) (a_left : Bool) (t_left : List Tag) (k : qK) : funC g_laws_szStringS [xlaws_szStringS_l0] (.t .o (.t .o (.t .o (.t (.t .o (.t (.x 0) .o)) .o)))) false Tryz.f50 [.look y7 false, .look (.int .i64) false] [false] [⟨y7, a_a, a, t_a⟩, ⟨(.int .i64), a_left, left, t_left⟩] [] k = laws_szStringS a left (fun (r0 : Int) => k [⟨(.int .i64), false, r0, []⟩] [] []) := by kernel_rfl
theorem S_laws_szStringS : Sound Tryz.prog 50 s_laws_szStringS := sound_of (Γ := g_laws_szStringS) (X := [xlaws_szStringS_l0]) (ht := (.t .o (.t .o (.t .o (.t (.t .o (.t (.x 0) .o)) .o))))) (fz := false) (c := c_laws_szStringS) follows tysOk fns_nil (OrOk.mk trivial ((OrOk.mk trivial ((OrOk.mk trivial ((OrOk.mk ((OrOk.mk trivial ((OrOk.mk (OrOk.x_mk (fun W0 M hnp => olaws_szStringS_l0 (W0 := W0) (M := M) hnp)) trivial)))) trivial))))))) Tryz.func50 (by kernel_rfl) (by kernel_rfl) (by decide) (by
 intro vals ext k r h
 obtain ⟨a, a_a, t_a, vals, rfl, h1⟩ := av_some h
 obtain ⟨left, a_left, t_left, vals, rfl, h2⟩ := av_some h1
 obtain ⟨rfl, h3⟩ := nl_some h2
 obtain ⟨rfl, h4⟩ := nl_some h3
 exact (E_laws_szStringS a a_a t_a left a_left t_left k).trans h4)

/-! ### 55 loop.example/g00462/laws.toStringS -/
def c_laws_toStringS : Code := (Tryz.f55.body).getD .skip
def g_laws_toStringS : Env Unit := ⟨tys, [], 0⟩
def laws_toStringS_l0_r (a : List ByteArray) (out : List ByteArray) (i : Int) (rec : (List ByteArray) → Int → Res) (k0 : (List ByteArray) → Res) : Res :=
 bif decide (i < (nI (List.length a))) then
  bif inb i (List.length a) then
   bif inb i (List.length out) then
    rec (upd out i (nth eS a i)) (wi64 (i + 1))
   else none
  else none
 else
  k0 out
def laws_toStringS_l0_s (a : List ByteArray) : ((List ByteArray) × Int) → ((List ByteArray) × Int → Res) → (((List ByteArray) → Res)) → Res := fun v rec q => laws_toStringS_l0_r a v.1 v.2 (fun out i => rec (out, i)) q
def laws_toStringS_l0 (a : List ByteArray) (n : Nat) (out : List ByteArray) (i : Int) (k0 : (List ByteArray) → Res) : Res := iter (laws_toStringS_l0_s a) n (out, i) (k0)
def xlaws_toStringS_l0 : Node Unit := fun σ k => rdN σ 22 <| rdV σ 0 y7 false [.S] fun a => rdV σ 3 y7 false [.O] fun out => rdV σ 4 (.int .i64) false [] fun i => laws_toStringS_l0 a FUEL out i (fun (out1 : List ByteArray) => k (.exit 0) (mkS 22 22 [(3, .val ⟨y7, false, out1, [.O]⟩)] []))
theorem elaws_toStringS_l0 (a : List ByteArray) (n : Nat) (v : (List ByteArray) × Int) (k : Kont Unit) : loopC (codeC g_laws_toStringS [] .o (Code.pl (Code.pl (Code.pr (Code.pl (Code.pr (Code.pr c_laws_toStringS))))))) (fun σ => σ.forget [0, 3, 4] []) (cutC ([], []) [(0, [3], [])] ([], [])) n (mkS 22 22 [(0, .val ⟨y7, false, a, [.S]⟩), (3, .val ⟨y7, false, v.1, [.O]⟩), (4, .val ⟨(.int .i64), false, v.2, []⟩)] []) k = iter (laws_toStringS_l0_s a) n v ((fun (k : Kont Unit) => (((fun (out1 : List ByteArray) => k (.exit 0) (mkS 22 22 [(3, .val ⟨y7, false, out1, [.O]⟩)] []))) : ((List ByteArray) → Res))) k) := loop_eq (fun v : (List ByteArray) × Int => (mkS 22 22 [(0, .val ⟨y7, false, a, [.S]⟩), (3, .val ⟨y7, false, v.1, [.O]⟩), (4, .val ⟨(.int .i64), false, v.2, []⟩)] [])) (laws_toStringS_l0_s a) (fun (k : Kont Unit) => (((fun (out1 : List ByteArray) => k (.exit 0) (mkS 22 22 [(3, .val ⟨y7, false, out1, [.O]⟩)] []))) : ((List ByteArray) → Res))) (fun v rec k => by kernel_rfl) n v k
theorem olaws_toStringS_l0 {W0 : Base} {M : Nat → Prop} (hnp : W0.np ≤ 0) : CodeOk Tryz.prog W0 M (Code.pl (Code.pr (Code.pl (Code.pr (Code.pr c_laws_toStringS))))) xlaws_toStringS_l0 := show CodeOk Tryz.prog W0 M (Code.loop (Code.pl (Code.pl (Code.pr (Code.pl (Code.pr (Code.pr c_laws_toStringS))))))) xlaws_toStringS_l0 from loop_ok (code_sound follows tysOk (calls_ok fns_nil) hnp [] (Code.pl (Code.pl (Code.pr (Code.pl (Code.pr (Code.pr c_laws_toStringS)))))) .o trivial) (ks := [0, 3, 4]) (bs := []) (fX := (cutC ([], []) [(0, [3], [])] ([], []))) (cutC_le _ _ _) FUEL (by
 intro σ k r h
 obtain ⟨hn, h1⟩ := rdN_some h
 obtain ⟨a, hs0, h2⟩ := rdV_some h1
 obtain ⟨out, hs3, h3⟩ := rdV_some h2
 obtain ⟨i, hs4, h4⟩ := rdV_some h3
 refine ⟨_, ?_, (elaws_toStringS_l0 a FUEL (out, i) k).trans h4⟩
 exact mkS_le hn ⟨hs0, hs3, hs4, trivial⟩ trivial)
def laws_toStringS (a : List ByteArray) (k0 : (List ByteArray) → Res) : Res :=
 bif mkOk (nI (List.length a)) (nI (List.length a)) then
  laws_toStringS_l0 a FUEL (repl (nI (List.length a)) eS) 0 fun (out : List ByteArray) =>
   k0 out
 else none
def s_laws_toStringS : Sig Unit := ⟨[.borrow y7 false], [false], fun vals ext k => av vals y7 fun a vals => nl vals <| nl ext <| laws_toStringS a (fun (r0 : List ByteArray) => k [⟨y7, false, r0, [.O]⟩] [] [])⟩
theorem E_laws_toStringS (a : List ByteArray) (a_a : Bool) (t_a : List Tag) (k : qK) : funC g_laws_toStringS [xlaws_toStringS_l0] (.t .o (.t .o (.t (.t .o (.t (.x 0) .o)) .o))) false Tryz.f55 [.borrow y7 false] [false] [⟨y7, a_a, a, t_a⟩] [] k = laws_toStringS a (fun (r0 : List ByteArray) => k [⟨y7, false, r0, [.O]⟩] [] []) := by kernel_rfl
theorem S_laws_toStringS : Sound Tryz.prog 55 s_laws_toStringS := sound_of (Γ := g_laws_toStringS) (X := [xlaws_toStringS_l0]) (ht := (.t .o (.t .o (.t (.t .o (.t (.x 0) .o)) .o)))) (fz := false) (c := c_laws_toStringS) follows tysOk fns_nil (OrOk.mk trivial ((OrOk.mk trivial ((OrOk.mk ((OrOk.mk trivial ((OrOk.mk (OrOk.x_mk (fun W0 M hnp => olaws_toStringS_l0 (W0 := W0) (M := M) hnp)) trivial)))) trivial))))) Tryz.func55 (by kernel_rfl) (by kernel_rfl) (by decide) (by
 intro vals ext k r h
 obtain ⟨a, a_a, t_a, vals, rfl, h1⟩ := av_some h
 obtain ⟨rfl, h2⟩ := nl_some h1
 obtain ⟨rfl, h3⟩ := nl_some h2
 exact (E_laws_toStringS a a_a t_a k).trans h3)

/-! ### 11 loop.example/g00462/laws.eqStringS -/
def c_laws_eqStringS : Code := (Tryz.f11.body).getD .skip
def g_laws_eqStringS : Env Unit := ⟨tys, [], 0⟩
def laws_eqStringS_l0_r (a : List ByteArray) (b : List ByteArray) (i : Int) (rec : Int → Res) (k0 : Unit → Res) (k1 : Unit → Res) : Res :=
 bif decide (i < (nI (List.length a))) then
  bif inb i (List.length a) then
   bif inb i (List.length b) then
    bif sNe (nth eS a i) (nth eS b i) then
     k1 ()
    else
     rec (wi64 (i + 1))
   else none
  else none
 else
  k0 ()
def laws_eqStringS_l0_s (a : List ByteArray) (b : List ByteArray) : Int → (Int → Res) → ((Unit → Res) × (Unit → Res)) → Res := fun v rec q => laws_eqStringS_l0_r a b v (fun i => rec (i)) q.1 q.2
def laws_eqStringS_l0 (a : List ByteArray) (b : List ByteArray) (n : Nat) (i : Int) (k0 : Unit → Res) (k1 : Unit → Res) : Res := iter (laws_eqStringS_l0_s a b) n (i) (k0, k1)
def xlaws_eqStringS_l0 : Node Unit := fun σ k => rdN σ 26 <| rdV σ 0 y7 false [.S] fun a => rdV σ 1 y7 false [.S] fun b => rdV σ 5 (.int .i64) false [] fun i => laws_eqStringS_l0 a b FUEL i (fun (_ : Unit) => k (.exit 0) (mkS 26 26 [] [])) (fun (_ : Unit) => k .ret (mkS 26 26 [(4, .val ⟨.bool, false, false, []⟩)] []))
theorem elaws_eqStringS_l0 (a : List ByteArray) (b : List ByteArray) (n : Nat) (v : Int) (k : Kont Unit) : loopC (codeC g_laws_eqStringS [] .o (Code.pl (Code.pl (Code.pr (Code.pl (Code.pr (Code.pr c_laws_eqStringS))))))) (fun σ => σ.forget [0, 1, 5] []) (cutC ([], []) [(0, [], [])] ([4], [])) n (mkS 26 26 [(0, .val ⟨y7, false, a, [.S]⟩), (1, .val ⟨y7, false, b, [.S]⟩), (5, .val ⟨(.int .i64), false, v, []⟩)] []) k = iter (laws_eqStringS_l0_s a b) n v ((fun (k : Kont Unit) => (((fun (_ : Unit) => k (.exit 0) (mkS 26 26 [] [])), (fun (_ : Unit) => k .ret (mkS 26 26 [(4, .val ⟨.bool, false, false, []⟩)] []))) : (Unit → Res) × (Unit → Res))) k) := loop_eq (fun v : Int => (mkS 26 26 [(0, .val ⟨y7, false, a, [.S]⟩), (1, .val ⟨y7, false, b, [.S]⟩), (5, .val ⟨(.int .i64), false, v, []⟩)] [])) (laws_eqStringS_l0_s a b) (fun (k : Kont Unit) => (((fun (_ : Unit) => k (.exit 0) (mkS 26 26 [] [])), (fun (_ : Unit) => k .ret (mkS 26 26 [(4, .val ⟨.bool, false, false, []⟩)] []))) : (Unit → Res) × (Unit → Res))) (fun v rec k => by kernel_rfl) n v k
theorem olaws_eqStringS_l0 {W0 : Base} {M : Nat → Prop} (hnp : W0.np ≤ 0) : CodeOk Tryz.prog W0 M (Code.pl (Code.pr (Code.pl (Code.pr (Code.pr c_laws_eqStringS))))) xlaws_eqStringS_l0 := show CodeOk Tryz.prog W0 M (Code.loop (Code.pl (Code.pl (Code.pr (Code.pl (Code.pr (Code.pr c_laws_eqStringS))))))) xlaws_eqStringS_l0 from loop_ok (code_sound follows tysOk (calls_ok fns_nil) hnp [] (Code.pl (Code.pl (Code.pr (Code.pl (Code.pr (Code.pr c_laws_eqStringS)))))) .o trivial) (ks := [0, 1, 5]) (bs := []) (fX := (cutC ([], []) [(0, [], [])] ([4], []))) (cutC_le _ _ _) FUEL (by
 intro σ k r h
 obtain ⟨hn, h1⟩ := rdN_some h
 obtain ⟨a, hs0, h2⟩ := rdV_some h1
 obtain ⟨b, hs1, h3⟩ := rdV_some h2
 obtain ⟨i, hs5, h4⟩ := rdV_some h3
 refine ⟨_, ?_, (elaws_eqStringS_l0 a b FUEL (i) k).trans h4⟩
 exact mkS_le hn ⟨hs0, hs1, hs5, trivial⟩ trivial)
def laws_eqStringS (a : List ByteArray) (b : List ByteArray) (k0 : Bool → Res) : Res :=
 bif ((nI (List.length a)) != (nI (List.length b))) then
  k0 false
 else
  laws_eqStringS_l0 a b FUEL 0
   (fun (_ : Unit) =>
    k0 true)
   (fun (_ : Unit) =>
    k0 false)
def s_laws_eqStringS : Sig Unit := ⟨[.look y7 false, .look y7 false], [false], fun vals ext k => av vals y7 fun a vals => av vals y7 fun b vals => nl vals <| nl ext <| laws_eqStringS a b (fun (r0 : Bool) => k [⟨.bool, false, r0, []⟩] [] [])⟩
theorem E_laws_eqStringS (a : List ByteArray) (a_a : Bool) (t_a : List Tag) (b : List ByteArray) (a_b : Bool) (t_b : List Tag) (k : qK) : funC g_laws_eqStringS [xlaws_eqStringS_l0] (.t .o (.t .o (.t (.t .o (.t (.x 0) .o)) .o))) false Tryz.f11 [.look y7 false, .look y7 false] [false] [⟨y7, a_a, a, t_a⟩, ⟨y7, a_b, b, t_b⟩] [] k = laws_eqStringS a b (fun (r0 : Bool) => k [⟨.bool, false, r0, []⟩] [] []) := by kernel_rfl
theorem S_laws_eqStringS : Sound Tryz.prog 11 s_laws_eqStringS := sound_of (Γ := g_laws_eqStringS) (X := [xlaws_eqStringS_l0]) (ht := (.t .o (.t .o (.t (.t .o (.t (.x 0) .o)) .o)))) (fz := false) (c := c_laws_eqStringS) follows tysOk fns_nil (OrOk.mk trivial ((OrOk.mk trivial ((OrOk.mk ((OrOk.mk trivial ((OrOk.mk (OrOk.x_mk (fun W0 M hnp => olaws_eqStringS_l0 (W0 := W0) (M := M) hnp)) trivial)))) trivial))))) Tryz.func11 (by kernel_rfl) (by kernel_rfl) (by decide) (by
 intro vals ext k r h
 obtain ⟨a, a_a, t_a, vals, rfl, h1⟩ := av_some h
 obtain ⟨b, a_b, t_b, vals, rfl, h2⟩ := av_some h1
 obtain ⟨rfl, h3⟩ := nl_some h2
 obtain ⟨rfl, h4⟩ := nl_some h3
 exact (E_laws_eqStringS a a_a t_a b a_b t_b k).trans h4)

/-! ### 14 loop.example/g00462/laws.markStringS -/
def c_laws_markStringS : Code := (Tryz.f14.body).getD .skip
def g_laws_markStringS : Env Unit := ⟨tys, [(49, s_laws_markText)], 1⟩
def laws_markStringS_l0_r (a : List ByteArray) (k_ : Int) (i : Int) (rec : (List ByteArray) → Int → Int → Res) (k0 : (List ByteArray) → Int → Res) : Res :=
 bif decide (i < (nI (List.length a))) then
  laws_markText k_ fun (r : ByteArray) =>
   bif inb i (List.length a) then
    rec (upd a i r) (wi64 (k_ + 1)) (wi64 (i + 1))
   else none
 else
  k0 a k_
def laws_markStringS_l0_s : ((List ByteArray) × Int × Int) → ((List ByteArray) × Int × Int → Res) → (((List ByteArray) → Int → Res)) → Res := fun v rec q => laws_markStringS_l0_r v.1 v.2.1 v.2.2 (fun a k_ i => rec (a, k_, i)) q
def laws_markStringS_l0 (n : Nat) (a : List ByteArray) (k_ : Int) (i : Int) (k0 : (List ByteArray) → Int → Res) : Res := iter (laws_markStringS_l0_s) n (a, k_, i) (k0)
def xlaws_markStringS_l0 : Node Unit := fun σ k => rdN σ 20 <| rdV σ 0 y7 false [.O] fun a => rdV σ 1 (.int .i64) false [] fun k_ => rdV σ 5 (.int .i64) false [] fun i => laws_markStringS_l0 FUEL a k_ i (fun (a1 : List ByteArray) (k_1 : Int) => k (.exit 0) (mkS 20 20 [(0, .val ⟨y7, false, a1, [.O]⟩), (1, .val ⟨(.int .i64), false, k_1, []⟩)] []))
theorem elaws_markStringS_l0  (n : Nat) (v : (List ByteArray) × Int × Int) (k : Kont Unit) : loopC (codeC g_laws_markStringS [] .o (Code.pl (Code.pl (Code.pr (Code.pl (Code.pr c_laws_markStringS)))))) (fun σ => σ.forget [0, 1, 5] []) (cutC ([], []) [(0, [0, 1], [])] ([], [])) n (mkS 20 20 [(0, .val ⟨y7, false, v.1, [.O]⟩), (1, .val ⟨(.int .i64), false, v.2.1, []⟩), (5, .val ⟨(.int .i64), false, v.2.2, []⟩)] []) k = iter (laws_markStringS_l0_s) n v ((fun (k : Kont Unit) => (((fun (a1 : List ByteArray) (k_1 : Int) => k (.exit 0) (mkS 20 20 [(0, .val ⟨y7, false, a1, [.O]⟩), (1, .val ⟨(.int .i64), false, k_1, []⟩)] []))) : ((List ByteArray) → Int → Res))) k) := loop_eq (fun v : (List ByteArray) × Int × Int => (mkS 20 20 [(0, .val ⟨y7, false, v.1, [.O]⟩), (1, .val ⟨(.int .i64), false, v.2.1, []⟩), (5, .val ⟨(.int .i64), false, v.2.2, []⟩)] [])) (laws_markStringS_l0_s) (fun (k : Kont Unit) => (((fun (a1 : List ByteArray) (k_1 : Int) => k (.exit 0) (mkS 20 20 [(0, .val ⟨y7, false, a1, [.O]⟩), (1, .val ⟨(.int .i64), false, k_1, []⟩)] []))) : ((List ByteArray) → Int → Res))) (fun v rec k => by kernel_rfl) n v k
theorem olaws_markStringS_l0 {W0 : Base} {M : Nat → Prop} (hnp : W0.np ≤ 1) : CodeOk Tryz.prog W0 M (Code.pl (Code.pr (Code.pl (Code.pr c_laws_markStringS)))) xlaws_markStringS_l0 := show CodeOk Tryz.prog W0 M (Code.loop (Code.pl (Code.pl (Code.pr (Code.pl (Code.pr c_laws_markStringS)))))) xlaws_markStringS_l0 from loop_ok (code_sound follows tysOk (calls_ok (fns_cons S_laws_markText fns_nil)) hnp [] (Code.pl (Code.pl (Code.pr (Code.pl (Code.pr c_laws_markStringS))))) .o trivial) (ks := [0, 1, 5]) (bs := []) (fX := (cutC ([], []) [(0, [0, 1], [])] ([], []))) (cutC_le _ _ _) FUEL (by
 intro σ k r h
 obtain ⟨hn, h1⟩ := rdN_some h
 obtain ⟨a, hs0, h2⟩ := rdV_some h1
 obtain ⟨k_, hs1, h3⟩ := rdV_some h2
 obtain ⟨i, hs5, h4⟩ := rdV_some h3
 refine ⟨_, ?_, (elaws_markStringS_l0  FUEL (a, k_, i) k).trans h4⟩
 exact mkS_le hn ⟨hs0, hs1, hs5, trivial⟩ trivial)
def laws_markStringS (a : List ByteArray) (k_ : Int) (k0 : Int → (List ByteArray) → Res) : Res :=
 laws_markStringS_l0 FUEL a k_ 0 fun (a1 : List ByteArray) (k_1 : Int) =>
  k0 k_1 a1
def s_laws_markStringS : Sig Unit := ⟨[.inout y7 false, .borrow (.int .i64) false], [false], fun vals ext k => ao vals y7 [.O] fun a vals => av vals (.int .i64) fun k_ vals => nl vals <| nl ext <| laws_markStringS a k_ (fun (r0 : Int) (i0 : List ByteArray) => k [⟨(.int .i64), false, r0, []⟩] [⟨y7, false, i0, [.O]⟩] [])⟩
theorem E_laws_markStringS (a_a : Bool) (a : List ByteArray) (k_ : Int) (a_k_ : Bool) (t_k_ : List Tag) (k : qK) : funC g_laws_markStringS [xlaws_markStringS_l0] (.t .o (.t (.t .o (.t (.x 0) .o)) .o)) false Tryz.f14 [.inout y7 false, .borrow (.int .i64) false] [false] [⟨y7, a_a, a, [.O]⟩, ⟨(.int .i64), a_k_, k_, t_k_⟩] [] k = laws_markStringS a k_ (fun (r0 : Int) (i0 : List ByteArray) => k [⟨(.int .i64), false, r0, []⟩] [⟨y7, false, i0, [.O]⟩] []) := by kernel_rfl
theorem S_laws_markStringS : Sound Tryz.prog 14 s_laws_markStringS := sound_of (Γ := g_laws_markStringS) (X := [xlaws_markStringS_l0]) (ht := (.t .o (.t (.t .o (.t (.x 0) .o)) .o))) (fz := false) (c := c_laws_markStringS) follows tysOk (fns_cons S_laws_markText fns_nil) (OrOk.mk trivial ((OrOk.mk ((OrOk.mk trivial ((OrOk.mk (OrOk.x_mk (fun W0 M hnp => olaws_markStringS_l0 (W0 := W0) (M := M) hnp)) trivial)))) trivial))) Tryz.func14 (by kernel_rfl) (by kernel_rfl) (by decide) (by
 intro vals ext k r h
 obtain ⟨a_a, a, vals, rfl, h1⟩ := ao_some h
 obtain ⟨k_, a_k_, t_k_, vals, rfl, h2⟩ := av_some h1
 obtain ⟨rfl, h3⟩ := nl_some h2
 obtain ⟨rfl, h4⟩ := nl_some h3
 exact (E_laws_markStringS a_a a k_ a_k_ t_k_ k).trans h4)

/-! ### 15 loop.example/g00462/laws.heldStringS -/
def c_laws_heldStringS : Code := (Tryz.f15.body).getD .skip
def g_laws_heldStringS : Env Unit := ⟨tys, [(49, s_laws_markText)], 0⟩
def laws_heldStringS_l0_r (a : List ByteArray) (k_ : Int) (i : Int) (rec : Int → Int → Res) (k0 : Int → Res) (k1 : Unit → Res) : Res :=
 bif decide (i < (nI (List.length a))) then
  bif inb i (List.length a) then
   laws_markText k_ fun (r : ByteArray) =>
    bif sNe (nth eS a i) r then
     k1 ()
    else
     rec (wi64 (k_ + 1)) (wi64 (i + 1))
  else none
 else
  k0 k_
def laws_heldStringS_l0_s (a : List ByteArray) : (Int × Int) → (Int × Int → Res) → ((Int → Res) × (Unit → Res)) → Res := fun v rec q => laws_heldStringS_l0_r a v.1 v.2 (fun k_ i => rec (k_, i)) q.1 q.2
def laws_heldStringS_l0 (a : List ByteArray) (n : Nat) (k_ : Int) (i : Int) (k0 : Int → Res) (k1 : Unit → Res) : Res := iter (laws_heldStringS_l0_s a) n (k_, i) (k0, k1)
def xlaws_heldStringS_l0 : Node Unit := fun σ k => rdN σ 22 <| rdV σ 0 y7 false [.S] fun a => rdV σ 1 (.int .i64) false [] fun k_ => rdV σ 5 (.int .i64) false [] fun i => laws_heldStringS_l0 a FUEL k_ i (fun (k_1 : Int) => k (.exit 0) (mkS 22 22 [(1, .val ⟨(.int .i64), false, k_1, []⟩)] [])) (fun (_ : Unit) => k .ret (mkS 22 22 [(4, .val ⟨(.int .i64), false, (-1), []⟩)] []))
theorem elaws_heldStringS_l0 (a : List ByteArray) (n : Nat) (v : Int × Int) (k : Kont Unit) : loopC (codeC g_laws_heldStringS [] .o (Code.pl (Code.pl (Code.pr (Code.pl (Code.pr c_laws_heldStringS)))))) (fun σ => σ.forget [0, 1, 5] []) (cutC ([], []) [(0, [1], [])] ([4], [])) n (mkS 22 22 [(0, .val ⟨y7, false, a, [.S]⟩), (1, .val ⟨(.int .i64), false, v.1, []⟩), (5, .val ⟨(.int .i64), false, v.2, []⟩)] []) k = iter (laws_heldStringS_l0_s a) n v ((fun (k : Kont Unit) => (((fun (k_1 : Int) => k (.exit 0) (mkS 22 22 [(1, .val ⟨(.int .i64), false, k_1, []⟩)] [])), (fun (_ : Unit) => k .ret (mkS 22 22 [(4, .val ⟨(.int .i64), false, (-1), []⟩)] []))) : (Int → Res) × (Unit → Res))) k) := loop_eq (fun v : Int × Int => (mkS 22 22 [(0, .val ⟨y7, false, a, [.S]⟩), (1, .val ⟨(.int .i64), false, v.1, []⟩), (5, .val ⟨(.int .i64), false, v.2, []⟩)] [])) (laws_heldStringS_l0_s a) (fun (k : Kont Unit) => (((fun (k_1 : Int) => k (.exit 0) (mkS 22 22 [(1, .val ⟨(.int .i64), false, k_1, []⟩)] [])), (fun (_ : Unit) => k .ret (mkS 22 22 [(4, .val ⟨(.int .i64), false, (-1), []⟩)] []))) : (Int → Res) × (Unit → Res))) (fun v rec k => by kernel_rfl) n v k
theorem olaws_heldStringS_l0 {W0 : Base} {M : Nat → Prop} (hnp : W0.np ≤ 0) : CodeOk Tryz.prog W0 M (Code.pl (Code.pr (Code.pl (Code.pr c_laws_heldStringS)))) xlaws_heldStringS_l0 := show CodeOk Tryz.prog W0 M (Code.loop (Code.pl (Code.pl (Code.pr (Code.pl (Code.pr c_laws_heldStringS)))))) xlaws_heldStringS_l0 from loop_ok (code_sound follows tysOk (calls_ok (fns_cons S_laws_markText fns_nil)) hnp [] (Code.pl (Code.pl (Code.pr (Code.pl (Code.pr c_laws_heldStringS))))) .o trivial) (ks := [0, 1, 5]) (bs := []) (fX := (cutC ([], []) [(0, [1], [])] ([4], []))) (cutC_le _ _ _) FUEL (by
 intro σ k r h
 obtain ⟨hn, h1⟩ := rdN_some h
 obtain ⟨a, hs0, h2⟩ := rdV_some h1
 obtain ⟨k_, hs1, h3⟩ := rdV_some h2
 obtain ⟨i, hs5, h4⟩ := rdV_some h3
 refine ⟨_, ?_, (elaws_heldStringS_l0 a FUEL (k_, i) k).trans h4⟩
 exact mkS_le hn ⟨hs0, hs1, hs5, trivial⟩ trivial)
def laws_heldStringS (a : List ByteArray) (k_ : Int) (k0 : Int → Res) : Res :=
 laws_heldStringS_l0 a FUEL k_ 0
  (fun (k_1 : Int) =>
   k0 k_1)
  (fun (_ : Unit) =>
   k0 (-1))
def s_laws_heldStringS : Sig Unit := ⟨[.look y7 false, .look (.int .i64) false], [false], fun vals ext k => av vals y7 fun a vals => av vals (.int .i64) fun k_ vals => nl vals <| nl ext <| laws_heldStringS a k_ (fun (r0 : Int) => k [⟨(.int .i64), false, r0, []⟩] [] [])⟩
theorem E_laws_heldStringS (a : List ByteArray) (a_a : Bool) (t_a : List Tag) (k_ : Int) (a_k_ : Bool) (t_k_ : List Tag) (k : qK) : funC g_laws_heldStringS [xlaws_heldStringS_l0] (.t .o (.t (.t .o (.t (.x 0) .o)) .o)) false Tryz.f15 [.look y7 false, .look (.int .i64) false] [false] [⟨y7, a_a, a, t_a⟩, ⟨(.int .i64), a_k_, k_, t_k_⟩] [] k = laws_heldStringS a k_ (fun (r0 : Int) => k [⟨(.int .i64), false, r0, []⟩] [] []) := by kernel_rfl
theorem S_laws_heldStringS : Sound Tryz.prog 15 s_laws_heldStringS := sound_of (Γ := g_laws_heldStringS) (X := [xlaws_heldStringS_l0]) (ht := (.t .o (.t (.t .o (.t (.x 0) .o)) .o))) (fz := false) (c := c_laws_heldStringS) follows tysOk (fns_cons S_laws_markText fns_nil) (OrOk.mk trivial ((OrOk.mk ((OrOk.mk trivial ((OrOk.mk (OrOk.x_mk (fun W0 M hnp => olaws_heldStringS_l0 (W0 := W0) (M := M) hnp)) trivial)))) trivial))) Tryz.func15 (by kernel_rfl) (by kernel_rfl) (by decide) (by
 intro vals ext k r h
 obtain ⟨a, a_a, t_a, vals, rfl, h1⟩ := av_some h
 obtain ⟨k_, a_k_, t_k_, vals, rfl, h2⟩ := av_some h1
 obtain ⟨rfl, h3⟩ := nl_some h2
 obtain ⟨rfl, h4⟩ := nl_some h3
 exact (E_laws_heldStringS a a_a t_a k_ a_k_ t_k_ k).trans h4)
end Go.PI.G
end
