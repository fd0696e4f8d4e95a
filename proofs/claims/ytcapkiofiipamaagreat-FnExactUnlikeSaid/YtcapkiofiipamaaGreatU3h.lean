/-
  Printed texts and plain laws. No conditions.
-/
import Derived.Test.YtcapkiofiipamaaGreatU3a
import Derived.Test.YtcapkiofiipamaaGreatU3g
import Derived.Test.YtcapkiofiipamaaGreatU3e
import Derived.Test.YtcapkiofiipamaaGreatU3f
set_option linter.unusedVariables false
set_option maxRecDepth 100000
noncomputable section
namespace Go.PI.G
open Go Go.PI Go.Proofs

/-! ### 132 loop.example/g00462/laws.szRowS -/
def c_laws_szRowS : Code := (Tryz.f132.body).getD .skip
def g_laws_szRowS : Env Unit := ⟨tys, [(165, s_laws_szRow)], 0⟩
def laws_szRowS_l0_r (a : List qW) (left : Int) (i : Int) (rec : Int → Int → Res) (k0 : Int → Res) (k1 : Unit → Res) : Res :=
 bif decide (i < (nI (List.length a))) then
  bif inb i (List.length a) then
   laws_szRow (nth [] a i) left fun (r : Int) =>
    bif decide (r < 0) then
     k1 ()
    else
     rec r (wi64 (i + 1))
  else none
 else
  k0 left
def laws_szRowS_l0_s (a : List qW) : (Int × Int) → (Int × Int → Res) → ((Int → Res) × (Unit → Res)) → Res := fun v rec q => laws_szRowS_l0_r a v.1 v.2 (fun left i => rec (left, i)) q.1 q.2
def laws_szRowS_l0 (a : List qW) (n : Nat) (left : Int) (i : Int) (k0 : Int → Res) (k1 : Unit → Res) : Res := iter (laws_szRowS_l0_s a) n (left, i) (k0, k1)
def xlaws_szRowS_l0 : Node Unit := fun σ k => rdN σ 27 <| rdV σ 0 y12 false [.S] fun a => rdV σ 1 (.int .i64) false [] fun left => rdV σ 5 (.int .i64) false [] fun i => laws_szRowS_l0 a FUEL left i (fun (left1 : Int) => k (.exit 0) (mkS 27 27 [(1, .val ⟨(.int .i64), false, left1, []⟩)] [])) (fun (_ : Unit) => k .ret (mkS 27 27 [(4, .val ⟨(.int .i64), false, (-1), []⟩)] []))
theorem elaws_szRowS_l0 (a : List qW) (n : Nat) (v : Int × Int) (k : Kont Unit) : loopC (codeC g_laws_szRowS [] .o (Code.pl (Code.pl (Code.pr (Code.pl (Code.pr (Code.pr (Code.pr c_laws_szRowS)))))))) (fun σ => σ.forget [0, 1, 5] []) (cutC ([], []) [(0, [1], [])] ([4], [])) n (mkS 27 27 [(0, .val ⟨y12, false, a, [.S]⟩), (1, .val ⟨(.int .i64), false, v.1, []⟩), (5, .val ⟨(.int .i64), false, v.2, []⟩)] []) k = iter (laws_szRowS_l0_s a) n v ((fun (k : Kont Unit) => (((fun (left1 : Int) => k (.exit 0) (mkS 27 27 [(1, .val ⟨(.int .i64), false, left1, []⟩)] [])), (fun (_ : Unit) => k .ret (mkS 27 27 [(4, .val ⟨(.int .i64), false, (-1), []⟩)] []))) : (Int → Res) × (Unit → Res))) k) := loop_eq (fun v : Int × Int => (mkS 27 27 [(0, .val ⟨y12, false, a, [.S]⟩), (1, .val ⟨(.int .i64), false, v.1, []⟩), (5, .val ⟨(.int .i64), false, v.2, []⟩)] [])) (laws_szRowS_l0_s a) (fun (k : Kont Unit) => (((fun (left1 : Int) => k (.exit 0) (mkS 27 27 [(1, .val ⟨(.int .i64), false, left1, []⟩)] [])), (fun (_ : Unit) => k .ret (mkS 27 27 [(4, .val ⟨(.int .i64), false, (-1), []⟩)] []))) : (Int → Res) × (Unit → Res))) (fun v rec k => by kernel_rfl) n v k
theorem olaws_szRowS_l0 {W0 : Base} {M : Nat → Prop} (hnp : W0.np ≤ 0) : CodeOk Tryz.prog W0 M (Code.pl (Code.pr (Code.pl (Code.pr (Code.pr (Code.pr c_laws_szRowS)))))) xlaws_szRowS_l0 := show CodeOk Tryz.prog W0 M (Code.loop (Code.pl (Code.pl (Code.pr (Code.pl (Code.pr (Code.pr (Code.pr c_laws_szRowS)))))))) xlaws_szRowS_l0 from loop_ok (code_sound follows tysOk (calls_ok (fns_cons S_laws_szRow fns_nil)) hnp [] (Code.pl (Code.pl (Code.pr (Code.pl (Code.pr (Code.pr (Code.pr c_laws_szRowS))))))) .o trivial) (ks := [0, 1, 5]) (bs := []) (fX := (cutC ([], []) [(0, [1], [])] ([4], []))) (cutC_le _ _ _) FUEL (by
 intro σ k r h
 obtain ⟨hn, h1⟩ := rdN_some h
 obtain ⟨a, hs0, h2⟩ := rdV_some h1
 obtain ⟨left, hs1, h3⟩ := rdV_some h2
 obtain ⟨i, hs5, h4⟩ := rdV_some h3
 refine ⟨_, ?_, (elaws_szRowS_l0 a FUEL (left, i) k).trans h4⟩
 exact mkS_le hn ⟨hs0, hs1, hs5, trivial⟩ trivial)
def laws_szRowS (a : List qW) (left : Int) (k0 : Int → Res) : Res :=
 bif decide ((wi64 (left - (nI (List.length a)))) < 0) then
  k0 (-1)
 else
  laws_szRowS_l0 a FUEL (wi64 (left - (nI (List.length a)))) 0
   (fun (left1 : Int) =>
    k0 left1)
   (fun (_ : Unit) =>
    k0 (-1))
def s_laws_szRowS : Sig Unit := ⟨[.look y12 false, .look (.int .i64) false], [false], fun vals ext k => av vals y12 fun a vals => av vals (.int .i64) fun left vals => nl vals <| nl ext <| laws_szRowS a left (fun (r0 : Int) => k [⟨(.int .i64), false, r0, []⟩] [] [])⟩
theorem E_laws_szRowS (a : List qW) (a_a : Bool) (t_a : List Tag) (left : Int) (a_left : Bool) (t_left : List Tag) (k : qK) : funC g_laws_szRowS [xlaws_szRowS_l0] (.t .o (.t .o (.t .o (.t (.t .o (.t (.x 0) .o)) .o)))) false Tryz.f132 [.look y12 false, .look (.int .i64) false] [false] [⟨y12, a_a, a, t_a⟩, ⟨(.int .i64), a_left, left, t_left⟩] [] k = laws_szRowS a left (fun (r0 : Int) => k [⟨(.int .i64), false, r0, []⟩] [] []) := by kernel_rfl
theorem S_laws_szRowS : Sound Tryz.prog 132 s_laws_szRowS := sound_of (Γ := g_laws_szRowS) (X := [xlaws_szRowS_l0]) (ht := (.t .o (.t .o (.t .o (.t (.t .o (.t (.x 0) .o)) .o))))) (fz := false) (c := c_laws_szRowS) follows tysOk (fns_cons S_laws_szRow fns_nil) (OrOk.mk trivial ((OrOk.mk trivial ((OrOk.mk trivial ((OrOk.mk ((OrOk.mk trivial ((OrOk.mk (OrOk.x_mk (fun W0 M hnp => olaws_szRowS_l0 (W0 := W0) (M := M) hnp)) trivial)))) trivial))))))) Tryz.func132 (by kernel_rfl) (by kernel_rfl) (by decide) (by
 intro vals ext k r h
 obtain ⟨a, a_a, t_a, vals, rfl, h1⟩ := av_some h
 obtain ⟨left, a_left, t_left, vals, rfl, h2⟩ := av_some h1
 obtain ⟨rfl, h3⟩ := nl_some h2
 obtain ⟨rfl, h4⟩ := nl_some h3
 exact (E_laws_szRowS a a_a t_a left a_left t_left k).trans h4)

/-! ### 138 loop.example/g00462/laws.toRowS -/
def c_laws_toRowS : Code := (Tryz.f138.body).getD .skip
def g_laws_toRowS : Env Unit := ⟨tys, [(172, s_laws_toRow)], 0⟩
def laws_toRowS_l0_r (a : List qW) (out : List qW) (i : Int) (rec : qR → Int → Res) (k0 : qR → Res) : Res :=
 bif decide (i < (nI (List.length a))) then
  bif inb i (List.length a) then
   laws_toRow (nth [] a i) fun (r : List qV) =>
    bif inb i (List.length out) then
     rec (upd out i r) (wi64 (i + 1))
    else none
  else none
 else
  k0 out
def laws_toRowS_l0_s (a : List qW) : (qR × Int) → (qR × Int → Res) → ((qR → Res)) → Res := fun v rec q => laws_toRowS_l0_r a v.1 v.2 (fun out i => rec (out, i)) q
def laws_toRowS_l0 (a : List qW) (n : Nat) (out : List qW) (i : Int) (k0 : qR → Res) : Res := iter (laws_toRowS_l0_s a) n (out, i) (k0)
def xlaws_toRowS_l0 : Node Unit := fun σ k => rdN σ 23 <| rdV σ 0 y12 false [.S] fun a => rdV σ 3 y12 false [.O] fun out => rdV σ 4 (.int .i64) false [] fun i => laws_toRowS_l0 a FUEL out i (fun (out1 : List qW) => k (.exit 0) (mkS 23 23 [(3, .val ⟨y12, false, out1, [.O]⟩)] []))
theorem elaws_toRowS_l0 (a : List qW) (n : Nat) (v : qR × Int) (k : Kont Unit) : loopC (codeC g_laws_toRowS [] .o (Code.pl (Code.pl (Code.pr (Code.pl (Code.pr (Code.pr c_laws_toRowS))))))) (fun σ => σ.forget [0, 3, 4] []) (cutC ([], []) [(0, [3], [])] ([], [])) n (mkS 23 23 [(0, .val ⟨y12, false, a, [.S]⟩), (3, .val ⟨y12, false, v.1, [.O]⟩), (4, .val ⟨(.int .i64), false, v.2, []⟩)] []) k = iter (laws_toRowS_l0_s a) n v ((fun (k : Kont Unit) => (((fun (out1 : List qW) => k (.exit 0) (mkS 23 23 [(3, .val ⟨y12, false, out1, [.O]⟩)] []))) : (qR → Res))) k) := loop_eq (fun v : qR × Int => (mkS 23 23 [(0, .val ⟨y12, false, a, [.S]⟩), (3, .val ⟨y12, false, v.1, [.O]⟩), (4, .val ⟨(.int .i64), false, v.2, []⟩)] [])) (laws_toRowS_l0_s a) (fun (k : Kont Unit) => (((fun (out1 : List qW) => k (.exit 0) (mkS 23 23 [(3, .val ⟨y12, false, out1, [.O]⟩)] []))) : (qR → Res))) (fun v rec k => by kernel_rfl) n v k
theorem olaws_toRowS_l0 {W0 : Base} {M : Nat → Prop} (hnp : W0.np ≤ 0) : CodeOk Tryz.prog W0 M (Code.pl (Code.pr (Code.pl (Code.pr (Code.pr c_laws_toRowS))))) xlaws_toRowS_l0 := show CodeOk Tryz.prog W0 M (Code.loop (Code.pl (Code.pl (Code.pr (Code.pl (Code.pr (Code.pr c_laws_toRowS))))))) xlaws_toRowS_l0 from loop_ok (code_sound follows tysOk (calls_ok (fns_cons S_laws_toRow fns_nil)) hnp [] (Code.pl (Code.pl (Code.pr (Code.pl (Code.pr (Code.pr c_laws_toRowS)))))) .o trivial) (ks := [0, 3, 4]) (bs := []) (fX := (cutC ([], []) [(0, [3], [])] ([], []))) (cutC_le _ _ _) FUEL (by
 intro σ k r h
 obtain ⟨hn, h1⟩ := rdN_some h
 obtain ⟨a, hs0, h2⟩ := rdV_some h1
 obtain ⟨out, hs3, h3⟩ := rdV_some h2
 obtain ⟨i, hs4, h4⟩ := rdV_some h3
 refine ⟨_, ?_, (elaws_toRowS_l0 a FUEL (out, i) k).trans h4⟩
 exact mkS_le hn ⟨hs0, hs3, hs4, trivial⟩ trivial)
def laws_toRowS (a : List qW) (k0 : qR → Res) : Res :=
 bif mkOk (nI (List.length a)) (nI (List.length a)) then
  laws_toRowS_l0 a FUEL (repl (nI (List.length a)) []) 0 fun (out : List qW) =>
   k0 out
 else none
def s_laws_toRowS : Sig Unit := ⟨[.borrow y12 false], [false], fun vals ext k => av vals y12 fun a vals => nl vals <| nl ext <| laws_toRowS a (fun (r0 : List qW) => k [⟨y12, false, r0, [.O]⟩] [] [])⟩
theorem E_laws_toRowS (a : List qW) (a_a : Bool) (t_a : List Tag) (k : qK) : funC g_laws_toRowS [xlaws_toRowS_l0] (.t .o (.t .o (.t (.t .o (.t (.x 0) .o)) .o))) false Tryz.f138 [.borrow y12 false] [false] [⟨y12, a_a, a, t_a⟩] [] k = laws_toRowS a (fun (r0 : List qW) => k [⟨y12, false, r0, [.O]⟩] [] []) := by kernel_rfl
theorem S_laws_toRowS : Sound Tryz.prog 138 s_laws_toRowS := sound_of (Γ := g_laws_toRowS) (X := [xlaws_toRowS_l0]) (ht := (.t .o (.t .o (.t (.t .o (.t (.x 0) .o)) .o)))) (fz := false) (c := c_laws_toRowS) follows tysOk (fns_cons S_laws_toRow fns_nil) (OrOk.mk trivial ((OrOk.mk trivial ((OrOk.mk ((OrOk.mk trivial ((OrOk.mk (OrOk.x_mk (fun W0 M hnp => olaws_toRowS_l0 (W0 := W0) (M := M) hnp)) trivial)))) trivial))))) Tryz.func138 (by kernel_rfl) (by kernel_rfl) (by decide) (by
 intro vals ext k r h
 obtain ⟨a, a_a, t_a, vals, rfl, h1⟩ := av_some h
 obtain ⟨rfl, h2⟩ := nl_some h1
 obtain ⟨rfl, h3⟩ := nl_some h2
 exact (E_laws_toRowS a a_a t_a k).trans h3)

/-! ### 145 loop.example/g00462/laws.eqRowS -/
def c_laws_eqRowS : Code := (Tryz.f145.body).getD .skip
def g_laws_eqRowS : Env Unit := ⟨tys, [(129, s_laws_eqRow)], 0⟩
def laws_eqRowS_l0_r (a : List qW) (b : List qW) (i : Int) (rec : Int → Res) (k0 : Unit → Res) (k1 : Unit → Res) : Res :=
 bif decide (i < (nI (List.length a))) then
  bif inb i (List.length a) then
   bif inb i (List.length b) then
    laws_eqRow (nth [] a i) (nth [] b i) fun (r : Bool) =>
     bif !r then
      k1 ()
     else
      rec (wi64 (i + 1))
   else none
  else none
 else
  k0 ()
def laws_eqRowS_l0_s (a : List qW) (b : List qW) : Int → (Int → Res) → ((Unit → Res) × (Unit → Res)) → Res := fun v rec q => laws_eqRowS_l0_r a b v (fun i => rec (i)) q.1 q.2
def laws_eqRowS_l0 (a : List qW) (b : List qW) (n : Nat) (i : Int) (k0 : Unit → Res) (k1 : Unit → Res) : Res := iter (laws_eqRowS_l0_s a b) n (i) (k0, k1)
def xlaws_eqRowS_l0 : Node Unit := fun σ k => rdN σ 27 <| rdV σ 0 y12 false [.S] fun a => rdV σ 1 y12 false [.S] fun b => rdV σ 5 (.int .i64) false [] fun i => laws_eqRowS_l0 a b FUEL i (fun (_ : Unit) => k (.exit 0) (mkS 27 27 [] [])) (fun (_ : Unit) => k .ret (mkS 27 27 [(4, .val ⟨.bool, false, false, []⟩)] []))
theorem elaws_eqRowS_l0 (a : List qW) (b : List qW) (n : Nat) (v : Int) (k : Kont Unit) : loopC (codeC g_laws_eqRowS [] .o (Code.pl (Code.pl (Code.pr (Code.pl (Code.pr (Code.pr c_laws_eqRowS))))))) (fun σ => σ.forget [0, 1, 5] []) (cutC ([], []) [(0, [], [])] ([4], [])) n (mkS 27 27 [(0, .val ⟨y12, false, a, [.S]⟩), (1, .val ⟨y12, false, b, [.S]⟩), (5, .val ⟨(.int .i64), false, v, []⟩)] []) k = iter (laws_eqRowS_l0_s a b) n v ((fun (k : Kont Unit) => (((fun (_ : Unit) => k (.exit 0) (mkS 27 27 [] [])), (fun (_ : Unit) => k .ret (mkS 27 27 [(4, .val ⟨.bool, false, false, []⟩)] []))) : (Unit → Res) × (Unit → Res))) k) := loop_eq (fun v : Int => (mkS 27 27 [(0, .val ⟨y12, false, a, [.S]⟩), (1, .val ⟨y12, false, b, [.S]⟩), (5, .val ⟨(.int .i64), false, v, []⟩)] [])) (laws_eqRowS_l0_s a b) (fun (k : Kont Unit) => (((fun (_ : Unit) => k (.exit 0) (mkS 27 27 [] [])), (fun (_ : Unit) => k .ret (mkS 27 27 [(4, .val ⟨.bool, false, false, []⟩)] []))) : (Unit → Res) × (Unit → Res))) (fun v rec k => by kernel_rfl) n v k
theorem olaws_eqRowS_l0 {W0 : Base} {M : Nat → Prop} (hnp : W0.np ≤ 0) : CodeOk Tryz.prog W0 M (Code.pl (Code.pr (Code.pl (Code.pr (Code.pr c_laws_eqRowS))))) xlaws_eqRowS_l0 := show CodeOk Tryz.prog W0 M (Code.loop (Code.pl (Code.pl (Code.pr (Code.pl (Code.pr (Code.pr c_laws_eqRowS))))))) xlaws_eqRowS_l0 from loop_ok (code_sound follows tysOk (calls_ok (fns_cons S_laws_eqRow fns_nil)) hnp [] (Code.pl (Code.pl (Code.pr (Code.pl (Code.pr (Code.pr c_laws_eqRowS)))))) .o trivial) (ks := [0, 1, 5]) (bs := []) (fX := (cutC ([], []) [(0, [], [])] ([4], []))) (cutC_le _ _ _) FUEL (by
 intro σ k r h
 obtain ⟨hn, h1⟩ := rdN_some h
 obtain ⟨a, hs0, h2⟩ := rdV_some h1
 obtain ⟨b, hs1, h3⟩ := rdV_some h2
 obtain ⟨i, hs5, h4⟩ := rdV_some h3
 refine ⟨_, ?_, (elaws_eqRowS_l0 a b FUEL (i) k).trans h4⟩
 exact mkS_le hn ⟨hs0, hs1, hs5, trivial⟩ trivial)
def laws_eqRowS (a : List qW) (b : List qW) (k0 : Bool → Res) : Res :=
 bif ((nI (List.length a)) != (nI (List.length b))) then
  k0 false
 else
  laws_eqRowS_l0 a b FUEL 0
   (fun (_ : Unit) =>
    k0 true)
   (fun (_ : Unit) =>
    k0 false)
def s_laws_eqRowS : Sig Unit := ⟨[.look y12 false, .look y12 false], [false], fun vals ext k => av vals y12 fun a vals => av vals y12 fun b vals => nl vals <| nl ext <| laws_eqRowS a b (fun (r0 : Bool) => k [⟨.bool, false, r0, []⟩] [] [])⟩
theorem E_laws_eqRowS (a : List qW) (a_a : Bool) (t_a : List Tag) (b : List qW) (a_b : Bool) (t_b : List Tag) (k : qK) : funC g_laws_eqRowS [xlaws_eqRowS_l0] (.t .o (.t .o (.t (.t .o (.t (.x 0) .o)) .o))) false Tryz.f145 [.look y12 false, .look y12 false] [false] [⟨y12, a_a, a, t_a⟩, ⟨y12, a_b, b, t_b⟩] [] k = laws_eqRowS a b (fun (r0 : Bool) => k [⟨.bool, false, r0, []⟩] [] []) := by kernel_rfl
theorem S_laws_eqRowS : Sound Tryz.prog 145 s_laws_eqRowS := sound_of (Γ := g_laws_eqRowS) (X := [xlaws_eqRowS_l0]) (ht := (.t .o (.t .o (.t (.t .o (.t (.x 0) .o)) .o)))) (fz := false) (c := c_laws_eqRowS) follows tysOk (fns_cons S_laws_eqRow fns_nil) (OrOk.mk trivial ((OrOk.mk trivial ((OrOk.mk ((OrOk.mk trivial ((OrOk.mk (OrOk.x_mk (fun W0 M hnp => olaws_eqRowS_l0 (W0 := W0) (M := M) hnp)) trivial)))) trivial))))) Tryz.func145 (by kernel_rfl) (by kernel_rfl) (by decide) (by
 intro vals ext k r h
 obtain ⟨a, a_a, t_a, vals, rfl, h1⟩ := av_some h
 obtain ⟨b, a_b, t_b, vals, rfl, h2⟩ := av_some h1
 obtain ⟨rfl, h3⟩ := nl_some h2
 obtain ⟨rfl, h4⟩ := nl_some h3
 exact (E_laws_eqRowS a a_a t_a b a_b t_b k).trans h4)

/-! ### 98 loop.example/g00462/laws.markRowS -/
def c_laws_markRowS : Code := (Tryz.f98.body).getD .skip
def g_laws_markRowS : Env Unit := ⟨tys, [(79, s_laws_markValS)], 1⟩
def laws_markRowS_l0_r (a : List qW) (k_ : Int) (i : Int) (rec : qR → Int → Int → Res) (k0 : qR → Int → Res) : Res :=
 bif decide (i < (nI (List.length a))) then
  bif inb i (List.length a) then
   laws_markValS (nth [] a i) k_ fun (r : Int) (a1 : List qV) =>
    rec (upd a i a1) r (wi64 (i + 1))
  else none
 else
  k0 a k_
def laws_markRowS_l0_s : (qR × Int × Int) → (qR × Int × Int → Res) → ((qR → Int → Res)) → Res := fun v rec q => laws_markRowS_l0_r v.1 v.2.1 v.2.2 (fun a k_ i => rec (a, k_, i)) q
def laws_markRowS_l0 (n : Nat) (a : List qW) (k_ : Int) (i : Int) (k0 : qR → Int → Res) : Res := iter (laws_markRowS_l0_s) n (a, k_, i) (k0)
def xlaws_markRowS_l0 : Node Unit := fun σ k => rdN σ 20 <| rdV σ 0 y12 false [.O] fun a => rdV σ 1 (.int .i64) false [] fun k_ => rdV σ 5 (.int .i64) false [] fun i => laws_markRowS_l0 FUEL a k_ i (fun (a2 : List qW) (k_1 : Int) => k (.exit 0) (mkS 20 20 [(0, .val ⟨y12, false, a2, [.O]⟩), (1, .val ⟨(.int .i64), false, k_1, []⟩)] []))
theorem elaws_markRowS_l0  (n : Nat) (v : qR × Int × Int) (k : Kont Unit) : loopC (codeC g_laws_markRowS [] .o (Code.pl (Code.pl (Code.pr (Code.pl (Code.pr c_laws_markRowS)))))) (fun σ => σ.forget [0, 1, 5] []) (cutC ([], []) [(0, [0, 1], [])] ([], [])) n (mkS 20 20 [(0, .val ⟨y12, false, v.1, [.O]⟩), (1, .val ⟨(.int .i64), false, v.2.1, []⟩), (5, .val ⟨(.int .i64), false, v.2.2, []⟩)] []) k = iter (laws_markRowS_l0_s) n v ((fun (k : Kont Unit) => (((fun (a2 : List qW) (k_1 : Int) => k (.exit 0) (mkS 20 20 [(0, .val ⟨y12, false, a2, [.O]⟩), (1, .val ⟨(.int .i64), false, k_1, []⟩)] []))) : (qR → Int → Res))) k) := loop_eq (fun v : qR × Int × Int => (mkS 20 20 [(0, .val ⟨y12, false, v.1, [.O]⟩), (1, .val ⟨(.int .i64), false, v.2.1, []⟩), (5, .val ⟨(.int .i64), false, v.2.2, []⟩)] [])) (laws_markRowS_l0_s) (fun (k : Kont Unit) => (((fun (a2 : List qW) (k_1 : Int) => k (.exit 0) (mkS 20 20 [(0, .val ⟨y12, false, a2, [.O]⟩), (1, .val ⟨(.int .i64), false, k_1, []⟩)] []))) : (qR → Int → Res))) (fun v rec k => by kernel_rfl) n v k
theorem olaws_markRowS_l0 {W0 : Base} {M : Nat → Prop} (hnp : W0.np ≤ 1) : CodeOk Tryz.prog W0 M (Code.pl (Code.pr (Code.pl (Code.pr c_laws_markRowS)))) xlaws_markRowS_l0 := show CodeOk Tryz.prog W0 M (Code.loop (Code.pl (Code.pl (Code.pr (Code.pl (Code.pr c_laws_markRowS)))))) xlaws_markRowS_l0 from loop_ok (code_sound follows tysOk (calls_ok (fns_cons S_laws_markValS fns_nil)) hnp [] (Code.pl (Code.pl (Code.pr (Code.pl (Code.pr c_laws_markRowS))))) .o trivial) (ks := [0, 1, 5]) (bs := []) (fX := (cutC ([], []) [(0, [0, 1], [])] ([], []))) (cutC_le _ _ _) FUEL (by
 intro σ k r h
 obtain ⟨hn, h1⟩ := rdN_some h
 obtain ⟨a, hs0, h2⟩ := rdV_some h1
 obtain ⟨k_, hs1, h3⟩ := rdV_some h2
 obtain ⟨i, hs5, h4⟩ := rdV_some h3
 refine ⟨_, ?_, (elaws_markRowS_l0  FUEL (a, k_, i) k).trans h4⟩
 exact mkS_le hn ⟨hs0, hs1, hs5, trivial⟩ trivial)
def laws_markRowS (a : List qW) (k_ : Int) (k0 : Int → qR → Res) : Res :=
 laws_markRowS_l0 FUEL a k_ 0 fun (a1 : List qW) (k_1 : Int) =>
  k0 k_1 a1
def s_laws_markRowS : Sig Unit := ⟨[.inout y12 false, .borrow (.int .i64) false], [false], fun vals ext k => ao vals y12 [.O] fun a vals => av vals (.int .i64) fun k_ vals => nl vals <| nl ext <| laws_markRowS a k_ (fun (r0 : Int) (i0 : List qW) => k [⟨(.int .i64), false, r0, []⟩] [⟨y12, false, i0, [.O]⟩] [])⟩
theorem E_laws_markRowS (a_a : Bool) (a : List qW) (k_ : Int) (a_k_ : Bool) (t_k_ : List Tag) (k : qK) : funC g_laws_markRowS [xlaws_markRowS_l0] (.t .o (.t (.t .o (.t (.x 0) .o)) .o)) false Tryz.f98 [.inout y12 false, .borrow (.int .i64) false] [false] [⟨y12, a_a, a, [.O]⟩, ⟨(.int .i64), a_k_, k_, t_k_⟩] [] k = laws_markRowS a k_ (fun (r0 : Int) (i0 : List qW) => k [⟨(.int .i64), false, r0, []⟩] [⟨y12, false, i0, [.O]⟩] []) := by kernel_rfl
theorem S_laws_markRowS : Sound Tryz.prog 98 s_laws_markRowS := sound_of (Γ := g_laws_markRowS) (X := [xlaws_markRowS_l0]) (ht := (.t .o (.t (.t .o (.t (.x 0) .o)) .o))) (fz := false) (c := c_laws_markRowS) follows tysOk (fns_cons S_laws_markValS fns_nil) (OrOk.mk trivial ((OrOk.mk ((OrOk.mk trivial ((OrOk.mk (OrOk.x_mk (fun W0 M hnp => olaws_markRowS_l0 (W0 := W0) (M := M) hnp)) trivial)))) trivial))) Tryz.func98 (by kernel_rfl) (by kernel_rfl) (by decide) (by
 intro vals ext k r h
 obtain ⟨a_a, a, vals, rfl, h1⟩ := ao_some h
 obtain ⟨k_, a_k_, t_k_, vals, rfl, h2⟩ := av_some h1
 obtain ⟨rfl, h3⟩ := nl_some h2
 obtain ⟨rfl, h4⟩ := nl_some h3
 exact (E_laws_markRowS a_a a k_ a_k_ t_k_ k).trans h4)
end Go.PI.G
end
noncomputable section
namespace Go.PI.G
open Go Go.PI Go.Proofs

/-! ### 84 loop.example/g00462/laws.szRows -/
def c_laws_szRows : Code := (Tryz.f84.body).getD .skip
def g_laws_szRows : Env Unit := ⟨tys, [(132, s_laws_szRowS)], 0⟩
def laws_szRows (a : List qW) (left : Int) (k0 : Int → Res) : Res :=
 laws_szRowS a left fun (r : Int) =>
  bif decide (r < 0) then
   k0 (-1)
  else
   k0 r
def s_laws_szRows : Sig Unit := ⟨[.look y12 true, .look (.int .i64) false], [false], fun vals ext k => av vals y12 fun a vals => av vals (.int .i64) fun left vals => nl vals <| nl ext <| laws_szRows a left (fun (r0 : Int) => k [⟨(.int .i64), false, r0, []⟩] [] [])⟩
theorem E_laws_szRows (a : List qW) (a_a : Bool) (t_a : List Tag) (left : Int) (a_left : Bool) (t_left : List Tag) (k : qK) : funC g_laws_szRows [] .o false Tryz.f84 [.look y12 true, .look (.int .i64) false] [false] [⟨y12, a_a, a, t_a⟩, ⟨(.int .i64), a_left, left, t_left⟩] [] k = laws_szRows a left (fun (r0 : Int) => k [⟨(.int .i64), false, r0, []⟩] [] []) := by kernel_rfl
theorem S_laws_szRows : Sound Tryz.prog 84 s_laws_szRows := sound_of (Γ := g_laws_szRows) (X := []) (ht := .o) (fz := false) (c := c_laws_szRows) follows tysOk (fns_cons S_laws_szRowS fns_nil) trivial Tryz.func84 (by kernel_rfl) (by kernel_rfl) (by decide) (by
 intro vals ext k r h
 obtain ⟨a, a_a, t_a, vals, rfl, h1⟩ := av_some h
 obtain ⟨left, a_left, t_left, vals, rfl, h2⟩ := av_some h1
 obtain ⟨rfl, h3⟩ := nl_some h2
 obtain ⟨rfl, h4⟩ := nl_some h3
 exact (E_laws_szRows a a_a t_a left a_left t_left k).trans h4)

/-! ### 89 loop.example/g00462/laws.toRows -/
def c_laws_toRows : Code := (Tryz.f89.body).getD .skip
def g_laws_toRows : Env Unit := ⟨tys, [(138, s_laws_toRowS)], 0⟩
def laws_toRows (a : List qW) (k0 : qR → Res) : Res :=
 laws_toRowS a fun (r : List qW) =>
  k0 r
def s_laws_toRows : Sig Unit := ⟨[.borrow y12 true], [true], fun vals ext k => av vals y12 fun a vals => nl vals <| nl ext <| laws_toRows a (fun (r0 : List qW) => k [⟨y12, true, r0, [.O]⟩] [] [])⟩
theorem E_laws_toRows (a : List qW) (a_a : Bool) (t_a : List Tag) (k : qK) : funC g_laws_toRows [] .o false Tryz.f89 [.borrow y12 true] [true] [⟨y12, a_a, a, t_a⟩] [] k = laws_toRows a (fun (r0 : List qW) => k [⟨y12, true, r0, [.O]⟩] [] []) := by kernel_rfl
theorem S_laws_toRows : Sound Tryz.prog 89 s_laws_toRows := sound_of (Γ := g_laws_toRows) (X := []) (ht := .o) (fz := false) (c := c_laws_toRows) follows tysOk (fns_cons S_laws_toRowS fns_nil) trivial Tryz.func89 (by kernel_rfl) (by kernel_rfl) (by decide) (by
 intro vals ext k r h
 obtain ⟨a, a_a, t_a, vals, rfl, h1⟩ := av_some h
 obtain ⟨rfl, h2⟩ := nl_some h1
 obtain ⟨rfl, h3⟩ := nl_some h2
 exact (E_laws_toRows a a_a t_a k).trans h3)

/-! ### 96 loop.example/g00462/laws.eqRows -/
def c_laws_eqRows : Code := (Tryz.f96.body).getD .skip
def g_laws_eqRows : Env Unit := ⟨tys, [(145, s_laws_eqRowS)], 0⟩
def laws_eqRows (a : List qW) (b : List qW) (k0 : Bool → Res) : Res :=
 laws_eqRowS a b fun (r : Bool) =>
  bif !r then
   k0 false
  else
   k0 true
def s_laws_eqRows : Sig Unit := ⟨[.look y12 true, .look y12 true], [false], fun vals ext k => av vals y12 fun a vals => av vals y12 fun b vals => nl vals <| nl ext <| laws_eqRows a b (fun (r0 : Bool) => k [⟨.bool, false, r0, []⟩] [] [])⟩
theorem E_laws_eqRows (a : List qW) (a_a : Bool) (t_a : List Tag) (b : List qW) (a_b : Bool) (t_b : List Tag) (k : qK) : funC g_laws_eqRows [] .o false Tryz.f96 [.look y12 true, .look y12 true] [false] [⟨y12, a_a, a, t_a⟩, ⟨y12, a_b, b, t_b⟩] [] k = laws_eqRows a b (fun (r0 : Bool) => k [⟨.bool, false, r0, []⟩] [] []) := by kernel_rfl
theorem S_laws_eqRows : Sound Tryz.prog 96 s_laws_eqRows := sound_of (Γ := g_laws_eqRows) (X := []) (ht := .o) (fz := false) (c := c_laws_eqRows) follows tysOk (fns_cons S_laws_eqRowS fns_nil) trivial Tryz.func96 (by kernel_rfl) (by kernel_rfl) (by decide) (by
 intro vals ext k r h
 obtain ⟨a, a_a, t_a, vals, rfl, h1⟩ := av_some h
 obtain ⟨b, a_b, t_b, vals, rfl, h2⟩ := av_some h1
 obtain ⟨rfl, h3⟩ := nl_some h2
 obtain ⟨rfl, h4⟩ := nl_some h3
 exact (E_laws_eqRows a a_a t_a b a_b t_b k).trans h4)
end Go.PI.G
end
noncomputable section
namespace Go.PI.G
open Go Go.PI Go.Proofs

/-! ### 36 loop.example/g00462/laws.szRowsS -/
def c_laws_szRowsS : Code := (Tryz.f36.body).getD .skip
def g_laws_szRowsS : Env Unit := ⟨tys, [(84, s_laws_szRows)], 0⟩
def laws_szRowsS_l0_r (a : List qR) (left : Int) (i : Int) (rec : Int → Int → Res) (k0 : Int → Res) (k1 : Unit → Res) : Res :=
 bif decide (i < (nI (List.length a))) then
  bif inb i (List.length a) then
   laws_szRows (nth [] a i) left fun (r : Int) =>
    bif decide (r < 0) then
     k1 ()
    else
     rec r (wi64 (i + 1))
  else none
 else
  k0 left
def laws_szRowsS_l0_s (a : List qR) : (Int × Int) → (Int × Int → Res) → ((Int → Res) × (Unit → Res)) → Res := fun v rec q => laws_szRowsS_l0_r a v.1 v.2 (fun left i => rec (left, i)) q.1 q.2
def laws_szRowsS_l0 (a : List qR) (n : Nat) (left : Int) (i : Int) (k0 : Int → Res) (k1 : Unit → Res) : Res := iter (laws_szRowsS_l0_s a) n (left, i) (k0, k1)
def xlaws_szRowsS_l0 : Node Unit := fun σ k => rdN σ 27 <| rdV σ 0 y13 false [.S] fun a => rdV σ 1 (.int .i64) false [] fun left => rdV σ 5 (.int .i64) false [] fun i => laws_szRowsS_l0 a FUEL left i (fun (left1 : Int) => k (.exit 0) (mkS 27 27 [(1, .val ⟨(.int .i64), false, left1, []⟩)] [])) (fun (_ : Unit) => k .ret (mkS 27 27 [(4, .val ⟨(.int .i64), false, (-1), []⟩)] []))
theorem elaws_szRowsS_l0 (a : List qR) (n : Nat) (v : Int × Int) (k : Kont Unit) : loopC (codeC g_laws_szRowsS [] .o (Code.pl (Code.pl (Code.pr (Code.pl (Code.pr (Code.pr (Code.pr c_laws_szRowsS)))))))) (fun σ => σ.forget [0, 1, 5] []) (cutC ([], []) [(0, [1], [])] ([4], [])) n (mkS 27 27 [(0, .val ⟨y13, false, a, [.S]⟩), (1, .val ⟨(.int .i64), false, v.1, []⟩), (5, .val ⟨(.int .i64), false, v.2, []⟩)] []) k = iter (laws_szRowsS_l0_s a) n v ((fun (k : Kont Unit) => (((fun (left1 : Int) => k (.exit 0) (mkS 27 27 [(1, .val ⟨(.int .i64), false, left1, []⟩)] [])), (fun (_ : Unit) => k .ret (mkS 27 27 [(4, .val ⟨(.int .i64), false, (-1), []⟩)] []))) : (Int → Res) × (Unit → Res))) k) := loop_eq (fun v : Int × Int => (mkS 27 27 [(0, .val ⟨y13, false, a, [.S]⟩), (1, .val ⟨(.int .i64), false, v.1, []⟩), (5, .val ⟨(.int .i64), false, v.2, []⟩)] [])) (laws_szRowsS_l0_s a) (fun (k : Kont Unit) => (((fun (left1 : Int) => k (.exit 0) (mkS 27 27 [(1, .val ⟨(.int .i64), false, left1, []⟩)] [])), (fun (_ : Unit) => k .ret (mkS 27 27 [(4, .val ⟨(.int .i64), false, (-1), []⟩)] []))) : (Int → Res) × (Unit → Res))) (fun v rec k => by kernel_rfl) n v k
theorem olaws_szRowsS_l0 {W0 : Base} {M : Nat → Prop} (hnp : W0.np ≤ 0) : CodeOk Tryz.prog W0 M (Code.pl (Code.pr (Code.pl (Code.pr (Code.pr (Code.pr c_laws_szRowsS)))))) xlaws_szRowsS_l0 := show CodeOk Tryz.prog W0 M (Code.loop (Code.pl (Code.pl (Code.pr (Code.pl (Code.pr (Code.pr (Code.pr c_laws_szRowsS)))))))) xlaws_szRowsS_l0 from loop_ok (code_sound follows tysOk (calls_ok (fns_cons S_laws_szRows fns_nil)) hnp [] (Code.pl (Code.pl (Code.pr (Code.pl (Code.pr (Code.pr (Code.pr c_laws_szRowsS))))))) .o trivial) (ks := [0, 1, 5]) (bs := []) (fX := (cutC ([], []) [(0, [1], [])] ([4], []))) (cutC_le _ _ _) FUEL (by
 intro σ k r h
 obtain ⟨hn, h1⟩ := rdN_some h
 obtain ⟨a, hs0, h2⟩ := rdV_some h1
 obtain ⟨left, hs1, h3⟩ := rdV_some h2
 obtain ⟨i, hs5, h4⟩ := rdV_some h3
 refine ⟨_, ?_, (elaws_szRowsS_l0 a FUEL (left, i) k).trans h4⟩
 exact mkS_le hn ⟨hs0, hs1, hs5, trivial⟩ trivial)
def laws_szRowsS (a : List qR) (left : Int) (k0 : Int → Res) : Res :=
 bif decide ((wi64 (left - (nI (List.length a)))) < 0) then
  k0 (-1)
 else
  laws_szRowsS_l0 a FUEL (wi64 (left - (nI (List.length a)))) 0
   (fun (left1 : Int) =>
    k0 left1)
   (fun (_ : Unit) =>
    k0 (-1))
def s_laws_szRowsS : Sig Unit := ⟨[.look y13 false, .look (.int .i64) false], [false], fun vals ext k => av vals y13 fun a vals => av vals (.int .i64) fun left vals => nl vals <| nl ext <| laws_szRowsS a left (fun (r0 : Int) => k [⟨(.int .i64), false, r0, []⟩] [] [])⟩
theorem E_laws_szRowsS (a : List qR) (a_a : Bool) (t_a : List Tag) (left : Int) (a_left : Bool) (t_left : List Tag) (k : qK) : funC g_laws_szRowsS [xlaws_szRowsS_l0] (.t .o (.t .o (.t .o (.t (.t .o (.t (.x 0) .o)) .o)))) false Tryz.f36 [.look y13 false, .look (.int .i64) false] [false] [⟨y13, a_a, a, t_a⟩, ⟨(.int .i64), a_left, left, t_left⟩] [] k = laws_szRowsS a left (fun (r0 : Int) => k [⟨(.int .i64), false, r0, []⟩] [] []) := by kernel_rfl
theorem S_laws_szRowsS : Sound Tryz.prog 36 s_laws_szRowsS := sound_of (Γ := g_laws_szRowsS) (X := [xlaws_szRowsS_l0]) (ht := (.t .o (.t .o (.t .o (.t (.t .o (.t (.x 0) .o)) .o))))) (fz := false) (c := c_laws_szRowsS) follows tysOk (fns_cons S_laws_szRows fns_nil) (OrOk.mk trivial ((OrOk.mk trivial ((OrOk.mk trivial ((OrOk.mk ((OrOk.mk trivial ((OrOk.mk (OrOk.x_mk (fun W0 M hnp => olaws_szRowsS_l0 (W0 := W0) (M := M) hnp)) trivial)))) trivial))))))) Tryz.func36 (by kernel_rfl) (by kernel_rfl) (by decide) (by
 intro vals ext k r h
 obtain ⟨a, a_a, t_a, vals, rfl, h1⟩ := av_some h
 obtain ⟨left, a_left, t_left, vals, rfl, h2⟩ := av_some h1
 obtain ⟨rfl, h3⟩ := nl_some h2
 obtain ⟨rfl, h4⟩ := nl_some h3
 exact (E_laws_szRowsS a a_a t_a left a_left t_left k).trans h4)

/-! ### 41 loop.example/g00462/laws.toRowsS -/
def c_laws_toRowsS : Code := (Tryz.f41.body).getD .skip
def g_laws_toRowsS : Env Unit := ⟨tys, [(89, s_laws_toRows)], 0⟩
def laws_toRowsS_l0_r (a : List qR) (out : List qR) (i : Int) (rec : qX → Int → Res) (k0 : qX → Res) : Res :=
 bif decide (i < (nI (List.length a))) then
  bif inb i (List.length a) then
   laws_toRows (nth [] a i) fun (r : List qW) =>
    bif inb i (List.length out) then
     rec (upd out i r) (wi64 (i + 1))
    else none
  else none
 else
  k0 out
def laws_toRowsS_l0_s (a : List qR) : (qX × Int) → (qX × Int → Res) → ((qX → Res)) → Res := fun v rec q => laws_toRowsS_l0_r a v.1 v.2 (fun out i => rec (out, i)) q
def laws_toRowsS_l0 (a : List qR) (n : Nat) (out : List qR) (i : Int) (k0 : qX → Res) : Res := iter (laws_toRowsS_l0_s a) n (out, i) (k0)
def xlaws_toRowsS_l0 : Node Unit := fun σ k => rdN σ 23 <| rdV σ 0 y13 false [.S] fun a => rdV σ 3 y13 false [.O] fun out => rdV σ 4 (.int .i64) false [] fun i => laws_toRowsS_l0 a FUEL out i (fun (out1 : List qR) => k (.exit 0) (mkS 23 23 [(3, .val ⟨y13, false, out1, [.O]⟩)] []))
theorem elaws_toRowsS_l0 (a : List qR) (n : Nat) (v : qX × Int) (k : Kont Unit) : loopC (codeC g_laws_toRowsS [] .o (Code.pl (Code.pl (Code.pr (Code.pl (Code.pr (Code.pr c_laws_toRowsS))))))) (fun σ => σ.forget [0, 3, 4] []) (cutC ([], []) [(0, [3], [])] ([], [])) n (mkS 23 23 [(0, .val ⟨y13, false, a, [.S]⟩), (3, .val ⟨y13, false, v.1, [.O]⟩), (4, .val ⟨(.int .i64), false, v.2, []⟩)] []) k = iter (laws_toRowsS_l0_s a) n v ((fun (k : Kont Unit) => (((fun (out1 : List qR) => k (.exit 0) (mkS 23 23 [(3, .val ⟨y13, false, out1, [.O]⟩)] []))) : (qX → Res))) k) := loop_eq (fun v : qX × Int => (mkS 23 23 [(0, .val ⟨y13, false, a, [.S]⟩), (3, .val ⟨y13, false, v.1, [.O]⟩), (4, .val ⟨(.int .i64), false, v.2, []⟩)] [])) (laws_toRowsS_l0_s a) (fun (k : Kont Unit) => (((fun (out1 : List qR) => k (.exit 0) (mkS 23 23 [(3, .val ⟨y13, false, out1, [.O]⟩)] []))) : (qX → Res))) (fun v rec k => by kernel_rfl) n v k
theorem olaws_toRowsS_l0 {W0 : Base} {M : Nat → Prop} (hnp : W0.np ≤ 0) : CodeOk Tryz.prog W0 M (Code.pl (Code.pr (Code.pl (Code.pr (Code.pr c_laws_toRowsS))))) xlaws_toRowsS_l0 := show CodeOk Tryz.prog W0 M (Code.loop (Code.pl (Code.pl (Code.pr (Code.pl (Code.pr (Code.pr c_laws_toRowsS))))))) xlaws_toRowsS_l0 from loop_ok (code_sound follows tysOk (calls_ok (fns_cons S_laws_toRows fns_nil)) hnp [] (Code.pl (Code.pl (Code.pr (Code.pl (Code.pr (Code.pr c_laws_toRowsS)))))) .o trivial) (ks := [0, 3, 4]) (bs := []) (fX := (cutC ([], []) [(0, [3], [])] ([], []))) (cutC_le _ _ _) FUEL (by
 intro σ k r h
 obtain ⟨hn, h1⟩ := rdN_some h
 obtain ⟨a, hs0, h2⟩ := rdV_some h1
 obtain ⟨out, hs3, h3⟩ := rdV_some h2
 obtain ⟨i, hs4, h4⟩ := rdV_some h3
 refine ⟨_, ?_, (elaws_toRowsS_l0 a FUEL (out, i) k).trans h4⟩
 exact mkS_le hn ⟨hs0, hs3, hs4, trivial⟩ trivial)
def laws_toRowsS (a : List qR) (k0 : qX → Res) : Res :=
 bif mkOk (nI (List.length a)) (nI (List.length a)) then
  laws_toRowsS_l0 a FUEL (repl (nI (List.length a)) []) 0 fun (out : List qR) =>
   k0 out
 else none
def s_laws_toRowsS : Sig Unit := ⟨[.borrow y13 false], [false], fun vals ext k => av vals y13 fun a vals => nl vals <| nl ext <| laws_toRowsS a (fun (r0 : List qR) => k [⟨y13, false, r0, [.O]⟩] [] [])⟩
theorem E_laws_toRowsS (a : List qR) (a_a : Bool) (t_a : List Tag) (k : qK) : funC g_laws_toRowsS [xlaws_toRowsS_l0] (.t .o (.t .o (.t (.t .o (.t (.x 0) .o)) .o))) false Tryz.f41 [.borrow y13 false] [false] [⟨y13, a_a, a, t_a⟩] [] k = laws_toRowsS a (fun (r0 : List qR) => k [⟨y13, false, r0, [.O]⟩] [] []) := by kernel_rfl
theorem S_laws_toRowsS : Sound Tryz.prog 41 s_laws_toRowsS := sound_of (Γ := g_laws_toRowsS) (X := [xlaws_toRowsS_l0]) (ht := (.t .o (.t .o (.t (.t .o (.t (.x 0) .o)) .o)))) (fz := false) (c := c_laws_toRowsS) follows tysOk (fns_cons S_laws_toRows fns_nil) (OrOk.mk trivial ((OrOk.mk trivial ((OrOk.mk ((OrOk.mk trivial ((OrOk.mk (OrOk.x_mk (fun W0 M hnp => olaws_toRowsS_l0 (W0 := W0) (M := M) hnp)) trivial)))) trivial))))) Tryz.func41 (by kernel_rfl) (by kernel_rfl) (by decide) (by
 intro vals ext k r h
 obtain ⟨a, a_a, t_a, vals, rfl, h1⟩ := av_some h
 obtain ⟨rfl, h2⟩ := nl_some h1
 obtain ⟨rfl, h3⟩ := nl_some h2
 exact (E_laws_toRowsS a a_a t_a k).trans h3)

/-! ### 46 loop.example/g00462/laws.eqRowsS -/
def c_laws_eqRowsS : Code := (Tryz.f46.body).getD .skip
def g_laws_eqRowsS : Env Unit := ⟨tys, [(96, s_laws_eqRows)], 0⟩
def laws_eqRowsS_l0_r (a : List qR) (b : List qR) (i : Int) (rec : Int → Res) (k0 : Unit → Res) (k1 : Unit → Res) : Res :=
 bif decide (i < (nI (List.length a))) then
  bif inb i (List.length a) then
   bif inb i (List.length b) then
    laws_eqRows (nth [] a i) (nth [] b i) fun (r : Bool) =>
     bif !r then
      k1 ()
     else
      rec (wi64 (i + 1))
   else none
  else none
 else
  k0 ()
def laws_eqRowsS_l0_s (a : List qR) (b : List qR) : Int → (Int → Res) → ((Unit → Res) × (Unit → Res)) → Res := fun v rec q => laws_eqRowsS_l0_r a b v (fun i => rec (i)) q.1 q.2
def laws_eqRowsS_l0 (a : List qR) (b : List qR) (n : Nat) (i : Int) (k0 : Unit → Res) (k1 : Unit → Res) : Res := iter (laws_eqRowsS_l0_s a b) n (i) (k0, k1)
def xlaws_eqRowsS_l0 : Node Unit := fun σ k => rdN σ 27 <| rdV σ 0 y13 false [.S] fun a => rdV σ 1 y13 false [.S] fun b => rdV σ 5 (.int .i64) false [] fun i => laws_eqRowsS_l0 a b FUEL i (fun (_ : Unit) => k (.exit 0) (mkS 27 27 [] [])) (fun (_ : Unit) => k .ret (mkS 27 27 [(4, .val ⟨.bool, false, false, []⟩)] []))
theorem elaws_eqRowsS_l0 (a : List qR) (b : List qR) (n : Nat) (v : Int) (k : Kont Unit) : loopC (codeC g_laws_eqRowsS [] .o (Code.pl (Code.pl (Code.pr (Code.pl (Code.pr (Code.pr c_laws_eqRowsS))))))) (fun σ => σ.forget [0, 1, 5] []) (cutC ([], []) [(0, [], [])] ([4], [])) n (mkS 27 27 [(0, .val ⟨y13, false, a, [.S]⟩), (1, .val ⟨y13, false, b, [.S]⟩), (5, .val ⟨(.int .i64), false, v, []⟩)] []) k = iter (laws_eqRowsS_l0_s a b) n v ((fun (k : Kont Unit) => (((fun (_ : Unit) => k (.exit 0) (mkS 27 27 [] [])), (fun (_ : Unit) => k .ret (mkS 27 27 [(4, .val ⟨.bool, false, false, []⟩)] []))) : (Unit → Res) × (Unit → Res))) k) := loop_eq (fun v : Int => (mkS 27 27 [(0, .val ⟨y13, false, a, [.S]⟩), (1, .val ⟨y13, false, b, [.S]⟩), (5, .val ⟨(.int .i64), false, v, []⟩)] [])) (laws_eqRowsS_l0_s a b) (fun (k : Kont Unit) => (((fun (_ : Unit) => k (.exit 0) (mkS 27 27 [] [])), (fun (_ : Unit) => k .ret (mkS 27 27 [(4, .val ⟨.bool, false, false, []⟩)] []))) : (Unit → Res) × (Unit → Res))) (fun v rec k => by kernel_rfl) n v k
theorem olaws_eqRowsS_l0 {W0 : Base} {M : Nat → Prop} (hnp : W0.np ≤ 0) : CodeOk Tryz.prog W0 M (Code.pl (Code.pr (Code.pl (Code.pr (Code.pr c_laws_eqRowsS))))) xlaws_eqRowsS_l0 := show CodeOk Tryz.prog W0 M (Code.loop (Code.pl (Code.pl (Code.pr (Code.pl (Code.pr (Code.pr c_laws_eqRowsS))))))) xlaws_eqRowsS_l0 from loop_ok (code_sound follows tysOk (calls_ok (fns_cons S_laws_eqRows fns_nil)) hnp [] (Code.pl (Code.pl (Code.pr (Code.pl (Code.pr (Code.pr c_laws_eqRowsS)))))) .o trivial) (ks := [0, 1, 5]) (bs := []) (fX := (cutC ([], []) [(0, [], [])] ([4], []))) (cutC_le _ _ _) FUEL (by
 intro σ k r h
 obtain ⟨hn, h1⟩ := rdN_some h
 obtain ⟨a, hs0, h2⟩ := rdV_some h1
 obtain ⟨b, hs1, h3⟩ := rdV_some h2
 obtain ⟨i, hs5, h4⟩ := rdV_some h3
 refine ⟨_, ?_, (elaws_eqRowsS_l0 a b FUEL (i) k).trans h4⟩
 exact mkS_le hn ⟨hs0, hs1, hs5, trivial⟩ trivial)
def laws_eqRowsS (a : List qR) (b : List qR) (k0 : Bool → Res) : Res :=
 bif ((nI (List.length a)) != (nI (List.length b))) then
  k0 false
 else
  laws_eqRowsS_l0 a b FUEL 0
   (fun (_ : Unit) =>
    k0 true)
   (fun (_ : Unit) =>
    k0 false)
def s_laws_eqRowsS : Sig Unit := ⟨[.look y13 false, .look y13 false], [false], fun vals ext k => av vals y13 fun a vals => av vals y13 fun b vals => nl vals <| nl ext <| laws_eqRowsS a b (fun (r0 : Bool) => k [⟨.bool, false, r0, []⟩] [] [])⟩
theorem E_laws_eqRowsS (a : List qR) (a_a : Bool) (t_a : List Tag) (b : List qR) (a_b : Bool) (t_b : List Tag) (k : qK) : funC g_laws_eqRowsS [xlaws_eqRowsS_l0] (.t .o (.t .o (.t (.t .o (.t (.x 0) .o)) .o))) false Tryz.f46 [.look y13 false, .look y13 false] [false] [⟨y13, a_a, a, t_a⟩, ⟨y13, a_b, b, t_b⟩] [] k = laws_eqRowsS a b (fun (r0 : Bool) => k [⟨.bool, false, r0, []⟩] [] []) := by kernel_rfl
theorem S_laws_eqRowsS : Sound Tryz.prog 46 s_laws_eqRowsS := sound_of (Γ := g_laws_eqRowsS) (X := [xlaws_eqRowsS_l0]) (ht := (.t .o (.t .o (.t (.t .o (.t (.x 0) .o)) .o)))) (fz := false) (c := c_laws_eqRowsS) follows tysOk (fns_cons S_laws_eqRows fns_nil) (OrOk.mk trivial ((OrOk.mk trivial ((OrOk.mk ((OrOk.mk trivial ((OrOk.mk (OrOk.x_mk (fun W0 M hnp => olaws_eqRowsS_l0 (W0 := W0) (M := M) hnp)) trivial)))) trivial))))) Tryz.func46 (by kernel_rfl) (by kernel_rfl) (by decide) (by
 intro vals ext k r h
 obtain ⟨a, a_a, t_a, vals, rfl, h1⟩ := av_some h
 obtain ⟨b, a_b, t_b, vals, rfl, h2⟩ := av_some h1
 obtain ⟨rfl, h3⟩ := nl_some h2
 obtain ⟨rfl, h4⟩ := nl_some h3
 exact (E_laws_eqRowsS a a_a t_a b a_b t_b k).trans h4)

/-! ### 48 loop.example/g00462/laws.markRowsS -/
def c_laws_markRowsS : Code := (Tryz.f48.body).getD .skip
def g_laws_markRowsS : Env Unit := ⟨tys, [(98, s_laws_markRowS)], 1⟩
def laws_markRowsS_l0_r (a : List qR) (k_ : Int) (i : Int) (rec : qX → Int → Int → Res) (k0 : qX → Int → Res) : Res :=
 bif decide (i < (nI (List.length a))) then
  bif inb i (List.length a) then
   laws_markRowS (nth [] a i) k_ fun (r : Int) (a1 : List qW) =>
    rec (upd a i a1) r (wi64 (i + 1))
  else none
 else
  k0 a k_
def laws_markRowsS_l0_s : (qX × Int × Int) → (qX × Int × Int → Res) → ((qX → Int → Res)) → Res := fun v rec q => laws_markRowsS_l0_r v.1 v.2.1 v.2.2 (fun a k_ i => rec (a, k_, i)) q
def laws_markRowsS_l0 (n : Nat) (a : List qR) (k_ : Int) (i : Int) (k0 : qX → Int → Res) : Res := iter (laws_markRowsS_l0_s) n (a, k_, i) (k0)
def xlaws_markRowsS_l0 : Node Unit := fun σ k => rdN σ 20 <| rdV σ 0 y13 false [.O] fun a => rdV σ 1 (.int .i64) false [] fun k_ => rdV σ 5 (.int .i64) false [] fun i => laws_markRowsS_l0 FUEL a k_ i (fun (a2 : List qR) (k_1 : Int) => k (.exit 0) (mkS 20 20 [(0, .val ⟨y13, false, a2, [.O]⟩), (1, .val ⟨(.int .i64), false, k_1, []⟩)] []))
theorem elaws_markRowsS_l0  (n : Nat) (v : qX × Int × Int) (k : Kont Unit) : loopC (codeC g_laws_markRowsS [] .o (Code.pl (Code.pl (Code.pr (Code.pl (Code.pr c_laws_markRowsS)))))) (fun σ => σ.forget [0, 1, 5] []) (cutC ([], []) [(0, [0, 1], [])] ([], [])) n (mkS 20 20 [(0, .val ⟨y13, false, v.1, [.O]⟩), (1, .val ⟨(.int .i64), false, v.2.1, []⟩), (5, .val ⟨(.int .i64), false, v.2.2, []⟩)] []) k = iter (laws_markRowsS_l0_s) n v ((fun (k : Kont Unit) => (((fun (a2 : List qR) (k_1 : Int) => k (.exit 0) (mkS 20 20 [(0, .val ⟨y13, false, a2, [.O]⟩), (1, .val ⟨(.int .i64), false, k_1, []⟩)] []))) : (qX → Int → Res))) k) := loop_eq (fun v : qX × Int × Int => (mkS 20 20 [(0, .val ⟨y13, false, v.1, [.O]⟩), (1, .val ⟨(.int .i64), false, v.2.1, []⟩), (5, .val ⟨(.int .i64), false, v.2.2, []⟩)] [])) (laws_markRowsS_l0_s) (fun (k : Kont Unit) => (((fun (a2 : List qR) (k_1 : Int) => k (.exit 0) (mkS 20 20 [(0, .val ⟨y13, false, a2, [.O]⟩), (1, .val ⟨(.int .i64), false, k_1, []⟩)] []))) : (qX → Int → Res))) (fun v rec k => by kernel_rfl) n v k
theorem olaws_markRowsS_l0 {W0 : Base} {M : Nat → Prop} (hnp : W0.np ≤ 1) : CodeOk Tryz.prog W0 M (Code.pl (Code.pr (Code.pl (Code.pr c_laws_markRowsS)))) xlaws_markRowsS_l0 := show CodeOk Tryz.prog W0 M (Code.loop (Code.pl (Code.pl (Code.pr (Code.pl (Code.pr c_laws_markRowsS)))))) xlaws_markRowsS_l0 from loop_ok (code_sound follows tysOk (calls_ok (fns_cons S_laws_markRowS fns_nil)) hnp [] (Code.pl (Code.pl (Code.pr (Code.pl (Code.pr c_laws_markRowsS))))) .o trivial) (ks := [0, 1, 5]) (bs := []) (fX := (cutC ([], []) [(0, [0, 1], [])] ([], []))) (cutC_le _ _ _) FUEL (by
 intro σ k r h
 obtain ⟨hn, h1⟩ := rdN_some h
 obtain ⟨a, hs0, h2⟩ := rdV_some h1
 obtain ⟨k_, hs1, h3⟩ := rdV_some h2
 obtain ⟨i, hs5, h4⟩ := rdV_some h3
 refine ⟨_, ?_, (elaws_markRowsS_l0  FUEL (a, k_, i) k).trans h4⟩
 exact mkS_le hn ⟨hs0, hs1, hs5, trivial⟩ trivial)
def laws_markRowsS (a : List qR) (k_ : Int) (k0 : Int → qX → Res) : Res :=
 laws_markRowsS_l0 FUEL a k_ 0 fun (a1 : List qR) (k_1 : Int) =>
  k0 k_1 a1
def s_laws_markRowsS : Sig Unit := ⟨[.inout y13 false, .borrow (.int .i64) false], [false], fun vals ext k => ao vals y13 [.O] fun a vals => av vals (.int .i64) fun k_ vals => nl vals <| nl ext <| laws_markRowsS a k_ (fun (r0 : Int) (i0 : List qR) => k [⟨(.int .i64), false, r0, []⟩] [⟨y13, false, i0, [.O]⟩] [])⟩
theorem E_laws_markRowsS (a_a : Bool) (a : List qR) (k_ : Int) (a_k_ : Bool) (t_k_ : List Tag) (k : qK) : funC g_laws_markRowsS [xlaws_markRowsS_l0] (.t .o (.t (.t .o (.t (.x 0) .o)) .o)) false Tryz.f48 [.inout y13 false, .borrow (.int .i64) false] [false] [⟨y13, a_a, a, [.O]⟩, ⟨(.int .i64), a_k_, k_, t_k_⟩] [] k = laws_markRowsS a k_ (fun (r0 : Int) (i0 : List qR) => k [⟨(.int .i64), false, r0, []⟩] [⟨y13, false, i0, [.O]⟩] []) := by kernel_rfl
theorem S_laws_markRowsS : Sound Tryz.prog 48 s_laws_markRowsS := sound_of (Γ := g_laws_markRowsS) (X := [xlaws_markRowsS_l0]) (ht := (.t .o (.t (.t .o (.t (.x 0) .o)) .o))) (fz := false) (c := c_laws_markRowsS) follows tysOk (fns_cons S_laws_markRowS fns_nil) (OrOk.mk trivial ((OrOk.mk ((OrOk.mk trivial ((OrOk.mk (OrOk.x_mk (fun W0 M hnp => olaws_markRowsS_l0 (W0 := W0) (M := M) hnp)) trivial)))) trivial))) Tryz.func48 (by kernel_rfl) (by kernel_rfl) (by decide) (by
 intro vals ext k r h
 obtain ⟨a_a, a, vals, rfl, h1⟩ := ao_some h
 obtain ⟨k_, a_k_, t_k_, vals, rfl, h2⟩ := av_some h1
 obtain ⟨rfl, h3⟩ := nl_some h2
 obtain ⟨rfl, h4⟩ := nl_some h3
 exact (E_laws_markRowsS a_a a k_ a_k_ t_k_ k).trans h4)
end Go.PI.G
end
noncomputable section
namespace Go.PI.G
open Go Go.PI Go.Proofs

/-! ### 7 loop.example/g00462/laws.szDb -/
def c_laws_szDb : Code := (Tryz.f7.body).getD .skip
def g_laws_szDb : Env Unit := ⟨tys, [(35, s_laws_szCat), (36, s_laws_szRowsS)], 0⟩
def laws_szDb (a : qF × List qR) (left : Int) (k0 : Int → Res) : Res :=
 laws_szCat a.1 left fun (r : Int) =>
  bif decide (r < 0) then
   k0 (-1)
  else
   laws_szRowsS a.2 r fun (r1 : Int) =>
    bif decide (r1 < 0) then
     k0 (-1)
    else
     k0 r1
def s_laws_szDb : Sig Unit := ⟨[.look y14 true, .look (.int .i64) false], [false], fun vals ext k => av vals y14 fun a vals => av vals (.int .i64) fun left vals => nl vals <| nl ext <| laws_szDb a left (fun (r0 : Int) => k [⟨(.int .i64), false, r0, []⟩] [] [])⟩
theorem E_laws_szDb (a : qF × List qR) (a_a : Bool) (t_a : List Tag) (left : Int) (a_left : Bool) (t_left : List Tag) (k : qK) : funC g_laws_szDb [] .o false Tryz.f7 [.look y14 true, .look (.int .i64) false] [false] [⟨y14, a_a, a, t_a⟩, ⟨(.int .i64), a_left, left, t_left⟩] [] k = laws_szDb a left (fun (r0 : Int) => k [⟨(.int .i64), false, r0, []⟩] [] []) := by kernel_rfl
theorem S_laws_szDb : Sound Tryz.prog 7 s_laws_szDb := sound_of (Γ := g_laws_szDb) (X := []) (ht := .o) (fz := false) (c := c_laws_szDb) follows tysOk (fns_cons S_laws_szCat (fns_cons S_laws_szRowsS fns_nil)) trivial Tryz.func7 (by kernel_rfl) (by kernel_rfl) (by decide) (by
 intro vals ext k r h
 obtain ⟨a, a_a, t_a, vals, rfl, h1⟩ := av_some h
 obtain ⟨left, a_left, t_left, vals, rfl, h2⟩ := av_some h1
 obtain ⟨rfl, h3⟩ := nl_some h2
 obtain ⟨rfl, h4⟩ := nl_some h3
 exact (E_laws_szDb a a_a t_a left a_left t_left k).trans h4)

/-! ### 9 loop.example/g00462/laws.toDb -/
def c_laws_toDb : Code := (Tryz.f9.body).getD .skip
def g_laws_toDb : Env Unit := ⟨tys, [(40, s_laws_toCat), (41, s_laws_toRowsS)], 0⟩
def laws_toDb (a : qF × List qR) (k0 : qD → Res) : Res :=
 laws_toCat a.1 fun (r : List qT) =>
  laws_toRowsS a.2 fun (r1 : List qR) =>
   k0 (r, r1)
def s_laws_toDb : Sig Unit := ⟨[.borrow y14 true], [true], fun vals ext k => av vals y14 fun a vals => nl vals <| nl ext <| laws_toDb a (fun (r0 : qF × List qR) => k [⟨y14, true, r0, [.O, .O]⟩] [] [])⟩
theorem E_laws_toDb (a : qF × List qR) (a_a : Bool) (t_a : List Tag) (k : qK) : funC g_laws_toDb [] .o false Tryz.f9 [.borrow y14 true] [true] [⟨y14, a_a, a, t_a⟩] [] k = laws_toDb a (fun (r0 : qF × List qR) => k [⟨y14, true, r0, [.O, .O]⟩] [] []) := by kernel_rfl
theorem S_laws_toDb : Sound Tryz.prog 9 s_laws_toDb := sound_of (Γ := g_laws_toDb) (X := []) (ht := .o) (fz := false) (c := c_laws_toDb) follows tysOk (fns_cons S_laws_toCat (fns_cons S_laws_toRowsS fns_nil)) trivial Tryz.func9 (by kernel_rfl) (by kernel_rfl) (by decide) (by
 intro vals ext k r h
 obtain ⟨a, a_a, t_a, vals, rfl, h1⟩ := av_some h
 obtain ⟨rfl, h2⟩ := nl_some h1
 obtain ⟨rfl, h3⟩ := nl_some h2
 exact (E_laws_toDb a a_a t_a k).trans h3)

/-! ### 12 loop.example/g00462/laws.eqDb -/
def c_laws_eqDb : Code := (Tryz.f12.body).getD .skip
def g_laws_eqDb : Env Unit := ⟨tys, [(45, s_laws_eqCat), (46, s_laws_eqRowsS)], 0⟩
def laws_eqDb (a : qF × List qR) (b : qF × List qR) (k0 : Bool → Res) : Res :=
 laws_eqCat a.1 b.1 fun (r : Bool) =>
  bif !r then
   k0 false
  else
   laws_eqRowsS a.2 b.2 fun (r1 : Bool) =>
    bif !r1 then
     k0 false
    else
     k0 true
def s_laws_eqDb : Sig Unit := ⟨[.look y14 true, .look y14 true], [false], fun vals ext k => av vals y14 fun a vals => av vals y14 fun b vals => nl vals <| nl ext <| laws_eqDb a b (fun (r0 : Bool) => k [⟨.bool, false, r0, []⟩] [] [])⟩
theorem E_laws_eqDb (a : qF × List qR) (a_a : Bool) (t_a : List Tag) (b : qF × List qR) (a_b : Bool) (t_b : List Tag) (k : qK) : funC g_laws_eqDb [] .o false Tryz.f12 [.look y14 true, .look y14 true] [false] [⟨y14, a_a, a, t_a⟩, ⟨y14, a_b, b, t_b⟩] [] k = laws_eqDb a b (fun (r0 : Bool) => k [⟨.bool, false, r0, []⟩] [] []) := by kernel_rfl
theorem S_laws_eqDb : Sound Tryz.prog 12 s_laws_eqDb := sound_of (Γ := g_laws_eqDb) (X := []) (ht := .o) (fz := false) (c := c_laws_eqDb) follows tysOk (fns_cons S_laws_eqCat (fns_cons S_laws_eqRowsS fns_nil)) trivial Tryz.func12 (by kernel_rfl) (by kernel_rfl) (by decide) (by
 intro vals ext k r h
 obtain ⟨a, a_a, t_a, vals, rfl, h1⟩ := av_some h
 obtain ⟨b, a_b, t_b, vals, rfl, h2⟩ := av_some h1
 obtain ⟨rfl, h3⟩ := nl_some h2
 obtain ⟨rfl, h4⟩ := nl_some h3
 exact (E_laws_eqDb a a_a t_a b a_b t_b k).trans h4)

/-! ### 13 loop.example/g00462/laws.markDb -/
def c_laws_markDb : Code := (Tryz.f13.body).getD .skip
def g_laws_markDb : Env Unit := ⟨tys, [(47, s_laws_markCat), (48, s_laws_markRowsS)], 1⟩
def laws_markDb (a : qF × List qR) (k_ : Int) (k0 : Int → qD → Res) : Res :=
 laws_markCat a.1 k_ fun (r : Int) (a1 : List qT) =>
  laws_markRowsS a.2 r fun (r1 : Int) (a2 : List qR) =>
   k0 r1 (a1, a2)
def s_laws_markDb : Sig Unit := ⟨[.inout y14 true, .borrow (.int .i64) false], [false], fun vals ext k => ao vals y14 [.O, .O] fun a vals => av vals (.int .i64) fun k_ vals => nl vals <| nl ext <| laws_markDb a k_ (fun (r0 : Int) (i0 : qF × List qR) => k [⟨(.int .i64), false, r0, []⟩] [⟨y14, true, i0, [.O, .O]⟩] [])⟩
theorem E_laws_markDb (a_a : Bool) (a : qF × List qR) (k_ : Int) (a_k_ : Bool) (t_k_ : List Tag) (k : qK) : funC g_laws_markDb [] .o false Tryz.f13 [.inout y14 true, .borrow (.int .i64) false] [false] [⟨y14, a_a, a, [.O, .O]⟩, ⟨(.int .i64), a_k_, k_, t_k_⟩] [] k = laws_markDb a k_ (fun (r0 : Int) (i0 : qF × List qR) => k [⟨(.int .i64), false, r0, []⟩] [⟨y14, true, i0, [.O, .O]⟩] []) := by kernel_rfl
theorem S_laws_markDb : Sound Tryz.prog 13 s_laws_markDb := sound_of (Γ := g_laws_markDb) (X := []) (ht := .o) (fz := false) (c := c_laws_markDb) follows tysOk (fns_cons S_laws_markCat (fns_cons S_laws_markRowsS fns_nil)) trivial Tryz.func13 (by kernel_rfl) (by kernel_rfl) (by decide) (by
 intro vals ext k r h
 obtain ⟨a_a, a, vals, rfl, h1⟩ := ao_some h
 obtain ⟨k_, a_k_, t_k_, vals, rfl, h2⟩ := av_some h1
 obtain ⟨rfl, h3⟩ := nl_some h2
 obtain ⟨rfl, h4⟩ := nl_some h3
 exact (E_laws_markDb a_a a k_ a_k_ t_k_ k).trans h4)
end Go.PI.G
end
noncomputable section
namespace Go.PI.G
open Go Go.PI Go.Proofs

/-! ### 3 loop.example/g00462/laws.FnExactUnlike -/
def c_laws_FnExactUnlike : Code := (Tryz.f3.body).getD .skip
def g_laws_FnExactUnlike : Env Unit := ⟨tys, [(7, s_laws_szDb), (8, s_spec_Unlike), (9, s_laws_toDb), (10, s_impl_Unlike), (11, s_laws_eqStringS), (12, s_laws_eqDb), (13, s_laws_markDb), (14, s_laws_markStringS), (15, s_laws_heldStringS)], 0⟩
def laws_FnExactUnlike_p0 (w0 : List ByteArray) (g0 : List ByteArray) (aA : qF × List qR) (aB : qF × List qR) (x0 : qF × List qR) (x1 : qF × List qR) (k0 : Bool → Res) : Res :=
 laws_markDb x0 1 fun (r : Int) (a4 : qF × List qR) =>
  laws_markDb x1 r fun (r1 : Int) (a5 : qF × List qR) =>
   bif decide (r1 < 0) then
    k0 false
   else
    laws_eqStringS g0 w0 fun (r2 : Bool) =>
     bif !r2 then
      k0 false
     else
      laws_markStringS g0 1 fun (r3 : Int) (a6 : List ByteArray) =>
       laws_heldStringS a6 1 fun (r4 : Int) =>
        bif decide (r4 < 0) then
         k0 false
        else
         bif (r4 != r3) then
          k0 false
         else
          laws_toDb aA fun (r5 : qF × List qR) =>
           laws_toDb aB fun (r6 : qF × List qR) =>
            impl_Unlike r5 r6 fun (r7 : List ByteArray) =>
             laws_eqStringS r7 w0 fun (r8 : Bool) =>
              bif !r8 then
               k0 false
              else
               laws_heldStringS a6 1 fun (r9 : Int) =>
                bif decide (r9 < 0) then
                 k0 false
                else
                 bif (r9 != r3) then
                  k0 false
                 else
                  k0 true
def xlaws_FnExactUnlike_p0 : Node Unit := fun σ k => rdN σ 92 <| rdT σ 2 (.ptr ⟨true, 2, []⟩) <| rdT σ 3 (.ptr ⟨true, 3, []⟩) <| rdV σ 6 y7 false [.O] fun w0 => rdT σ 7 (.ptr ⟨true, 7, []⟩) <| rdT σ 8 (.ptr ⟨true, 8, []⟩) <| rdV σ 9 y7 false [.O] fun g0 => rdB σ 2 y14 [.S, .S] fun a aA => rdB σ 3 y14 [.S, .S] fun a1 aB => rdB σ 7 y14 [.O, .O] fun a2 x0 => rdB σ 8 y14 [.O, .O] fun a3 x1 => laws_FnExactUnlike_p0 w0 g0 aA aB x0 x1 (fun (t4 : Bool) => k .ret (mkS 92 92 [(4, .val ⟨.bool, false, t4, []⟩)] []))
theorem elaws_FnExactUnlike_p0 (w0 : List ByteArray) (g0 : List ByteArray) (a : Bool) (aA : qF × List qR) (a1 : Bool) (aB : qF × List qR) (a2 : Bool) (x0 : qF × List qR) (a3 : Bool) (x1 : qF × List qR) (k : Kont Unit) : codeC g_laws_FnExactUnlike [] .o (Code.pr (Code.pr (Code.pr (Code.pr (Code.pr (Code.pr (Code.pr (Code.pr (Code.pr (Code.pr (Code.pr (Code.pr (Code.pr c_laws_FnExactUnlike))))))))))))) (mkS 92 92 [(2, .ptr ⟨true, 2, []⟩), (3, .ptr ⟨true, 3, []⟩), (6, .val ⟨y7, false, w0, [.O]⟩), (7, .ptr ⟨true, 7, []⟩), (8, .ptr ⟨true, 8, []⟩), (9, .val ⟨y7, false, g0, [.O]⟩)] [(2, ⟨y14, a, aA, [.S, .S]⟩), (3, ⟨y14, a1, aB, [.S, .S]⟩), (7, ⟨y14, a2, x0, [.O, .O]⟩), (8, ⟨y14, a3, x1, [.O, .O]⟩)]) (fun e σ => k e ((cutC ([], []) [] ([4], [])) e σ)) = laws_FnExactUnlike_p0 w0 g0 aA aB x0 x1 (fun (t4 : Bool) => k .ret (mkS 92 92 [(4, .val ⟨.bool, false, t4, []⟩)] [])) := by kernel_rfl
theorem olaws_FnExactUnlike_p0 {W0 : Base} {M : Nat → Prop} (hnp : W0.np ≤ 0) : CodeOk Tryz.prog W0 M (Code.pr (Code.pr (Code.pr (Code.pr (Code.pr (Code.pr (Code.pr (Code.pr (Code.pr (Code.pr (Code.pr (Code.pr (Code.pr c_laws_FnExactUnlike))))))))))))) xlaws_FnExactUnlike_p0 := node_ok (code_sound follows tysOk (calls_ok (fns_cons S_laws_szDb (fns_cons S_spec_Unlike (fns_cons S_laws_toDb (fns_cons S_impl_Unlike (fns_cons S_laws_eqStringS (fns_cons S_laws_eqDb (fns_cons S_laws_markDb (fns_cons S_laws_markStringS (fns_cons S_laws_heldStringS fns_nil)))))))))) hnp [] ((Code.pr (Code.pr (Code.pr (Code.pr (Code.pr (Code.pr (Code.pr (Code.pr (Code.pr (Code.pr (Code.pr (Code.pr (Code.pr c_laws_FnExactUnlike)))))))))))))) .o trivial) (fg := (cutC ([], []) [] ([4], []))) (cutC_le _ _ _) (by
 intro σ k r h
 obtain ⟨hn, h1⟩ := rdN_some h
 obtain ⟨hs2, h2⟩ := rdT_some h1
 obtain ⟨hs3, h3⟩ := rdT_some h2
 obtain ⟨w0, hs6, h4⟩ := rdV_some h3
 obtain ⟨hs7, h5⟩ := rdT_some h4
 obtain ⟨hs8, h6⟩ := rdT_some h5
 obtain ⟨g0, hs9, h7⟩ := rdV_some h6
 obtain ⟨a, aA, hb2, h8⟩ := rdB_some h7
 obtain ⟨a1, aB, hb3, h9⟩ := rdB_some h8
 obtain ⟨a2, x0, hb7, h10⟩ := rdB_some h9
 obtain ⟨a3, x1, hb8, h11⟩ := rdB_some h10
 refine ⟨_, ?_, (elaws_FnExactUnlike_p0 w0 g0 a aA a1 aB a2 x0 a3 x1 k).trans h11⟩
 exact mkS_le hn ⟨hs2, hs3, hs6, hs7, hs8, hs9, trivial⟩ ⟨hb2, hb3, hb7, hb8, trivial⟩)
def laws_FnExactUnlike (aA : qF × List qR) (aB : qF × List qR) (k0 : Bool → Res) : Res :=
 laws_szDb aA 1048576 fun (r : Int) =>
  bif decide (r < 0) then
   k0 true
  else
   laws_szDb aB r fun (r1 : Int) =>
    bif decide (r1 < 0) then
     k0 true
    else
     laws_toDb aA fun (r2 : qF × List qR) =>
      laws_toDb aB fun (r3 : qF × List qR) =>
       spec_Unlike r2 r3 fun (r4 : List ByteArray) =>
        laws_toDb aA fun (r5 : qF × List qR) =>
         laws_toDb aB fun (r6 : qF × List qR) =>
          impl_Unlike r5 r6 fun (r7 : List ByteArray) =>
           laws_eqStringS r7 r4 fun (r8 : Bool) =>
            bif !r8 then
             k0 false
            else
             laws_toDb aA fun (r9 : qF × List qR) =>
              laws_eqDb r5 r9 fun (r10 : Bool) =>
               bif !r10 then
                k0 false
               else
                laws_toDb aB fun (r11 : qF × List qR) =>
                 laws_eqDb r6 r11 fun (r12 : Bool) =>
                  bif !r12 then
                   k0 false
                  else
                   laws_FnExactUnlike_p0 r4 r7 aA aB r5 r6 fun (t : Bool) =>
                    k0 t
def s_laws_FnExactUnlike : Sig Unit := ⟨[.borrow y14 true, .borrow y14 true], [false], fun vals ext k => av vals y14 fun aA vals => av vals y14 fun aB vals => nl vals <| nl ext <| laws_FnExactUnlike aA aB (fun (r0 : Bool) => k [⟨.bool, false, r0, []⟩] [] [])⟩
theorem E_laws_FnExactUnlike (aA : qF × List qR) (a_aA : Bool) (t_aA : List Tag) (aB : qF × List qR) (a_aB : Bool) (t_aB : List Tag) (k : qK) : funC g_laws_FnExactUnlike [xlaws_FnExactUnlike_p0] (.t .o (.t .o (.t .o (.t .o (.t .o (.t .o (.t .o (.t .o (.t .o (.t .o (.t .o (.t .o (.t .o (.x 0)))))))))))))) false Tryz.f3 [.borrow y14 true, .borrow y14 true] [false] [⟨y14, a_aA, aA, t_aA⟩, ⟨y14, a_aB, aB, t_aB⟩] [] k = laws_FnExactUnlike aA aB (fun (r0 : Bool) => k [⟨.bool, false, r0, []⟩] [] []) := by kernel_rfl
theorem S_laws_FnExactUnlike : Sound Tryz.prog 3 s_laws_FnExactUnlike := sound_of (Γ := g_laws_FnExactUnlike) (X := [xlaws_FnExactUnlike_p0]) (ht := (.t .o (.t .o (.t .o (.t .o (.t .o (.t .o (.t .o (.t .o (.t .o (.t .o (.t .o (.t .o (.t .o (.x 0))))))))))))))) (fz := false) (c := c_laws_FnExactUnlike) follows tysOk (fns_cons S_laws_szDb (fns_cons S_spec_Unlike (fns_cons S_laws_toDb (fns_cons S_impl_Unlike (fns_cons S_laws_eqStringS (fns_cons S_laws_eqDb (fns_cons S_laws_markDb (fns_cons S_laws_markStringS (fns_cons S_laws_heldStringS fns_nil))))))))) (OrOk.mk trivial ((OrOk.mk trivial ((OrOk.mk trivial ((OrOk.mk trivial ((OrOk.mk trivial ((OrOk.mk trivial ((OrOk.mk trivial ((OrOk.mk trivial ((OrOk.mk trivial ((OrOk.mk trivial ((OrOk.mk trivial ((OrOk.mk trivial ((OrOk.mk trivial (OrOk.x_mk (fun W0 M hnp => olaws_FnExactUnlike_p0 (W0 := W0) (M := M) hnp))))))))))))))))))))))))))) Tryz.func3 (by kernel_rfl) (by kernel_rfl) (by decide) (by
 intro vals ext k r h
 obtain ⟨aA, a_aA, t_aA, vals, rfl, h1⟩ := av_some h
 obtain ⟨aB, a_aB, t_aB, vals, rfl, h2⟩ := av_some h1
 obtain ⟨rfl, h3⟩ := nl_some h2
 obtain ⟨rfl, h4⟩ := nl_some h3
 exact (E_laws_FnExactUnlike aA a_aA t_aA aB a_aB t_aB k).trans h4)
end Go.PI.G
end
