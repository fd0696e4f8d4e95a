/-
  Printed: what the functions compute. No conditions.
-/
import Derived.Test.YtcapkiofiipamaaGR0
import Derived.Test.YtcapkiofiipamaaGRTRow
import Derived.Test.YtcapkiofiipamaaGRTValS
set_option linter.unusedVariables false
set_option maxRecDepth 100000
namespace Go.PI.G
open Go Go.PI Go.Proofs

/-! ### 30 loop.example/g00462/laws.szRowS -/
noncomputable def c_laws_szRowS : Code := (Try.f30.body).getD .skip
noncomputable def g_laws_szRowS : Env Unit := ⟨tys, [(100, s_laws_szRow)], 0⟩
noncomputable def laws_szRowS_l0_r (a : List (List (Int × Int × ByteArray))) (left : Int) (i : Int) (rec : Int → Int → Res) (k0 : Int → Res) (k1 : Unit → Res) : Res :=
  bif decide (i < (nI (List.length a))) then
    bif inb i (List.length a) then
      laws_szRow (nth [] a i) left fun (r : Int) =>
        bif decide (r < 0) then
          k1 ()
        else
          rec r (wi64 (i + 1))
    else none
  else
    k0 left
noncomputable def laws_szRowS_l0_s (a : List (List (Int × Int × ByteArray))) : (Int × Int) → (Int × Int → Res) → ((Int → Res) × (Unit → Res)) → Res := fun v rec q => laws_szRowS_l0_r a v.1 v.2 (fun left i => rec (left, i)) q.1 q.2
noncomputable def laws_szRowS_l0 (a : List (List (Int × Int × ByteArray))) (n : Nat) (left : Int) (i : Int) (k0 : Int → Res) (k1 : Unit → Res) : Res := iter (laws_szRowS_l0_s a) n (left, i) (k0, k1)
noncomputable def xlaws_szRowS_l0 : Node Unit := fun σ k => rdN σ 27 <| rdV σ 0 y11 false [.S] fun a => rdV σ 1 (.int .i64) false [] fun left => rdV σ 5 (.int .i64) false [] fun i => laws_szRowS_l0 a FUEL left i (fun (left1 : Int) => k (.exit 0) (mkS 27 27 [(1, .val ⟨(.int .i64), false, left1, []⟩)] [])) (fun (_ : Unit) => k .ret (mkS 27 27 [(4, .val ⟨(.int .i64), false, (-1), []⟩)] []))
theorem elaws_szRowS_l0 (a : List (List (Int × Int × ByteArray))) (n : Nat) (v : Int × Int) (k : Kont Unit) : loopC (codeC g_laws_szRowS [] .o (Code.pl (Code.pl (Code.pr (Code.pl (Code.pr (Code.pr (Code.pr c_laws_szRowS)))))))) (fun σ => σ.forget [0, 1, 5] []) (cutC ([], []) [(0, [1], [])] ([4], [])) n (mkS 27 27 [(0, .val ⟨y11, false, a, [.S]⟩), (1, .val ⟨(.int .i64), false, v.1, []⟩), (5, .val ⟨(.int .i64), false, v.2, []⟩)] []) k = iter (laws_szRowS_l0_s a) n v ((fun (k : Kont Unit) => (((fun (left1 : Int) => k (.exit 0) (mkS 27 27 [(1, .val ⟨(.int .i64), false, left1, []⟩)] [])), (fun (_ : Unit) => k .ret (mkS 27 27 [(4, .val ⟨(.int .i64), false, (-1), []⟩)] []))) : (Int → Res) × (Unit → Res))) k) := loop_eq (fun v : Int × Int => (mkS 27 27 [(0, .val ⟨y11, false, a, [.S]⟩), (1, .val ⟨(.int .i64), false, v.1, []⟩), (5, .val ⟨(.int .i64), false, v.2, []⟩)] [])) (laws_szRowS_l0_s a) (fun (k : Kont Unit) => (((fun (left1 : Int) => k (.exit 0) (mkS 27 27 [(1, .val ⟨(.int .i64), false, left1, []⟩)] [])), (fun (_ : Unit) => k .ret (mkS 27 27 [(4, .val ⟨(.int .i64), false, (-1), []⟩)] []))) : (Int → Res) × (Unit → Res))) (fun v rec k => by kernel_rfl) n v k
theorem olaws_szRowS_l0 {W0 : Base} {M : Nat → Prop} (hnp : W0.np ≤ 0) : CodeOk Try.prog W0 M (Code.pl (Code.pr (Code.pl (Code.pr (Code.pr (Code.pr c_laws_szRowS)))))) xlaws_szRowS_l0 := show CodeOk Try.prog W0 M (Code.loop (Code.pl (Code.pl (Code.pr (Code.pl (Code.pr (Code.pr (Code.pr c_laws_szRowS)))))))) xlaws_szRowS_l0 from loop_ok (code_sound follows tysOk (calls_ok (fns_cons S_laws_szRow fns_nil)) hnp [] (Code.pl (Code.pl (Code.pr (Code.pl (Code.pr (Code.pr (Code.pr c_laws_szRowS))))))) .o trivial) (ks := [0, 1, 5]) (bs := []) (fX := (cutC ([], []) [(0, [1], [])] ([4], []))) (cutC_le _ _ _) FUEL (by
  intro σ k r h
  obtain ⟨hn, h1⟩ := rdN_some h
  obtain ⟨a, hs0, h2⟩ := rdV_some h1
  obtain ⟨left, hs1, h3⟩ := rdV_some h2
  obtain ⟨i, hs5, h4⟩ := rdV_some h3
  refine ⟨_, ?_, (elaws_szRowS_l0 a FUEL (left, i) k).trans h4⟩
  exact mkS_le hn ⟨hs0, hs1, hs5, trivial⟩ trivial)
noncomputable def laws_szRowS (a : List (List (Int × Int × ByteArray))) (left : Int) (k0 : Int → Res) : Res :=
  bif decide ((wi64 (left - (nI (List.length a)))) < 0) then
    k0 (-1)
  else
    laws_szRowS_l0 a FUEL (wi64 (left - (nI (List.length a)))) 0
      (fun (left1 : Int) =>
        k0 left1)
      (fun (_ : Unit) =>
        k0 (-1))
noncomputable def s_laws_szRowS : Sig Unit := ⟨[.look y11 false, .look (.int .i64) false], [false], fun vals ext k => av vals y11 fun a vals => av vals (.int .i64) fun left vals => nl vals <| nl ext <| laws_szRowS a left (fun (r0 : Int) => k [⟨(.int .i64), false, r0, []⟩] [] [])⟩
theorem E_laws_szRowS (a : List (List (Int × Int × ByteArray))) (a_a : Bool) (t_a : List Tag) (left : Int) (a_left : Bool) (t_left : List Tag) (k : List TVal → List TVal → List TVal → Res) : funC g_laws_szRowS [xlaws_szRowS_l0] (.t .o (.t .o (.t .o (.t (.t .o (.t (.x 0) .o)) .o)))) false Try.f30 [.look y11 false, .look (.int .i64) false] [false] [⟨y11, a_a, a, t_a⟩, ⟨(.int .i64), a_left, left, t_left⟩] [] k = laws_szRowS a left (fun (r0 : Int) => k [⟨(.int .i64), false, r0, []⟩] [] []) := by kernel_rfl
theorem S_laws_szRowS : Sound Try.prog 30 s_laws_szRowS := sound_of (Γ := g_laws_szRowS) (X := [xlaws_szRowS_l0]) (ht := (.t .o (.t .o (.t .o (.t (.t .o (.t (.x 0) .o)) .o))))) (fz := false) (c := c_laws_szRowS) follows tysOk (fns_cons S_laws_szRow fns_nil) (OrOk.mk trivial ((OrOk.mk trivial ((OrOk.mk trivial ((OrOk.mk ((OrOk.mk trivial ((OrOk.mk (OrOk.x_mk (fun W0 M hnp => olaws_szRowS_l0 (W0 := W0) (M := M) hnp)) trivial)))) trivial))))))) Try.func30 (by kernel_rfl) (by kernel_rfl) (by decide) (by
  intro vals ext k r h
  obtain ⟨a, a_a, t_a, vals, rfl, h1⟩ := av_some h
  obtain ⟨left, a_left, t_left, vals, rfl, h2⟩ := av_some h1
  obtain ⟨rfl, h3⟩ := nl_some h2
  obtain ⟨rfl, h4⟩ := nl_some h3
  exact (E_laws_szRowS a a_a t_a left a_left t_left k).trans h4)

/-! ### 33 loop.example/g00462/laws.toRowS -/
noncomputable def c_laws_toRowS : Code := (Try.f33.body).getD .skip
noncomputable def g_laws_toRowS : Env Unit := ⟨tys, [(106, s_laws_toRow)], 0⟩
noncomputable def laws_toRowS_l0_r (a : List (List (Int × Int × ByteArray))) (out : List (List (Int × Int × ByteArray))) (i : Int) (rec : (List (List (Int × Int × ByteArray))) → Int → Res) (k0 : (List (List (Int × Int × ByteArray))) → Res) : Res :=
  bif decide (i < (nI (List.length a))) then
    bif inb i (List.length a) then
      laws_toRow (nth [] a i) fun (r : List (Int × Int × ByteArray)) =>
        bif inb i (List.length out) then
          rec (upd out i r) (wi64 (i + 1))
        else none
    else none
  else
    k0 out
noncomputable def laws_toRowS_l0_s (a : List (List (Int × Int × ByteArray))) : ((List (List (Int × Int × ByteArray))) × Int) → ((List (List (Int × Int × ByteArray))) × Int → Res) → (((List (List (Int × Int × ByteArray))) → Res)) → Res := fun v rec q => laws_toRowS_l0_r a v.1 v.2 (fun out i => rec (out, i)) q
noncomputable def laws_toRowS_l0 (a : List (List (Int × Int × ByteArray))) (n : Nat) (out : List (List (Int × Int × ByteArray))) (i : Int) (k0 : (List (List (Int × Int × ByteArray))) → Res) : Res := iter (laws_toRowS_l0_s a) n (out, i) (k0)
noncomputable def xlaws_toRowS_l0 : Node Unit := fun σ k => rdN σ 23 <| rdV σ 0 y11 false [.S] fun a => rdV σ 3 y11 false [.O] fun out => rdV σ 4 (.int .i64) false [] fun i => laws_toRowS_l0 a FUEL out i (fun (out1 : List (List (Int × Int × ByteArray))) => k (.exit 0) (mkS 23 23 [(3, .val ⟨y11, false, out1, [.O]⟩)] []))
theorem elaws_toRowS_l0 (a : List (List (Int × Int × ByteArray))) (n : Nat) (v : (List (List (Int × Int × ByteArray))) × Int) (k : Kont Unit) : loopC (codeC g_laws_toRowS [] .o (Code.pl (Code.pl (Code.pr (Code.pl (Code.pr (Code.pr c_laws_toRowS))))))) (fun σ => σ.forget [0, 3, 4] []) (cutC ([], []) [(0, [3], [])] ([], [])) n (mkS 23 23 [(0, .val ⟨y11, false, a, [.S]⟩), (3, .val ⟨y11, false, v.1, [.O]⟩), (4, .val ⟨(.int .i64), false, v.2, []⟩)] []) k = iter (laws_toRowS_l0_s a) n v ((fun (k : Kont Unit) => (((fun (out1 : List (List (Int × Int × ByteArray))) => k (.exit 0) (mkS 23 23 [(3, .val ⟨y11, false, out1, [.O]⟩)] []))) : ((List (List (Int × Int × ByteArray))) → Res))) k) := loop_eq (fun v : (List (List (Int × Int × ByteArray))) × Int => (mkS 23 23 [(0, .val ⟨y11, false, a, [.S]⟩), (3, .val ⟨y11, false, v.1, [.O]⟩), (4, .val ⟨(.int .i64), false, v.2, []⟩)] [])) (laws_toRowS_l0_s a) (fun (k : Kont Unit) => (((fun (out1 : List (List (Int × Int × ByteArray))) => k (.exit 0) (mkS 23 23 [(3, .val ⟨y11, false, out1, [.O]⟩)] []))) : ((List (List (Int × Int × ByteArray))) → Res))) (fun v rec k => by kernel_rfl) n v k
theorem olaws_toRowS_l0 {W0 : Base} {M : Nat → Prop} (hnp : W0.np ≤ 0) : CodeOk Try.prog W0 M (Code.pl (Code.pr (Code.pl (Code.pr (Code.pr c_laws_toRowS))))) xlaws_toRowS_l0 := show CodeOk Try.prog W0 M (Code.loop (Code.pl (Code.pl (Code.pr (Code.pl (Code.pr (Code.pr c_laws_toRowS))))))) xlaws_toRowS_l0 from loop_ok (code_sound follows tysOk (calls_ok (fns_cons S_laws_toRow fns_nil)) hnp [] (Code.pl (Code.pl (Code.pr (Code.pl (Code.pr (Code.pr c_laws_toRowS)))))) .o trivial) (ks := [0, 3, 4]) (bs := []) (fX := (cutC ([], []) [(0, [3], [])] ([], []))) (cutC_le _ _ _) FUEL (by
  intro σ k r h
  obtain ⟨hn, h1⟩ := rdN_some h
  obtain ⟨a, hs0, h2⟩ := rdV_some h1
  obtain ⟨out, hs3, h3⟩ := rdV_some h2
  obtain ⟨i, hs4, h4⟩ := rdV_some h3
  refine ⟨_, ?_, (elaws_toRowS_l0 a FUEL (out, i) k).trans h4⟩
  exact mkS_le hn ⟨hs0, hs3, hs4, trivial⟩ trivial)
noncomputable def laws_toRowS (a : List (List (Int × Int × ByteArray))) (k0 : (List (List (Int × Int × ByteArray))) → Res) : Res :=
  bif mkOk (nI (List.length a)) (nI (List.length a)) then
    laws_toRowS_l0 a FUEL (repl (nI (List.length a)) []) 0 fun (out : List (List (Int × Int × ByteArray))) =>
      k0 out
  else none
noncomputable def s_laws_toRowS : Sig Unit := ⟨[.borrow y11 false], [false], fun vals ext k => av vals y11 fun a vals => nl vals <| nl ext <| laws_toRowS a (fun (r0 : List (List (Int × Int × ByteArray))) => k [⟨y11, false, r0, [.O]⟩] [] [])⟩
theorem E_laws_toRowS (a : List (List (Int × Int × ByteArray))) (a_a : Bool) (t_a : List Tag) (k : List TVal → List TVal → List TVal → Res) : funC g_laws_toRowS [xlaws_toRowS_l0] (.t .o (.t .o (.t (.t .o (.t (.x 0) .o)) .o))) false Try.f33 [.borrow y11 false] [false] [⟨y11, a_a, a, t_a⟩] [] k = laws_toRowS a (fun (r0 : List (List (Int × Int × ByteArray))) => k [⟨y11, false, r0, [.O]⟩] [] []) := by kernel_rfl
theorem S_laws_toRowS : Sound Try.prog 33 s_laws_toRowS := sound_of (Γ := g_laws_toRowS) (X := [xlaws_toRowS_l0]) (ht := (.t .o (.t .o (.t (.t .o (.t (.x 0) .o)) .o)))) (fz := false) (c := c_laws_toRowS) follows tysOk (fns_cons S_laws_toRow fns_nil) (OrOk.mk trivial ((OrOk.mk trivial ((OrOk.mk ((OrOk.mk trivial ((OrOk.mk (OrOk.x_mk (fun W0 M hnp => olaws_toRowS_l0 (W0 := W0) (M := M) hnp)) trivial)))) trivial))))) Try.func33 (by kernel_rfl) (by kernel_rfl) (by decide) (by
  intro vals ext k r h
  obtain ⟨a, a_a, t_a, vals, rfl, h1⟩ := av_some h
  obtain ⟨rfl, h2⟩ := nl_some h1
  obtain ⟨rfl, h3⟩ := nl_some h2
  exact (E_laws_toRowS a a_a t_a k).trans h3)

/-! ### 37 loop.example/g00462/laws.eqRowS -/
noncomputable def c_laws_eqRowS : Code := (Try.f37.body).getD .skip
noncomputable def g_laws_eqRowS : Env Unit := ⟨tys, [(110, s_laws_eqRow)], 0⟩
noncomputable def laws_eqRowS_l0_r (a : List (List (Int × Int × ByteArray))) (b : List (List (Int × Int × ByteArray))) (i : Int) (rec : Int → Res) (k0 : Unit → Res) (k1 : Unit → Res) : Res :=
  bif decide (i < (nI (List.length a))) then
    bif inb i (List.length a) then
      bif inb i (List.length b) then
        laws_eqRow (nth [] a i) (nth [] b i) fun (r : Bool) =>
          bif !r then
            k1 ()
          else
            rec (wi64 (i + 1))
      else none
    else none
  else
    k0 ()
noncomputable def laws_eqRowS_l0_s (a : List (List (Int × Int × ByteArray))) (b : List (List (Int × Int × ByteArray))) : Int → (Int → Res) → ((Unit → Res) × (Unit → Res)) → Res := fun v rec q => laws_eqRowS_l0_r a b v (fun i => rec (i)) q.1 q.2
noncomputable def laws_eqRowS_l0 (a : List (List (Int × Int × ByteArray))) (b : List (List (Int × Int × ByteArray))) (n : Nat) (i : Int) (k0 : Unit → Res) (k1 : Unit → Res) : Res := iter (laws_eqRowS_l0_s a b) n (i) (k0, k1)
noncomputable def xlaws_eqRowS_l0 : Node Unit := fun σ k => rdN σ 27 <| rdV σ 0 y11 false [.S] fun a => rdV σ 1 y11 false [.S] fun b => rdV σ 5 (.int .i64) false [] fun i => laws_eqRowS_l0 a b FUEL i (fun (_ : Unit) => k (.exit 0) (mkS 27 27 [] [])) (fun (_ : Unit) => k .ret (mkS 27 27 [(4, .val ⟨.bool, false, false, []⟩)] []))
theorem elaws_eqRowS_l0 (a : List (List (Int × Int × ByteArray))) (b : List (List (Int × Int × ByteArray))) (n : Nat) (v : Int) (k : Kont Unit) : loopC (codeC g_laws_eqRowS [] .o (Code.pl (Code.pl (Code.pr (Code.pl (Code.pr (Code.pr c_laws_eqRowS))))))) (fun σ => σ.forget [0, 1, 5] []) (cutC ([], []) [(0, [], [])] ([4], [])) n (mkS 27 27 [(0, .val ⟨y11, false, a, [.S]⟩), (1, .val ⟨y11, false, b, [.S]⟩), (5, .val ⟨(.int .i64), false, v, []⟩)] []) k = iter (laws_eqRowS_l0_s a b) n v ((fun (k : Kont Unit) => (((fun (_ : Unit) => k (.exit 0) (mkS 27 27 [] [])), (fun (_ : Unit) => k .ret (mkS 27 27 [(4, .val ⟨.bool, false, false, []⟩)] []))) : (Unit → Res) × (Unit → Res))) k) := loop_eq (fun v : Int => (mkS 27 27 [(0, .val ⟨y11, false, a, [.S]⟩), (1, .val ⟨y11, false, b, [.S]⟩), (5, .val ⟨(.int .i64), false, v, []⟩)] [])) (laws_eqRowS_l0_s a b) (fun (k : Kont Unit) => (((fun (_ : Unit) => k (.exit 0) (mkS 27 27 [] [])), (fun (_ : Unit) => k .ret (mkS 27 27 [(4, .val ⟨.bool, false, false, []⟩)] []))) : (Unit → Res) × (Unit → Res))) (fun v rec k => by kernel_rfl) n v k
theorem olaws_eqRowS_l0 {W0 : Base} {M : Nat → Prop} (hnp : W0.np ≤ 0) : CodeOk Try.prog W0 M (Code.pl (Code.pr (Code.pl (Code.pr (Code.pr c_laws_eqRowS))))) xlaws_eqRowS_l0 := show CodeOk Try.prog W0 M (Code.loop (Code.pl (Code.pl (Code.pr (Code.pl (Code.pr (Code.pr c_laws_eqRowS))))))) xlaws_eqRowS_l0 from loop_ok (code_sound follows tysOk (calls_ok (fns_cons S_laws_eqRow fns_nil)) hnp [] (Code.pl (Code.pl (Code.pr (Code.pl (Code.pr (Code.pr c_laws_eqRowS)))))) .o trivial) (ks := [0, 1, 5]) (bs := []) (fX := (cutC ([], []) [(0, [], [])] ([4], []))) (cutC_le _ _ _) FUEL (by
  intro σ k r h
  obtain ⟨hn, h1⟩ := rdN_some h
  obtain ⟨a, hs0, h2⟩ := rdV_some h1
  obtain ⟨b, hs1, h3⟩ := rdV_some h2
  obtain ⟨i, hs5, h4⟩ := rdV_some h3
  refine ⟨_, ?_, (elaws_eqRowS_l0 a b FUEL (i) k).trans h4⟩
  exact mkS_le hn ⟨hs0, hs1, hs5, trivial⟩ trivial)
noncomputable def laws_eqRowS (a : List (List (Int × Int × ByteArray))) (b : List (List (Int × Int × ByteArray))) (k0 : Bool → Res) : Res :=
  bif ((nI (List.length a)) != (nI (List.length b))) then
    k0 false
  else
    laws_eqRowS_l0 a b FUEL 0
      (fun (_ : Unit) =>
        k0 true)
      (fun (_ : Unit) =>
        k0 false)
noncomputable def s_laws_eqRowS : Sig Unit := ⟨[.look y11 false, .look y11 false], [false], fun vals ext k => av vals y11 fun a vals => av vals y11 fun b vals => nl vals <| nl ext <| laws_eqRowS a b (fun (r0 : Bool) => k [⟨.bool, false, r0, []⟩] [] [])⟩
theorem E_laws_eqRowS (a : List (List (Int × Int × ByteArray))) (a_a : Bool) (t_a : List Tag) (b : List (List (Int × Int × ByteArray))) (a_b : Bool) (t_b : List Tag) (k : List TVal → List TVal → List TVal → Res) : funC g_laws_eqRowS [xlaws_eqRowS_l0] (.t .o (.t .o (.t (.t .o (.t (.x 0) .o)) .o))) false Try.f37 [.look y11 false, .look y11 false] [false] [⟨y11, a_a, a, t_a⟩, ⟨y11, a_b, b, t_b⟩] [] k = laws_eqRowS a b (fun (r0 : Bool) => k [⟨.bool, false, r0, []⟩] [] []) := by kernel_rfl
theorem S_laws_eqRowS : Sound Try.prog 37 s_laws_eqRowS := sound_of (Γ := g_laws_eqRowS) (X := [xlaws_eqRowS_l0]) (ht := (.t .o (.t .o (.t (.t .o (.t (.x 0) .o)) .o)))) (fz := false) (c := c_laws_eqRowS) follows tysOk (fns_cons S_laws_eqRow fns_nil) (OrOk.mk trivial ((OrOk.mk trivial ((OrOk.mk ((OrOk.mk trivial ((OrOk.mk (OrOk.x_mk (fun W0 M hnp => olaws_eqRowS_l0 (W0 := W0) (M := M) hnp)) trivial)))) trivial))))) Try.func37 (by kernel_rfl) (by kernel_rfl) (by decide) (by
  intro vals ext k r h
  obtain ⟨a, a_a, t_a, vals, rfl, h1⟩ := av_some h
  obtain ⟨b, a_b, t_b, vals, rfl, h2⟩ := av_some h1
  obtain ⟨rfl, h3⟩ := nl_some h2
  obtain ⟨rfl, h4⟩ := nl_some h3
  exact (E_laws_eqRowS a a_a t_a b a_b t_b k).trans h4)

/-! ### 39 loop.example/g00462/laws.markRowS -/
noncomputable def c_laws_markRowS : Code := (Try.f39.body).getD .skip
noncomputable def g_laws_markRowS : Env Unit := ⟨tys, [(97, s_laws_markValS)], 1⟩
noncomputable def laws_markRowS_l0_r (a : List (List (Int × Int × ByteArray))) (k_ : Int) (i : Int) (rec : (List (List (Int × Int × ByteArray))) → Int → Int → Res) (k0 : (List (List (Int × Int × ByteArray))) → Int → Res) : Res :=
  bif decide (i < (nI (List.length a))) then
    bif inb i (List.length a) then
      laws_markValS (nth [] a i) k_ fun (r : Int) (a1 : List (Int × Int × ByteArray)) =>
        rec (upd a i a1) r (wi64 (i + 1))
    else none
  else
    k0 a k_
noncomputable def laws_markRowS_l0_s : ((List (List (Int × Int × ByteArray))) × Int × Int) → ((List (List (Int × Int × ByteArray))) × Int × Int → Res) → (((List (List (Int × Int × ByteArray))) → Int → Res)) → Res := fun v rec q => laws_markRowS_l0_r v.1 v.2.1 v.2.2 (fun a k_ i => rec (a, k_, i)) q
noncomputable def laws_markRowS_l0 (n : Nat) (a : List (List (Int × Int × ByteArray))) (k_ : Int) (i : Int) (k0 : (List (List (Int × Int × ByteArray))) → Int → Res) : Res := iter (laws_markRowS_l0_s) n (a, k_, i) (k0)
noncomputable def xlaws_markRowS_l0 : Node Unit := fun σ k => rdN σ 20 <| rdV σ 0 y11 false [.O] fun a => rdV σ 1 (.int .i64) false [] fun k_ => rdV σ 5 (.int .i64) false [] fun i => laws_markRowS_l0 FUEL a k_ i (fun (a2 : List (List (Int × Int × ByteArray))) (k_1 : Int) => k (.exit 0) (mkS 20 20 [(0, .val ⟨y11, false, a2, [.O]⟩), (1, .val ⟨(.int .i64), false, k_1, []⟩)] []))
theorem elaws_markRowS_l0  (n : Nat) (v : (List (List (Int × Int × ByteArray))) × Int × Int) (k : Kont Unit) : loopC (codeC g_laws_markRowS [] .o (Code.pl (Code.pl (Code.pr (Code.pl (Code.pr c_laws_markRowS)))))) (fun σ => σ.forget [0, 1, 5] []) (cutC ([], []) [(0, [0, 1], [])] ([], [])) n (mkS 20 20 [(0, .val ⟨y11, false, v.1, [.O]⟩), (1, .val ⟨(.int .i64), false, v.2.1, []⟩), (5, .val ⟨(.int .i64), false, v.2.2, []⟩)] []) k = iter (laws_markRowS_l0_s) n v ((fun (k : Kont Unit) => (((fun (a2 : List (List (Int × Int × ByteArray))) (k_1 : Int) => k (.exit 0) (mkS 20 20 [(0, .val ⟨y11, false, a2, [.O]⟩), (1, .val ⟨(.int .i64), false, k_1, []⟩)] []))) : ((List (List (Int × Int × ByteArray))) → Int → Res))) k) := loop_eq (fun v : (List (List (Int × Int × ByteArray))) × Int × Int => (mkS 20 20 [(0, .val ⟨y11, false, v.1, [.O]⟩), (1, .val ⟨(.int .i64), false, v.2.1, []⟩), (5, .val ⟨(.int .i64), false, v.2.2, []⟩)] [])) (laws_markRowS_l0_s) (fun (k : Kont Unit) => (((fun (a2 : List (List (Int × Int × ByteArray))) (k_1 : Int) => k (.exit 0) (mkS 20 20 [(0, .val ⟨y11, false, a2, [.O]⟩), (1, .val ⟨(.int .i64), false, k_1, []⟩)] []))) : ((List (List (Int × Int × ByteArray))) → Int → Res))) (fun v rec k => by kernel_rfl) n v k
theorem olaws_markRowS_l0 {W0 : Base} {M : Nat → Prop} (hnp : W0.np ≤ 1) : CodeOk Try.prog W0 M (Code.pl (Code.pr (Code.pl (Code.pr c_laws_markRowS)))) xlaws_markRowS_l0 := show CodeOk Try.prog W0 M (Code.loop (Code.pl (Code.pl (Code.pr (Code.pl (Code.pr c_laws_markRowS)))))) xlaws_markRowS_l0 from loop_ok (code_sound follows tysOk (calls_ok (fns_cons S_laws_markValS fns_nil)) hnp [] (Code.pl (Code.pl (Code.pr (Code.pl (Code.pr c_laws_markRowS))))) .o trivial) (ks := [0, 1, 5]) (bs := []) (fX := (cutC ([], []) [(0, [0, 1], [])] ([], []))) (cutC_le _ _ _) FUEL (by
  intro σ k r h
  obtain ⟨hn, h1⟩ := rdN_some h
  obtain ⟨a, hs0, h2⟩ := rdV_some h1
  obtain ⟨k_, hs1, h3⟩ := rdV_some h2
  obtain ⟨i, hs5, h4⟩ := rdV_some h3
  refine ⟨_, ?_, (elaws_markRowS_l0  FUEL (a, k_, i) k).trans h4⟩
  exact mkS_le hn ⟨hs0, hs1, hs5, trivial⟩ trivial)
noncomputable def laws_markRowS (a : List (List (Int × Int × ByteArray))) (k_ : Int) (k0 : Int → (List (List (Int × Int × ByteArray))) → Res) : Res :=
  laws_markRowS_l0 FUEL a k_ 0 fun (a1 : List (List (Int × Int × ByteArray))) (k_1 : Int) =>
    k0 k_1 a1
noncomputable def s_laws_markRowS : Sig Unit := ⟨[.inout y11 false, .borrow (.int .i64) false], [false], fun vals ext k => ao vals y11 [.O] fun a vals => av vals (.int .i64) fun k_ vals => nl vals <| nl ext <| laws_markRowS a k_ (fun (r0 : Int) (i0 : List (List (Int × Int × ByteArray))) => k [⟨(.int .i64), false, r0, []⟩] [⟨y11, false, i0, [.O]⟩] [])⟩
theorem E_laws_markRowS (a_a : Bool) (a : List (List (Int × Int × ByteArray))) (k_ : Int) (a_k_ : Bool) (t_k_ : List Tag) (k : List TVal → List TVal → List TVal → Res) : funC g_laws_markRowS [xlaws_markRowS_l0] (.t .o (.t (.t .o (.t (.x 0) .o)) .o)) false Try.f39 [.inout y11 false, .borrow (.int .i64) false] [false] [⟨y11, a_a, a, [.O]⟩, ⟨(.int .i64), a_k_, k_, t_k_⟩] [] k = laws_markRowS a k_ (fun (r0 : Int) (i0 : List (List (Int × Int × ByteArray))) => k [⟨(.int .i64), false, r0, []⟩] [⟨y11, false, i0, [.O]⟩] []) := by kernel_rfl
theorem S_laws_markRowS : Sound Try.prog 39 s_laws_markRowS := sound_of (Γ := g_laws_markRowS) (X := [xlaws_markRowS_l0]) (ht := (.t .o (.t (.t .o (.t (.x 0) .o)) .o))) (fz := false) (c := c_laws_markRowS) follows tysOk (fns_cons S_laws_markValS fns_nil) (OrOk.mk trivial ((OrOk.mk ((OrOk.mk trivial ((OrOk.mk (OrOk.x_mk (fun W0 M hnp => olaws_markRowS_l0 (W0 := W0) (M := M) hnp)) trivial)))) trivial))) Try.func39 (by kernel_rfl) (by kernel_rfl) (by decide) (by
  intro vals ext k r h
  obtain ⟨a_a, a, vals, rfl, h1⟩ := ao_some h
  obtain ⟨k_, a_k_, t_k_, vals, rfl, h2⟩ := av_some h1
  obtain ⟨rfl, h3⟩ := nl_some h2
  obtain ⟨rfl, h4⟩ := nl_some h3
  exact (E_laws_markRowS a_a a k_ a_k_ t_k_ k).trans h4)
end Go.PI.G
