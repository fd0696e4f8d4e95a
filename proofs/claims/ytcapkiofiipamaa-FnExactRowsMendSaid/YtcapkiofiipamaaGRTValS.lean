/-
  Printed: what the functions compute. No conditions.
-/
import Derived.Test.YtcapkiofiipamaaGR0
import Derived.Test.YtcapkiofiipamaaGRTText
import Derived.Test.YtcapkiofiipamaaGRTVal
set_option linter.unusedVariables false
set_option maxRecDepth 100000
namespace Go.PI.G
open Go Go.PI Go.Proofs

/-! ### 175 loop.example/g00462/laws.szValS -/
noncomputable def c_laws_szValS : Code := (Try.f175.body).getD .skip
noncomputable def g_laws_szValS : Env Unit := ⟨tys, [(237, s_laws_szVal)], 0⟩
noncomputable def laws_szValS_l0_r (a : List (Int × Int × ByteArray)) (left : Int) (i : Int) (rec : Int → Int → Res) (k0 : Int → Res) (k1 : Unit → Res) : Res :=
  bif decide (i < (nI (List.length a))) then
    bif inb i (List.length a) then
      laws_szVal (nth (0, 0, eS) a i) left fun (r : Int) =>
        bif decide (r < 0) then
          k1 ()
        else
          rec r (wi64 (i + 1))
    else none
  else
    k0 left
noncomputable def laws_szValS_l0_s (a : List (Int × Int × ByteArray)) : (Int × Int) → (Int × Int → Res) → ((Int → Res) × (Unit → Res)) → Res := fun v rec q => laws_szValS_l0_r a v.1 v.2 (fun left i => rec (left, i)) q.1 q.2
noncomputable def laws_szValS_l0 (a : List (Int × Int × ByteArray)) (n : Nat) (left : Int) (i : Int) (k0 : Int → Res) (k1 : Unit → Res) : Res := iter (laws_szValS_l0_s a) n (left, i) (k0, k1)
noncomputable def xlaws_szValS_l0 : Node Unit := fun σ k => rdN σ 27 <| rdV σ 0 y10 false [.S] fun a => rdV σ 1 (.int .i64) false [] fun left => rdV σ 5 (.int .i64) false [] fun i => laws_szValS_l0 a FUEL left i (fun (left1 : Int) => k (.exit 0) (mkS 27 27 [(1, .val ⟨(.int .i64), false, left1, []⟩)] [])) (fun (_ : Unit) => k .ret (mkS 27 27 [(4, .val ⟨(.int .i64), false, (-1), []⟩)] []))
theorem elaws_szValS_l0 (a : List (Int × Int × ByteArray)) (n : Nat) (v : Int × Int) (k : Kont Unit) : loopC (codeC g_laws_szValS [] .o (Code.pl (Code.pl (Code.pr (Code.pl (Code.pr (Code.pr (Code.pr c_laws_szValS)))))))) (fun σ => σ.forget [0, 1, 5] []) (cutC ([], []) [(0, [1], [])] ([4], [])) n (mkS 27 27 [(0, .val ⟨y10, false, a, [.S]⟩), (1, .val ⟨(.int .i64), false, v.1, []⟩), (5, .val ⟨(.int .i64), false, v.2, []⟩)] []) k = iter (laws_szValS_l0_s a) n v ((fun (k : Kont Unit) => (((fun (left1 : Int) => k (.exit 0) (mkS 27 27 [(1, .val ⟨(.int .i64), false, left1, []⟩)] [])), (fun (_ : Unit) => k .ret (mkS 27 27 [(4, .val ⟨(.int .i64), false, (-1), []⟩)] []))) : (Int → Res) × (Unit → Res))) k) := loop_eq (fun v : Int × Int => (mkS 27 27 [(0, .val ⟨y10, false, a, [.S]⟩), (1, .val ⟨(.int .i64), false, v.1, []⟩), (5, .val ⟨(.int .i64), false, v.2, []⟩)] [])) (laws_szValS_l0_s a) (fun (k : Kont Unit) => (((fun (left1 : Int) => k (.exit 0) (mkS 27 27 [(1, .val ⟨(.int .i64), false, left1, []⟩)] [])), (fun (_ : Unit) => k .ret (mkS 27 27 [(4, .val ⟨(.int .i64), false, (-1), []⟩)] []))) : (Int → Res) × (Unit → Res))) (fun v rec k => by kernel_rfl) n v k
theorem olaws_szValS_l0 {W0 : Base} {M : Nat → Prop} (hnp : W0.np ≤ 0) : CodeOk Try.prog W0 M (Code.pl (Code.pr (Code.pl (Code.pr (Code.pr (Code.pr c_laws_szValS)))))) xlaws_szValS_l0 := show CodeOk Try.prog W0 M (Code.loop (Code.pl (Code.pl (Code.pr (Code.pl (Code.pr (Code.pr (Code.pr c_laws_szValS)))))))) xlaws_szValS_l0 from loop_ok (code_sound follows tysOk (calls_ok (fns_cons S_laws_szVal fns_nil)) hnp [] (Code.pl (Code.pl (Code.pr (Code.pl (Code.pr (Code.pr (Code.pr c_laws_szValS))))))) .o trivial) (ks := [0, 1, 5]) (bs := []) (fX := (cutC ([], []) [(0, [1], [])] ([4], []))) (cutC_le _ _ _) FUEL (by
  intro σ k r h
  obtain ⟨hn, h1⟩ := rdN_some h
  obtain ⟨a, hs0, h2⟩ := rdV_some h1
  obtain ⟨left, hs1, h3⟩ := rdV_some h2
  obtain ⟨i, hs5, h4⟩ := rdV_some h3
  refine ⟨_, ?_, (elaws_szValS_l0 a FUEL (left, i) k).trans h4⟩
  exact mkS_le hn ⟨hs0, hs1, hs5, trivial⟩ trivial)
noncomputable def laws_szValS (a : List (Int × Int × ByteArray)) (left : Int) (k0 : Int → Res) : Res :=
  bif decide ((wi64 (left - (nI (List.length a)))) < 0) then
    k0 (-1)
  else
    laws_szValS_l0 a FUEL (wi64 (left - (nI (List.length a)))) 0
      (fun (left1 : Int) =>
        k0 left1)
      (fun (_ : Unit) =>
        k0 (-1))
noncomputable def s_laws_szValS : Sig Unit := ⟨[.look y10 false, .look (.int .i64) false], [false], fun vals ext k => av vals y10 fun a vals => av vals (.int .i64) fun left vals => nl vals <| nl ext <| laws_szValS a left (fun (r0 : Int) => k [⟨(.int .i64), false, r0, []⟩] [] [])⟩
theorem E_laws_szValS (a : List (Int × Int × ByteArray)) (a_a : Bool) (t_a : List Tag) (left : Int) (a_left : Bool) (t_left : List Tag) (k : List TVal → List TVal → List TVal → Res) : funC g_laws_szValS [xlaws_szValS_l0] (.t .o (.t .o (.t .o (.t (.t .o (.t (.x 0) .o)) .o)))) false Try.f175 [.look y10 false, .look (.int .i64) false] [false] [⟨y10, a_a, a, t_a⟩, ⟨(.int .i64), a_left, left, t_left⟩] [] k = laws_szValS a left (fun (r0 : Int) => k [⟨(.int .i64), false, r0, []⟩] [] []) := by kernel_rfl
theorem S_laws_szValS : Sound Try.prog 175 s_laws_szValS := sound_of (Γ := g_laws_szValS) (X := [xlaws_szValS_l0]) (ht := (.t .o (.t .o (.t .o (.t (.t .o (.t (.x 0) .o)) .o))))) (fz := false) (c := c_laws_szValS) follows tysOk (fns_cons S_laws_szVal fns_nil) (OrOk.mk trivial ((OrOk.mk trivial ((OrOk.mk trivial ((OrOk.mk ((OrOk.mk trivial ((OrOk.mk (OrOk.x_mk (fun W0 M hnp => olaws_szValS_l0 (W0 := W0) (M := M) hnp)) trivial)))) trivial))))))) Try.func175 (by kernel_rfl) (by kernel_rfl) (by decide) (by
  intro vals ext k r h
  obtain ⟨a, a_a, t_a, vals, rfl, h1⟩ := av_some h
  obtain ⟨left, a_left, t_left, vals, rfl, h2⟩ := av_some h1
  obtain ⟨rfl, h3⟩ := nl_some h2
  obtain ⟨rfl, h4⟩ := nl_some h3
  exact (E_laws_szValS a a_a t_a left a_left t_left k).trans h4)

/-! ### 180 loop.example/g00462/laws.toValS -/
noncomputable def c_laws_toValS : Code := (Try.f180.body).getD .skip
noncomputable def g_laws_toValS : Env Unit := ⟨tys, [(241, s_laws_toVal)], 0⟩
noncomputable def laws_toValS_l0_r (a : List (Int × Int × ByteArray)) (out : List (Int × Int × ByteArray)) (i : Int) (rec : (List (Int × Int × ByteArray)) → Int → Res) (k0 : (List (Int × Int × ByteArray)) → Res) : Res :=
  bif decide (i < (nI (List.length a))) then
    bif inb i (List.length a) then
      laws_toVal (nth (0, 0, eS) a i) fun (r : Int × Int × ByteArray) =>
        bif inb i (List.length out) then
          rec (upd out i r) (wi64 (i + 1))
        else none
    else none
  else
    k0 out
noncomputable def laws_toValS_l0_s (a : List (Int × Int × ByteArray)) : ((List (Int × Int × ByteArray)) × Int) → ((List (Int × Int × ByteArray)) × Int → Res) → (((List (Int × Int × ByteArray)) → Res)) → Res := fun v rec q => laws_toValS_l0_r a v.1 v.2 (fun out i => rec (out, i)) q
noncomputable def laws_toValS_l0 (a : List (Int × Int × ByteArray)) (n : Nat) (out : List (Int × Int × ByteArray)) (i : Int) (k0 : (List (Int × Int × ByteArray)) → Res) : Res := iter (laws_toValS_l0_s a) n (out, i) (k0)
noncomputable def xlaws_toValS_l0 : Node Unit := fun σ k => rdN σ 23 <| rdV σ 0 y10 false [.S] fun a => rdV σ 3 y10 false [.O] fun out => rdV σ 4 (.int .i64) false [] fun i => laws_toValS_l0 a FUEL out i (fun (out1 : List (Int × Int × ByteArray)) => k (.exit 0) (mkS 23 23 [(3, .val ⟨y10, false, out1, [.O]⟩)] []))
theorem elaws_toValS_l0 (a : List (Int × Int × ByteArray)) (n : Nat) (v : (List (Int × Int × ByteArray)) × Int) (k : Kont Unit) : loopC (codeC g_laws_toValS [] .o (Code.pl (Code.pl (Code.pr (Code.pl (Code.pr (Code.pr c_laws_toValS))))))) (fun σ => σ.forget [0, 3, 4] []) (cutC ([], []) [(0, [3], [])] ([], [])) n (mkS 23 23 [(0, .val ⟨y10, false, a, [.S]⟩), (3, .val ⟨y10, false, v.1, [.O]⟩), (4, .val ⟨(.int .i64), false, v.2, []⟩)] []) k = iter (laws_toValS_l0_s a) n v ((fun (k : Kont Unit) => (((fun (out1 : List (Int × Int × ByteArray)) => k (.exit 0) (mkS 23 23 [(3, .val ⟨y10, false, out1, [.O]⟩)] []))) : ((List (Int × Int × ByteArray)) → Res))) k) := loop_eq (fun v : (List (Int × Int × ByteArray)) × Int => (mkS 23 23 [(0, .val ⟨y10, false, a, [.S]⟩), (3, .val ⟨y10, false, v.1, [.O]⟩), (4, .val ⟨(.int .i64), false, v.2, []⟩)] [])) (laws_toValS_l0_s a) (fun (k : Kont Unit) => (((fun (out1 : List (Int × Int × ByteArray)) => k (.exit 0) (mkS 23 23 [(3, .val ⟨y10, false, out1, [.O]⟩)] []))) : ((List (Int × Int × ByteArray)) → Res))) (fun v rec k => by kernel_rfl) n v k
theorem olaws_toValS_l0 {W0 : Base} {M : Nat → Prop} (hnp : W0.np ≤ 0) : CodeOk Try.prog W0 M (Code.pl (Code.pr (Code.pl (Code.pr (Code.pr c_laws_toValS))))) xlaws_toValS_l0 := show CodeOk Try.prog W0 M (Code.loop (Code.pl (Code.pl (Code.pr (Code.pl (Code.pr (Code.pr c_laws_toValS))))))) xlaws_toValS_l0 from loop_ok (code_sound follows tysOk (calls_ok (fns_cons S_laws_toVal fns_nil)) hnp [] (Code.pl (Code.pl (Code.pr (Code.pl (Code.pr (Code.pr c_laws_toValS)))))) .o trivial) (ks := [0, 3, 4]) (bs := []) (fX := (cutC ([], []) [(0, [3], [])] ([], []))) (cutC_le _ _ _) FUEL (by
  intro σ k r h
  obtain ⟨hn, h1⟩ := rdN_some h
  obtain ⟨a, hs0, h2⟩ := rdV_some h1
  obtain ⟨out, hs3, h3⟩ := rdV_some h2
  obtain ⟨i, hs4, h4⟩ := rdV_some h3
  refine ⟨_, ?_, (elaws_toValS_l0 a FUEL (out, i) k).trans h4⟩
  exact mkS_le hn ⟨hs0, hs3, hs4, trivial⟩ trivial)
noncomputable def laws_toValS (a : List (Int × Int × ByteArray)) (k0 : (List (Int × Int × ByteArray)) → Res) : Res :=
  bif mkOk (nI (List.length a)) (nI (List.length a)) then
    laws_toValS_l0 a FUEL (repl (nI (List.length a)) (0, 0, eS)) 0 fun (out : List (Int × Int × ByteArray)) =>
      k0 out
  else none
noncomputable def s_laws_toValS : Sig Unit := ⟨[.borrow y10 false], [false], fun vals ext k => av vals y10 fun a vals => nl vals <| nl ext <| laws_toValS a (fun (r0 : List (Int × Int × ByteArray)) => k [⟨y10, false, r0, [.O]⟩] [] [])⟩
theorem E_laws_toValS (a : List (Int × Int × ByteArray)) (a_a : Bool) (t_a : List Tag) (k : List TVal → List TVal → List TVal → Res) : funC g_laws_toValS [xlaws_toValS_l0] (.t .o (.t .o (.t (.t .o (.t (.x 0) .o)) .o))) false Try.f180 [.borrow y10 false] [false] [⟨y10, a_a, a, t_a⟩] [] k = laws_toValS a (fun (r0 : List (Int × Int × ByteArray)) => k [⟨y10, false, r0, [.O]⟩] [] []) := by kernel_rfl
theorem S_laws_toValS : Sound Try.prog 180 s_laws_toValS := sound_of (Γ := g_laws_toValS) (X := [xlaws_toValS_l0]) (ht := (.t .o (.t .o (.t (.t .o (.t (.x 0) .o)) .o)))) (fz := false) (c := c_laws_toValS) follows tysOk (fns_cons S_laws_toVal fns_nil) (OrOk.mk trivial ((OrOk.mk trivial ((OrOk.mk ((OrOk.mk trivial ((OrOk.mk (OrOk.x_mk (fun W0 M hnp => olaws_toValS_l0 (W0 := W0) (M := M) hnp)) trivial)))) trivial))))) Try.func180 (by kernel_rfl) (by kernel_rfl) (by decide) (by
  intro vals ext k r h
  obtain ⟨a, a_a, t_a, vals, rfl, h1⟩ := av_some h
  obtain ⟨rfl, h2⟩ := nl_some h1
  obtain ⟨rfl, h3⟩ := nl_some h2
  exact (E_laws_toValS a a_a t_a k).trans h3)

/-! ### 94 loop.example/g00462/laws.eqValS -/
noncomputable def c_laws_eqValS : Code := (Try.f94.body).getD .skip
noncomputable def g_laws_eqValS : Env Unit := ⟨tys, [(172, s_laws_eqVal)], 0⟩
noncomputable def laws_eqValS_l0_r (a : List (Int × Int × ByteArray)) (b : List (Int × Int × ByteArray)) (i : Int) (rec : Int → Res) (k0 : Unit → Res) (k1 : Unit → Res) : Res :=
  bif decide (i < (nI (List.length a))) then
    bif inb i (List.length a) then
      bif inb i (List.length b) then
        laws_eqVal (nth (0, 0, eS) a i) (nth (0, 0, eS) b i) fun (r : Bool) =>
          bif !r then
            k1 ()
          else
            rec (wi64 (i + 1))
      else none
    else none
  else
    k0 ()
noncomputable def laws_eqValS_l0_s (a : List (Int × Int × ByteArray)) (b : List (Int × Int × ByteArray)) : Int → (Int → Res) → ((Unit → Res) × (Unit → Res)) → Res := fun v rec q => laws_eqValS_l0_r a b v (fun i => rec (i)) q.1 q.2
noncomputable def laws_eqValS_l0 (a : List (Int × Int × ByteArray)) (b : List (Int × Int × ByteArray)) (n : Nat) (i : Int) (k0 : Unit → Res) (k1 : Unit → Res) : Res := iter (laws_eqValS_l0_s a b) n (i) (k0, k1)
noncomputable def xlaws_eqValS_l0 : Node Unit := fun σ k => rdN σ 27 <| rdV σ 0 y10 false [.S] fun a => rdV σ 1 y10 false [.S] fun b => rdV σ 5 (.int .i64) false [] fun i => laws_eqValS_l0 a b FUEL i (fun (_ : Unit) => k (.exit 0) (mkS 27 27 [] [])) (fun (_ : Unit) => k .ret (mkS 27 27 [(4, .val ⟨.bool, false, false, []⟩)] []))
theorem elaws_eqValS_l0 (a : List (Int × Int × ByteArray)) (b : List (Int × Int × ByteArray)) (n : Nat) (v : Int) (k : Kont Unit) : loopC (codeC g_laws_eqValS [] .o (Code.pl (Code.pl (Code.pr (Code.pl (Code.pr (Code.pr c_laws_eqValS))))))) (fun σ => σ.forget [0, 1, 5] []) (cutC ([], []) [(0, [], [])] ([4], [])) n (mkS 27 27 [(0, .val ⟨y10, false, a, [.S]⟩), (1, .val ⟨y10, false, b, [.S]⟩), (5, .val ⟨(.int .i64), false, v, []⟩)] []) k = iter (laws_eqValS_l0_s a b) n v ((fun (k : Kont Unit) => (((fun (_ : Unit) => k (.exit 0) (mkS 27 27 [] [])), (fun (_ : Unit) => k .ret (mkS 27 27 [(4, .val ⟨.bool, false, false, []⟩)] []))) : (Unit → Res) × (Unit → Res))) k) := loop_eq (fun v : Int => (mkS 27 27 [(0, .val ⟨y10, false, a, [.S]⟩), (1, .val ⟨y10, false, b, [.S]⟩), (5, .val ⟨(.int .i64), false, v, []⟩)] [])) (laws_eqValS_l0_s a b) (fun (k : Kont Unit) => (((fun (_ : Unit) => k (.exit 0) (mkS 27 27 [] [])), (fun (_ : Unit) => k .ret (mkS 27 27 [(4, .val ⟨.bool, false, false, []⟩)] []))) : (Unit → Res) × (Unit → Res))) (fun v rec k => by kernel_rfl) n v k
theorem olaws_eqValS_l0 {W0 : Base} {M : Nat → Prop} (hnp : W0.np ≤ 0) : CodeOk Try.prog W0 M (Code.pl (Code.pr (Code.pl (Code.pr (Code.pr c_laws_eqValS))))) xlaws_eqValS_l0 := show CodeOk Try.prog W0 M (Code.loop (Code.pl (Code.pl (Code.pr (Code.pl (Code.pr (Code.pr c_laws_eqValS))))))) xlaws_eqValS_l0 from loop_ok (code_sound follows tysOk (calls_ok (fns_cons S_laws_eqVal fns_nil)) hnp [] (Code.pl (Code.pl (Code.pr (Code.pl (Code.pr (Code.pr c_laws_eqValS)))))) .o trivial) (ks := [0, 1, 5]) (bs := []) (fX := (cutC ([], []) [(0, [], [])] ([4], []))) (cutC_le _ _ _) FUEL (by
  intro σ k r h
  obtain ⟨hn, h1⟩ := rdN_some h
  obtain ⟨a, hs0, h2⟩ := rdV_some h1
  obtain ⟨b, hs1, h3⟩ := rdV_some h2
  obtain ⟨i, hs5, h4⟩ := rdV_some h3
  refine ⟨_, ?_, (elaws_eqValS_l0 a b FUEL (i) k).trans h4⟩
  exact mkS_le hn ⟨hs0, hs1, hs5, trivial⟩ trivial)
noncomputable def laws_eqValS (a : List (Int × Int × ByteArray)) (b : List (Int × Int × ByteArray)) (k0 : Bool → Res) : Res :=
  bif ((nI (List.length a)) != (nI (List.length b))) then
    k0 false
  else
    laws_eqValS_l0 a b FUEL 0
      (fun (_ : Unit) =>
        k0 true)
      (fun (_ : Unit) =>
        k0 false)
noncomputable def s_laws_eqValS : Sig Unit := ⟨[.look y10 false, .look y10 false], [false], fun vals ext k => av vals y10 fun a vals => av vals y10 fun b vals => nl vals <| nl ext <| laws_eqValS a b (fun (r0 : Bool) => k [⟨.bool, false, r0, []⟩] [] [])⟩
theorem E_laws_eqValS (a : List (Int × Int × ByteArray)) (a_a : Bool) (t_a : List Tag) (b : List (Int × Int × ByteArray)) (a_b : Bool) (t_b : List Tag) (k : List TVal → List TVal → List TVal → Res) : funC g_laws_eqValS [xlaws_eqValS_l0] (.t .o (.t .o (.t (.t .o (.t (.x 0) .o)) .o))) false Try.f94 [.look y10 false, .look y10 false] [false] [⟨y10, a_a, a, t_a⟩, ⟨y10, a_b, b, t_b⟩] [] k = laws_eqValS a b (fun (r0 : Bool) => k [⟨.bool, false, r0, []⟩] [] []) := by kernel_rfl
theorem S_laws_eqValS : Sound Try.prog 94 s_laws_eqValS := sound_of (Γ := g_laws_eqValS) (X := [xlaws_eqValS_l0]) (ht := (.t .o (.t .o (.t (.t .o (.t (.x 0) .o)) .o)))) (fz := false) (c := c_laws_eqValS) follows tysOk (fns_cons S_laws_eqVal fns_nil) (OrOk.mk trivial ((OrOk.mk trivial ((OrOk.mk ((OrOk.mk trivial ((OrOk.mk (OrOk.x_mk (fun W0 M hnp => olaws_eqValS_l0 (W0 := W0) (M := M) hnp)) trivial)))) trivial))))) Try.func94 (by kernel_rfl) (by kernel_rfl) (by decide) (by
  intro vals ext k r h
  obtain ⟨a, a_a, t_a, vals, rfl, h1⟩ := av_some h
  obtain ⟨b, a_b, t_b, vals, rfl, h2⟩ := av_some h1
  obtain ⟨rfl, h3⟩ := nl_some h2
  obtain ⟨rfl, h4⟩ := nl_some h3
  exact (E_laws_eqValS a a_a t_a b a_b t_b k).trans h4)

/-! ### 97 loop.example/g00462/laws.markValS -/
noncomputable def c_laws_markValS : Code := (Try.f97.body).getD .skip
noncomputable def g_laws_markValS : Env Unit := ⟨tys, [(112, s_laws_markText)], 1⟩
noncomputable def laws_markValS_l0_r (a : List (Int × Int × ByteArray)) (k_ : Int) (i : Int) (rec : (List (Int × Int × ByteArray)) → Int → Int → Res) (k0 : (List (Int × Int × ByteArray)) → Int → Res) : Res :=
  bif decide (i < (nI (List.length a))) then
    bif inb i (List.length a) then
      bif inb i (List.length (upd a i (k_, (nth (0, 0, eS) a i).2))) then
        laws_markText (wi64 ((wi64 (k_ + 1)) + 1)) fun (r : ByteArray) =>
          bif inb i (List.length (upd (upd a i (k_, (nth (0, 0, eS) a i).2)) i ((nth (0, 0, eS) (upd a i (k_, (nth (0, 0, eS) a i).2)) i).1, wi64 (k_ + 1), (nth (0, 0, eS) (upd a i (k_, (nth (0, 0, eS) a i).2)) i).2.2))) then
            rec (upd (upd (upd a i (k_, (nth (0, 0, eS) a i).2)) i ((nth (0, 0, eS) (upd a i (k_, (nth (0, 0, eS) a i).2)) i).1, wi64 (k_ + 1), (nth (0, 0, eS) (upd a i (k_, (nth (0, 0, eS) a i).2)) i).2.2)) i ((nth (0, 0, eS) (upd (upd a i (k_, (nth (0, 0, eS) a i).2)) i ((nth (0, 0, eS) (upd a i (k_, (nth (0, 0, eS) a i).2)) i).1, wi64 (k_ + 1), (nth (0, 0, eS) (upd a i (k_, (nth (0, 0, eS) a i).2)) i).2.2)) i).1, (nth (0, 0, eS) (upd (upd a i (k_, (nth (0, 0, eS) a i).2)) i ((nth (0, 0, eS) (upd a i (k_, (nth (0, 0, eS) a i).2)) i).1, wi64 (k_ + 1), (nth (0, 0, eS) (upd a i (k_, (nth (0, 0, eS) a i).2)) i).2.2)) i).2.1, r)) (wi64 ((wi64 ((wi64 (k_ + 1)) + 1)) + 1)) (wi64 (i + 1))
          else none
      else none
    else none
  else
    k0 a k_
noncomputable def laws_markValS_l0_s : ((List (Int × Int × ByteArray)) × Int × Int) → ((List (Int × Int × ByteArray)) × Int × Int → Res) → (((List (Int × Int × ByteArray)) → Int → Res)) → Res := fun v rec q => laws_markValS_l0_r v.1 v.2.1 v.2.2 (fun a k_ i => rec (a, k_, i)) q
noncomputable def laws_markValS_l0 (n : Nat) (a : List (Int × Int × ByteArray)) (k_ : Int) (i : Int) (k0 : (List (Int × Int × ByteArray)) → Int → Res) : Res := iter (laws_markValS_l0_s) n (a, k_, i) (k0)
noncomputable def xlaws_markValS_l0 : Node Unit := fun σ k => rdN σ 35 <| rdV σ 0 y10 false [.O] fun a => rdV σ 1 (.int .i64) false [] fun k_ => rdV σ 5 (.int .i64) false [] fun i => laws_markValS_l0 FUEL a k_ i (fun (a1 : List (Int × Int × ByteArray)) (k_1 : Int) => k (.exit 0) (mkS 35 35 [(0, .val ⟨y10, false, a1, [.O]⟩), (1, .val ⟨(.int .i64), false, k_1, []⟩)] []))
theorem elaws_markValS_l0  (n : Nat) (v : (List (Int × Int × ByteArray)) × Int × Int) (k : Kont Unit) : loopC (codeC g_laws_markValS [] .o (Code.pl (Code.pl (Code.pr (Code.pl (Code.pr c_laws_markValS)))))) (fun σ => σ.forget [0, 1, 5] []) (cutC ([], []) [(0, [0, 1], [])] ([], [])) n (mkS 35 35 [(0, .val ⟨y10, false, v.1, [.O]⟩), (1, .val ⟨(.int .i64), false, v.2.1, []⟩), (5, .val ⟨(.int .i64), false, v.2.2, []⟩)] []) k = iter (laws_markValS_l0_s) n v ((fun (k : Kont Unit) => (((fun (a1 : List (Int × Int × ByteArray)) (k_1 : Int) => k (.exit 0) (mkS 35 35 [(0, .val ⟨y10, false, a1, [.O]⟩), (1, .val ⟨(.int .i64), false, k_1, []⟩)] []))) : ((List (Int × Int × ByteArray)) → Int → Res))) k) := loop_eq (fun v : (List (Int × Int × ByteArray)) × Int × Int => (mkS 35 35 [(0, .val ⟨y10, false, v.1, [.O]⟩), (1, .val ⟨(.int .i64), false, v.2.1, []⟩), (5, .val ⟨(.int .i64), false, v.2.2, []⟩)] [])) (laws_markValS_l0_s) (fun (k : Kont Unit) => (((fun (a1 : List (Int × Int × ByteArray)) (k_1 : Int) => k (.exit 0) (mkS 35 35 [(0, .val ⟨y10, false, a1, [.O]⟩), (1, .val ⟨(.int .i64), false, k_1, []⟩)] []))) : ((List (Int × Int × ByteArray)) → Int → Res))) (fun v rec k => by kernel_rfl) n v k
theorem olaws_markValS_l0 {W0 : Base} {M : Nat → Prop} (hnp : W0.np ≤ 1) : CodeOk Try.prog W0 M (Code.pl (Code.pr (Code.pl (Code.pr c_laws_markValS)))) xlaws_markValS_l0 := show CodeOk Try.prog W0 M (Code.loop (Code.pl (Code.pl (Code.pr (Code.pl (Code.pr c_laws_markValS)))))) xlaws_markValS_l0 from loop_ok (code_sound follows tysOk (calls_ok (fns_cons S_laws_markText fns_nil)) hnp [] (Code.pl (Code.pl (Code.pr (Code.pl (Code.pr c_laws_markValS))))) .o trivial) (ks := [0, 1, 5]) (bs := []) (fX := (cutC ([], []) [(0, [0, 1], [])] ([], []))) (cutC_le _ _ _) FUEL (by
  intro σ k r h
  obtain ⟨hn, h1⟩ := rdN_some h
  obtain ⟨a, hs0, h2⟩ := rdV_some h1
  obtain ⟨k_, hs1, h3⟩ := rdV_some h2
  obtain ⟨i, hs5, h4⟩ := rdV_some h3
  refine ⟨_, ?_, (elaws_markValS_l0  FUEL (a, k_, i) k).trans h4⟩
  exact mkS_le hn ⟨hs0, hs1, hs5, trivial⟩ trivial)
noncomputable def laws_markValS (a : List (Int × Int × ByteArray)) (k_ : Int) (k0 : Int → (List (Int × Int × ByteArray)) → Res) : Res :=
  laws_markValS_l0 FUEL a k_ 0 fun (a1 : List (Int × Int × ByteArray)) (k_1 : Int) =>
    k0 k_1 a1
noncomputable def s_laws_markValS : Sig Unit := ⟨[.inout y10 false, .borrow (.int .i64) false], [false], fun vals ext k => ao vals y10 [.O] fun a vals => av vals (.int .i64) fun k_ vals => nl vals <| nl ext <| laws_markValS a k_ (fun (r0 : Int) (i0 : List (Int × Int × ByteArray)) => k [⟨(.int .i64), false, r0, []⟩] [⟨y10, false, i0, [.O]⟩] [])⟩
theorem E_laws_markValS (a_a : Bool) (a : List (Int × Int × ByteArray)) (k_ : Int) (a_k_ : Bool) (t_k_ : List Tag) (k : List TVal → List TVal → List TVal → Res) : funC g_laws_markValS [xlaws_markValS_l0] (.t .o (.t (.t .o (.t (.x 0) .o)) .o)) false Try.f97 [.inout y10 false, .borrow (.int .i64) false] [false] [⟨y10, a_a, a, [.O]⟩, ⟨(.int .i64), a_k_, k_, t_k_⟩] [] k = laws_markValS a k_ (fun (r0 : Int) (i0 : List (Int × Int × ByteArray)) => k [⟨(.int .i64), false, r0, []⟩] [⟨y10, false, i0, [.O]⟩] []) := by kernel_rfl
theorem S_laws_markValS : Sound Try.prog 97 s_laws_markValS := sound_of (Γ := g_laws_markValS) (X := [xlaws_markValS_l0]) (ht := (.t .o (.t (.t .o (.t (.x 0) .o)) .o))) (fz := false) (c := c_laws_markValS) follows tysOk (fns_cons S_laws_markText fns_nil) (OrOk.mk trivial ((OrOk.mk ((OrOk.mk trivial ((OrOk.mk (OrOk.x_mk (fun W0 M hnp => olaws_markValS_l0 (W0 := W0) (M := M) hnp)) trivial)))) trivial))) Try.func97 (by kernel_rfl) (by kernel_rfl) (by decide) (by
  intro vals ext k r h
  obtain ⟨a_a, a, vals, rfl, h1⟩ := ao_some h
  obtain ⟨k_, a_k_, t_k_, vals, rfl, h2⟩ := av_some h1
  obtain ⟨rfl, h3⟩ := nl_some h2
  obtain ⟨rfl, h4⟩ := nl_some h3
  exact (E_laws_markValS a_a a k_ a_k_ t_k_ k).trans h4)

/-! ### 98 loop.example/g00462/laws.heldValS -/
noncomputable def c_laws_heldValS : Code := (Try.f98.body).getD .skip
noncomputable def g_laws_heldValS : Env Unit := ⟨tys, [(112, s_laws_markText)], 0⟩
noncomputable def laws_heldValS_l0_r (a : List (Int × Int × ByteArray)) (k_ : Int) (i : Int) (rec : Int → Int → Res) (k0 : Int → Res) (k1 : Unit → Res) : Res :=
  bif decide (i < (nI (List.length a))) then
    bif inb i (List.length a) then
      bif ((nth (0, 0, eS) a i).1 != k_) then
        k1 ()
      else
        bif inb i (List.length a) then
          bif ((nth (0, 0, eS) a i).2.1 != (wi64 (k_ + 1))) then
            k1 ()
          else
            bif inb i (List.length a) then
              laws_markText (wi64 ((wi64 (k_ + 1)) + 1)) fun (r : ByteArray) =>
                bif sNe (nth (0, 0, eS) a i).2.2 r then
                  k1 ()
                else
                  rec (wi64 ((wi64 ((wi64 (k_ + 1)) + 1)) + 1)) (wi64 (i + 1))
            else none
        else none
    else none
  else
    k0 k_
noncomputable def laws_heldValS_l0_s (a : List (Int × Int × ByteArray)) : (Int × Int) → (Int × Int → Res) → ((Int → Res) × (Unit → Res)) → Res := fun v rec q => laws_heldValS_l0_r a v.1 v.2 (fun k_ i => rec (k_, i)) q.1 q.2
noncomputable def laws_heldValS_l0 (a : List (Int × Int × ByteArray)) (n : Nat) (k_ : Int) (i : Int) (k0 : Int → Res) (k1 : Unit → Res) : Res := iter (laws_heldValS_l0_s a) n (k_, i) (k0, k1)
noncomputable def xlaws_heldValS_l0 : Node Unit := fun σ k => rdN σ 41 <| rdV σ 0 y10 false [.S] fun a => rdV σ 1 (.int .i64) false [] fun k_ => rdV σ 5 (.int .i64) false [] fun i => laws_heldValS_l0 a FUEL k_ i (fun (k_1 : Int) => k (.exit 0) (mkS 41 41 [(1, .val ⟨(.int .i64), false, k_1, []⟩)] [])) (fun (_ : Unit) => k .ret (mkS 41 41 [(4, .val ⟨(.int .i64), false, (-1), []⟩)] []))
theorem elaws_heldValS_l0 (a : List (Int × Int × ByteArray)) (n : Nat) (v : Int × Int) (k : Kont Unit) : loopC (codeC g_laws_heldValS [] .o (Code.pl (Code.pl (Code.pr (Code.pl (Code.pr c_laws_heldValS)))))) (fun σ => σ.forget [0, 1, 5] []) (cutC ([], []) [(0, [1], [])] ([4], [])) n (mkS 41 41 [(0, .val ⟨y10, false, a, [.S]⟩), (1, .val ⟨(.int .i64), false, v.1, []⟩), (5, .val ⟨(.int .i64), false, v.2, []⟩)] []) k = iter (laws_heldValS_l0_s a) n v ((fun (k : Kont Unit) => (((fun (k_1 : Int) => k (.exit 0) (mkS 41 41 [(1, .val ⟨(.int .i64), false, k_1, []⟩)] [])), (fun (_ : Unit) => k .ret (mkS 41 41 [(4, .val ⟨(.int .i64), false, (-1), []⟩)] []))) : (Int → Res) × (Unit → Res))) k) := loop_eq (fun v : Int × Int => (mkS 41 41 [(0, .val ⟨y10, false, a, [.S]⟩), (1, .val ⟨(.int .i64), false, v.1, []⟩), (5, .val ⟨(.int .i64), false, v.2, []⟩)] [])) (laws_heldValS_l0_s a) (fun (k : Kont Unit) => (((fun (k_1 : Int) => k (.exit 0) (mkS 41 41 [(1, .val ⟨(.int .i64), false, k_1, []⟩)] [])), (fun (_ : Unit) => k .ret (mkS 41 41 [(4, .val ⟨(.int .i64), false, (-1), []⟩)] []))) : (Int → Res) × (Unit → Res))) (fun v rec k => by kernel_rfl) n v k
theorem olaws_heldValS_l0 {W0 : Base} {M : Nat → Prop} (hnp : W0.np ≤ 0) : CodeOk Try.prog W0 M (Code.pl (Code.pr (Code.pl (Code.pr c_laws_heldValS)))) xlaws_heldValS_l0 := show CodeOk Try.prog W0 M (Code.loop (Code.pl (Code.pl (Code.pr (Code.pl (Code.pr c_laws_heldValS)))))) xlaws_heldValS_l0 from loop_ok (code_sound follows tysOk (calls_ok (fns_cons S_laws_markText fns_nil)) hnp [] (Code.pl (Code.pl (Code.pr (Code.pl (Code.pr c_laws_heldValS))))) .o trivial) (ks := [0, 1, 5]) (bs := []) (fX := (cutC ([], []) [(0, [1], [])] ([4], []))) (cutC_le _ _ _) FUEL (by
  intro σ k r h
  obtain ⟨hn, h1⟩ := rdN_some h
  obtain ⟨a, hs0, h2⟩ := rdV_some h1
  obtain ⟨k_, hs1, h3⟩ := rdV_some h2
  obtain ⟨i, hs5, h4⟩ := rdV_some h3
  refine ⟨_, ?_, (elaws_heldValS_l0 a FUEL (k_, i) k).trans h4⟩
  exact mkS_le hn ⟨hs0, hs1, hs5, trivial⟩ trivial)
noncomputable def laws_heldValS (a : List (Int × Int × ByteArray)) (k_ : Int) (k0 : Int → Res) : Res :=
  laws_heldValS_l0 a FUEL k_ 0
    (fun (k_1 : Int) =>
      k0 k_1)
    (fun (_ : Unit) =>
      k0 (-1))
noncomputable def s_laws_heldValS : Sig Unit := ⟨[.look y10 false, .look (.int .i64) false], [false], fun vals ext k => av vals y10 fun a vals => av vals (.int .i64) fun k_ vals => nl vals <| nl ext <| laws_heldValS a k_ (fun (r0 : Int) => k [⟨(.int .i64), false, r0, []⟩] [] [])⟩
theorem E_laws_heldValS (a : List (Int × Int × ByteArray)) (a_a : Bool) (t_a : List Tag) (k_ : Int) (a_k_ : Bool) (t_k_ : List Tag) (k : List TVal → List TVal → List TVal → Res) : funC g_laws_heldValS [xlaws_heldValS_l0] (.t .o (.t (.t .o (.t (.x 0) .o)) .o)) false Try.f98 [.look y10 false, .look (.int .i64) false] [false] [⟨y10, a_a, a, t_a⟩, ⟨(.int .i64), a_k_, k_, t_k_⟩] [] k = laws_heldValS a k_ (fun (r0 : Int) => k [⟨(.int .i64), false, r0, []⟩] [] []) := by kernel_rfl
theorem S_laws_heldValS : Sound Try.prog 98 s_laws_heldValS := sound_of (Γ := g_laws_heldValS) (X := [xlaws_heldValS_l0]) (ht := (.t .o (.t (.t .o (.t (.x 0) .o)) .o))) (fz := false) (c := c_laws_heldValS) follows tysOk (fns_cons S_laws_markText fns_nil) (OrOk.mk trivial ((OrOk.mk ((OrOk.mk trivial ((OrOk.mk (OrOk.x_mk (fun W0 M hnp => olaws_heldValS_l0 (W0 := W0) (M := M) hnp)) trivial)))) trivial))) Try.func98 (by kernel_rfl) (by kernel_rfl) (by decide) (by
  intro vals ext k r h
  obtain ⟨a, a_a, t_a, vals, rfl, h1⟩ := av_some h
  obtain ⟨k_, a_k_, t_k_, vals, rfl, h2⟩ := av_some h1
  obtain ⟨rfl, h3⟩ := nl_some h2
  obtain ⟨rfl, h4⟩ := nl_some h3
  exact (E_laws_heldValS a a_a t_a k_ a_k_ t_k_ k).trans h4)
end Go.PI.G
