/-
  Printed: what the functions compute. No conditions.
-/
import Derived.Test.YtcapkiofiipamaaGR0
import Derived.Test.YtcapkiofiipamaaGRTText
set_option linter.unusedVariables false
set_option maxRecDepth 100000
namespace Go.PI.G
open Go Go.PI Go.Proofs

/-! ### 66 loop.example/g00462/laws.szStringS -/
noncomputable def c_laws_szStringS : Code := (Try.f66.body).getD .skip
noncomputable def g_laws_szStringS : Env Unit := ⟨tys, [], 0⟩
noncomputable def laws_szStringS_l0_r (a : List ByteArray) (left : Int) (i : Int) (rec : Int → Int → Res) (k0 : Int → Res) (k1 : Unit → Res) : Res :=
  bif decide (i < (nI (List.length a))) then
    bif inb i (List.length a) then
      bif decide ((wi64 (left - (nI (ByteArray.size (nth eS a i))))) < 0) then
        k1 ()
      else
        rec (wi64 (left - (nI (ByteArray.size (nth eS a i))))) (wi64 (i + 1))
    else none
  else
    k0 left
noncomputable def laws_szStringS_l0_s (a : List ByteArray) : (Int × Int) → (Int × Int → Res) → ((Int → Res) × (Unit → Res)) → Res := fun v rec q => laws_szStringS_l0_r a v.1 v.2 (fun left i => rec (left, i)) q.1 q.2
noncomputable def laws_szStringS_l0 (a : List ByteArray) (n : Nat) (left : Int) (i : Int) (k0 : Int → Res) (k1 : Unit → Res) : Res := iter (laws_szStringS_l0_s a) n (left, i) (k0, k1)
noncomputable def xlaws_szStringS_l0 : Node Unit := fun σ k => rdN σ 28 <| rdV σ 0 y0 false [.S] fun a => rdV σ 1 (.int .i64) false [] fun left => rdV σ 5 (.int .i64) false [] fun i => laws_szStringS_l0 a FUEL left i (fun (left1 : Int) => k (.exit 0) (mkS 28 28 [(1, .val ⟨(.int .i64), false, left1, []⟩)] [])) (fun (_ : Unit) => k .ret (mkS 28 28 [(4, .val ⟨(.int .i64), false, (-1), []⟩)] []))
theorem elaws_szStringS_l0 (a : List ByteArray) (n : Nat) (v : Int × Int) (k : Kont Unit) : loopC (codeC g_laws_szStringS [] .o (Code.pl (Code.pl (Code.pr (Code.pl (Code.pr (Code.pr (Code.pr c_laws_szStringS)))))))) (fun σ => σ.forget [0, 1, 5] []) (cutC ([], []) [(0, [1], [])] ([4], [])) n (mkS 28 28 [(0, .val ⟨y0, false, a, [.S]⟩), (1, .val ⟨(.int .i64), false, v.1, []⟩), (5, .val ⟨(.int .i64), false, v.2, []⟩)] []) k = iter (laws_szStringS_l0_s a) n v ((fun (k : Kont Unit) => (((fun (left1 : Int) => k (.exit 0) (mkS 28 28 [(1, .val ⟨(.int .i64), false, left1, []⟩)] [])), (fun (_ : Unit) => k .ret (mkS 28 28 [(4, .val ⟨(.int .i64), false, (-1), []⟩)] []))) : (Int → Res) × (Unit → Res))) k) := loop_eq (fun v : Int × Int => (mkS 28 28 [(0, .val ⟨y0, false, a, [.S]⟩), (1, .val ⟨(.int .i64), false, v.1, []⟩), (5, .val ⟨(.int .i64), false, v.2, []⟩)] [])) (laws_szStringS_l0_s a) (fun (k : Kont Unit) => (((fun (left1 : Int) => k (.exit 0) (mkS 28 28 [(1, .val ⟨(.int .i64), false, left1, []⟩)] [])), (fun (_ : Unit) => k .ret (mkS 28 28 [(4, .val ⟨(.int .i64), false, (-1), []⟩)] []))) : (Int → Res) × (Unit → Res))) (fun v rec k => by kernel_rfl) n v k
theorem olaws_szStringS_l0 {W0 : Base} {M : Nat → Prop} (hnp : W0.np ≤ 0) : CodeOk Try.prog W0 M (Code.pl (Code.pr (Code.pl (Code.pr (Code.pr (Code.pr c_laws_szStringS)))))) xlaws_szStringS_l0 := show CodeOk Try.prog W0 M (Code.loop (Code.pl (Code.pl (Code.pr (Code.pl (Code.pr (Code.pr (Code.pr c_laws_szStringS)))))))) xlaws_szStringS_l0 from loop_ok (code_sound follows tysOk (calls_ok fns_nil) hnp [] (Code.pl (Code.pl (Code.pr (Code.pl (Code.pr (Code.pr (Code.pr c_laws_szStringS))))))) .o trivial) (ks := [0, 1, 5]) (bs := []) (fX := (cutC ([], []) [(0, [1], [])] ([4], []))) (cutC_le _ _ _) FUEL (by
  intro σ k r h
  obtain ⟨hn, h1⟩ := rdN_some h
  obtain ⟨a, hs0, h2⟩ := rdV_some h1
  obtain ⟨left, hs1, h3⟩ := rdV_some h2
  obtain ⟨i, hs5, h4⟩ := rdV_some h3
  refine ⟨_, ?_, (elaws_szStringS_l0 a FUEL (left, i) k).trans h4⟩
  exact mkS_le hn ⟨hs0, hs1, hs5, trivial⟩ trivial)
noncomputable def laws_szStringS (a : List ByteArray) (left : Int) (k0 : Int → Res) : Res :=
  bif decide ((wi64 (left - (nI (List.length a)))) < 0) then
    k0 (-1)
  else
    laws_szStringS_l0 a FUEL (wi64 (left - (nI (List.length a)))) 0
      (fun (left1 : Int) =>
        k0 left1)
      (fun (_ : Unit) =>
        k0 (-1))
noncomputable def s_laws_szStringS : Sig Unit := ⟨[.look y0 false, .look (.int .i64) false], [false], fun vals ext k => av vals y0 fun a vals => av vals (.int .i64) fun left vals => nl vals <| nl ext <| laws_szStringS a left (fun (r0 : Int) => k [⟨(.int .i64), false, r0, []⟩] [] [])⟩
theorem E_laws_szStringS (a : List ByteArray) (a_a : Bool) (t_a : List Tag) (left : Int) (a_left : Bool) (t_left : List Tag) (k : List TVal → List TVal → List TVal → Res) : funC g_laws_szStringS [xlaws_szStringS_l0] (.t .o (.t .o (.t .o (.t (.t .o (.t (.x 0) .o)) .o)))) false Try.f66 [.look y0 false, .look (.int .i64) false] [false] [⟨y0, a_a, a, t_a⟩, ⟨(.int .i64), a_left, left, t_left⟩] [] k = laws_szStringS a left (fun (r0 : Int) => k [⟨(.int .i64), false, r0, []⟩] [] []) := by kernel_rfl
theorem S_laws_szStringS : Sound Try.prog 66 s_laws_szStringS := sound_of (Γ := g_laws_szStringS) (X := [xlaws_szStringS_l0]) (ht := (.t .o (.t .o (.t .o (.t (.t .o (.t (.x 0) .o)) .o))))) (fz := false) (c := c_laws_szStringS) follows tysOk fns_nil (OrOk.mk trivial ((OrOk.mk trivial ((OrOk.mk trivial ((OrOk.mk ((OrOk.mk trivial ((OrOk.mk (OrOk.x_mk (fun W0 M hnp => olaws_szStringS_l0 (W0 := W0) (M := M) hnp)) trivial)))) trivial))))))) Try.func66 (by kernel_rfl) (by kernel_rfl) (by decide) (by
  intro vals ext k r h
  obtain ⟨a, a_a, t_a, vals, rfl, h1⟩ := av_some h
  obtain ⟨left, a_left, t_left, vals, rfl, h2⟩ := av_some h1
  obtain ⟨rfl, h3⟩ := nl_some h2
  obtain ⟨rfl, h4⟩ := nl_some h3
  exact (E_laws_szStringS a a_a t_a left a_left t_left k).trans h4)

/-! ### 71 loop.example/g00462/laws.toStringS -/
noncomputable def c_laws_toStringS : Code := (Try.f71.body).getD .skip
noncomputable def g_laws_toStringS : Env Unit := ⟨tys, [], 0⟩
noncomputable def laws_toStringS_l0_r (a : List ByteArray) (out : List ByteArray) (i : Int) (rec : (List ByteArray) → Int → Res) (k0 : (List ByteArray) → Res) : Res :=
  bif decide (i < (nI (List.length a))) then
    bif inb i (List.length a) then
      bif inb i (List.length out) then
        rec (upd out i (nth eS a i)) (wi64 (i + 1))
      else none
    else none
  else
    k0 out
noncomputable def laws_toStringS_l0_s (a : List ByteArray) : ((List ByteArray) × Int) → ((List ByteArray) × Int → Res) → (((List ByteArray) → Res)) → Res := fun v rec q => laws_toStringS_l0_r a v.1 v.2 (fun out i => rec (out, i)) q
noncomputable def laws_toStringS_l0 (a : List ByteArray) (n : Nat) (out : List ByteArray) (i : Int) (k0 : (List ByteArray) → Res) : Res := iter (laws_toStringS_l0_s a) n (out, i) (k0)
noncomputable def xlaws_toStringS_l0 : Node Unit := fun σ k => rdN σ 22 <| rdV σ 0 y0 false [.S] fun a => rdV σ 3 y0 false [.O] fun out => rdV σ 4 (.int .i64) false [] fun i => laws_toStringS_l0 a FUEL out i (fun (out1 : List ByteArray) => k (.exit 0) (mkS 22 22 [(3, .val ⟨y0, false, out1, [.O]⟩)] []))
theorem elaws_toStringS_l0 (a : List ByteArray) (n : Nat) (v : (List ByteArray) × Int) (k : Kont Unit) : loopC (codeC g_laws_toStringS [] .o (Code.pl (Code.pl (Code.pr (Code.pl (Code.pr (Code.pr c_laws_toStringS))))))) (fun σ => σ.forget [0, 3, 4] []) (cutC ([], []) [(0, [3], [])] ([], [])) n (mkS 22 22 [(0, .val ⟨y0, false, a, [.S]⟩), (3, .val ⟨y0, false, v.1, [.O]⟩), (4, .val ⟨(.int .i64), false, v.2, []⟩)] []) k = iter (laws_toStringS_l0_s a) n v ((fun (k : Kont Unit) => (((fun (out1 : List ByteArray) => k (.exit 0) (mkS 22 22 [(3, .val ⟨y0, false, out1, [.O]⟩)] []))) : ((List ByteArray) → Res))) k) := loop_eq (fun v : (List ByteArray) × Int => (mkS 22 22 [(0, .val ⟨y0, false, a, [.S]⟩), (3, .val ⟨y0, false, v.1, [.O]⟩), (4, .val ⟨(.int .i64), false, v.2, []⟩)] [])) (laws_toStringS_l0_s a) (fun (k : Kont Unit) => (((fun (out1 : List ByteArray) => k (.exit 0) (mkS 22 22 [(3, .val ⟨y0, false, out1, [.O]⟩)] []))) : ((List ByteArray) → Res))) (fun v rec k => by kernel_rfl) n v k
theorem olaws_toStringS_l0 {W0 : Base} {M : Nat → Prop} (hnp : W0.np ≤ 0) : CodeOk Try.prog W0 M (Code.pl (Code.pr (Code.pl (Code.pr (Code.pr c_laws_toStringS))))) xlaws_toStringS_l0 := show CodeOk Try.prog W0 M (Code.loop (Code.pl (Code.pl (Code.pr (Code.pl (Code.pr (Code.pr c_laws_toStringS))))))) xlaws_toStringS_l0 from loop_ok (code_sound follows tysOk (calls_ok fns_nil) hnp [] (Code.pl (Code.pl (Code.pr (Code.pl (Code.pr (Code.pr c_laws_toStringS)))))) .o trivial) (ks := [0, 3, 4]) (bs := []) (fX := (cutC ([], []) [(0, [3], [])] ([], []))) (cutC_le _ _ _) FUEL (by
  intro σ k r h
  obtain ⟨hn, h1⟩ := rdN_some h
  obtain ⟨a, hs0, h2⟩ := rdV_some h1
  obtain ⟨out, hs3, h3⟩ := rdV_some h2
  obtain ⟨i, hs4, h4⟩ := rdV_some h3
  refine ⟨_, ?_, (elaws_toStringS_l0 a FUEL (out, i) k).trans h4⟩
  exact mkS_le hn ⟨hs0, hs3, hs4, trivial⟩ trivial)
noncomputable def laws_toStringS (a : List ByteArray) (k0 : (List ByteArray) → Res) : Res :=
  bif mkOk (nI (List.length a)) (nI (List.length a)) then
    laws_toStringS_l0 a FUEL (repl (nI (List.length a)) eS) 0 fun (out : List ByteArray) =>
      k0 out
  else none
noncomputable def s_laws_toStringS : Sig Unit := ⟨[.borrow y0 false], [false], fun vals ext k => av vals y0 fun a vals => nl vals <| nl ext <| laws_toStringS a (fun (r0 : List ByteArray) => k [⟨y0, false, r0, [.O]⟩] [] [])⟩
theorem E_laws_toStringS (a : List ByteArray) (a_a : Bool) (t_a : List Tag) (k : List TVal → List TVal → List TVal → Res) : funC g_laws_toStringS [xlaws_toStringS_l0] (.t .o (.t .o (.t (.t .o (.t (.x 0) .o)) .o))) false Try.f71 [.borrow y0 false] [false] [⟨y0, a_a, a, t_a⟩] [] k = laws_toStringS a (fun (r0 : List ByteArray) => k [⟨y0, false, r0, [.O]⟩] [] []) := by kernel_rfl
theorem S_laws_toStringS : Sound Try.prog 71 s_laws_toStringS := sound_of (Γ := g_laws_toStringS) (X := [xlaws_toStringS_l0]) (ht := (.t .o (.t .o (.t (.t .o (.t (.x 0) .o)) .o)))) (fz := false) (c := c_laws_toStringS) follows tysOk fns_nil (OrOk.mk trivial ((OrOk.mk trivial ((OrOk.mk ((OrOk.mk trivial ((OrOk.mk (OrOk.x_mk (fun W0 M hnp => olaws_toStringS_l0 (W0 := W0) (M := M) hnp)) trivial)))) trivial))))) Try.func71 (by kernel_rfl) (by kernel_rfl) (by decide) (by
  intro vals ext k r h
  obtain ⟨a, a_a, t_a, vals, rfl, h1⟩ := av_some h
  obtain ⟨rfl, h2⟩ := nl_some h1
  obtain ⟨rfl, h3⟩ := nl_some h2
  exact (E_laws_toStringS a a_a t_a k).trans h3)

/-! ### 77 loop.example/g00462/laws.eqStringS -/
noncomputable def c_laws_eqStringS : Code := (Try.f77.body).getD .skip
noncomputable def g_laws_eqStringS : Env Unit := ⟨tys, [], 0⟩
noncomputable def laws_eqStringS_l0_r (a : List ByteArray) (b : List ByteArray) (i : Int) (rec : Int → Res) (k0 : Unit → Res) (k1 : Unit → Res) : Res :=
  bif decide (i < (nI (List.length a))) then
    bif inb i (List.length a) then
      bif inb i (List.length b) then
        bif sNe (nth eS a i) (nth eS b i) then
          k1 ()
        else
          rec (wi64 (i + 1))
      else none
    else none
  else
    k0 ()
noncomputable def laws_eqStringS_l0_s (a : List ByteArray) (b : List ByteArray) : Int → (Int → Res) → ((Unit → Res) × (Unit → Res)) → Res := fun v rec q => laws_eqStringS_l0_r a b v (fun i => rec (i)) q.1 q.2
noncomputable def laws_eqStringS_l0 (a : List ByteArray) (b : List ByteArray) (n : Nat) (i : Int) (k0 : Unit → Res) (k1 : Unit → Res) : Res := iter (laws_eqStringS_l0_s a b) n (i) (k0, k1)
noncomputable def xlaws_eqStringS_l0 : Node Unit := fun σ k => rdN σ 26 <| rdV σ 0 y0 false [.S] fun a => rdV σ 1 y0 false [.S] fun b => rdV σ 5 (.int .i64) false [] fun i => laws_eqStringS_l0 a b FUEL i (fun (_ : Unit) => k (.exit 0) (mkS 26 26 [] [])) (fun (_ : Unit) => k .ret (mkS 26 26 [(4, .val ⟨.bool, false, false, []⟩)] []))
theorem elaws_eqStringS_l0 (a : List ByteArray) (b : List ByteArray) (n : Nat) (v : Int) (k : Kont Unit) : loopC (codeC g_laws_eqStringS [] .o (Code.pl (Code.pl (Code.pr (Code.pl (Code.pr (Code.pr c_laws_eqStringS))))))) (fun σ => σ.forget [0, 1, 5] []) (cutC ([], []) [(0, [], [])] ([4], [])) n (mkS 26 26 [(0, .val ⟨y0, false, a, [.S]⟩), (1, .val ⟨y0, false, b, [.S]⟩), (5, .val ⟨(.int .i64), false, v, []⟩)] []) k = iter (laws_eqStringS_l0_s a b) n v ((fun (k : Kont Unit) => (((fun (_ : Unit) => k (.exit 0) (mkS 26 26 [] [])), (fun (_ : Unit) => k .ret (mkS 26 26 [(4, .val ⟨.bool, false, false, []⟩)] []))) : (Unit → Res) × (Unit → Res))) k) := loop_eq (fun v : Int => (mkS 26 26 [(0, .val ⟨y0, false, a, [.S]⟩), (1, .val ⟨y0, false, b, [.S]⟩), (5, .val ⟨(.int .i64), false, v, []⟩)] [])) (laws_eqStringS_l0_s a b) (fun (k : Kont Unit) => (((fun (_ : Unit) => k (.exit 0) (mkS 26 26 [] [])), (fun (_ : Unit) => k .ret (mkS 26 26 [(4, .val ⟨.bool, false, false, []⟩)] []))) : (Unit → Res) × (Unit → Res))) (fun v rec k => by kernel_rfl) n v k
theorem olaws_eqStringS_l0 {W0 : Base} {M : Nat → Prop} (hnp : W0.np ≤ 0) : CodeOk Try.prog W0 M (Code.pl (Code.pr (Code.pl (Code.pr (Code.pr c_laws_eqStringS))))) xlaws_eqStringS_l0 := show CodeOk Try.prog W0 M (Code.loop (Code.pl (Code.pl (Code.pr (Code.pl (Code.pr (Code.pr c_laws_eqStringS))))))) xlaws_eqStringS_l0 from loop_ok (code_sound follows tysOk (calls_ok fns_nil) hnp [] (Code.pl (Code.pl (Code.pr (Code.pl (Code.pr (Code.pr c_laws_eqStringS)))))) .o trivial) (ks := [0, 1, 5]) (bs := []) (fX := (cutC ([], []) [(0, [], [])] ([4], []))) (cutC_le _ _ _) FUEL (by
  intro σ k r h
  obtain ⟨hn, h1⟩ := rdN_some h
  obtain ⟨a, hs0, h2⟩ := rdV_some h1
  obtain ⟨b, hs1, h3⟩ := rdV_some h2
  obtain ⟨i, hs5, h4⟩ := rdV_some h3
  refine ⟨_, ?_, (elaws_eqStringS_l0 a b FUEL (i) k).trans h4⟩
  exact mkS_le hn ⟨hs0, hs1, hs5, trivial⟩ trivial)
noncomputable def laws_eqStringS (a : List ByteArray) (b : List ByteArray) (k0 : Bool → Res) : Res :=
  bif ((nI (List.length a)) != (nI (List.length b))) then
    k0 false
  else
    laws_eqStringS_l0 a b FUEL 0
      (fun (_ : Unit) =>
        k0 true)
      (fun (_ : Unit) =>
        k0 false)
noncomputable def s_laws_eqStringS : Sig Unit := ⟨[.look y0 false, .look y0 false], [false], fun vals ext k => av vals y0 fun a vals => av vals y0 fun b vals => nl vals <| nl ext <| laws_eqStringS a b (fun (r0 : Bool) => k [⟨.bool, false, r0, []⟩] [] [])⟩
theorem E_laws_eqStringS (a : List ByteArray) (a_a : Bool) (t_a : List Tag) (b : List ByteArray) (a_b : Bool) (t_b : List Tag) (k : List TVal → List TVal → List TVal → Res) : funC g_laws_eqStringS [xlaws_eqStringS_l0] (.t .o (.t .o (.t (.t .o (.t (.x 0) .o)) .o))) false Try.f77 [.look y0 false, .look y0 false] [false] [⟨y0, a_a, a, t_a⟩, ⟨y0, a_b, b, t_b⟩] [] k = laws_eqStringS a b (fun (r0 : Bool) => k [⟨.bool, false, r0, []⟩] [] []) := by kernel_rfl
theorem S_laws_eqStringS : Sound Try.prog 77 s_laws_eqStringS := sound_of (Γ := g_laws_eqStringS) (X := [xlaws_eqStringS_l0]) (ht := (.t .o (.t .o (.t (.t .o (.t (.x 0) .o)) .o)))) (fz := false) (c := c_laws_eqStringS) follows tysOk fns_nil (OrOk.mk trivial ((OrOk.mk trivial ((OrOk.mk ((OrOk.mk trivial ((OrOk.mk (OrOk.x_mk (fun W0 M hnp => olaws_eqStringS_l0 (W0 := W0) (M := M) hnp)) trivial)))) trivial))))) Try.func77 (by kernel_rfl) (by kernel_rfl) (by decide) (by
  intro vals ext k r h
  obtain ⟨a, a_a, t_a, vals, rfl, h1⟩ := av_some h
  obtain ⟨b, a_b, t_b, vals, rfl, h2⟩ := av_some h1
  obtain ⟨rfl, h3⟩ := nl_some h2
  obtain ⟨rfl, h4⟩ := nl_some h3
  exact (E_laws_eqStringS a a_a t_a b a_b t_b k).trans h4)

/-! ### 78 loop.example/g00462/laws.markStringS -/
noncomputable def c_laws_markStringS : Code := (Try.f78.body).getD .skip
noncomputable def g_laws_markStringS : Env Unit := ⟨tys, [(112, s_laws_markText)], 1⟩
noncomputable def laws_markStringS_l0_r (a : List ByteArray) (k_ : Int) (i : Int) (rec : (List ByteArray) → Int → Int → Res) (k0 : (List ByteArray) → Int → Res) : Res :=
  bif decide (i < (nI (List.length a))) then
    laws_markText k_ fun (r : ByteArray) =>
      bif inb i (List.length a) then
        rec (upd a i r) (wi64 (k_ + 1)) (wi64 (i + 1))
      else none
  else
    k0 a k_
noncomputable def laws_markStringS_l0_s : ((List ByteArray) × Int × Int) → ((List ByteArray) × Int × Int → Res) → (((List ByteArray) → Int → Res)) → Res := fun v rec q => laws_markStringS_l0_r v.1 v.2.1 v.2.2 (fun a k_ i => rec (a, k_, i)) q
noncomputable def laws_markStringS_l0 (n : Nat) (a : List ByteArray) (k_ : Int) (i : Int) (k0 : (List ByteArray) → Int → Res) : Res := iter (laws_markStringS_l0_s) n (a, k_, i) (k0)
noncomputable def xlaws_markStringS_l0 : Node Unit := fun σ k => rdN σ 20 <| rdV σ 0 y0 false [.O] fun a => rdV σ 1 (.int .i64) false [] fun k_ => rdV σ 5 (.int .i64) false [] fun i => laws_markStringS_l0 FUEL a k_ i (fun (a1 : List ByteArray) (k_1 : Int) => k (.exit 0) (mkS 20 20 [(0, .val ⟨y0, false, a1, [.O]⟩), (1, .val ⟨(.int .i64), false, k_1, []⟩)] []))
theorem elaws_markStringS_l0  (n : Nat) (v : (List ByteArray) × Int × Int) (k : Kont Unit) : loopC (codeC g_laws_markStringS [] .o (Code.pl (Code.pl (Code.pr (Code.pl (Code.pr c_laws_markStringS)))))) (fun σ => σ.forget [0, 1, 5] []) (cutC ([], []) [(0, [0, 1], [])] ([], [])) n (mkS 20 20 [(0, .val ⟨y0, false, v.1, [.O]⟩), (1, .val ⟨(.int .i64), false, v.2.1, []⟩), (5, .val ⟨(.int .i64), false, v.2.2, []⟩)] []) k = iter (laws_markStringS_l0_s) n v ((fun (k : Kont Unit) => (((fun (a1 : List ByteArray) (k_1 : Int) => k (.exit 0) (mkS 20 20 [(0, .val ⟨y0, false, a1, [.O]⟩), (1, .val ⟨(.int .i64), false, k_1, []⟩)] []))) : ((List ByteArray) → Int → Res))) k) := loop_eq (fun v : (List ByteArray) × Int × Int => (mkS 20 20 [(0, .val ⟨y0, false, v.1, [.O]⟩), (1, .val ⟨(.int .i64), false, v.2.1, []⟩), (5, .val ⟨(.int .i64), false, v.2.2, []⟩)] [])) (laws_markStringS_l0_s) (fun (k : Kont Unit) => (((fun (a1 : List ByteArray) (k_1 : Int) => k (.exit 0) (mkS 20 20 [(0, .val ⟨y0, false, a1, [.O]⟩), (1, .val ⟨(.int .i64), false, k_1, []⟩)] []))) : ((List ByteArray) → Int → Res))) (fun v rec k => by kernel_rfl) n v k
theorem olaws_markStringS_l0 {W0 : Base} {M : Nat → Prop} (hnp : W0.np ≤ 1) : CodeOk Try.prog W0 M (Code.pl (Code.pr (Code.pl (Code.pr c_laws_markStringS)))) xlaws_markStringS_l0 := show CodeOk Try.prog W0 M (Code.loop (Code.pl (Code.pl (Code.pr (Code.pl (Code.pr c_laws_markStringS)))))) xlaws_markStringS_l0 from loop_ok (code_sound follows tysOk (calls_ok (fns_cons S_laws_markText fns_nil)) hnp [] (Code.pl (Code.pl (Code.pr (Code.pl (Code.pr c_laws_markStringS))))) .o trivial) (ks := [0, 1, 5]) (bs := []) (fX := (cutC ([], []) [(0, [0, 1], [])] ([], []))) (cutC_le _ _ _) FUEL (by
  intro σ k r h
  obtain ⟨hn, h1⟩ := rdN_some h
  obtain ⟨a, hs0, h2⟩ := rdV_some h1
  obtain ⟨k_, hs1, h3⟩ := rdV_some h2
  obtain ⟨i, hs5, h4⟩ := rdV_some h3
  refine ⟨_, ?_, (elaws_markStringS_l0  FUEL (a, k_, i) k).trans h4⟩
  exact mkS_le hn ⟨hs0, hs1, hs5, trivial⟩ trivial)
noncomputable def laws_markStringS (a : List ByteArray) (k_ : Int) (k0 : Int → (List ByteArray) → Res) : Res :=
  laws_markStringS_l0 FUEL a k_ 0 fun (a1 : List ByteArray) (k_1 : Int) =>
    k0 k_1 a1
noncomputable def s_laws_markStringS : Sig Unit := ⟨[.inout y0 false, .borrow (.int .i64) false], [false], fun vals ext k => ao vals y0 [.O] fun a vals => av vals (.int .i64) fun k_ vals => nl vals <| nl ext <| laws_markStringS a k_ (fun (r0 : Int) (i0 : List ByteArray) => k [⟨(.int .i64), false, r0, []⟩] [⟨y0, false, i0, [.O]⟩] [])⟩
theorem E_laws_markStringS (a_a : Bool) (a : List ByteArray) (k_ : Int) (a_k_ : Bool) (t_k_ : List Tag) (k : List TVal → List TVal → List TVal → Res) : funC g_laws_markStringS [xlaws_markStringS_l0] (.t .o (.t (.t .o (.t (.x 0) .o)) .o)) false Try.f78 [.inout y0 false, .borrow (.int .i64) false] [false] [⟨y0, a_a, a, [.O]⟩, ⟨(.int .i64), a_k_, k_, t_k_⟩] [] k = laws_markStringS a k_ (fun (r0 : Int) (i0 : List ByteArray) => k [⟨(.int .i64), false, r0, []⟩] [⟨y0, false, i0, [.O]⟩] []) := by kernel_rfl
theorem S_laws_markStringS : Sound Try.prog 78 s_laws_markStringS := sound_of (Γ := g_laws_markStringS) (X := [xlaws_markStringS_l0]) (ht := (.t .o (.t (.t .o (.t (.x 0) .o)) .o))) (fz := false) (c := c_laws_markStringS) follows tysOk (fns_cons S_laws_markText fns_nil) (OrOk.mk trivial ((OrOk.mk ((OrOk.mk trivial ((OrOk.mk (OrOk.x_mk (fun W0 M hnp => olaws_markStringS_l0 (W0 := W0) (M := M) hnp)) trivial)))) trivial))) Try.func78 (by kernel_rfl) (by kernel_rfl) (by decide) (by
  intro vals ext k r h
  obtain ⟨a_a, a, vals, rfl, h1⟩ := ao_some h
  obtain ⟨k_, a_k_, t_k_, vals, rfl, h2⟩ := av_some h1
  obtain ⟨rfl, h3⟩ := nl_some h2
  obtain ⟨rfl, h4⟩ := nl_some h3
  exact (E_laws_markStringS a_a a k_ a_k_ t_k_ k).trans h4)

/-! ### 79 loop.example/g00462/laws.heldStringS -/
noncomputable def c_laws_heldStringS : Code := (Try.f79.body).getD .skip
noncomputable def g_laws_heldStringS : Env Unit := ⟨tys, [(112, s_laws_markText)], 0⟩
noncomputable def laws_heldStringS_l0_r (a : List ByteArray) (k_ : Int) (i : Int) (rec : Int → Int → Res) (k0 : Int → Res) (k1 : Unit → Res) : Res :=
  bif decide (i < (nI (List.length a))) then
    bif inb i (List.length a) then
      laws_markText k_ fun (r : ByteArray) =>
        bif sNe (nth eS a i) r then
          k1 ()
        else
          rec (wi64 (k_ + 1)) (wi64 (i + 1))
    else none
  else
    k0 k_
noncomputable def laws_heldStringS_l0_s (a : List ByteArray) : (Int × Int) → (Int × Int → Res) → ((Int → Res) × (Unit → Res)) → Res := fun v rec q => laws_heldStringS_l0_r a v.1 v.2 (fun k_ i => rec (k_, i)) q.1 q.2
noncomputable def laws_heldStringS_l0 (a : List ByteArray) (n : Nat) (k_ : Int) (i : Int) (k0 : Int → Res) (k1 : Unit → Res) : Res := iter (laws_heldStringS_l0_s a) n (k_, i) (k0, k1)
noncomputable def xlaws_heldStringS_l0 : Node Unit := fun σ k => rdN σ 22 <| rdV σ 0 y0 false [.S] fun a => rdV σ 1 (.int .i64) false [] fun k_ => rdV σ 5 (.int .i64) false [] fun i => laws_heldStringS_l0 a FUEL k_ i (fun (k_1 : Int) => k (.exit 0) (mkS 22 22 [(1, .val ⟨(.int .i64), false, k_1, []⟩)] [])) (fun (_ : Unit) => k .ret (mkS 22 22 [(4, .val ⟨(.int .i64), false, (-1), []⟩)] []))
theorem elaws_heldStringS_l0 (a : List ByteArray) (n : Nat) (v : Int × Int) (k : Kont Unit) : loopC (codeC g_laws_heldStringS [] .o (Code.pl (Code.pl (Code.pr (Code.pl (Code.pr c_laws_heldStringS)))))) (fun σ => σ.forget [0, 1, 5] []) (cutC ([], []) [(0, [1], [])] ([4], [])) n (mkS 22 22 [(0, .val ⟨y0, false, a, [.S]⟩), (1, .val ⟨(.int .i64), false, v.1, []⟩), (5, .val ⟨(.int .i64), false, v.2, []⟩)] []) k = iter (laws_heldStringS_l0_s a) n v ((fun (k : Kont Unit) => (((fun (k_1 : Int) => k (.exit 0) (mkS 22 22 [(1, .val ⟨(.int .i64), false, k_1, []⟩)] [])), (fun (_ : Unit) => k .ret (mkS 22 22 [(4, .val ⟨(.int .i64), false, (-1), []⟩)] []))) : (Int → Res) × (Unit → Res))) k) := loop_eq (fun v : Int × Int => (mkS 22 22 [(0, .val ⟨y0, false, a, [.S]⟩), (1, .val ⟨(.int .i64), false, v.1, []⟩), (5, .val ⟨(.int .i64), false, v.2, []⟩)] [])) (laws_heldStringS_l0_s a) (fun (k : Kont Unit) => (((fun (k_1 : Int) => k (.exit 0) (mkS 22 22 [(1, .val ⟨(.int .i64), false, k_1, []⟩)] [])), (fun (_ : Unit) => k .ret (mkS 22 22 [(4, .val ⟨(.int .i64), false, (-1), []⟩)] []))) : (Int → Res) × (Unit → Res))) (fun v rec k => by kernel_rfl) n v k
theorem olaws_heldStringS_l0 {W0 : Base} {M : Nat → Prop} (hnp : W0.np ≤ 0) : CodeOk Try.prog W0 M (Code.pl (Code.pr (Code.pl (Code.pr c_laws_heldStringS)))) xlaws_heldStringS_l0 := show CodeOk Try.prog W0 M (Code.loop (Code.pl (Code.pl (Code.pr (Code.pl (Code.pr c_laws_heldStringS)))))) xlaws_heldStringS_l0 from loop_ok (code_sound follows tysOk (calls_ok (fns_cons S_laws_markText fns_nil)) hnp [] (Code.pl (Code.pl (Code.pr (Code.pl (Code.pr c_laws_heldStringS))))) .o trivial) (ks := [0, 1, 5]) (bs := []) (fX := (cutC ([], []) [(0, [1], [])] ([4], []))) (cutC_le _ _ _) FUEL (by
  intro σ k r h
  obtain ⟨hn, h1⟩ := rdN_some h
  obtain ⟨a, hs0, h2⟩ := rdV_some h1
  obtain ⟨k_, hs1, h3⟩ := rdV_some h2
  obtain ⟨i, hs5, h4⟩ := rdV_some h3
  refine ⟨_, ?_, (elaws_heldStringS_l0 a FUEL (k_, i) k).trans h4⟩
  exact mkS_le hn ⟨hs0, hs1, hs5, trivial⟩ trivial)
noncomputable def laws_heldStringS (a : List ByteArray) (k_ : Int) (k0 : Int → Res) : Res :=
  laws_heldStringS_l0 a FUEL k_ 0
    (fun (k_1 : Int) =>
      k0 k_1)
    (fun (_ : Unit) =>
      k0 (-1))
noncomputable def s_laws_heldStringS : Sig Unit := ⟨[.look y0 false, .look (.int .i64) false], [false], fun vals ext k => av vals y0 fun a vals => av vals (.int .i64) fun k_ vals => nl vals <| nl ext <| laws_heldStringS a k_ (fun (r0 : Int) => k [⟨(.int .i64), false, r0, []⟩] [] [])⟩
theorem E_laws_heldStringS (a : List ByteArray) (a_a : Bool) (t_a : List Tag) (k_ : Int) (a_k_ : Bool) (t_k_ : List Tag) (k : List TVal → List TVal → List TVal → Res) : funC g_laws_heldStringS [xlaws_heldStringS_l0] (.t .o (.t (.t .o (.t (.x 0) .o)) .o)) false Try.f79 [.look y0 false, .look (.int .i64) false] [false] [⟨y0, a_a, a, t_a⟩, ⟨(.int .i64), a_k_, k_, t_k_⟩] [] k = laws_heldStringS a k_ (fun (r0 : Int) => k [⟨(.int .i64), false, r0, []⟩] [] []) := by kernel_rfl
theorem S_laws_heldStringS : Sound Try.prog 79 s_laws_heldStringS := sound_of (Γ := g_laws_heldStringS) (X := [xlaws_heldStringS_l0]) (ht := (.t .o (.t (.t .o (.t (.x 0) .o)) .o))) (fz := false) (c := c_laws_heldStringS) follows tysOk (fns_cons S_laws_markText fns_nil) (OrOk.mk trivial ((OrOk.mk ((OrOk.mk trivial ((OrOk.mk (OrOk.x_mk (fun W0 M hnp => olaws_heldStringS_l0 (W0 := W0) (M := M) hnp)) trivial)))) trivial))) Try.func79 (by kernel_rfl) (by kernel_rfl) (by decide) (by
  intro vals ext k r h
  obtain ⟨a, a_a, t_a, vals, rfl, h1⟩ := av_some h
  obtain ⟨k_, a_k_, t_k_, vals, rfl, h2⟩ := av_some h1
  obtain ⟨rfl, h3⟩ := nl_some h2
  obtain ⟨rfl, h4⟩ := nl_some h3
  exact (E_laws_heldStringS a a_a t_a k_ a_k_ t_k_ k).trans h4)
end Go.PI.G
