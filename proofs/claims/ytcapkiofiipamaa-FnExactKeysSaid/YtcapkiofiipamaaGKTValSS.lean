/-
  Printed: what the functions compute. No conditions.
-/
import Derived.Test.YtcapkiofiipamaaGK0
import Derived.Test.YtcapkiofiipamaaGKTValS
set_option linter.unusedVariables false
set_option maxRecDepth 100000
namespace Go.PI.G
open Go Go.PI Go.Proofs

/-! ### 25 loop.example/g00462/laws.eqValSS -/
noncomputable def c_laws_eqValSS : Code := (Try.f25.body).getD .skip
noncomputable def g_laws_eqValSS : Env Unit := ⟨tys, [(94, s_laws_eqValS)], 0⟩
noncomputable def laws_eqValSS_l0_r (a : List (List (Int × Int × ByteArray))) (b : List (List (Int × Int × ByteArray))) (i : Int) (rec : Int → Res) (k0 : Unit → Res) (k1 : Unit → Res) : Res :=
  bif decide (i < (nI (List.length a))) then
    bif inb i (List.length a) then
      bif inb i (List.length b) then
        laws_eqValS (nth [] a i) (nth [] b i) fun (r : Bool) =>
          bif !r then
            k1 ()
          else
            rec (wi64 (i + 1))
      else none
    else none
  else
    k0 ()
noncomputable def laws_eqValSS_l0_s (a : List (List (Int × Int × ByteArray))) (b : List (List (Int × Int × ByteArray))) : Int → (Int → Res) → ((Unit → Res) × (Unit → Res)) → Res := fun v rec q => laws_eqValSS_l0_r a b v (fun i => rec (i)) q.1 q.2
noncomputable def laws_eqValSS_l0 (a : List (List (Int × Int × ByteArray))) (b : List (List (Int × Int × ByteArray))) (n : Nat) (i : Int) (k0 : Unit → Res) (k1 : Unit → Res) : Res := iter (laws_eqValSS_l0_s a b) n (i) (k0, k1)
noncomputable def xlaws_eqValSS_l0 : Node Unit := fun σ k => rdN σ 27 <| rdV σ 0 y12 false [.S] fun a => rdV σ 1 y12 false [.S] fun b => rdV σ 5 (.int .i64) false [] fun i => laws_eqValSS_l0 a b FUEL i (fun (_ : Unit) => k (.exit 0) (mkS 27 27 [] [])) (fun (_ : Unit) => k .ret (mkS 27 27 [(4, .val ⟨.bool, false, false, []⟩)] []))
theorem elaws_eqValSS_l0 (a : List (List (Int × Int × ByteArray))) (b : List (List (Int × Int × ByteArray))) (n : Nat) (v : Int) (k : Kont Unit) : loopC (codeC g_laws_eqValSS [] .o (Code.pl (Code.pl (Code.pr (Code.pl (Code.pr (Code.pr c_laws_eqValSS))))))) (fun σ => σ.forget [0, 1, 5] []) (cutC ([], []) [(0, [], [])] ([4], [])) n (mkS 27 27 [(0, .val ⟨y12, false, a, [.S]⟩), (1, .val ⟨y12, false, b, [.S]⟩), (5, .val ⟨(.int .i64), false, v, []⟩)] []) k = iter (laws_eqValSS_l0_s a b) n v ((fun (k : Kont Unit) => (((fun (_ : Unit) => k (.exit 0) (mkS 27 27 [] [])), (fun (_ : Unit) => k .ret (mkS 27 27 [(4, .val ⟨.bool, false, false, []⟩)] []))) : (Unit → Res) × (Unit → Res))) k) := loop_eq (fun v : Int => (mkS 27 27 [(0, .val ⟨y12, false, a, [.S]⟩), (1, .val ⟨y12, false, b, [.S]⟩), (5, .val ⟨(.int .i64), false, v, []⟩)] [])) (laws_eqValSS_l0_s a b) (fun (k : Kont Unit) => (((fun (_ : Unit) => k (.exit 0) (mkS 27 27 [] [])), (fun (_ : Unit) => k .ret (mkS 27 27 [(4, .val ⟨.bool, false, false, []⟩)] []))) : (Unit → Res) × (Unit → Res))) (fun v rec k => by kernel_rfl) n v k
theorem olaws_eqValSS_l0 {W0 : Base} {M : Nat → Prop} (hnp : W0.np ≤ 0) : CodeOk Try.prog W0 M (Code.pl (Code.pr (Code.pl (Code.pr (Code.pr c_laws_eqValSS))))) xlaws_eqValSS_l0 := show CodeOk Try.prog W0 M (Code.loop (Code.pl (Code.pl (Code.pr (Code.pl (Code.pr (Code.pr c_laws_eqValSS))))))) xlaws_eqValSS_l0 from loop_ok (code_sound follows tysOk (calls_ok (fns_cons S_laws_eqValS fns_nil)) hnp [] (Code.pl (Code.pl (Code.pr (Code.pl (Code.pr (Code.pr c_laws_eqValSS)))))) .o trivial) (ks := [0, 1, 5]) (bs := []) (fX := (cutC ([], []) [(0, [], [])] ([4], []))) (cutC_le _ _ _) FUEL (by
  intro σ k r h
  obtain ⟨hn, h1⟩ := rdN_some h
  obtain ⟨a, hs0, h2⟩ := rdV_some h1
  obtain ⟨b, hs1, h3⟩ := rdV_some h2
  obtain ⟨i, hs5, h4⟩ := rdV_some h3
  refine ⟨_, ?_, (elaws_eqValSS_l0 a b FUEL (i) k).trans h4⟩
  exact mkS_le hn ⟨hs0, hs1, hs5, trivial⟩ trivial)
noncomputable def laws_eqValSS (a : List (List (Int × Int × ByteArray))) (b : List (List (Int × Int × ByteArray))) (k0 : Bool → Res) : Res :=
  bif ((nI (List.length a)) != (nI (List.length b))) then
    k0 false
  else
    laws_eqValSS_l0 a b FUEL 0
      (fun (_ : Unit) =>
        k0 true)
      (fun (_ : Unit) =>
        k0 false)
noncomputable def s_laws_eqValSS : Sig Unit := ⟨[.look y12 false, .look y12 false], [false], fun vals ext k => av vals y12 fun a vals => av vals y12 fun b vals => nl vals <| nl ext <| laws_eqValSS a b (fun (r0 : Bool) => k [⟨.bool, false, r0, []⟩] [] [])⟩
theorem E_laws_eqValSS (a : List (List (Int × Int × ByteArray))) (a_a : Bool) (t_a : List Tag) (b : List (List (Int × Int × ByteArray))) (a_b : Bool) (t_b : List Tag) (k : List TVal → List TVal → List TVal → Res) : funC g_laws_eqValSS [xlaws_eqValSS_l0] (.t .o (.t .o (.t (.t .o (.t (.x 0) .o)) .o))) false Try.f25 [.look y12 false, .look y12 false] [false] [⟨y12, a_a, a, t_a⟩, ⟨y12, a_b, b, t_b⟩] [] k = laws_eqValSS a b (fun (r0 : Bool) => k [⟨.bool, false, r0, []⟩] [] []) := by kernel_rfl
theorem S_laws_eqValSS : Sound Try.prog 25 s_laws_eqValSS := sound_of (Γ := g_laws_eqValSS) (X := [xlaws_eqValSS_l0]) (ht := (.t .o (.t .o (.t (.t .o (.t (.x 0) .o)) .o)))) (fz := false) (c := c_laws_eqValSS) follows tysOk (fns_cons S_laws_eqValS fns_nil) (OrOk.mk trivial ((OrOk.mk trivial ((OrOk.mk ((OrOk.mk trivial ((OrOk.mk (OrOk.x_mk (fun W0 M hnp => olaws_eqValSS_l0 (W0 := W0) (M := M) hnp)) trivial)))) trivial))))) Try.func25 (by kernel_rfl) (by kernel_rfl) (by decide) (by
  intro vals ext k r h
  obtain ⟨a, a_a, t_a, vals, rfl, h1⟩ := av_some h
  obtain ⟨b, a_b, t_b, vals, rfl, h2⟩ := av_some h1
  obtain ⟨rfl, h3⟩ := nl_some h2
  obtain ⟨rfl, h4⟩ := nl_some h3
  exact (E_laws_eqValSS a a_a t_a b a_b t_b k).trans h4)

/-! ### 27 loop.example/g00462/laws.markValSS -/
noncomputable def c_laws_markValSS : Code := (Try.f27.body).getD .skip
noncomputable def g_laws_markValSS : Env Unit := ⟨tys, [(97, s_laws_markValS)], 1⟩
noncomputable def laws_markValSS_l0_r (a : List (List (Int × Int × ByteArray))) (k_ : Int) (i : Int) (rec : (List (List (Int × Int × ByteArray))) → Int → Int → Res) (k0 : (List (List (Int × Int × ByteArray))) → Int → Res) : Res :=
  bif decide (i < (nI (List.length a))) then
    bif inb i (List.length a) then
      laws_markValS (nth [] a i) k_ fun (r : Int) (a1 : List (Int × Int × ByteArray)) =>
        rec (upd a i a1) r (wi64 (i + 1))
    else none
  else
    k0 a k_
noncomputable def laws_markValSS_l0_s : ((List (List (Int × Int × ByteArray))) × Int × Int) → ((List (List (Int × Int × ByteArray))) × Int × Int → Res) → (((List (List (Int × Int × ByteArray))) → Int → Res)) → Res := fun v rec q => laws_markValSS_l0_r v.1 v.2.1 v.2.2 (fun a k_ i => rec (a, k_, i)) q
noncomputable def laws_markValSS_l0 (n : Nat) (a : List (List (Int × Int × ByteArray))) (k_ : Int) (i : Int) (k0 : (List (List (Int × Int × ByteArray))) → Int → Res) : Res := iter (laws_markValSS_l0_s) n (a, k_, i) (k0)
noncomputable def xlaws_markValSS_l0 : Node Unit := fun σ k => rdN σ 19 <| rdV σ 0 y12 false [.O] fun a => rdV σ 1 (.int .i64) false [] fun k_ => rdV σ 5 (.int .i64) false [] fun i => laws_markValSS_l0 FUEL a k_ i (fun (a2 : List (List (Int × Int × ByteArray))) (k_1 : Int) => k (.exit 0) (mkS 19 19 [(0, .val ⟨y12, false, a2, [.O]⟩), (1, .val ⟨(.int .i64), false, k_1, []⟩)] []))
theorem elaws_markValSS_l0  (n : Nat) (v : (List (List (Int × Int × ByteArray))) × Int × Int) (k : Kont Unit) : loopC (codeC g_laws_markValSS [] .o (Code.pl (Code.pl (Code.pr (Code.pl (Code.pr c_laws_markValSS)))))) (fun σ => σ.forget [0, 1, 5] []) (cutC ([], []) [(0, [0, 1], [])] ([], [])) n (mkS 19 19 [(0, .val ⟨y12, false, v.1, [.O]⟩), (1, .val ⟨(.int .i64), false, v.2.1, []⟩), (5, .val ⟨(.int .i64), false, v.2.2, []⟩)] []) k = iter (laws_markValSS_l0_s) n v ((fun (k : Kont Unit) => (((fun (a2 : List (List (Int × Int × ByteArray))) (k_1 : Int) => k (.exit 0) (mkS 19 19 [(0, .val ⟨y12, false, a2, [.O]⟩), (1, .val ⟨(.int .i64), false, k_1, []⟩)] []))) : ((List (List (Int × Int × ByteArray))) → Int → Res))) k) := loop_eq (fun v : (List (List (Int × Int × ByteArray))) × Int × Int => (mkS 19 19 [(0, .val ⟨y12, false, v.1, [.O]⟩), (1, .val ⟨(.int .i64), false, v.2.1, []⟩), (5, .val ⟨(.int .i64), false, v.2.2, []⟩)] [])) (laws_markValSS_l0_s) (fun (k : Kont Unit) => (((fun (a2 : List (List (Int × Int × ByteArray))) (k_1 : Int) => k (.exit 0) (mkS 19 19 [(0, .val ⟨y12, false, a2, [.O]⟩), (1, .val ⟨(.int .i64), false, k_1, []⟩)] []))) : ((List (List (Int × Int × ByteArray))) → Int → Res))) (fun v rec k => by kernel_rfl) n v k
theorem olaws_markValSS_l0 {W0 : Base} {M : Nat → Prop} (hnp : W0.np ≤ 1) : CodeOk Try.prog W0 M (Code.pl (Code.pr (Code.pl (Code.pr c_laws_markValSS)))) xlaws_markValSS_l0 := show CodeOk Try.prog W0 M (Code.loop (Code.pl (Code.pl (Code.pr (Code.pl (Code.pr c_laws_markValSS)))))) xlaws_markValSS_l0 from loop_ok (code_sound follows tysOk (calls_ok (fns_cons S_laws_markValS fns_nil)) hnp [] (Code.pl (Code.pl (Code.pr (Code.pl (Code.pr c_laws_markValSS))))) .o trivial) (ks := [0, 1, 5]) (bs := []) (fX := (cutC ([], []) [(0, [0, 1], [])] ([], []))) (cutC_le _ _ _) FUEL (by
  intro σ k r h
  obtain ⟨hn, h1⟩ := rdN_some h
  obtain ⟨a, hs0, h2⟩ := rdV_some h1
  obtain ⟨k_, hs1, h3⟩ := rdV_some h2
  obtain ⟨i, hs5, h4⟩ := rdV_some h3
  refine ⟨_, ?_, (elaws_markValSS_l0  FUEL (a, k_, i) k).trans h4⟩
  exact mkS_le hn ⟨hs0, hs1, hs5, trivial⟩ trivial)
noncomputable def laws_markValSS (a : List (List (Int × Int × ByteArray))) (k_ : Int) (k0 : Int → (List (List (Int × Int × ByteArray))) → Res) : Res :=
  laws_markValSS_l0 FUEL a k_ 0 fun (a1 : List (List (Int × Int × ByteArray))) (k_1 : Int) =>
    k0 k_1 a1
noncomputable def s_laws_markValSS : Sig Unit := ⟨[.inout y12 false, .borrow (.int .i64) false], [false], fun vals ext k => ao vals y12 [.O] fun a vals => av vals (.int .i64) fun k_ vals => nl vals <| nl ext <| laws_markValSS a k_ (fun (r0 : Int) (i0 : List (List (Int × Int × ByteArray))) => k [⟨(.int .i64), false, r0, []⟩] [⟨y12, false, i0, [.O]⟩] [])⟩
theorem E_laws_markValSS (a_a : Bool) (a : List (List (Int × Int × ByteArray))) (k_ : Int) (a_k_ : Bool) (t_k_ : List Tag) (k : List TVal → List TVal → List TVal → Res) : funC g_laws_markValSS [xlaws_markValSS_l0] (.t .o (.t (.t .o (.t (.x 0) .o)) .o)) false Try.f27 [.inout y12 false, .borrow (.int .i64) false] [false] [⟨y12, a_a, a, [.O]⟩, ⟨(.int .i64), a_k_, k_, t_k_⟩] [] k = laws_markValSS a k_ (fun (r0 : Int) (i0 : List (List (Int × Int × ByteArray))) => k [⟨(.int .i64), false, r0, []⟩] [⟨y12, false, i0, [.O]⟩] []) := by kernel_rfl
theorem S_laws_markValSS : Sound Try.prog 27 s_laws_markValSS := sound_of (Γ := g_laws_markValSS) (X := [xlaws_markValSS_l0]) (ht := (.t .o (.t (.t .o (.t (.x 0) .o)) .o))) (fz := false) (c := c_laws_markValSS) follows tysOk (fns_cons S_laws_markValS fns_nil) (OrOk.mk trivial ((OrOk.mk ((OrOk.mk trivial ((OrOk.mk (OrOk.x_mk (fun W0 M hnp => olaws_markValSS_l0 (W0 := W0) (M := M) hnp)) trivial)))) trivial))) Try.func27 (by kernel_rfl) (by kernel_rfl) (by decide) (by
  intro vals ext k r h
  obtain ⟨a_a, a, vals, rfl, h1⟩ := ao_some h
  obtain ⟨k_, a_k_, t_k_, vals, rfl, h2⟩ := av_some h1
  obtain ⟨rfl, h3⟩ := nl_some h2
  obtain ⟨rfl, h4⟩ := nl_some h3
  exact (E_laws_markValSS a_a a k_ a_k_ t_k_ k).trans h4)

/-! ### 28 loop.example/g00462/laws.heldValSS -/
noncomputable def c_laws_heldValSS : Code := (Try.f28.body).getD .skip
noncomputable def g_laws_heldValSS : Env Unit := ⟨tys, [(98, s_laws_heldValS)], 0⟩
noncomputable def laws_heldValSS_l0_r (a : List (List (Int × Int × ByteArray))) (k_ : Int) (i : Int) (rec : Int → Int → Res) (k0 : Int → Res) (k1 : Unit → Res) : Res :=
  bif decide (i < (nI (List.length a))) then
    bif inb i (List.length a) then
      laws_heldValS (nth [] a i) k_ fun (r : Int) =>
        bif decide (r < 0) then
          k1 ()
        else
          rec r (wi64 (i + 1))
    else none
  else
    k0 k_
noncomputable def laws_heldValSS_l0_s (a : List (List (Int × Int × ByteArray))) : (Int × Int) → (Int × Int → Res) → ((Int → Res) × (Unit → Res)) → Res := fun v rec q => laws_heldValSS_l0_r a v.1 v.2 (fun k_ i => rec (k_, i)) q.1 q.2
noncomputable def laws_heldValSS_l0 (a : List (List (Int × Int × ByteArray))) (n : Nat) (k_ : Int) (i : Int) (k0 : Int → Res) (k1 : Unit → Res) : Res := iter (laws_heldValSS_l0_s a) n (k_, i) (k0, k1)
noncomputable def xlaws_heldValSS_l0 : Node Unit := fun σ k => rdN σ 21 <| rdV σ 0 y12 false [.S] fun a => rdV σ 1 (.int .i64) false [] fun k_ => rdV σ 5 (.int .i64) false [] fun i => laws_heldValSS_l0 a FUEL k_ i (fun (k_1 : Int) => k (.exit 0) (mkS 21 21 [(1, .val ⟨(.int .i64), false, k_1, []⟩)] [])) (fun (_ : Unit) => k .ret (mkS 21 21 [(4, .val ⟨(.int .i64), false, (-1), []⟩)] []))
theorem elaws_heldValSS_l0 (a : List (List (Int × Int × ByteArray))) (n : Nat) (v : Int × Int) (k : Kont Unit) : loopC (codeC g_laws_heldValSS [] .o (Code.pl (Code.pl (Code.pr (Code.pl (Code.pr c_laws_heldValSS)))))) (fun σ => σ.forget [0, 1, 5] []) (cutC ([], []) [(0, [1], [])] ([4], [])) n (mkS 21 21 [(0, .val ⟨y12, false, a, [.S]⟩), (1, .val ⟨(.int .i64), false, v.1, []⟩), (5, .val ⟨(.int .i64), false, v.2, []⟩)] []) k = iter (laws_heldValSS_l0_s a) n v ((fun (k : Kont Unit) => (((fun (k_1 : Int) => k (.exit 0) (mkS 21 21 [(1, .val ⟨(.int .i64), false, k_1, []⟩)] [])), (fun (_ : Unit) => k .ret (mkS 21 21 [(4, .val ⟨(.int .i64), false, (-1), []⟩)] []))) : (Int → Res) × (Unit → Res))) k) := loop_eq (fun v : Int × Int => (mkS 21 21 [(0, .val ⟨y12, false, a, [.S]⟩), (1, .val ⟨(.int .i64), false, v.1, []⟩), (5, .val ⟨(.int .i64), false, v.2, []⟩)] [])) (laws_heldValSS_l0_s a) (fun (k : Kont Unit) => (((fun (k_1 : Int) => k (.exit 0) (mkS 21 21 [(1, .val ⟨(.int .i64), false, k_1, []⟩)] [])), (fun (_ : Unit) => k .ret (mkS 21 21 [(4, .val ⟨(.int .i64), false, (-1), []⟩)] []))) : (Int → Res) × (Unit → Res))) (fun v rec k => by kernel_rfl) n v k
theorem olaws_heldValSS_l0 {W0 : Base} {M : Nat → Prop} (hnp : W0.np ≤ 0) : CodeOk Try.prog W0 M (Code.pl (Code.pr (Code.pl (Code.pr c_laws_heldValSS)))) xlaws_heldValSS_l0 := show CodeOk Try.prog W0 M (Code.loop (Code.pl (Code.pl (Code.pr (Code.pl (Code.pr c_laws_heldValSS)))))) xlaws_heldValSS_l0 from loop_ok (code_sound follows tysOk (calls_ok (fns_cons S_laws_heldValS fns_nil)) hnp [] (Code.pl (Code.pl (Code.pr (Code.pl (Code.pr c_laws_heldValSS))))) .o trivial) (ks := [0, 1, 5]) (bs := []) (fX := (cutC ([], []) [(0, [1], [])] ([4], []))) (cutC_le _ _ _) FUEL (by
  intro σ k r h
  obtain ⟨hn, h1⟩ := rdN_some h
  obtain ⟨a, hs0, h2⟩ := rdV_some h1
  obtain ⟨k_, hs1, h3⟩ := rdV_some h2
  obtain ⟨i, hs5, h4⟩ := rdV_some h3
  refine ⟨_, ?_, (elaws_heldValSS_l0 a FUEL (k_, i) k).trans h4⟩
  exact mkS_le hn ⟨hs0, hs1, hs5, trivial⟩ trivial)
noncomputable def laws_heldValSS (a : List (List (Int × Int × ByteArray))) (k_ : Int) (k0 : Int → Res) : Res :=
  laws_heldValSS_l0 a FUEL k_ 0
    (fun (k_1 : Int) =>
      k0 k_1)
    (fun (_ : Unit) =>
      k0 (-1))
noncomputable def s_laws_heldValSS : Sig Unit := ⟨[.look y12 false, .look (.int .i64) false], [false], fun vals ext k => av vals y12 fun a vals => av vals (.int .i64) fun k_ vals => nl vals <| nl ext <| laws_heldValSS a k_ (fun (r0 : Int) => k [⟨(.int .i64), false, r0, []⟩] [] [])⟩
theorem E_laws_heldValSS (a : List (List (Int × Int × ByteArray))) (a_a : Bool) (t_a : List Tag) (k_ : Int) (a_k_ : Bool) (t_k_ : List Tag) (k : List TVal → List TVal → List TVal → Res) : funC g_laws_heldValSS [xlaws_heldValSS_l0] (.t .o (.t (.t .o (.t (.x 0) .o)) .o)) false Try.f28 [.look y12 false, .look (.int .i64) false] [false] [⟨y12, a_a, a, t_a⟩, ⟨(.int .i64), a_k_, k_, t_k_⟩] [] k = laws_heldValSS a k_ (fun (r0 : Int) => k [⟨(.int .i64), false, r0, []⟩] [] []) := by kernel_rfl
theorem S_laws_heldValSS : Sound Try.prog 28 s_laws_heldValSS := sound_of (Γ := g_laws_heldValSS) (X := [xlaws_heldValSS_l0]) (ht := (.t .o (.t (.t .o (.t (.x 0) .o)) .o))) (fz := false) (c := c_laws_heldValSS) follows tysOk (fns_cons S_laws_heldValS fns_nil) (OrOk.mk trivial ((OrOk.mk ((OrOk.mk trivial ((OrOk.mk (OrOk.x_mk (fun W0 M hnp => olaws_heldValSS_l0 (W0 := W0) (M := M) hnp)) trivial)))) trivial))) Try.func28 (by kernel_rfl) (by kernel_rfl) (by decide) (by
  intro vals ext k r h
  obtain ⟨a, a_a, t_a, vals, rfl, h1⟩ := av_some h
  obtain ⟨k_, a_k_, t_k_, vals, rfl, h2⟩ := av_some h1
  obtain ⟨rfl, h3⟩ := nl_some h2
  obtain ⟨rfl, h4⟩ := nl_some h3
  exact (E_laws_heldValSS a a_a t_a k_ a_k_ t_k_ k).trans h4)
end Go.PI.G
