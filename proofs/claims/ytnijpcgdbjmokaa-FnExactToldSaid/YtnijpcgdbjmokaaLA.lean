import Derived.Test.YtnijpcgdbjmokaaProg
import Derived.Test.YtnijpcgdbjmokaaPc
set_option linter.unusedVariables false
set_option maxRecDepth 100000
namespace Go.PI.LA
open Go Go.PI Go.Proofs
abbrev y0 : Ty := .slice (.int .u8)
abbrev y1 : Ty := .slice y0
abbrev y2 : Ty := .slice .str
def tys : List (TypeId × Ty × List TypeId) := [(3, (.int .i64), []),
  (4, .bool, []),
  (5, (.int .u8), []),
  (9, .str, []),
  (22, y1, []),
  (24, y1, [22]),
  (27, y1, []),
  (29, y1, [27]),
  (33, y2, []),
  (35, y2, [33]),
  (38, y2, [33]),
  (45, y0, []),
  (47, y0, [45]),
  (50, y0, [45])]
theorem follows : Try.prog.follows .mixedOrders = true := by kernel_rfl
theorem tysOk : TysOk Try.prog tys := tysB_ok (by kernel_rfl)

/-! ### 74 loop.example/g00462/laws.szByteS -/
noncomputable def c_laws_szByteS : Code := (Try.f74.body).getD .skip
noncomputable def g_laws_szByteS : Env Unit := ⟨tys, [], 0⟩
noncomputable def laws_szByteS (a : List Int) (left : Int) (k0 : Int → Res) : Res :=
  bif decide ((wi64 (left - (nI (List.length a)))) < 0) then
    k0 (-1)
  else
    k0 (wi64 (left - (nI (List.length a))))
noncomputable def s_laws_szByteS : Sig Unit := ⟨[.borrow y0 false, .borrow (.int .i64) false], [false], fun vals ext k => av vals y0 fun a vals => av vals (.int .i64) fun left vals => nl vals <| nl ext <| laws_szByteS a left (fun (r0 : Int) => k [⟨(.int .i64), false, r0, []⟩] [] [])⟩
theorem E_laws_szByteS (a : List Int) (a_a : Bool) (t_a : List Tag) (left : Int) (a_left : Bool) (t_left : List Tag) (k : List TVal → List TVal → List TVal → Res) : funC g_laws_szByteS [] .o false Try.f74 [.borrow y0 false, .borrow (.int .i64) false] [false] [⟨y0, a_a, a, t_a⟩, ⟨(.int .i64), a_left, left, t_left⟩] [] k = laws_szByteS a left (fun (r0 : Int) => k [⟨(.int .i64), false, r0, []⟩] [] []) := by kernel_rfl
theorem S_laws_szByteS : Sound Try.prog 74 s_laws_szByteS := sound_of (Γ := g_laws_szByteS) (X := []) (ht := .o) (fz := false) (c := c_laws_szByteS) follows tysOk fns_nil trivial Try.func74 (by kernel_rfl) (by kernel_rfl) (by decide) (by
  intro vals ext k r h
  obtain ⟨a, a_a, t_a, vals, rfl, h1⟩ := av_some h
  obtain ⟨left, a_left, t_left, vals, rfl, h2⟩ := av_some h1
  obtain ⟨rfl, h3⟩ := nl_some h2
  obtain ⟨rfl, h4⟩ := nl_some h3
  exact (E_laws_szByteS a a_a t_a left a_left t_left k).trans h4)

/-! ### 28 loop.example/g00462/laws.szPack -/
noncomputable def c_laws_szPack : Code := (Try.f28.body).getD .skip
noncomputable def g_laws_szPack : Env Unit := ⟨tys, [(74, s_laws_szByteS)], 0⟩
noncomputable def laws_szPack (a : List Int) (left : Int) (k0 : Int → Res) : Res :=
  laws_szByteS a left fun (r : Int) =>
    bif decide (r < 0) then
      k0 (-1)
    else
      k0 r
noncomputable def s_laws_szPack : Sig Unit := ⟨[.borrow y0 true, .borrow (.int .i64) false], [false], fun vals ext k => av vals y0 fun a vals => av vals (.int .i64) fun left vals => nl vals <| nl ext <| laws_szPack a left (fun (r0 : Int) => k [⟨(.int .i64), false, r0, []⟩] [] [])⟩
theorem E_laws_szPack (a : List Int) (a_a : Bool) (t_a : List Tag) (left : Int) (a_left : Bool) (t_left : List Tag) (k : List TVal → List TVal → List TVal → Res) : funC g_laws_szPack [] .o false Try.f28 [.borrow y0 true, .borrow (.int .i64) false] [false] [⟨y0, a_a, a, t_a⟩, ⟨(.int .i64), a_left, left, t_left⟩] [] k = laws_szPack a left (fun (r0 : Int) => k [⟨(.int .i64), false, r0, []⟩] [] []) := by kernel_rfl
theorem S_laws_szPack : Sound Try.prog 28 s_laws_szPack := sound_of (Γ := g_laws_szPack) (X := []) (ht := .o) (fz := false) (c := c_laws_szPack) follows tysOk (fns_cons S_laws_szByteS fns_nil) trivial Try.func28 (by kernel_rfl) (by kernel_rfl) (by decide) (by
  intro vals ext k r h
  obtain ⟨a, a_a, t_a, vals, rfl, h1⟩ := av_some h
  obtain ⟨left, a_left, t_left, vals, rfl, h2⟩ := av_some h1
  obtain ⟨rfl, h3⟩ := nl_some h2
  obtain ⟨rfl, h4⟩ := nl_some h3
  exact (E_laws_szPack a a_a t_a left a_left t_left k).trans h4)

/-! ### 60 loop.example/g00462/laws.szPackS -/
noncomputable def c_laws_szPackS : Code := (Try.f60.body).getD .skip
noncomputable def g_laws_szPackS : Env Unit := ⟨tys, [(28, s_laws_szPack)], 0⟩
noncomputable def laws_szPackS_l0_r (a : List (List Int)) (left : Int) (i : Int) (rec : Int → Int → Res) (k0 : Int → Res) (k1 : Unit → Res) : Res :=
  bif decide (i < (nI (List.length a))) then
    bif inb i (List.length a) then
      laws_szPack (nth [] a i) left fun (r : Int) =>
        bif decide (r < 0) then
          k1 ()
        else
          rec r (wi64 (i + 1))
    else none
  else
    k0 left
noncomputable def laws_szPackS_l0_s (a : List (List Int)) : (Int × Int) → (Int × Int → Res) → ((Int → Res) × (Unit → Res)) → Res := fun v rec q => laws_szPackS_l0_r a v.1 v.2 (fun left i => rec (left, i)) q.1 q.2
noncomputable def laws_szPackS_l0 (a : List (List Int)) (n : Nat) (left : Int) (i : Int) (k0 : Int → Res) (k1 : Unit → Res) : Res := iter (laws_szPackS_l0_s a) n (left, i) (k0, k1)
noncomputable def xlaws_szPackS_l0 : Node Unit := fun σ k => rdN σ 27 <| rdV σ 0 y1 false [.S] fun a => rdV σ 1 (.int .i64) false [] fun left => rdV σ 5 (.int .i64) false [] fun i => laws_szPackS_l0 a FUEL left i (fun (left1 : Int) => k (.exit 0) (mkS 27 27 [(1, .val ⟨(.int .i64), false, left1, []⟩)] [])) (fun (_ : Unit) => k .ret (mkS 27 27 [(4, .val ⟨(.int .i64), false, (-1), []⟩)] []))
theorem elaws_szPackS_l0 (a : List (List Int)) (n : Nat) (v : Int × Int) (k : Kont Unit) : loopC (codeC g_laws_szPackS [] .o (Code.pl (Code.pl (Code.pr (Code.pl (Code.pr (Code.pr (Code.pr c_laws_szPackS)))))))) (fun σ => σ.forget [0, 1, 5] []) (cutC ([], []) [(0, [1], [])] ([4], [])) n (mkS 27 27 [(0, .val ⟨y1, false, a, [.S]⟩), (1, .val ⟨(.int .i64), false, v.1, []⟩), (5, .val ⟨(.int .i64), false, v.2, []⟩)] []) k = iter (laws_szPackS_l0_s a) n v ((fun (k : Kont Unit) => (((fun (left1 : Int) => k (.exit 0) (mkS 27 27 [(1, .val ⟨(.int .i64), false, left1, []⟩)] [])), (fun (_ : Unit) => k .ret (mkS 27 27 [(4, .val ⟨(.int .i64), false, (-1), []⟩)] []))) : (Int → Res) × (Unit → Res))) k) := loop_eq (fun v : Int × Int => (mkS 27 27 [(0, .val ⟨y1, false, a, [.S]⟩), (1, .val ⟨(.int .i64), false, v.1, []⟩), (5, .val ⟨(.int .i64), false, v.2, []⟩)] [])) (laws_szPackS_l0_s a) (fun (k : Kont Unit) => (((fun (left1 : Int) => k (.exit 0) (mkS 27 27 [(1, .val ⟨(.int .i64), false, left1, []⟩)] [])), (fun (_ : Unit) => k .ret (mkS 27 27 [(4, .val ⟨(.int .i64), false, (-1), []⟩)] []))) : (Int → Res) × (Unit → Res))) (fun v rec k => by kernel_rfl) n v k
theorem olaws_szPackS_l0 {W0 : Base} {M : Nat → Prop} (hnp : W0.np ≤ 0) : CodeOk Try.prog W0 M (Code.loop (Code.pl (Code.pl (Code.pr (Code.pl (Code.pr (Code.pr (Code.pr c_laws_szPackS)))))))) xlaws_szPackS_l0 := loop_ok (code_sound follows tysOk (calls_ok (fns_cons S_laws_szPack fns_nil)) hnp [] _ .o trivial) (ks := [0, 1, 5]) (bs := []) (fX := (cutC ([], []) [(0, [1], [])] ([4], []))) (cutC_le _ _ _) FUEL (by
  intro σ k r h
  obtain ⟨hn, h1⟩ := rdN_some h
  obtain ⟨a, hs0, h2⟩ := rdV_some h1
  obtain ⟨left, hs1, h3⟩ := rdV_some h2
  obtain ⟨i, hs5, h4⟩ := rdV_some h3
  refine ⟨_, ?_, (elaws_szPackS_l0 a FUEL (left, i) k).trans h4⟩
  exact mkS_le hn ⟨hs0, hs1, hs5, trivial⟩ trivial)
noncomputable def laws_szPackS (a : List (List Int)) (left : Int) (k0 : Int → Res) : Res :=
  bif decide ((wi64 (left - (nI (List.length a)))) < 0) then
    k0 (-1)
  else
    laws_szPackS_l0 a FUEL (wi64 (left - (nI (List.length a)))) 0
      (fun (left1 : Int) =>
        k0 left1)
      (fun (_ : Unit) =>
        k0 (-1))
noncomputable def s_laws_szPackS : Sig Unit := ⟨[.borrow y1 false, .borrow (.int .i64) false], [false], fun vals ext k => av vals y1 fun a vals => av vals (.int .i64) fun left vals => nl vals <| nl ext <| laws_szPackS a left (fun (r0 : Int) => k [⟨(.int .i64), false, r0, []⟩] [] [])⟩
theorem E_laws_szPackS (a : List (List Int)) (a_a : Bool) (t_a : List Tag) (left : Int) (a_left : Bool) (t_left : List Tag) (k : List TVal → List TVal → List TVal → Res) : funC g_laws_szPackS [xlaws_szPackS_l0] (.t .o (.t .o (.t .o (.t (.t .o (.t (.x 0) .o)) .o)))) false Try.f60 [.borrow y1 false, .borrow (.int .i64) false] [false] [⟨y1, a_a, a, t_a⟩, ⟨(.int .i64), a_left, left, t_left⟩] [] k = laws_szPackS a left (fun (r0 : Int) => k [⟨(.int .i64), false, r0, []⟩] [] []) := by kernel_rfl
theorem S_laws_szPackS : Sound Try.prog 60 s_laws_szPackS := sound_of (Γ := g_laws_szPackS) (X := [xlaws_szPackS_l0]) (ht := (.t .o (.t .o (.t .o (.t (.t .o (.t (.x 0) .o)) .o))))) (fz := false) (c := c_laws_szPackS) follows tysOk (fns_cons S_laws_szPack fns_nil) (OrOk.mk trivial ((OrOk.mk trivial ((OrOk.mk trivial ((OrOk.mk ((OrOk.mk trivial ((OrOk.mk (OrOk.x_mk (fun W0 M hnp => olaws_szPackS_l0 (W0 := W0) (M := M) hnp)) trivial)))) trivial))))))) Try.func60 (by kernel_rfl) (by kernel_rfl) (by decide) (by
  intro vals ext k r h
  obtain ⟨a, a_a, t_a, vals, rfl, h1⟩ := av_some h
  obtain ⟨left, a_left, t_left, vals, rfl, h2⟩ := av_some h1
  obtain ⟨rfl, h3⟩ := nl_some h2
  obtain ⟨rfl, h4⟩ := nl_some h3
  exact (E_laws_szPackS a a_a t_a left a_left t_left k).trans h4)

/-! ### 14 loop.example/g00462/laws.szNet -/
noncomputable def c_laws_szNet : Code := (Try.f14.body).getD .skip
noncomputable def g_laws_szNet : Env Unit := ⟨tys, [(60, s_laws_szPackS)], 0⟩
noncomputable def laws_szNet (a : List (List Int)) (left : Int) (k0 : Int → Res) : Res :=
  laws_szPackS a left fun (r : Int) =>
    bif decide (r < 0) then
      k0 (-1)
    else
      k0 r
noncomputable def s_laws_szNet : Sig Unit := ⟨[.borrow y1 true, .borrow (.int .i64) false], [false], fun vals ext k => av vals y1 fun a vals => av vals (.int .i64) fun left vals => nl vals <| nl ext <| laws_szNet a left (fun (r0 : Int) => k [⟨(.int .i64), false, r0, []⟩] [] [])⟩
theorem E_laws_szNet (a : List (List Int)) (a_a : Bool) (t_a : List Tag) (left : Int) (a_left : Bool) (t_left : List Tag) (k : List TVal → List TVal → List TVal → Res) : funC g_laws_szNet [] .o false Try.f14 [.borrow y1 true, .borrow (.int .i64) false] [false] [⟨y1, a_a, a, t_a⟩, ⟨(.int .i64), a_left, left, t_left⟩] [] k = laws_szNet a left (fun (r0 : Int) => k [⟨(.int .i64), false, r0, []⟩] [] []) := by kernel_rfl
theorem S_laws_szNet : Sound Try.prog 14 s_laws_szNet := sound_of (Γ := g_laws_szNet) (X := []) (ht := .o) (fz := false) (c := c_laws_szNet) follows tysOk (fns_cons S_laws_szPackS fns_nil) trivial Try.func14 (by kernel_rfl) (by kernel_rfl) (by decide) (by
  intro vals ext k r h
  obtain ⟨a, a_a, t_a, vals, rfl, h1⟩ := av_some h
  obtain ⟨left, a_left, t_left, vals, rfl, h2⟩ := av_some h1
  obtain ⟨rfl, h3⟩ := nl_some h2
  obtain ⟨rfl, h4⟩ := nl_some h3
  exact (E_laws_szNet a a_a t_a left a_left t_left k).trans h4)

/-! ### 53 loop.example/g00462/laws.toByteS -/
noncomputable def c_laws_toByteS : Code := (Try.f53.body).getD .skip
noncomputable def g_laws_toByteS : Env Unit := ⟨tys, [], 0⟩
noncomputable def laws_toByteS_l0_r (a : List Int) (out : List Int) (i : Int) (rec : (List Int) → Int → Res) (k0 : (List Int) → Res) : Res :=
  bif decide (i < (nI (List.length a))) then
    bif inb i (List.length a) then
      bif inb i (List.length out) then
        rec (upd out i (nth 0 a i)) (wi64 (i + 1))
      else none
    else none
  else
    k0 out
noncomputable def laws_toByteS_l0_s (a : List Int) : ((List Int) × Int) → ((List Int) × Int → Res) → (((List Int) → Res)) → Res := fun v rec q => laws_toByteS_l0_r a v.1 v.2 (fun out i => rec (out, i)) q
noncomputable def laws_toByteS_l0 (a : List Int) (n : Nat) (out : List Int) (i : Int) (k0 : (List Int) → Res) : Res := iter (laws_toByteS_l0_s a) n (out, i) (k0)
noncomputable def xlaws_toByteS_l0 : Node Unit := fun σ k => rdN σ 22 <| rdV σ 0 y0 false [.S] fun a => rdV σ 3 y0 false [.O] fun out => rdV σ 4 (.int .i64) false [] fun i => laws_toByteS_l0 a FUEL out i (fun (out1 : List Int) => k (.exit 0) (mkS 22 22 [(3, .val ⟨y0, false, out1, [.O]⟩)] []))
theorem elaws_toByteS_l0 (a : List Int) (n : Nat) (v : (List Int) × Int) (k : Kont Unit) : loopC (codeC g_laws_toByteS [] .o (Code.pl (Code.pl (Code.pr (Code.pl (Code.pr (Code.pr c_laws_toByteS))))))) (fun σ => σ.forget [0, 3, 4] []) (cutC ([], []) [(0, [3], [])] ([], [])) n (mkS 22 22 [(0, .val ⟨y0, false, a, [.S]⟩), (3, .val ⟨y0, false, v.1, [.O]⟩), (4, .val ⟨(.int .i64), false, v.2, []⟩)] []) k = iter (laws_toByteS_l0_s a) n v ((fun (k : Kont Unit) => (((fun (out1 : List Int) => k (.exit 0) (mkS 22 22 [(3, .val ⟨y0, false, out1, [.O]⟩)] []))) : ((List Int) → Res))) k) := loop_eq (fun v : (List Int) × Int => (mkS 22 22 [(0, .val ⟨y0, false, a, [.S]⟩), (3, .val ⟨y0, false, v.1, [.O]⟩), (4, .val ⟨(.int .i64), false, v.2, []⟩)] [])) (laws_toByteS_l0_s a) (fun (k : Kont Unit) => (((fun (out1 : List Int) => k (.exit 0) (mkS 22 22 [(3, .val ⟨y0, false, out1, [.O]⟩)] []))) : ((List Int) → Res))) (fun v rec k => by kernel_rfl) n v k
theorem olaws_toByteS_l0 {W0 : Base} {M : Nat → Prop} (hnp : W0.np ≤ 0) : CodeOk Try.prog W0 M (Code.loop (Code.pl (Code.pl (Code.pr (Code.pl (Code.pr (Code.pr c_laws_toByteS))))))) xlaws_toByteS_l0 := loop_ok (code_sound follows tysOk (calls_ok fns_nil) hnp [] _ .o trivial) (ks := [0, 3, 4]) (bs := []) (fX := (cutC ([], []) [(0, [3], [])] ([], []))) (cutC_le _ _ _) FUEL (by
  intro σ k r h
  obtain ⟨hn, h1⟩ := rdN_some h
  obtain ⟨a, hs0, h2⟩ := rdV_some h1
  obtain ⟨out, hs3, h3⟩ := rdV_some h2
  obtain ⟨i, hs4, h4⟩ := rdV_some h3
  refine ⟨_, ?_, (elaws_toByteS_l0 a FUEL (out, i) k).trans h4⟩
  exact mkS_le hn ⟨hs0, hs3, hs4, trivial⟩ trivial)
noncomputable def laws_toByteS (a : List Int) (k0 : (List Int) → Res) : Res :=
  bif mkOk (nI (List.length a)) (nI (List.length a)) then
    laws_toByteS_l0 a FUEL (repl (nI (List.length a)) 0) 0 fun (out : List Int) =>
      k0 out
  else none
noncomputable def s_laws_toByteS : Sig Unit := ⟨[.borrow y0 false], [false], fun vals ext k => av vals y0 fun a vals => nl vals <| nl ext <| laws_toByteS a (fun (r0 : List Int) => k [⟨y0, false, r0, [.O]⟩] [] [])⟩
theorem E_laws_toByteS (a : List Int) (a_a : Bool) (t_a : List Tag) (k : List TVal → List TVal → List TVal → Res) : funC g_laws_toByteS [xlaws_toByteS_l0] (.t .o (.t .o (.t (.t .o (.t (.x 0) .o)) .o))) false Try.f53 [.borrow y0 false] [false] [⟨y0, a_a, a, t_a⟩] [] k = laws_toByteS a (fun (r0 : List Int) => k [⟨y0, false, r0, [.O]⟩] [] []) := by kernel_rfl
theorem S_laws_toByteS : Sound Try.prog 53 s_laws_toByteS := sound_of (Γ := g_laws_toByteS) (X := [xlaws_toByteS_l0]) (ht := (.t .o (.t .o (.t (.t .o (.t (.x 0) .o)) .o)))) (fz := false) (c := c_laws_toByteS) follows tysOk fns_nil (OrOk.mk trivial ((OrOk.mk trivial ((OrOk.mk ((OrOk.mk trivial ((OrOk.mk (OrOk.x_mk (fun W0 M hnp => olaws_toByteS_l0 (W0 := W0) (M := M) hnp)) trivial)))) trivial))))) Try.func53 (by kernel_rfl) (by kernel_rfl) (by decide) (by
  intro vals ext k r h
  obtain ⟨a, a_a, t_a, vals, rfl, h1⟩ := av_some h
  obtain ⟨rfl, h2⟩ := nl_some h1
  obtain ⟨rfl, h3⟩ := nl_some h2
  exact (E_laws_toByteS a a_a t_a k).trans h3)

/-! ### 30 loop.example/g00462/laws.toPack -/
noncomputable def c_laws_toPack : Code := (Try.f30.body).getD .skip
noncomputable def g_laws_toPack : Env Unit := ⟨tys, [(53, s_laws_toByteS)], 0⟩
noncomputable def laws_toPack (a : List Int) (k0 : (List Int) → Res) : Res :=
  laws_toByteS a fun (r : List Int) =>
    k0 r
noncomputable def s_laws_toPack : Sig Unit := ⟨[.borrow y0 true], [true], fun vals ext k => av vals y0 fun a vals => nl vals <| nl ext <| laws_toPack a (fun (r0 : List Int) => k [⟨y0, true, r0, [.O]⟩] [] [])⟩
theorem E_laws_toPack (a : List Int) (a_a : Bool) (t_a : List Tag) (k : List TVal → List TVal → List TVal → Res) : funC g_laws_toPack [] .o false Try.f30 [.borrow y0 true] [true] [⟨y0, a_a, a, t_a⟩] [] k = laws_toPack a (fun (r0 : List Int) => k [⟨y0, true, r0, [.O]⟩] [] []) := by kernel_rfl
theorem S_laws_toPack : Sound Try.prog 30 s_laws_toPack := sound_of (Γ := g_laws_toPack) (X := []) (ht := .o) (fz := false) (c := c_laws_toPack) follows tysOk (fns_cons S_laws_toByteS fns_nil) trivial Try.func30 (by kernel_rfl) (by kernel_rfl) (by decide) (by
  intro vals ext k r h
  obtain ⟨a, a_a, t_a, vals, rfl, h1⟩ := av_some h
  obtain ⟨rfl, h2⟩ := nl_some h1
  obtain ⟨rfl, h3⟩ := nl_some h2
  exact (E_laws_toPack a a_a t_a k).trans h3)

/-! ### 61 loop.example/g00462/laws.toPackS -/
noncomputable def c_laws_toPackS : Code := (Try.f61.body).getD .skip
noncomputable def g_laws_toPackS : Env Unit := ⟨tys, [(30, s_laws_toPack)], 0⟩
noncomputable def laws_toPackS_l0_r (a : List (List Int)) (out : List (List Int)) (i : Int) (rec : (List (List Int)) → Int → Res) (k0 : (List (List Int)) → Res) : Res :=
  bif decide (i < (nI (List.length a))) then
    bif inb i (List.length a) then
      laws_toPack (nth [] a i) fun (r : List Int) =>
        bif inb i (List.length out) then
          rec (upd out i r) (wi64 (i + 1))
        else none
    else none
  else
    k0 out
noncomputable def laws_toPackS_l0_s (a : List (List Int)) : ((List (List Int)) × Int) → ((List (List Int)) × Int → Res) → (((List (List Int)) → Res)) → Res := fun v rec q => laws_toPackS_l0_r a v.1 v.2 (fun out i => rec (out, i)) q
noncomputable def laws_toPackS_l0 (a : List (List Int)) (n : Nat) (out : List (List Int)) (i : Int) (k0 : (List (List Int)) → Res) : Res := iter (laws_toPackS_l0_s a) n (out, i) (k0)
noncomputable def xlaws_toPackS_l0 : Node Unit := fun σ k => rdN σ 23 <| rdV σ 0 y1 false [.S] fun a => rdV σ 3 y1 false [.O] fun out => rdV σ 4 (.int .i64) false [] fun i => laws_toPackS_l0 a FUEL out i (fun (out1 : List (List Int)) => k (.exit 0) (mkS 23 23 [(3, .val ⟨y1, false, out1, [.O]⟩)] []))
theorem elaws_toPackS_l0 (a : List (List Int)) (n : Nat) (v : (List (List Int)) × Int) (k : Kont Unit) : loopC (codeC g_laws_toPackS [] .o (Code.pl (Code.pl (Code.pr (Code.pl (Code.pr (Code.pr c_laws_toPackS))))))) (fun σ => σ.forget [0, 3, 4] []) (cutC ([], []) [(0, [3], [])] ([], [])) n (mkS 23 23 [(0, .val ⟨y1, false, a, [.S]⟩), (3, .val ⟨y1, false, v.1, [.O]⟩), (4, .val ⟨(.int .i64), false, v.2, []⟩)] []) k = iter (laws_toPackS_l0_s a) n v ((fun (k : Kont Unit) => (((fun (out1 : List (List Int)) => k (.exit 0) (mkS 23 23 [(3, .val ⟨y1, false, out1, [.O]⟩)] []))) : ((List (List Int)) → Res))) k) := loop_eq (fun v : (List (List Int)) × Int => (mkS 23 23 [(0, .val ⟨y1, false, a, [.S]⟩), (3, .val ⟨y1, false, v.1, [.O]⟩), (4, .val ⟨(.int .i64), false, v.2, []⟩)] [])) (laws_toPackS_l0_s a) (fun (k : Kont Unit) => (((fun (out1 : List (List Int)) => k (.exit 0) (mkS 23 23 [(3, .val ⟨y1, false, out1, [.O]⟩)] []))) : ((List (List Int)) → Res))) (fun v rec k => by kernel_rfl) n v k
theorem olaws_toPackS_l0 {W0 : Base} {M : Nat → Prop} (hnp : W0.np ≤ 0) : CodeOk Try.prog W0 M (Code.loop (Code.pl (Code.pl (Code.pr (Code.pl (Code.pr (Code.pr c_laws_toPackS))))))) xlaws_toPackS_l0 := loop_ok (code_sound follows tysOk (calls_ok (fns_cons S_laws_toPack fns_nil)) hnp [] _ .o trivial) (ks := [0, 3, 4]) (bs := []) (fX := (cutC ([], []) [(0, [3], [])] ([], []))) (cutC_le _ _ _) FUEL (by
  intro σ k r h
  obtain ⟨hn, h1⟩ := rdN_some h
  obtain ⟨a, hs0, h2⟩ := rdV_some h1
  obtain ⟨out, hs3, h3⟩ := rdV_some h2
  obtain ⟨i, hs4, h4⟩ := rdV_some h3
  refine ⟨_, ?_, (elaws_toPackS_l0 a FUEL (out, i) k).trans h4⟩
  exact mkS_le hn ⟨hs0, hs3, hs4, trivial⟩ trivial)
noncomputable def laws_toPackS (a : List (List Int)) (k0 : (List (List Int)) → Res) : Res :=
  bif mkOk (nI (List.length a)) (nI (List.length a)) then
    laws_toPackS_l0 a FUEL (repl (nI (List.length a)) []) 0 fun (out : List (List Int)) =>
      k0 out
  else none
noncomputable def s_laws_toPackS : Sig Unit := ⟨[.borrow y1 false], [false], fun vals ext k => av vals y1 fun a vals => nl vals <| nl ext <| laws_toPackS a (fun (r0 : List (List Int)) => k [⟨y1, false, r0, [.O]⟩] [] [])⟩
theorem E_laws_toPackS (a : List (List Int)) (a_a : Bool) (t_a : List Tag) (k : List TVal → List TVal → List TVal → Res) : funC g_laws_toPackS [xlaws_toPackS_l0] (.t .o (.t .o (.t (.t .o (.t (.x 0) .o)) .o))) false Try.f61 [.borrow y1 false] [false] [⟨y1, a_a, a, t_a⟩] [] k = laws_toPackS a (fun (r0 : List (List Int)) => k [⟨y1, false, r0, [.O]⟩] [] []) := by kernel_rfl
theorem S_laws_toPackS : Sound Try.prog 61 s_laws_toPackS := sound_of (Γ := g_laws_toPackS) (X := [xlaws_toPackS_l0]) (ht := (.t .o (.t .o (.t (.t .o (.t (.x 0) .o)) .o)))) (fz := false) (c := c_laws_toPackS) follows tysOk (fns_cons S_laws_toPack fns_nil) (OrOk.mk trivial ((OrOk.mk trivial ((OrOk.mk ((OrOk.mk trivial ((OrOk.mk (OrOk.x_mk (fun W0 M hnp => olaws_toPackS_l0 (W0 := W0) (M := M) hnp)) trivial)))) trivial))))) Try.func61 (by kernel_rfl) (by kernel_rfl) (by decide) (by
  intro vals ext k r h
  obtain ⟨a, a_a, t_a, vals, rfl, h1⟩ := av_some h
  obtain ⟨rfl, h2⟩ := nl_some h1
  obtain ⟨rfl, h3⟩ := nl_some h2
  exact (E_laws_toPackS a a_a t_a k).trans h3)

/-! ### 16 loop.example/g00462/laws.toNet -/
noncomputable def c_laws_toNet : Code := (Try.f16.body).getD .skip
noncomputable def g_laws_toNet : Env Unit := ⟨tys, [(61, s_laws_toPackS)], 0⟩
noncomputable def laws_toNet (a : List (List Int)) (k0 : (List (List Int)) → Res) : Res :=
  laws_toPackS a fun (r : List (List Int)) =>
    k0 r
noncomputable def s_laws_toNet : Sig Unit := ⟨[.borrow y1 true], [true], fun vals ext k => av vals y1 fun a vals => nl vals <| nl ext <| laws_toNet a (fun (r0 : List (List Int)) => k [⟨y1, true, r0, [.O]⟩] [] [])⟩
theorem E_laws_toNet (a : List (List Int)) (a_a : Bool) (t_a : List Tag) (k : List TVal → List TVal → List TVal → Res) : funC g_laws_toNet [] .o false Try.f16 [.borrow y1 true] [true] [⟨y1, a_a, a, t_a⟩] [] k = laws_toNet a (fun (r0 : List (List Int)) => k [⟨y1, true, r0, [.O]⟩] [] []) := by kernel_rfl
theorem S_laws_toNet : Sound Try.prog 16 s_laws_toNet := sound_of (Γ := g_laws_toNet) (X := []) (ht := .o) (fz := false) (c := c_laws_toNet) follows tysOk (fns_cons S_laws_toPackS fns_nil) trivial Try.func16 (by kernel_rfl) (by kernel_rfl) (by decide) (by
  intro vals ext k r h
  obtain ⟨a, a_a, t_a, vals, rfl, h1⟩ := av_some h
  obtain ⟨rfl, h2⟩ := nl_some h1
  obtain ⟨rfl, h3⟩ := nl_some h2
  exact (E_laws_toNet a a_a t_a k).trans h3)

/-! ### 15 loop.example/g00462/spec.NetOk -/
noncomputable def c_spec_NetOk : Code := (Try.f15.body).getD .skip
noncomputable def g_spec_NetOk : Env Unit := ⟨tys, [], 0⟩
noncomputable def spec_NetOk (n_ : List (List Int)) (k0 : Bool → Res) : Res :=
  k0 (decide ((nI (List.length n_)) ≤ 30))
noncomputable def s_spec_NetOk : Sig Unit := ⟨[.borrow y1 true], [false], fun vals ext k => av vals y1 fun n_ vals => nl vals <| nl ext <| spec_NetOk n_ (fun (r0 : Bool) => k [⟨.bool, false, r0, []⟩] [] [])⟩
theorem E_spec_NetOk (n_ : List (List Int)) (a_n_ : Bool) (t_n_ : List Tag) (k : List TVal → List TVal → List TVal → Res) : funC g_spec_NetOk [] .o false Try.f15 [.borrow y1 true] [false] [⟨y1, a_n_, n_, t_n_⟩] [] k = spec_NetOk n_ (fun (r0 : Bool) => k [⟨.bool, false, r0, []⟩] [] []) := by kernel_rfl
theorem S_spec_NetOk : Sound Try.prog 15 s_spec_NetOk := sound_of (Γ := g_spec_NetOk) (X := []) (ht := .o) (fz := false) (c := c_spec_NetOk) follows tysOk fns_nil trivial Try.func15 (by kernel_rfl) (by kernel_rfl) (by decide) (by
  intro vals ext k r h
  obtain ⟨n_, a_n_, t_n_, vals, rfl, h1⟩ := av_some h
  obtain ⟨rfl, h2⟩ := nl_some h1
  obtain ⟨rfl, h3⟩ := nl_some h2
  exact (E_spec_NetOk n_ a_n_ t_n_ k).trans h3)

/-! ### 17 loop.example/g00462/impl.NetOk -/
noncomputable def c_impl_NetOk : Code := (Try.f17.body).getD .skip
noncomputable def g_impl_NetOk : Env Unit := ⟨tys, [], 0⟩
noncomputable def impl_NetOk (n_ : List (List Int)) (k0 : Bool → Res) : Res :=
  k0 (decide ((nI (List.length n_)) ≤ 30))
noncomputable def s_impl_NetOk : Sig Unit := ⟨[.borrow y1 true], [false], fun vals ext k => av vals y1 fun n_ vals => nl vals <| nl ext <| impl_NetOk n_ (fun (r0 : Bool) => k [⟨.bool, false, r0, []⟩] [] [])⟩
theorem E_impl_NetOk (n_ : List (List Int)) (a_n_ : Bool) (t_n_ : List Tag) (k : List TVal → List TVal → List TVal → Res) : funC g_impl_NetOk [] .o false Try.f17 [.borrow y1 true] [false] [⟨y1, a_n_, n_, t_n_⟩] [] k = impl_NetOk n_ (fun (r0 : Bool) => k [⟨.bool, false, r0, []⟩] [] []) := by kernel_rfl
theorem S_impl_NetOk : Sound Try.prog 17 s_impl_NetOk := sound_of (Γ := g_impl_NetOk) (X := []) (ht := .o) (fz := false) (c := c_impl_NetOk) follows tysOk fns_nil trivial Try.func17 (by kernel_rfl) (by kernel_rfl) (by decide) (by
  intro vals ext k r h
  obtain ⟨n_, a_n_, t_n_, vals, rfl, h1⟩ := av_some h
  obtain ⟨rfl, h2⟩ := nl_some h1
  obtain ⟨rfl, h3⟩ := nl_some h2
  exact (E_impl_NetOk n_ a_n_ t_n_ k).trans h3)

/-! ### 56 loop.example/g00462/laws.eqByteS -/
noncomputable def c_laws_eqByteS : Code := (Try.f56.body).getD .skip
noncomputable def g_laws_eqByteS : Env Unit := ⟨tys, [], 0⟩
noncomputable def laws_eqByteS_l0_r (a : List Int) (b : List Int) (i : Int) (rec : Int → Res) (k0 : Unit → Res) (k1 : Unit → Res) : Res :=
  bif decide (i < (nI (List.length a))) then
    bif inb i (List.length a) then
      bif inb i (List.length b) then
        bif ((nth 0 a i) != (nth 0 b i)) then
          k1 ()
        else
          rec (wi64 (i + 1))
      else none
    else none
  else
    k0 ()
noncomputable def laws_eqByteS_l0_s (a : List Int) (b : List Int) : Int → (Int → Res) → ((Unit → Res) × (Unit → Res)) → Res := fun v rec q => laws_eqByteS_l0_r a b v (fun i => rec (i)) q.1 q.2
noncomputable def laws_eqByteS_l0 (a : List Int) (b : List Int) (n : Nat) (i : Int) (k0 : Unit → Res) (k1 : Unit → Res) : Res := iter (laws_eqByteS_l0_s a b) n (i) (k0, k1)
noncomputable def xlaws_eqByteS_l0 : Node Unit := fun σ k => rdN σ 26 <| rdV σ 0 y0 false [.S] fun a => rdV σ 1 y0 false [.S] fun b => rdV σ 5 (.int .i64) false [] fun i => laws_eqByteS_l0 a b FUEL i (fun (_ : Unit) => k (.exit 0) (mkS 26 26 [] [])) (fun (_ : Unit) => k .ret (mkS 26 26 [(4, .val ⟨.bool, false, false, []⟩)] []))
theorem elaws_eqByteS_l0 (a : List Int) (b : List Int) (n : Nat) (v : Int) (k : Kont Unit) : loopC (codeC g_laws_eqByteS [] .o (Code.pl (Code.pl (Code.pr (Code.pl (Code.pr (Code.pr c_laws_eqByteS))))))) (fun σ => σ.forget [0, 1, 5] []) (cutC ([], []) [(0, [], [])] ([4], [])) n (mkS 26 26 [(0, .val ⟨y0, false, a, [.S]⟩), (1, .val ⟨y0, false, b, [.S]⟩), (5, .val ⟨(.int .i64), false, v, []⟩)] []) k = iter (laws_eqByteS_l0_s a b) n v ((fun (k : Kont Unit) => (((fun (_ : Unit) => k (.exit 0) (mkS 26 26 [] [])), (fun (_ : Unit) => k .ret (mkS 26 26 [(4, .val ⟨.bool, false, false, []⟩)] []))) : (Unit → Res) × (Unit → Res))) k) := loop_eq (fun v : Int => (mkS 26 26 [(0, .val ⟨y0, false, a, [.S]⟩), (1, .val ⟨y0, false, b, [.S]⟩), (5, .val ⟨(.int .i64), false, v, []⟩)] [])) (laws_eqByteS_l0_s a b) (fun (k : Kont Unit) => (((fun (_ : Unit) => k (.exit 0) (mkS 26 26 [] [])), (fun (_ : Unit) => k .ret (mkS 26 26 [(4, .val ⟨.bool, false, false, []⟩)] []))) : (Unit → Res) × (Unit → Res))) (fun v rec k => by kernel_rfl) n v k
theorem olaws_eqByteS_l0 {W0 : Base} {M : Nat → Prop} (hnp : W0.np ≤ 0) : CodeOk Try.prog W0 M (Code.loop (Code.pl (Code.pl (Code.pr (Code.pl (Code.pr (Code.pr c_laws_eqByteS))))))) xlaws_eqByteS_l0 := loop_ok (code_sound follows tysOk (calls_ok fns_nil) hnp [] _ .o trivial) (ks := [0, 1, 5]) (bs := []) (fX := (cutC ([], []) [(0, [], [])] ([4], []))) (cutC_le _ _ _) FUEL (by
  intro σ k r h
  obtain ⟨hn, h1⟩ := rdN_some h
  obtain ⟨a, hs0, h2⟩ := rdV_some h1
  obtain ⟨b, hs1, h3⟩ := rdV_some h2
  obtain ⟨i, hs5, h4⟩ := rdV_some h3
  refine ⟨_, ?_, (elaws_eqByteS_l0 a b FUEL (i) k).trans h4⟩
  exact mkS_le hn ⟨hs0, hs1, hs5, trivial⟩ trivial)
noncomputable def laws_eqByteS (a : List Int) (b : List Int) (k0 : Bool → Res) : Res :=
  bif ((nI (List.length a)) != (nI (List.length b))) then
    k0 false
  else
    laws_eqByteS_l0 a b FUEL 0
      (fun (_ : Unit) =>
        k0 true)
      (fun (_ : Unit) =>
        k0 false)
noncomputable def s_laws_eqByteS : Sig Unit := ⟨[.borrow y0 false, .borrow y0 false], [false], fun vals ext k => av vals y0 fun a vals => av vals y0 fun b vals => nl vals <| nl ext <| laws_eqByteS a b (fun (r0 : Bool) => k [⟨.bool, false, r0, []⟩] [] [])⟩
theorem E_laws_eqByteS (a : List Int) (a_a : Bool) (t_a : List Tag) (b : List Int) (a_b : Bool) (t_b : List Tag) (k : List TVal → List TVal → List TVal → Res) : funC g_laws_eqByteS [xlaws_eqByteS_l0] (.t .o (.t .o (.t (.t .o (.t (.x 0) .o)) .o))) false Try.f56 [.borrow y0 false, .borrow y0 false] [false] [⟨y0, a_a, a, t_a⟩, ⟨y0, a_b, b, t_b⟩] [] k = laws_eqByteS a b (fun (r0 : Bool) => k [⟨.bool, false, r0, []⟩] [] []) := by kernel_rfl
theorem S_laws_eqByteS : Sound Try.prog 56 s_laws_eqByteS := sound_of (Γ := g_laws_eqByteS) (X := [xlaws_eqByteS_l0]) (ht := (.t .o (.t .o (.t (.t .o (.t (.x 0) .o)) .o)))) (fz := false) (c := c_laws_eqByteS) follows tysOk fns_nil (OrOk.mk trivial ((OrOk.mk trivial ((OrOk.mk ((OrOk.mk trivial ((OrOk.mk (OrOk.x_mk (fun W0 M hnp => olaws_eqByteS_l0 (W0 := W0) (M := M) hnp)) trivial)))) trivial))))) Try.func56 (by kernel_rfl) (by kernel_rfl) (by decide) (by
  intro vals ext k r h
  obtain ⟨a, a_a, t_a, vals, rfl, h1⟩ := av_some h
  obtain ⟨b, a_b, t_b, vals, rfl, h2⟩ := av_some h1
  obtain ⟨rfl, h3⟩ := nl_some h2
  obtain ⟨rfl, h4⟩ := nl_some h3
  exact (E_laws_eqByteS a a_a t_a b a_b t_b k).trans h4)

/-! ### 32 loop.example/g00462/laws.eqPack -/
noncomputable def c_laws_eqPack : Code := (Try.f32.body).getD .skip
noncomputable def g_laws_eqPack : Env Unit := ⟨tys, [(56, s_laws_eqByteS)], 0⟩
noncomputable def laws_eqPack (a : List Int) (b : List Int) (k0 : Bool → Res) : Res :=
  laws_eqByteS a b fun (r : Bool) =>
    bif !r then
      k0 false
    else
      k0 true
noncomputable def s_laws_eqPack : Sig Unit := ⟨[.borrow y0 true, .borrow y0 true], [false], fun vals ext k => av vals y0 fun a vals => av vals y0 fun b vals => nl vals <| nl ext <| laws_eqPack a b (fun (r0 : Bool) => k [⟨.bool, false, r0, []⟩] [] [])⟩
theorem E_laws_eqPack (a : List Int) (a_a : Bool) (t_a : List Tag) (b : List Int) (a_b : Bool) (t_b : List Tag) (k : List TVal → List TVal → List TVal → Res) : funC g_laws_eqPack [] .o false Try.f32 [.borrow y0 true, .borrow y0 true] [false] [⟨y0, a_a, a, t_a⟩, ⟨y0, a_b, b, t_b⟩] [] k = laws_eqPack a b (fun (r0 : Bool) => k [⟨.bool, false, r0, []⟩] [] []) := by kernel_rfl
theorem S_laws_eqPack : Sound Try.prog 32 s_laws_eqPack := sound_of (Γ := g_laws_eqPack) (X := []) (ht := .o) (fz := false) (c := c_laws_eqPack) follows tysOk (fns_cons S_laws_eqByteS fns_nil) trivial Try.func32 (by kernel_rfl) (by kernel_rfl) (by decide) (by
  intro vals ext k r h
  obtain ⟨a, a_a, t_a, vals, rfl, h1⟩ := av_some h
  obtain ⟨b, a_b, t_b, vals, rfl, h2⟩ := av_some h1
  obtain ⟨rfl, h3⟩ := nl_some h2
  obtain ⟨rfl, h4⟩ := nl_some h3
  exact (E_laws_eqPack a a_a t_a b a_b t_b k).trans h4)

/-! ### 62 loop.example/g00462/laws.eqPackS -/
noncomputable def c_laws_eqPackS : Code := (Try.f62.body).getD .skip
noncomputable def g_laws_eqPackS : Env Unit := ⟨tys, [(32, s_laws_eqPack)], 0⟩
noncomputable def laws_eqPackS_l0_r (a : List (List Int)) (b : List (List Int)) (i : Int) (rec : Int → Res) (k0 : Unit → Res) (k1 : Unit → Res) : Res :=
  bif decide (i < (nI (List.length a))) then
    bif inb i (List.length a) then
      bif inb i (List.length b) then
        laws_eqPack (nth [] a i) (nth [] b i) fun (r : Bool) =>
          bif !r then
            k1 ()
          else
            rec (wi64 (i + 1))
      else none
    else none
  else
    k0 ()
noncomputable def laws_eqPackS_l0_s (a : List (List Int)) (b : List (List Int)) : Int → (Int → Res) → ((Unit → Res) × (Unit → Res)) → Res := fun v rec q => laws_eqPackS_l0_r a b v (fun i => rec (i)) q.1 q.2
noncomputable def laws_eqPackS_l0 (a : List (List Int)) (b : List (List Int)) (n : Nat) (i : Int) (k0 : Unit → Res) (k1 : Unit → Res) : Res := iter (laws_eqPackS_l0_s a b) n (i) (k0, k1)
noncomputable def xlaws_eqPackS_l0 : Node Unit := fun σ k => rdN σ 27 <| rdV σ 0 y1 false [.S] fun a => rdV σ 1 y1 false [.S] fun b => rdV σ 5 (.int .i64) false [] fun i => laws_eqPackS_l0 a b FUEL i (fun (_ : Unit) => k (.exit 0) (mkS 27 27 [] [])) (fun (_ : Unit) => k .ret (mkS 27 27 [(4, .val ⟨.bool, false, false, []⟩)] []))
theorem elaws_eqPackS_l0 (a : List (List Int)) (b : List (List Int)) (n : Nat) (v : Int) (k : Kont Unit) : loopC (codeC g_laws_eqPackS [] .o (Code.pl (Code.pl (Code.pr (Code.pl (Code.pr (Code.pr c_laws_eqPackS))))))) (fun σ => σ.forget [0, 1, 5] []) (cutC ([], []) [(0, [], [])] ([4], [])) n (mkS 27 27 [(0, .val ⟨y1, false, a, [.S]⟩), (1, .val ⟨y1, false, b, [.S]⟩), (5, .val ⟨(.int .i64), false, v, []⟩)] []) k = iter (laws_eqPackS_l0_s a b) n v ((fun (k : Kont Unit) => (((fun (_ : Unit) => k (.exit 0) (mkS 27 27 [] [])), (fun (_ : Unit) => k .ret (mkS 27 27 [(4, .val ⟨.bool, false, false, []⟩)] []))) : (Unit → Res) × (Unit → Res))) k) := loop_eq (fun v : Int => (mkS 27 27 [(0, .val ⟨y1, false, a, [.S]⟩), (1, .val ⟨y1, false, b, [.S]⟩), (5, .val ⟨(.int .i64), false, v, []⟩)] [])) (laws_eqPackS_l0_s a b) (fun (k : Kont Unit) => (((fun (_ : Unit) => k (.exit 0) (mkS 27 27 [] [])), (fun (_ : Unit) => k .ret (mkS 27 27 [(4, .val ⟨.bool, false, false, []⟩)] []))) : (Unit → Res) × (Unit → Res))) (fun v rec k => by kernel_rfl) n v k
theorem olaws_eqPackS_l0 {W0 : Base} {M : Nat → Prop} (hnp : W0.np ≤ 0) : CodeOk Try.prog W0 M (Code.loop (Code.pl (Code.pl (Code.pr (Code.pl (Code.pr (Code.pr c_laws_eqPackS))))))) xlaws_eqPackS_l0 := loop_ok (code_sound follows tysOk (calls_ok (fns_cons S_laws_eqPack fns_nil)) hnp [] _ .o trivial) (ks := [0, 1, 5]) (bs := []) (fX := (cutC ([], []) [(0, [], [])] ([4], []))) (cutC_le _ _ _) FUEL (by
  intro σ k r h
  obtain ⟨hn, h1⟩ := rdN_some h
  obtain ⟨a, hs0, h2⟩ := rdV_some h1
  obtain ⟨b, hs1, h3⟩ := rdV_some h2
  obtain ⟨i, hs5, h4⟩ := rdV_some h3
  refine ⟨_, ?_, (elaws_eqPackS_l0 a b FUEL (i) k).trans h4⟩
  exact mkS_le hn ⟨hs0, hs1, hs5, trivial⟩ trivial)
noncomputable def laws_eqPackS (a : List (List Int)) (b : List (List Int)) (k0 : Bool → Res) : Res :=
  bif ((nI (List.length a)) != (nI (List.length b))) then
    k0 false
  else
    laws_eqPackS_l0 a b FUEL 0
      (fun (_ : Unit) =>
        k0 true)
      (fun (_ : Unit) =>
        k0 false)
noncomputable def s_laws_eqPackS : Sig Unit := ⟨[.borrow y1 false, .borrow y1 false], [false], fun vals ext k => av vals y1 fun a vals => av vals y1 fun b vals => nl vals <| nl ext <| laws_eqPackS a b (fun (r0 : Bool) => k [⟨.bool, false, r0, []⟩] [] [])⟩
theorem E_laws_eqPackS (a : List (List Int)) (a_a : Bool) (t_a : List Tag) (b : List (List Int)) (a_b : Bool) (t_b : List Tag) (k : List TVal → List TVal → List TVal → Res) : funC g_laws_eqPackS [xlaws_eqPackS_l0] (.t .o (.t .o (.t (.t .o (.t (.x 0) .o)) .o))) false Try.f62 [.borrow y1 false, .borrow y1 false] [false] [⟨y1, a_a, a, t_a⟩, ⟨y1, a_b, b, t_b⟩] [] k = laws_eqPackS a b (fun (r0 : Bool) => k [⟨.bool, false, r0, []⟩] [] []) := by kernel_rfl
theorem S_laws_eqPackS : Sound Try.prog 62 s_laws_eqPackS := sound_of (Γ := g_laws_eqPackS) (X := [xlaws_eqPackS_l0]) (ht := (.t .o (.t .o (.t (.t .o (.t (.x 0) .o)) .o)))) (fz := false) (c := c_laws_eqPackS) follows tysOk (fns_cons S_laws_eqPack fns_nil) (OrOk.mk trivial ((OrOk.mk trivial ((OrOk.mk ((OrOk.mk trivial ((OrOk.mk (OrOk.x_mk (fun W0 M hnp => olaws_eqPackS_l0 (W0 := W0) (M := M) hnp)) trivial)))) trivial))))) Try.func62 (by kernel_rfl) (by kernel_rfl) (by decide) (by
  intro vals ext k r h
  obtain ⟨a, a_a, t_a, vals, rfl, h1⟩ := av_some h
  obtain ⟨b, a_b, t_b, vals, rfl, h2⟩ := av_some h1
  obtain ⟨rfl, h3⟩ := nl_some h2
  obtain ⟨rfl, h4⟩ := nl_some h3
  exact (E_laws_eqPackS a a_a t_a b a_b t_b k).trans h4)

/-! ### 18 loop.example/g00462/laws.eqNet -/
noncomputable def c_laws_eqNet : Code := (Try.f18.body).getD .skip
noncomputable def g_laws_eqNet : Env Unit := ⟨tys, [(62, s_laws_eqPackS)], 0⟩
noncomputable def laws_eqNet (a : List (List Int)) (b : List (List Int)) (k0 : Bool → Res) : Res :=
  laws_eqPackS a b fun (r : Bool) =>
    bif !r then
      k0 false
    else
      k0 true
noncomputable def s_laws_eqNet : Sig Unit := ⟨[.borrow y1 true, .borrow y1 true], [false], fun vals ext k => av vals y1 fun a vals => av vals y1 fun b vals => nl vals <| nl ext <| laws_eqNet a b (fun (r0 : Bool) => k [⟨.bool, false, r0, []⟩] [] [])⟩
theorem E_laws_eqNet (a : List (List Int)) (a_a : Bool) (t_a : List Tag) (b : List (List Int)) (a_b : Bool) (t_b : List Tag) (k : List TVal → List TVal → List TVal → Res) : funC g_laws_eqNet [] .o false Try.f18 [.borrow y1 true, .borrow y1 true] [false] [⟨y1, a_a, a, t_a⟩, ⟨y1, a_b, b, t_b⟩] [] k = laws_eqNet a b (fun (r0 : Bool) => k [⟨.bool, false, r0, []⟩] [] []) := by kernel_rfl
theorem S_laws_eqNet : Sound Try.prog 18 s_laws_eqNet := sound_of (Γ := g_laws_eqNet) (X := []) (ht := .o) (fz := false) (c := c_laws_eqNet) follows tysOk (fns_cons S_laws_eqPackS fns_nil) trivial Try.func18 (by kernel_rfl) (by kernel_rfl) (by decide) (by
  intro vals ext k r h
  obtain ⟨a, a_a, t_a, vals, rfl, h1⟩ := av_some h
  obtain ⟨b, a_b, t_b, vals, rfl, h2⟩ := av_some h1
  obtain ⟨rfl, h3⟩ := nl_some h2
  obtain ⟨rfl, h4⟩ := nl_some h3
  exact (E_laws_eqNet a a_a t_a b a_b t_b k).trans h4)

/-! ### 3 loop.example/g00462/laws.FnExactNetOk -/
noncomputable def c_laws_FnExactNetOk : Code := (Try.f3.body).getD .skip
noncomputable def g_laws_FnExactNetOk : Env Unit := ⟨tys, [(14, s_laws_szNet), (15, s_spec_NetOk), (16, s_laws_toNet), (17, s_impl_NetOk), (18, s_laws_eqNet)], 0⟩
noncomputable def laws_FnExactNetOk (aN : List (List Int)) (k0 : Bool → Res) : Res :=
  laws_szNet aN 1048576 fun (r : Int) =>
    bif decide (r < 0) then
      k0 true
    else
      laws_toNet aN fun (r1 : List (List Int)) =>
        spec_NetOk r1 fun (r2 : Bool) =>
          laws_toNet aN fun (r3 : List (List Int)) =>
            impl_NetOk r3 fun (r4 : Bool) =>
              bif !(r4 == r2) then
                k0 false
              else
                laws_toNet aN fun (r5 : List (List Int)) =>
                  laws_eqNet r3 r5 fun (r6 : Bool) =>
                    bif !r6 then
                      k0 false
                    else
                      k0 true
noncomputable def s_laws_FnExactNetOk : Sig Unit := ⟨[.borrow y1 true], [false], fun vals ext k => av vals y1 fun aN vals => nl vals <| nl ext <| laws_FnExactNetOk aN (fun (r0 : Bool) => k [⟨.bool, false, r0, []⟩] [] [])⟩
theorem E_laws_FnExactNetOk (aN : List (List Int)) (a_aN : Bool) (t_aN : List Tag) (k : List TVal → List TVal → List TVal → Res) : funC g_laws_FnExactNetOk [] .o false Try.f3 [.borrow y1 true] [false] [⟨y1, a_aN, aN, t_aN⟩] [] k = laws_FnExactNetOk aN (fun (r0 : Bool) => k [⟨.bool, false, r0, []⟩] [] []) := by kernel_rfl
theorem S_laws_FnExactNetOk : Sound Try.prog 3 s_laws_FnExactNetOk := sound_of (Γ := g_laws_FnExactNetOk) (X := []) (ht := .o) (fz := false) (c := c_laws_FnExactNetOk) follows tysOk (fns_cons S_laws_szNet (fns_cons S_spec_NetOk (fns_cons S_laws_toNet (fns_cons S_impl_NetOk (fns_cons S_laws_eqNet fns_nil))))) trivial Try.func3 (by kernel_rfl) (by kernel_rfl) (by decide) (by
  intro vals ext k r h
  obtain ⟨aN, a_aN, t_aN, vals, rfl, h1⟩ := av_some h
  obtain ⟨rfl, h2⟩ := nl_some h1
  obtain ⟨rfl, h3⟩ := nl_some h2
  exact (E_laws_FnExactNetOk aN a_aN t_aN k).trans h3)

/-! ### 75 loop.example/g00462/spec.l15Pack -/
noncomputable def c_spec_l15Pack : Code := (Try.f75.body).getD .skip
noncomputable def g_spec_l15Pack : Env Unit := ⟨tys, [], 0⟩
noncomputable def spec_l15Pack (p : List Int) (k0 : (List Int) → Res) : Res :=
  bif lim (0 + (List.length p)) then
    k0 p
  else none
noncomputable def s_spec_l15Pack : Sig Unit := ⟨[.borrow y0 true], [true], fun vals ext k => av vals y0 fun p vals => nl vals <| nl ext <| spec_l15Pack p (fun (r0 : List Int) => k [⟨y0, true, r0, [.O]⟩] [] [])⟩
theorem E_spec_l15Pack (p : List Int) (a_p : Bool) (t_p : List Tag) (k : List TVal → List TVal → List TVal → Res) : funC g_spec_l15Pack [] .o false Try.f75 [.borrow y0 true] [true] [⟨y0, a_p, p, t_p⟩] [] k = spec_l15Pack p (fun (r0 : List Int) => k [⟨y0, true, r0, [.O]⟩] [] []) := by kernel_rfl
theorem S_spec_l15Pack : Sound Try.prog 75 s_spec_l15Pack := sound_of (Γ := g_spec_l15Pack) (X := []) (ht := .o) (fz := false) (c := c_spec_l15Pack) follows tysOk fns_nil trivial Try.func75 (by kernel_rfl) (by kernel_rfl) (by decide) (by
  intro vals ext k r h
  obtain ⟨p, a_p, t_p, vals, rfl, h1⟩ := av_some h
  obtain ⟨rfl, h2⟩ := nl_some h1
  obtain ⟨rfl, h3⟩ := nl_some h2
  exact (E_spec_l15Pack p a_p t_p k).trans h3)

/-! ### 70 loop.example/g00462/spec.l15But -/
noncomputable def c_spec_l15But : Code := (Try.f70.body).getD .skip
noncomputable def g_spec_l15But : Env Unit := ⟨tys, [(75, s_spec_l15Pack)], 0⟩
noncomputable def spec_l15But_l0_r (at_ : Int) (t11 : Int) (n_ : List (List Int)) (t12 : Int) (out : List (List Int)) (rec : Int → (List (List Int)) → Res) (k0 : (List (List Int)) → Res) : Res :=
  bif decide (t12 < t11) then
    bif inb t12 (List.length n_) then
      bif (t12 != at_) then
        spec_l15Pack (nth [] n_ t12) fun (r : List Int) =>
          bif lim ((List.length out) + 1) then
            rec (wi64 (t12 + 1)) (out ++ [r])
          else none
      else
        rec (wi64 (t12 + 1)) out
    else none
  else
    k0 out
noncomputable def spec_l15But_l0_s (at_ : Int) (t11 : Int) (n_ : List (List Int)) : (Int × (List (List Int))) → (Int × (List (List Int)) → Res) → (((List (List Int)) → Res)) → Res := fun v rec q => spec_l15But_l0_r at_ t11 n_ v.1 v.2 (fun t12 out => rec (t12, out)) q
noncomputable def spec_l15But_l0 (at_ : Int) (t11 : Int) (n_ : List (List Int)) (n : Nat) (t12 : Int) (out : List (List Int)) (k0 : (List (List Int)) → Res) : Res := iter (spec_l15But_l0_s at_ t11 n_) n (t12, out) (k0)
noncomputable def xspec_l15But_l0 : Node Unit := fun σ k => rdN σ 29 <| rdV σ 1 (.int .i64) false [] fun at_ => rdT σ 4 (.ptr ⟨true, 4, []⟩) <| rdT σ 5 (.ptr ⟨true, 5, []⟩) <| rdT σ 10 (.ref ⟨true, 2, []⟩ false) <| rdV σ 11 (.int .i64) false [] fun t11 => rdV σ 12 (.int .i64) false [] fun t12 => rdB σ 2 y1 [.S] fun a n_ => rdB σ 4 y1 [.O] fun a1 t4 => rdB σ 5 y1 [.O] fun a2 out => spec_l15But_l0 at_ t11 n_ FUEL t12 out (fun (out1 : List (List Int)) => k (.exit 0) (mkS 29 29 [(4, .ptr ⟨true, 4, []⟩), (5, .ptr ⟨true, 5, []⟩)] [(4, ⟨y1, a1, t4, [.O]⟩), (5, ⟨y1, a2, out1, [.O]⟩)]))
theorem espec_l15But_l0 (at_ : Int) (t11 : Int) (a : Bool) (n_ : List (List Int)) (a1 : Bool) (t4 : List (List Int)) (a2 : Bool) (n : Nat) (v : Int × (List (List Int))) (k : Kont Unit) : loopC (codeC g_spec_l15But [] .o (Code.pl (Code.pl (Code.pr (Code.pl (Code.pr (Code.pr c_spec_l15But))))))) (fun σ => σ.forget [1, 4, 5, 10, 11, 12] [2, 4, 5]) (cutC ([], []) [(0, [4, 5], [4, 5])] ([], [])) n (mkS 29 29 [(1, .val ⟨(.int .i64), false, at_, []⟩), (4, .ptr ⟨true, 4, []⟩), (5, .ptr ⟨true, 5, []⟩), (10, .ref ⟨true, 2, []⟩ false), (11, .val ⟨(.int .i64), false, t11, []⟩), (12, .val ⟨(.int .i64), false, v.1, []⟩)] [(2, ⟨y1, a, n_, [.S]⟩), (4, ⟨y1, a1, t4, [.O]⟩), (5, ⟨y1, a2, v.2, [.O]⟩)]) k = iter (spec_l15But_l0_s at_ t11 n_) n v ((fun (k : Kont Unit) => (((fun (out1 : List (List Int)) => k (.exit 0) (mkS 29 29 [(4, .ptr ⟨true, 4, []⟩), (5, .ptr ⟨true, 5, []⟩)] [(4, ⟨y1, a1, t4, [.O]⟩), (5, ⟨y1, a2, out1, [.O]⟩)]))) : ((List (List Int)) → Res))) k) := loop_eq (fun v : Int × (List (List Int)) => (mkS 29 29 [(1, .val ⟨(.int .i64), false, at_, []⟩), (4, .ptr ⟨true, 4, []⟩), (5, .ptr ⟨true, 5, []⟩), (10, .ref ⟨true, 2, []⟩ false), (11, .val ⟨(.int .i64), false, t11, []⟩), (12, .val ⟨(.int .i64), false, v.1, []⟩)] [(2, ⟨y1, a, n_, [.S]⟩), (4, ⟨y1, a1, t4, [.O]⟩), (5, ⟨y1, a2, v.2, [.O]⟩)])) (spec_l15But_l0_s at_ t11 n_) (fun (k : Kont Unit) => (((fun (out1 : List (List Int)) => k (.exit 0) (mkS 29 29 [(4, .ptr ⟨true, 4, []⟩), (5, .ptr ⟨true, 5, []⟩)] [(4, ⟨y1, a1, t4, [.O]⟩), (5, ⟨y1, a2, out1, [.O]⟩)]))) : ((List (List Int)) → Res))) (fun v rec k => by kernel_rfl) n v k
theorem ospec_l15But_l0 {W0 : Base} {M : Nat → Prop} (hnp : W0.np ≤ 0) : CodeOk Try.prog W0 M (Code.loop (Code.pl (Code.pl (Code.pr (Code.pl (Code.pr (Code.pr c_spec_l15But))))))) xspec_l15But_l0 := loop_ok (code_sound follows tysOk (calls_ok (fns_cons S_spec_l15Pack fns_nil)) hnp [] _ .o trivial) (ks := [1, 4, 5, 10, 11, 12]) (bs := [2, 4, 5]) (fX := (cutC ([], []) [(0, [4, 5], [4, 5])] ([], []))) (cutC_le _ _ _) FUEL (by
  intro σ k r h
  obtain ⟨hn, h1⟩ := rdN_some h
  obtain ⟨at_, hs1, h2⟩ := rdV_some h1
  obtain ⟨hs4, h3⟩ := rdT_some h2
  obtain ⟨hs5, h4⟩ := rdT_some h3
  obtain ⟨hs10, h5⟩ := rdT_some h4
  obtain ⟨t11, hs11, h6⟩ := rdV_some h5
  obtain ⟨t12, hs12, h7⟩ := rdV_some h6
  obtain ⟨a, n_, hb2, h8⟩ := rdB_some h7
  obtain ⟨a1, t4, hb4, h9⟩ := rdB_some h8
  obtain ⟨a2, out, hb5, h10⟩ := rdB_some h9
  refine ⟨_, ?_, (espec_l15But_l0 at_ t11 a n_ a1 t4 a2 FUEL (t12, out) k).trans h10⟩
  exact mkS_le hn ⟨hs1, hs4, hs5, hs10, hs11, hs12, trivial⟩ ⟨hb2, hb4, hb5, trivial⟩)
noncomputable def spec_l15But (n_ : List (List Int)) (at_ : Int) (k0 : (List (List Int)) → Res) : Res :=
  spec_l15But_l0 at_ (nI (List.length n_)) n_ FUEL 0 [] fun (out : List (List Int)) =>
    k0 out
noncomputable def s_spec_l15But : Sig Unit := ⟨[.borrow y1 true, .borrow (.int .i64) false], [true], fun vals ext k => av vals y1 fun n_ vals => av vals (.int .i64) fun at_ vals => nl vals <| nl ext <| spec_l15But n_ at_ (fun (r0 : List (List Int)) => k [⟨y1, true, r0, [.O]⟩] [] [])⟩
theorem E_spec_l15But (n_ : List (List Int)) (a_n_ : Bool) (t_n_ : List Tag) (at_ : Int) (a_at_ : Bool) (t_at_ : List Tag) (k : List TVal → List TVal → List TVal → Res) : funC g_spec_l15But [xspec_l15But_l0] (.t .o (.t .o (.t (.t .o (.t (.x 0) .o)) .o))) false Try.f70 [.borrow y1 true, .borrow (.int .i64) false] [true] [⟨y1, a_n_, n_, t_n_⟩, ⟨(.int .i64), a_at_, at_, t_at_⟩] [] k = spec_l15But n_ at_ (fun (r0 : List (List Int)) => k [⟨y1, true, r0, [.O]⟩] [] []) := by kernel_rfl
theorem S_spec_l15But : Sound Try.prog 70 s_spec_l15But := sound_of (Γ := g_spec_l15But) (X := [xspec_l15But_l0]) (ht := (.t .o (.t .o (.t (.t .o (.t (.x 0) .o)) .o)))) (fz := false) (c := c_spec_l15But) follows tysOk (fns_cons S_spec_l15Pack fns_nil) (OrOk.mk trivial ((OrOk.mk trivial ((OrOk.mk ((OrOk.mk trivial ((OrOk.mk (OrOk.x_mk (fun W0 M hnp => ospec_l15But_l0 (W0 := W0) (M := M) hnp)) trivial)))) trivial))))) Try.func70 (by kernel_rfl) (by kernel_rfl) (by decide) (by
  intro vals ext k r h
  obtain ⟨n_, a_n_, t_n_, vals, rfl, h1⟩ := av_some h
  obtain ⟨at_, a_at_, t_at_, vals, rfl, h2⟩ := av_some h1
  obtain ⟨rfl, h3⟩ := nl_some h2
  obtain ⟨rfl, h4⟩ := nl_some h3
  exact (E_spec_l15But n_ a_n_ t_n_ at_ a_at_ t_at_ k).trans h4)

/-! ### 24 loop.example/g00462/spec.NetLose -/
noncomputable def c_spec_NetLose : Code := (Try.f24.body).getD .skip
noncomputable def g_spec_NetLose : Env Unit := ⟨tys, [(15, s_spec_NetOk), (70, s_spec_l15But)], 0⟩
noncomputable def spec_NetLose (n_ : List (List Int)) (i : Int) (k0 : (List (List Int)) → Res) : Res :=
  spec_NetOk n_ fun (r : Bool) =>
    bif !r then
      k0 []
    else
      spec_l15But n_ i fun (r1 : List (List Int)) =>
        k0 r1
noncomputable def s_spec_NetLose : Sig Unit := ⟨[.borrow y1 true, .borrow (.int .i64) false], [true], fun vals ext k => av vals y1 fun n_ vals => av vals (.int .i64) fun i vals => nl vals <| nl ext <| spec_NetLose n_ i (fun (r0 : List (List Int)) => k [⟨y1, true, r0, [.O]⟩] [] [])⟩
theorem E_spec_NetLose (n_ : List (List Int)) (a_n_ : Bool) (t_n_ : List Tag) (i : Int) (a_i : Bool) (t_i : List Tag) (k : List TVal → List TVal → List TVal → Res) : funC g_spec_NetLose [] .o false Try.f24 [.borrow y1 true, .borrow (.int .i64) false] [true] [⟨y1, a_n_, n_, t_n_⟩, ⟨(.int .i64), a_i, i, t_i⟩] [] k = spec_NetLose n_ i (fun (r0 : List (List Int)) => k [⟨y1, true, r0, [.O]⟩] [] []) := by kernel_rfl
theorem S_spec_NetLose : Sound Try.prog 24 s_spec_NetLose := sound_of (Γ := g_spec_NetLose) (X := []) (ht := .o) (fz := false) (c := c_spec_NetLose) follows tysOk (fns_cons S_spec_NetOk (fns_cons S_spec_l15But fns_nil)) trivial Try.func24 (by kernel_rfl) (by kernel_rfl) (by decide) (by
  intro vals ext k r h
  obtain ⟨n_, a_n_, t_n_, vals, rfl, h1⟩ := av_some h
  obtain ⟨i, a_i, t_i, vals, rfl, h2⟩ := av_some h1
  obtain ⟨rfl, h3⟩ := nl_some h2
  obtain ⟨rfl, h4⟩ := nl_some h3
  exact (E_spec_NetLose n_ a_n_ t_n_ i a_i t_i k).trans h4)

/-! ### 77 loop.example/g00462/impl.copyPack -/
noncomputable def c_impl_copyPack : Code := (Try.f77.body).getD .skip
noncomputable def g_impl_copyPack : Env Unit := ⟨tys, [], 0⟩
noncomputable def impl_copyPack (p : List Int) (k0 : (List Int) → Res) : Res :=
  bif lim (0 + (List.length p)) then
    k0 p
  else none
noncomputable def s_impl_copyPack : Sig Unit := ⟨[.borrow y0 true], [true], fun vals ext k => av vals y0 fun p vals => nl vals <| nl ext <| impl_copyPack p (fun (r0 : List Int) => k [⟨y0, true, r0, [.O]⟩] [] [])⟩
theorem E_impl_copyPack (p : List Int) (a_p : Bool) (t_p : List Tag) (k : List TVal → List TVal → List TVal → Res) : funC g_impl_copyPack [] .o false Try.f77 [.borrow y0 true] [true] [⟨y0, a_p, p, t_p⟩] [] k = impl_copyPack p (fun (r0 : List Int) => k [⟨y0, true, r0, [.O]⟩] [] []) := by kernel_rfl
theorem S_impl_copyPack : Sound Try.prog 77 s_impl_copyPack := sound_of (Γ := g_impl_copyPack) (X := []) (ht := .o) (fz := false) (c := c_impl_copyPack) follows tysOk fns_nil trivial Try.func77 (by kernel_rfl) (by kernel_rfl) (by decide) (by
  intro vals ext k r h
  obtain ⟨p, a_p, t_p, vals, rfl, h1⟩ := av_some h
  obtain ⟨rfl, h2⟩ := nl_some h1
  obtain ⟨rfl, h3⟩ := nl_some h2
  exact (E_impl_copyPack p a_p t_p k).trans h3)

/-! ### 71 (loop.example/g00462/impl.Net).without -/
noncomputable def c_impl_Net_without : Code := (Try.f71.body).getD .skip
noncomputable def g_impl_Net_without : Env Unit := ⟨tys, [(77, s_impl_copyPack)], 0⟩
noncomputable def impl_Net_without_l0_r (i : Int) (t11 : Int) (n_ : List (List Int)) (t12 : Int) (out : List (List Int)) (rec : Int → (List (List Int)) → Res) (k0 : (List (List Int)) → Res) : Res :=
  bif decide (t12 < t11) then
    bif inb t12 (List.length n_) then
      bif (t12 != i) then
        impl_copyPack (nth [] n_ t12) fun (r : List Int) =>
          bif lim ((List.length out) + 1) then
            rec (wi64 (t12 + 1)) (out ++ [r])
          else none
      else
        rec (wi64 (t12 + 1)) out
    else none
  else
    k0 out
noncomputable def impl_Net_without_l0_s (i : Int) (t11 : Int) (n_ : List (List Int)) : (Int × (List (List Int))) → (Int × (List (List Int)) → Res) → (((List (List Int)) → Res)) → Res := fun v rec q => impl_Net_without_l0_r i t11 n_ v.1 v.2 (fun t12 out => rec (t12, out)) q
noncomputable def impl_Net_without_l0 (i : Int) (t11 : Int) (n_ : List (List Int)) (n : Nat) (t12 : Int) (out : List (List Int)) (k0 : (List (List Int)) → Res) : Res := iter (impl_Net_without_l0_s i t11 n_) n (t12, out) (k0)
noncomputable def ximpl_Net_without_l0 : Node Unit := fun σ k => rdN σ 29 <| rdV σ 1 (.int .i64) false [] fun i => rdT σ 4 (.ptr ⟨true, 4, []⟩) <| rdT σ 5 (.ptr ⟨true, 5, []⟩) <| rdT σ 10 (.ref ⟨true, 2, []⟩ false) <| rdV σ 11 (.int .i64) false [] fun t11 => rdV σ 12 (.int .i64) false [] fun t12 => rdB σ 2 y1 [.S] fun a n_ => rdB σ 4 y1 [.O] fun a1 t4 => rdB σ 5 y1 [.O] fun a2 out => impl_Net_without_l0 i t11 n_ FUEL t12 out (fun (out1 : List (List Int)) => k (.exit 0) (mkS 29 29 [(4, .ptr ⟨true, 4, []⟩), (5, .ptr ⟨true, 5, []⟩)] [(4, ⟨y1, a1, t4, [.O]⟩), (5, ⟨y1, a2, out1, [.O]⟩)]))
theorem eimpl_Net_without_l0 (i : Int) (t11 : Int) (a : Bool) (n_ : List (List Int)) (a1 : Bool) (t4 : List (List Int)) (a2 : Bool) (n : Nat) (v : Int × (List (List Int))) (k : Kont Unit) : loopC (codeC g_impl_Net_without [] .o (Code.pl (Code.pl (Code.pr (Code.pl (Code.pr (Code.pr c_impl_Net_without))))))) (fun σ => σ.forget [1, 4, 5, 10, 11, 12] [2, 4, 5]) (cutC ([], []) [(0, [4, 5], [4, 5])] ([], [])) n (mkS 29 29 [(1, .val ⟨(.int .i64), false, i, []⟩), (4, .ptr ⟨true, 4, []⟩), (5, .ptr ⟨true, 5, []⟩), (10, .ref ⟨true, 2, []⟩ false), (11, .val ⟨(.int .i64), false, t11, []⟩), (12, .val ⟨(.int .i64), false, v.1, []⟩)] [(2, ⟨y1, a, n_, [.S]⟩), (4, ⟨y1, a1, t4, [.O]⟩), (5, ⟨y1, a2, v.2, [.O]⟩)]) k = iter (impl_Net_without_l0_s i t11 n_) n v ((fun (k : Kont Unit) => (((fun (out1 : List (List Int)) => k (.exit 0) (mkS 29 29 [(4, .ptr ⟨true, 4, []⟩), (5, .ptr ⟨true, 5, []⟩)] [(4, ⟨y1, a1, t4, [.O]⟩), (5, ⟨y1, a2, out1, [.O]⟩)]))) : ((List (List Int)) → Res))) k) := loop_eq (fun v : Int × (List (List Int)) => (mkS 29 29 [(1, .val ⟨(.int .i64), false, i, []⟩), (4, .ptr ⟨true, 4, []⟩), (5, .ptr ⟨true, 5, []⟩), (10, .ref ⟨true, 2, []⟩ false), (11, .val ⟨(.int .i64), false, t11, []⟩), (12, .val ⟨(.int .i64), false, v.1, []⟩)] [(2, ⟨y1, a, n_, [.S]⟩), (4, ⟨y1, a1, t4, [.O]⟩), (5, ⟨y1, a2, v.2, [.O]⟩)])) (impl_Net_without_l0_s i t11 n_) (fun (k : Kont Unit) => (((fun (out1 : List (List Int)) => k (.exit 0) (mkS 29 29 [(4, .ptr ⟨true, 4, []⟩), (5, .ptr ⟨true, 5, []⟩)] [(4, ⟨y1, a1, t4, [.O]⟩), (5, ⟨y1, a2, out1, [.O]⟩)]))) : ((List (List Int)) → Res))) (fun v rec k => by kernel_rfl) n v k
theorem oimpl_Net_without_l0 {W0 : Base} {M : Nat → Prop} (hnp : W0.np ≤ 0) : CodeOk Try.prog W0 M (Code.loop (Code.pl (Code.pl (Code.pr (Code.pl (Code.pr (Code.pr c_impl_Net_without))))))) ximpl_Net_without_l0 := loop_ok (code_sound follows tysOk (calls_ok (fns_cons S_impl_copyPack fns_nil)) hnp [] _ .o trivial) (ks := [1, 4, 5, 10, 11, 12]) (bs := [2, 4, 5]) (fX := (cutC ([], []) [(0, [4, 5], [4, 5])] ([], []))) (cutC_le _ _ _) FUEL (by
  intro σ k r h
  obtain ⟨hn, h1⟩ := rdN_some h
  obtain ⟨i, hs1, h2⟩ := rdV_some h1
  obtain ⟨hs4, h3⟩ := rdT_some h2
  obtain ⟨hs5, h4⟩ := rdT_some h3
  obtain ⟨hs10, h5⟩ := rdT_some h4
  obtain ⟨t11, hs11, h6⟩ := rdV_some h5
  obtain ⟨t12, hs12, h7⟩ := rdV_some h6
  obtain ⟨a, n_, hb2, h8⟩ := rdB_some h7
  obtain ⟨a1, t4, hb4, h9⟩ := rdB_some h8
  obtain ⟨a2, out, hb5, h10⟩ := rdB_some h9
  refine ⟨_, ?_, (eimpl_Net_without_l0 i t11 a n_ a1 t4 a2 FUEL (t12, out) k).trans h10⟩
  exact mkS_le hn ⟨hs1, hs4, hs5, hs10, hs11, hs12, trivial⟩ ⟨hb2, hb4, hb5, trivial⟩)
noncomputable def impl_Net_without (n_ : List (List Int)) (i : Int) (k0 : (List (List Int)) → Res) : Res :=
  impl_Net_without_l0 i (nI (List.length n_)) n_ FUEL 0 [] fun (out : List (List Int)) =>
    k0 out
noncomputable def s_impl_Net_without : Sig Unit := ⟨[.borrow y1 true, .borrow (.int .i64) false], [true], fun vals ext k => av vals y1 fun n_ vals => av vals (.int .i64) fun i vals => nl vals <| nl ext <| impl_Net_without n_ i (fun (r0 : List (List Int)) => k [⟨y1, true, r0, [.O]⟩] [] [])⟩
theorem E_impl_Net_without (n_ : List (List Int)) (a_n_ : Bool) (t_n_ : List Tag) (i : Int) (a_i : Bool) (t_i : List Tag) (k : List TVal → List TVal → List TVal → Res) : funC g_impl_Net_without [ximpl_Net_without_l0] (.t .o (.t .o (.t (.t .o (.t (.x 0) .o)) .o))) false Try.f71 [.borrow y1 true, .borrow (.int .i64) false] [true] [⟨y1, a_n_, n_, t_n_⟩, ⟨(.int .i64), a_i, i, t_i⟩] [] k = impl_Net_without n_ i (fun (r0 : List (List Int)) => k [⟨y1, true, r0, [.O]⟩] [] []) := by kernel_rfl
theorem S_impl_Net_without : Sound Try.prog 71 s_impl_Net_without := sound_of (Γ := g_impl_Net_without) (X := [ximpl_Net_without_l0]) (ht := (.t .o (.t .o (.t (.t .o (.t (.x 0) .o)) .o)))) (fz := false) (c := c_impl_Net_without) follows tysOk (fns_cons S_impl_copyPack fns_nil) (OrOk.mk trivial ((OrOk.mk trivial ((OrOk.mk ((OrOk.mk trivial ((OrOk.mk (OrOk.x_mk (fun W0 M hnp => oimpl_Net_without_l0 (W0 := W0) (M := M) hnp)) trivial)))) trivial))))) Try.func71 (by kernel_rfl) (by kernel_rfl) (by decide) (by
  intro vals ext k r h
  obtain ⟨n_, a_n_, t_n_, vals, rfl, h1⟩ := av_some h
  obtain ⟨i, a_i, t_i, vals, rfl, h2⟩ := av_some h1
  obtain ⟨rfl, h3⟩ := nl_some h2
  obtain ⟨rfl, h4⟩ := nl_some h3
  exact (E_impl_Net_without n_ a_n_ t_n_ i a_i t_i k).trans h4)

/-! ### 25 loop.example/g00462/impl.NetLose -/
noncomputable def c_impl_NetLose : Code := (Try.f25.body).getD .skip
noncomputable def g_impl_NetLose : Env Unit := ⟨tys, [(17, s_impl_NetOk), (71, s_impl_Net_without)], 0⟩
noncomputable def impl_NetLose (n_ : List (List Int)) (i : Int) (k0 : (List (List Int)) → Res) : Res :=
  impl_NetOk n_ fun (r : Bool) =>
    bif !r then
      k0 []
    else
      impl_Net_without n_ i fun (r1 : List (List Int)) =>
        k0 r1
noncomputable def s_impl_NetLose : Sig Unit := ⟨[.borrow y1 true, .borrow (.int .i64) false], [true], fun vals ext k => av vals y1 fun n_ vals => av vals (.int .i64) fun i vals => nl vals <| nl ext <| impl_NetLose n_ i (fun (r0 : List (List Int)) => k [⟨y1, true, r0, [.O]⟩] [] [])⟩
theorem E_impl_NetLose (n_ : List (List Int)) (a_n_ : Bool) (t_n_ : List Tag) (i : Int) (a_i : Bool) (t_i : List Tag) (k : List TVal → List TVal → List TVal → Res) : funC g_impl_NetLose [] .o false Try.f25 [.borrow y1 true, .borrow (.int .i64) false] [true] [⟨y1, a_n_, n_, t_n_⟩, ⟨(.int .i64), a_i, i, t_i⟩] [] k = impl_NetLose n_ i (fun (r0 : List (List Int)) => k [⟨y1, true, r0, [.O]⟩] [] []) := by kernel_rfl
theorem S_impl_NetLose : Sound Try.prog 25 s_impl_NetLose := sound_of (Γ := g_impl_NetLose) (X := []) (ht := .o) (fz := false) (c := c_impl_NetLose) follows tysOk (fns_cons S_impl_NetOk (fns_cons S_impl_Net_without fns_nil)) trivial Try.func25 (by kernel_rfl) (by kernel_rfl) (by decide) (by
  intro vals ext k r h
  obtain ⟨n_, a_n_, t_n_, vals, rfl, h1⟩ := av_some h
  obtain ⟨i, a_i, t_i, vals, rfl, h2⟩ := av_some h1
  obtain ⟨rfl, h3⟩ := nl_some h2
  obtain ⟨rfl, h4⟩ := nl_some h3
  exact (E_impl_NetLose n_ a_n_ t_n_ i a_i t_i k).trans h4)

/-! ### 57 loop.example/g00462/laws.markByteS -/
noncomputable def c_laws_markByteS : Code := (Try.f57.body).getD .skip
noncomputable def g_laws_markByteS : Env Unit := ⟨tys, [], 1⟩
noncomputable def laws_markByteS_l0_r (a : List Int) (k_ : Int) (i : Int) (rec : (List Int) → Int → Int → Res) (k0 : (List Int) → Int → Res) : Res :=
  bif decide (i < (nI (List.length a))) then
    bif inb i (List.length a) then
      rec (upd a i (wu8 k_)) (wi64 (k_ + 1)) (wi64 (i + 1))
    else none
  else
    k0 a k_
noncomputable def laws_markByteS_l0_s : ((List Int) × Int × Int) → ((List Int) × Int × Int → Res) → (((List Int) → Int → Res)) → Res := fun v rec q => laws_markByteS_l0_r v.1 v.2.1 v.2.2 (fun a k_ i => rec (a, k_, i)) q
noncomputable def laws_markByteS_l0 (n : Nat) (a : List Int) (k_ : Int) (i : Int) (k0 : (List Int) → Int → Res) : Res := iter (laws_markByteS_l0_s) n (a, k_, i) (k0)
noncomputable def xlaws_markByteS_l0 : Node Unit := fun σ k => rdN σ 20 <| rdV σ 0 y0 false [.O] fun a => rdV σ 1 (.int .i64) false [] fun k_ => rdV σ 5 (.int .i64) false [] fun i => laws_markByteS_l0 FUEL a k_ i (fun (a1 : List Int) (k_1 : Int) => k (.exit 0) (mkS 20 20 [(0, .val ⟨y0, false, a1, [.O]⟩), (1, .val ⟨(.int .i64), false, k_1, []⟩)] []))
theorem elaws_markByteS_l0  (n : Nat) (v : (List Int) × Int × Int) (k : Kont Unit) : loopC (codeC g_laws_markByteS [] .o (Code.pl (Code.pl (Code.pr (Code.pl (Code.pr c_laws_markByteS)))))) (fun σ => σ.forget [0, 1, 5] []) (cutC ([], []) [(0, [0, 1], [])] ([], [])) n (mkS 20 20 [(0, .val ⟨y0, false, v.1, [.O]⟩), (1, .val ⟨(.int .i64), false, v.2.1, []⟩), (5, .val ⟨(.int .i64), false, v.2.2, []⟩)] []) k = iter (laws_markByteS_l0_s) n v ((fun (k : Kont Unit) => (((fun (a1 : List Int) (k_1 : Int) => k (.exit 0) (mkS 20 20 [(0, .val ⟨y0, false, a1, [.O]⟩), (1, .val ⟨(.int .i64), false, k_1, []⟩)] []))) : ((List Int) → Int → Res))) k) := loop_eq (fun v : (List Int) × Int × Int => (mkS 20 20 [(0, .val ⟨y0, false, v.1, [.O]⟩), (1, .val ⟨(.int .i64), false, v.2.1, []⟩), (5, .val ⟨(.int .i64), false, v.2.2, []⟩)] [])) (laws_markByteS_l0_s) (fun (k : Kont Unit) => (((fun (a1 : List Int) (k_1 : Int) => k (.exit 0) (mkS 20 20 [(0, .val ⟨y0, false, a1, [.O]⟩), (1, .val ⟨(.int .i64), false, k_1, []⟩)] []))) : ((List Int) → Int → Res))) (fun v rec k => by kernel_rfl) n v k
theorem olaws_markByteS_l0 {W0 : Base} {M : Nat → Prop} (hnp : W0.np ≤ 1) : CodeOk Try.prog W0 M (Code.loop (Code.pl (Code.pl (Code.pr (Code.pl (Code.pr c_laws_markByteS)))))) xlaws_markByteS_l0 := loop_ok (code_sound follows tysOk (calls_ok fns_nil) hnp [] _ .o trivial) (ks := [0, 1, 5]) (bs := []) (fX := (cutC ([], []) [(0, [0, 1], [])] ([], []))) (cutC_le _ _ _) FUEL (by
  intro σ k r h
  obtain ⟨hn, h1⟩ := rdN_some h
  obtain ⟨a, hs0, h2⟩ := rdV_some h1
  obtain ⟨k_, hs1, h3⟩ := rdV_some h2
  obtain ⟨i, hs5, h4⟩ := rdV_some h3
  refine ⟨_, ?_, (elaws_markByteS_l0  FUEL (a, k_, i) k).trans h4⟩
  exact mkS_le hn ⟨hs0, hs1, hs5, trivial⟩ trivial)
noncomputable def laws_markByteS (a : List Int) (k_ : Int) (k0 : Int → (List Int) → Res) : Res :=
  laws_markByteS_l0 FUEL a k_ 0 fun (a1 : List Int) (k_1 : Int) =>
    k0 k_1 a1
noncomputable def s_laws_markByteS : Sig Unit := ⟨[.inout y0 false, .borrow (.int .i64) false], [false], fun vals ext k => ao vals y0 [.O] fun a vals => av vals (.int .i64) fun k_ vals => nl vals <| nl ext <| laws_markByteS a k_ (fun (r0 : Int) (i0 : List Int) => k [⟨(.int .i64), false, r0, []⟩] [⟨y0, false, i0, [.O]⟩] [])⟩
theorem E_laws_markByteS (a_a : Bool) (a : List Int) (k_ : Int) (a_k_ : Bool) (t_k_ : List Tag) (k : List TVal → List TVal → List TVal → Res) : funC g_laws_markByteS [xlaws_markByteS_l0] (.t .o (.t (.t .o (.t (.x 0) .o)) .o)) false Try.f57 [.inout y0 false, .borrow (.int .i64) false] [false] [⟨y0, a_a, a, [.O]⟩, ⟨(.int .i64), a_k_, k_, t_k_⟩] [] k = laws_markByteS a k_ (fun (r0 : Int) (i0 : List Int) => k [⟨(.int .i64), false, r0, []⟩] [⟨y0, false, i0, [.O]⟩] []) := by kernel_rfl
theorem S_laws_markByteS : Sound Try.prog 57 s_laws_markByteS := sound_of (Γ := g_laws_markByteS) (X := [xlaws_markByteS_l0]) (ht := (.t .o (.t (.t .o (.t (.x 0) .o)) .o))) (fz := false) (c := c_laws_markByteS) follows tysOk fns_nil (OrOk.mk trivial ((OrOk.mk ((OrOk.mk trivial ((OrOk.mk (OrOk.x_mk (fun W0 M hnp => olaws_markByteS_l0 (W0 := W0) (M := M) hnp)) trivial)))) trivial))) Try.func57 (by kernel_rfl) (by kernel_rfl) (by decide) (by
  intro vals ext k r h
  obtain ⟨a_a, a, vals, rfl, h1⟩ := ao_some h
  obtain ⟨k_, a_k_, t_k_, vals, rfl, h2⟩ := av_some h1
  obtain ⟨rfl, h3⟩ := nl_some h2
  obtain ⟨rfl, h4⟩ := nl_some h3
  exact (E_laws_markByteS a_a a k_ a_k_ t_k_ k).trans h4)

/-! ### 72 loop.example/g00462/laws.markPackS -/
noncomputable def c_laws_markPackS : Code := (Try.f72.body).getD .skip
noncomputable def g_laws_markPackS : Env Unit := ⟨tys, [(57, s_laws_markByteS)], 1⟩
noncomputable def laws_markPackS_l0_r (a : List (List Int)) (k_ : Int) (i : Int) (rec : (List (List Int)) → Int → Int → Res) (k0 : (List (List Int)) → Int → Res) : Res :=
  bif decide (i < (nI (List.length a))) then
    bif inb i (List.length a) then
      laws_markByteS (nth [] a i) k_ fun (r : Int) (a1 : List Int) =>
        rec (upd a i a1) r (wi64 (i + 1))
    else none
  else
    k0 a k_
noncomputable def laws_markPackS_l0_s : ((List (List Int)) × Int × Int) → ((List (List Int)) × Int × Int → Res) → (((List (List Int)) → Int → Res)) → Res := fun v rec q => laws_markPackS_l0_r v.1 v.2.1 v.2.2 (fun a k_ i => rec (a, k_, i)) q
noncomputable def laws_markPackS_l0 (n : Nat) (a : List (List Int)) (k_ : Int) (i : Int) (k0 : (List (List Int)) → Int → Res) : Res := iter (laws_markPackS_l0_s) n (a, k_, i) (k0)
noncomputable def xlaws_markPackS_l0 : Node Unit := fun σ k => rdN σ 20 <| rdV σ 0 y1 false [.O] fun a => rdV σ 1 (.int .i64) false [] fun k_ => rdV σ 5 (.int .i64) false [] fun i => laws_markPackS_l0 FUEL a k_ i (fun (a2 : List (List Int)) (k_1 : Int) => k (.exit 0) (mkS 20 20 [(0, .val ⟨y1, false, a2, [.O]⟩), (1, .val ⟨(.int .i64), false, k_1, []⟩)] []))
theorem elaws_markPackS_l0  (n : Nat) (v : (List (List Int)) × Int × Int) (k : Kont Unit) : loopC (codeC g_laws_markPackS [] .o (Code.pl (Code.pl (Code.pr (Code.pl (Code.pr c_laws_markPackS)))))) (fun σ => σ.forget [0, 1, 5] []) (cutC ([], []) [(0, [0, 1], [])] ([], [])) n (mkS 20 20 [(0, .val ⟨y1, false, v.1, [.O]⟩), (1, .val ⟨(.int .i64), false, v.2.1, []⟩), (5, .val ⟨(.int .i64), false, v.2.2, []⟩)] []) k = iter (laws_markPackS_l0_s) n v ((fun (k : Kont Unit) => (((fun (a2 : List (List Int)) (k_1 : Int) => k (.exit 0) (mkS 20 20 [(0, .val ⟨y1, false, a2, [.O]⟩), (1, .val ⟨(.int .i64), false, k_1, []⟩)] []))) : ((List (List Int)) → Int → Res))) k) := loop_eq (fun v : (List (List Int)) × Int × Int => (mkS 20 20 [(0, .val ⟨y1, false, v.1, [.O]⟩), (1, .val ⟨(.int .i64), false, v.2.1, []⟩), (5, .val ⟨(.int .i64), false, v.2.2, []⟩)] [])) (laws_markPackS_l0_s) (fun (k : Kont Unit) => (((fun (a2 : List (List Int)) (k_1 : Int) => k (.exit 0) (mkS 20 20 [(0, .val ⟨y1, false, a2, [.O]⟩), (1, .val ⟨(.int .i64), false, k_1, []⟩)] []))) : ((List (List Int)) → Int → Res))) (fun v rec k => by kernel_rfl) n v k
theorem olaws_markPackS_l0 {W0 : Base} {M : Nat → Prop} (hnp : W0.np ≤ 1) : CodeOk Try.prog W0 M (Code.loop (Code.pl (Code.pl (Code.pr (Code.pl (Code.pr c_laws_markPackS)))))) xlaws_markPackS_l0 := loop_ok (code_sound follows tysOk (calls_ok (fns_cons S_laws_markByteS fns_nil)) hnp [] _ .o trivial) (ks := [0, 1, 5]) (bs := []) (fX := (cutC ([], []) [(0, [0, 1], [])] ([], []))) (cutC_le _ _ _) FUEL (by
  intro σ k r h
  obtain ⟨hn, h1⟩ := rdN_some h
  obtain ⟨a, hs0, h2⟩ := rdV_some h1
  obtain ⟨k_, hs1, h3⟩ := rdV_some h2
  obtain ⟨i, hs5, h4⟩ := rdV_some h3
  refine ⟨_, ?_, (elaws_markPackS_l0  FUEL (a, k_, i) k).trans h4⟩
  exact mkS_le hn ⟨hs0, hs1, hs5, trivial⟩ trivial)
noncomputable def laws_markPackS (a : List (List Int)) (k_ : Int) (k0 : Int → (List (List Int)) → Res) : Res :=
  laws_markPackS_l0 FUEL a k_ 0 fun (a1 : List (List Int)) (k_1 : Int) =>
    k0 k_1 a1
noncomputable def s_laws_markPackS : Sig Unit := ⟨[.inout y1 false, .borrow (.int .i64) false], [false], fun vals ext k => ao vals y1 [.O] fun a vals => av vals (.int .i64) fun k_ vals => nl vals <| nl ext <| laws_markPackS a k_ (fun (r0 : Int) (i0 : List (List Int)) => k [⟨(.int .i64), false, r0, []⟩] [⟨y1, false, i0, [.O]⟩] [])⟩
theorem E_laws_markPackS (a_a : Bool) (a : List (List Int)) (k_ : Int) (a_k_ : Bool) (t_k_ : List Tag) (k : List TVal → List TVal → List TVal → Res) : funC g_laws_markPackS [xlaws_markPackS_l0] (.t .o (.t (.t .o (.t (.x 0) .o)) .o)) false Try.f72 [.inout y1 false, .borrow (.int .i64) false] [false] [⟨y1, a_a, a, [.O]⟩, ⟨(.int .i64), a_k_, k_, t_k_⟩] [] k = laws_markPackS a k_ (fun (r0 : Int) (i0 : List (List Int)) => k [⟨(.int .i64), false, r0, []⟩] [⟨y1, false, i0, [.O]⟩] []) := by kernel_rfl
theorem S_laws_markPackS : Sound Try.prog 72 s_laws_markPackS := sound_of (Γ := g_laws_markPackS) (X := [xlaws_markPackS_l0]) (ht := (.t .o (.t (.t .o (.t (.x 0) .o)) .o))) (fz := false) (c := c_laws_markPackS) follows tysOk (fns_cons S_laws_markByteS fns_nil) (OrOk.mk trivial ((OrOk.mk ((OrOk.mk trivial ((OrOk.mk (OrOk.x_mk (fun W0 M hnp => olaws_markPackS_l0 (W0 := W0) (M := M) hnp)) trivial)))) trivial))) Try.func72 (by kernel_rfl) (by kernel_rfl) (by decide) (by
  intro vals ext k r h
  obtain ⟨a_a, a, vals, rfl, h1⟩ := ao_some h
  obtain ⟨k_, a_k_, t_k_, vals, rfl, h2⟩ := av_some h1
  obtain ⟨rfl, h3⟩ := nl_some h2
  obtain ⟨rfl, h4⟩ := nl_some h3
  exact (E_laws_markPackS a_a a k_ a_k_ t_k_ k).trans h4)

/-! ### 26 loop.example/g00462/laws.markNet -/
noncomputable def c_laws_markNet : Code := (Try.f26.body).getD .skip
noncomputable def g_laws_markNet : Env Unit := ⟨tys, [(72, s_laws_markPackS)], 1⟩
noncomputable def laws_markNet (a : List (List Int)) (k_ : Int) (k0 : Int → (List (List Int)) → Res) : Res :=
  laws_markPackS a k_ fun (r : Int) (a1 : List (List Int)) =>
    k0 r a1
noncomputable def s_laws_markNet : Sig Unit := ⟨[.inout y1 true, .borrow (.int .i64) false], [false], fun vals ext k => ao vals y1 [.O] fun a vals => av vals (.int .i64) fun k_ vals => nl vals <| nl ext <| laws_markNet a k_ (fun (r0 : Int) (i0 : List (List Int)) => k [⟨(.int .i64), false, r0, []⟩] [⟨y1, true, i0, [.O]⟩] [])⟩
theorem E_laws_markNet (a_a : Bool) (a : List (List Int)) (k_ : Int) (a_k_ : Bool) (t_k_ : List Tag) (k : List TVal → List TVal → List TVal → Res) : funC g_laws_markNet [] .o false Try.f26 [.inout y1 true, .borrow (.int .i64) false] [false] [⟨y1, a_a, a, [.O]⟩, ⟨(.int .i64), a_k_, k_, t_k_⟩] [] k = laws_markNet a k_ (fun (r0 : Int) (i0 : List (List Int)) => k [⟨(.int .i64), false, r0, []⟩] [⟨y1, true, i0, [.O]⟩] []) := by kernel_rfl
theorem S_laws_markNet : Sound Try.prog 26 s_laws_markNet := sound_of (Γ := g_laws_markNet) (X := []) (ht := .o) (fz := false) (c := c_laws_markNet) follows tysOk (fns_cons S_laws_markPackS fns_nil) trivial Try.func26 (by kernel_rfl) (by kernel_rfl) (by decide) (by
  intro vals ext k r h
  obtain ⟨a_a, a, vals, rfl, h1⟩ := ao_some h
  obtain ⟨k_, a_k_, t_k_, vals, rfl, h2⟩ := av_some h1
  obtain ⟨rfl, h3⟩ := nl_some h2
  obtain ⟨rfl, h4⟩ := nl_some h3
  exact (E_laws_markNet a_a a k_ a_k_ t_k_ k).trans h4)

/-! ### 87 loop.example/g00462/laws.heldByteS -/
noncomputable def c_laws_heldByteS : Code := (Try.f87.body).getD .skip
noncomputable def g_laws_heldByteS : Env Unit := ⟨tys, [], 0⟩
noncomputable def laws_heldByteS_l0_r (a : List Int) (k_ : Int) (i : Int) (rec : Int → Int → Res) (k0 : Int → Res) (k1 : Unit → Res) : Res :=
  bif decide (i < (nI (List.length a))) then
    bif inb i (List.length a) then
      bif ((nth 0 a i) != (wu8 k_)) then
        k1 ()
      else
        rec (wi64 (k_ + 1)) (wi64 (i + 1))
    else none
  else
    k0 k_
noncomputable def laws_heldByteS_l0_s (a : List Int) : (Int × Int) → (Int × Int → Res) → ((Int → Res) × (Unit → Res)) → Res := fun v rec q => laws_heldByteS_l0_r a v.1 v.2 (fun k_ i => rec (k_, i)) q.1 q.2
noncomputable def laws_heldByteS_l0 (a : List Int) (n : Nat) (k_ : Int) (i : Int) (k0 : Int → Res) (k1 : Unit → Res) : Res := iter (laws_heldByteS_l0_s a) n (k_, i) (k0, k1)
noncomputable def xlaws_heldByteS_l0 : Node Unit := fun σ k => rdN σ 22 <| rdV σ 0 y0 false [.S] fun a => rdV σ 1 (.int .i64) false [] fun k_ => rdV σ 5 (.int .i64) false [] fun i => laws_heldByteS_l0 a FUEL k_ i (fun (k_1 : Int) => k (.exit 0) (mkS 22 22 [(1, .val ⟨(.int .i64), false, k_1, []⟩)] [])) (fun (_ : Unit) => k .ret (mkS 22 22 [(4, .val ⟨(.int .i64), false, (-1), []⟩)] []))
theorem elaws_heldByteS_l0 (a : List Int) (n : Nat) (v : Int × Int) (k : Kont Unit) : loopC (codeC g_laws_heldByteS [] .o (Code.pl (Code.pl (Code.pr (Code.pl (Code.pr c_laws_heldByteS)))))) (fun σ => σ.forget [0, 1, 5] []) (cutC ([], []) [(0, [1], [])] ([4], [])) n (mkS 22 22 [(0, .val ⟨y0, false, a, [.S]⟩), (1, .val ⟨(.int .i64), false, v.1, []⟩), (5, .val ⟨(.int .i64), false, v.2, []⟩)] []) k = iter (laws_heldByteS_l0_s a) n v ((fun (k : Kont Unit) => (((fun (k_1 : Int) => k (.exit 0) (mkS 22 22 [(1, .val ⟨(.int .i64), false, k_1, []⟩)] [])), (fun (_ : Unit) => k .ret (mkS 22 22 [(4, .val ⟨(.int .i64), false, (-1), []⟩)] []))) : (Int → Res) × (Unit → Res))) k) := loop_eq (fun v : Int × Int => (mkS 22 22 [(0, .val ⟨y0, false, a, [.S]⟩), (1, .val ⟨(.int .i64), false, v.1, []⟩), (5, .val ⟨(.int .i64), false, v.2, []⟩)] [])) (laws_heldByteS_l0_s a) (fun (k : Kont Unit) => (((fun (k_1 : Int) => k (.exit 0) (mkS 22 22 [(1, .val ⟨(.int .i64), false, k_1, []⟩)] [])), (fun (_ : Unit) => k .ret (mkS 22 22 [(4, .val ⟨(.int .i64), false, (-1), []⟩)] []))) : (Int → Res) × (Unit → Res))) (fun v rec k => by kernel_rfl) n v k
theorem olaws_heldByteS_l0 {W0 : Base} {M : Nat → Prop} (hnp : W0.np ≤ 0) : CodeOk Try.prog W0 M (Code.loop (Code.pl (Code.pl (Code.pr (Code.pl (Code.pr c_laws_heldByteS)))))) xlaws_heldByteS_l0 := loop_ok (code_sound follows tysOk (calls_ok fns_nil) hnp [] _ .o trivial) (ks := [0, 1, 5]) (bs := []) (fX := (cutC ([], []) [(0, [1], [])] ([4], []))) (cutC_le _ _ _) FUEL (by
  intro σ k r h
  obtain ⟨hn, h1⟩ := rdN_some h
  obtain ⟨a, hs0, h2⟩ := rdV_some h1
  obtain ⟨k_, hs1, h3⟩ := rdV_some h2
  obtain ⟨i, hs5, h4⟩ := rdV_some h3
  refine ⟨_, ?_, (elaws_heldByteS_l0 a FUEL (k_, i) k).trans h4⟩
  exact mkS_le hn ⟨hs0, hs1, hs5, trivial⟩ trivial)
noncomputable def laws_heldByteS (a : List Int) (k_ : Int) (k0 : Int → Res) : Res :=
  laws_heldByteS_l0 a FUEL k_ 0
    (fun (k_1 : Int) =>
      k0 k_1)
    (fun (_ : Unit) =>
      k0 (-1))
noncomputable def s_laws_heldByteS : Sig Unit := ⟨[.borrow y0 false, .borrow (.int .i64) false], [false], fun vals ext k => av vals y0 fun a vals => av vals (.int .i64) fun k_ vals => nl vals <| nl ext <| laws_heldByteS a k_ (fun (r0 : Int) => k [⟨(.int .i64), false, r0, []⟩] [] [])⟩
theorem E_laws_heldByteS (a : List Int) (a_a : Bool) (t_a : List Tag) (k_ : Int) (a_k_ : Bool) (t_k_ : List Tag) (k : List TVal → List TVal → List TVal → Res) : funC g_laws_heldByteS [xlaws_heldByteS_l0] (.t .o (.t (.t .o (.t (.x 0) .o)) .o)) false Try.f87 [.borrow y0 false, .borrow (.int .i64) false] [false] [⟨y0, a_a, a, t_a⟩, ⟨(.int .i64), a_k_, k_, t_k_⟩] [] k = laws_heldByteS a k_ (fun (r0 : Int) => k [⟨(.int .i64), false, r0, []⟩] [] []) := by kernel_rfl
theorem S_laws_heldByteS : Sound Try.prog 87 s_laws_heldByteS := sound_of (Γ := g_laws_heldByteS) (X := [xlaws_heldByteS_l0]) (ht := (.t .o (.t (.t .o (.t (.x 0) .o)) .o))) (fz := false) (c := c_laws_heldByteS) follows tysOk fns_nil (OrOk.mk trivial ((OrOk.mk ((OrOk.mk trivial ((OrOk.mk (OrOk.x_mk (fun W0 M hnp => olaws_heldByteS_l0 (W0 := W0) (M := M) hnp)) trivial)))) trivial))) Try.func87 (by kernel_rfl) (by kernel_rfl) (by decide) (by
  intro vals ext k r h
  obtain ⟨a, a_a, t_a, vals, rfl, h1⟩ := av_some h
  obtain ⟨k_, a_k_, t_k_, vals, rfl, h2⟩ := av_some h1
  obtain ⟨rfl, h3⟩ := nl_some h2
  obtain ⟨rfl, h4⟩ := nl_some h3
  exact (E_laws_heldByteS a a_a t_a k_ a_k_ t_k_ k).trans h4)

/-! ### 73 loop.example/g00462/laws.heldPackS -/
noncomputable def c_laws_heldPackS : Code := (Try.f73.body).getD .skip
noncomputable def g_laws_heldPackS : Env Unit := ⟨tys, [(87, s_laws_heldByteS)], 0⟩
noncomputable def laws_heldPackS_l0_r (a : List (List Int)) (k_ : Int) (i : Int) (rec : Int → Int → Res) (k0 : Int → Res) (k1 : Unit → Res) : Res :=
  bif decide (i < (nI (List.length a))) then
    bif inb i (List.length a) then
      laws_heldByteS (nth [] a i) k_ fun (r : Int) =>
        bif decide (r < 0) then
          k1 ()
        else
          rec r (wi64 (i + 1))
    else none
  else
    k0 k_
noncomputable def laws_heldPackS_l0_s (a : List (List Int)) : (Int × Int) → (Int × Int → Res) → ((Int → Res) × (Unit → Res)) → Res := fun v rec q => laws_heldPackS_l0_r a v.1 v.2 (fun k_ i => rec (k_, i)) q.1 q.2
noncomputable def laws_heldPackS_l0 (a : List (List Int)) (n : Nat) (k_ : Int) (i : Int) (k0 : Int → Res) (k1 : Unit → Res) : Res := iter (laws_heldPackS_l0_s a) n (k_, i) (k0, k1)
noncomputable def xlaws_heldPackS_l0 : Node Unit := fun σ k => rdN σ 22 <| rdV σ 0 y1 false [.S] fun a => rdV σ 1 (.int .i64) false [] fun k_ => rdV σ 5 (.int .i64) false [] fun i => laws_heldPackS_l0 a FUEL k_ i (fun (k_1 : Int) => k (.exit 0) (mkS 22 22 [(1, .val ⟨(.int .i64), false, k_1, []⟩)] [])) (fun (_ : Unit) => k .ret (mkS 22 22 [(4, .val ⟨(.int .i64), false, (-1), []⟩)] []))
theorem elaws_heldPackS_l0 (a : List (List Int)) (n : Nat) (v : Int × Int) (k : Kont Unit) : loopC (codeC g_laws_heldPackS [] .o (Code.pl (Code.pl (Code.pr (Code.pl (Code.pr c_laws_heldPackS)))))) (fun σ => σ.forget [0, 1, 5] []) (cutC ([], []) [(0, [1], [])] ([4], [])) n (mkS 22 22 [(0, .val ⟨y1, false, a, [.S]⟩), (1, .val ⟨(.int .i64), false, v.1, []⟩), (5, .val ⟨(.int .i64), false, v.2, []⟩)] []) k = iter (laws_heldPackS_l0_s a) n v ((fun (k : Kont Unit) => (((fun (k_1 : Int) => k (.exit 0) (mkS 22 22 [(1, .val ⟨(.int .i64), false, k_1, []⟩)] [])), (fun (_ : Unit) => k .ret (mkS 22 22 [(4, .val ⟨(.int .i64), false, (-1), []⟩)] []))) : (Int → Res) × (Unit → Res))) k) := loop_eq (fun v : Int × Int => (mkS 22 22 [(0, .val ⟨y1, false, a, [.S]⟩), (1, .val ⟨(.int .i64), false, v.1, []⟩), (5, .val ⟨(.int .i64), false, v.2, []⟩)] [])) (laws_heldPackS_l0_s a) (fun (k : Kont Unit) => (((fun (k_1 : Int) => k (.exit 0) (mkS 22 22 [(1, .val ⟨(.int .i64), false, k_1, []⟩)] [])), (fun (_ : Unit) => k .ret (mkS 22 22 [(4, .val ⟨(.int .i64), false, (-1), []⟩)] []))) : (Int → Res) × (Unit → Res))) (fun v rec k => by kernel_rfl) n v k
theorem olaws_heldPackS_l0 {W0 : Base} {M : Nat → Prop} (hnp : W0.np ≤ 0) : CodeOk Try.prog W0 M (Code.loop (Code.pl (Code.pl (Code.pr (Code.pl (Code.pr c_laws_heldPackS)))))) xlaws_heldPackS_l0 := loop_ok (code_sound follows tysOk (calls_ok (fns_cons S_laws_heldByteS fns_nil)) hnp [] _ .o trivial) (ks := [0, 1, 5]) (bs := []) (fX := (cutC ([], []) [(0, [1], [])] ([4], []))) (cutC_le _ _ _) FUEL (by
  intro σ k r h
  obtain ⟨hn, h1⟩ := rdN_some h
  obtain ⟨a, hs0, h2⟩ := rdV_some h1
  obtain ⟨k_, hs1, h3⟩ := rdV_some h2
  obtain ⟨i, hs5, h4⟩ := rdV_some h3
  refine ⟨_, ?_, (elaws_heldPackS_l0 a FUEL (k_, i) k).trans h4⟩
  exact mkS_le hn ⟨hs0, hs1, hs5, trivial⟩ trivial)
noncomputable def laws_heldPackS (a : List (List Int)) (k_ : Int) (k0 : Int → Res) : Res :=
  laws_heldPackS_l0 a FUEL k_ 0
    (fun (k_1 : Int) =>
      k0 k_1)
    (fun (_ : Unit) =>
      k0 (-1))
noncomputable def s_laws_heldPackS : Sig Unit := ⟨[.borrow y1 false, .borrow (.int .i64) false], [false], fun vals ext k => av vals y1 fun a vals => av vals (.int .i64) fun k_ vals => nl vals <| nl ext <| laws_heldPackS a k_ (fun (r0 : Int) => k [⟨(.int .i64), false, r0, []⟩] [] [])⟩
theorem E_laws_heldPackS (a : List (List Int)) (a_a : Bool) (t_a : List Tag) (k_ : Int) (a_k_ : Bool) (t_k_ : List Tag) (k : List TVal → List TVal → List TVal → Res) : funC g_laws_heldPackS [xlaws_heldPackS_l0] (.t .o (.t (.t .o (.t (.x 0) .o)) .o)) false Try.f73 [.borrow y1 false, .borrow (.int .i64) false] [false] [⟨y1, a_a, a, t_a⟩, ⟨(.int .i64), a_k_, k_, t_k_⟩] [] k = laws_heldPackS a k_ (fun (r0 : Int) => k [⟨(.int .i64), false, r0, []⟩] [] []) := by kernel_rfl
theorem S_laws_heldPackS : Sound Try.prog 73 s_laws_heldPackS := sound_of (Γ := g_laws_heldPackS) (X := [xlaws_heldPackS_l0]) (ht := (.t .o (.t (.t .o (.t (.x 0) .o)) .o))) (fz := false) (c := c_laws_heldPackS) follows tysOk (fns_cons S_laws_heldByteS fns_nil) (OrOk.mk trivial ((OrOk.mk ((OrOk.mk trivial ((OrOk.mk (OrOk.x_mk (fun W0 M hnp => olaws_heldPackS_l0 (W0 := W0) (M := M) hnp)) trivial)))) trivial))) Try.func73 (by kernel_rfl) (by kernel_rfl) (by decide) (by
  intro vals ext k r h
  obtain ⟨a, a_a, t_a, vals, rfl, h1⟩ := av_some h
  obtain ⟨k_, a_k_, t_k_, vals, rfl, h2⟩ := av_some h1
  obtain ⟨rfl, h3⟩ := nl_some h2
  obtain ⟨rfl, h4⟩ := nl_some h3
  exact (E_laws_heldPackS a a_a t_a k_ a_k_ t_k_ k).trans h4)

/-! ### 27 loop.example/g00462/laws.heldNet -/
noncomputable def c_laws_heldNet : Code := (Try.f27.body).getD .skip
noncomputable def g_laws_heldNet : Env Unit := ⟨tys, [(73, s_laws_heldPackS)], 0⟩
noncomputable def laws_heldNet (a : List (List Int)) (k_ : Int) (k0 : Int → Res) : Res :=
  laws_heldPackS a k_ fun (r : Int) =>
    bif decide (r < 0) then
      k0 (-1)
    else
      k0 r
noncomputable def s_laws_heldNet : Sig Unit := ⟨[.borrow y1 true, .borrow (.int .i64) false], [false], fun vals ext k => av vals y1 fun a vals => av vals (.int .i64) fun k_ vals => nl vals <| nl ext <| laws_heldNet a k_ (fun (r0 : Int) => k [⟨(.int .i64), false, r0, []⟩] [] [])⟩
theorem E_laws_heldNet (a : List (List Int)) (a_a : Bool) (t_a : List Tag) (k_ : Int) (a_k_ : Bool) (t_k_ : List Tag) (k : List TVal → List TVal → List TVal → Res) : funC g_laws_heldNet [] .o false Try.f27 [.borrow y1 true, .borrow (.int .i64) false] [false] [⟨y1, a_a, a, t_a⟩, ⟨(.int .i64), a_k_, k_, t_k_⟩] [] k = laws_heldNet a k_ (fun (r0 : Int) => k [⟨(.int .i64), false, r0, []⟩] [] []) := by kernel_rfl
theorem S_laws_heldNet : Sound Try.prog 27 s_laws_heldNet := sound_of (Γ := g_laws_heldNet) (X := []) (ht := .o) (fz := false) (c := c_laws_heldNet) follows tysOk (fns_cons S_laws_heldPackS fns_nil) trivial Try.func27 (by kernel_rfl) (by kernel_rfl) (by decide) (by
  intro vals ext k r h
  obtain ⟨a, a_a, t_a, vals, rfl, h1⟩ := av_some h
  obtain ⟨k_, a_k_, t_k_, vals, rfl, h2⟩ := av_some h1
  obtain ⟨rfl, h3⟩ := nl_some h2
  obtain ⟨rfl, h4⟩ := nl_some h3
  exact (E_laws_heldNet a a_a t_a k_ a_k_ t_k_ k).trans h4)

/-! ### 5 loop.example/g00462/laws.FnExactNetLose -/
noncomputable def c_laws_FnExactNetLose : Code := (Try.f5.body).getD .skip
noncomputable def g_laws_FnExactNetLose : Env Unit := ⟨tys, [(14, s_laws_szNet), (16, s_laws_toNet), (18, s_laws_eqNet), (24, s_spec_NetLose), (25, s_impl_NetLose), (26, s_laws_markNet), (27, s_laws_heldNet)], 0⟩
noncomputable def laws_FnExactNetLose_p0 (aI : Int) (aN : List (List Int)) (w0 : List (List Int)) (g0 : List (List Int)) (k0 : Bool → Res) : Res :=
  laws_markNet g0 1 fun (r : Int) (a3 : List (List Int)) =>
    laws_heldNet a3 1 fun (r1 : Int) =>
      bif decide (r1 < 0) then
        k0 false
      else
        bif (r1 != r) then
          k0 false
        else
          laws_toNet aN fun (r2 : List (List Int)) =>
            impl_NetLose r2 aI fun (r3 : List (List Int)) =>
              laws_eqNet r3 w0 fun (r4 : Bool) =>
                bif !r4 then
                  k0 false
                else
                  laws_heldNet a3 1 fun (r5 : Int) =>
                    bif decide (r5 < 0) then
                      k0 false
                    else
                      bif (r5 != r) then
                        k0 false
                      else
                        k0 true
noncomputable def xlaws_FnExactNetLose_p0 : Node Unit := fun σ k => rdN σ 74 <| rdV σ 1 (.int .i64) false [] fun aI => rdT σ 2 (.ptr ⟨true, 2, []⟩) <| rdT σ 6 (.ptr ⟨true, 6, []⟩) <| rdT σ 8 (.ptr ⟨true, 8, []⟩) <| rdB σ 2 y1 [.S] fun a aN => rdB σ 6 y1 [.O] fun a1 w0 => rdB σ 8 y1 [.O] fun a2 g0 => laws_FnExactNetLose_p0 aI aN w0 g0 (fun (t4 : Bool) => k .ret (mkS 74 74 [(4, .val ⟨.bool, false, t4, []⟩)] []))
theorem elaws_FnExactNetLose_p0 (aI : Int) (a : Bool) (aN : List (List Int)) (a1 : Bool) (w0 : List (List Int)) (a2 : Bool) (g0 : List (List Int)) (k : Kont Unit) : codeC g_laws_FnExactNetLose [] .o (Code.pr (Code.pr (Code.pr (Code.pr (Code.pr (Code.pr (Code.pr (Code.pr (Code.pr (Code.pr (Code.pr (Code.pr c_laws_FnExactNetLose)))))))))))) (mkS 74 74 [(1, .val ⟨(.int .i64), false, aI, []⟩), (2, .ptr ⟨true, 2, []⟩), (6, .ptr ⟨true, 6, []⟩), (8, .ptr ⟨true, 8, []⟩)] [(2, ⟨y1, a, aN, [.S]⟩), (6, ⟨y1, a1, w0, [.O]⟩), (8, ⟨y1, a2, g0, [.O]⟩)]) (fun e σ => k e ((cutC ([], []) [] ([4], [])) e σ)) = laws_FnExactNetLose_p0 aI aN w0 g0 (fun (t4 : Bool) => k .ret (mkS 74 74 [(4, .val ⟨.bool, false, t4, []⟩)] [])) := by kernel_rfl
theorem olaws_FnExactNetLose_p0 {W0 : Base} {M : Nat → Prop} (hnp : W0.np ≤ 0) : CodeOk Try.prog W0 M (Code.pr (Code.pr (Code.pr (Code.pr (Code.pr (Code.pr (Code.pr (Code.pr (Code.pr (Code.pr (Code.pr (Code.pr c_laws_FnExactNetLose)))))))))))) xlaws_FnExactNetLose_p0 := node_ok (code_sound follows tysOk (calls_ok (fns_cons S_laws_szNet (fns_cons S_laws_toNet (fns_cons S_laws_eqNet (fns_cons S_spec_NetLose (fns_cons S_impl_NetLose (fns_cons S_laws_markNet (fns_cons S_laws_heldNet fns_nil)))))))) hnp [] _ .o trivial) (fg := (cutC ([], []) [] ([4], []))) (cutC_le _ _ _) (by
  intro σ k r h
  obtain ⟨hn, h1⟩ := rdN_some h
  obtain ⟨aI, hs1, h2⟩ := rdV_some h1
  obtain ⟨hs2, h3⟩ := rdT_some h2
  obtain ⟨hs6, h4⟩ := rdT_some h3
  obtain ⟨hs8, h5⟩ := rdT_some h4
  obtain ⟨a, aN, hb2, h6⟩ := rdB_some h5
  obtain ⟨a1, w0, hb6, h7⟩ := rdB_some h6
  obtain ⟨a2, g0, hb8, h8⟩ := rdB_some h7
  refine ⟨_, ?_, (elaws_FnExactNetLose_p0 aI a aN a1 w0 a2 g0 k).trans h8⟩
  exact mkS_le hn ⟨hs1, hs2, hs6, hs8, trivial⟩ ⟨hb2, hb6, hb8, trivial⟩)
noncomputable def laws_FnExactNetLose (aN : List (List Int)) (aI : Int) (k0 : Bool → Res) : Res :=
  laws_szNet aN 1048576 fun (r : Int) =>
    bif decide (r < 0) then
      k0 true
    else
      laws_toNet aN fun (r1 : List (List Int)) =>
        spec_NetLose r1 aI fun (r2 : List (List Int)) =>
          laws_toNet aN fun (r3 : List (List Int)) =>
            impl_NetLose r3 aI fun (r4 : List (List Int)) =>
              laws_eqNet r4 r2 fun (r5 : Bool) =>
                bif !r5 then
                  k0 false
                else
                  laws_toNet aN fun (r6 : List (List Int)) =>
                    laws_eqNet r3 r6 fun (r7 : Bool) =>
                      bif !r7 then
                        k0 false
                      else
                        laws_markNet r3 1 fun (r8 : Int) (a : List (List Int)) =>
                          bif decide (r8 < 0) then
                            k0 false
                          else
                            laws_eqNet r4 r2 fun (r9 : Bool) =>
                              bif !r9 then
                                k0 false
                              else
                                laws_FnExactNetLose_p0 aI aN r2 r4 fun (t : Bool) =>
                                  k0 t
noncomputable def s_laws_FnExactNetLose : Sig Unit := ⟨[.borrow y1 true, .borrow (.int .i64) false], [false], fun vals ext k => av vals y1 fun aN vals => av vals (.int .i64) fun aI vals => nl vals <| nl ext <| laws_FnExactNetLose aN aI (fun (r0 : Bool) => k [⟨.bool, false, r0, []⟩] [] [])⟩
theorem E_laws_FnExactNetLose (aN : List (List Int)) (a_aN : Bool) (t_aN : List Tag) (aI : Int) (a_aI : Bool) (t_aI : List Tag) (k : List TVal → List TVal → List TVal → Res) : funC g_laws_FnExactNetLose [xlaws_FnExactNetLose_p0] (.t .o (.t .o (.t .o (.t .o (.t .o (.t .o (.t .o (.t .o (.t .o (.t .o (.t .o (.t .o (.x 0))))))))))))) false Try.f5 [.borrow y1 true, .borrow (.int .i64) false] [false] [⟨y1, a_aN, aN, t_aN⟩, ⟨(.int .i64), a_aI, aI, t_aI⟩] [] k = laws_FnExactNetLose aN aI (fun (r0 : Bool) => k [⟨.bool, false, r0, []⟩] [] []) := by kernel_rfl
theorem S_laws_FnExactNetLose : Sound Try.prog 5 s_laws_FnExactNetLose := sound_of (Γ := g_laws_FnExactNetLose) (X := [xlaws_FnExactNetLose_p0]) (ht := (.t .o (.t .o (.t .o (.t .o (.t .o (.t .o (.t .o (.t .o (.t .o (.t .o (.t .o (.t .o (.x 0)))))))))))))) (fz := false) (c := c_laws_FnExactNetLose) follows tysOk (fns_cons S_laws_szNet (fns_cons S_laws_toNet (fns_cons S_laws_eqNet (fns_cons S_spec_NetLose (fns_cons S_impl_NetLose (fns_cons S_laws_markNet (fns_cons S_laws_heldNet fns_nil))))))) (OrOk.mk trivial ((OrOk.mk trivial ((OrOk.mk trivial ((OrOk.mk trivial ((OrOk.mk trivial ((OrOk.mk trivial ((OrOk.mk trivial ((OrOk.mk trivial ((OrOk.mk trivial ((OrOk.mk trivial ((OrOk.mk trivial ((OrOk.mk trivial (OrOk.x_mk (fun W0 M hnp => olaws_FnExactNetLose_p0 (W0 := W0) (M := M) hnp))))))))))))))))))))))))) Try.func5 (by kernel_rfl) (by kernel_rfl) (by decide) (by
  intro vals ext k r h
  obtain ⟨aN, a_aN, t_aN, vals, rfl, h1⟩ := av_some h
  obtain ⟨aI, a_aI, t_aI, vals, rfl, h2⟩ := av_some h1
  obtain ⟨rfl, h3⟩ := nl_some h2
  obtain ⟨rfl, h4⟩ := nl_some h3
  exact (E_laws_FnExactNetLose aN a_aN t_aN aI a_aI t_aI k).trans h4)

/-! ### 29 loop.example/g00462/spec.NetSend -/
noncomputable def c_spec_NetSend : Code := (Try.f29.body).getD .skip
noncomputable def g_spec_NetSend : Env Unit := ⟨tys, [(15, s_spec_NetOk), (70, s_spec_l15But), (75, s_spec_l15Pack)], 0⟩
noncomputable def spec_NetSend (n_ : List (List Int)) (p : List Int) (k0 : (List (List Int)) → Res) : Res :=
  spec_NetOk n_ fun (r : Bool) =>
    bif !r then
      k0 []
    else
      spec_l15But n_ (-1) fun (r1 : List (List Int)) =>
        bif decide ((nI (List.length r1)) < 30) then
          spec_l15Pack p fun (r2 : List Int) =>
            bif lim ((List.length r1) + 1) then
              k0 (r1 ++ [r2])
            else none
        else
          k0 r1
noncomputable def s_spec_NetSend : Sig Unit := ⟨[.borrow y1 true, .borrow y0 true], [true], fun vals ext k => av vals y1 fun n_ vals => av vals y0 fun p vals => nl vals <| nl ext <| spec_NetSend n_ p (fun (r0 : List (List Int)) => k [⟨y1, true, r0, [.O]⟩] [] [])⟩
theorem E_spec_NetSend (n_ : List (List Int)) (a_n_ : Bool) (t_n_ : List Tag) (p : List Int) (a_p : Bool) (t_p : List Tag) (k : List TVal → List TVal → List TVal → Res) : funC g_spec_NetSend [] .o false Try.f29 [.borrow y1 true, .borrow y0 true] [true] [⟨y1, a_n_, n_, t_n_⟩, ⟨y0, a_p, p, t_p⟩] [] k = spec_NetSend n_ p (fun (r0 : List (List Int)) => k [⟨y1, true, r0, [.O]⟩] [] []) := by kernel_rfl
theorem S_spec_NetSend : Sound Try.prog 29 s_spec_NetSend := sound_of (Γ := g_spec_NetSend) (X := []) (ht := .o) (fz := false) (c := c_spec_NetSend) follows tysOk (fns_cons S_spec_NetOk (fns_cons S_spec_l15But (fns_cons S_spec_l15Pack fns_nil))) trivial Try.func29 (by kernel_rfl) (by kernel_rfl) (by decide) (by
  intro vals ext k r h
  obtain ⟨n_, a_n_, t_n_, vals, rfl, h1⟩ := av_some h
  obtain ⟨p, a_p, t_p, vals, rfl, h2⟩ := av_some h1
  obtain ⟨rfl, h3⟩ := nl_some h2
  obtain ⟨rfl, h4⟩ := nl_some h3
  exact (E_spec_NetSend n_ a_n_ t_n_ p a_p t_p k).trans h4)

/-! ### 76 loop.example/g00462/impl.copyNet -/
noncomputable def c_impl_copyNet : Code := (Try.f76.body).getD .skip
noncomputable def g_impl_copyNet : Env Unit := ⟨tys, [(77, s_impl_copyPack)], 0⟩
noncomputable def impl_copyNet_l0_r (t9 : Int) (n_ : List (List Int)) (t10 : Int) (out : List (List Int)) (rec : Int → (List (List Int)) → Res) (k0 : (List (List Int)) → Res) : Res :=
  bif decide (t10 < t9) then
    bif inb t10 (List.length n_) then
      impl_copyPack (nth [] n_ t10) fun (r : List Int) =>
        bif lim ((List.length out) + 1) then
          rec (wi64 (t10 + 1)) (out ++ [r])
        else none
    else none
  else
    k0 out
noncomputable def impl_copyNet_l0_s (t9 : Int) (n_ : List (List Int)) : (Int × (List (List Int))) → (Int × (List (List Int)) → Res) → (((List (List Int)) → Res)) → Res := fun v rec q => impl_copyNet_l0_r t9 n_ v.1 v.2 (fun t10 out => rec (t10, out)) q
noncomputable def impl_copyNet_l0 (t9 : Int) (n_ : List (List Int)) (n : Nat) (t10 : Int) (out : List (List Int)) (k0 : (List (List Int)) → Res) : Res := iter (impl_copyNet_l0_s t9 n_) n (t10, out) (k0)
noncomputable def ximpl_copyNet_l0 : Node Unit := fun σ k => rdN σ 23 <| rdT σ 2 (.ptr ⟨true, 2, []⟩) <| rdT σ 3 (.ptr ⟨true, 3, []⟩) <| rdT σ 8 (.ref ⟨true, 1, []⟩ false) <| rdV σ 9 (.int .i64) false [] fun t9 => rdV σ 10 (.int .i64) false [] fun t10 => rdB σ 1 y1 [.S] fun a n_ => rdB σ 2 y1 [.O] fun a1 t2 => rdB σ 3 y1 [.O] fun a2 out => impl_copyNet_l0 t9 n_ FUEL t10 out (fun (out1 : List (List Int)) => k (.exit 0) (mkS 23 23 [(2, .ptr ⟨true, 2, []⟩), (3, .ptr ⟨true, 3, []⟩)] [(2, ⟨y1, a1, t2, [.O]⟩), (3, ⟨y1, a2, out1, [.O]⟩)]))
theorem eimpl_copyNet_l0 (t9 : Int) (a : Bool) (n_ : List (List Int)) (a1 : Bool) (t2 : List (List Int)) (a2 : Bool) (n : Nat) (v : Int × (List (List Int))) (k : Kont Unit) : loopC (codeC g_impl_copyNet [] .o (Code.pl (Code.pl (Code.pr (Code.pl (Code.pr (Code.pr c_impl_copyNet))))))) (fun σ => σ.forget [2, 3, 8, 9, 10] [1, 2, 3]) (cutC ([], []) [(0, [2, 3], [2, 3])] ([], [])) n (mkS 23 23 [(2, .ptr ⟨true, 2, []⟩), (3, .ptr ⟨true, 3, []⟩), (8, .ref ⟨true, 1, []⟩ false), (9, .val ⟨(.int .i64), false, t9, []⟩), (10, .val ⟨(.int .i64), false, v.1, []⟩)] [(1, ⟨y1, a, n_, [.S]⟩), (2, ⟨y1, a1, t2, [.O]⟩), (3, ⟨y1, a2, v.2, [.O]⟩)]) k = iter (impl_copyNet_l0_s t9 n_) n v ((fun (k : Kont Unit) => (((fun (out1 : List (List Int)) => k (.exit 0) (mkS 23 23 [(2, .ptr ⟨true, 2, []⟩), (3, .ptr ⟨true, 3, []⟩)] [(2, ⟨y1, a1, t2, [.O]⟩), (3, ⟨y1, a2, out1, [.O]⟩)]))) : ((List (List Int)) → Res))) k) := loop_eq (fun v : Int × (List (List Int)) => (mkS 23 23 [(2, .ptr ⟨true, 2, []⟩), (3, .ptr ⟨true, 3, []⟩), (8, .ref ⟨true, 1, []⟩ false), (9, .val ⟨(.int .i64), false, t9, []⟩), (10, .val ⟨(.int .i64), false, v.1, []⟩)] [(1, ⟨y1, a, n_, [.S]⟩), (2, ⟨y1, a1, t2, [.O]⟩), (3, ⟨y1, a2, v.2, [.O]⟩)])) (impl_copyNet_l0_s t9 n_) (fun (k : Kont Unit) => (((fun (out1 : List (List Int)) => k (.exit 0) (mkS 23 23 [(2, .ptr ⟨true, 2, []⟩), (3, .ptr ⟨true, 3, []⟩)] [(2, ⟨y1, a1, t2, [.O]⟩), (3, ⟨y1, a2, out1, [.O]⟩)]))) : ((List (List Int)) → Res))) (fun v rec k => by kernel_rfl) n v k
theorem oimpl_copyNet_l0 {W0 : Base} {M : Nat → Prop} (hnp : W0.np ≤ 0) : CodeOk Try.prog W0 M (Code.loop (Code.pl (Code.pl (Code.pr (Code.pl (Code.pr (Code.pr c_impl_copyNet))))))) ximpl_copyNet_l0 := loop_ok (code_sound follows tysOk (calls_ok (fns_cons S_impl_copyPack fns_nil)) hnp [] _ .o trivial) (ks := [2, 3, 8, 9, 10]) (bs := [1, 2, 3]) (fX := (cutC ([], []) [(0, [2, 3], [2, 3])] ([], []))) (cutC_le _ _ _) FUEL (by
  intro σ k r h
  obtain ⟨hn, h1⟩ := rdN_some h
  obtain ⟨hs2, h2⟩ := rdT_some h1
  obtain ⟨hs3, h3⟩ := rdT_some h2
  obtain ⟨hs8, h4⟩ := rdT_some h3
  obtain ⟨t9, hs9, h5⟩ := rdV_some h4
  obtain ⟨t10, hs10, h6⟩ := rdV_some h5
  obtain ⟨a, n_, hb1, h7⟩ := rdB_some h6
  obtain ⟨a1, t2, hb2, h8⟩ := rdB_some h7
  obtain ⟨a2, out, hb3, h9⟩ := rdB_some h8
  refine ⟨_, ?_, (eimpl_copyNet_l0 t9 a n_ a1 t2 a2 FUEL (t10, out) k).trans h9⟩
  exact mkS_le hn ⟨hs2, hs3, hs8, hs9, hs10, trivial⟩ ⟨hb1, hb2, hb3, trivial⟩)
noncomputable def impl_copyNet (n_ : List (List Int)) (k0 : (List (List Int)) → Res) : Res :=
  impl_copyNet_l0 (nI (List.length n_)) n_ FUEL 0 [] fun (out : List (List Int)) =>
    k0 out
noncomputable def s_impl_copyNet : Sig Unit := ⟨[.borrow y1 true], [true], fun vals ext k => av vals y1 fun n_ vals => nl vals <| nl ext <| impl_copyNet n_ (fun (r0 : List (List Int)) => k [⟨y1, true, r0, [.O]⟩] [] [])⟩
theorem E_impl_copyNet (n_ : List (List Int)) (a_n_ : Bool) (t_n_ : List Tag) (k : List TVal → List TVal → List TVal → Res) : funC g_impl_copyNet [ximpl_copyNet_l0] (.t .o (.t .o (.t (.t .o (.t (.x 0) .o)) .o))) false Try.f76 [.borrow y1 true] [true] [⟨y1, a_n_, n_, t_n_⟩] [] k = impl_copyNet n_ (fun (r0 : List (List Int)) => k [⟨y1, true, r0, [.O]⟩] [] []) := by kernel_rfl
theorem S_impl_copyNet : Sound Try.prog 76 s_impl_copyNet := sound_of (Γ := g_impl_copyNet) (X := [ximpl_copyNet_l0]) (ht := (.t .o (.t .o (.t (.t .o (.t (.x 0) .o)) .o)))) (fz := false) (c := c_impl_copyNet) follows tysOk (fns_cons S_impl_copyPack fns_nil) (OrOk.mk trivial ((OrOk.mk trivial ((OrOk.mk ((OrOk.mk trivial ((OrOk.mk (OrOk.x_mk (fun W0 M hnp => oimpl_copyNet_l0 (W0 := W0) (M := M) hnp)) trivial)))) trivial))))) Try.func76 (by kernel_rfl) (by kernel_rfl) (by decide) (by
  intro vals ext k r h
  obtain ⟨n_, a_n_, t_n_, vals, rfl, h1⟩ := av_some h
  obtain ⟨rfl, h2⟩ := nl_some h1
  obtain ⟨rfl, h3⟩ := nl_some h2
  exact (E_impl_copyNet n_ a_n_ t_n_ k).trans h3)

/-! ### 31 loop.example/g00462/impl.NetSend -/
noncomputable def c_impl_NetSend : Code := (Try.f31.body).getD .skip
noncomputable def g_impl_NetSend : Env Unit := ⟨tys, [(17, s_impl_NetOk), (76, s_impl_copyNet), (77, s_impl_copyPack)], 0⟩
noncomputable def impl_NetSend (n_ : List (List Int)) (p : List Int) (k0 : (List (List Int)) → Res) : Res :=
  impl_NetOk n_ fun (r : Bool) =>
    bif !r then
      k0 []
    else
      impl_copyNet n_ fun (r1 : List (List Int)) =>
        bif decide ((nI (List.length n_)) < 30) then
          impl_copyPack p fun (r2 : List Int) =>
            bif lim ((List.length r1) + 1) then
              k0 (r1 ++ [r2])
            else none
        else
          k0 r1
noncomputable def s_impl_NetSend : Sig Unit := ⟨[.borrow y1 true, .borrow y0 true], [true], fun vals ext k => av vals y1 fun n_ vals => av vals y0 fun p vals => nl vals <| nl ext <| impl_NetSend n_ p (fun (r0 : List (List Int)) => k [⟨y1, true, r0, [.O]⟩] [] [])⟩
theorem E_impl_NetSend (n_ : List (List Int)) (a_n_ : Bool) (t_n_ : List Tag) (p : List Int) (a_p : Bool) (t_p : List Tag) (k : List TVal → List TVal → List TVal → Res) : funC g_impl_NetSend [] .o false Try.f31 [.borrow y1 true, .borrow y0 true] [true] [⟨y1, a_n_, n_, t_n_⟩, ⟨y0, a_p, p, t_p⟩] [] k = impl_NetSend n_ p (fun (r0 : List (List Int)) => k [⟨y1, true, r0, [.O]⟩] [] []) := by kernel_rfl
theorem S_impl_NetSend : Sound Try.prog 31 s_impl_NetSend := sound_of (Γ := g_impl_NetSend) (X := []) (ht := .o) (fz := false) (c := c_impl_NetSend) follows tysOk (fns_cons S_impl_NetOk (fns_cons S_impl_copyNet (fns_cons S_impl_copyPack fns_nil))) trivial Try.func31 (by kernel_rfl) (by kernel_rfl) (by decide) (by
  intro vals ext k r h
  obtain ⟨n_, a_n_, t_n_, vals, rfl, h1⟩ := av_some h
  obtain ⟨p, a_p, t_p, vals, rfl, h2⟩ := av_some h1
  obtain ⟨rfl, h3⟩ := nl_some h2
  obtain ⟨rfl, h4⟩ := nl_some h3
  exact (E_impl_NetSend n_ a_n_ t_n_ p a_p t_p k).trans h4)

/-! ### 33 loop.example/g00462/laws.markPack -/
noncomputable def c_laws_markPack : Code := (Try.f33.body).getD .skip
noncomputable def g_laws_markPack : Env Unit := ⟨tys, [(57, s_laws_markByteS)], 1⟩
noncomputable def laws_markPack (a : List Int) (k_ : Int) (k0 : Int → (List Int) → Res) : Res :=
  laws_markByteS a k_ fun (r : Int) (a1 : List Int) =>
    k0 r a1
noncomputable def s_laws_markPack : Sig Unit := ⟨[.inout y0 true, .borrow (.int .i64) false], [false], fun vals ext k => ao vals y0 [.O] fun a vals => av vals (.int .i64) fun k_ vals => nl vals <| nl ext <| laws_markPack a k_ (fun (r0 : Int) (i0 : List Int) => k [⟨(.int .i64), false, r0, []⟩] [⟨y0, true, i0, [.O]⟩] [])⟩
theorem E_laws_markPack (a_a : Bool) (a : List Int) (k_ : Int) (a_k_ : Bool) (t_k_ : List Tag) (k : List TVal → List TVal → List TVal → Res) : funC g_laws_markPack [] .o false Try.f33 [.inout y0 true, .borrow (.int .i64) false] [false] [⟨y0, a_a, a, [.O]⟩, ⟨(.int .i64), a_k_, k_, t_k_⟩] [] k = laws_markPack a k_ (fun (r0 : Int) (i0 : List Int) => k [⟨(.int .i64), false, r0, []⟩] [⟨y0, true, i0, [.O]⟩] []) := by kernel_rfl
theorem S_laws_markPack : Sound Try.prog 33 s_laws_markPack := sound_of (Γ := g_laws_markPack) (X := []) (ht := .o) (fz := false) (c := c_laws_markPack) follows tysOk (fns_cons S_laws_markByteS fns_nil) trivial Try.func33 (by kernel_rfl) (by kernel_rfl) (by decide) (by
  intro vals ext k r h
  obtain ⟨a_a, a, vals, rfl, h1⟩ := ao_some h
  obtain ⟨k_, a_k_, t_k_, vals, rfl, h2⟩ := av_some h1
  obtain ⟨rfl, h3⟩ := nl_some h2
  obtain ⟨rfl, h4⟩ := nl_some h3
  exact (E_laws_markPack a_a a k_ a_k_ t_k_ k).trans h4)

/-! ### 6 loop.example/g00462/laws.FnExactNetSend -/
noncomputable def c_laws_FnExactNetSend : Code := (Try.f6.body).getD .skip
noncomputable def g_laws_FnExactNetSend : Env Unit := ⟨tys, [(14, s_laws_szNet), (16, s_laws_toNet), (18, s_laws_eqNet), (26, s_laws_markNet), (27, s_laws_heldNet), (28, s_laws_szPack), (29, s_spec_NetSend), (30, s_laws_toPack), (31, s_impl_NetSend), (32, s_laws_eqPack), (33, s_laws_markPack)], 0⟩
noncomputable def laws_FnExactNetSend_p0 (aN : List (List Int)) (aP : List Int) (k0 : (List (List Int)) → Res) : Res :=
  both
    (laws_toNet aN fun (r : List (List Int)) =>
      both
        (laws_toPack aP fun (r1 : List Int) =>
          both
            (spec_NetSend r r1 fun (r2 : List (List Int)) =>
              k0 r2)
            (spec_NetSend r r1 fun (r3 : List (List Int)) =>
              k0 r3))
        (laws_toPack aP fun (r4 : List Int) =>
          spec_NetSend r r4 fun (r5 : List (List Int)) =>
            k0 r5))
    (laws_toNet aN fun (r6 : List (List Int)) =>
      laws_toPack aP fun (r7 : List Int) =>
        spec_NetSend r6 r7 fun (r8 : List (List Int)) =>
          k0 r8)
noncomputable def xlaws_FnExactNetSend_p0 : Node Unit := fun σ k => rdN σ 92 <| rdT σ 2 (.ptr ⟨true, 2, []⟩) <| rdT σ 3 (.ptr ⟨true, 3, []⟩) <| rdB σ 2 y1 [.S] fun a aN => rdB σ 3 y0 [.S] fun a1 aP => laws_FnExactNetSend_p0 aN aP (fun (w0 : List (List Int)) => k .normal (mkS 92 92 [(2, .ptr ⟨true, 2, []⟩), (3, .ptr ⟨true, 3, []⟩), (6, .ptr ⟨true, 6, []⟩)] [(2, ⟨y1, a, aN, [.S]⟩), (3, ⟨y0, a1, aP, [.S]⟩), (6, ⟨y1, false, w0, [.O]⟩)]))
theorem elaws_FnExactNetSend_p0 (a : Bool) (aN : List (List Int)) (a1 : Bool) (aP : List Int) (k : Kont Unit) : codeC g_laws_FnExactNetSend [] .o (Code.pl (Code.pr (Code.pr (Code.pr (Code.pr (Code.pr (Code.pr c_laws_FnExactNetSend))))))) (mkS 92 92 [(2, .ptr ⟨true, 2, []⟩), (3, .ptr ⟨true, 3, []⟩)] [(2, ⟨y1, a, aN, [.S]⟩), (3, ⟨y0, a1, aP, [.S]⟩)]) (fun e σ => k e ((cutC ([2, 3, 6], [2, 3, 6]) [] ([], [])) e σ)) = laws_FnExactNetSend_p0 aN aP (fun (w0 : List (List Int)) => k .normal (mkS 92 92 [(2, .ptr ⟨true, 2, []⟩), (3, .ptr ⟨true, 3, []⟩), (6, .ptr ⟨true, 6, []⟩)] [(2, ⟨y1, a, aN, [.S]⟩), (3, ⟨y0, a1, aP, [.S]⟩), (6, ⟨y1, false, w0, [.O]⟩)])) := by kernel_rfl
theorem olaws_FnExactNetSend_p0 {W0 : Base} {M : Nat → Prop} (hnp : W0.np ≤ 0) : CodeOk Try.prog W0 M (Code.pl (Code.pr (Code.pr (Code.pr (Code.pr (Code.pr (Code.pr c_laws_FnExactNetSend))))))) xlaws_FnExactNetSend_p0 := node_ok (code_sound follows tysOk (calls_ok (fns_cons S_laws_szNet (fns_cons S_laws_toNet (fns_cons S_laws_eqNet (fns_cons S_laws_markNet (fns_cons S_laws_heldNet (fns_cons S_laws_szPack (fns_cons S_spec_NetSend (fns_cons S_laws_toPack (fns_cons S_impl_NetSend (fns_cons S_laws_eqPack (fns_cons S_laws_markPack fns_nil)))))))))))) hnp [] _ .o trivial) (fg := (cutC ([2, 3, 6], [2, 3, 6]) [] ([], []))) (cutC_le _ _ _) (by
  intro σ k r h
  obtain ⟨hn, h1⟩ := rdN_some h
  obtain ⟨hs2, h2⟩ := rdT_some h1
  obtain ⟨hs3, h3⟩ := rdT_some h2
  obtain ⟨a, aN, hb2, h4⟩ := rdB_some h3
  obtain ⟨a1, aP, hb3, h5⟩ := rdB_some h4
  refine ⟨_, ?_, (elaws_FnExactNetSend_p0 a aN a1 aP k).trans h5⟩
  exact mkS_le hn ⟨hs2, hs3, trivial⟩ ⟨hb2, hb3, trivial⟩)
noncomputable def laws_FnExactNetSend_p1 (aN : List (List Int)) (aP : List Int) (k0 : (List (List Int)) → Res) : Res :=
  both
    (laws_toNet aN fun (r : List (List Int)) =>
      both
        (laws_toPack aP fun (r1 : List Int) =>
          both
            (impl_NetSend r r1 fun (r2 : List (List Int)) =>
              k0 r2)
            (impl_NetSend r r1 fun (r3 : List (List Int)) =>
              k0 r3))
        (laws_toPack aP fun (r4 : List Int) =>
          impl_NetSend r r4 fun (r5 : List (List Int)) =>
            k0 r5))
    (laws_toNet aN fun (r6 : List (List Int)) =>
      laws_toPack aP fun (r7 : List Int) =>
        impl_NetSend r6 r7 fun (r8 : List (List Int)) =>
          k0 r8)
noncomputable def xlaws_FnExactNetSend_p1 : Node Unit := fun σ k => rdN σ 92 <| rdT σ 2 (.ptr ⟨true, 2, []⟩) <| rdT σ 3 (.ptr ⟨true, 3, []⟩) <| rdT σ 6 (.ptr ⟨true, 6, []⟩) <| rdT σ 9 (.ptr ⟨true, 9, []⟩) <| rdV σ 11 (.int .i64) false [] fun m => rdB σ 2 y1 [.S] fun a aN => rdB σ 3 y0 [.S] fun a1 aP => rdB σ 6 y1 [.O] fun a2 w0 => rdB σ 9 y1 [.O] fun a3 g0 => laws_FnExactNetSend_p1 aN aP (fun (h0 : List (List Int)) => k .normal (mkS 92 92 [(6, .ptr ⟨true, 6, []⟩), (9, .ptr ⟨true, 9, []⟩), (11, .val ⟨(.int .i64), false, m, []⟩), (13, .ptr ⟨true, 13, []⟩)] [(6, ⟨y1, a2, w0, [.O]⟩), (9, ⟨y1, a3, g0, [.O]⟩), (13, ⟨y1, false, h0, [.O]⟩)]))
theorem elaws_FnExactNetSend_p1 (m : Int) (a : Bool) (aN : List (List Int)) (a1 : Bool) (aP : List Int) (a2 : Bool) (w0 : List (List Int)) (a3 : Bool) (g0 : List (List Int)) (k : Kont Unit) : codeC g_laws_FnExactNetSend [xlaws_FnExactNetSend_p0] .o (Code.pl (Code.pr (Code.pr (Code.pr (Code.pr (Code.pr (Code.pr (Code.pr (Code.pr (Code.pr (Code.pr (Code.pr (Code.pr (Code.pr (Code.pr (Code.pr (Code.pr (Code.pr (Code.pr (Code.pr (Code.pr (Code.pr (Code.pr (Code.pr c_laws_FnExactNetSend)))))))))))))))))))))))) (mkS 92 92 [(2, .ptr ⟨true, 2, []⟩), (3, .ptr ⟨true, 3, []⟩), (6, .ptr ⟨true, 6, []⟩), (9, .ptr ⟨true, 9, []⟩), (11, .val ⟨(.int .i64), false, m, []⟩)] [(2, ⟨y1, a, aN, [.S]⟩), (3, ⟨y0, a1, aP, [.S]⟩), (6, ⟨y1, a2, w0, [.O]⟩), (9, ⟨y1, a3, g0, [.O]⟩)]) (fun e σ => k e ((cutC ([6, 9, 11, 13], [6, 9, 13]) [] ([], [])) e σ)) = laws_FnExactNetSend_p1 aN aP (fun (h0 : List (List Int)) => k .normal (mkS 92 92 [(6, .ptr ⟨true, 6, []⟩), (9, .ptr ⟨true, 9, []⟩), (11, .val ⟨(.int .i64), false, m, []⟩), (13, .ptr ⟨true, 13, []⟩)] [(6, ⟨y1, a2, w0, [.O]⟩), (9, ⟨y1, a3, g0, [.O]⟩), (13, ⟨y1, false, h0, [.O]⟩)])) := by kernel_rfl
theorem olaws_FnExactNetSend_p1 {W0 : Base} {M : Nat → Prop} (hnp : W0.np ≤ 0) : CodeOk Try.prog W0 M (Code.pl (Code.pr (Code.pr (Code.pr (Code.pr (Code.pr (Code.pr (Code.pr (Code.pr (Code.pr (Code.pr (Code.pr (Code.pr (Code.pr (Code.pr (Code.pr (Code.pr (Code.pr (Code.pr (Code.pr (Code.pr (Code.pr (Code.pr (Code.pr c_laws_FnExactNetSend)))))))))))))))))))))))) xlaws_FnExactNetSend_p1 := node_ok (code_sound follows tysOk (calls_ok (fns_cons S_laws_szNet (fns_cons S_laws_toNet (fns_cons S_laws_eqNet (fns_cons S_laws_markNet (fns_cons S_laws_heldNet (fns_cons S_laws_szPack (fns_cons S_spec_NetSend (fns_cons S_laws_toPack (fns_cons S_impl_NetSend (fns_cons S_laws_eqPack (fns_cons S_laws_markPack fns_nil)))))))))))) hnp [xlaws_FnExactNetSend_p0] _ .o trivial) (fg := (cutC ([6, 9, 11, 13], [6, 9, 13]) [] ([], []))) (cutC_le _ _ _) (by
  intro σ k r h
  obtain ⟨hn, h1⟩ := rdN_some h
  obtain ⟨hs2, h2⟩ := rdT_some h1
  obtain ⟨hs3, h3⟩ := rdT_some h2
  obtain ⟨hs6, h4⟩ := rdT_some h3
  obtain ⟨hs9, h5⟩ := rdT_some h4
  obtain ⟨m, hs11, h6⟩ := rdV_some h5
  obtain ⟨a, aN, hb2, h7⟩ := rdB_some h6
  obtain ⟨a1, aP, hb3, h8⟩ := rdB_some h7
  obtain ⟨a2, w0, hb6, h9⟩ := rdB_some h8
  obtain ⟨a3, g0, hb9, h10⟩ := rdB_some h9
  refine ⟨_, ?_, (elaws_FnExactNetSend_p1 m a aN a1 aP a2 w0 a3 g0 k).trans h10⟩
  exact mkS_le hn ⟨hs2, hs3, hs6, hs9, hs11, trivial⟩ ⟨hb2, hb3, hb6, hb9, trivial⟩)
noncomputable def laws_FnExactNetSend_p2 (aN : List (List Int)) (aP : List Int) (w0 : List (List Int)) (x0 : List (List Int)) (x1 : List Int) (g0 : List (List Int)) (k0 : Bool → Res) : Res :=
  laws_markNet x0 1 fun (r : Int) (a6 : List (List Int)) =>
    laws_markPack x1 r fun (r1 : Int) (a7 : List Int) =>
      bif decide (r1 < 0) then
        k0 false
      else
        laws_eqNet g0 w0 fun (r2 : Bool) =>
          bif !r2 then
            k0 false
          else
            laws_markNet g0 1 fun (r3 : Int) (a8 : List (List Int)) =>
              laws_heldNet a8 1 fun (r4 : Int) =>
                bif decide (r4 < 0) then
                  k0 false
                else
                  bif (r4 != r3) then
                    k0 false
                  else
                    laws_FnExactNetSend_p1 aN aP fun (h_ : List (List Int)) =>
                      laws_eqNet h_ w0 fun (r5 : Bool) =>
                        bif !r5 then
                          k0 false
                        else
                          laws_heldNet a8 1 fun (r6 : Int) =>
                            bif decide (r6 < 0) then
                              k0 false
                            else
                              bif (r6 != r3) then
                                k0 false
                              else
                                k0 true
noncomputable def xlaws_FnExactNetSend_p2 : Node Unit := fun σ k => rdN σ 92 <| rdT σ 2 (.ptr ⟨true, 2, []⟩) <| rdT σ 3 (.ptr ⟨true, 3, []⟩) <| rdT σ 6 (.ptr ⟨true, 6, []⟩) <| rdT σ 7 (.ptr ⟨true, 7, []⟩) <| rdT σ 8 (.ptr ⟨true, 8, []⟩) <| rdT σ 9 (.ptr ⟨true, 9, []⟩) <| rdB σ 2 y1 [.S] fun a aN => rdB σ 3 y0 [.S] fun a1 aP => rdB σ 6 y1 [.O] fun a2 w0 => rdB σ 7 y1 [.O] fun a3 x0 => rdB σ 8 y0 [.O] fun a4 x1 => rdB σ 9 y1 [.O] fun a5 g0 => laws_FnExactNetSend_p2 aN aP w0 x0 x1 g0 (fun (t4 : Bool) => k .ret (mkS 92 92 [(4, .val ⟨.bool, false, t4, []⟩)] []))
theorem elaws_FnExactNetSend_p2 (a : Bool) (aN : List (List Int)) (a1 : Bool) (aP : List Int) (a2 : Bool) (w0 : List (List Int)) (a3 : Bool) (x0 : List (List Int)) (a4 : Bool) (x1 : List Int) (a5 : Bool) (g0 : List (List Int)) (k : Kont Unit) : codeC g_laws_FnExactNetSend [xlaws_FnExactNetSend_p0, xlaws_FnExactNetSend_p1] (.t .o (.t .o (.t .o (.t .o (.t .o (.t .o (.t .o (.t .o (.t .o (.t .o (.t (.x 1) .o))))))))))) (Code.pr (Code.pr (Code.pr (Code.pr (Code.pr (Code.pr (Code.pr (Code.pr (Code.pr (Code.pr (Code.pr (Code.pr (Code.pr c_laws_FnExactNetSend))))))))))))) (mkS 92 92 [(2, .ptr ⟨true, 2, []⟩), (3, .ptr ⟨true, 3, []⟩), (6, .ptr ⟨true, 6, []⟩), (7, .ptr ⟨true, 7, []⟩), (8, .ptr ⟨true, 8, []⟩), (9, .ptr ⟨true, 9, []⟩)] [(2, ⟨y1, a, aN, [.S]⟩), (3, ⟨y0, a1, aP, [.S]⟩), (6, ⟨y1, a2, w0, [.O]⟩), (7, ⟨y1, a3, x0, [.O]⟩), (8, ⟨y0, a4, x1, [.O]⟩), (9, ⟨y1, a5, g0, [.O]⟩)]) (fun e σ => k e ((cutC ([], []) [] ([4], [])) e σ)) = laws_FnExactNetSend_p2 aN aP w0 x0 x1 g0 (fun (t4 : Bool) => k .ret (mkS 92 92 [(4, .val ⟨.bool, false, t4, []⟩)] [])) := by kernel_rfl
theorem olaws_FnExactNetSend_p2 {W0 : Base} {M : Nat → Prop} (hnp : W0.np ≤ 0) : CodeOk Try.prog W0 M (Code.pr (Code.pr (Code.pr (Code.pr (Code.pr (Code.pr (Code.pr (Code.pr (Code.pr (Code.pr (Code.pr (Code.pr (Code.pr c_laws_FnExactNetSend))))))))))))) xlaws_FnExactNetSend_p2 := node_ok (code_sound follows tysOk (calls_ok (fns_cons S_laws_szNet (fns_cons S_laws_toNet (fns_cons S_laws_eqNet (fns_cons S_laws_markNet (fns_cons S_laws_heldNet (fns_cons S_laws_szPack (fns_cons S_spec_NetSend (fns_cons S_laws_toPack (fns_cons S_impl_NetSend (fns_cons S_laws_eqPack (fns_cons S_laws_markPack fns_nil)))))))))))) hnp [xlaws_FnExactNetSend_p0, xlaws_FnExactNetSend_p1] _ (.t .o (.t .o (.t .o (.t .o (.t .o (.t .o (.t .o (.t .o (.t .o (.t .o (.t (.x 1) .o))))))))))) (OrOk.mk trivial ((OrOk.mk trivial ((OrOk.mk trivial ((OrOk.mk trivial ((OrOk.mk trivial ((OrOk.mk trivial ((OrOk.mk trivial ((OrOk.mk trivial ((OrOk.mk trivial ((OrOk.mk trivial ((OrOk.mk (OrOk.x_mk (fun W0 M hnp => olaws_FnExactNetSend_p1 (W0 := W0) (M := M) hnp)) trivial)))))))))))))))))))))) (fg := (cutC ([], []) [] ([4], []))) (cutC_le _ _ _) (by
  intro σ k r h
  obtain ⟨hn, h1⟩ := rdN_some h
  obtain ⟨hs2, h2⟩ := rdT_some h1
  obtain ⟨hs3, h3⟩ := rdT_some h2
  obtain ⟨hs6, h4⟩ := rdT_some h3
  obtain ⟨hs7, h5⟩ := rdT_some h4
  obtain ⟨hs8, h6⟩ := rdT_some h5
  obtain ⟨hs9, h7⟩ := rdT_some h6
  obtain ⟨a, aN, hb2, h8⟩ := rdB_some h7
  obtain ⟨a1, aP, hb3, h9⟩ := rdB_some h8
  obtain ⟨a2, w0, hb6, h10⟩ := rdB_some h9
  obtain ⟨a3, x0, hb7, h11⟩ := rdB_some h10
  obtain ⟨a4, x1, hb8, h12⟩ := rdB_some h11
  obtain ⟨a5, g0, hb9, h13⟩ := rdB_some h12
  refine ⟨_, ?_, (elaws_FnExactNetSend_p2 a aN a1 aP a2 w0 a3 x0 a4 x1 a5 g0 k).trans h13⟩
  exact mkS_le hn ⟨hs2, hs3, hs6, hs7, hs8, hs9, trivial⟩ ⟨hb2, hb3, hb6, hb7, hb8, hb9, trivial⟩)
noncomputable def laws_FnExactNetSend (aN : List (List Int)) (aP : List Int) (k0 : Bool → Res) : Res :=
  laws_szNet aN 1048576 fun (r : Int) =>
    bif decide (r < 0) then
      k0 true
    else
      laws_szPack aP r fun (r1 : Int) =>
        bif decide (r1 < 0) then
          k0 true
        else
          laws_FnExactNetSend_p0 aN aP fun (w : List (List Int)) =>
            laws_toNet aN fun (r2 : List (List Int)) =>
              laws_toPack aP fun (r3 : List Int) =>
                impl_NetSend r2 r3 fun (r4 : List (List Int)) =>
                  laws_eqNet r4 w fun (r5 : Bool) =>
                    bif !r5 then
                      k0 false
                    else
                      laws_toNet aN fun (r6 : List (List Int)) =>
                        laws_eqNet r2 r6 fun (r7 : Bool) =>
                          bif !r7 then
                            k0 false
                          else
                            laws_toPack aP fun (r8 : List Int) =>
                              laws_eqPack r3 r8 fun (r9 : Bool) =>
                                bif !r9 then
                                  k0 false
                                else
                                  laws_FnExactNetSend_p2 aN aP w r2 r3 r4 fun (t : Bool) =>
                                    k0 t
noncomputable def s_laws_FnExactNetSend : Sig Unit := ⟨[.borrow y1 true, .borrow y0 true], [false], fun vals ext k => av vals y1 fun aN vals => av vals y0 fun aP vals => nl vals <| nl ext <| laws_FnExactNetSend aN aP (fun (r0 : Bool) => k [⟨.bool, false, r0, []⟩] [] [])⟩
theorem E_laws_FnExactNetSend (aN : List (List Int)) (a_aN : Bool) (t_aN : List Tag) (aP : List Int) (a_aP : Bool) (t_aP : List Tag) (k : List TVal → List TVal → List TVal → Res) : funC g_laws_FnExactNetSend [xlaws_FnExactNetSend_p0, xlaws_FnExactNetSend_p1, xlaws_FnExactNetSend_p2] (.t .o (.t .o (.t .o (.t .o (.t .o (.t .o (.t (.x 0) (.t .o (.t .o (.t .o (.t .o (.t .o (.t .o (.x 2)))))))))))))) false Try.f6 [.borrow y1 true, .borrow y0 true] [false] [⟨y1, a_aN, aN, t_aN⟩, ⟨y0, a_aP, aP, t_aP⟩] [] k = laws_FnExactNetSend aN aP (fun (r0 : Bool) => k [⟨.bool, false, r0, []⟩] [] []) := by kernel_rfl
theorem S_laws_FnExactNetSend : Sound Try.prog 6 s_laws_FnExactNetSend := sound_of (Γ := g_laws_FnExactNetSend) (X := [xlaws_FnExactNetSend_p0, xlaws_FnExactNetSend_p1, xlaws_FnExactNetSend_p2]) (ht := (.t .o (.t .o (.t .o (.t .o (.t .o (.t .o (.t (.x 0) (.t .o (.t .o (.t .o (.t .o (.t .o (.t .o (.x 2))))))))))))))) (fz := false) (c := c_laws_FnExactNetSend) follows tysOk (fns_cons S_laws_szNet (fns_cons S_laws_toNet (fns_cons S_laws_eqNet (fns_cons S_laws_markNet (fns_cons S_laws_heldNet (fns_cons S_laws_szPack (fns_cons S_spec_NetSend (fns_cons S_laws_toPack (fns_cons S_impl_NetSend (fns_cons S_laws_eqPack (fns_cons S_laws_markPack fns_nil))))))))))) (OrOk.mk trivial ((OrOk.mk trivial ((OrOk.mk trivial ((OrOk.mk trivial ((OrOk.mk trivial ((OrOk.mk trivial ((OrOk.mk (OrOk.x_mk (fun W0 M hnp => olaws_FnExactNetSend_p0 (W0 := W0) (M := M) hnp)) ((OrOk.mk trivial ((OrOk.mk trivial ((OrOk.mk trivial ((OrOk.mk trivial ((OrOk.mk trivial ((OrOk.mk trivial (OrOk.x_mk (fun W0 M hnp => olaws_FnExactNetSend_p2 (W0 := W0) (M := M) hnp))))))))))))))))))))))))))) Try.func6 (by kernel_rfl) (by kernel_rfl) (by decide) (by
  intro vals ext k r h
  obtain ⟨aN, a_aN, t_aN, vals, rfl, h1⟩ := av_some h
  obtain ⟨aP, a_aP, t_aP, vals, rfl, h2⟩ := av_some h1
  obtain ⟨rfl, h3⟩ := nl_some h2
  obtain ⟨rfl, h4⟩ := nl_some h3
  exact (E_laws_FnExactNetSend aN a_aN t_aN aP a_aP t_aP k).trans h4)

/-! ### 85 loop.example/g00462/spec.l15Place -/
noncomputable def c_spec_l15Place : Code := (Try.f85.body).getD .skip
noncomputable def g_spec_l15Place : Env Unit := ⟨tys, [], 0⟩
noncomputable def spec_l15Place (n_ : List (List Int)) (i : Int) (k0 : Bool → Res) : Res :=
  bif decide (i ≥ 0) then
    k0 (decide (i < (nI (List.length n_))))
  else
    k0 false
noncomputable def s_spec_l15Place : Sig Unit := ⟨[.borrow y1 true, .borrow (.int .i64) false], [false], fun vals ext k => av vals y1 fun n_ vals => av vals (.int .i64) fun i vals => nl vals <| nl ext <| spec_l15Place n_ i (fun (r0 : Bool) => k [⟨.bool, false, r0, []⟩] [] [])⟩
theorem E_spec_l15Place (n_ : List (List Int)) (a_n_ : Bool) (t_n_ : List Tag) (i : Int) (a_i : Bool) (t_i : List Tag) (k : List TVal → List TVal → List TVal → Res) : funC g_spec_l15Place [] .o false Try.f85 [.borrow y1 true, .borrow (.int .i64) false] [false] [⟨y1, a_n_, n_, t_n_⟩, ⟨(.int .i64), a_i, i, t_i⟩] [] k = spec_l15Place n_ i (fun (r0 : Bool) => k [⟨.bool, false, r0, []⟩] [] []) := by kernel_rfl
theorem S_spec_l15Place : Sound Try.prog 85 s_spec_l15Place := sound_of (Γ := g_spec_l15Place) (X := []) (ht := .o) (fz := false) (c := c_spec_l15Place) follows tysOk fns_nil trivial Try.func85 (by kernel_rfl) (by kernel_rfl) (by decide) (by
  intro vals ext k r h
  obtain ⟨n_, a_n_, t_n_, vals, rfl, h1⟩ := av_some h
  obtain ⟨i, a_i, t_i, vals, rfl, h2⟩ := av_some h1
  obtain ⟨rfl, h3⟩ := nl_some h2
  obtain ⟨rfl, h4⟩ := nl_some h3
  exact (E_spec_l15Place n_ a_n_ t_n_ i a_i t_i k).trans h4)

/-! ### 38 loop.example/g00462/spec.NetTake -/
noncomputable def c_spec_NetTake : Code := (Try.f38.body).getD .skip
noncomputable def g_spec_NetTake : Env Unit := ⟨tys, [(15, s_spec_NetOk), (70, s_spec_l15But), (75, s_spec_l15Pack), (85, s_spec_l15Place)], 0⟩
noncomputable def spec_NetTake (n_ : List (List Int)) (i : Int) (k0 : (List Int) → (List (List Int)) → Bool → Res) : Res :=
  spec_NetOk n_ fun (r : Bool) =>
    bif !r then
      k0 [] [] false
    else
      spec_l15Place n_ i fun (r1 : Bool) =>
        bif !r1 then
          k0 [] [] false
        else
          bif inb i (List.length n_) then
            both
              (spec_l15Pack (nth [] n_ i) fun (r2 : List Int) =>
                both
                  (spec_l15But n_ i fun (r3 : List (List Int)) =>
                    k0 r2 r3 true)
                  (spec_l15But n_ i fun (r4 : List (List Int)) =>
                    k0 r2 r4 true))
              (both
                (both
                  (spec_l15Pack (nth [] n_ i) fun (r5 : List Int) =>
                    spec_l15But n_ i fun (r6 : List (List Int)) =>
                      k0 r5 r6 true)
                  (spec_l15Pack (nth [] n_ i) fun (r7 : List Int) =>
                    spec_l15But n_ i fun (r8 : List (List Int)) =>
                      k0 r7 r8 true))
                (both
                  (spec_l15Pack (nth [] n_ i) fun (r9 : List Int) =>
                    spec_l15But n_ i fun (r10 : List (List Int)) =>
                      k0 r9 r10 true)
                  (spec_l15Pack (nth [] n_ i) fun (r11 : List Int) =>
                    spec_l15But n_ i fun (r12 : List (List Int)) =>
                      k0 r11 r12 true)))
          else none
noncomputable def s_spec_NetTake : Sig Unit := ⟨[.borrow y1 true, .borrow (.int .i64) false], [true, true, false], fun vals ext k => av vals y1 fun n_ vals => av vals (.int .i64) fun i vals => nl vals <| nl ext <| spec_NetTake n_ i (fun (r0 : List Int) (r1 : List (List Int)) (r2 : Bool) => k [⟨y0, true, r0, [.O]⟩, ⟨y1, true, r1, [.O]⟩, ⟨.bool, false, r2, []⟩] [] [])⟩
theorem E_spec_NetTake (n_ : List (List Int)) (a_n_ : Bool) (t_n_ : List Tag) (i : Int) (a_i : Bool) (t_i : List Tag) (k : List TVal → List TVal → List TVal → Res) : funC g_spec_NetTake [] .o false Try.f38 [.borrow y1 true, .borrow (.int .i64) false] [true, true, false] [⟨y1, a_n_, n_, t_n_⟩, ⟨(.int .i64), a_i, i, t_i⟩] [] k = spec_NetTake n_ i (fun (r0 : List Int) (r1 : List (List Int)) (r2 : Bool) => k [⟨y0, true, r0, [.O]⟩, ⟨y1, true, r1, [.O]⟩, ⟨.bool, false, r2, []⟩] [] []) := by kernel_rfl
theorem S_spec_NetTake : Sound Try.prog 38 s_spec_NetTake := sound_of (Γ := g_spec_NetTake) (X := []) (ht := .o) (fz := false) (c := c_spec_NetTake) follows tysOk (fns_cons S_spec_NetOk (fns_cons S_spec_l15But (fns_cons S_spec_l15Pack (fns_cons S_spec_l15Place fns_nil)))) trivial Try.func38 (by kernel_rfl) (by kernel_rfl) (by decide) (by
  intro vals ext k r h
  obtain ⟨n_, a_n_, t_n_, vals, rfl, h1⟩ := av_some h
  obtain ⟨i, a_i, t_i, vals, rfl, h2⟩ := av_some h1
  obtain ⟨rfl, h3⟩ := nl_some h2
  obtain ⟨rfl, h4⟩ := nl_some h3
  exact (E_spec_NetTake n_ a_n_ t_n_ i a_i t_i k).trans h4)

/-! ### 86 (loop.example/g00462/impl.Net).has -/
noncomputable def c_impl_Net_has : Code := (Try.f86.body).getD .skip
noncomputable def g_impl_Net_has : Env Unit := ⟨tys, [], 0⟩
noncomputable def impl_Net_has (n_ : List (List Int)) (i : Int) (k0 : Bool → Res) : Res :=
  bif decide (i ≥ 0) then
    k0 (decide (i < (nI (List.length n_))))
  else
    k0 false
noncomputable def s_impl_Net_has : Sig Unit := ⟨[.borrow y1 true, .borrow (.int .i64) false], [false], fun vals ext k => av vals y1 fun n_ vals => av vals (.int .i64) fun i vals => nl vals <| nl ext <| impl_Net_has n_ i (fun (r0 : Bool) => k [⟨.bool, false, r0, []⟩] [] [])⟩
theorem E_impl_Net_has (n_ : List (List Int)) (a_n_ : Bool) (t_n_ : List Tag) (i : Int) (a_i : Bool) (t_i : List Tag) (k : List TVal → List TVal → List TVal → Res) : funC g_impl_Net_has [] .o false Try.f86 [.borrow y1 true, .borrow (.int .i64) false] [false] [⟨y1, a_n_, n_, t_n_⟩, ⟨(.int .i64), a_i, i, t_i⟩] [] k = impl_Net_has n_ i (fun (r0 : Bool) => k [⟨.bool, false, r0, []⟩] [] []) := by kernel_rfl
theorem S_impl_Net_has : Sound Try.prog 86 s_impl_Net_has := sound_of (Γ := g_impl_Net_has) (X := []) (ht := .o) (fz := false) (c := c_impl_Net_has) follows tysOk fns_nil trivial Try.func86 (by kernel_rfl) (by kernel_rfl) (by decide) (by
  intro vals ext k r h
  obtain ⟨n_, a_n_, t_n_, vals, rfl, h1⟩ := av_some h
  obtain ⟨i, a_i, t_i, vals, rfl, h2⟩ := av_some h1
  obtain ⟨rfl, h3⟩ := nl_some h2
  obtain ⟨rfl, h4⟩ := nl_some h3
  exact (E_impl_Net_has n_ a_n_ t_n_ i a_i t_i k).trans h4)

/-! ### 39 loop.example/g00462/impl.NetTake -/
noncomputable def c_impl_NetTake : Code := (Try.f39.body).getD .skip
noncomputable def g_impl_NetTake : Env Unit := ⟨tys, [(17, s_impl_NetOk), (71, s_impl_Net_without), (77, s_impl_copyPack), (86, s_impl_Net_has)], 0⟩
noncomputable def impl_NetTake (n_ : List (List Int)) (i : Int) (k0 : (List Int) → (List (List Int)) → Bool → Res) : Res :=
  impl_NetOk n_ fun (r : Bool) =>
    bif !r then
      k0 [] [] false
    else
      impl_Net_has n_ i fun (r1 : Bool) =>
        bif !r1 then
          k0 [] [] false
        else
          bif inb i (List.length n_) then
            both
              (impl_copyPack (nth [] n_ i) fun (r2 : List Int) =>
                both
                  (impl_Net_without n_ i fun (r3 : List (List Int)) =>
                    k0 r2 r3 true)
                  (impl_Net_without n_ i fun (r4 : List (List Int)) =>
                    k0 r2 r4 true))
              (both
                (both
                  (impl_copyPack (nth [] n_ i) fun (r5 : List Int) =>
                    impl_Net_without n_ i fun (r6 : List (List Int)) =>
                      k0 r5 r6 true)
                  (impl_copyPack (nth [] n_ i) fun (r7 : List Int) =>
                    impl_Net_without n_ i fun (r8 : List (List Int)) =>
                      k0 r7 r8 true))
                (both
                  (impl_copyPack (nth [] n_ i) fun (r9 : List Int) =>
                    impl_Net_without n_ i fun (r10 : List (List Int)) =>
                      k0 r9 r10 true)
                  (impl_copyPack (nth [] n_ i) fun (r11 : List Int) =>
                    impl_Net_without n_ i fun (r12 : List (List Int)) =>
                      k0 r11 r12 true)))
          else none
noncomputable def s_impl_NetTake : Sig Unit := ⟨[.borrow y1 true, .borrow (.int .i64) false], [true, true, false], fun vals ext k => av vals y1 fun n_ vals => av vals (.int .i64) fun i vals => nl vals <| nl ext <| impl_NetTake n_ i (fun (r0 : List Int) (r1 : List (List Int)) (r2 : Bool) => k [⟨y0, true, r0, [.O]⟩, ⟨y1, true, r1, [.O]⟩, ⟨.bool, false, r2, []⟩] [] [])⟩
theorem E_impl_NetTake (n_ : List (List Int)) (a_n_ : Bool) (t_n_ : List Tag) (i : Int) (a_i : Bool) (t_i : List Tag) (k : List TVal → List TVal → List TVal → Res) : funC g_impl_NetTake [] .o false Try.f39 [.borrow y1 true, .borrow (.int .i64) false] [true, true, false] [⟨y1, a_n_, n_, t_n_⟩, ⟨(.int .i64), a_i, i, t_i⟩] [] k = impl_NetTake n_ i (fun (r0 : List Int) (r1 : List (List Int)) (r2 : Bool) => k [⟨y0, true, r0, [.O]⟩, ⟨y1, true, r1, [.O]⟩, ⟨.bool, false, r2, []⟩] [] []) := by kernel_rfl
theorem S_impl_NetTake : Sound Try.prog 39 s_impl_NetTake := sound_of (Γ := g_impl_NetTake) (X := []) (ht := .o) (fz := false) (c := c_impl_NetTake) follows tysOk (fns_cons S_impl_NetOk (fns_cons S_impl_Net_without (fns_cons S_impl_copyPack (fns_cons S_impl_Net_has fns_nil)))) trivial Try.func39 (by kernel_rfl) (by kernel_rfl) (by decide) (by
  intro vals ext k r h
  obtain ⟨n_, a_n_, t_n_, vals, rfl, h1⟩ := av_some h
  obtain ⟨i, a_i, t_i, vals, rfl, h2⟩ := av_some h1
  obtain ⟨rfl, h3⟩ := nl_some h2
  obtain ⟨rfl, h4⟩ := nl_some h3
  exact (E_impl_NetTake n_ a_n_ t_n_ i a_i t_i k).trans h4)

/-! ### 40 loop.example/g00462/laws.heldPack -/
noncomputable def c_laws_heldPack : Code := (Try.f40.body).getD .skip
noncomputable def g_laws_heldPack : Env Unit := ⟨tys, [(87, s_laws_heldByteS)], 0⟩
noncomputable def laws_heldPack (a : List Int) (k_ : Int) (k0 : Int → Res) : Res :=
  laws_heldByteS a k_ fun (r : Int) =>
    bif decide (r < 0) then
      k0 (-1)
    else
      k0 r
noncomputable def s_laws_heldPack : Sig Unit := ⟨[.borrow y0 true, .borrow (.int .i64) false], [false], fun vals ext k => av vals y0 fun a vals => av vals (.int .i64) fun k_ vals => nl vals <| nl ext <| laws_heldPack a k_ (fun (r0 : Int) => k [⟨(.int .i64), false, r0, []⟩] [] [])⟩
theorem E_laws_heldPack (a : List Int) (a_a : Bool) (t_a : List Tag) (k_ : Int) (a_k_ : Bool) (t_k_ : List Tag) (k : List TVal → List TVal → List TVal → Res) : funC g_laws_heldPack [] .o false Try.f40 [.borrow y0 true, .borrow (.int .i64) false] [false] [⟨y0, a_a, a, t_a⟩, ⟨(.int .i64), a_k_, k_, t_k_⟩] [] k = laws_heldPack a k_ (fun (r0 : Int) => k [⟨(.int .i64), false, r0, []⟩] [] []) := by kernel_rfl
theorem S_laws_heldPack : Sound Try.prog 40 s_laws_heldPack := sound_of (Γ := g_laws_heldPack) (X := []) (ht := .o) (fz := false) (c := c_laws_heldPack) follows tysOk (fns_cons S_laws_heldByteS fns_nil) trivial Try.func40 (by kernel_rfl) (by kernel_rfl) (by decide) (by
  intro vals ext k r h
  obtain ⟨a, a_a, t_a, vals, rfl, h1⟩ := av_some h
  obtain ⟨k_, a_k_, t_k_, vals, rfl, h2⟩ := av_some h1
  obtain ⟨rfl, h3⟩ := nl_some h2
  obtain ⟨rfl, h4⟩ := nl_some h3
  exact (E_laws_heldPack a a_a t_a k_ a_k_ t_k_ k).trans h4)

/-! ### 8 loop.example/g00462/laws.FnExactNetTake -/
noncomputable def c_laws_FnExactNetTake : Code := (Try.f8.body).getD .skip
noncomputable def g_laws_FnExactNetTake : Env Unit := ⟨tys, [(14, s_laws_szNet), (16, s_laws_toNet), (18, s_laws_eqNet), (26, s_laws_markNet), (27, s_laws_heldNet), (32, s_laws_eqPack), (33, s_laws_markPack), (38, s_spec_NetTake), (39, s_impl_NetTake), (40, s_laws_heldPack)], 0⟩
noncomputable def laws_FnExactNetTake_p0 (w2 : Bool) (g2 : Bool) (k_ : Int) (w0 : List Int) (w1 : List (List Int)) (g0 : List Int) (g1 : List (List Int)) (k0 : Bool → Res) : Res :=
  bif decide (k_ < 0) then
    k0 true
  else
    laws_eqPack g0 w0 fun (r : Bool) =>
      bif !r then
        k0 true
      else
        laws_eqNet g1 w1 fun (r1 : Bool) =>
          bif !r1 then
            k0 true
          else
            k0 (!(g2 == w2))
noncomputable def xlaws_FnExactNetTake_p0 : Node Unit := fun σ k => rdN σ 138 <| rdV σ 1 (.int .i64) false [] fun aI => rdT σ 2 (.ptr ⟨true, 2, []⟩) <| rdT σ 6 (.ptr ⟨true, 6, []⟩) <| rdT σ 7 (.ptr ⟨true, 7, []⟩) <| rdV σ 8 .bool false [] fun w2 => rdT σ 10 (.ptr ⟨true, 10, []⟩) <| rdT σ 11 (.ptr ⟨true, 11, []⟩) <| rdV σ 12 .bool false [] fun g2 => rdV σ 13 (.int .i64) false [] fun k_ => rdB σ 2 y1 [.S] fun a aN => rdB σ 6 y0 [.O] fun a1 w0 => rdB σ 7 y1 [.O] fun a2 w1 => rdB σ 10 y0 [.O] fun a3 g0 => rdB σ 11 y1 [.O] fun a4 g1 => laws_FnExactNetTake_p0 w2 g2 k_ w0 w1 g0 g1 (fun (t82 : Bool) => k .normal (mkS 138 138 [(1, .val ⟨(.int .i64), false, aI, []⟩), (2, .ptr ⟨true, 2, []⟩), (6, .ptr ⟨true, 6, []⟩), (7, .ptr ⟨true, 7, []⟩), (8, .val ⟨.bool, false, w2, []⟩), (10, .ptr ⟨true, 10, []⟩), (11, .ptr ⟨true, 11, []⟩), (82, .val ⟨.bool, false, t82, []⟩)] [(2, ⟨y1, a, aN, [.S]⟩), (6, ⟨y0, a1, w0, [.O]⟩), (7, ⟨y1, a2, w1, [.O]⟩), (10, ⟨y0, a3, g0, [.O]⟩), (11, ⟨y1, a4, g1, [.O]⟩)]))
theorem elaws_FnExactNetTake_p0 (aI : Int) (w2 : Bool) (g2 : Bool) (k_ : Int) (a : Bool) (aN : List (List Int)) (a1 : Bool) (w0 : List Int) (a2 : Bool) (w1 : List (List Int)) (a3 : Bool) (g0 : List Int) (a4 : Bool) (g1 : List (List Int)) (k : Kont Unit) : codeC g_laws_FnExactNetTake [] .o (Code.pl (Code.pl (Code.pr (Code.pr (Code.pr (Code.pr (Code.pr (Code.pr (Code.pr (Code.pr (Code.pr (Code.pr (Code.pr c_laws_FnExactNetTake))))))))))))) (mkS 138 138 [(1, .val ⟨(.int .i64), false, aI, []⟩), (2, .ptr ⟨true, 2, []⟩), (6, .ptr ⟨true, 6, []⟩), (7, .ptr ⟨true, 7, []⟩), (8, .val ⟨.bool, false, w2, []⟩), (10, .ptr ⟨true, 10, []⟩), (11, .ptr ⟨true, 11, []⟩), (12, .val ⟨.bool, false, g2, []⟩), (13, .val ⟨(.int .i64), false, k_, []⟩)] [(2, ⟨y1, a, aN, [.S]⟩), (6, ⟨y0, a1, w0, [.O]⟩), (7, ⟨y1, a2, w1, [.O]⟩), (10, ⟨y0, a3, g0, [.O]⟩), (11, ⟨y1, a4, g1, [.O]⟩)]) (fun e σ => k e ((cutC ([1, 2, 6, 7, 8, 10, 11, 82], [2, 6, 7, 10, 11]) [] ([], [])) e σ)) = laws_FnExactNetTake_p0 w2 g2 k_ w0 w1 g0 g1 (fun (t82 : Bool) => k .normal (mkS 138 138 [(1, .val ⟨(.int .i64), false, aI, []⟩), (2, .ptr ⟨true, 2, []⟩), (6, .ptr ⟨true, 6, []⟩), (7, .ptr ⟨true, 7, []⟩), (8, .val ⟨.bool, false, w2, []⟩), (10, .ptr ⟨true, 10, []⟩), (11, .ptr ⟨true, 11, []⟩), (82, .val ⟨.bool, false, t82, []⟩)] [(2, ⟨y1, a, aN, [.S]⟩), (6, ⟨y0, a1, w0, [.O]⟩), (7, ⟨y1, a2, w1, [.O]⟩), (10, ⟨y0, a3, g0, [.O]⟩), (11, ⟨y1, a4, g1, [.O]⟩)])) := by kernel_rfl
theorem olaws_FnExactNetTake_p0 {W0 : Base} {M : Nat → Prop} (hnp : W0.np ≤ 0) : CodeOk Try.prog W0 M (Code.pl (Code.pl (Code.pr (Code.pr (Code.pr (Code.pr (Code.pr (Code.pr (Code.pr (Code.pr (Code.pr (Code.pr (Code.pr c_laws_FnExactNetTake))))))))))))) xlaws_FnExactNetTake_p0 := node_ok (code_sound follows tysOk (calls_ok (fns_cons S_laws_szNet (fns_cons S_laws_toNet (fns_cons S_laws_eqNet (fns_cons S_laws_markNet (fns_cons S_laws_heldNet (fns_cons S_laws_eqPack (fns_cons S_laws_markPack (fns_cons S_spec_NetTake (fns_cons S_impl_NetTake (fns_cons S_laws_heldPack fns_nil))))))))))) hnp [] _ .o trivial) (fg := (cutC ([1, 2, 6, 7, 8, 10, 11, 82], [2, 6, 7, 10, 11]) [] ([], []))) (cutC_le _ _ _) (by
  intro σ k r h
  obtain ⟨hn, h1⟩ := rdN_some h
  obtain ⟨aI, hs1, h2⟩ := rdV_some h1
  obtain ⟨hs2, h3⟩ := rdT_some h2
  obtain ⟨hs6, h4⟩ := rdT_some h3
  obtain ⟨hs7, h5⟩ := rdT_some h4
  obtain ⟨w2, hs8, h6⟩ := rdV_some h5
  obtain ⟨hs10, h7⟩ := rdT_some h6
  obtain ⟨hs11, h8⟩ := rdT_some h7
  obtain ⟨g2, hs12, h9⟩ := rdV_some h8
  obtain ⟨k_, hs13, h10⟩ := rdV_some h9
  obtain ⟨a, aN, hb2, h11⟩ := rdB_some h10
  obtain ⟨a1, w0, hb6, h12⟩ := rdB_some h11
  obtain ⟨a2, w1, hb7, h13⟩ := rdB_some h12
  obtain ⟨a3, g0, hb10, h14⟩ := rdB_some h13
  obtain ⟨a4, g1, hb11, h15⟩ := rdB_some h14
  refine ⟨_, ?_, (elaws_FnExactNetTake_p0 aI w2 g2 k_ a aN a1 w0 a2 w1 a3 g0 a4 g1 k).trans h15⟩
  exact mkS_le hn ⟨hs1, hs2, hs6, hs7, hs8, hs10, hs11, hs12, hs13, trivial⟩ ⟨hb2, hb6, hb7, hb10, hb11, trivial⟩)
noncomputable def laws_FnExactNetTake_p1 (aI : Int) (w2 : Bool) (m : Int) (aN : List (List Int)) (w0 : List Int) (w1 : List (List Int)) (g0 : List Int) (g1 : List (List Int)) (k0 : Bool → Res) : Res :=
  laws_markNet g1 m fun (r : Int) (a5 : List (List Int)) =>
    laws_heldPack g0 1 fun (r1 : Int) =>
      bif decide (r1 < 0) then
        k0 false
      else
        laws_heldNet a5 r1 fun (r2 : Int) =>
          bif decide (r2 < 0) then
            k0 false
          else
            bif (r2 != r) then
              k0 false
            else
              laws_toNet aN fun (r3 : List (List Int)) =>
                impl_NetTake r3 aI fun (r4 : List Int) (r5 : List (List Int)) (r6 : Bool) =>
                  laws_eqPack r4 w0 fun (r7 : Bool) =>
                    bif !r7 then
                      k0 false
                    else
                      laws_eqNet r5 w1 fun (r8 : Bool) =>
                        bif !r8 then
                          k0 false
                        else
                          bif !(r6 == w2) then
                            k0 false
                          else
                            laws_heldPack g0 1 fun (r9 : Int) =>
                              bif decide (r9 < 0) then
                                k0 false
                              else
                                laws_heldNet a5 r9 fun (r10 : Int) =>
                                  bif decide (r10 < 0) then
                                    k0 false
                                  else
                                    bif (r10 != r) then
                                      k0 false
                                    else
                                      k0 true
noncomputable def xlaws_FnExactNetTake_p1 : Node Unit := fun σ k => rdN σ 138 <| rdV σ 1 (.int .i64) false [] fun aI => rdT σ 2 (.ptr ⟨true, 2, []⟩) <| rdT σ 6 (.ptr ⟨true, 6, []⟩) <| rdT σ 7 (.ptr ⟨true, 7, []⟩) <| rdV σ 8 .bool false [] fun w2 => rdT σ 10 (.ptr ⟨true, 10, []⟩) <| rdT σ 11 (.ptr ⟨true, 11, []⟩) <| rdV σ 14 (.int .i64) false [] fun m => rdB σ 2 y1 [.S] fun a aN => rdB σ 6 y0 [.O] fun a1 w0 => rdB σ 7 y1 [.O] fun a2 w1 => rdB σ 10 y0 [.O] fun a3 g0 => rdB σ 11 y1 [.O] fun a4 g1 => laws_FnExactNetTake_p1 aI w2 m aN w0 w1 g0 g1 (fun (t4 : Bool) => k .ret (mkS 138 138 [(4, .val ⟨.bool, false, t4, []⟩)] []))
theorem elaws_FnExactNetTake_p1 (aI : Int) (w2 : Bool) (m : Int) (a : Bool) (aN : List (List Int)) (a1 : Bool) (w0 : List Int) (a2 : Bool) (w1 : List (List Int)) (a3 : Bool) (g0 : List Int) (a4 : Bool) (g1 : List (List Int)) (k : Kont Unit) : codeC g_laws_FnExactNetTake [xlaws_FnExactNetTake_p0] .o (Code.pr (Code.pr (Code.pr (Code.pr (Code.pr (Code.pr (Code.pr (Code.pr (Code.pr (Code.pr (Code.pr (Code.pr (Code.pr (Code.pr c_laws_FnExactNetTake)))))))))))))) (mkS 138 138 [(1, .val ⟨(.int .i64), false, aI, []⟩), (2, .ptr ⟨true, 2, []⟩), (6, .ptr ⟨true, 6, []⟩), (7, .ptr ⟨true, 7, []⟩), (8, .val ⟨.bool, false, w2, []⟩), (10, .ptr ⟨true, 10, []⟩), (11, .ptr ⟨true, 11, []⟩), (14, .val ⟨(.int .i64), false, m, []⟩)] [(2, ⟨y1, a, aN, [.S]⟩), (6, ⟨y0, a1, w0, [.O]⟩), (7, ⟨y1, a2, w1, [.O]⟩), (10, ⟨y0, a3, g0, [.O]⟩), (11, ⟨y1, a4, g1, [.O]⟩)]) (fun e σ => k e ((cutC ([], []) [] ([4], [])) e σ)) = laws_FnExactNetTake_p1 aI w2 m aN w0 w1 g0 g1 (fun (t4 : Bool) => k .ret (mkS 138 138 [(4, .val ⟨.bool, false, t4, []⟩)] [])) := by kernel_rfl
theorem olaws_FnExactNetTake_p1 {W0 : Base} {M : Nat → Prop} (hnp : W0.np ≤ 0) : CodeOk Try.prog W0 M (Code.pr (Code.pr (Code.pr (Code.pr (Code.pr (Code.pr (Code.pr (Code.pr (Code.pr (Code.pr (Code.pr (Code.pr (Code.pr (Code.pr c_laws_FnExactNetTake)))))))))))))) xlaws_FnExactNetTake_p1 := node_ok (code_sound follows tysOk (calls_ok (fns_cons S_laws_szNet (fns_cons S_laws_toNet (fns_cons S_laws_eqNet (fns_cons S_laws_markNet (fns_cons S_laws_heldNet (fns_cons S_laws_eqPack (fns_cons S_laws_markPack (fns_cons S_spec_NetTake (fns_cons S_impl_NetTake (fns_cons S_laws_heldPack fns_nil))))))))))) hnp [xlaws_FnExactNetTake_p0] _ .o trivial) (fg := (cutC ([], []) [] ([4], []))) (cutC_le _ _ _) (by
  intro σ k r h
  obtain ⟨hn, h1⟩ := rdN_some h
  obtain ⟨aI, hs1, h2⟩ := rdV_some h1
  obtain ⟨hs2, h3⟩ := rdT_some h2
  obtain ⟨hs6, h4⟩ := rdT_some h3
  obtain ⟨hs7, h5⟩ := rdT_some h4
  obtain ⟨w2, hs8, h6⟩ := rdV_some h5
  obtain ⟨hs10, h7⟩ := rdT_some h6
  obtain ⟨hs11, h8⟩ := rdT_some h7
  obtain ⟨m, hs14, h9⟩ := rdV_some h8
  obtain ⟨a, aN, hb2, h10⟩ := rdB_some h9
  obtain ⟨a1, w0, hb6, h11⟩ := rdB_some h10
  obtain ⟨a2, w1, hb7, h12⟩ := rdB_some h11
  obtain ⟨a3, g0, hb10, h13⟩ := rdB_some h12
  obtain ⟨a4, g1, hb11, h14⟩ := rdB_some h13
  refine ⟨_, ?_, (elaws_FnExactNetTake_p1 aI w2 m a aN a1 w0 a2 w1 a3 g0 a4 g1 k).trans h14⟩
  exact mkS_le hn ⟨hs1, hs2, hs6, hs7, hs8, hs10, hs11, hs14, trivial⟩ ⟨hb2, hb6, hb7, hb10, hb11, trivial⟩)
noncomputable def laws_FnExactNetTake_p2 (aI : Int) (w2 : Bool) (g2 : Bool) (aN : List (List Int)) (w0 : List Int) (w1 : List (List Int)) (x0 : List (List Int)) (g0 : List Int) (g1 : List (List Int)) (k0 : Bool → Res) : Res :=
  laws_eqPack g0 w0 fun (r : Bool) =>
    bif !r then
      k0 false
    else
      laws_eqNet g1 w1 fun (r1 : Bool) =>
        bif !r1 then
          k0 false
        else
          bif !(g2 == w2) then
            k0 false
          else
            laws_toNet aN fun (r2 : List (List Int)) =>
              laws_eqNet x0 r2 fun (r3 : Bool) =>
                bif !r3 then
                  k0 false
                else
                  laws_markNet x0 1 fun (r4 : Int) (a6 : List (List Int)) =>
                    laws_FnExactNetTake_p0 w2 g2 r4 w0 w1 g0 g1 fun (t : Bool) =>
                      bif t then
                        k0 false
                      else
                        laws_markPack g0 1 fun (r5 : Int) (a7 : List Int) =>
                          laws_FnExactNetTake_p1 aI w2 r5 aN w0 w1 a7 g1 fun (t1 : Bool) =>
                            k0 t1
noncomputable def xlaws_FnExactNetTake_p2 : Node Unit := fun σ k => rdN σ 138 <| rdV σ 1 (.int .i64) false [] fun aI => rdT σ 2 (.ptr ⟨true, 2, []⟩) <| rdT σ 6 (.ptr ⟨true, 6, []⟩) <| rdT σ 7 (.ptr ⟨true, 7, []⟩) <| rdV σ 8 .bool false [] fun w2 => rdT σ 9 (.ptr ⟨true, 9, []⟩) <| rdT σ 10 (.ptr ⟨true, 10, []⟩) <| rdT σ 11 (.ptr ⟨true, 11, []⟩) <| rdV σ 12 .bool false [] fun g2 => rdB σ 2 y1 [.S] fun a aN => rdB σ 6 y0 [.O] fun a1 w0 => rdB σ 7 y1 [.O] fun a2 w1 => rdB σ 9 y1 [.O] fun a3 x0 => rdB σ 10 y0 [.O] fun a4 g0 => rdB σ 11 y1 [.O] fun a5 g1 => laws_FnExactNetTake_p2 aI w2 g2 aN w0 w1 x0 g0 g1 (fun (t4 : Bool) => k .ret (mkS 138 138 [(4, .val ⟨.bool, false, t4, []⟩)] []))
theorem elaws_FnExactNetTake_p2 (aI : Int) (w2 : Bool) (g2 : Bool) (a : Bool) (aN : List (List Int)) (a1 : Bool) (w0 : List Int) (a2 : Bool) (w1 : List (List Int)) (a3 : Bool) (x0 : List (List Int)) (a4 : Bool) (g0 : List Int) (a5 : Bool) (g1 : List (List Int)) (k : Kont Unit) : codeC g_laws_FnExactNetTake [xlaws_FnExactNetTake_p0, xlaws_FnExactNetTake_p1] (.t .o (.t .o (.t .o (.t .o (.t (.t (.x 0) .o) (.t .o (.t .o (.x 1)))))))) (Code.pr (Code.pr (Code.pr (Code.pr (Code.pr (Code.pr (Code.pr c_laws_FnExactNetTake))))))) (mkS 138 138 [(1, .val ⟨(.int .i64), false, aI, []⟩), (2, .ptr ⟨true, 2, []⟩), (6, .ptr ⟨true, 6, []⟩), (7, .ptr ⟨true, 7, []⟩), (8, .val ⟨.bool, false, w2, []⟩), (9, .ptr ⟨true, 9, []⟩), (10, .ptr ⟨true, 10, []⟩), (11, .ptr ⟨true, 11, []⟩), (12, .val ⟨.bool, false, g2, []⟩)] [(2, ⟨y1, a, aN, [.S]⟩), (6, ⟨y0, a1, w0, [.O]⟩), (7, ⟨y1, a2, w1, [.O]⟩), (9, ⟨y1, a3, x0, [.O]⟩), (10, ⟨y0, a4, g0, [.O]⟩), (11, ⟨y1, a5, g1, [.O]⟩)]) (fun e σ => k e ((cutC ([], []) [] ([4], [])) e σ)) = laws_FnExactNetTake_p2 aI w2 g2 aN w0 w1 x0 g0 g1 (fun (t4 : Bool) => k .ret (mkS 138 138 [(4, .val ⟨.bool, false, t4, []⟩)] [])) := by kernel_rfl
theorem olaws_FnExactNetTake_p2 {W0 : Base} {M : Nat → Prop} (hnp : W0.np ≤ 0) : CodeOk Try.prog W0 M (Code.pr (Code.pr (Code.pr (Code.pr (Code.pr (Code.pr (Code.pr c_laws_FnExactNetTake))))))) xlaws_FnExactNetTake_p2 := node_ok (code_sound follows tysOk (calls_ok (fns_cons S_laws_szNet (fns_cons S_laws_toNet (fns_cons S_laws_eqNet (fns_cons S_laws_markNet (fns_cons S_laws_heldNet (fns_cons S_laws_eqPack (fns_cons S_laws_markPack (fns_cons S_spec_NetTake (fns_cons S_impl_NetTake (fns_cons S_laws_heldPack fns_nil))))))))))) hnp [xlaws_FnExactNetTake_p0, xlaws_FnExactNetTake_p1] _ (.t .o (.t .o (.t .o (.t .o (.t (.t (.x 0) .o) (.t .o (.t .o (.x 1)))))))) (OrOk.mk trivial ((OrOk.mk trivial ((OrOk.mk trivial ((OrOk.mk trivial ((OrOk.mk ((OrOk.mk (OrOk.x_mk (fun W0 M hnp => olaws_FnExactNetTake_p0 (W0 := W0) (M := M) hnp)) trivial)) ((OrOk.mk trivial ((OrOk.mk trivial (OrOk.x_mk (fun W0 M hnp => olaws_FnExactNetTake_p1 (W0 := W0) (M := M) hnp)))))))))))))))) (fg := (cutC ([], []) [] ([4], []))) (cutC_le _ _ _) (by
  intro σ k r h
  obtain ⟨hn, h1⟩ := rdN_some h
  obtain ⟨aI, hs1, h2⟩ := rdV_some h1
  obtain ⟨hs2, h3⟩ := rdT_some h2
  obtain ⟨hs6, h4⟩ := rdT_some h3
  obtain ⟨hs7, h5⟩ := rdT_some h4
  obtain ⟨w2, hs8, h6⟩ := rdV_some h5
  obtain ⟨hs9, h7⟩ := rdT_some h6
  obtain ⟨hs10, h8⟩ := rdT_some h7
  obtain ⟨hs11, h9⟩ := rdT_some h8
  obtain ⟨g2, hs12, h10⟩ := rdV_some h9
  obtain ⟨a, aN, hb2, h11⟩ := rdB_some h10
  obtain ⟨a1, w0, hb6, h12⟩ := rdB_some h11
  obtain ⟨a2, w1, hb7, h13⟩ := rdB_some h12
  obtain ⟨a3, x0, hb9, h14⟩ := rdB_some h13
  obtain ⟨a4, g0, hb10, h15⟩ := rdB_some h14
  obtain ⟨a5, g1, hb11, h16⟩ := rdB_some h15
  refine ⟨_, ?_, (elaws_FnExactNetTake_p2 aI w2 g2 a aN a1 w0 a2 w1 a3 x0 a4 g0 a5 g1 k).trans h16⟩
  exact mkS_le hn ⟨hs1, hs2, hs6, hs7, hs8, hs9, hs10, hs11, hs12, trivial⟩ ⟨hb2, hb6, hb7, hb9, hb10, hb11, trivial⟩)
noncomputable def laws_FnExactNetTake (aN : List (List Int)) (aI : Int) (k0 : Bool → Res) : Res :=
  laws_szNet aN 1048576 fun (r : Int) =>
    bif decide (r < 0) then
      k0 true
    else
      laws_toNet aN fun (r1 : List (List Int)) =>
        spec_NetTake r1 aI fun (r2 : List Int) (r3 : List (List Int)) (r4 : Bool) =>
          laws_toNet aN fun (r5 : List (List Int)) =>
            impl_NetTake r5 aI fun (r6 : List Int) (r7 : List (List Int)) (r8 : Bool) =>
              laws_FnExactNetTake_p2 aI r4 r8 aN r2 r3 r5 r6 r7 fun (t : Bool) =>
                k0 t
noncomputable def s_laws_FnExactNetTake : Sig Unit := ⟨[.borrow y1 true, .borrow (.int .i64) false], [false], fun vals ext k => av vals y1 fun aN vals => av vals (.int .i64) fun aI vals => nl vals <| nl ext <| laws_FnExactNetTake aN aI (fun (r0 : Bool) => k [⟨.bool, false, r0, []⟩] [] [])⟩
theorem E_laws_FnExactNetTake (aN : List (List Int)) (a_aN : Bool) (t_aN : List Tag) (aI : Int) (a_aI : Bool) (t_aI : List Tag) (k : List TVal → List TVal → List TVal → Res) : funC g_laws_FnExactNetTake [xlaws_FnExactNetTake_p0, xlaws_FnExactNetTake_p1, xlaws_FnExactNetTake_p2] (.t .o (.t .o (.t .o (.t .o (.t .o (.t .o (.t .o (.x 2)))))))) false Try.f8 [.borrow y1 true, .borrow (.int .i64) false] [false] [⟨y1, a_aN, aN, t_aN⟩, ⟨(.int .i64), a_aI, aI, t_aI⟩] [] k = laws_FnExactNetTake aN aI (fun (r0 : Bool) => k [⟨.bool, false, r0, []⟩] [] []) := by kernel_rfl
theorem S_laws_FnExactNetTake : Sound Try.prog 8 s_laws_FnExactNetTake := sound_of (Γ := g_laws_FnExactNetTake) (X := [xlaws_FnExactNetTake_p0, xlaws_FnExactNetTake_p1, xlaws_FnExactNetTake_p2]) (ht := (.t .o (.t .o (.t .o (.t .o (.t .o (.t .o (.t .o (.x 2))))))))) (fz := false) (c := c_laws_FnExactNetTake) follows tysOk (fns_cons S_laws_szNet (fns_cons S_laws_toNet (fns_cons S_laws_eqNet (fns_cons S_laws_markNet (fns_cons S_laws_heldNet (fns_cons S_laws_eqPack (fns_cons S_laws_markPack (fns_cons S_spec_NetTake (fns_cons S_impl_NetTake (fns_cons S_laws_heldPack fns_nil)))))))))) (OrOk.mk trivial ((OrOk.mk trivial ((OrOk.mk trivial ((OrOk.mk trivial ((OrOk.mk trivial ((OrOk.mk trivial ((OrOk.mk trivial (OrOk.x_mk (fun W0 M hnp => olaws_FnExactNetTake_p2 (W0 := W0) (M := M) hnp))))))))))))))) Try.func8 (by kernel_rfl) (by kernel_rfl) (by decide) (by
  intro vals ext k r h
  obtain ⟨aN, a_aN, t_aN, vals, rfl, h1⟩ := av_some h
  obtain ⟨aI, a_aI, t_aI, vals, rfl, h2⟩ := av_some h1
  obtain ⟨rfl, h3⟩ := nl_some h2
  obtain ⟨rfl, h4⟩ := nl_some h3
  exact (E_laws_FnExactNetTake aN a_aN t_aN aI a_aI t_aI k).trans h4)

/-! ### 88 loop.example/g00462/spec.PackCut -/
noncomputable def c_spec_PackCut : Code := (Try.f88.body).getD .skip
noncomputable def g_spec_PackCut : Env Unit := ⟨tys, [], 0⟩
noncomputable def spec_PackCut_p0 (n_ : Int) (t6 : Bool) (k0 : Int → Res) : Res :=
  bif t6 then
    k0 0
  else
    k0 n_
noncomputable def xspec_PackCut_p0 : Node Unit := fun σ k => rdN σ 22 <| rdV σ 1 (.int .i64) false [] fun n_ => rdT σ 2 (.ptr ⟨true, 2, []⟩) <| rdT σ 4 (.ptr ⟨true, 4, []⟩) <| rdV σ 6 .bool false [] fun t6 => rdB σ 2 y0 [.S] fun a p => rdB σ 4 y0 [.O] fun a1 t4 => spec_PackCut_p0 n_ t6 (fun (n_1 : Int) => k .normal (mkS 22 22 [(1, .val ⟨(.int .i64), false, n_1, []⟩), (2, .ptr ⟨true, 2, []⟩), (4, .ptr ⟨true, 4, []⟩)] [(2, ⟨y0, a, p, [.S]⟩), (4, ⟨y0, a1, t4, [.O]⟩)]))
theorem espec_PackCut_p0 (n_ : Int) (t6 : Bool) (a : Bool) (p : List Int) (a1 : Bool) (t4 : List Int) (k : Kont Unit) : codeC g_spec_PackCut [] .o (Code.pr (Code.pl (Code.pr c_spec_PackCut))) (mkS 22 22 [(1, .val ⟨(.int .i64), false, n_, []⟩), (2, .ptr ⟨true, 2, []⟩), (4, .ptr ⟨true, 4, []⟩), (6, .val ⟨.bool, false, t6, []⟩)] [(2, ⟨y0, a, p, [.S]⟩), (4, ⟨y0, a1, t4, [.O]⟩)]) (fun e σ => k e ((cutC ([1, 2, 4], [2, 4]) [] ([], [])) e σ)) = spec_PackCut_p0 n_ t6 (fun (n_1 : Int) => k .normal (mkS 22 22 [(1, .val ⟨(.int .i64), false, n_1, []⟩), (2, .ptr ⟨true, 2, []⟩), (4, .ptr ⟨true, 4, []⟩)] [(2, ⟨y0, a, p, [.S]⟩), (4, ⟨y0, a1, t4, [.O]⟩)])) := by kernel_rfl
theorem ospec_PackCut_p0 {W0 : Base} {M : Nat → Prop} (hnp : W0.np ≤ 0) : CodeOk Try.prog W0 M (Code.pr (Code.pl (Code.pr c_spec_PackCut))) xspec_PackCut_p0 := node_ok (code_sound follows tysOk (calls_ok fns_nil) hnp [] _ .o trivial) (fg := (cutC ([1, 2, 4], [2, 4]) [] ([], []))) (cutC_le _ _ _) (by
  intro σ k r h
  obtain ⟨hn, h1⟩ := rdN_some h
  obtain ⟨n_, hs1, h2⟩ := rdV_some h1
  obtain ⟨hs2, h3⟩ := rdT_some h2
  obtain ⟨hs4, h4⟩ := rdT_some h3
  obtain ⟨t6, hs6, h5⟩ := rdV_some h4
  obtain ⟨a, p, hb2, h6⟩ := rdB_some h5
  obtain ⟨a1, t4, hb4, h7⟩ := rdB_some h6
  refine ⟨_, ?_, (espec_PackCut_p0 n_ t6 a p a1 t4 k).trans h7⟩
  exact mkS_le hn ⟨hs1, hs2, hs4, hs6, trivial⟩ ⟨hb2, hb4, trivial⟩)
noncomputable def spec_PackCut (p : List Int) (n_ : Int) (k0 : (List Int) → Res) : Res :=
  spec_PackCut_p0 n_ (decide (n_ < 0)) fun (n_1 : Int) =>
    bif decide (n_1 > (nI (List.length p))) then
      bif cutb 0 (nI (List.length p)) (List.length p) then
        bif lim (0 + (List.length (sub p 0 (nI (List.length p))))) then
          k0 (sub p 0 (nI (List.length p)))
        else none
      else none
    else
      bif cutb 0 n_1 (List.length p) then
        bif lim (0 + (List.length (sub p 0 n_1))) then
          k0 (sub p 0 n_1)
        else none
      else none
noncomputable def s_spec_PackCut : Sig Unit := ⟨[.borrow y0 true, .borrow (.int .i64) false], [true], fun vals ext k => av vals y0 fun p vals => av vals (.int .i64) fun n_ vals => nl vals <| nl ext <| spec_PackCut p n_ (fun (r0 : List Int) => k [⟨y0, true, r0, [.O]⟩] [] [])⟩
theorem E_spec_PackCut (p : List Int) (a_p : Bool) (t_p : List Tag) (n_ : Int) (a_n_ : Bool) (t_n_ : List Tag) (k : List TVal → List TVal → List TVal → Res) : funC g_spec_PackCut [xspec_PackCut_p0] (.t .o (.t (.t .o (.x 0)) .o)) false Try.f88 [.borrow y0 true, .borrow (.int .i64) false] [true] [⟨y0, a_p, p, t_p⟩, ⟨(.int .i64), a_n_, n_, t_n_⟩] [] k = spec_PackCut p n_ (fun (r0 : List Int) => k [⟨y0, true, r0, [.O]⟩] [] []) := by kernel_rfl
theorem S_spec_PackCut : Sound Try.prog 88 s_spec_PackCut := sound_of (Γ := g_spec_PackCut) (X := [xspec_PackCut_p0]) (ht := (.t .o (.t (.t .o (.x 0)) .o))) (fz := false) (c := c_spec_PackCut) follows tysOk fns_nil (OrOk.mk trivial ((OrOk.mk ((OrOk.mk trivial (OrOk.x_mk (fun W0 M hnp => ospec_PackCut_p0 (W0 := W0) (M := M) hnp)))) trivial))) Try.func88 (by kernel_rfl) (by kernel_rfl) (by decide) (by
  intro vals ext k r h
  obtain ⟨p, a_p, t_p, vals, rfl, h1⟩ := av_some h
  obtain ⟨n_, a_n_, t_n_, vals, rfl, h2⟩ := av_some h1
  obtain ⟨rfl, h3⟩ := nl_some h2
  obtain ⟨rfl, h4⟩ := nl_some h3
  exact (E_spec_PackCut p a_p t_p n_ a_n_ t_n_ k).trans h4)

/-! ### 41 loop.example/g00462/spec.NetCut -/
noncomputable def c_spec_NetCut : Code := (Try.f41.body).getD .skip
noncomputable def g_spec_NetCut : Env Unit := ⟨tys, [(24, s_spec_NetLose), (85, s_spec_l15Place), (88, s_spec_PackCut)], 0⟩
noncomputable def spec_NetCut (n_ : List (List Int)) (i : Int) (k_ : Int) (k0 : (List (List Int)) → Res) : Res :=
  spec_NetLose n_ (-1) fun (r : List (List Int)) =>
    spec_l15Place r i fun (r1 : Bool) =>
      bif r1 then
        bif inb i (List.length r) then
          spec_PackCut (nth [] r i) k_ fun (r2 : List Int) =>
            bif inb i (List.length r) then
              k0 (upd r i r2)
            else none
        else none
      else
        k0 r
noncomputable def s_spec_NetCut : Sig Unit := ⟨[.borrow y1 true, .borrow (.int .i64) false, .borrow (.int .i64) false], [true], fun vals ext k => av vals y1 fun n_ vals => av vals (.int .i64) fun i vals => av vals (.int .i64) fun k_ vals => nl vals <| nl ext <| spec_NetCut n_ i k_ (fun (r0 : List (List Int)) => k [⟨y1, true, r0, [.O]⟩] [] [])⟩
theorem E_spec_NetCut (n_ : List (List Int)) (a_n_ : Bool) (t_n_ : List Tag) (i : Int) (a_i : Bool) (t_i : List Tag) (k_ : Int) (a_k_ : Bool) (t_k_ : List Tag) (k : List TVal → List TVal → List TVal → Res) : funC g_spec_NetCut [] .o false Try.f41 [.borrow y1 true, .borrow (.int .i64) false, .borrow (.int .i64) false] [true] [⟨y1, a_n_, n_, t_n_⟩, ⟨(.int .i64), a_i, i, t_i⟩, ⟨(.int .i64), a_k_, k_, t_k_⟩] [] k = spec_NetCut n_ i k_ (fun (r0 : List (List Int)) => k [⟨y1, true, r0, [.O]⟩] [] []) := by kernel_rfl
theorem S_spec_NetCut : Sound Try.prog 41 s_spec_NetCut := sound_of (Γ := g_spec_NetCut) (X := []) (ht := .o) (fz := false) (c := c_spec_NetCut) follows tysOk (fns_cons S_spec_NetLose (fns_cons S_spec_l15Place (fns_cons S_spec_PackCut fns_nil))) trivial Try.func41 (by kernel_rfl) (by kernel_rfl) (by decide) (by
  intro vals ext k r h
  obtain ⟨n_, a_n_, t_n_, vals, rfl, h1⟩ := av_some h
  obtain ⟨i, a_i, t_i, vals, rfl, h2⟩ := av_some h1
  obtain ⟨k_, a_k_, t_k_, vals, rfl, h3⟩ := av_some h2
  obtain ⟨rfl, h4⟩ := nl_some h3
  obtain ⟨rfl, h5⟩ := nl_some h4
  exact (E_spec_NetCut n_ a_n_ t_n_ i a_i t_i k_ a_k_ t_k_ k).trans h5)

/-! ### 89 loop.example/g00462/impl.PackCut -/
noncomputable def c_impl_PackCut : Code := (Try.f89.body).getD .skip
noncomputable def g_impl_PackCut : Env Unit := ⟨tys, [], 0⟩
noncomputable def impl_PackCut (p : List Int) (n_ : Int) (k0 : (List Int) → Res) : Res :=
  bif cutb 0 (mxI 0 (mnI n_ (nI (List.length p)))) (List.length p) then
    bif lim (0 + (List.length (sub p 0 (mxI 0 (mnI n_ (nI (List.length p))))))) then
      k0 (sub p 0 (mxI 0 (mnI n_ (nI (List.length p)))))
    else none
  else none
noncomputable def s_impl_PackCut : Sig Unit := ⟨[.borrow y0 true, .borrow (.int .i64) false], [true], fun vals ext k => av vals y0 fun p vals => av vals (.int .i64) fun n_ vals => nl vals <| nl ext <| impl_PackCut p n_ (fun (r0 : List Int) => k [⟨y0, true, r0, [.O]⟩] [] [])⟩
theorem E_impl_PackCut (p : List Int) (a_p : Bool) (t_p : List Tag) (n_ : Int) (a_n_ : Bool) (t_n_ : List Tag) (k : List TVal → List TVal → List TVal → Res) : funC g_impl_PackCut [] .o false Try.f89 [.borrow y0 true, .borrow (.int .i64) false] [true] [⟨y0, a_p, p, t_p⟩, ⟨(.int .i64), a_n_, n_, t_n_⟩] [] k = impl_PackCut p n_ (fun (r0 : List Int) => k [⟨y0, true, r0, [.O]⟩] [] []) := by kernel_rfl
theorem S_impl_PackCut : Sound Try.prog 89 s_impl_PackCut := sound_of (Γ := g_impl_PackCut) (X := []) (ht := .o) (fz := false) (c := c_impl_PackCut) follows tysOk fns_nil trivial Try.func89 (by kernel_rfl) (by kernel_rfl) (by decide) (by
  intro vals ext k r h
  obtain ⟨p, a_p, t_p, vals, rfl, h1⟩ := av_some h
  obtain ⟨n_, a_n_, t_n_, vals, rfl, h2⟩ := av_some h1
  obtain ⟨rfl, h3⟩ := nl_some h2
  obtain ⟨rfl, h4⟩ := nl_some h3
  exact (E_impl_PackCut p a_p t_p n_ a_n_ t_n_ k).trans h4)

/-! ### 42 loop.example/g00462/impl.NetCut -/
noncomputable def c_impl_NetCut : Code := (Try.f42.body).getD .skip
noncomputable def g_impl_NetCut : Env Unit := ⟨tys, [(17, s_impl_NetOk), (76, s_impl_copyNet), (86, s_impl_Net_has), (89, s_impl_PackCut)], 0⟩
noncomputable def impl_NetCut (n_ : List (List Int)) (i : Int) (k_ : Int) (k0 : (List (List Int)) → Res) : Res :=
  impl_NetOk n_ fun (r : Bool) =>
    bif !r then
      k0 []
    else
      impl_copyNet n_ fun (r1 : List (List Int)) =>
        impl_Net_has n_ i fun (r2 : Bool) =>
          bif r2 then
            bif inb i (List.length n_) then
              impl_PackCut (nth [] n_ i) k_ fun (r3 : List Int) =>
                bif inb i (List.length r1) then
                  k0 (upd r1 i r3)
                else none
            else none
          else
            k0 r1
noncomputable def s_impl_NetCut : Sig Unit := ⟨[.borrow y1 true, .borrow (.int .i64) false, .borrow (.int .i64) false], [true], fun vals ext k => av vals y1 fun n_ vals => av vals (.int .i64) fun i vals => av vals (.int .i64) fun k_ vals => nl vals <| nl ext <| impl_NetCut n_ i k_ (fun (r0 : List (List Int)) => k [⟨y1, true, r0, [.O]⟩] [] [])⟩
theorem E_impl_NetCut (n_ : List (List Int)) (a_n_ : Bool) (t_n_ : List Tag) (i : Int) (a_i : Bool) (t_i : List Tag) (k_ : Int) (a_k_ : Bool) (t_k_ : List Tag) (k : List TVal → List TVal → List TVal → Res) : funC g_impl_NetCut [] .o false Try.f42 [.borrow y1 true, .borrow (.int .i64) false, .borrow (.int .i64) false] [true] [⟨y1, a_n_, n_, t_n_⟩, ⟨(.int .i64), a_i, i, t_i⟩, ⟨(.int .i64), a_k_, k_, t_k_⟩] [] k = impl_NetCut n_ i k_ (fun (r0 : List (List Int)) => k [⟨y1, true, r0, [.O]⟩] [] []) := by kernel_rfl
theorem S_impl_NetCut : Sound Try.prog 42 s_impl_NetCut := sound_of (Γ := g_impl_NetCut) (X := []) (ht := .o) (fz := false) (c := c_impl_NetCut) follows tysOk (fns_cons S_impl_NetOk (fns_cons S_impl_copyNet (fns_cons S_impl_Net_has (fns_cons S_impl_PackCut fns_nil)))) trivial Try.func42 (by kernel_rfl) (by kernel_rfl) (by decide) (by
  intro vals ext k r h
  obtain ⟨n_, a_n_, t_n_, vals, rfl, h1⟩ := av_some h
  obtain ⟨i, a_i, t_i, vals, rfl, h2⟩ := av_some h1
  obtain ⟨k_, a_k_, t_k_, vals, rfl, h3⟩ := av_some h2
  obtain ⟨rfl, h4⟩ := nl_some h3
  obtain ⟨rfl, h5⟩ := nl_some h4
  exact (E_impl_NetCut n_ a_n_ t_n_ i a_i t_i k_ a_k_ t_k_ k).trans h5)

/-! ### 9 loop.example/g00462/laws.FnExactNetCut -/
noncomputable def c_laws_FnExactNetCut : Code := (Try.f9.body).getD .skip
noncomputable def g_laws_FnExactNetCut : Env Unit := ⟨tys, [(14, s_laws_szNet), (16, s_laws_toNet), (18, s_laws_eqNet), (26, s_laws_markNet), (27, s_laws_heldNet), (41, s_spec_NetCut), (42, s_impl_NetCut)], 0⟩
noncomputable def laws_FnExactNetCut_p0 (aI : Int) (aK : Int) (aN : List (List Int)) (w0 : List (List Int)) (g0 : List (List Int)) (k0 : Bool → Res) : Res :=
  laws_markNet g0 1 fun (r : Int) (a3 : List (List Int)) =>
    laws_heldNet a3 1 fun (r1 : Int) =>
      bif decide (r1 < 0) then
        k0 false
      else
        bif (r1 != r) then
          k0 false
        else
          laws_toNet aN fun (r2 : List (List Int)) =>
            impl_NetCut r2 aI aK fun (r3 : List (List Int)) =>
              laws_eqNet r3 w0 fun (r4 : Bool) =>
                bif !r4 then
                  k0 false
                else
                  laws_heldNet a3 1 fun (r5 : Int) =>
                    bif decide (r5 < 0) then
                      k0 false
                    else
                      bif (r5 != r) then
                        k0 false
                      else
                        k0 true
noncomputable def xlaws_FnExactNetCut_p0 : Node Unit := fun σ k => rdN σ 79 <| rdV σ 1 (.int .i64) false [] fun aI => rdV σ 2 (.int .i64) false [] fun aK => rdT σ 3 (.ptr ⟨true, 3, []⟩) <| rdT σ 8 (.ptr ⟨true, 8, []⟩) <| rdT σ 10 (.ptr ⟨true, 10, []⟩) <| rdB σ 3 y1 [.S] fun a aN => rdB σ 8 y1 [.O] fun a1 w0 => rdB σ 10 y1 [.O] fun a2 g0 => laws_FnExactNetCut_p0 aI aK aN w0 g0 (fun (t6 : Bool) => k .ret (mkS 79 79 [(6, .val ⟨.bool, false, t6, []⟩)] []))
theorem elaws_FnExactNetCut_p0 (aI : Int) (aK : Int) (a : Bool) (aN : List (List Int)) (a1 : Bool) (w0 : List (List Int)) (a2 : Bool) (g0 : List (List Int)) (k : Kont Unit) : codeC g_laws_FnExactNetCut [] .o (Code.pr (Code.pr (Code.pr (Code.pr (Code.pr (Code.pr (Code.pr (Code.pr (Code.pr (Code.pr (Code.pr (Code.pr c_laws_FnExactNetCut)))))))))))) (mkS 79 79 [(1, .val ⟨(.int .i64), false, aI, []⟩), (2, .val ⟨(.int .i64), false, aK, []⟩), (3, .ptr ⟨true, 3, []⟩), (8, .ptr ⟨true, 8, []⟩), (10, .ptr ⟨true, 10, []⟩)] [(3, ⟨y1, a, aN, [.S]⟩), (8, ⟨y1, a1, w0, [.O]⟩), (10, ⟨y1, a2, g0, [.O]⟩)]) (fun e σ => k e ((cutC ([], []) [] ([6], [])) e σ)) = laws_FnExactNetCut_p0 aI aK aN w0 g0 (fun (t6 : Bool) => k .ret (mkS 79 79 [(6, .val ⟨.bool, false, t6, []⟩)] [])) := by kernel_rfl
theorem olaws_FnExactNetCut_p0 {W0 : Base} {M : Nat → Prop} (hnp : W0.np ≤ 0) : CodeOk Try.prog W0 M (Code.pr (Code.pr (Code.pr (Code.pr (Code.pr (Code.pr (Code.pr (Code.pr (Code.pr (Code.pr (Code.pr (Code.pr c_laws_FnExactNetCut)))))))))))) xlaws_FnExactNetCut_p0 := node_ok (code_sound follows tysOk (calls_ok (fns_cons S_laws_szNet (fns_cons S_laws_toNet (fns_cons S_laws_eqNet (fns_cons S_laws_markNet (fns_cons S_laws_heldNet (fns_cons S_spec_NetCut (fns_cons S_impl_NetCut fns_nil)))))))) hnp [] _ .o trivial) (fg := (cutC ([], []) [] ([6], []))) (cutC_le _ _ _) (by
  intro σ k r h
  obtain ⟨hn, h1⟩ := rdN_some h
  obtain ⟨aI, hs1, h2⟩ := rdV_some h1
  obtain ⟨aK, hs2, h3⟩ := rdV_some h2
  obtain ⟨hs3, h4⟩ := rdT_some h3
  obtain ⟨hs8, h5⟩ := rdT_some h4
  obtain ⟨hs10, h6⟩ := rdT_some h5
  obtain ⟨a, aN, hb3, h7⟩ := rdB_some h6
  obtain ⟨a1, w0, hb8, h8⟩ := rdB_some h7
  obtain ⟨a2, g0, hb10, h9⟩ := rdB_some h8
  refine ⟨_, ?_, (elaws_FnExactNetCut_p0 aI aK a aN a1 w0 a2 g0 k).trans h9⟩
  exact mkS_le hn ⟨hs1, hs2, hs3, hs8, hs10, trivial⟩ ⟨hb3, hb8, hb10, trivial⟩)
noncomputable def laws_FnExactNetCut (aN : List (List Int)) (aI : Int) (aK : Int) (k0 : Bool → Res) : Res :=
  laws_szNet aN 1048576 fun (r : Int) =>
    bif decide (r < 0) then
      k0 true
    else
      laws_toNet aN fun (r1 : List (List Int)) =>
        spec_NetCut r1 aI aK fun (r2 : List (List Int)) =>
          laws_toNet aN fun (r3 : List (List Int)) =>
            impl_NetCut r3 aI aK fun (r4 : List (List Int)) =>
              laws_eqNet r4 r2 fun (r5 : Bool) =>
                bif !r5 then
                  k0 false
                else
                  laws_toNet aN fun (r6 : List (List Int)) =>
                    laws_eqNet r3 r6 fun (r7 : Bool) =>
                      bif !r7 then
                        k0 false
                      else
                        laws_markNet r3 1 fun (r8 : Int) (a : List (List Int)) =>
                          bif decide (r8 < 0) then
                            k0 false
                          else
                            laws_eqNet r4 r2 fun (r9 : Bool) =>
                              bif !r9 then
                                k0 false
                              else
                                laws_FnExactNetCut_p0 aI aK aN r2 r4 fun (t : Bool) =>
                                  k0 t
noncomputable def s_laws_FnExactNetCut : Sig Unit := ⟨[.borrow y1 true, .borrow (.int .i64) false, .borrow (.int .i64) false], [false], fun vals ext k => av vals y1 fun aN vals => av vals (.int .i64) fun aI vals => av vals (.int .i64) fun aK vals => nl vals <| nl ext <| laws_FnExactNetCut aN aI aK (fun (r0 : Bool) => k [⟨.bool, false, r0, []⟩] [] [])⟩
theorem E_laws_FnExactNetCut (aN : List (List Int)) (a_aN : Bool) (t_aN : List Tag) (aI : Int) (a_aI : Bool) (t_aI : List Tag) (aK : Int) (a_aK : Bool) (t_aK : List Tag) (k : List TVal → List TVal → List TVal → Res) : funC g_laws_FnExactNetCut [xlaws_FnExactNetCut_p0] (.t .o (.t .o (.t .o (.t .o (.t .o (.t .o (.t .o (.t .o (.t .o (.t .o (.t .o (.t .o (.x 0))))))))))))) false Try.f9 [.borrow y1 true, .borrow (.int .i64) false, .borrow (.int .i64) false] [false] [⟨y1, a_aN, aN, t_aN⟩, ⟨(.int .i64), a_aI, aI, t_aI⟩, ⟨(.int .i64), a_aK, aK, t_aK⟩] [] k = laws_FnExactNetCut aN aI aK (fun (r0 : Bool) => k [⟨.bool, false, r0, []⟩] [] []) := by kernel_rfl
theorem S_laws_FnExactNetCut : Sound Try.prog 9 s_laws_FnExactNetCut := sound_of (Γ := g_laws_FnExactNetCut) (X := [xlaws_FnExactNetCut_p0]) (ht := (.t .o (.t .o (.t .o (.t .o (.t .o (.t .o (.t .o (.t .o (.t .o (.t .o (.t .o (.t .o (.x 0)))))))))))))) (fz := false) (c := c_laws_FnExactNetCut) follows tysOk (fns_cons S_laws_szNet (fns_cons S_laws_toNet (fns_cons S_laws_eqNet (fns_cons S_laws_markNet (fns_cons S_laws_heldNet (fns_cons S_spec_NetCut (fns_cons S_impl_NetCut fns_nil))))))) (OrOk.mk trivial ((OrOk.mk trivial ((OrOk.mk trivial ((OrOk.mk trivial ((OrOk.mk trivial ((OrOk.mk trivial ((OrOk.mk trivial ((OrOk.mk trivial ((OrOk.mk trivial ((OrOk.mk trivial ((OrOk.mk trivial ((OrOk.mk trivial (OrOk.x_mk (fun W0 M hnp => olaws_FnExactNetCut_p0 (W0 := W0) (M := M) hnp))))))))))))))))))))))))) Try.func9 (by kernel_rfl) (by kernel_rfl) (by decide) (by
  intro vals ext k r h
  obtain ⟨aN, a_aN, t_aN, vals, rfl, h1⟩ := av_some h
  obtain ⟨aI, a_aI, t_aI, vals, rfl, h2⟩ := av_some h1
  obtain ⟨aK, a_aK, t_aK, vals, rfl, h3⟩ := av_some h2
  obtain ⟨rfl, h4⟩ := nl_some h3
  obtain ⟨rfl, h5⟩ := nl_some h4
  exact (E_laws_FnExactNetCut aN a_aN t_aN aI a_aI t_aI aK a_aK t_aK k).trans h5)

/-! ### 43 loop.example/g00462/spec.NetLate -/
noncomputable def c_spec_NetLate : Code := (Try.f43.body).getD .skip
noncomputable def g_spec_NetLate : Env Unit := ⟨tys, [(15, s_spec_NetOk), (24, s_spec_NetLose), (29, s_spec_NetSend), (70, s_spec_l15But), (85, s_spec_l15Place)], 0⟩
noncomputable def spec_NetLate (n_ : List (List Int)) (i : Int) (k0 : (List (List Int)) → Res) : Res :=
  spec_NetOk n_ fun (r : Bool) =>
    bif r then
      spec_l15Place n_ i fun (r1 : Bool) =>
        bif r1 then
          bif inb i (List.length n_) then
            spec_l15But n_ i fun (r2 : List (List Int)) =>
              spec_NetSend r2 (nth [] n_ i) fun (r3 : List (List Int)) =>
                k0 r3
          else none
        else
          spec_NetLose n_ (-1) fun (r4 : List (List Int)) =>
            k0 r4
    else
      spec_NetLose n_ (-1) fun (r5 : List (List Int)) =>
        k0 r5
noncomputable def s_spec_NetLate : Sig Unit := ⟨[.borrow y1 true, .borrow (.int .i64) false], [true], fun vals ext k => av vals y1 fun n_ vals => av vals (.int .i64) fun i vals => nl vals <| nl ext <| spec_NetLate n_ i (fun (r0 : List (List Int)) => k [⟨y1, true, r0, [.O]⟩] [] [])⟩
theorem E_spec_NetLate (n_ : List (List Int)) (a_n_ : Bool) (t_n_ : List Tag) (i : Int) (a_i : Bool) (t_i : List Tag) (k : List TVal → List TVal → List TVal → Res) : funC g_spec_NetLate [] .o false Try.f43 [.borrow y1 true, .borrow (.int .i64) false] [true] [⟨y1, a_n_, n_, t_n_⟩, ⟨(.int .i64), a_i, i, t_i⟩] [] k = spec_NetLate n_ i (fun (r0 : List (List Int)) => k [⟨y1, true, r0, [.O]⟩] [] []) := by kernel_rfl
theorem S_spec_NetLate : Sound Try.prog 43 s_spec_NetLate := sound_of (Γ := g_spec_NetLate) (X := []) (ht := .o) (fz := false) (c := c_spec_NetLate) follows tysOk (fns_cons S_spec_NetOk (fns_cons S_spec_NetLose (fns_cons S_spec_NetSend (fns_cons S_spec_l15But (fns_cons S_spec_l15Place fns_nil))))) trivial Try.func43 (by kernel_rfl) (by kernel_rfl) (by decide) (by
  intro vals ext k r h
  obtain ⟨n_, a_n_, t_n_, vals, rfl, h1⟩ := av_some h
  obtain ⟨i, a_i, t_i, vals, rfl, h2⟩ := av_some h1
  obtain ⟨rfl, h3⟩ := nl_some h2
  obtain ⟨rfl, h4⟩ := nl_some h3
  exact (E_spec_NetLate n_ a_n_ t_n_ i a_i t_i k).trans h4)

/-! ### 44 loop.example/g00462/impl.NetLate -/
noncomputable def c_impl_NetLate : Code := (Try.f44.body).getD .skip
noncomputable def g_impl_NetLate : Env Unit := ⟨tys, [(17, s_impl_NetOk), (25, s_impl_NetLose), (31, s_impl_NetSend), (71, s_impl_Net_without), (86, s_impl_Net_has)], 0⟩
noncomputable def impl_NetLate (n_ : List (List Int)) (i : Int) (k0 : (List (List Int)) → Res) : Res :=
  impl_NetOk n_ fun (r : Bool) =>
    bif !r then
      impl_NetLose n_ (-1) fun (r1 : List (List Int)) =>
        k0 r1
    else
      impl_Net_has n_ i fun (r2 : Bool) =>
        bif !r2 then
          impl_NetLose n_ (-1) fun (r3 : List (List Int)) =>
            k0 r3
        else
          bif inb i (List.length n_) then
            impl_Net_without n_ i fun (r4 : List (List Int)) =>
              impl_NetSend r4 (nth [] n_ i) fun (r5 : List (List Int)) =>
                k0 r5
          else none
noncomputable def s_impl_NetLate : Sig Unit := ⟨[.borrow y1 true, .borrow (.int .i64) false], [true], fun vals ext k => av vals y1 fun n_ vals => av vals (.int .i64) fun i vals => nl vals <| nl ext <| impl_NetLate n_ i (fun (r0 : List (List Int)) => k [⟨y1, true, r0, [.O]⟩] [] [])⟩
theorem E_impl_NetLate (n_ : List (List Int)) (a_n_ : Bool) (t_n_ : List Tag) (i : Int) (a_i : Bool) (t_i : List Tag) (k : List TVal → List TVal → List TVal → Res) : funC g_impl_NetLate [] .o false Try.f44 [.borrow y1 true, .borrow (.int .i64) false] [true] [⟨y1, a_n_, n_, t_n_⟩, ⟨(.int .i64), a_i, i, t_i⟩] [] k = impl_NetLate n_ i (fun (r0 : List (List Int)) => k [⟨y1, true, r0, [.O]⟩] [] []) := by kernel_rfl
theorem S_impl_NetLate : Sound Try.prog 44 s_impl_NetLate := sound_of (Γ := g_impl_NetLate) (X := []) (ht := .o) (fz := false) (c := c_impl_NetLate) follows tysOk (fns_cons S_impl_NetOk (fns_cons S_impl_NetLose (fns_cons S_impl_NetSend (fns_cons S_impl_Net_without (fns_cons S_impl_Net_has fns_nil))))) trivial Try.func44 (by kernel_rfl) (by kernel_rfl) (by decide) (by
  intro vals ext k r h
  obtain ⟨n_, a_n_, t_n_, vals, rfl, h1⟩ := av_some h
  obtain ⟨i, a_i, t_i, vals, rfl, h2⟩ := av_some h1
  obtain ⟨rfl, h3⟩ := nl_some h2
  obtain ⟨rfl, h4⟩ := nl_some h3
  exact (E_impl_NetLate n_ a_n_ t_n_ i a_i t_i k).trans h4)

/-! ### 10 loop.example/g00462/laws.FnExactNetLate -/
noncomputable def c_laws_FnExactNetLate : Code := (Try.f10.body).getD .skip
noncomputable def g_laws_FnExactNetLate : Env Unit := ⟨tys, [(14, s_laws_szNet), (16, s_laws_toNet), (18, s_laws_eqNet), (26, s_laws_markNet), (27, s_laws_heldNet), (43, s_spec_NetLate), (44, s_impl_NetLate)], 0⟩
noncomputable def laws_FnExactNetLate_p0 (aI : Int) (aN : List (List Int)) (w0 : List (List Int)) (g0 : List (List Int)) (k0 : Bool → Res) : Res :=
  laws_markNet g0 1 fun (r : Int) (a3 : List (List Int)) =>
    laws_heldNet a3 1 fun (r1 : Int) =>
      bif decide (r1 < 0) then
        k0 false
      else
        bif (r1 != r) then
          k0 false
        else
          laws_toNet aN fun (r2 : List (List Int)) =>
            impl_NetLate r2 aI fun (r3 : List (List Int)) =>
              laws_eqNet r3 w0 fun (r4 : Bool) =>
                bif !r4 then
                  k0 false
                else
                  laws_heldNet a3 1 fun (r5 : Int) =>
                    bif decide (r5 < 0) then
                      k0 false
                    else
                      bif (r5 != r) then
                        k0 false
                      else
                        k0 true
noncomputable def xlaws_FnExactNetLate_p0 : Node Unit := fun σ k => rdN σ 74 <| rdV σ 1 (.int .i64) false [] fun aI => rdT σ 2 (.ptr ⟨true, 2, []⟩) <| rdT σ 6 (.ptr ⟨true, 6, []⟩) <| rdT σ 8 (.ptr ⟨true, 8, []⟩) <| rdB σ 2 y1 [.S] fun a aN => rdB σ 6 y1 [.O] fun a1 w0 => rdB σ 8 y1 [.O] fun a2 g0 => laws_FnExactNetLate_p0 aI aN w0 g0 (fun (t4 : Bool) => k .ret (mkS 74 74 [(4, .val ⟨.bool, false, t4, []⟩)] []))
theorem elaws_FnExactNetLate_p0 (aI : Int) (a : Bool) (aN : List (List Int)) (a1 : Bool) (w0 : List (List Int)) (a2 : Bool) (g0 : List (List Int)) (k : Kont Unit) : codeC g_laws_FnExactNetLate [] .o (Code.pr (Code.pr (Code.pr (Code.pr (Code.pr (Code.pr (Code.pr (Code.pr (Code.pr (Code.pr (Code.pr (Code.pr c_laws_FnExactNetLate)))))))))))) (mkS 74 74 [(1, .val ⟨(.int .i64), false, aI, []⟩), (2, .ptr ⟨true, 2, []⟩), (6, .ptr ⟨true, 6, []⟩), (8, .ptr ⟨true, 8, []⟩)] [(2, ⟨y1, a, aN, [.S]⟩), (6, ⟨y1, a1, w0, [.O]⟩), (8, ⟨y1, a2, g0, [.O]⟩)]) (fun e σ => k e ((cutC ([], []) [] ([4], [])) e σ)) = laws_FnExactNetLate_p0 aI aN w0 g0 (fun (t4 : Bool) => k .ret (mkS 74 74 [(4, .val ⟨.bool, false, t4, []⟩)] [])) := by kernel_rfl
theorem olaws_FnExactNetLate_p0 {W0 : Base} {M : Nat → Prop} (hnp : W0.np ≤ 0) : CodeOk Try.prog W0 M (Code.pr (Code.pr (Code.pr (Code.pr (Code.pr (Code.pr (Code.pr (Code.pr (Code.pr (Code.pr (Code.pr (Code.pr c_laws_FnExactNetLate)))))))))))) xlaws_FnExactNetLate_p0 := node_ok (code_sound follows tysOk (calls_ok (fns_cons S_laws_szNet (fns_cons S_laws_toNet (fns_cons S_laws_eqNet (fns_cons S_laws_markNet (fns_cons S_laws_heldNet (fns_cons S_spec_NetLate (fns_cons S_impl_NetLate fns_nil)))))))) hnp [] _ .o trivial) (fg := (cutC ([], []) [] ([4], []))) (cutC_le _ _ _) (by
  intro σ k r h
  obtain ⟨hn, h1⟩ := rdN_some h
  obtain ⟨aI, hs1, h2⟩ := rdV_some h1
  obtain ⟨hs2, h3⟩ := rdT_some h2
  obtain ⟨hs6, h4⟩ := rdT_some h3
  obtain ⟨hs8, h5⟩ := rdT_some h4
  obtain ⟨a, aN, hb2, h6⟩ := rdB_some h5
  obtain ⟨a1, w0, hb6, h7⟩ := rdB_some h6
  obtain ⟨a2, g0, hb8, h8⟩ := rdB_some h7
  refine ⟨_, ?_, (elaws_FnExactNetLate_p0 aI a aN a1 w0 a2 g0 k).trans h8⟩
  exact mkS_le hn ⟨hs1, hs2, hs6, hs8, trivial⟩ ⟨hb2, hb6, hb8, trivial⟩)
noncomputable def laws_FnExactNetLate (aN : List (List Int)) (aI : Int) (k0 : Bool → Res) : Res :=
  laws_szNet aN 1048576 fun (r : Int) =>
    bif decide (r < 0) then
      k0 true
    else
      laws_toNet aN fun (r1 : List (List Int)) =>
        spec_NetLate r1 aI fun (r2 : List (List Int)) =>
          laws_toNet aN fun (r3 : List (List Int)) =>
            impl_NetLate r3 aI fun (r4 : List (List Int)) =>
              laws_eqNet r4 r2 fun (r5 : Bool) =>
                bif !r5 then
                  k0 false
                else
                  laws_toNet aN fun (r6 : List (List Int)) =>
                    laws_eqNet r3 r6 fun (r7 : Bool) =>
                      bif !r7 then
                        k0 false
                      else
                        laws_markNet r3 1 fun (r8 : Int) (a : List (List Int)) =>
                          bif decide (r8 < 0) then
                            k0 false
                          else
                            laws_eqNet r4 r2 fun (r9 : Bool) =>
                              bif !r9 then
                                k0 false
                              else
                                laws_FnExactNetLate_p0 aI aN r2 r4 fun (t : Bool) =>
                                  k0 t
noncomputable def s_laws_FnExactNetLate : Sig Unit := ⟨[.borrow y1 true, .borrow (.int .i64) false], [false], fun vals ext k => av vals y1 fun aN vals => av vals (.int .i64) fun aI vals => nl vals <| nl ext <| laws_FnExactNetLate aN aI (fun (r0 : Bool) => k [⟨.bool, false, r0, []⟩] [] [])⟩
theorem E_laws_FnExactNetLate (aN : List (List Int)) (a_aN : Bool) (t_aN : List Tag) (aI : Int) (a_aI : Bool) (t_aI : List Tag) (k : List TVal → List TVal → List TVal → Res) : funC g_laws_FnExactNetLate [xlaws_FnExactNetLate_p0] (.t .o (.t .o (.t .o (.t .o (.t .o (.t .o (.t .o (.t .o (.t .o (.t .o (.t .o (.t .o (.x 0))))))))))))) false Try.f10 [.borrow y1 true, .borrow (.int .i64) false] [false] [⟨y1, a_aN, aN, t_aN⟩, ⟨(.int .i64), a_aI, aI, t_aI⟩] [] k = laws_FnExactNetLate aN aI (fun (r0 : Bool) => k [⟨.bool, false, r0, []⟩] [] []) := by kernel_rfl
theorem S_laws_FnExactNetLate : Sound Try.prog 10 s_laws_FnExactNetLate := sound_of (Γ := g_laws_FnExactNetLate) (X := [xlaws_FnExactNetLate_p0]) (ht := (.t .o (.t .o (.t .o (.t .o (.t .o (.t .o (.t .o (.t .o (.t .o (.t .o (.t .o (.t .o (.x 0)))))))))))))) (fz := false) (c := c_laws_FnExactNetLate) follows tysOk (fns_cons S_laws_szNet (fns_cons S_laws_toNet (fns_cons S_laws_eqNet (fns_cons S_laws_markNet (fns_cons S_laws_heldNet (fns_cons S_spec_NetLate (fns_cons S_impl_NetLate fns_nil))))))) (OrOk.mk trivial ((OrOk.mk trivial ((OrOk.mk trivial ((OrOk.mk trivial ((OrOk.mk trivial ((OrOk.mk trivial ((OrOk.mk trivial ((OrOk.mk trivial ((OrOk.mk trivial ((OrOk.mk trivial ((OrOk.mk trivial ((OrOk.mk trivial (OrOk.x_mk (fun W0 M hnp => olaws_FnExactNetLate_p0 (W0 := W0) (M := M) hnp))))))))))))))))))))))))) Try.func10 (by kernel_rfl) (by kernel_rfl) (by decide) (by
  intro vals ext k r h
  obtain ⟨aN, a_aN, t_aN, vals, rfl, h1⟩ := av_some h
  obtain ⟨aI, a_aI, t_aI, vals, rfl, h2⟩ := av_some h1
  obtain ⟨rfl, h3⟩ := nl_some h2
  obtain ⟨rfl, h4⟩ := nl_some h3
  exact (E_laws_FnExactNetLate aN a_aN t_aN aI a_aI t_aI k).trans h4)

/-! ### 45 loop.example/g00462/spec.NetTwice -/
noncomputable def c_spec_NetTwice : Code := (Try.f45.body).getD .skip
noncomputable def g_spec_NetTwice : Env Unit := ⟨tys, [(15, s_spec_NetOk), (24, s_spec_NetLose), (29, s_spec_NetSend), (85, s_spec_l15Place)], 0⟩
noncomputable def spec_NetTwice (n_ : List (List Int)) (i : Int) (k0 : (List (List Int)) → Res) : Res :=
  spec_NetOk n_ fun (r : Bool) =>
    bif r then
      spec_l15Place n_ i fun (r1 : Bool) =>
        bif r1 then
          bif inb i (List.length n_) then
            spec_NetSend n_ (nth [] n_ i) fun (r2 : List (List Int)) =>
              k0 r2
          else none
        else
          spec_NetLose n_ (-1) fun (r3 : List (List Int)) =>
            k0 r3
    else
      spec_NetLose n_ (-1) fun (r4 : List (List Int)) =>
        k0 r4
noncomputable def s_spec_NetTwice : Sig Unit := ⟨[.borrow y1 true, .borrow (.int .i64) false], [true], fun vals ext k => av vals y1 fun n_ vals => av vals (.int .i64) fun i vals => nl vals <| nl ext <| spec_NetTwice n_ i (fun (r0 : List (List Int)) => k [⟨y1, true, r0, [.O]⟩] [] [])⟩
theorem E_spec_NetTwice (n_ : List (List Int)) (a_n_ : Bool) (t_n_ : List Tag) (i : Int) (a_i : Bool) (t_i : List Tag) (k : List TVal → List TVal → List TVal → Res) : funC g_spec_NetTwice [] .o false Try.f45 [.borrow y1 true, .borrow (.int .i64) false] [true] [⟨y1, a_n_, n_, t_n_⟩, ⟨(.int .i64), a_i, i, t_i⟩] [] k = spec_NetTwice n_ i (fun (r0 : List (List Int)) => k [⟨y1, true, r0, [.O]⟩] [] []) := by kernel_rfl
theorem S_spec_NetTwice : Sound Try.prog 45 s_spec_NetTwice := sound_of (Γ := g_spec_NetTwice) (X := []) (ht := .o) (fz := false) (c := c_spec_NetTwice) follows tysOk (fns_cons S_spec_NetOk (fns_cons S_spec_NetLose (fns_cons S_spec_NetSend (fns_cons S_spec_l15Place fns_nil)))) trivial Try.func45 (by kernel_rfl) (by kernel_rfl) (by decide) (by
  intro vals ext k r h
  obtain ⟨n_, a_n_, t_n_, vals, rfl, h1⟩ := av_some h
  obtain ⟨i, a_i, t_i, vals, rfl, h2⟩ := av_some h1
  obtain ⟨rfl, h3⟩ := nl_some h2
  obtain ⟨rfl, h4⟩ := nl_some h3
  exact (E_spec_NetTwice n_ a_n_ t_n_ i a_i t_i k).trans h4)

/-! ### 46 loop.example/g00462/impl.NetTwice -/
noncomputable def c_impl_NetTwice : Code := (Try.f46.body).getD .skip
noncomputable def g_impl_NetTwice : Env Unit := ⟨tys, [(17, s_impl_NetOk), (25, s_impl_NetLose), (31, s_impl_NetSend), (86, s_impl_Net_has)], 0⟩
noncomputable def impl_NetTwice (n_ : List (List Int)) (i : Int) (k0 : (List (List Int)) → Res) : Res :=
  impl_NetOk n_ fun (r : Bool) =>
    bif !r then
      impl_NetLose n_ (-1) fun (r1 : List (List Int)) =>
        k0 r1
    else
      impl_Net_has n_ i fun (r2 : Bool) =>
        bif !r2 then
          impl_NetLose n_ (-1) fun (r3 : List (List Int)) =>
            k0 r3
        else
          bif inb i (List.length n_) then
            impl_NetSend n_ (nth [] n_ i) fun (r4 : List (List Int)) =>
              k0 r4
          else none
noncomputable def s_impl_NetTwice : Sig Unit := ⟨[.borrow y1 true, .borrow (.int .i64) false], [true], fun vals ext k => av vals y1 fun n_ vals => av vals (.int .i64) fun i vals => nl vals <| nl ext <| impl_NetTwice n_ i (fun (r0 : List (List Int)) => k [⟨y1, true, r0, [.O]⟩] [] [])⟩
theorem E_impl_NetTwice (n_ : List (List Int)) (a_n_ : Bool) (t_n_ : List Tag) (i : Int) (a_i : Bool) (t_i : List Tag) (k : List TVal → List TVal → List TVal → Res) : funC g_impl_NetTwice [] .o false Try.f46 [.borrow y1 true, .borrow (.int .i64) false] [true] [⟨y1, a_n_, n_, t_n_⟩, ⟨(.int .i64), a_i, i, t_i⟩] [] k = impl_NetTwice n_ i (fun (r0 : List (List Int)) => k [⟨y1, true, r0, [.O]⟩] [] []) := by kernel_rfl
theorem S_impl_NetTwice : Sound Try.prog 46 s_impl_NetTwice := sound_of (Γ := g_impl_NetTwice) (X := []) (ht := .o) (fz := false) (c := c_impl_NetTwice) follows tysOk (fns_cons S_impl_NetOk (fns_cons S_impl_NetLose (fns_cons S_impl_NetSend (fns_cons S_impl_Net_has fns_nil)))) trivial Try.func46 (by kernel_rfl) (by kernel_rfl) (by decide) (by
  intro vals ext k r h
  obtain ⟨n_, a_n_, t_n_, vals, rfl, h1⟩ := av_some h
  obtain ⟨i, a_i, t_i, vals, rfl, h2⟩ := av_some h1
  obtain ⟨rfl, h3⟩ := nl_some h2
  obtain ⟨rfl, h4⟩ := nl_some h3
  exact (E_impl_NetTwice n_ a_n_ t_n_ i a_i t_i k).trans h4)

/-! ### 11 loop.example/g00462/laws.FnExactNetTwice -/
noncomputable def c_laws_FnExactNetTwice : Code := (Try.f11.body).getD .skip
noncomputable def g_laws_FnExactNetTwice : Env Unit := ⟨tys, [(14, s_laws_szNet), (16, s_laws_toNet), (18, s_laws_eqNet), (26, s_laws_markNet), (27, s_laws_heldNet), (45, s_spec_NetTwice), (46, s_impl_NetTwice)], 0⟩
noncomputable def laws_FnExactNetTwice_p0 (aI : Int) (aN : List (List Int)) (w0 : List (List Int)) (g0 : List (List Int)) (k0 : Bool → Res) : Res :=
  laws_markNet g0 1 fun (r : Int) (a3 : List (List Int)) =>
    laws_heldNet a3 1 fun (r1 : Int) =>
      bif decide (r1 < 0) then
        k0 false
      else
        bif (r1 != r) then
          k0 false
        else
          laws_toNet aN fun (r2 : List (List Int)) =>
            impl_NetTwice r2 aI fun (r3 : List (List Int)) =>
              laws_eqNet r3 w0 fun (r4 : Bool) =>
                bif !r4 then
                  k0 false
                else
                  laws_heldNet a3 1 fun (r5 : Int) =>
                    bif decide (r5 < 0) then
                      k0 false
                    else
                      bif (r5 != r) then
                        k0 false
                      else
                        k0 true
noncomputable def xlaws_FnExactNetTwice_p0 : Node Unit := fun σ k => rdN σ 74 <| rdV σ 1 (.int .i64) false [] fun aI => rdT σ 2 (.ptr ⟨true, 2, []⟩) <| rdT σ 6 (.ptr ⟨true, 6, []⟩) <| rdT σ 8 (.ptr ⟨true, 8, []⟩) <| rdB σ 2 y1 [.S] fun a aN => rdB σ 6 y1 [.O] fun a1 w0 => rdB σ 8 y1 [.O] fun a2 g0 => laws_FnExactNetTwice_p0 aI aN w0 g0 (fun (t4 : Bool) => k .ret (mkS 74 74 [(4, .val ⟨.bool, false, t4, []⟩)] []))
theorem elaws_FnExactNetTwice_p0 (aI : Int) (a : Bool) (aN : List (List Int)) (a1 : Bool) (w0 : List (List Int)) (a2 : Bool) (g0 : List (List Int)) (k : Kont Unit) : codeC g_laws_FnExactNetTwice [] .o (Code.pr (Code.pr (Code.pr (Code.pr (Code.pr (Code.pr (Code.pr (Code.pr (Code.pr (Code.pr (Code.pr (Code.pr c_laws_FnExactNetTwice)))))))))))) (mkS 74 74 [(1, .val ⟨(.int .i64), false, aI, []⟩), (2, .ptr ⟨true, 2, []⟩), (6, .ptr ⟨true, 6, []⟩), (8, .ptr ⟨true, 8, []⟩)] [(2, ⟨y1, a, aN, [.S]⟩), (6, ⟨y1, a1, w0, [.O]⟩), (8, ⟨y1, a2, g0, [.O]⟩)]) (fun e σ => k e ((cutC ([], []) [] ([4], [])) e σ)) = laws_FnExactNetTwice_p0 aI aN w0 g0 (fun (t4 : Bool) => k .ret (mkS 74 74 [(4, .val ⟨.bool, false, t4, []⟩)] [])) := by kernel_rfl
theorem olaws_FnExactNetTwice_p0 {W0 : Base} {M : Nat → Prop} (hnp : W0.np ≤ 0) : CodeOk Try.prog W0 M (Code.pr (Code.pr (Code.pr (Code.pr (Code.pr (Code.pr (Code.pr (Code.pr (Code.pr (Code.pr (Code.pr (Code.pr c_laws_FnExactNetTwice)))))))))))) xlaws_FnExactNetTwice_p0 := node_ok (code_sound follows tysOk (calls_ok (fns_cons S_laws_szNet (fns_cons S_laws_toNet (fns_cons S_laws_eqNet (fns_cons S_laws_markNet (fns_cons S_laws_heldNet (fns_cons S_spec_NetTwice (fns_cons S_impl_NetTwice fns_nil)))))))) hnp [] _ .o trivial) (fg := (cutC ([], []) [] ([4], []))) (cutC_le _ _ _) (by
  intro σ k r h
  obtain ⟨hn, h1⟩ := rdN_some h
  obtain ⟨aI, hs1, h2⟩ := rdV_some h1
  obtain ⟨hs2, h3⟩ := rdT_some h2
  obtain ⟨hs6, h4⟩ := rdT_some h3
  obtain ⟨hs8, h5⟩ := rdT_some h4
  obtain ⟨a, aN, hb2, h6⟩ := rdB_some h5
  obtain ⟨a1, w0, hb6, h7⟩ := rdB_some h6
  obtain ⟨a2, g0, hb8, h8⟩ := rdB_some h7
  refine ⟨_, ?_, (elaws_FnExactNetTwice_p0 aI a aN a1 w0 a2 g0 k).trans h8⟩
  exact mkS_le hn ⟨hs1, hs2, hs6, hs8, trivial⟩ ⟨hb2, hb6, hb8, trivial⟩)
noncomputable def laws_FnExactNetTwice (aN : List (List Int)) (aI : Int) (k0 : Bool → Res) : Res :=
  laws_szNet aN 1048576 fun (r : Int) =>
    bif decide (r < 0) then
      k0 true
    else
      laws_toNet aN fun (r1 : List (List Int)) =>
        spec_NetTwice r1 aI fun (r2 : List (List Int)) =>
          laws_toNet aN fun (r3 : List (List Int)) =>
            impl_NetTwice r3 aI fun (r4 : List (List Int)) =>
              laws_eqNet r4 r2 fun (r5 : Bool) =>
                bif !r5 then
                  k0 false
                else
                  laws_toNet aN fun (r6 : List (List Int)) =>
                    laws_eqNet r3 r6 fun (r7 : Bool) =>
                      bif !r7 then
                        k0 false
                      else
                        laws_markNet r3 1 fun (r8 : Int) (a : List (List Int)) =>
                          bif decide (r8 < 0) then
                            k0 false
                          else
                            laws_eqNet r4 r2 fun (r9 : Bool) =>
                              bif !r9 then
                                k0 false
                              else
                                laws_FnExactNetTwice_p0 aI aN r2 r4 fun (t : Bool) =>
                                  k0 t
noncomputable def s_laws_FnExactNetTwice : Sig Unit := ⟨[.borrow y1 true, .borrow (.int .i64) false], [false], fun vals ext k => av vals y1 fun aN vals => av vals (.int .i64) fun aI vals => nl vals <| nl ext <| laws_FnExactNetTwice aN aI (fun (r0 : Bool) => k [⟨.bool, false, r0, []⟩] [] [])⟩
theorem E_laws_FnExactNetTwice (aN : List (List Int)) (a_aN : Bool) (t_aN : List Tag) (aI : Int) (a_aI : Bool) (t_aI : List Tag) (k : List TVal → List TVal → List TVal → Res) : funC g_laws_FnExactNetTwice [xlaws_FnExactNetTwice_p0] (.t .o (.t .o (.t .o (.t .o (.t .o (.t .o (.t .o (.t .o (.t .o (.t .o (.t .o (.t .o (.x 0))))))))))))) false Try.f11 [.borrow y1 true, .borrow (.int .i64) false] [false] [⟨y1, a_aN, aN, t_aN⟩, ⟨(.int .i64), a_aI, aI, t_aI⟩] [] k = laws_FnExactNetTwice aN aI (fun (r0 : Bool) => k [⟨.bool, false, r0, []⟩] [] []) := by kernel_rfl
theorem S_laws_FnExactNetTwice : Sound Try.prog 11 s_laws_FnExactNetTwice := sound_of (Γ := g_laws_FnExactNetTwice) (X := [xlaws_FnExactNetTwice_p0]) (ht := (.t .o (.t .o (.t .o (.t .o (.t .o (.t .o (.t .o (.t .o (.t .o (.t .o (.t .o (.t .o (.x 0)))))))))))))) (fz := false) (c := c_laws_FnExactNetTwice) follows tysOk (fns_cons S_laws_szNet (fns_cons S_laws_toNet (fns_cons S_laws_eqNet (fns_cons S_laws_markNet (fns_cons S_laws_heldNet (fns_cons S_spec_NetTwice (fns_cons S_impl_NetTwice fns_nil))))))) (OrOk.mk trivial ((OrOk.mk trivial ((OrOk.mk trivial ((OrOk.mk trivial ((OrOk.mk trivial ((OrOk.mk trivial ((OrOk.mk trivial ((OrOk.mk trivial ((OrOk.mk trivial ((OrOk.mk trivial ((OrOk.mk trivial ((OrOk.mk trivial (OrOk.x_mk (fun W0 M hnp => olaws_FnExactNetTwice_p0 (W0 := W0) (M := M) hnp))))))))))))))))))))))))) Try.func11 (by kernel_rfl) (by kernel_rfl) (by decide) (by
  intro vals ext k r h
  obtain ⟨aN, a_aN, t_aN, vals, rfl, h1⟩ := av_some h
  obtain ⟨aI, a_aI, t_aI, vals, rfl, h2⟩ := av_some h1
  obtain ⟨rfl, h3⟩ := nl_some h2
  obtain ⟨rfl, h4⟩ := nl_some h3
  exact (E_laws_FnExactNetTwice aN a_aN t_aN aI a_aI t_aI k).trans h4)

/-! ### 63 loop.example/g00462/laws.szStringS -/
noncomputable def c_laws_szStringS : Code := (Try.f63.body).getD .skip
noncomputable def g_laws_szStringS : Env Unit := ⟨tys, [], 0⟩
noncomputable def laws_szStringS_l0_r (a : List ByteArray) (left : Int) (i : Int) (rec : Int → Int → Res) (k0 : Int → Res) (k1 : Unit → Res) : Res :=
  bif decide (i < (nI (List.length a))) then
    bif inb i (List.length a) then
      bif decide ((wi64 (left - (nI (ByteArray.size (nth eS a i))))) < 0) then
        k1 ()
      else
        rec (wi64 (left - (nI (ByteArray.size (nth eS a i))))) (wi64 (i + 1))
    else none
  else
    k0 left
noncomputable def laws_szStringS_l0_s (a : List ByteArray) : (Int × Int) → (Int × Int → Res) → ((Int → Res) × (Unit → Res)) → Res := fun v rec q => laws_szStringS_l0_r a v.1 v.2 (fun left i => rec (left, i)) q.1 q.2
noncomputable def laws_szStringS_l0 (a : List ByteArray) (n : Nat) (left : Int) (i : Int) (k0 : Int → Res) (k1 : Unit → Res) : Res := iter (laws_szStringS_l0_s a) n (left, i) (k0, k1)
noncomputable def xlaws_szStringS_l0 : Node Unit := fun σ k => rdN σ 28 <| rdV σ 0 y2 false [.S] fun a => rdV σ 1 (.int .i64) false [] fun left => rdV σ 5 (.int .i64) false [] fun i => laws_szStringS_l0 a FUEL left i (fun (left1 : Int) => k (.exit 0) (mkS 28 28 [(1, .val ⟨(.int .i64), false, left1, []⟩)] [])) (fun (_ : Unit) => k .ret (mkS 28 28 [(4, .val ⟨(.int .i64), false, (-1), []⟩)] []))
theorem elaws_szStringS_l0 (a : List ByteArray) (n : Nat) (v : Int × Int) (k : Kont Unit) : loopC (codeC g_laws_szStringS [] .o (Code.pl (Code.pl (Code.pr (Code.pl (Code.pr (Code.pr (Code.pr c_laws_szStringS)))))))) (fun σ => σ.forget [0, 1, 5] []) (cutC ([], []) [(0, [1], [])] ([4], [])) n (mkS 28 28 [(0, .val ⟨y2, false, a, [.S]⟩), (1, .val ⟨(.int .i64), false, v.1, []⟩), (5, .val ⟨(.int .i64), false, v.2, []⟩)] []) k = iter (laws_szStringS_l0_s a) n v ((fun (k : Kont Unit) => (((fun (left1 : Int) => k (.exit 0) (mkS 28 28 [(1, .val ⟨(.int .i64), false, left1, []⟩)] [])), (fun (_ : Unit) => k .ret (mkS 28 28 [(4, .val ⟨(.int .i64), false, (-1), []⟩)] []))) : (Int → Res) × (Unit → Res))) k) := loop_eq (fun v : Int × Int => (mkS 28 28 [(0, .val ⟨y2, false, a, [.S]⟩), (1, .val ⟨(.int .i64), false, v.1, []⟩), (5, .val ⟨(.int .i64), false, v.2, []⟩)] [])) (laws_szStringS_l0_s a) (fun (k : Kont Unit) => (((fun (left1 : Int) => k (.exit 0) (mkS 28 28 [(1, .val ⟨(.int .i64), false, left1, []⟩)] [])), (fun (_ : Unit) => k .ret (mkS 28 28 [(4, .val ⟨(.int .i64), false, (-1), []⟩)] []))) : (Int → Res) × (Unit → Res))) (fun v rec k => by kernel_rfl) n v k
theorem olaws_szStringS_l0 {W0 : Base} {M : Nat → Prop} (hnp : W0.np ≤ 0) : CodeOk Try.prog W0 M (Code.loop (Code.pl (Code.pl (Code.pr (Code.pl (Code.pr (Code.pr (Code.pr c_laws_szStringS)))))))) xlaws_szStringS_l0 := loop_ok (code_sound follows tysOk (calls_ok fns_nil) hnp [] _ .o trivial) (ks := [0, 1, 5]) (bs := []) (fX := (cutC ([], []) [(0, [1], [])] ([4], []))) (cutC_le _ _ _) FUEL (by
  intro σ k r h
  obtain ⟨hn, h1⟩ := rdN_some h
  obtain ⟨a, hs0, h2⟩ := rdV_some h1
  obtain ⟨left, hs1, h3⟩ := rdV_some h2
  obtain ⟨i, hs5, h4⟩ := rdV_some h3
  refine ⟨_, ?_, (elaws_szStringS_l0 a FUEL (left, i) k).trans h4⟩
  exact mkS_le hn ⟨hs0, hs1, hs5, trivial⟩ trivial)
noncomputable def laws_szStringS (a : List ByteArray) (left : Int) (k0 : Int → Res) : Res :=
  bif decide ((wi64 (left - (nI (List.length a)))) < 0) then
    k0 (-1)
  else
    laws_szStringS_l0 a FUEL (wi64 (left - (nI (List.length a)))) 0
      (fun (left1 : Int) =>
        k0 left1)
      (fun (_ : Unit) =>
        k0 (-1))
noncomputable def s_laws_szStringS : Sig Unit := ⟨[.borrow y2 false, .borrow (.int .i64) false], [false], fun vals ext k => av vals y2 fun a vals => av vals (.int .i64) fun left vals => nl vals <| nl ext <| laws_szStringS a left (fun (r0 : Int) => k [⟨(.int .i64), false, r0, []⟩] [] [])⟩
theorem E_laws_szStringS (a : List ByteArray) (a_a : Bool) (t_a : List Tag) (left : Int) (a_left : Bool) (t_left : List Tag) (k : List TVal → List TVal → List TVal → Res) : funC g_laws_szStringS [xlaws_szStringS_l0] (.t .o (.t .o (.t .o (.t (.t .o (.t (.x 0) .o)) .o)))) false Try.f63 [.borrow y2 false, .borrow (.int .i64) false] [false] [⟨y2, a_a, a, t_a⟩, ⟨(.int .i64), a_left, left, t_left⟩] [] k = laws_szStringS a left (fun (r0 : Int) => k [⟨(.int .i64), false, r0, []⟩] [] []) := by kernel_rfl
theorem S_laws_szStringS : Sound Try.prog 63 s_laws_szStringS := sound_of (Γ := g_laws_szStringS) (X := [xlaws_szStringS_l0]) (ht := (.t .o (.t .o (.t .o (.t (.t .o (.t (.x 0) .o)) .o))))) (fz := false) (c := c_laws_szStringS) follows tysOk fns_nil (OrOk.mk trivial ((OrOk.mk trivial ((OrOk.mk trivial ((OrOk.mk ((OrOk.mk trivial ((OrOk.mk (OrOk.x_mk (fun W0 M hnp => olaws_szStringS_l0 (W0 := W0) (M := M) hnp)) trivial)))) trivial))))))) Try.func63 (by kernel_rfl) (by kernel_rfl) (by decide) (by
  intro vals ext k r h
  obtain ⟨a, a_a, t_a, vals, rfl, h1⟩ := av_some h
  obtain ⟨left, a_left, t_left, vals, rfl, h2⟩ := av_some h1
  obtain ⟨rfl, h3⟩ := nl_some h2
  obtain ⟨rfl, h4⟩ := nl_some h3
  exact (E_laws_szStringS a a_a t_a left a_left t_left k).trans h4)

/-! ### 19 loop.example/g00462/laws.szPub -/
noncomputable def c_laws_szPub : Code := (Try.f19.body).getD .skip
noncomputable def g_laws_szPub : Env Unit := ⟨tys, [(63, s_laws_szStringS)], 0⟩
noncomputable def laws_szPub (a : List ByteArray) (left : Int) (k0 : Int → Res) : Res :=
  laws_szStringS a left fun (r : Int) =>
    bif decide (r < 0) then
      k0 (-1)
    else
      k0 r
noncomputable def s_laws_szPub : Sig Unit := ⟨[.borrow y2 true, .borrow (.int .i64) false], [false], fun vals ext k => av vals y2 fun a vals => av vals (.int .i64) fun left vals => nl vals <| nl ext <| laws_szPub a left (fun (r0 : Int) => k [⟨(.int .i64), false, r0, []⟩] [] [])⟩
theorem E_laws_szPub (a : List ByteArray) (a_a : Bool) (t_a : List Tag) (left : Int) (a_left : Bool) (t_left : List Tag) (k : List TVal → List TVal → List TVal → Res) : funC g_laws_szPub [] .o false Try.f19 [.borrow y2 true, .borrow (.int .i64) false] [false] [⟨y2, a_a, a, t_a⟩, ⟨(.int .i64), a_left, left, t_left⟩] [] k = laws_szPub a left (fun (r0 : Int) => k [⟨(.int .i64), false, r0, []⟩] [] []) := by kernel_rfl
theorem S_laws_szPub : Sound Try.prog 19 s_laws_szPub := sound_of (Γ := g_laws_szPub) (X := []) (ht := .o) (fz := false) (c := c_laws_szPub) follows tysOk (fns_cons S_laws_szStringS fns_nil) trivial Try.func19 (by kernel_rfl) (by kernel_rfl) (by decide) (by
  intro vals ext k r h
  obtain ⟨a, a_a, t_a, vals, rfl, h1⟩ := av_some h
  obtain ⟨left, a_left, t_left, vals, rfl, h2⟩ := av_some h1
  obtain ⟨rfl, h3⟩ := nl_some h2
  obtain ⟨rfl, h4⟩ := nl_some h3
  exact (E_laws_szPub a a_a t_a left a_left t_left k).trans h4)

/-! ### 66 loop.example/g00462/laws.toStringS -/
noncomputable def c_laws_toStringS : Code := (Try.f66.body).getD .skip
noncomputable def g_laws_toStringS : Env Unit := ⟨tys, [], 0⟩
noncomputable def laws_toStringS_l0_r (a : List ByteArray) (out : List ByteArray) (i : Int) (rec : (List ByteArray) → Int → Res) (k0 : (List ByteArray) → Res) : Res :=
  bif decide (i < (nI (List.length a))) then
    bif inb i (List.length a) then
      bif inb i (List.length out) then
        rec (upd out i (nth eS a i)) (wi64 (i + 1))
      else none
    else none
  else
    k0 out
noncomputable def laws_toStringS_l0_s (a : List ByteArray) : ((List ByteArray) × Int) → ((List ByteArray) × Int → Res) → (((List ByteArray) → Res)) → Res := fun v rec q => laws_toStringS_l0_r a v.1 v.2 (fun out i => rec (out, i)) q
noncomputable def laws_toStringS_l0 (a : List ByteArray) (n : Nat) (out : List ByteArray) (i : Int) (k0 : (List ByteArray) → Res) : Res := iter (laws_toStringS_l0_s a) n (out, i) (k0)
noncomputable def xlaws_toStringS_l0 : Node Unit := fun σ k => rdN σ 22 <| rdV σ 0 y2 false [.S] fun a => rdV σ 3 y2 false [.O] fun out => rdV σ 4 (.int .i64) false [] fun i => laws_toStringS_l0 a FUEL out i (fun (out1 : List ByteArray) => k (.exit 0) (mkS 22 22 [(3, .val ⟨y2, false, out1, [.O]⟩)] []))
theorem elaws_toStringS_l0 (a : List ByteArray) (n : Nat) (v : (List ByteArray) × Int) (k : Kont Unit) : loopC (codeC g_laws_toStringS [] .o (Code.pl (Code.pl (Code.pr (Code.pl (Code.pr (Code.pr c_laws_toStringS))))))) (fun σ => σ.forget [0, 3, 4] []) (cutC ([], []) [(0, [3], [])] ([], [])) n (mkS 22 22 [(0, .val ⟨y2, false, a, [.S]⟩), (3, .val ⟨y2, false, v.1, [.O]⟩), (4, .val ⟨(.int .i64), false, v.2, []⟩)] []) k = iter (laws_toStringS_l0_s a) n v ((fun (k : Kont Unit) => (((fun (out1 : List ByteArray) => k (.exit 0) (mkS 22 22 [(3, .val ⟨y2, false, out1, [.O]⟩)] []))) : ((List ByteArray) → Res))) k) := loop_eq (fun v : (List ByteArray) × Int => (mkS 22 22 [(0, .val ⟨y2, false, a, [.S]⟩), (3, .val ⟨y2, false, v.1, [.O]⟩), (4, .val ⟨(.int .i64), false, v.2, []⟩)] [])) (laws_toStringS_l0_s a) (fun (k : Kont Unit) => (((fun (out1 : List ByteArray) => k (.exit 0) (mkS 22 22 [(3, .val ⟨y2, false, out1, [.O]⟩)] []))) : ((List ByteArray) → Res))) (fun v rec k => by kernel_rfl) n v k
theorem olaws_toStringS_l0 {W0 : Base} {M : Nat → Prop} (hnp : W0.np ≤ 0) : CodeOk Try.prog W0 M (Code.loop (Code.pl (Code.pl (Code.pr (Code.pl (Code.pr (Code.pr c_laws_toStringS))))))) xlaws_toStringS_l0 := loop_ok (code_sound follows tysOk (calls_ok fns_nil) hnp [] _ .o trivial) (ks := [0, 3, 4]) (bs := []) (fX := (cutC ([], []) [(0, [3], [])] ([], []))) (cutC_le _ _ _) FUEL (by
  intro σ k r h
  obtain ⟨hn, h1⟩ := rdN_some h
  obtain ⟨a, hs0, h2⟩ := rdV_some h1
  obtain ⟨out, hs3, h3⟩ := rdV_some h2
  obtain ⟨i, hs4, h4⟩ := rdV_some h3
  refine ⟨_, ?_, (elaws_toStringS_l0 a FUEL (out, i) k).trans h4⟩
  exact mkS_le hn ⟨hs0, hs3, hs4, trivial⟩ trivial)
noncomputable def laws_toStringS (a : List ByteArray) (k0 : (List ByteArray) → Res) : Res :=
  bif mkOk (nI (List.length a)) (nI (List.length a)) then
    laws_toStringS_l0 a FUEL (repl (nI (List.length a)) eS) 0 fun (out : List ByteArray) =>
      k0 out
  else none
noncomputable def s_laws_toStringS : Sig Unit := ⟨[.borrow y2 false], [false], fun vals ext k => av vals y2 fun a vals => nl vals <| nl ext <| laws_toStringS a (fun (r0 : List ByteArray) => k [⟨y2, false, r0, [.O]⟩] [] [])⟩
theorem E_laws_toStringS (a : List ByteArray) (a_a : Bool) (t_a : List Tag) (k : List TVal → List TVal → List TVal → Res) : funC g_laws_toStringS [xlaws_toStringS_l0] (.t .o (.t .o (.t (.t .o (.t (.x 0) .o)) .o))) false Try.f66 [.borrow y2 false] [false] [⟨y2, a_a, a, t_a⟩] [] k = laws_toStringS a (fun (r0 : List ByteArray) => k [⟨y2, false, r0, [.O]⟩] [] []) := by kernel_rfl
theorem S_laws_toStringS : Sound Try.prog 66 s_laws_toStringS := sound_of (Γ := g_laws_toStringS) (X := [xlaws_toStringS_l0]) (ht := (.t .o (.t .o (.t (.t .o (.t (.x 0) .o)) .o)))) (fz := false) (c := c_laws_toStringS) follows tysOk fns_nil (OrOk.mk trivial ((OrOk.mk trivial ((OrOk.mk ((OrOk.mk trivial ((OrOk.mk (OrOk.x_mk (fun W0 M hnp => olaws_toStringS_l0 (W0 := W0) (M := M) hnp)) trivial)))) trivial))))) Try.func66 (by kernel_rfl) (by kernel_rfl) (by decide) (by
  intro vals ext k r h
  obtain ⟨a, a_a, t_a, vals, rfl, h1⟩ := av_some h
  obtain ⟨rfl, h2⟩ := nl_some h1
  obtain ⟨rfl, h3⟩ := nl_some h2
  exact (E_laws_toStringS a a_a t_a k).trans h3)

/-! ### 21 loop.example/g00462/laws.toPub -/
noncomputable def c_laws_toPub : Code := (Try.f21.body).getD .skip
noncomputable def g_laws_toPub : Env Unit := ⟨tys, [(66, s_laws_toStringS)], 0⟩
noncomputable def laws_toPub (a : List ByteArray) (k0 : (List ByteArray) → Res) : Res :=
  laws_toStringS a fun (r : List ByteArray) =>
    k0 r
noncomputable def s_laws_toPub : Sig Unit := ⟨[.borrow y2 true], [true], fun vals ext k => av vals y2 fun a vals => nl vals <| nl ext <| laws_toPub a (fun (r0 : List ByteArray) => k [⟨y2, true, r0, [.O]⟩] [] [])⟩
theorem E_laws_toPub (a : List ByteArray) (a_a : Bool) (t_a : List Tag) (k : List TVal → List TVal → List TVal → Res) : funC g_laws_toPub [] .o false Try.f21 [.borrow y2 true] [true] [⟨y2, a_a, a, t_a⟩] [] k = laws_toPub a (fun (r0 : List ByteArray) => k [⟨y2, true, r0, [.O]⟩] [] []) := by kernel_rfl
theorem S_laws_toPub : Sound Try.prog 21 s_laws_toPub := sound_of (Γ := g_laws_toPub) (X := []) (ht := .o) (fz := false) (c := c_laws_toPub) follows tysOk (fns_cons S_laws_toStringS fns_nil) trivial Try.func21 (by kernel_rfl) (by kernel_rfl) (by decide) (by
  intro vals ext k r h
  obtain ⟨a, a_a, t_a, vals, rfl, h1⟩ := av_some h
  obtain ⟨rfl, h2⟩ := nl_some h1
  obtain ⟨rfl, h3⟩ := nl_some h2
  exact (E_laws_toPub a a_a t_a k).trans h3)

/-! ### 78 loop.example/g00462/spec.WordOk -/
noncomputable def c_spec_WordOk : Code := (Try.f78.body).getD .skip
noncomputable def g_spec_WordOk : Env Unit := ⟨tys, [], 0⟩
noncomputable def spec_WordOk_l0_r (s : ByteArray) (i : Int) (rec : Int → Res) (k0 : Unit → Res) (k1 : Unit → Res) : Res :=
  bif decide (i < (nI (ByteArray.size s))) then
    bif inb i (ByteArray.size s) then
      bif decide ((bt s i) < 97) then
        k1 ()
      else
        bif inb i (ByteArray.size s) then
          bif decide ((bt s i) > 122) then
            k1 ()
          else
            rec (wi64 (i + 1))
        else none
    else none
  else
    k0 ()
noncomputable def spec_WordOk_l0_s (s : ByteArray) : Int → (Int → Res) → ((Unit → Res) × (Unit → Res)) → Res := fun v rec q => spec_WordOk_l0_r s v (fun i => rec (i)) q.1 q.2
noncomputable def spec_WordOk_l0 (s : ByteArray) (n : Nat) (i : Int) (k0 : Unit → Res) (k1 : Unit → Res) : Res := iter (spec_WordOk_l0_s s) n (i) (k0, k1)
noncomputable def xspec_WordOk_l0 : Node Unit := fun σ k => rdN σ 28 <| rdV σ 0 .str false [] fun s => rdV σ 3 (.int .i64) false [] fun i => spec_WordOk_l0 s FUEL i (fun (_ : Unit) => k (.exit 0) (mkS 28 28 [(0, .val ⟨.str, false, s, []⟩)] [])) (fun (_ : Unit) => k .ret (mkS 28 28 [(2, .val ⟨.bool, false, false, []⟩)] []))
theorem espec_WordOk_l0 (s : ByteArray) (n : Nat) (v : Int) (k : Kont Unit) : loopC (codeC g_spec_WordOk [] .o (Code.pl (Code.pl (Code.pr (Code.pl (Code.pr c_spec_WordOk)))))) (fun σ => σ.forget [0, 3] []) (cutC ([], []) [(0, [0], [])] ([2], [])) n (mkS 28 28 [(0, .val ⟨.str, false, s, []⟩), (3, .val ⟨(.int .i64), false, v, []⟩)] []) k = iter (spec_WordOk_l0_s s) n v ((fun (k : Kont Unit) => (((fun (_ : Unit) => k (.exit 0) (mkS 28 28 [(0, .val ⟨.str, false, s, []⟩)] [])), (fun (_ : Unit) => k .ret (mkS 28 28 [(2, .val ⟨.bool, false, false, []⟩)] []))) : (Unit → Res) × (Unit → Res))) k) := loop_eq (fun v : Int => (mkS 28 28 [(0, .val ⟨.str, false, s, []⟩), (3, .val ⟨(.int .i64), false, v, []⟩)] [])) (spec_WordOk_l0_s s) (fun (k : Kont Unit) => (((fun (_ : Unit) => k (.exit 0) (mkS 28 28 [(0, .val ⟨.str, false, s, []⟩)] [])), (fun (_ : Unit) => k .ret (mkS 28 28 [(2, .val ⟨.bool, false, false, []⟩)] []))) : (Unit → Res) × (Unit → Res))) (fun v rec k => by kernel_rfl) n v k
theorem ospec_WordOk_l0 {W0 : Base} {M : Nat → Prop} (hnp : W0.np ≤ 0) : CodeOk Try.prog W0 M (Code.loop (Code.pl (Code.pl (Code.pr (Code.pl (Code.pr c_spec_WordOk)))))) xspec_WordOk_l0 := loop_ok (code_sound follows tysOk (calls_ok fns_nil) hnp [] _ .o trivial) (ks := [0, 3]) (bs := []) (fX := (cutC ([], []) [(0, [0], [])] ([2], []))) (cutC_le _ _ _) FUEL (by
  intro σ k r h
  obtain ⟨hn, h1⟩ := rdN_some h
  obtain ⟨s, hs0, h2⟩ := rdV_some h1
  obtain ⟨i, hs3, h3⟩ := rdV_some h2
  refine ⟨_, ?_, (espec_WordOk_l0 s FUEL (i) k).trans h3⟩
  exact mkS_le hn ⟨hs0, hs3, trivial⟩ trivial)
noncomputable def spec_WordOk (s : ByteArray) (k0 : Bool → Res) : Res :=
  spec_WordOk_l0 s FUEL 0
    (fun (_ : Unit) =>
      bif decide ((nI (ByteArray.size s)) ≥ 1) then
        k0 (decide ((nI (ByteArray.size s)) ≤ 8))
      else
        k0 false)
    (fun (_ : Unit) =>
      k0 false)
noncomputable def s_spec_WordOk : Sig Unit := ⟨[.borrow .str false], [false], fun vals ext k => av vals .str fun s vals => nl vals <| nl ext <| spec_WordOk s (fun (r0 : Bool) => k [⟨.bool, false, r0, []⟩] [] [])⟩
theorem E_spec_WordOk (s : ByteArray) (a_s : Bool) (t_s : List Tag) (k : List TVal → List TVal → List TVal → Res) : funC g_spec_WordOk [xspec_WordOk_l0] (.t .o (.t (.t .o (.t (.x 0) .o)) .o)) false Try.f78 [.borrow .str false] [false] [⟨.str, a_s, s, t_s⟩] [] k = spec_WordOk s (fun (r0 : Bool) => k [⟨.bool, false, r0, []⟩] [] []) := by kernel_rfl
theorem S_spec_WordOk : Sound Try.prog 78 s_spec_WordOk := sound_of (Γ := g_spec_WordOk) (X := [xspec_WordOk_l0]) (ht := (.t .o (.t (.t .o (.t (.x 0) .o)) .o))) (fz := false) (c := c_spec_WordOk) follows tysOk fns_nil (OrOk.mk trivial ((OrOk.mk ((OrOk.mk trivial ((OrOk.mk (OrOk.x_mk (fun W0 M hnp => ospec_WordOk_l0 (W0 := W0) (M := M) hnp)) trivial)))) trivial))) Try.func78 (by kernel_rfl) (by kernel_rfl) (by decide) (by
  intro vals ext k r h
  obtain ⟨s, a_s, t_s, vals, rfl, h1⟩ := av_some h
  obtain ⟨rfl, h2⟩ := nl_some h1
  obtain ⟨rfl, h3⟩ := nl_some h2
  exact (E_spec_WordOk s a_s t_s k).trans h3)

/-! ### 64 loop.example/g00462/spec.PubOk -/
noncomputable def c_spec_PubOk : Code := (Try.f64.body).getD .skip
noncomputable def g_spec_PubOk : Env Unit := ⟨tys, [(78, s_spec_WordOk)], 0⟩
noncomputable def spec_PubOk_l0_r (t7 : Int) (p : List ByteArray) (t8 : Int) (rec : Int → Res) (k0 : Unit → Res) (k1 : Unit → Res) : Res :=
  bif decide (t8 < t7) then
    bif inb t8 (List.length p) then
      spec_WordOk (nth eS p t8) fun (r : Bool) =>
        bif !r then
          k1 ()
        else
          bif decide (t8 > 0) then
            bif inb (wi64 (t8 - 1)) (List.length p) then
              bif sGe (nth eS p (wi64 (t8 - 1))) (nth eS p t8) then
                k1 ()
              else
                rec (wi64 (t8 + 1))
            else none
          else
            rec (wi64 (t8 + 1))
    else none
  else
    k0 ()
noncomputable def spec_PubOk_l0_s (t7 : Int) (p : List ByteArray) : Int → (Int → Res) → ((Unit → Res) × (Unit → Res)) → Res := fun v rec q => spec_PubOk_l0_r t7 p v (fun t8 => rec (t8)) q.1 q.2
noncomputable def spec_PubOk_l0 (t7 : Int) (p : List ByteArray) (n : Nat) (t8 : Int) (k0 : Unit → Res) (k1 : Unit → Res) : Res := iter (spec_PubOk_l0_s t7 p) n (t8) (k0, k1)
noncomputable def xspec_PubOk_l0 : Node Unit := fun σ k => rdN σ 35 <| rdT σ 1 (.ptr ⟨true, 1, []⟩) <| rdT σ 6 (.ref ⟨true, 1, []⟩ false) <| rdV σ 7 (.int .i64) false [] fun t7 => rdV σ 8 (.int .i64) false [] fun t8 => rdB σ 1 y2 [.S] fun a p => spec_PubOk_l0 t7 p FUEL t8 (fun (_ : Unit) => k (.exit 0) (mkS 35 35 [(1, .ptr ⟨true, 1, []⟩)] [(1, ⟨y2, a, p, [.S]⟩)])) (fun (_ : Unit) => k .ret (mkS 35 35 [(2, .val ⟨.bool, false, false, []⟩)] []))
theorem espec_PubOk_l0 (t7 : Int) (a : Bool) (p : List ByteArray) (n : Nat) (v : Int) (k : Kont Unit) : loopC (codeC g_spec_PubOk [] .o (Code.pl (Code.pl (Code.pr (Code.pl (Code.pr c_spec_PubOk)))))) (fun σ => σ.forget [1, 6, 7, 8] [1]) (cutC ([], []) [(0, [1], [1])] ([2], [])) n (mkS 35 35 [(1, .ptr ⟨true, 1, []⟩), (6, .ref ⟨true, 1, []⟩ false), (7, .val ⟨(.int .i64), false, t7, []⟩), (8, .val ⟨(.int .i64), false, v, []⟩)] [(1, ⟨y2, a, p, [.S]⟩)]) k = iter (spec_PubOk_l0_s t7 p) n v ((fun (k : Kont Unit) => (((fun (_ : Unit) => k (.exit 0) (mkS 35 35 [(1, .ptr ⟨true, 1, []⟩)] [(1, ⟨y2, a, p, [.S]⟩)])), (fun (_ : Unit) => k .ret (mkS 35 35 [(2, .val ⟨.bool, false, false, []⟩)] []))) : (Unit → Res) × (Unit → Res))) k) := loop_eq (fun v : Int => (mkS 35 35 [(1, .ptr ⟨true, 1, []⟩), (6, .ref ⟨true, 1, []⟩ false), (7, .val ⟨(.int .i64), false, t7, []⟩), (8, .val ⟨(.int .i64), false, v, []⟩)] [(1, ⟨y2, a, p, [.S]⟩)])) (spec_PubOk_l0_s t7 p) (fun (k : Kont Unit) => (((fun (_ : Unit) => k (.exit 0) (mkS 35 35 [(1, .ptr ⟨true, 1, []⟩)] [(1, ⟨y2, a, p, [.S]⟩)])), (fun (_ : Unit) => k .ret (mkS 35 35 [(2, .val ⟨.bool, false, false, []⟩)] []))) : (Unit → Res) × (Unit → Res))) (fun v rec k => by kernel_rfl) n v k
theorem ospec_PubOk_l0 {W0 : Base} {M : Nat → Prop} (hnp : W0.np ≤ 0) : CodeOk Try.prog W0 M (Code.loop (Code.pl (Code.pl (Code.pr (Code.pl (Code.pr c_spec_PubOk)))))) xspec_PubOk_l0 := loop_ok (code_sound follows tysOk (calls_ok (fns_cons S_spec_WordOk fns_nil)) hnp [] _ .o trivial) (ks := [1, 6, 7, 8]) (bs := [1]) (fX := (cutC ([], []) [(0, [1], [1])] ([2], []))) (cutC_le _ _ _) FUEL (by
  intro σ k r h
  obtain ⟨hn, h1⟩ := rdN_some h
  obtain ⟨hs1, h2⟩ := rdT_some h1
  obtain ⟨hs6, h3⟩ := rdT_some h2
  obtain ⟨t7, hs7, h4⟩ := rdV_some h3
  obtain ⟨t8, hs8, h5⟩ := rdV_some h4
  obtain ⟨a, p, hb1, h6⟩ := rdB_some h5
  refine ⟨_, ?_, (espec_PubOk_l0 t7 a p FUEL (t8) k).trans h6⟩
  exact mkS_le hn ⟨hs1, hs6, hs7, hs8, trivial⟩ ⟨hb1, trivial⟩)
noncomputable def spec_PubOk (p : List ByteArray) (k0 : Bool → Res) : Res :=
  spec_PubOk_l0 (nI (List.length p)) p FUEL 0
    (fun (_ : Unit) =>
      k0 (decide ((nI (List.length p)) ≤ 6)))
    (fun (_ : Unit) =>
      k0 false)
noncomputable def s_spec_PubOk : Sig Unit := ⟨[.borrow y2 true], [false], fun vals ext k => av vals y2 fun p vals => nl vals <| nl ext <| spec_PubOk p (fun (r0 : Bool) => k [⟨.bool, false, r0, []⟩] [] [])⟩
theorem E_spec_PubOk (p : List ByteArray) (a_p : Bool) (t_p : List Tag) (k : List TVal → List TVal → List TVal → Res) : funC g_spec_PubOk [xspec_PubOk_l0] (.t .o (.t (.t .o (.t (.x 0) .o)) .o)) false Try.f64 [.borrow y2 true] [false] [⟨y2, a_p, p, t_p⟩] [] k = spec_PubOk p (fun (r0 : Bool) => k [⟨.bool, false, r0, []⟩] [] []) := by kernel_rfl
theorem S_spec_PubOk : Sound Try.prog 64 s_spec_PubOk := sound_of (Γ := g_spec_PubOk) (X := [xspec_PubOk_l0]) (ht := (.t .o (.t (.t .o (.t (.x 0) .o)) .o))) (fz := false) (c := c_spec_PubOk) follows tysOk (fns_cons S_spec_WordOk fns_nil) (OrOk.mk trivial ((OrOk.mk ((OrOk.mk trivial ((OrOk.mk (OrOk.x_mk (fun W0 M hnp => ospec_PubOk_l0 (W0 := W0) (M := M) hnp)) trivial)))) trivial))) Try.func64 (by kernel_rfl) (by kernel_rfl) (by decide) (by
  intro vals ext k r h
  obtain ⟨p, a_p, t_p, vals, rfl, h1⟩ := av_some h
  obtain ⟨rfl, h2⟩ := nl_some h1
  obtain ⟨rfl, h3⟩ := nl_some h2
  exact (E_spec_PubOk p a_p t_p k).trans h3)

/-! ### 65 loop.example/g00462/spec.l02Has -/
noncomputable def c_spec_l02Has : Code := (Try.f65.body).getD .skip
noncomputable def g_spec_l02Has : Env Unit := ⟨tys, [], 0⟩
noncomputable def spec_l02Has_l0_r (s : ByteArray) (t7 : List ByteArray) (t8 : Int) (t9 : Int) (rec : Int → Res) (k0 : Unit → Res) (k1 : Unit → Res) : Res :=
  bif decide (t9 < t8) then
    bif inb t9 (List.length t7) then
      bif sEq (nth eS t7 t9) s then
        k1 ()
      else
        rec (wi64 (t9 + 1))
    else none
  else
    k0 ()
noncomputable def spec_l02Has_l0_s (s : ByteArray) (t7 : List ByteArray) (t8 : Int) : Int → (Int → Res) → ((Unit → Res) × (Unit → Res)) → Res := fun v rec q => spec_l02Has_l0_r s t7 t8 v (fun t9 => rec (t9)) q.1 q.2
noncomputable def spec_l02Has_l0 (s : ByteArray) (t7 : List ByteArray) (t8 : Int) (n : Nat) (t9 : Int) (k0 : Unit → Res) (k1 : Unit → Res) : Res := iter (spec_l02Has_l0_s s t7 t8) n (t9) (k0, k1)
noncomputable def xspec_l02Has_l0 : Node Unit := fun σ k => rdN σ 17 <| rdV σ 1 .str false [] fun s => rdV σ 7 y2 false [.S] fun t7 => rdV σ 8 (.int .i64) false [] fun t8 => rdV σ 9 (.int .i64) false [] fun t9 => spec_l02Has_l0 s t7 t8 FUEL t9 (fun (_ : Unit) => k (.exit 0) (mkS 17 17 [] [])) (fun (_ : Unit) => k .ret (mkS 17 17 [(4, .val ⟨.bool, false, true, []⟩)] []))
theorem espec_l02Has_l0 (s : ByteArray) (t7 : List ByteArray) (t8 : Int) (n : Nat) (v : Int) (k : Kont Unit) : loopC (codeC g_spec_l02Has [] .o (Code.pl (Code.pl (Code.pr (Code.pl (Code.pr c_spec_l02Has)))))) (fun σ => σ.forget [1, 7, 8, 9] []) (cutC ([], []) [(0, [], [])] ([4], [])) n (mkS 17 17 [(1, .val ⟨.str, false, s, []⟩), (7, .val ⟨y2, false, t7, [.S]⟩), (8, .val ⟨(.int .i64), false, t8, []⟩), (9, .val ⟨(.int .i64), false, v, []⟩)] []) k = iter (spec_l02Has_l0_s s t7 t8) n v ((fun (k : Kont Unit) => (((fun (_ : Unit) => k (.exit 0) (mkS 17 17 [] [])), (fun (_ : Unit) => k .ret (mkS 17 17 [(4, .val ⟨.bool, false, true, []⟩)] []))) : (Unit → Res) × (Unit → Res))) k) := loop_eq (fun v : Int => (mkS 17 17 [(1, .val ⟨.str, false, s, []⟩), (7, .val ⟨y2, false, t7, [.S]⟩), (8, .val ⟨(.int .i64), false, t8, []⟩), (9, .val ⟨(.int .i64), false, v, []⟩)] [])) (spec_l02Has_l0_s s t7 t8) (fun (k : Kont Unit) => (((fun (_ : Unit) => k (.exit 0) (mkS 17 17 [] [])), (fun (_ : Unit) => k .ret (mkS 17 17 [(4, .val ⟨.bool, false, true, []⟩)] []))) : (Unit → Res) × (Unit → Res))) (fun v rec k => by kernel_rfl) n v k
theorem ospec_l02Has_l0 {W0 : Base} {M : Nat → Prop} (hnp : W0.np ≤ 0) : CodeOk Try.prog W0 M (Code.loop (Code.pl (Code.pl (Code.pr (Code.pl (Code.pr c_spec_l02Has)))))) xspec_l02Has_l0 := loop_ok (code_sound follows tysOk (calls_ok fns_nil) hnp [] _ .o trivial) (ks := [1, 7, 8, 9]) (bs := []) (fX := (cutC ([], []) [(0, [], [])] ([4], []))) (cutC_le _ _ _) FUEL (by
  intro σ k r h
  obtain ⟨hn, h1⟩ := rdN_some h
  obtain ⟨s, hs1, h2⟩ := rdV_some h1
  obtain ⟨t7, hs7, h3⟩ := rdV_some h2
  obtain ⟨t8, hs8, h4⟩ := rdV_some h3
  obtain ⟨t9, hs9, h5⟩ := rdV_some h4
  refine ⟨_, ?_, (espec_l02Has_l0 s t7 t8 FUEL (t9) k).trans h5⟩
  exact mkS_le hn ⟨hs1, hs7, hs8, hs9, trivial⟩ trivial)
noncomputable def spec_l02Has (l : List ByteArray) (s : ByteArray) (k0 : Bool → Res) : Res :=
  spec_l02Has_l0 s l (nI (List.length l)) FUEL 0
    (fun (_ : Unit) =>
      k0 false)
    (fun (_ : Unit) =>
      k0 true)
noncomputable def s_spec_l02Has : Sig Unit := ⟨[.borrow y2 false, .borrow .str false], [false], fun vals ext k => av vals y2 fun l vals => av vals .str fun s vals => nl vals <| nl ext <| spec_l02Has l s (fun (r0 : Bool) => k [⟨.bool, false, r0, []⟩] [] [])⟩
theorem E_spec_l02Has (l : List ByteArray) (a_l : Bool) (t_l : List Tag) (s : ByteArray) (a_s : Bool) (t_s : List Tag) (k : List TVal → List TVal → List TVal → Res) : funC g_spec_l02Has [xspec_l02Has_l0] (.t .o (.t (.t .o (.t (.x 0) .o)) .o)) false Try.f65 [.borrow y2 false, .borrow .str false] [false] [⟨y2, a_l, l, t_l⟩, ⟨.str, a_s, s, t_s⟩] [] k = spec_l02Has l s (fun (r0 : Bool) => k [⟨.bool, false, r0, []⟩] [] []) := by kernel_rfl
theorem S_spec_l02Has : Sound Try.prog 65 s_spec_l02Has := sound_of (Γ := g_spec_l02Has) (X := [xspec_l02Has_l0]) (ht := (.t .o (.t (.t .o (.t (.x 0) .o)) .o))) (fz := false) (c := c_spec_l02Has) follows tysOk fns_nil (OrOk.mk trivial ((OrOk.mk ((OrOk.mk trivial ((OrOk.mk (OrOk.x_mk (fun W0 M hnp => ospec_l02Has_l0 (W0 := W0) (M := M) hnp)) trivial)))) trivial))) Try.func65 (by kernel_rfl) (by kernel_rfl) (by decide) (by
  intro vals ext k r h
  obtain ⟨l, a_l, t_l, vals, rfl, h1⟩ := av_some h
  obtain ⟨s, a_s, t_s, vals, rfl, h2⟩ := av_some h1
  obtain ⟨rfl, h3⟩ := nl_some h2
  obtain ⟨rfl, h4⟩ := nl_some h3
  exact (E_spec_l02Has l a_l t_l s a_s t_s k).trans h4)

/-! ### 20 loop.example/g00462/spec.Told -/
noncomputable def c_spec_Told : Code := (Try.f20.body).getD .skip
noncomputable def g_spec_Told : Env Unit := ⟨tys, [(64, s_spec_PubOk), (65, s_spec_l02Has)], 0⟩
noncomputable def spec_Told (p : List ByteArray) (table : ByteArray) (k0 : Bool → Res) : Res :=
  spec_PubOk p fun (r : Bool) =>
    bif r then
      spec_l02Has p table fun (r1 : Bool) =>
        k0 r1
    else
      k0 false
noncomputable def s_spec_Told : Sig Unit := ⟨[.borrow y2 true, .borrow .str false], [false], fun vals ext k => av vals y2 fun p vals => av vals .str fun table vals => nl vals <| nl ext <| spec_Told p table (fun (r0 : Bool) => k [⟨.bool, false, r0, []⟩] [] [])⟩
theorem E_spec_Told (p : List ByteArray) (a_p : Bool) (t_p : List Tag) (table : ByteArray) (a_table : Bool) (t_table : List Tag) (k : List TVal → List TVal → List TVal → Res) : funC g_spec_Told [] .o false Try.f20 [.borrow y2 true, .borrow .str false] [false] [⟨y2, a_p, p, t_p⟩, ⟨.str, a_table, table, t_table⟩] [] k = spec_Told p table (fun (r0 : Bool) => k [⟨.bool, false, r0, []⟩] [] []) := by kernel_rfl
theorem S_spec_Told : Sound Try.prog 20 s_spec_Told := sound_of (Γ := g_spec_Told) (X := []) (ht := .o) (fz := false) (c := c_spec_Told) follows tysOk (fns_cons S_spec_PubOk (fns_cons S_spec_l02Has fns_nil)) trivial Try.func20 (by kernel_rfl) (by kernel_rfl) (by decide) (by
  intro vals ext k r h
  obtain ⟨p, a_p, t_p, vals, rfl, h1⟩ := av_some h
  obtain ⟨table, a_table, t_table, vals, rfl, h2⟩ := av_some h1
  obtain ⟨rfl, h3⟩ := nl_some h2
  obtain ⟨rfl, h4⟩ := nl_some h3
  exact (E_spec_Told p a_p t_p table a_table t_table k).trans h4)

/-! ### 103 loop.example/g00462/impl.within -/
noncomputable def c_impl_within : Code := (Try.f103.body).getD .skip
noncomputable def g_impl_within : Env Unit := ⟨tys, [], 0⟩
noncomputable def impl_within (x : Int) (lo : Int) (hi : Int) (k0 : Bool → Res) : Res :=
  bif decide (x ≥ lo) then
    k0 (decide (x ≤ hi))
  else
    k0 false
noncomputable def s_impl_within : Sig Unit := ⟨[.borrow (.int .i64) false, .borrow (.int .i64) false, .borrow (.int .i64) false], [false], fun vals ext k => av vals (.int .i64) fun x vals => av vals (.int .i64) fun lo vals => av vals (.int .i64) fun hi vals => nl vals <| nl ext <| impl_within x lo hi (fun (r0 : Bool) => k [⟨.bool, false, r0, []⟩] [] [])⟩
theorem E_impl_within (x : Int) (a_x : Bool) (t_x : List Tag) (lo : Int) (a_lo : Bool) (t_lo : List Tag) (hi : Int) (a_hi : Bool) (t_hi : List Tag) (k : List TVal → List TVal → List TVal → Res) : funC g_impl_within [] .o false Try.f103 [.borrow (.int .i64) false, .borrow (.int .i64) false, .borrow (.int .i64) false] [false] [⟨(.int .i64), a_x, x, t_x⟩, ⟨(.int .i64), a_lo, lo, t_lo⟩, ⟨(.int .i64), a_hi, hi, t_hi⟩] [] k = impl_within x lo hi (fun (r0 : Bool) => k [⟨.bool, false, r0, []⟩] [] []) := by kernel_rfl
theorem S_impl_within : Sound Try.prog 103 s_impl_within := sound_of (Γ := g_impl_within) (X := []) (ht := .o) (fz := false) (c := c_impl_within) follows tysOk fns_nil trivial Try.func103 (by kernel_rfl) (by kernel_rfl) (by decide) (by
  intro vals ext k r h
  obtain ⟨x, a_x, t_x, vals, rfl, h1⟩ := av_some h
  obtain ⟨lo, a_lo, t_lo, vals, rfl, h2⟩ := av_some h1
  obtain ⟨hi, a_hi, t_hi, vals, rfl, h3⟩ := av_some h2
  obtain ⟨rfl, h4⟩ := nl_some h3
  obtain ⟨rfl, h5⟩ := nl_some h4
  exact (E_impl_within x a_x t_x lo a_lo t_lo hi a_hi t_hi k).trans h5)

/-! ### 79 loop.example/g00462/impl.WordOk -/
noncomputable def c_impl_WordOk : Code := (Try.f79.body).getD .skip
noncomputable def g_impl_WordOk : Env Unit := ⟨tys, [(103, s_impl_within)], 0⟩
noncomputable def impl_WordOk_l0_r (s : ByteArray) (i : Int) (rec : Int → Res) (k0 : Unit → Res) (k1 : Unit → Res) : Res :=
  bif decide (i < (nI (ByteArray.size s))) then
    bif inb i (ByteArray.size s) then
      bif decide ((bt s i) < 97) then
        k1 ()
      else
        bif inb i (ByteArray.size s) then
          bif decide ((bt s i) > 122) then
            k1 ()
          else
            rec (wi64 (i + 1))
        else none
    else none
  else
    k0 ()
noncomputable def impl_WordOk_l0_s (s : ByteArray) : Int → (Int → Res) → ((Unit → Res) × (Unit → Res)) → Res := fun v rec q => impl_WordOk_l0_r s v (fun i => rec (i)) q.1 q.2
noncomputable def impl_WordOk_l0 (s : ByteArray) (n : Nat) (i : Int) (k0 : Unit → Res) (k1 : Unit → Res) : Res := iter (impl_WordOk_l0_s s) n (i) (k0, k1)
noncomputable def ximpl_WordOk_l0 : Node Unit := fun σ k => rdN σ 23 <| rdV σ 0 .str false [] fun s => rdV σ 3 (.int .i64) false [] fun i => impl_WordOk_l0 s FUEL i (fun (_ : Unit) => k (.exit 0) (mkS 23 23 [(0, .val ⟨.str, false, s, []⟩)] [])) (fun (_ : Unit) => k .ret (mkS 23 23 [(2, .val ⟨.bool, false, false, []⟩)] []))
theorem eimpl_WordOk_l0 (s : ByteArray) (n : Nat) (v : Int) (k : Kont Unit) : loopC (codeC g_impl_WordOk [] .o (Code.pl (Code.pl (Code.pr (Code.pl (Code.pr c_impl_WordOk)))))) (fun σ => σ.forget [0, 3] []) (cutC ([], []) [(0, [0], [])] ([2], [])) n (mkS 23 23 [(0, .val ⟨.str, false, s, []⟩), (3, .val ⟨(.int .i64), false, v, []⟩)] []) k = iter (impl_WordOk_l0_s s) n v ((fun (k : Kont Unit) => (((fun (_ : Unit) => k (.exit 0) (mkS 23 23 [(0, .val ⟨.str, false, s, []⟩)] [])), (fun (_ : Unit) => k .ret (mkS 23 23 [(2, .val ⟨.bool, false, false, []⟩)] []))) : (Unit → Res) × (Unit → Res))) k) := loop_eq (fun v : Int => (mkS 23 23 [(0, .val ⟨.str, false, s, []⟩), (3, .val ⟨(.int .i64), false, v, []⟩)] [])) (impl_WordOk_l0_s s) (fun (k : Kont Unit) => (((fun (_ : Unit) => k (.exit 0) (mkS 23 23 [(0, .val ⟨.str, false, s, []⟩)] [])), (fun (_ : Unit) => k .ret (mkS 23 23 [(2, .val ⟨.bool, false, false, []⟩)] []))) : (Unit → Res) × (Unit → Res))) (fun v rec k => by kernel_rfl) n v k
theorem oimpl_WordOk_l0 {W0 : Base} {M : Nat → Prop} (hnp : W0.np ≤ 0) : CodeOk Try.prog W0 M (Code.loop (Code.pl (Code.pl (Code.pr (Code.pl (Code.pr c_impl_WordOk)))))) ximpl_WordOk_l0 := loop_ok (code_sound follows tysOk (calls_ok (fns_cons S_impl_within fns_nil)) hnp [] _ .o trivial) (ks := [0, 3]) (bs := []) (fX := (cutC ([], []) [(0, [0], [])] ([2], []))) (cutC_le _ _ _) FUEL (by
  intro σ k r h
  obtain ⟨hn, h1⟩ := rdN_some h
  obtain ⟨s, hs0, h2⟩ := rdV_some h1
  obtain ⟨i, hs3, h3⟩ := rdV_some h2
  refine ⟨_, ?_, (eimpl_WordOk_l0 s FUEL (i) k).trans h3⟩
  exact mkS_le hn ⟨hs0, hs3, trivial⟩ trivial)
noncomputable def impl_WordOk (s : ByteArray) (k0 : Bool → Res) : Res :=
  impl_WordOk_l0 s FUEL 0
    (fun (_ : Unit) =>
      impl_within (nI (ByteArray.size s)) 1 8 fun (r : Bool) =>
        k0 r)
    (fun (_ : Unit) =>
      k0 false)
noncomputable def s_impl_WordOk : Sig Unit := ⟨[.borrow .str false], [false], fun vals ext k => av vals .str fun s vals => nl vals <| nl ext <| impl_WordOk s (fun (r0 : Bool) => k [⟨.bool, false, r0, []⟩] [] [])⟩
theorem E_impl_WordOk (s : ByteArray) (a_s : Bool) (t_s : List Tag) (k : List TVal → List TVal → List TVal → Res) : funC g_impl_WordOk [ximpl_WordOk_l0] (.t .o (.t (.t .o (.t (.x 0) .o)) .o)) false Try.f79 [.borrow .str false] [false] [⟨.str, a_s, s, t_s⟩] [] k = impl_WordOk s (fun (r0 : Bool) => k [⟨.bool, false, r0, []⟩] [] []) := by kernel_rfl
theorem S_impl_WordOk : Sound Try.prog 79 s_impl_WordOk := sound_of (Γ := g_impl_WordOk) (X := [ximpl_WordOk_l0]) (ht := (.t .o (.t (.t .o (.t (.x 0) .o)) .o))) (fz := false) (c := c_impl_WordOk) follows tysOk (fns_cons S_impl_within fns_nil) (OrOk.mk trivial ((OrOk.mk ((OrOk.mk trivial ((OrOk.mk (OrOk.x_mk (fun W0 M hnp => oimpl_WordOk_l0 (W0 := W0) (M := M) hnp)) trivial)))) trivial))) Try.func79 (by kernel_rfl) (by kernel_rfl) (by decide) (by
  intro vals ext k r h
  obtain ⟨s, a_s, t_s, vals, rfl, h1⟩ := av_some h
  obtain ⟨rfl, h2⟩ := nl_some h1
  obtain ⟨rfl, h3⟩ := nl_some h2
  exact (E_impl_WordOk s a_s t_s k).trans h3)

/-! ### 67 loop.example/g00462/impl.PubOk -/
noncomputable def c_impl_PubOk : Code := (Try.f67.body).getD .skip
noncomputable def g_impl_PubOk : Env Unit := ⟨tys, [(79, s_impl_WordOk)], 0⟩
noncomputable def impl_PubOk_l0_r (t7 : Int) (p : List ByteArray) (t8 : Int) (rec : Int → Res) (k0 : Unit → Res) (k1 : Unit → Res) : Res :=
  bif decide (t8 < t7) then
    bif inb t8 (List.length p) then
      impl_WordOk (nth eS p t8) fun (r : Bool) =>
        bif !r then
          k1 ()
        else
          bif decide (t8 > 0) then
            bif inb (wi64 (t8 - 1)) (List.length p) then
              bif sGe (nth eS p (wi64 (t8 - 1))) (nth eS p t8) then
                k1 ()
              else
                rec (wi64 (t8 + 1))
            else none
          else
            rec (wi64 (t8 + 1))
    else none
  else
    k0 ()
noncomputable def impl_PubOk_l0_s (t7 : Int) (p : List ByteArray) : Int → (Int → Res) → ((Unit → Res) × (Unit → Res)) → Res := fun v rec q => impl_PubOk_l0_r t7 p v (fun t8 => rec (t8)) q.1 q.2
noncomputable def impl_PubOk_l0 (t7 : Int) (p : List ByteArray) (n : Nat) (t8 : Int) (k0 : Unit → Res) (k1 : Unit → Res) : Res := iter (impl_PubOk_l0_s t7 p) n (t8) (k0, k1)
noncomputable def ximpl_PubOk_l0 : Node Unit := fun σ k => rdN σ 35 <| rdT σ 1 (.ptr ⟨true, 1, []⟩) <| rdT σ 6 (.ref ⟨true, 1, []⟩ false) <| rdV σ 7 (.int .i64) false [] fun t7 => rdV σ 8 (.int .i64) false [] fun t8 => rdB σ 1 y2 [.S] fun a p => impl_PubOk_l0 t7 p FUEL t8 (fun (_ : Unit) => k (.exit 0) (mkS 35 35 [(1, .ptr ⟨true, 1, []⟩)] [(1, ⟨y2, a, p, [.S]⟩)])) (fun (_ : Unit) => k .ret (mkS 35 35 [(2, .val ⟨.bool, false, false, []⟩)] []))
theorem eimpl_PubOk_l0 (t7 : Int) (a : Bool) (p : List ByteArray) (n : Nat) (v : Int) (k : Kont Unit) : loopC (codeC g_impl_PubOk [] .o (Code.pl (Code.pl (Code.pr (Code.pl (Code.pr c_impl_PubOk)))))) (fun σ => σ.forget [1, 6, 7, 8] [1]) (cutC ([], []) [(0, [1], [1])] ([2], [])) n (mkS 35 35 [(1, .ptr ⟨true, 1, []⟩), (6, .ref ⟨true, 1, []⟩ false), (7, .val ⟨(.int .i64), false, t7, []⟩), (8, .val ⟨(.int .i64), false, v, []⟩)] [(1, ⟨y2, a, p, [.S]⟩)]) k = iter (impl_PubOk_l0_s t7 p) n v ((fun (k : Kont Unit) => (((fun (_ : Unit) => k (.exit 0) (mkS 35 35 [(1, .ptr ⟨true, 1, []⟩)] [(1, ⟨y2, a, p, [.S]⟩)])), (fun (_ : Unit) => k .ret (mkS 35 35 [(2, .val ⟨.bool, false, false, []⟩)] []))) : (Unit → Res) × (Unit → Res))) k) := loop_eq (fun v : Int => (mkS 35 35 [(1, .ptr ⟨true, 1, []⟩), (6, .ref ⟨true, 1, []⟩ false), (7, .val ⟨(.int .i64), false, t7, []⟩), (8, .val ⟨(.int .i64), false, v, []⟩)] [(1, ⟨y2, a, p, [.S]⟩)])) (impl_PubOk_l0_s t7 p) (fun (k : Kont Unit) => (((fun (_ : Unit) => k (.exit 0) (mkS 35 35 [(1, .ptr ⟨true, 1, []⟩)] [(1, ⟨y2, a, p, [.S]⟩)])), (fun (_ : Unit) => k .ret (mkS 35 35 [(2, .val ⟨.bool, false, false, []⟩)] []))) : (Unit → Res) × (Unit → Res))) (fun v rec k => by kernel_rfl) n v k
theorem oimpl_PubOk_l0 {W0 : Base} {M : Nat → Prop} (hnp : W0.np ≤ 0) : CodeOk Try.prog W0 M (Code.loop (Code.pl (Code.pl (Code.pr (Code.pl (Code.pr c_impl_PubOk)))))) ximpl_PubOk_l0 := loop_ok (code_sound follows tysOk (calls_ok (fns_cons S_impl_WordOk fns_nil)) hnp [] _ .o trivial) (ks := [1, 6, 7, 8]) (bs := [1]) (fX := (cutC ([], []) [(0, [1], [1])] ([2], []))) (cutC_le _ _ _) FUEL (by
  intro σ k r h
  obtain ⟨hn, h1⟩ := rdN_some h
  obtain ⟨hs1, h2⟩ := rdT_some h1
  obtain ⟨hs6, h3⟩ := rdT_some h2
  obtain ⟨t7, hs7, h4⟩ := rdV_some h3
  obtain ⟨t8, hs8, h5⟩ := rdV_some h4
  obtain ⟨a, p, hb1, h6⟩ := rdB_some h5
  refine ⟨_, ?_, (eimpl_PubOk_l0 t7 a p FUEL (t8) k).trans h6⟩
  exact mkS_le hn ⟨hs1, hs6, hs7, hs8, trivial⟩ ⟨hb1, trivial⟩)
noncomputable def impl_PubOk (p : List ByteArray) (k0 : Bool → Res) : Res :=
  impl_PubOk_l0 (nI (List.length p)) p FUEL 0
    (fun (_ : Unit) =>
      k0 (decide ((nI (List.length p)) ≤ 6)))
    (fun (_ : Unit) =>
      k0 false)
noncomputable def s_impl_PubOk : Sig Unit := ⟨[.borrow y2 true], [false], fun vals ext k => av vals y2 fun p vals => nl vals <| nl ext <| impl_PubOk p (fun (r0 : Bool) => k [⟨.bool, false, r0, []⟩] [] [])⟩
theorem E_impl_PubOk (p : List ByteArray) (a_p : Bool) (t_p : List Tag) (k : List TVal → List TVal → List TVal → Res) : funC g_impl_PubOk [ximpl_PubOk_l0] (.t .o (.t (.t .o (.t (.x 0) .o)) .o)) false Try.f67 [.borrow y2 true] [false] [⟨y2, a_p, p, t_p⟩] [] k = impl_PubOk p (fun (r0 : Bool) => k [⟨.bool, false, r0, []⟩] [] []) := by kernel_rfl
theorem S_impl_PubOk : Sound Try.prog 67 s_impl_PubOk := sound_of (Γ := g_impl_PubOk) (X := [ximpl_PubOk_l0]) (ht := (.t .o (.t (.t .o (.t (.x 0) .o)) .o))) (fz := false) (c := c_impl_PubOk) follows tysOk (fns_cons S_impl_WordOk fns_nil) (OrOk.mk trivial ((OrOk.mk ((OrOk.mk trivial ((OrOk.mk (OrOk.x_mk (fun W0 M hnp => oimpl_PubOk_l0 (W0 := W0) (M := M) hnp)) trivial)))) trivial))) Try.func67 (by kernel_rfl) (by kernel_rfl) (by decide) (by
  intro vals ext k r h
  obtain ⟨p, a_p, t_p, vals, rfl, h1⟩ := av_some h
  obtain ⟨rfl, h2⟩ := nl_some h1
  obtain ⟨rfl, h3⟩ := nl_some h2
  exact (E_impl_PubOk p a_p t_p k).trans h3)

/-! ### 102 slices.Index[[]string,string] -/
noncomputable def c_slices_Index_string : Code := (Try.f102.body).getD .skip
noncomputable def g_slices_Index_string : Env Unit := ⟨tys, [], 0⟩
noncomputable def slices_Index_string_l0_r (s : List ByteArray) (v_ : ByteArray) (t7 : Int) (t8 : Int) (rec : Int → Res) (k0 : Unit → Res) (k1 : Int → Res) : Res :=
  bif decide (t8 < t7) then
    bif inb t8 (List.length s) then
      bif sEq v_ (nth eS s t8) then
        k1 t8
      else
        rec (wi64 (t8 + 1))
    else none
  else
    k0 ()
noncomputable def slices_Index_string_l0_s (s : List ByteArray) (v_ : ByteArray) (t7 : Int) : Int → (Int → Res) → ((Unit → Res) × (Int → Res)) → Res := fun v rec q => slices_Index_string_l0_r s v_ t7 v (fun t8 => rec (t8)) q.1 q.2
noncomputable def slices_Index_string_l0 (s : List ByteArray) (v_ : ByteArray) (t7 : Int) (n : Nat) (t8 : Int) (k0 : Unit → Res) (k1 : Int → Res) : Res := iter (slices_Index_string_l0_s s v_ t7) n (t8) (k0, k1)
noncomputable def xslices_Index_string_l0 : Node Unit := fun σ k => rdN σ 19 <| rdV σ 0 y2 false [.S] fun s => rdV σ 1 .str false [] fun v_ => rdV σ 7 (.int .i64) false [] fun t7 => rdV σ 8 (.int .i64) false [] fun t8 => slices_Index_string_l0 s v_ t7 FUEL t8 (fun (_ : Unit) => k (.exit 0) (mkS 19 19 [] [])) (fun (t4 : Int) => k .ret (mkS 19 19 [(4, .val ⟨(.int .i64), false, t4, []⟩)] []))
theorem eslices_Index_string_l0 (s : List ByteArray) (v_ : ByteArray) (t7 : Int) (n : Nat) (v : Int) (k : Kont Unit) : loopC (codeC g_slices_Index_string [] .o (Code.pl (Code.pl (Code.pr (Code.pl (Code.pr c_slices_Index_string)))))) (fun σ => σ.forget [0, 1, 7, 8] []) (cutC ([], []) [(0, [], [])] ([4], [])) n (mkS 19 19 [(0, .val ⟨y2, false, s, [.S]⟩), (1, .val ⟨.str, false, v_, []⟩), (7, .val ⟨(.int .i64), false, t7, []⟩), (8, .val ⟨(.int .i64), false, v, []⟩)] []) k = iter (slices_Index_string_l0_s s v_ t7) n v ((fun (k : Kont Unit) => (((fun (_ : Unit) => k (.exit 0) (mkS 19 19 [] [])), (fun (t4 : Int) => k .ret (mkS 19 19 [(4, .val ⟨(.int .i64), false, t4, []⟩)] []))) : (Unit → Res) × (Int → Res))) k) := loop_eq (fun v : Int => (mkS 19 19 [(0, .val ⟨y2, false, s, [.S]⟩), (1, .val ⟨.str, false, v_, []⟩), (7, .val ⟨(.int .i64), false, t7, []⟩), (8, .val ⟨(.int .i64), false, v, []⟩)] [])) (slices_Index_string_l0_s s v_ t7) (fun (k : Kont Unit) => (((fun (_ : Unit) => k (.exit 0) (mkS 19 19 [] [])), (fun (t4 : Int) => k .ret (mkS 19 19 [(4, .val ⟨(.int .i64), false, t4, []⟩)] []))) : (Unit → Res) × (Int → Res))) (fun v rec k => by kernel_rfl) n v k
theorem oslices_Index_string_l0 {W0 : Base} {M : Nat → Prop} (hnp : W0.np ≤ 0) : CodeOk Try.prog W0 M (Code.loop (Code.pl (Code.pl (Code.pr (Code.pl (Code.pr c_slices_Index_string)))))) xslices_Index_string_l0 := loop_ok (code_sound follows tysOk (calls_ok fns_nil) hnp [] _ .o trivial) (ks := [0, 1, 7, 8]) (bs := []) (fX := (cutC ([], []) [(0, [], [])] ([4], []))) (cutC_le _ _ _) FUEL (by
  intro σ k r h
  obtain ⟨hn, h1⟩ := rdN_some h
  obtain ⟨s, hs0, h2⟩ := rdV_some h1
  obtain ⟨v_, hs1, h3⟩ := rdV_some h2
  obtain ⟨t7, hs7, h4⟩ := rdV_some h3
  obtain ⟨t8, hs8, h5⟩ := rdV_some h4
  refine ⟨_, ?_, (eslices_Index_string_l0 s v_ t7 FUEL (t8) k).trans h5⟩
  exact mkS_le hn ⟨hs0, hs1, hs7, hs8, trivial⟩ trivial)
noncomputable def slices_Index_string (s : List ByteArray) (v_ : ByteArray) (k0 : Int → Res) : Res :=
  slices_Index_string_l0 s v_ (nI (List.length s)) FUEL 0
    (fun (_ : Unit) =>
      k0 (-1))
    (fun (t : Int) =>
      k0 t)
noncomputable def s_slices_Index_string : Sig Unit := ⟨[.borrow y2 false, .borrow .str false], [false], fun vals ext k => av vals y2 fun s vals => av vals .str fun v_ vals => nl vals <| nl ext <| slices_Index_string s v_ (fun (r0 : Int) => k [⟨(.int .i64), false, r0, []⟩] [] [])⟩
theorem E_slices_Index_string (s : List ByteArray) (a_s : Bool) (t_s : List Tag) (v_ : ByteArray) (a_v_ : Bool) (t_v_ : List Tag) (k : List TVal → List TVal → List TVal → Res) : funC g_slices_Index_string [xslices_Index_string_l0] (.t .o (.t (.t .o (.t (.x 0) .o)) .o)) false Try.f102 [.borrow y2 false, .borrow .str false] [false] [⟨y2, a_s, s, t_s⟩, ⟨.str, a_v_, v_, t_v_⟩] [] k = slices_Index_string s v_ (fun (r0 : Int) => k [⟨(.int .i64), false, r0, []⟩] [] []) := by kernel_rfl
theorem S_slices_Index_string : Sound Try.prog 102 s_slices_Index_string := sound_of (Γ := g_slices_Index_string) (X := [xslices_Index_string_l0]) (ht := (.t .o (.t (.t .o (.t (.x 0) .o)) .o))) (fz := false) (c := c_slices_Index_string) follows tysOk fns_nil (OrOk.mk trivial ((OrOk.mk ((OrOk.mk trivial ((OrOk.mk (OrOk.x_mk (fun W0 M hnp => oslices_Index_string_l0 (W0 := W0) (M := M) hnp)) trivial)))) trivial))) Try.func102 (by kernel_rfl) (by kernel_rfl) (by decide) (by
  intro vals ext k r h
  obtain ⟨s, a_s, t_s, vals, rfl, h1⟩ := av_some h
  obtain ⟨v_, a_v_, t_v_, vals, rfl, h2⟩ := av_some h1
  obtain ⟨rfl, h3⟩ := nl_some h2
  obtain ⟨rfl, h4⟩ := nl_some h3
  exact (E_slices_Index_string s a_s t_s v_ a_v_ t_v_ k).trans h4)

/-! ### 68 slices.Contains[[]string,string] -/
noncomputable def c_slices_Contains_string : Code := (Try.f68.body).getD .skip
noncomputable def g_slices_Contains_string : Env Unit := ⟨tys, [(102, s_slices_Index_string)], 0⟩
noncomputable def slices_Contains_string (s : List ByteArray) (v_ : ByteArray) (k0 : Bool → Res) : Res :=
  slices_Index_string s v_ fun (r : Int) =>
    k0 (decide (r ≥ 0))
noncomputable def s_slices_Contains_string : Sig Unit := ⟨[.borrow y2 false, .borrow .str false], [false], fun vals ext k => av vals y2 fun s vals => av vals .str fun v_ vals => nl vals <| nl ext <| slices_Contains_string s v_ (fun (r0 : Bool) => k [⟨.bool, false, r0, []⟩] [] [])⟩
theorem E_slices_Contains_string (s : List ByteArray) (a_s : Bool) (t_s : List Tag) (v_ : ByteArray) (a_v_ : Bool) (t_v_ : List Tag) (k : List TVal → List TVal → List TVal → Res) : funC g_slices_Contains_string [] .o false Try.f68 [.borrow y2 false, .borrow .str false] [false] [⟨y2, a_s, s, t_s⟩, ⟨.str, a_v_, v_, t_v_⟩] [] k = slices_Contains_string s v_ (fun (r0 : Bool) => k [⟨.bool, false, r0, []⟩] [] []) := by kernel_rfl
theorem S_slices_Contains_string : Sound Try.prog 68 s_slices_Contains_string := sound_of (Γ := g_slices_Contains_string) (X := []) (ht := .o) (fz := false) (c := c_slices_Contains_string) follows tysOk (fns_cons S_slices_Index_string fns_nil) trivial Try.func68 (by kernel_rfl) (by kernel_rfl) (by decide) (by
  intro vals ext k r h
  obtain ⟨s, a_s, t_s, vals, rfl, h1⟩ := av_some h
  obtain ⟨v_, a_v_, t_v_, vals, rfl, h2⟩ := av_some h1
  obtain ⟨rfl, h3⟩ := nl_some h2
  obtain ⟨rfl, h4⟩ := nl_some h3
  exact (E_slices_Contains_string s a_s t_s v_ a_v_ t_v_ k).trans h4)

/-! ### 22 loop.example/g00462/impl.Told -/
noncomputable def c_impl_Told : Code := (Try.f22.body).getD .skip
noncomputable def g_impl_Told : Env Unit := ⟨tys, [(67, s_impl_PubOk), (68, s_slices_Contains_string)], 0⟩
noncomputable def impl_Told (p : List ByteArray) (table : ByteArray) (k0 : Bool → Res) : Res :=
  impl_PubOk p fun (r : Bool) =>
    bif r then
      slices_Contains_string p table fun (r1 : Bool) =>
        k0 r1
    else
      k0 false
noncomputable def s_impl_Told : Sig Unit := ⟨[.borrow y2 true, .borrow .str false], [false], fun vals ext k => av vals y2 fun p vals => av vals .str fun table vals => nl vals <| nl ext <| impl_Told p table (fun (r0 : Bool) => k [⟨.bool, false, r0, []⟩] [] [])⟩
theorem E_impl_Told (p : List ByteArray) (a_p : Bool) (t_p : List Tag) (table : ByteArray) (a_table : Bool) (t_table : List Tag) (k : List TVal → List TVal → List TVal → Res) : funC g_impl_Told [] .o false Try.f22 [.borrow y2 true, .borrow .str false] [false] [⟨y2, a_p, p, t_p⟩, ⟨.str, a_table, table, t_table⟩] [] k = impl_Told p table (fun (r0 : Bool) => k [⟨.bool, false, r0, []⟩] [] []) := by kernel_rfl
theorem S_impl_Told : Sound Try.prog 22 s_impl_Told := sound_of (Γ := g_impl_Told) (X := []) (ht := .o) (fz := false) (c := c_impl_Told) follows tysOk (fns_cons S_impl_PubOk (fns_cons S_slices_Contains_string fns_nil)) trivial Try.func22 (by kernel_rfl) (by kernel_rfl) (by decide) (by
  intro vals ext k r h
  obtain ⟨p, a_p, t_p, vals, rfl, h1⟩ := av_some h
  obtain ⟨table, a_table, t_table, vals, rfl, h2⟩ := av_some h1
  obtain ⟨rfl, h3⟩ := nl_some h2
  obtain ⟨rfl, h4⟩ := nl_some h3
  exact (E_impl_Told p a_p t_p table a_table t_table k).trans h4)

/-! ### 69 loop.example/g00462/laws.eqStringS -/
noncomputable def c_laws_eqStringS : Code := (Try.f69.body).getD .skip
noncomputable def g_laws_eqStringS : Env Unit := ⟨tys, [], 0⟩
noncomputable def laws_eqStringS_l0_r (a : List ByteArray) (b : List ByteArray) (i : Int) (rec : Int → Res) (k0 : Unit → Res) (k1 : Unit → Res) : Res :=
  bif decide (i < (nI (List.length a))) then
    bif inb i (List.length a) then
      bif inb i (List.length b) then
        bif sNe (nth eS a i) (nth eS b i) then
          k1 ()
        else
          rec (wi64 (i + 1))
      else none
    else none
  else
    k0 ()
noncomputable def laws_eqStringS_l0_s (a : List ByteArray) (b : List ByteArray) : Int → (Int → Res) → ((Unit → Res) × (Unit → Res)) → Res := fun v rec q => laws_eqStringS_l0_r a b v (fun i => rec (i)) q.1 q.2
noncomputable def laws_eqStringS_l0 (a : List ByteArray) (b : List ByteArray) (n : Nat) (i : Int) (k0 : Unit → Res) (k1 : Unit → Res) : Res := iter (laws_eqStringS_l0_s a b) n (i) (k0, k1)
noncomputable def xlaws_eqStringS_l0 : Node Unit := fun σ k => rdN σ 26 <| rdV σ 0 y2 false [.S] fun a => rdV σ 1 y2 false [.S] fun b => rdV σ 5 (.int .i64) false [] fun i => laws_eqStringS_l0 a b FUEL i (fun (_ : Unit) => k (.exit 0) (mkS 26 26 [] [])) (fun (_ : Unit) => k .ret (mkS 26 26 [(4, .val ⟨.bool, false, false, []⟩)] []))
theorem elaws_eqStringS_l0 (a : List ByteArray) (b : List ByteArray) (n : Nat) (v : Int) (k : Kont Unit) : loopC (codeC g_laws_eqStringS [] .o (Code.pl (Code.pl (Code.pr (Code.pl (Code.pr (Code.pr c_laws_eqStringS))))))) (fun σ => σ.forget [0, 1, 5] []) (cutC ([], []) [(0, [], [])] ([4], [])) n (mkS 26 26 [(0, .val ⟨y2, false, a, [.S]⟩), (1, .val ⟨y2, false, b, [.S]⟩), (5, .val ⟨(.int .i64), false, v, []⟩)] []) k = iter (laws_eqStringS_l0_s a b) n v ((fun (k : Kont Unit) => (((fun (_ : Unit) => k (.exit 0) (mkS 26 26 [] [])), (fun (_ : Unit) => k .ret (mkS 26 26 [(4, .val ⟨.bool, false, false, []⟩)] []))) : (Unit → Res) × (Unit → Res))) k) := loop_eq (fun v : Int => (mkS 26 26 [(0, .val ⟨y2, false, a, [.S]⟩), (1, .val ⟨y2, false, b, [.S]⟩), (5, .val ⟨(.int .i64), false, v, []⟩)] [])) (laws_eqStringS_l0_s a b) (fun (k : Kont Unit) => (((fun (_ : Unit) => k (.exit 0) (mkS 26 26 [] [])), (fun (_ : Unit) => k .ret (mkS 26 26 [(4, .val ⟨.bool, false, false, []⟩)] []))) : (Unit → Res) × (Unit → Res))) (fun v rec k => by kernel_rfl) n v k
theorem olaws_eqStringS_l0 {W0 : Base} {M : Nat → Prop} (hnp : W0.np ≤ 0) : CodeOk Try.prog W0 M (Code.loop (Code.pl (Code.pl (Code.pr (Code.pl (Code.pr (Code.pr c_laws_eqStringS))))))) xlaws_eqStringS_l0 := loop_ok (code_sound follows tysOk (calls_ok fns_nil) hnp [] _ .o trivial) (ks := [0, 1, 5]) (bs := []) (fX := (cutC ([], []) [(0, [], [])] ([4], []))) (cutC_le _ _ _) FUEL (by
  intro σ k r h
  obtain ⟨hn, h1⟩ := rdN_some h
  obtain ⟨a, hs0, h2⟩ := rdV_some h1
  obtain ⟨b, hs1, h3⟩ := rdV_some h2
  obtain ⟨i, hs5, h4⟩ := rdV_some h3
  refine ⟨_, ?_, (elaws_eqStringS_l0 a b FUEL (i) k).trans h4⟩
  exact mkS_le hn ⟨hs0, hs1, hs5, trivial⟩ trivial)
noncomputable def laws_eqStringS (a : List ByteArray) (b : List ByteArray) (k0 : Bool → Res) : Res :=
  bif ((nI (List.length a)) != (nI (List.length b))) then
    k0 false
  else
    laws_eqStringS_l0 a b FUEL 0
      (fun (_ : Unit) =>
        k0 true)
      (fun (_ : Unit) =>
        k0 false)
noncomputable def s_laws_eqStringS : Sig Unit := ⟨[.borrow y2 false, .borrow y2 false], [false], fun vals ext k => av vals y2 fun a vals => av vals y2 fun b vals => nl vals <| nl ext <| laws_eqStringS a b (fun (r0 : Bool) => k [⟨.bool, false, r0, []⟩] [] [])⟩
theorem E_laws_eqStringS (a : List ByteArray) (a_a : Bool) (t_a : List Tag) (b : List ByteArray) (a_b : Bool) (t_b : List Tag) (k : List TVal → List TVal → List TVal → Res) : funC g_laws_eqStringS [xlaws_eqStringS_l0] (.t .o (.t .o (.t (.t .o (.t (.x 0) .o)) .o))) false Try.f69 [.borrow y2 false, .borrow y2 false] [false] [⟨y2, a_a, a, t_a⟩, ⟨y2, a_b, b, t_b⟩] [] k = laws_eqStringS a b (fun (r0 : Bool) => k [⟨.bool, false, r0, []⟩] [] []) := by kernel_rfl
theorem S_laws_eqStringS : Sound Try.prog 69 s_laws_eqStringS := sound_of (Γ := g_laws_eqStringS) (X := [xlaws_eqStringS_l0]) (ht := (.t .o (.t .o (.t (.t .o (.t (.x 0) .o)) .o)))) (fz := false) (c := c_laws_eqStringS) follows tysOk fns_nil (OrOk.mk trivial ((OrOk.mk trivial ((OrOk.mk ((OrOk.mk trivial ((OrOk.mk (OrOk.x_mk (fun W0 M hnp => olaws_eqStringS_l0 (W0 := W0) (M := M) hnp)) trivial)))) trivial))))) Try.func69 (by kernel_rfl) (by kernel_rfl) (by decide) (by
  intro vals ext k r h
  obtain ⟨a, a_a, t_a, vals, rfl, h1⟩ := av_some h
  obtain ⟨b, a_b, t_b, vals, rfl, h2⟩ := av_some h1
  obtain ⟨rfl, h3⟩ := nl_some h2
  obtain ⟨rfl, h4⟩ := nl_some h3
  exact (E_laws_eqStringS a a_a t_a b a_b t_b k).trans h4)

/-! ### 23 loop.example/g00462/laws.eqPub -/
noncomputable def c_laws_eqPub : Code := (Try.f23.body).getD .skip
noncomputable def g_laws_eqPub : Env Unit := ⟨tys, [(69, s_laws_eqStringS)], 0⟩
noncomputable def laws_eqPub (a : List ByteArray) (b : List ByteArray) (k0 : Bool → Res) : Res :=
  laws_eqStringS a b fun (r : Bool) =>
    bif !r then
      k0 false
    else
      k0 true
noncomputable def s_laws_eqPub : Sig Unit := ⟨[.borrow y2 true, .borrow y2 true], [false], fun vals ext k => av vals y2 fun a vals => av vals y2 fun b vals => nl vals <| nl ext <| laws_eqPub a b (fun (r0 : Bool) => k [⟨.bool, false, r0, []⟩] [] [])⟩
theorem E_laws_eqPub (a : List ByteArray) (a_a : Bool) (t_a : List Tag) (b : List ByteArray) (a_b : Bool) (t_b : List Tag) (k : List TVal → List TVal → List TVal → Res) : funC g_laws_eqPub [] .o false Try.f23 [.borrow y2 true, .borrow y2 true] [false] [⟨y2, a_a, a, t_a⟩, ⟨y2, a_b, b, t_b⟩] [] k = laws_eqPub a b (fun (r0 : Bool) => k [⟨.bool, false, r0, []⟩] [] []) := by kernel_rfl
theorem S_laws_eqPub : Sound Try.prog 23 s_laws_eqPub := sound_of (Γ := g_laws_eqPub) (X := []) (ht := .o) (fz := false) (c := c_laws_eqPub) follows tysOk (fns_cons S_laws_eqStringS fns_nil) trivial Try.func23 (by kernel_rfl) (by kernel_rfl) (by decide) (by
  intro vals ext k r h
  obtain ⟨a, a_a, t_a, vals, rfl, h1⟩ := av_some h
  obtain ⟨b, a_b, t_b, vals, rfl, h2⟩ := av_some h1
  obtain ⟨rfl, h3⟩ := nl_some h2
  obtain ⟨rfl, h4⟩ := nl_some h3
  exact (E_laws_eqPub a a_a t_a b a_b t_b k).trans h4)

/-! ### 4 loop.example/g00462/laws.FnExactTold -/
noncomputable def c_laws_FnExactTold : Code := (Try.f4.body).getD .skip
noncomputable def g_laws_FnExactTold : Env Unit := ⟨tys, [(19, s_laws_szPub), (20, s_spec_Told), (21, s_laws_toPub), (22, s_impl_Told), (23, s_laws_eqPub)], 0⟩
noncomputable def laws_FnExactTold (aP : List ByteArray) (aTable : ByteArray) (k0 : Bool → Res) : Res :=
  bif decide ((nI (ByteArray.size aTable)) > 1048576) then
    k0 true
  else
    laws_szPub aP 1048576 fun (r : Int) =>
      bif decide (r < 0) then
        k0 true
      else
        laws_toPub aP fun (r1 : List ByteArray) =>
          spec_Told r1 aTable fun (r2 : Bool) =>
            laws_toPub aP fun (r3 : List ByteArray) =>
              impl_Told r3 aTable fun (r4 : Bool) =>
                bif !(r4 == r2) then
                  k0 false
                else
                  laws_toPub aP fun (r5 : List ByteArray) =>
                    laws_eqPub r3 r5 fun (r6 : Bool) =>
                      bif !r6 then
                        k0 false
                      else
                        k0 true
noncomputable def s_laws_FnExactTold : Sig Unit := ⟨[.borrow y2 true, .borrow .str false], [false], fun vals ext k => av vals y2 fun aP vals => av vals .str fun aTable vals => nl vals <| nl ext <| laws_FnExactTold aP aTable (fun (r0 : Bool) => k [⟨.bool, false, r0, []⟩] [] [])⟩
theorem E_laws_FnExactTold (aP : List ByteArray) (a_aP : Bool) (t_aP : List Tag) (aTable : ByteArray) (a_aTable : Bool) (t_aTable : List Tag) (k : List TVal → List TVal → List TVal → Res) : funC g_laws_FnExactTold [] .o false Try.f4 [.borrow y2 true, .borrow .str false] [false] [⟨y2, a_aP, aP, t_aP⟩, ⟨.str, a_aTable, aTable, t_aTable⟩] [] k = laws_FnExactTold aP aTable (fun (r0 : Bool) => k [⟨.bool, false, r0, []⟩] [] []) := by kernel_rfl
theorem S_laws_FnExactTold : Sound Try.prog 4 s_laws_FnExactTold := sound_of (Γ := g_laws_FnExactTold) (X := []) (ht := .o) (fz := false) (c := c_laws_FnExactTold) follows tysOk (fns_cons S_laws_szPub (fns_cons S_spec_Told (fns_cons S_laws_toPub (fns_cons S_impl_Told (fns_cons S_laws_eqPub fns_nil))))) trivial Try.func4 (by kernel_rfl) (by kernel_rfl) (by decide) (by
  intro vals ext k r h
  obtain ⟨aP, a_aP, t_aP, vals, rfl, h1⟩ := av_some h
  obtain ⟨aTable, a_aTable, t_aTable, vals, rfl, h2⟩ := av_some h1
  obtain ⟨rfl, h3⟩ := nl_some h2
  obtain ⟨rfl, h4⟩ := nl_some h3
  exact (E_laws_FnExactTold aP a_aP t_aP aTable a_aTable t_aTable k).trans h4)
end Go.PI.LA
