import Derived.Test.YtnijpcgdbjmokaaProg
import Derived.Test.YtnijpcgdbjmokaaPc
set_option linter.unusedVariables false
set_option maxRecDepth 100000
namespace Go.PI.L3
open Go Go.PI Go.Proofs
abbrev y0 : Ty := .slice (.int .u8)
abbrev y1 : Ty := .slice y0
def tys : List (TypeId × Ty × List TypeId) := [(3, (.int .i64), []),
  (4, .bool, []),
  (5, (.int .u8), []),
  (22, y1, []),
  (24, y1, [22]),
  (27, y1, []),
  (29, y1, [27]),
  (45, y0, []),
  (47, y0, [45]),
  (50, y0, [45])]
theorem follows : Try.prog.follows .mixedOrders = true := by kernel_rfl
theorem tysOk : TysOk Try.prog tys := tysB_ok (by kernel_rfl)

/-! ### 74 loop.example/g00462/laws.szByteS -/
noncomputable def c_laws_szByteS : Code := (Try.f74.body).getD .skip
noncomputable def g_laws_szByteS : Env Unit := ⟨tys, []⟩
noncomputable def laws_szByteS (a : List Int) (left : Int) (k0 : Int → Res) : Res :=
  bif decide ((wi64 (left - (nI (List.length a)))) < 0) then
    k0 (-1)
  else
    k0 (wi64 (left - (nI (List.length a))))
noncomputable def s_laws_szByteS : Sig Unit := ⟨[.borrow y0 false, .borrow (.int .i64) false], [false], fun vals ext k => av vals y0 fun a vals => av vals (.int .i64) fun left vals => nl vals <| nl ext <| laws_szByteS a left (fun (r0 : Int) => k [⟨(.int .i64), false, r0, []⟩] [] [])⟩
theorem E_laws_szByteS (a : List Int) (aa : Bool) (ta : List Tag) (left : Int) (aleft : Bool) (tleft : List Tag) (k : List TVal → List TVal → List TVal → Res) : funC g_laws_szByteS [] .o false Try.f74 [.borrow y0 false, .borrow (.int .i64) false] [false] [⟨y0, aa, a, ta⟩, ⟨(.int .i64), aleft, left, tleft⟩] [] k = laws_szByteS a left (fun (r0 : Int) => k [⟨(.int .i64), false, r0, []⟩] [] []) := by kernel_rfl
theorem S_laws_szByteS : Sound Try.prog 74 s_laws_szByteS := sound_of (Γ := g_laws_szByteS) (X := []) (ht := .o) (fz := false) (c := c_laws_szByteS) follows tysOk fns_nil trivial Try.func74 (by kernel_rfl) (by kernel_rfl) (by decide) (by
  intro vals ext k r h
  obtain ⟨a, aa, ta, vals, rfl, h1⟩ := av_some h
  obtain ⟨left, aleft, tleft, vals, rfl, h2⟩ := av_some h1
  obtain ⟨rfl, h3⟩ := nl_some h2
  obtain ⟨rfl, h4⟩ := nl_some h3
  exact (E_laws_szByteS a aa ta left aleft tleft k).trans h4)

/-! ### 28 loop.example/g00462/laws.szPack -/
noncomputable def c_laws_szPack : Code := (Try.f28.body).getD .skip
noncomputable def g_laws_szPack : Env Unit := ⟨tys, [(74, s_laws_szByteS)]⟩
noncomputable def laws_szPack (a : List Int) (left : Int) (k0 : Int → Res) : Res :=
  laws_szByteS a left fun (r : Int) =>
    bif decide (r < 0) then
      k0 (-1)
    else
      k0 r
noncomputable def s_laws_szPack : Sig Unit := ⟨[.borrow y0 true, .borrow (.int .i64) false], [false], fun vals ext k => av vals y0 fun a vals => av vals (.int .i64) fun left vals => nl vals <| nl ext <| laws_szPack a left (fun (r0 : Int) => k [⟨(.int .i64), false, r0, []⟩] [] [])⟩
theorem E_laws_szPack (a : List Int) (aa : Bool) (ta : List Tag) (left : Int) (aleft : Bool) (tleft : List Tag) (k : List TVal → List TVal → List TVal → Res) : funC g_laws_szPack [] .o false Try.f28 [.borrow y0 true, .borrow (.int .i64) false] [false] [⟨y0, aa, a, ta⟩, ⟨(.int .i64), aleft, left, tleft⟩] [] k = laws_szPack a left (fun (r0 : Int) => k [⟨(.int .i64), false, r0, []⟩] [] []) := by kernel_rfl
theorem S_laws_szPack : Sound Try.prog 28 s_laws_szPack := sound_of (Γ := g_laws_szPack) (X := []) (ht := .o) (fz := false) (c := c_laws_szPack) follows tysOk (fns_cons S_laws_szByteS fns_nil) trivial Try.func28 (by kernel_rfl) (by kernel_rfl) (by decide) (by
  intro vals ext k r h
  obtain ⟨a, aa, ta, vals, rfl, h1⟩ := av_some h
  obtain ⟨left, aleft, tleft, vals, rfl, h2⟩ := av_some h1
  obtain ⟨rfl, h3⟩ := nl_some h2
  obtain ⟨rfl, h4⟩ := nl_some h3
  exact (E_laws_szPack a aa ta left aleft tleft k).trans h4)

/-! ### 60 loop.example/g00462/laws.szPackS -/
noncomputable def c_laws_szPackS : Code := (Try.f60.body).getD .skip
noncomputable def g_laws_szPackS : Env Unit := ⟨tys, [(28, s_laws_szPack)]⟩
noncomputable def laws_szPackS_l0_r (a : List (List Int)) (left : Int) (i : Int) (rec : Int → Int → Res) (k0 : Int → Res) (k1 : Unit → Res) : Res :=
  bif decide (i < (nI (List.length a))) then
    bif inb i (List.length a) then
      laws_szPack (nth [] a i) left fun (r : Int) =>
        bif decide (r < 0) then
          k1 ()
        else
          rec r (wi64 (i + 1))
    else none
  else
    k0 left
noncomputable def laws_szPackS_l0_s (a : List (List Int)) : (Int × Int) → (Int × Int → Res) → ((Int → Res) × (Unit → Res)) → Res := fun v rec q => laws_szPackS_l0_r a v.1 v.2 (fun left i => rec (left, i)) q.1 q.2
noncomputable def laws_szPackS_l0 (a : List (List Int)) (n : Nat) (left : Int) (i : Int) (k0 : Int → Res) (k1 : Unit → Res) : Res := iter (laws_szPackS_l0_s a) n (left, i) (k0, k1)
noncomputable def xlaws_szPackS_l0 : Node Unit := fun σ k => rdN σ 27 <| rdV σ 0 y1 false [.S] fun a => rdV σ 1 (.int .i64) false [] fun left => rdV σ 5 (.int .i64) false [] fun i => laws_szPackS_l0 a FUEL left i (fun (left1 : Int) => k (.exit 0) (mkS 27 27 [(1, .val ⟨(.int .i64), false, left1, []⟩)] [])) (fun (_ : Unit) => k .ret (mkS 27 27 [(4, .val ⟨(.int .i64), false, (-1), []⟩)] []))
theorem elaws_szPackS_l0 (a : List (List Int)) (n : Nat) (v : Int × Int) (k : Kont Unit) : loopC (codeC g_laws_szPackS [] .o (Code.pl (Code.pl (Code.pr (Code.pl (Code.pr (Code.pr (Code.pr c_laws_szPackS)))))))) (fun σ => σ.forget [0, 1, 5] []) (cutC ([], []) [(0, [1], [])] ([4], [])) n (mkS 27 27 [(0, .val ⟨y1, false, a, [.S]⟩), (1, .val ⟨(.int .i64), false, v.1, []⟩), (5, .val ⟨(.int .i64), false, v.2, []⟩)] []) k = iter (laws_szPackS_l0_s a) n v ((fun (k : Kont Unit) => (((fun (left1 : Int) => k (.exit 0) (mkS 27 27 [(1, .val ⟨(.int .i64), false, left1, []⟩)] [])), (fun (_ : Unit) => k .ret (mkS 27 27 [(4, .val ⟨(.int .i64), false, (-1), []⟩)] []))) : (Int → Res) × (Unit → Res))) k) := loop_eq (fun v : Int × Int => (mkS 27 27 [(0, .val ⟨y1, false, a, [.S]⟩), (1, .val ⟨(.int .i64), false, v.1, []⟩), (5, .val ⟨(.int .i64), false, v.2, []⟩)] [])) (laws_szPackS_l0_s a) (fun (k : Kont Unit) => (((fun (left1 : Int) => k (.exit 0) (mkS 27 27 [(1, .val ⟨(.int .i64), false, left1, []⟩)] [])), (fun (_ : Unit) => k .ret (mkS 27 27 [(4, .val ⟨(.int .i64), false, (-1), []⟩)] []))) : (Int → Res) × (Unit → Res))) (fun v rec k => by kernel_rfl) n v k
theorem olaws_szPackS_l0 {W0 : Base} {M : Nat → Prop} : CodeOk Try.prog W0 M (Code.loop (Code.pl (Code.pl (Code.pr (Code.pl (Code.pr (Code.pr (Code.pr c_laws_szPackS)))))))) xlaws_szPackS_l0 := loop_ok (code_sound follows tysOk (calls_ok (fns_cons S_laws_szPack fns_nil)) [] _ .o trivial) (ks := [0, 1, 5]) (bs := []) (fX := (cutC ([], []) [(0, [1], [])] ([4], []))) (cutC_le _ _ _) FUEL (by
  intro σ k r h
  obtain ⟨hn, h1⟩ := rdN_some h
  obtain ⟨a, hs0, h2⟩ := rdV_some h1
  obtain ⟨left, hs1, h3⟩ := rdV_some h2
  obtain ⟨i, hs5, h4⟩ := rdV_some h3
  refine ⟨_, ?_, (elaws_szPackS_l0 a FUEL (left, i) k).trans h4⟩
  exact mkS_le hn ⟨hs0, hs1, hs5, trivial⟩ trivial)
noncomputable def laws_szPackS (a : List (List Int)) (left : Int) (k0 : Int → Res) : Res :=
  bif decide ((wi64 (left - (nI (List.length a)))) < 0) then
    k0 (-1)
  else
    laws_szPackS_l0 a FUEL (wi64 (left - (nI (List.length a)))) 0
      (fun (left1 : Int) =>
        k0 left1)
      (fun (_ : Unit) =>
        k0 (-1))
noncomputable def s_laws_szPackS : Sig Unit := ⟨[.borrow y1 false, .borrow (.int .i64) false], [false], fun vals ext k => av vals y1 fun a vals => av vals (.int .i64) fun left vals => nl vals <| nl ext <| laws_szPackS a left (fun (r0 : Int) => k [⟨(.int .i64), false, r0, []⟩] [] [])⟩
theorem E_laws_szPackS (a : List (List Int)) (aa : Bool) (ta : List Tag) (left : Int) (aleft : Bool) (tleft : List Tag) (k : List TVal → List TVal → List TVal → Res) : funC g_laws_szPackS [xlaws_szPackS_l0] (.t .o (.t .o (.t .o (.t (.t .o (.t (.x 0) .o)) .o)))) false Try.f60 [.borrow y1 false, .borrow (.int .i64) false] [false] [⟨y1, aa, a, ta⟩, ⟨(.int .i64), aleft, left, tleft⟩] [] k = laws_szPackS a left (fun (r0 : Int) => k [⟨(.int .i64), false, r0, []⟩] [] []) := by kernel_rfl
theorem S_laws_szPackS : Sound Try.prog 60 s_laws_szPackS := sound_of (Γ := g_laws_szPackS) (X := [xlaws_szPackS_l0]) (ht := (.t .o (.t .o (.t .o (.t (.t .o (.t (.x 0) .o)) .o))))) (fz := false) (c := c_laws_szPackS) follows tysOk (fns_cons S_laws_szPack fns_nil) (OrOk.mk trivial ((OrOk.mk trivial ((OrOk.mk trivial ((OrOk.mk ((OrOk.mk trivial ((OrOk.mk (OrOk.x_mk (fun W0 M => olaws_szPackS_l0 (W0 := W0) (M := M))) trivial)))) trivial))))))) Try.func60 (by kernel_rfl) (by kernel_rfl) (by decide) (by
  intro vals ext k r h
  obtain ⟨a, aa, ta, vals, rfl, h1⟩ := av_some h
  obtain ⟨left, aleft, tleft, vals, rfl, h2⟩ := av_some h1
  obtain ⟨rfl, h3⟩ := nl_some h2
  obtain ⟨rfl, h4⟩ := nl_some h3
  exact (E_laws_szPackS a aa ta left aleft tleft k).trans h4)

/-! ### 14 loop.example/g00462/laws.szNet -/
noncomputable def c_laws_szNet : Code := (Try.f14.body).getD .skip
noncomputable def g_laws_szNet : Env Unit := ⟨tys, [(60, s_laws_szPackS)]⟩
noncomputable def laws_szNet (a : List (List Int)) (left : Int) (k0 : Int → Res) : Res :=
  laws_szPackS a left fun (r : Int) =>
    bif decide (r < 0) then
      k0 (-1)
    else
      k0 r
noncomputable def s_laws_szNet : Sig Unit := ⟨[.borrow y1 true, .borrow (.int .i64) false], [false], fun vals ext k => av vals y1 fun a vals => av vals (.int .i64) fun left vals => nl vals <| nl ext <| laws_szNet a left (fun (r0 : Int) => k [⟨(.int .i64), false, r0, []⟩] [] [])⟩
theorem E_laws_szNet (a : List (List Int)) (aa : Bool) (ta : List Tag) (left : Int) (aleft : Bool) (tleft : List Tag) (k : List TVal → List TVal → List TVal → Res) : funC g_laws_szNet [] .o false Try.f14 [.borrow y1 true, .borrow (.int .i64) false] [false] [⟨y1, aa, a, ta⟩, ⟨(.int .i64), aleft, left, tleft⟩] [] k = laws_szNet a left (fun (r0 : Int) => k [⟨(.int .i64), false, r0, []⟩] [] []) := by kernel_rfl
theorem S_laws_szNet : Sound Try.prog 14 s_laws_szNet := sound_of (Γ := g_laws_szNet) (X := []) (ht := .o) (fz := false) (c := c_laws_szNet) follows tysOk (fns_cons S_laws_szPackS fns_nil) trivial Try.func14 (by kernel_rfl) (by kernel_rfl) (by decide) (by
  intro vals ext k r h
  obtain ⟨a, aa, ta, vals, rfl, h1⟩ := av_some h
  obtain ⟨left, aleft, tleft, vals, rfl, h2⟩ := av_some h1
  obtain ⟨rfl, h3⟩ := nl_some h2
  obtain ⟨rfl, h4⟩ := nl_some h3
  exact (E_laws_szNet a aa ta left aleft tleft k).trans h4)

/-! ### 53 loop.example/g00462/laws.toByteS -/
noncomputable def c_laws_toByteS : Code := (Try.f53.body).getD .skip
noncomputable def g_laws_toByteS : Env Unit := ⟨tys, []⟩
noncomputable def laws_toByteS_l0_r (a : List Int) (out : List Int) (i : Int) (rec : (List Int) → Int → Res) (k0 : (List Int) → Res) : Res :=
  bif decide (i < (nI (List.length a))) then
    bif inb i (List.length a) then
      bif inb i (List.length out) then
        rec (upd out i (nth 0 a i)) (wi64 (i + 1))
      else none
    else none
  else
    k0 out
noncomputable def laws_toByteS_l0_s (a : List Int) : ((List Int) × Int) → ((List Int) × Int → Res) → (((List Int) → Res)) → Res := fun v rec q => laws_toByteS_l0_r a v.1 v.2 (fun out i => rec (out, i)) q
noncomputable def laws_toByteS_l0 (a : List Int) (n : Nat) (out : List Int) (i : Int) (k0 : (List Int) → Res) : Res := iter (laws_toByteS_l0_s a) n (out, i) (k0)
noncomputable def xlaws_toByteS_l0 : Node Unit := fun σ k => rdN σ 22 <| rdV σ 0 y0 false [.S] fun a => rdV σ 3 y0 false [.O] fun out => rdV σ 4 (.int .i64) false [] fun i => laws_toByteS_l0 a FUEL out i (fun (out1 : List Int) => k (.exit 0) (mkS 22 22 [(3, .val ⟨y0, false, out1, [.O]⟩)] []))
theorem elaws_toByteS_l0 (a : List Int) (n : Nat) (v : (List Int) × Int) (k : Kont Unit) : loopC (codeC g_laws_toByteS [] .o (Code.pl (Code.pl (Code.pr (Code.pl (Code.pr (Code.pr c_laws_toByteS))))))) (fun σ => σ.forget [0, 3, 4] []) (cutC ([], []) [(0, [3], [])] ([], [])) n (mkS 22 22 [(0, .val ⟨y0, false, a, [.S]⟩), (3, .val ⟨y0, false, v.1, [.O]⟩), (4, .val ⟨(.int .i64), false, v.2, []⟩)] []) k = iter (laws_toByteS_l0_s a) n v ((fun (k : Kont Unit) => (((fun (out1 : List Int) => k (.exit 0) (mkS 22 22 [(3, .val ⟨y0, false, out1, [.O]⟩)] []))) : ((List Int) → Res))) k) := loop_eq (fun v : (List Int) × Int => (mkS 22 22 [(0, .val ⟨y0, false, a, [.S]⟩), (3, .val ⟨y0, false, v.1, [.O]⟩), (4, .val ⟨(.int .i64), false, v.2, []⟩)] [])) (laws_toByteS_l0_s a) (fun (k : Kont Unit) => (((fun (out1 : List Int) => k (.exit 0) (mkS 22 22 [(3, .val ⟨y0, false, out1, [.O]⟩)] []))) : ((List Int) → Res))) (fun v rec k => by kernel_rfl) n v k
theorem olaws_toByteS_l0 {W0 : Base} {M : Nat → Prop} : CodeOk Try.prog W0 M (Code.loop (Code.pl (Code.pl (Code.pr (Code.pl (Code.pr (Code.pr c_laws_toByteS))))))) xlaws_toByteS_l0 := loop_ok (code_sound follows tysOk (calls_ok fns_nil) [] _ .o trivial) (ks := [0, 3, 4]) (bs := []) (fX := (cutC ([], []) [(0, [3], [])] ([], []))) (cutC_le _ _ _) FUEL (by
  intro σ k r h
  obtain ⟨hn, h1⟩ := rdN_some h
  obtain ⟨a, hs0, h2⟩ := rdV_some h1
  obtain ⟨out, hs3, h3⟩ := rdV_some h2
  obtain ⟨i, hs4, h4⟩ := rdV_some h3
  refine ⟨_, ?_, (elaws_toByteS_l0 a FUEL (out, i) k).trans h4⟩
  exact mkS_le hn ⟨hs0, hs3, hs4, trivial⟩ trivial)
noncomputable def laws_toByteS (a : List Int) (k0 : (List Int) → Res) : Res :=
  bif mkOk (nI (List.length a)) (nI (List.length a)) then
    laws_toByteS_l0 a FUEL (repl (nI (List.length a)) 0) 0 fun (out : List Int) =>
      k0 out
  else none
noncomputable def s_laws_toByteS : Sig Unit := ⟨[.borrow y0 false], [false], fun vals ext k => av vals y0 fun a vals => nl vals <| nl ext <| laws_toByteS a (fun (r0 : List Int) => k [⟨y0, false, r0, [.O]⟩] [] [])⟩
theorem E_laws_toByteS (a : List Int) (aa : Bool) (ta : List Tag) (k : List TVal → List TVal → List TVal → Res) : funC g_laws_toByteS [xlaws_toByteS_l0] (.t .o (.t .o (.t (.t .o (.t (.x 0) .o)) .o))) false Try.f53 [.borrow y0 false] [false] [⟨y0, aa, a, ta⟩] [] k = laws_toByteS a (fun (r0 : List Int) => k [⟨y0, false, r0, [.O]⟩] [] []) := by kernel_rfl
theorem S_laws_toByteS : Sound Try.prog 53 s_laws_toByteS := sound_of (Γ := g_laws_toByteS) (X := [xlaws_toByteS_l0]) (ht := (.t .o (.t .o (.t (.t .o (.t (.x 0) .o)) .o)))) (fz := false) (c := c_laws_toByteS) follows tysOk fns_nil (OrOk.mk trivial ((OrOk.mk trivial ((OrOk.mk ((OrOk.mk trivial ((OrOk.mk (OrOk.x_mk (fun W0 M => olaws_toByteS_l0 (W0 := W0) (M := M))) trivial)))) trivial))))) Try.func53 (by kernel_rfl) (by kernel_rfl) (by decide) (by
  intro vals ext k r h
  obtain ⟨a, aa, ta, vals, rfl, h1⟩ := av_some h
  obtain ⟨rfl, h2⟩ := nl_some h1
  obtain ⟨rfl, h3⟩ := nl_some h2
  exact (E_laws_toByteS a aa ta k).trans h3)

/-! ### 30 loop.example/g00462/laws.toPack -/
noncomputable def c_laws_toPack : Code := (Try.f30.body).getD .skip
noncomputable def g_laws_toPack : Env Unit := ⟨tys, [(53, s_laws_toByteS)]⟩
noncomputable def laws_toPack (a : List Int) (k0 : (List Int) → Res) : Res :=
  laws_toByteS a fun (r : List Int) =>
    k0 r
noncomputable def s_laws_toPack : Sig Unit := ⟨[.borrow y0 true], [true], fun vals ext k => av vals y0 fun a vals => nl vals <| nl ext <| laws_toPack a (fun (r0 : List Int) => k [⟨y0, true, r0, [.O]⟩] [] [])⟩
theorem E_laws_toPack (a : List Int) (aa : Bool) (ta : List Tag) (k : List TVal → List TVal → List TVal → Res) : funC g_laws_toPack [] .o false Try.f30 [.borrow y0 true] [true] [⟨y0, aa, a, ta⟩] [] k = laws_toPack a (fun (r0 : List Int) => k [⟨y0, true, r0, [.O]⟩] [] []) := by kernel_rfl
theorem S_laws_toPack : Sound Try.prog 30 s_laws_toPack := sound_of (Γ := g_laws_toPack) (X := []) (ht := .o) (fz := false) (c := c_laws_toPack) follows tysOk (fns_cons S_laws_toByteS fns_nil) trivial Try.func30 (by kernel_rfl) (by kernel_rfl) (by decide) (by
  intro vals ext k r h
  obtain ⟨a, aa, ta, vals, rfl, h1⟩ := av_some h
  obtain ⟨rfl, h2⟩ := nl_some h1
  obtain ⟨rfl, h3⟩ := nl_some h2
  exact (E_laws_toPack a aa ta k).trans h3)

/-! ### 61 loop.example/g00462/laws.toPackS -/
noncomputable def c_laws_toPackS : Code := (Try.f61.body).getD .skip
noncomputable def g_laws_toPackS : Env Unit := ⟨tys, [(30, s_laws_toPack)]⟩
noncomputable def laws_toPackS_l0_r (a : List (List Int)) (out : List (List Int)) (i : Int) (rec : (List (List Int)) → Int → Res) (k0 : (List (List Int)) → Res) : Res :=
  bif decide (i < (nI (List.length a))) then
    bif inb i (List.length a) then
      laws_toPack (nth [] a i) fun (r : List Int) =>
        bif inb i (List.length out) then
          rec (upd out i r) (wi64 (i + 1))
        else none
    else none
  else
    k0 out
noncomputable def laws_toPackS_l0_s (a : List (List Int)) : ((List (List Int)) × Int) → ((List (List Int)) × Int → Res) → (((List (List Int)) → Res)) → Res := fun v rec q => laws_toPackS_l0_r a v.1 v.2 (fun out i => rec (out, i)) q
noncomputable def laws_toPackS_l0 (a : List (List Int)) (n : Nat) (out : List (List Int)) (i : Int) (k0 : (List (List Int)) → Res) : Res := iter (laws_toPackS_l0_s a) n (out, i) (k0)
noncomputable def xlaws_toPackS_l0 : Node Unit := fun σ k => rdN σ 23 <| rdV σ 0 y1 false [.S] fun a => rdV σ 3 y1 false [.O] fun out => rdV σ 4 (.int .i64) false [] fun i => laws_toPackS_l0 a FUEL out i (fun (out1 : List (List Int)) => k (.exit 0) (mkS 23 23 [(3, .val ⟨y1, false, out1, [.O]⟩)] []))
theorem elaws_toPackS_l0 (a : List (List Int)) (n : Nat) (v : (List (List Int)) × Int) (k : Kont Unit) : loopC (codeC g_laws_toPackS [] .o (Code.pl (Code.pl (Code.pr (Code.pl (Code.pr (Code.pr c_laws_toPackS))))))) (fun σ => σ.forget [0, 3, 4] []) (cutC ([], []) [(0, [3], [])] ([], [])) n (mkS 23 23 [(0, .val ⟨y1, false, a, [.S]⟩), (3, .val ⟨y1, false, v.1, [.O]⟩), (4, .val ⟨(.int .i64), false, v.2, []⟩)] []) k = iter (laws_toPackS_l0_s a) n v ((fun (k : Kont Unit) => (((fun (out1 : List (List Int)) => k (.exit 0) (mkS 23 23 [(3, .val ⟨y1, false, out1, [.O]⟩)] []))) : ((List (List Int)) → Res))) k) := loop_eq (fun v : (List (List Int)) × Int => (mkS 23 23 [(0, .val ⟨y1, false, a, [.S]⟩), (3, .val ⟨y1, false, v.1, [.O]⟩), (4, .val ⟨(.int .i64), false, v.2, []⟩)] [])) (laws_toPackS_l0_s a) (fun (k : Kont Unit) => (((fun (out1 : List (List Int)) => k (.exit 0) (mkS 23 23 [(3, .val ⟨y1, false, out1, [.O]⟩)] []))) : ((List (List Int)) → Res))) (fun v rec k => by kernel_rfl) n v k
theorem olaws_toPackS_l0 {W0 : Base} {M : Nat → Prop} : CodeOk Try.prog W0 M (Code.loop (Code.pl (Code.pl (Code.pr (Code.pl (Code.pr (Code.pr c_laws_toPackS))))))) xlaws_toPackS_l0 := loop_ok (code_sound follows tysOk (calls_ok (fns_cons S_laws_toPack fns_nil)) [] _ .o trivial) (ks := [0, 3, 4]) (bs := []) (fX := (cutC ([], []) [(0, [3], [])] ([], []))) (cutC_le _ _ _) FUEL (by
  intro σ k r h
  obtain ⟨hn, h1⟩ := rdN_some h
  obtain ⟨a, hs0, h2⟩ := rdV_some h1
  obtain ⟨out, hs3, h3⟩ := rdV_some h2
  obtain ⟨i, hs4, h4⟩ := rdV_some h3
  refine ⟨_, ?_, (elaws_toPackS_l0 a FUEL (out, i) k).trans h4⟩
  exact mkS_le hn ⟨hs0, hs3, hs4, trivial⟩ trivial)
noncomputable def laws_toPackS (a : List (List Int)) (k0 : (List (List Int)) → Res) : Res :=
  bif mkOk (nI (List.length a)) (nI (List.length a)) then
    laws_toPackS_l0 a FUEL (repl (nI (List.length a)) []) 0 fun (out : List (List Int)) =>
      k0 out
  else none
noncomputable def s_laws_toPackS : Sig Unit := ⟨[.borrow y1 false], [false], fun vals ext k => av vals y1 fun a vals => nl vals <| nl ext <| laws_toPackS a (fun (r0 : List (List Int)) => k [⟨y1, false, r0, [.O]⟩] [] [])⟩
theorem E_laws_toPackS (a : List (List Int)) (aa : Bool) (ta : List Tag) (k : List TVal → List TVal → List TVal → Res) : funC g_laws_toPackS [xlaws_toPackS_l0] (.t .o (.t .o (.t (.t .o (.t (.x 0) .o)) .o))) false Try.f61 [.borrow y1 false] [false] [⟨y1, aa, a, ta⟩] [] k = laws_toPackS a (fun (r0 : List (List Int)) => k [⟨y1, false, r0, [.O]⟩] [] []) := by kernel_rfl
theorem S_laws_toPackS : Sound Try.prog 61 s_laws_toPackS := sound_of (Γ := g_laws_toPackS) (X := [xlaws_toPackS_l0]) (ht := (.t .o (.t .o (.t (.t .o (.t (.x 0) .o)) .o)))) (fz := false) (c := c_laws_toPackS) follows tysOk (fns_cons S_laws_toPack fns_nil) (OrOk.mk trivial ((OrOk.mk trivial ((OrOk.mk ((OrOk.mk trivial ((OrOk.mk (OrOk.x_mk (fun W0 M => olaws_toPackS_l0 (W0 := W0) (M := M))) trivial)))) trivial))))) Try.func61 (by kernel_rfl) (by kernel_rfl) (by decide) (by
  intro vals ext k r h
  obtain ⟨a, aa, ta, vals, rfl, h1⟩ := av_some h
  obtain ⟨rfl, h2⟩ := nl_some h1
  obtain ⟨rfl, h3⟩ := nl_some h2
  exact (E_laws_toPackS a aa ta k).trans h3)

/-! ### 16 loop.example/g00462/laws.toNet -/
noncomputable def c_laws_toNet : Code := (Try.f16.body).getD .skip
noncomputable def g_laws_toNet : Env Unit := ⟨tys, [(61, s_laws_toPackS)]⟩
noncomputable def laws_toNet (a : List (List Int)) (k0 : (List (List Int)) → Res) : Res :=
  laws_toPackS a fun (r : List (List Int)) =>
    k0 r
noncomputable def s_laws_toNet : Sig Unit := ⟨[.borrow y1 true], [true], fun vals ext k => av vals y1 fun a vals => nl vals <| nl ext <| laws_toNet a (fun (r0 : List (List Int)) => k [⟨y1, true, r0, [.O]⟩] [] [])⟩
theorem E_laws_toNet (a : List (List Int)) (aa : Bool) (ta : List Tag) (k : List TVal → List TVal → List TVal → Res) : funC g_laws_toNet [] .o false Try.f16 [.borrow y1 true] [true] [⟨y1, aa, a, ta⟩] [] k = laws_toNet a (fun (r0 : List (List Int)) => k [⟨y1, true, r0, [.O]⟩] [] []) := by kernel_rfl
theorem S_laws_toNet : Sound Try.prog 16 s_laws_toNet := sound_of (Γ := g_laws_toNet) (X := []) (ht := .o) (fz := false) (c := c_laws_toNet) follows tysOk (fns_cons S_laws_toPackS fns_nil) trivial Try.func16 (by kernel_rfl) (by kernel_rfl) (by decide) (by
  intro vals ext k r h
  obtain ⟨a, aa, ta, vals, rfl, h1⟩ := av_some h
  obtain ⟨rfl, h2⟩ := nl_some h1
  obtain ⟨rfl, h3⟩ := nl_some h2
  exact (E_laws_toNet a aa ta k).trans h3)

/-! ### 15 loop.example/g00462/spec.NetOk -/
noncomputable def c_spec_NetOk : Code := (Try.f15.body).getD .skip
noncomputable def g_spec_NetOk : Env Unit := ⟨tys, []⟩
noncomputable def spec_NetOk (n : List (List Int)) (k0 : Bool → Res) : Res :=
  k0 (decide ((nI (List.length n)) ≤ 30))
noncomputable def s_spec_NetOk : Sig Unit := ⟨[.borrow y1 true], [false], fun vals ext k => av vals y1 fun n vals => nl vals <| nl ext <| spec_NetOk n (fun (r0 : Bool) => k [⟨.bool, false, r0, []⟩] [] [])⟩
theorem E_spec_NetOk (n : List (List Int)) (an : Bool) (tn : List Tag) (k : List TVal → List TVal → List TVal → Res) : funC g_spec_NetOk [] .o false Try.f15 [.borrow y1 true] [false] [⟨y1, an, n, tn⟩] [] k = spec_NetOk n (fun (r0 : Bool) => k [⟨.bool, false, r0, []⟩] [] []) := by kernel_rfl
theorem S_spec_NetOk : Sound Try.prog 15 s_spec_NetOk := sound_of (Γ := g_spec_NetOk) (X := []) (ht := .o) (fz := false) (c := c_spec_NetOk) follows tysOk fns_nil trivial Try.func15 (by kernel_rfl) (by kernel_rfl) (by decide) (by
  intro vals ext k r h
  obtain ⟨n, an, tn, vals, rfl, h1⟩ := av_some h
  obtain ⟨rfl, h2⟩ := nl_some h1
  obtain ⟨rfl, h3⟩ := nl_some h2
  exact (E_spec_NetOk n an tn k).trans h3)

/-! ### 17 loop.example/g00462/impl.NetOk -/
noncomputable def c_impl_NetOk : Code := (Try.f17.body).getD .skip
noncomputable def g_impl_NetOk : Env Unit := ⟨tys, []⟩
noncomputable def impl_NetOk (n : List (List Int)) (k0 : Bool → Res) : Res :=
  k0 (decide ((nI (List.length n)) ≤ 30))
noncomputable def s_impl_NetOk : Sig Unit := ⟨[.borrow y1 true], [false], fun vals ext k => av vals y1 fun n vals => nl vals <| nl ext <| impl_NetOk n (fun (r0 : Bool) => k [⟨.bool, false, r0, []⟩] [] [])⟩
theorem E_impl_NetOk (n : List (List Int)) (an : Bool) (tn : List Tag) (k : List TVal → List TVal → List TVal → Res) : funC g_impl_NetOk [] .o false Try.f17 [.borrow y1 true] [false] [⟨y1, an, n, tn⟩] [] k = impl_NetOk n (fun (r0 : Bool) => k [⟨.bool, false, r0, []⟩] [] []) := by kernel_rfl
theorem S_impl_NetOk : Sound Try.prog 17 s_impl_NetOk := sound_of (Γ := g_impl_NetOk) (X := []) (ht := .o) (fz := false) (c := c_impl_NetOk) follows tysOk fns_nil trivial Try.func17 (by kernel_rfl) (by kernel_rfl) (by decide) (by
  intro vals ext k r h
  obtain ⟨n, an, tn, vals, rfl, h1⟩ := av_some h
  obtain ⟨rfl, h2⟩ := nl_some h1
  obtain ⟨rfl, h3⟩ := nl_some h2
  exact (E_impl_NetOk n an tn k).trans h3)

/-! ### 56 loop.example/g00462/laws.eqByteS -/
noncomputable def c_laws_eqByteS : Code := (Try.f56.body).getD .skip
noncomputable def g_laws_eqByteS : Env Unit := ⟨tys, []⟩
noncomputable def laws_eqByteS_l0_r (a : List Int) (b : List Int) (i : Int) (rec : Int → Res) (k0 : Unit → Res) (k1 : Unit → Res) : Res :=
  bif decide (i < (nI (List.length a))) then
    bif inb i (List.length a) then
      bif inb i (List.length b) then
        bif ((nth 0 a i) != (nth 0 b i)) then
          k1 ()
        else
          rec (wi64 (i + 1))
      else none
    else none
  else
    k0 ()
noncomputable def laws_eqByteS_l0_s (a : List Int) (b : List Int) : Int → (Int → Res) → ((Unit → Res) × (Unit → Res)) → Res := fun v rec q => laws_eqByteS_l0_r a b v (fun i => rec (i)) q.1 q.2
noncomputable def laws_eqByteS_l0 (a : List Int) (b : List Int) (n : Nat) (i : Int) (k0 : Unit → Res) (k1 : Unit → Res) : Res := iter (laws_eqByteS_l0_s a b) n (i) (k0, k1)
noncomputable def xlaws_eqByteS_l0 : Node Unit := fun σ k => rdN σ 26 <| rdV σ 0 y0 false [.S] fun a => rdV σ 1 y0 false [.S] fun b => rdV σ 5 (.int .i64) false [] fun i => laws_eqByteS_l0 a b FUEL i (fun (_ : Unit) => k (.exit 0) (mkS 26 26 [] [])) (fun (_ : Unit) => k .ret (mkS 26 26 [(4, .val ⟨.bool, false, false, []⟩)] []))
theorem elaws_eqByteS_l0 (a : List Int) (b : List Int) (n : Nat) (v : Int) (k : Kont Unit) : loopC (codeC g_laws_eqByteS [] .o (Code.pl (Code.pl (Code.pr (Code.pl (Code.pr (Code.pr c_laws_eqByteS))))))) (fun σ => σ.forget [0, 1, 5] []) (cutC ([], []) [(0, [], [])] ([4], [])) n (mkS 26 26 [(0, .val ⟨y0, false, a, [.S]⟩), (1, .val ⟨y0, false, b, [.S]⟩), (5, .val ⟨(.int .i64), false, v, []⟩)] []) k = iter (laws_eqByteS_l0_s a b) n v ((fun (k : Kont Unit) => (((fun (_ : Unit) => k (.exit 0) (mkS 26 26 [] [])), (fun (_ : Unit) => k .ret (mkS 26 26 [(4, .val ⟨.bool, false, false, []⟩)] []))) : (Unit → Res) × (Unit → Res))) k) := loop_eq (fun v : Int => (mkS 26 26 [(0, .val ⟨y0, false, a, [.S]⟩), (1, .val ⟨y0, false, b, [.S]⟩), (5, .val ⟨(.int .i64), false, v, []⟩)] [])) (laws_eqByteS_l0_s a b) (fun (k : Kont Unit) => (((fun (_ : Unit) => k (.exit 0) (mkS 26 26 [] [])), (fun (_ : Unit) => k .ret (mkS 26 26 [(4, .val ⟨.bool, false, false, []⟩)] []))) : (Unit → Res) × (Unit → Res))) (fun v rec k => by kernel_rfl) n v k
theorem olaws_eqByteS_l0 {W0 : Base} {M : Nat → Prop} : CodeOk Try.prog W0 M (Code.loop (Code.pl (Code.pl (Code.pr (Code.pl (Code.pr (Code.pr c_laws_eqByteS))))))) xlaws_eqByteS_l0 := loop_ok (code_sound follows tysOk (calls_ok fns_nil) [] _ .o trivial) (ks := [0, 1, 5]) (bs := []) (fX := (cutC ([], []) [(0, [], [])] ([4], []))) (cutC_le _ _ _) FUEL (by
  intro σ k r h
  obtain ⟨hn, h1⟩ := rdN_some h
  obtain ⟨a, hs0, h2⟩ := rdV_some h1
  obtain ⟨b, hs1, h3⟩ := rdV_some h2
  obtain ⟨i, hs5, h4⟩ := rdV_some h3
  refine ⟨_, ?_, (elaws_eqByteS_l0 a b FUEL (i) k).trans h4⟩
  exact mkS_le hn ⟨hs0, hs1, hs5, trivial⟩ trivial)
noncomputable def laws_eqByteS (a : List Int) (b : List Int) (k0 : Bool → Res) : Res :=
  bif ((nI (List.length a)) != (nI (List.length b))) then
    k0 false
  else
    laws_eqByteS_l0 a b FUEL 0
      (fun (_ : Unit) =>
        k0 true)
      (fun (_ : Unit) =>
        k0 false)
noncomputable def s_laws_eqByteS : Sig Unit := ⟨[.borrow y0 false, .borrow y0 false], [false], fun vals ext k => av vals y0 fun a vals => av vals y0 fun b vals => nl vals <| nl ext <| laws_eqByteS a b (fun (r0 : Bool) => k [⟨.bool, false, r0, []⟩] [] [])⟩
theorem E_laws_eqByteS (a : List Int) (aa : Bool) (ta : List Tag) (b : List Int) (ab : Bool) (tb : List Tag) (k : List TVal → List TVal → List TVal → Res) : funC g_laws_eqByteS [xlaws_eqByteS_l0] (.t .o (.t .o (.t (.t .o (.t (.x 0) .o)) .o))) false Try.f56 [.borrow y0 false, .borrow y0 false] [false] [⟨y0, aa, a, ta⟩, ⟨y0, ab, b, tb⟩] [] k = laws_eqByteS a b (fun (r0 : Bool) => k [⟨.bool, false, r0, []⟩] [] []) := by kernel_rfl
theorem S_laws_eqByteS : Sound Try.prog 56 s_laws_eqByteS := sound_of (Γ := g_laws_eqByteS) (X := [xlaws_eqByteS_l0]) (ht := (.t .o (.t .o (.t (.t .o (.t (.x 0) .o)) .o)))) (fz := false) (c := c_laws_eqByteS) follows tysOk fns_nil (OrOk.mk trivial ((OrOk.mk trivial ((OrOk.mk ((OrOk.mk trivial ((OrOk.mk (OrOk.x_mk (fun W0 M => olaws_eqByteS_l0 (W0 := W0) (M := M))) trivial)))) trivial))))) Try.func56 (by kernel_rfl) (by kernel_rfl) (by decide) (by
  intro vals ext k r h
  obtain ⟨a, aa, ta, vals, rfl, h1⟩ := av_some h
  obtain ⟨b, ab, tb, vals, rfl, h2⟩ := av_some h1
  obtain ⟨rfl, h3⟩ := nl_some h2
  obtain ⟨rfl, h4⟩ := nl_some h3
  exact (E_laws_eqByteS a aa ta b ab tb k).trans h4)

/-! ### 32 loop.example/g00462/laws.eqPack -/
noncomputable def c_laws_eqPack : Code := (Try.f32.body).getD .skip
noncomputable def g_laws_eqPack : Env Unit := ⟨tys, [(56, s_laws_eqByteS)]⟩
noncomputable def laws_eqPack (a : List Int) (b : List Int) (k0 : Bool → Res) : Res :=
  laws_eqByteS a b fun (r : Bool) =>
    bif !r then
      k0 false
    else
      k0 true
noncomputable def s_laws_eqPack : Sig Unit := ⟨[.borrow y0 true, .borrow y0 true], [false], fun vals ext k => av vals y0 fun a vals => av vals y0 fun b vals => nl vals <| nl ext <| laws_eqPack a b (fun (r0 : Bool) => k [⟨.bool, false, r0, []⟩] [] [])⟩
theorem E_laws_eqPack (a : List Int) (aa : Bool) (ta : List Tag) (b : List Int) (ab : Bool) (tb : List Tag) (k : List TVal → List TVal → List TVal → Res) : funC g_laws_eqPack [] .o false Try.f32 [.borrow y0 true, .borrow y0 true] [false] [⟨y0, aa, a, ta⟩, ⟨y0, ab, b, tb⟩] [] k = laws_eqPack a b (fun (r0 : Bool) => k [⟨.bool, false, r0, []⟩] [] []) := by kernel_rfl
theorem S_laws_eqPack : Sound Try.prog 32 s_laws_eqPack := sound_of (Γ := g_laws_eqPack) (X := []) (ht := .o) (fz := false) (c := c_laws_eqPack) follows tysOk (fns_cons S_laws_eqByteS fns_nil) trivial Try.func32 (by kernel_rfl) (by kernel_rfl) (by decide) (by
  intro vals ext k r h
  obtain ⟨a, aa, ta, vals, rfl, h1⟩ := av_some h
  obtain ⟨b, ab, tb, vals, rfl, h2⟩ := av_some h1
  obtain ⟨rfl, h3⟩ := nl_some h2
  obtain ⟨rfl, h4⟩ := nl_some h3
  exact (E_laws_eqPack a aa ta b ab tb k).trans h4)

/-! ### 62 loop.example/g00462/laws.eqPackS -/
noncomputable def c_laws_eqPackS : Code := (Try.f62.body).getD .skip
noncomputable def g_laws_eqPackS : Env Unit := ⟨tys, [(32, s_laws_eqPack)]⟩
noncomputable def laws_eqPackS_l0_r (a : List (List Int)) (b : List (List Int)) (i : Int) (rec : Int → Res) (k0 : Unit → Res) (k1 : Unit → Res) : Res :=
  bif decide (i < (nI (List.length a))) then
    bif inb i (List.length a) then
      bif inb i (List.length b) then
        laws_eqPack (nth [] a i) (nth [] b i) fun (r : Bool) =>
          bif !r then
            k1 ()
          else
            rec (wi64 (i + 1))
      else none
    else none
  else
    k0 ()
noncomputable def laws_eqPackS_l0_s (a : List (List Int)) (b : List (List Int)) : Int → (Int → Res) → ((Unit → Res) × (Unit → Res)) → Res := fun v rec q => laws_eqPackS_l0_r a b v (fun i => rec (i)) q.1 q.2
noncomputable def laws_eqPackS_l0 (a : List (List Int)) (b : List (List Int)) (n : Nat) (i : Int) (k0 : Unit → Res) (k1 : Unit → Res) : Res := iter (laws_eqPackS_l0_s a b) n (i) (k0, k1)
noncomputable def xlaws_eqPackS_l0 : Node Unit := fun σ k => rdN σ 27 <| rdV σ 0 y1 false [.S] fun a => rdV σ 1 y1 false [.S] fun b => rdV σ 5 (.int .i64) false [] fun i => laws_eqPackS_l0 a b FUEL i (fun (_ : Unit) => k (.exit 0) (mkS 27 27 [] [])) (fun (_ : Unit) => k .ret (mkS 27 27 [(4, .val ⟨.bool, false, false, []⟩)] []))
theorem elaws_eqPackS_l0 (a : List (List Int)) (b : List (List Int)) (n : Nat) (v : Int) (k : Kont Unit) : loopC (codeC g_laws_eqPackS [] .o (Code.pl (Code.pl (Code.pr (Code.pl (Code.pr (Code.pr c_laws_eqPackS))))))) (fun σ => σ.forget [0, 1, 5] []) (cutC ([], []) [(0, [], [])] ([4], [])) n (mkS 27 27 [(0, .val ⟨y1, false, a, [.S]⟩), (1, .val ⟨y1, false, b, [.S]⟩), (5, .val ⟨(.int .i64), false, v, []⟩)] []) k = iter (laws_eqPackS_l0_s a b) n v ((fun (k : Kont Unit) => (((fun (_ : Unit) => k (.exit 0) (mkS 27 27 [] [])), (fun (_ : Unit) => k .ret (mkS 27 27 [(4, .val ⟨.bool, false, false, []⟩)] []))) : (Unit → Res) × (Unit → Res))) k) := loop_eq (fun v : Int => (mkS 27 27 [(0, .val ⟨y1, false, a, [.S]⟩), (1, .val ⟨y1, false, b, [.S]⟩), (5, .val ⟨(.int .i64), false, v, []⟩)] [])) (laws_eqPackS_l0_s a b) (fun (k : Kont Unit) => (((fun (_ : Unit) => k (.exit 0) (mkS 27 27 [] [])), (fun (_ : Unit) => k .ret (mkS 27 27 [(4, .val ⟨.bool, false, false, []⟩)] []))) : (Unit → Res) × (Unit → Res))) (fun v rec k => by kernel_rfl) n v k
theorem olaws_eqPackS_l0 {W0 : Base} {M : Nat → Prop} : CodeOk Try.prog W0 M (Code.loop (Code.pl (Code.pl (Code.pr (Code.pl (Code.pr (Code.pr c_laws_eqPackS))))))) xlaws_eqPackS_l0 := loop_ok (code_sound follows tysOk (calls_ok (fns_cons S_laws_eqPack fns_nil)) [] _ .o trivial) (ks := [0, 1, 5]) (bs := []) (fX := (cutC ([], []) [(0, [], [])] ([4], []))) (cutC_le _ _ _) FUEL (by
  intro σ k r h
  obtain ⟨hn, h1⟩ := rdN_some h
  obtain ⟨a, hs0, h2⟩ := rdV_some h1
  obtain ⟨b, hs1, h3⟩ := rdV_some h2
  obtain ⟨i, hs5, h4⟩ := rdV_some h3
  refine ⟨_, ?_, (elaws_eqPackS_l0 a b FUEL (i) k).trans h4⟩
  exact mkS_le hn ⟨hs0, hs1, hs5, trivial⟩ trivial)
noncomputable def laws_eqPackS (a : List (List Int)) (b : List (List Int)) (k0 : Bool → Res) : Res :=
  bif ((nI (List.length a)) != (nI (List.length b))) then
    k0 false
  else
    laws_eqPackS_l0 a b FUEL 0
      (fun (_ : Unit) =>
        k0 true)
      (fun (_ : Unit) =>
        k0 false)
noncomputable def s_laws_eqPackS : Sig Unit := ⟨[.borrow y1 false, .borrow y1 false], [false], fun vals ext k => av vals y1 fun a vals => av vals y1 fun b vals => nl vals <| nl ext <| laws_eqPackS a b (fun (r0 : Bool) => k [⟨.bool, false, r0, []⟩] [] [])⟩
theorem E_laws_eqPackS (a : List (List Int)) (aa : Bool) (ta : List Tag) (b : List (List Int)) (ab : Bool) (tb : List Tag) (k : List TVal → List TVal → List TVal → Res) : funC g_laws_eqPackS [xlaws_eqPackS_l0] (.t .o (.t .o (.t (.t .o (.t (.x 0) .o)) .o))) false Try.f62 [.borrow y1 false, .borrow y1 false] [false] [⟨y1, aa, a, ta⟩, ⟨y1, ab, b, tb⟩] [] k = laws_eqPackS a b (fun (r0 : Bool) => k [⟨.bool, false, r0, []⟩] [] []) := by kernel_rfl
theorem S_laws_eqPackS : Sound Try.prog 62 s_laws_eqPackS := sound_of (Γ := g_laws_eqPackS) (X := [xlaws_eqPackS_l0]) (ht := (.t .o (.t .o (.t (.t .o (.t (.x 0) .o)) .o)))) (fz := false) (c := c_laws_eqPackS) follows tysOk (fns_cons S_laws_eqPack fns_nil) (OrOk.mk trivial ((OrOk.mk trivial ((OrOk.mk ((OrOk.mk trivial ((OrOk.mk (OrOk.x_mk (fun W0 M => olaws_eqPackS_l0 (W0 := W0) (M := M))) trivial)))) trivial))))) Try.func62 (by kernel_rfl) (by kernel_rfl) (by decide) (by
  intro vals ext k r h
  obtain ⟨a, aa, ta, vals, rfl, h1⟩ := av_some h
  obtain ⟨b, ab, tb, vals, rfl, h2⟩ := av_some h1
  obtain ⟨rfl, h3⟩ := nl_some h2
  obtain ⟨rfl, h4⟩ := nl_some h3
  exact (E_laws_eqPackS a aa ta b ab tb k).trans h4)

/-! ### 18 loop.example/g00462/laws.eqNet -/
noncomputable def c_laws_eqNet : Code := (Try.f18.body).getD .skip
noncomputable def g_laws_eqNet : Env Unit := ⟨tys, [(62, s_laws_eqPackS)]⟩
noncomputable def laws_eqNet (a : List (List Int)) (b : List (List Int)) (k0 : Bool → Res) : Res :=
  laws_eqPackS a b fun (r : Bool) =>
    bif !r then
      k0 false
    else
      k0 true
noncomputable def s_laws_eqNet : Sig Unit := ⟨[.borrow y1 true, .borrow y1 true], [false], fun vals ext k => av vals y1 fun a vals => av vals y1 fun b vals => nl vals <| nl ext <| laws_eqNet a b (fun (r0 : Bool) => k [⟨.bool, false, r0, []⟩] [] [])⟩
theorem E_laws_eqNet (a : List (List Int)) (aa : Bool) (ta : List Tag) (b : List (List Int)) (ab : Bool) (tb : List Tag) (k : List TVal → List TVal → List TVal → Res) : funC g_laws_eqNet [] .o false Try.f18 [.borrow y1 true, .borrow y1 true] [false] [⟨y1, aa, a, ta⟩, ⟨y1, ab, b, tb⟩] [] k = laws_eqNet a b (fun (r0 : Bool) => k [⟨.bool, false, r0, []⟩] [] []) := by kernel_rfl
theorem S_laws_eqNet : Sound Try.prog 18 s_laws_eqNet := sound_of (Γ := g_laws_eqNet) (X := []) (ht := .o) (fz := false) (c := c_laws_eqNet) follows tysOk (fns_cons S_laws_eqPackS fns_nil) trivial Try.func18 (by kernel_rfl) (by kernel_rfl) (by decide) (by
  intro vals ext k r h
  obtain ⟨a, aa, ta, vals, rfl, h1⟩ := av_some h
  obtain ⟨b, ab, tb, vals, rfl, h2⟩ := av_some h1
  obtain ⟨rfl, h3⟩ := nl_some h2
  obtain ⟨rfl, h4⟩ := nl_some h3
  exact (E_laws_eqNet a aa ta b ab tb k).trans h4)

/-! ### 3 loop.example/g00462/laws.FnExactNetOk -/
noncomputable def c_laws_FnExactNetOk : Code := (Try.f3.body).getD .skip
noncomputable def g_laws_FnExactNetOk : Env Unit := ⟨tys, [(14, s_laws_szNet), (15, s_spec_NetOk), (16, s_laws_toNet), (17, s_impl_NetOk), (18, s_laws_eqNet)]⟩
noncomputable def laws_FnExactNetOk (aN : List (List Int)) (k0 : Bool → Res) : Res :=
  laws_szNet aN 1048576 fun (r : Int) =>
    bif decide (r < 0) then
      k0 true
    else
      laws_toNet aN fun (r1 : List (List Int)) =>
        spec_NetOk r1 fun (r2 : Bool) =>
          laws_toNet aN fun (r3 : List (List Int)) =>
            impl_NetOk r3 fun (r4 : Bool) =>
              bif !(r4 == r2) then
                k0 false
              else
                laws_toNet aN fun (r5 : List (List Int)) =>
                  laws_eqNet r3 r5 fun (r6 : Bool) =>
                    bif !r6 then
                      k0 false
                    else
                      k0 true
noncomputable def s_laws_FnExactNetOk : Sig Unit := ⟨[.borrow y1 true], [false], fun vals ext k => av vals y1 fun aN vals => nl vals <| nl ext <| laws_FnExactNetOk aN (fun (r0 : Bool) => k [⟨.bool, false, r0, []⟩] [] [])⟩
theorem E_laws_FnExactNetOk (aN : List (List Int)) (aaN : Bool) (taN : List Tag) (k : List TVal → List TVal → List TVal → Res) : funC g_laws_FnExactNetOk [] .o false Try.f3 [.borrow y1 true] [false] [⟨y1, aaN, aN, taN⟩] [] k = laws_FnExactNetOk aN (fun (r0 : Bool) => k [⟨.bool, false, r0, []⟩] [] []) := by kernel_rfl
theorem S_laws_FnExactNetOk : Sound Try.prog 3 s_laws_FnExactNetOk := sound_of (Γ := g_laws_FnExactNetOk) (X := []) (ht := .o) (fz := false) (c := c_laws_FnExactNetOk) follows tysOk (fns_cons S_laws_szNet (fns_cons S_spec_NetOk (fns_cons S_laws_toNet (fns_cons S_impl_NetOk (fns_cons S_laws_eqNet fns_nil))))) trivial Try.func3 (by kernel_rfl) (by kernel_rfl) (by decide) (by
  intro vals ext k r h
  obtain ⟨aN, aaN, taN, vals, rfl, h1⟩ := av_some h
  obtain ⟨rfl, h2⟩ := nl_some h1
  obtain ⟨rfl, h3⟩ := nl_some h2
  exact (E_laws_FnExactNetOk aN aaN taN k).trans h3)
end Go.PI.L3
