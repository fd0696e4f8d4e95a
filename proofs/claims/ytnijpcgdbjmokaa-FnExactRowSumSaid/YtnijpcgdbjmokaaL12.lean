import Derived.Test.YtnijpcgdbjmokaaProg
import Derived.Test.YtnijpcgdbjmokaaPc
set_option linter.unusedVariables false
set_option maxRecDepth 100000
namespace Go.PI.L12
open Go Go.PI Go.Proofs
abbrev y0 : Ty := .slice .str
abbrev y1 : Ty := .slice (.int .u8)
abbrev y2 : Ty := .pair (.int .i64) .str
abbrev y3 : Ty := .pair (.int .i64) y2
abbrev y4 : Ty := .slice y3
def z_true : ByteArray := ⟨#[116, 114, 117, 101]⟩
def z_false : ByteArray := ⟨#[102, 97, 108, 115, 101]⟩
def z__ : ByteArray := ⟨#[45]⟩
def z_0123456789abcdef : ByteArray := ⟨#[48, 49, 50, 51, 52, 53, 54, 55, 56, 57, 97, 98, 99, 100, 101, 102]⟩
def z_null : ByteArray := ⟨#[110, 117, 108, 108]⟩
def z___1 : ByteArray := ⟨#[32]⟩
def tys : List (TypeId × Ty × List TypeId) := [(3, (.int .i64), []),
  (4, .bool, []),
  (5, (.int .u8), []),
  (9, .str, []),
  (33, y0, []),
  (45, y1, []),
  (62, y4, []),
  (64, y4, [62]),
  (67, y4, []),
  (69, y4, [67]),
  (114, y3, [3, 3, 9]),
  (120, y3, [3, 3, 9])]
theorem follows : Try.prog.follows .mixedOrders = true := by kernel_rfl
theorem tysOk : TysOk Try.prog tys := tysB_ok (by kernel_rfl)

/-! ### 105 loop.example/g00462/laws.szVal -/
noncomputable def c_laws_szVal : Code := (Try.f105.body).getD .skip
noncomputable def g_laws_szVal : Env Unit := ⟨tys, [], 0⟩
noncomputable def laws_szVal (a : Int × Int × ByteArray) (left : Int) (k0 : Int → Res) : Res :=
  bif decide ((wi64 (left - (nI (ByteArray.size a.2.2)))) < 0) then
    k0 (-1)
  else
    k0 (wi64 (left - (nI (ByteArray.size a.2.2))))
noncomputable def s_laws_szVal : Sig Unit := ⟨[.borrow y3 true, .borrow (.int .i64) false], [false], fun vals ext k => av vals y3 fun a vals => av vals (.int .i64) fun left vals => nl vals <| nl ext <| laws_szVal a left (fun (r0 : Int) => k [⟨(.int .i64), false, r0, []⟩] [] [])⟩
theorem E_laws_szVal (a : Int × Int × ByteArray) (a_a : Bool) (t_a : List Tag) (left : Int) (a_left : Bool) (t_left : List Tag) (k : List TVal → List TVal → List TVal → Res) : funC g_laws_szVal [] .o false Try.f105 [.borrow y3 true, .borrow (.int .i64) false] [false] [⟨y3, a_a, a, t_a⟩, ⟨(.int .i64), a_left, left, t_left⟩] [] k = laws_szVal a left (fun (r0 : Int) => k [⟨(.int .i64), false, r0, []⟩] [] []) := by kernel_rfl
theorem S_laws_szVal : Sound Try.prog 105 s_laws_szVal := sound_of (Γ := g_laws_szVal) (X := []) (ht := .o) (fz := false) (c := c_laws_szVal) follows tysOk fns_nil trivial Try.func105 (by kernel_rfl) (by kernel_rfl) (by decide) (by
  intro vals ext k r h
  obtain ⟨a, a_a, t_a, vals, rfl, h1⟩ := av_some h
  obtain ⟨left, a_left, t_left, vals, rfl, h2⟩ := av_some h1
  obtain ⟨rfl, h3⟩ := nl_some h2
  obtain ⟨rfl, h4⟩ := nl_some h3
  exact (E_laws_szVal a a_a t_a left a_left t_left k).trans h4)

/-! ### 90 loop.example/g00462/laws.szValS -/
noncomputable def c_laws_szValS : Code := (Try.f90.body).getD .skip
noncomputable def g_laws_szValS : Env Unit := ⟨tys, [(105, s_laws_szVal)], 0⟩
noncomputable def laws_szValS_l0_r (a : List (Int × Int × ByteArray)) (left : Int) (i : Int) (rec : Int → Int → Res) (k0 : Int → Res) (k1 : Unit → Res) : Res :=
  bif decide (i < (nI (List.length a))) then
    bif inb i (List.length a) then
      laws_szVal (nth (0, 0, eS) a i) left fun (r : Int) =>
        bif decide (r < 0) then
          k1 ()
        else
          rec r (wi64 (i + 1))
    else none
  else
    k0 left
noncomputable def laws_szValS_l0_s (a : List (Int × Int × ByteArray)) : (Int × Int) → (Int × Int → Res) → ((Int → Res) × (Unit → Res)) → Res := fun v rec q => laws_szValS_l0_r a v.1 v.2 (fun left i => rec (left, i)) q.1 q.2
noncomputable def laws_szValS_l0 (a : List (Int × Int × ByteArray)) (n : Nat) (left : Int) (i : Int) (k0 : Int → Res) (k1 : Unit → Res) : Res := iter (laws_szValS_l0_s a) n (left, i) (k0, k1)
noncomputable def xlaws_szValS_l0 : Node Unit := fun σ k => rdN σ 27 <| rdV σ 0 y4 false [.S] fun a => rdV σ 1 (.int .i64) false [] fun left => rdV σ 5 (.int .i64) false [] fun i => laws_szValS_l0 a FUEL left i (fun (left1 : Int) => k (.exit 0) (mkS 27 27 [(1, .val ⟨(.int .i64), false, left1, []⟩)] [])) (fun (_ : Unit) => k .ret (mkS 27 27 [(4, .val ⟨(.int .i64), false, (-1), []⟩)] []))
theorem elaws_szValS_l0 (a : List (Int × Int × ByteArray)) (n : Nat) (v : Int × Int) (k : Kont Unit) : loopC (codeC g_laws_szValS [] .o (Code.pl (Code.pl (Code.pr (Code.pl (Code.pr (Code.pr (Code.pr c_laws_szValS)))))))) (fun σ => σ.forget [0, 1, 5] []) (cutC ([], []) [(0, [1], [])] ([4], [])) n (mkS 27 27 [(0, .val ⟨y4, false, a, [.S]⟩), (1, .val ⟨(.int .i64), false, v.1, []⟩), (5, .val ⟨(.int .i64), false, v.2, []⟩)] []) k = iter (laws_szValS_l0_s a) n v ((fun (k : Kont Unit) => (((fun (left1 : Int) => k (.exit 0) (mkS 27 27 [(1, .val ⟨(.int .i64), false, left1, []⟩)] [])), (fun (_ : Unit) => k .ret (mkS 27 27 [(4, .val ⟨(.int .i64), false, (-1), []⟩)] []))) : (Int → Res) × (Unit → Res))) k) := loop_eq (fun v : Int × Int => (mkS 27 27 [(0, .val ⟨y4, false, a, [.S]⟩), (1, .val ⟨(.int .i64), false, v.1, []⟩), (5, .val ⟨(.int .i64), false, v.2, []⟩)] [])) (laws_szValS_l0_s a) (fun (k : Kont Unit) => (((fun (left1 : Int) => k (.exit 0) (mkS 27 27 [(1, .val ⟨(.int .i64), false, left1, []⟩)] [])), (fun (_ : Unit) => k .ret (mkS 27 27 [(4, .val ⟨(.int .i64), false, (-1), []⟩)] []))) : (Int → Res) × (Unit → Res))) (fun v rec k => by kernel_rfl) n v k
theorem olaws_szValS_l0 {W0 : Base} {M : Nat → Prop} (hnp : W0.np ≤ 0) : CodeOk Try.prog W0 M (Code.loop (Code.pl (Code.pl (Code.pr (Code.pl (Code.pr (Code.pr (Code.pr c_laws_szValS)))))))) xlaws_szValS_l0 := loop_ok (code_sound follows tysOk (calls_ok (fns_cons S_laws_szVal fns_nil)) hnp [] _ .o trivial) (ks := [0, 1, 5]) (bs := []) (fX := (cutC ([], []) [(0, [1], [])] ([4], []))) (cutC_le _ _ _) FUEL (by
  intro σ k r h
  obtain ⟨hn, h1⟩ := rdN_some h
  obtain ⟨a, hs0, h2⟩ := rdV_some h1
  obtain ⟨left, hs1, h3⟩ := rdV_some h2
  obtain ⟨i, hs5, h4⟩ := rdV_some h3
  refine ⟨_, ?_, (elaws_szValS_l0 a FUEL (left, i) k).trans h4⟩
  exact mkS_le hn ⟨hs0, hs1, hs5, trivial⟩ trivial)
noncomputable def laws_szValS (a : List (Int × Int × ByteArray)) (left : Int) (k0 : Int → Res) : Res :=
  bif decide ((wi64 (left - (nI (List.length a)))) < 0) then
    k0 (-1)
  else
    laws_szValS_l0 a FUEL (wi64 (left - (nI (List.length a)))) 0
      (fun (left1 : Int) =>
        k0 left1)
      (fun (_ : Unit) =>
        k0 (-1))
noncomputable def s_laws_szValS : Sig Unit := ⟨[.borrow y4 false, .borrow (.int .i64) false], [false], fun vals ext k => av vals y4 fun a vals => av vals (.int .i64) fun left vals => nl vals <| nl ext <| laws_szValS a left (fun (r0 : Int) => k [⟨(.int .i64), false, r0, []⟩] [] [])⟩
theorem E_laws_szValS (a : List (Int × Int × ByteArray)) (a_a : Bool) (t_a : List Tag) (left : Int) (a_left : Bool) (t_left : List Tag) (k : List TVal → List TVal → List TVal → Res) : funC g_laws_szValS [xlaws_szValS_l0] (.t .o (.t .o (.t .o (.t (.t .o (.t (.x 0) .o)) .o)))) false Try.f90 [.borrow y4 false, .borrow (.int .i64) false] [false] [⟨y4, a_a, a, t_a⟩, ⟨(.int .i64), a_left, left, t_left⟩] [] k = laws_szValS a left (fun (r0 : Int) => k [⟨(.int .i64), false, r0, []⟩] [] []) := by kernel_rfl
theorem S_laws_szValS : Sound Try.prog 90 s_laws_szValS := sound_of (Γ := g_laws_szValS) (X := [xlaws_szValS_l0]) (ht := (.t .o (.t .o (.t .o (.t (.t .o (.t (.x 0) .o)) .o))))) (fz := false) (c := c_laws_szValS) follows tysOk (fns_cons S_laws_szVal fns_nil) (OrOk.mk trivial ((OrOk.mk trivial ((OrOk.mk trivial ((OrOk.mk ((OrOk.mk trivial ((OrOk.mk (OrOk.x_mk (fun W0 M hnp => olaws_szValS_l0 (W0 := W0) (M := M) hnp)) trivial)))) trivial))))))) Try.func90 (by kernel_rfl) (by kernel_rfl) (by decide) (by
  intro vals ext k r h
  obtain ⟨a, a_a, t_a, vals, rfl, h1⟩ := av_some h
  obtain ⟨left, a_left, t_left, vals, rfl, h2⟩ := av_some h1
  obtain ⟨rfl, h3⟩ := nl_some h2
  obtain ⟨rfl, h4⟩ := nl_some h3
  exact (E_laws_szValS a a_a t_a left a_left t_left k).trans h4)

/-! ### 47 loop.example/g00462/laws.szRow -/
noncomputable def c_laws_szRow : Code := (Try.f47.body).getD .skip
noncomputable def g_laws_szRow : Env Unit := ⟨tys, [(90, s_laws_szValS)], 0⟩
noncomputable def laws_szRow (a : List (Int × Int × ByteArray)) (left : Int) (k0 : Int → Res) : Res :=
  laws_szValS a left fun (r : Int) =>
    bif decide (r < 0) then
      k0 (-1)
    else
      k0 r
noncomputable def s_laws_szRow : Sig Unit := ⟨[.borrow y4 true, .borrow (.int .i64) false], [false], fun vals ext k => av vals y4 fun a vals => av vals (.int .i64) fun left vals => nl vals <| nl ext <| laws_szRow a left (fun (r0 : Int) => k [⟨(.int .i64), false, r0, []⟩] [] [])⟩
theorem E_laws_szRow (a : List (Int × Int × ByteArray)) (a_a : Bool) (t_a : List Tag) (left : Int) (a_left : Bool) (t_left : List Tag) (k : List TVal → List TVal → List TVal → Res) : funC g_laws_szRow [] .o false Try.f47 [.borrow y4 true, .borrow (.int .i64) false] [false] [⟨y4, a_a, a, t_a⟩, ⟨(.int .i64), a_left, left, t_left⟩] [] k = laws_szRow a left (fun (r0 : Int) => k [⟨(.int .i64), false, r0, []⟩] [] []) := by kernel_rfl
theorem S_laws_szRow : Sound Try.prog 47 s_laws_szRow := sound_of (Γ := g_laws_szRow) (X := []) (ht := .o) (fz := false) (c := c_laws_szRow) follows tysOk (fns_cons S_laws_szValS fns_nil) trivial Try.func47 (by kernel_rfl) (by kernel_rfl) (by decide) (by
  intro vals ext k r h
  obtain ⟨a, a_a, t_a, vals, rfl, h1⟩ := av_some h
  obtain ⟨left, a_left, t_left, vals, rfl, h2⟩ := av_some h1
  obtain ⟨rfl, h3⟩ := nl_some h2
  obtain ⟨rfl, h4⟩ := nl_some h3
  exact (E_laws_szRow a a_a t_a left a_left t_left k).trans h4)

/-! ### 109 loop.example/g00462/laws.toVal -/
noncomputable def c_laws_toVal : Code := (Try.f109.body).getD .skip
noncomputable def g_laws_toVal : Env Unit := ⟨tys, [], 0⟩
noncomputable def laws_toVal (a : Int × Int × ByteArray) (k0 : (Int × Int × ByteArray) → Res) : Res :=
  k0 (a.1, a.2.1, a.2.2)
noncomputable def s_laws_toVal : Sig Unit := ⟨[.borrow y3 true], [true], fun vals ext k => av vals y3 fun a vals => nl vals <| nl ext <| laws_toVal a (fun (r0 : Int × Int × ByteArray) => k [⟨y3, true, r0, []⟩] [] [])⟩
theorem E_laws_toVal (a : Int × Int × ByteArray) (a_a : Bool) (t_a : List Tag) (k : List TVal → List TVal → List TVal → Res) : funC g_laws_toVal [] .o false Try.f109 [.borrow y3 true] [true] [⟨y3, a_a, a, t_a⟩] [] k = laws_toVal a (fun (r0 : Int × Int × ByteArray) => k [⟨y3, true, r0, []⟩] [] []) := by kernel_rfl
theorem S_laws_toVal : Sound Try.prog 109 s_laws_toVal := sound_of (Γ := g_laws_toVal) (X := []) (ht := .o) (fz := false) (c := c_laws_toVal) follows tysOk fns_nil trivial Try.func109 (by kernel_rfl) (by kernel_rfl) (by decide) (by
  intro vals ext k r h
  obtain ⟨a, a_a, t_a, vals, rfl, h1⟩ := av_some h
  obtain ⟨rfl, h2⟩ := nl_some h1
  obtain ⟨rfl, h3⟩ := nl_some h2
  exact (E_laws_toVal a a_a t_a k).trans h3)

/-! ### 93 loop.example/g00462/laws.toValS -/
noncomputable def c_laws_toValS : Code := (Try.f93.body).getD .skip
noncomputable def g_laws_toValS : Env Unit := ⟨tys, [(109, s_laws_toVal)], 0⟩
noncomputable def laws_toValS_l0_r (a : List (Int × Int × ByteArray)) (out : List (Int × Int × ByteArray)) (i : Int) (rec : (List (Int × Int × ByteArray)) → Int → Res) (k0 : (List (Int × Int × ByteArray)) → Res) : Res :=
  bif decide (i < (nI (List.length a))) then
    bif inb i (List.length a) then
      laws_toVal (nth (0, 0, eS) a i) fun (r : Int × Int × ByteArray) =>
        bif inb i (List.length out) then
          rec (upd out i r) (wi64 (i + 1))
        else none
    else none
  else
    k0 out
noncomputable def laws_toValS_l0_s (a : List (Int × Int × ByteArray)) : ((List (Int × Int × ByteArray)) × Int) → ((List (Int × Int × ByteArray)) × Int → Res) → (((List (Int × Int × ByteArray)) → Res)) → Res := fun v rec q => laws_toValS_l0_r a v.1 v.2 (fun out i => rec (out, i)) q
noncomputable def laws_toValS_l0 (a : List (Int × Int × ByteArray)) (n : Nat) (out : List (Int × Int × ByteArray)) (i : Int) (k0 : (List (Int × Int × ByteArray)) → Res) : Res := iter (laws_toValS_l0_s a) n (out, i) (k0)
noncomputable def xlaws_toValS_l0 : Node Unit := fun σ k => rdN σ 23 <| rdV σ 0 y4 false [.S] fun a => rdV σ 3 y4 false [.O] fun out => rdV σ 4 (.int .i64) false [] fun i => laws_toValS_l0 a FUEL out i (fun (out1 : List (Int × Int × ByteArray)) => k (.exit 0) (mkS 23 23 [(3, .val ⟨y4, false, out1, [.O]⟩)] []))
theorem elaws_toValS_l0 (a : List (Int × Int × ByteArray)) (n : Nat) (v : (List (Int × Int × ByteArray)) × Int) (k : Kont Unit) : loopC (codeC g_laws_toValS [] .o (Code.pl (Code.pl (Code.pr (Code.pl (Code.pr (Code.pr c_laws_toValS))))))) (fun σ => σ.forget [0, 3, 4] []) (cutC ([], []) [(0, [3], [])] ([], [])) n (mkS 23 23 [(0, .val ⟨y4, false, a, [.S]⟩), (3, .val ⟨y4, false, v.1, [.O]⟩), (4, .val ⟨(.int .i64), false, v.2, []⟩)] []) k = iter (laws_toValS_l0_s a) n v ((fun (k : Kont Unit) => (((fun (out1 : List (Int × Int × ByteArray)) => k (.exit 0) (mkS 23 23 [(3, .val ⟨y4, false, out1, [.O]⟩)] []))) : ((List (Int × Int × ByteArray)) → Res))) k) := loop_eq (fun v : (List (Int × Int × ByteArray)) × Int => (mkS 23 23 [(0, .val ⟨y4, false, a, [.S]⟩), (3, .val ⟨y4, false, v.1, [.O]⟩), (4, .val ⟨(.int .i64), false, v.2, []⟩)] [])) (laws_toValS_l0_s a) (fun (k : Kont Unit) => (((fun (out1 : List (Int × Int × ByteArray)) => k (.exit 0) (mkS 23 23 [(3, .val ⟨y4, false, out1, [.O]⟩)] []))) : ((List (Int × Int × ByteArray)) → Res))) (fun v rec k => by kernel_rfl) n v k
theorem olaws_toValS_l0 {W0 : Base} {M : Nat → Prop} (hnp : W0.np ≤ 0) : CodeOk Try.prog W0 M (Code.loop (Code.pl (Code.pl (Code.pr (Code.pl (Code.pr (Code.pr c_laws_toValS))))))) xlaws_toValS_l0 := loop_ok (code_sound follows tysOk (calls_ok (fns_cons S_laws_toVal fns_nil)) hnp [] _ .o trivial) (ks := [0, 3, 4]) (bs := []) (fX := (cutC ([], []) [(0, [3], [])] ([], []))) (cutC_le _ _ _) FUEL (by
  intro σ k r h
  obtain ⟨hn, h1⟩ := rdN_some h
  obtain ⟨a, hs0, h2⟩ := rdV_some h1
  obtain ⟨out, hs3, h3⟩ := rdV_some h2
  obtain ⟨i, hs4, h4⟩ := rdV_some h3
  refine ⟨_, ?_, (elaws_toValS_l0 a FUEL (out, i) k).trans h4⟩
  exact mkS_le hn ⟨hs0, hs3, hs4, trivial⟩ trivial)
noncomputable def laws_toValS (a : List (Int × Int × ByteArray)) (k0 : (List (Int × Int × ByteArray)) → Res) : Res :=
  bif mkOk (nI (List.length a)) (nI (List.length a)) then
    laws_toValS_l0 a FUEL (repl (nI (List.length a)) (0, 0, eS)) 0 fun (out : List (Int × Int × ByteArray)) =>
      k0 out
  else none
noncomputable def s_laws_toValS : Sig Unit := ⟨[.borrow y4 false], [false], fun vals ext k => av vals y4 fun a vals => nl vals <| nl ext <| laws_toValS a (fun (r0 : List (Int × Int × ByteArray)) => k [⟨y4, false, r0, [.O]⟩] [] [])⟩
theorem E_laws_toValS (a : List (Int × Int × ByteArray)) (a_a : Bool) (t_a : List Tag) (k : List TVal → List TVal → List TVal → Res) : funC g_laws_toValS [xlaws_toValS_l0] (.t .o (.t .o (.t (.t .o (.t (.x 0) .o)) .o))) false Try.f93 [.borrow y4 false] [false] [⟨y4, a_a, a, t_a⟩] [] k = laws_toValS a (fun (r0 : List (Int × Int × ByteArray)) => k [⟨y4, false, r0, [.O]⟩] [] []) := by kernel_rfl
theorem S_laws_toValS : Sound Try.prog 93 s_laws_toValS := sound_of (Γ := g_laws_toValS) (X := [xlaws_toValS_l0]) (ht := (.t .o (.t .o (.t (.t .o (.t (.x 0) .o)) .o)))) (fz := false) (c := c_laws_toValS) follows tysOk (fns_cons S_laws_toVal fns_nil) (OrOk.mk trivial ((OrOk.mk trivial ((OrOk.mk ((OrOk.mk trivial ((OrOk.mk (OrOk.x_mk (fun W0 M hnp => olaws_toValS_l0 (W0 := W0) (M := M) hnp)) trivial)))) trivial))))) Try.func93 (by kernel_rfl) (by kernel_rfl) (by decide) (by
  intro vals ext k r h
  obtain ⟨a, a_a, t_a, vals, rfl, h1⟩ := av_some h
  obtain ⟨rfl, h2⟩ := nl_some h1
  obtain ⟨rfl, h3⟩ := nl_some h2
  exact (E_laws_toValS a a_a t_a k).trans h3)

/-! ### 49 loop.example/g00462/laws.toRow -/
noncomputable def c_laws_toRow : Code := (Try.f49.body).getD .skip
noncomputable def g_laws_toRow : Env Unit := ⟨tys, [(93, s_laws_toValS)], 0⟩
noncomputable def laws_toRow (a : List (Int × Int × ByteArray)) (k0 : (List (Int × Int × ByteArray)) → Res) : Res :=
  laws_toValS a fun (r : List (Int × Int × ByteArray)) =>
    k0 r
noncomputable def s_laws_toRow : Sig Unit := ⟨[.borrow y4 true], [true], fun vals ext k => av vals y4 fun a vals => nl vals <| nl ext <| laws_toRow a (fun (r0 : List (Int × Int × ByteArray)) => k [⟨y4, true, r0, [.O]⟩] [] [])⟩
theorem E_laws_toRow (a : List (Int × Int × ByteArray)) (a_a : Bool) (t_a : List Tag) (k : List TVal → List TVal → List TVal → Res) : funC g_laws_toRow [] .o false Try.f49 [.borrow y4 true] [true] [⟨y4, a_a, a, t_a⟩] [] k = laws_toRow a (fun (r0 : List (Int × Int × ByteArray)) => k [⟨y4, true, r0, [.O]⟩] [] []) := by kernel_rfl
theorem S_laws_toRow : Sound Try.prog 49 s_laws_toRow := sound_of (Γ := g_laws_toRow) (X := []) (ht := .o) (fz := false) (c := c_laws_toRow) follows tysOk (fns_cons S_laws_toValS fns_nil) trivial Try.func49 (by kernel_rfl) (by kernel_rfl) (by decide) (by
  intro vals ext k r h
  obtain ⟨a, a_a, t_a, vals, rfl, h1⟩ := av_some h
  obtain ⟨rfl, h2⟩ := nl_some h1
  obtain ⟨rfl, h3⟩ := nl_some h2
  exact (E_laws_toRow a a_a t_a k).trans h3)

/-! ### 118 loop.example/g00462/spec.l01Num -/
noncomputable def c_spec_l01Num : Code := (Try.f118.body).getD .skip
noncomputable def g_spec_l01Num : Env Unit := ⟨tys, [], 0⟩
noncomputable def spec_l01Num (n_ : Int) (k0 : Bool → Res) : Res :=
  bif decide (n_ ≥ (-1099511627775)) then
    k0 (decide (n_ ≤ 1099511627775))
  else
    k0 false
noncomputable def s_spec_l01Num : Sig Unit := ⟨[.borrow (.int .i64) false], [false], fun vals ext k => av vals (.int .i64) fun n_ vals => nl vals <| nl ext <| spec_l01Num n_ (fun (r0 : Bool) => k [⟨.bool, false, r0, []⟩] [] [])⟩
theorem E_spec_l01Num (n_ : Int) (a_n_ : Bool) (t_n_ : List Tag) (k : List TVal → List TVal → List TVal → Res) : funC g_spec_l01Num [] .o false Try.f118 [.borrow (.int .i64) false] [false] [⟨(.int .i64), a_n_, n_, t_n_⟩] [] k = spec_l01Num n_ (fun (r0 : Bool) => k [⟨.bool, false, r0, []⟩] [] []) := by kernel_rfl
theorem S_spec_l01Num : Sound Try.prog 118 s_spec_l01Num := sound_of (Γ := g_spec_l01Num) (X := []) (ht := .o) (fz := false) (c := c_spec_l01Num) follows tysOk fns_nil trivial Try.func118 (by kernel_rfl) (by kernel_rfl) (by decide) (by
  intro vals ext k r h
  obtain ⟨n_, a_n_, t_n_, vals, rfl, h1⟩ := av_some h
  obtain ⟨rfl, h2⟩ := nl_some h1
  obtain ⟨rfl, h3⟩ := nl_some h2
  exact (E_spec_l01Num n_ a_n_ t_n_ k).trans h3)

/-! ### 106 loop.example/g00462/spec.ValOk -/
noncomputable def c_spec_ValOk : Code := (Try.f106.body).getD .skip
noncomputable def g_spec_ValOk : Env Unit := ⟨tys, [(118, s_spec_l01Num)], 0⟩
noncomputable def spec_ValOk (v_ : Int × Int × ByteArray) (k0 : Bool → Res) : Res :=
  bif (v_.1 == 0) then
    bif (v_.2.1 == 0) then
      k0 (sEq v_.2.2 eS)
    else
      k0 false
  else
    bif (v_.1 == 1) then
      bif (v_.2.1 == 0) then
        k0 (sEq v_.2.2 eS)
      else
        bif (v_.2.1 == 1) then
          k0 (sEq v_.2.2 eS)
        else
          k0 false
    else
      bif (v_.1 == 2) then
        spec_l01Num v_.2.1 fun (r : Bool) =>
          bif r then
            k0 (sEq v_.2.2 eS)
          else
            k0 false
      else
        bif (v_.1 == 3) then
          bif (v_.2.1 == 0) then
            k0 (decide ((nI (ByteArray.size v_.2.2)) ≤ 30))
          else
            k0 false
        else
          k0 false
noncomputable def s_spec_ValOk : Sig Unit := ⟨[.borrow y3 true], [false], fun vals ext k => av vals y3 fun v_ vals => nl vals <| nl ext <| spec_ValOk v_ (fun (r0 : Bool) => k [⟨.bool, false, r0, []⟩] [] [])⟩
theorem E_spec_ValOk (v_ : Int × Int × ByteArray) (a_v_ : Bool) (t_v_ : List Tag) (k : List TVal → List TVal → List TVal → Res) : funC g_spec_ValOk [] .o false Try.f106 [.borrow y3 true] [false] [⟨y3, a_v_, v_, t_v_⟩] [] k = spec_ValOk v_ (fun (r0 : Bool) => k [⟨.bool, false, r0, []⟩] [] []) := by kernel_rfl
theorem S_spec_ValOk : Sound Try.prog 106 s_spec_ValOk := sound_of (Γ := g_spec_ValOk) (X := []) (ht := .o) (fz := false) (c := c_spec_ValOk) follows tysOk (fns_cons S_spec_l01Num fns_nil) trivial Try.func106 (by kernel_rfl) (by kernel_rfl) (by decide) (by
  intro vals ext k r h
  obtain ⟨v_, a_v_, t_v_, vals, rfl, h1⟩ := av_some h
  obtain ⟨rfl, h2⟩ := nl_some h1
  obtain ⟨rfl, h3⟩ := nl_some h2
  exact (E_spec_ValOk v_ a_v_ t_v_ k).trans h3)

/-! ### 129 loop.example/g00462/spec.l01Bool -/
noncomputable def c_spec_l01Bool : Code := (Try.f129.body).getD .skip
noncomputable def g_spec_l01Bool : Env Unit := ⟨tys, [], 0⟩
noncomputable def spec_l01Bool (n_ : Int) (k0 : ByteArray → Res) : Res :=
  bif (n_ == 1) then
    k0 z_true
  else
    k0 z_false
noncomputable def s_spec_l01Bool : Sig Unit := ⟨[.borrow (.int .i64) false], [false], fun vals ext k => av vals (.int .i64) fun n_ vals => nl vals <| nl ext <| spec_l01Bool n_ (fun (r0 : ByteArray) => k [⟨.str, false, r0, []⟩] [] [])⟩
theorem E_spec_l01Bool (n_ : Int) (a_n_ : Bool) (t_n_ : List Tag) (k : List TVal → List TVal → List TVal → Res) : funC g_spec_l01Bool [] .o false Try.f129 [.borrow (.int .i64) false] [false] [⟨(.int .i64), a_n_, n_, t_n_⟩] [] k = spec_l01Bool n_ (fun (r0 : ByteArray) => k [⟨.str, false, r0, []⟩] [] []) := by kernel_rfl
theorem S_spec_l01Bool : Sound Try.prog 129 s_spec_l01Bool := sound_of (Γ := g_spec_l01Bool) (X := []) (ht := .o) (fz := false) (c := c_spec_l01Bool) follows tysOk fns_nil trivial Try.func129 (by kernel_rfl) (by kernel_rfl) (by decide) (by
  intro vals ext k r h
  obtain ⟨n_, a_n_, t_n_, vals, rfl, h1⟩ := av_some h
  obtain ⟨rfl, h2⟩ := nl_some h1
  obtain ⟨rfl, h3⟩ := nl_some h2
  exact (E_spec_l01Bool n_ a_n_ t_n_ k).trans h3)

/-! ### 130 loop.example/g00462/spec.NumText -/
noncomputable def c_spec_NumText : Code := (Try.f130.body).getD .skip
noncomputable def s_spec_NumText (self : Int → (ByteArray → Res) → Res) : Sig Unit := ⟨[.borrow (.int .i64) false], [false], fun vals ext k => av vals (.int .i64) fun n_ vals => nl vals <| nl ext <| self n_ (fun (r0 : ByteArray) => k [⟨.str, false, r0, []⟩] [] [])⟩
noncomputable def g_spec_NumText (self : Int → (ByteArray → Res) → Res) : Env Unit := ⟨tys, [(118, s_spec_l01Num), (130, (s_spec_NumText self))], 0⟩
noncomputable def spec_NumText_b (self : Int → (ByteArray → Res) → Res) (n_ : Int) (k0 : ByteArray → Res) : Res :=
  spec_l01Num n_ fun (r : Bool) =>
    bif !r then
      k0 eS
    else
      bif decide (n_ < 0) then
        self (wi64 (0 - n_)) fun (r1 : ByteArray) =>
          bif lim (1 + (ByteArray.size r1)) then
            k0 (z__ ++ r1)
          else none
      else
        bif decide (n_ < 10) then
          k0 (ofBytes [wu8 (wi64 (48 + n_))])
        else
          both
            (self (wi64 (Int.tdiv n_ 10)) fun (r2 : ByteArray) =>
              bif lim ((ByteArray.size r2) + (ByteArray.size (ofBytes [wu8 (wi64 (48 + (Int.tmod n_ 10)))]))) then
                k0 (r2 ++ (ofBytes [wu8 (wi64 (48 + (Int.tmod n_ 10)))]))
              else none)
            (self (wi64 (Int.tdiv n_ 10)) fun (r3 : ByteArray) =>
              bif lim ((ByteArray.size r3) + (ByteArray.size (ofBytes [wu8 (wi64 (48 + (Int.tmod n_ 10)))]))) then
                k0 (r3 ++ (ofBytes [wu8 (wi64 (48 + (Int.tmod n_ 10)))]))
              else none)
theorem E_spec_NumText (self : Int → (ByteArray → Res) → Res) (n_ : Int) (a_n_ : Bool) (t_n_ : List Tag) (k : List TVal → List TVal → List TVal → Res) : funC (g_spec_NumText self) [] .o false Try.f130 [.borrow (.int .i64) false] [false] [⟨(.int .i64), a_n_, n_, t_n_⟩] [] k = spec_NumText_b self n_ (fun (r0 : ByteArray) => k [⟨.str, false, r0, []⟩] [] []) := by kernel_rfl
theorem SS_spec_NumText (self : Int → (ByteArray → Res) → Res) (hself : Sound Try.prog 130 (s_spec_NumText self)) : Sound Try.prog 130 (s_spec_NumText (spec_NumText_b self)) := sound_of (Γ := (g_spec_NumText self)) (X := []) (ht := .o) (fz := false) (c := c_spec_NumText) follows tysOk (fns_cons S_spec_l01Num (fns_cons hself fns_nil)) trivial Try.func130 (by kernel_rfl) (by kernel_rfl) (by decide) (by
  intro vals ext k r h
  obtain ⟨n_, a_n_, t_n_, vals, rfl, h1⟩ := av_some h
  obtain ⟨rfl, h2⟩ := nl_some h1
  obtain ⟨rfl, h3⟩ := nl_some h2
  exact (E_spec_NumText self n_ a_n_ t_n_ k).trans h3)
noncomputable def spec_NumText : Int → (ByteArray → Res) → Res := recN (fun _ _ => none) spec_NumText_b FUEL
theorem S_spec_NumText : Sound Try.prog 130 (s_spec_NumText spec_NumText) := recN_ind (C := fun t => Sound Try.prog 130 (s_spec_NumText t)) (sound_none (c := c_spec_NumText) Try.func130 (by kernel_rfl) (by kernel_rfl) (by
  intro vals ext k r h
  obtain ⟨n_, a_n_, t_n_, vals, rfl, h1⟩ := av_some h
  obtain ⟨rfl, h2⟩ := nl_some h1
  obtain ⟨rfl, h3⟩ := nl_some h2
  cases h3)) (fun t h => SS_spec_NumText t h) FUEL

/-! ### 131 loop.example/g00462/spec.l01Hex -/
noncomputable def c_spec_l01Hex : Code := (Try.f131.body).getD .skip
noncomputable def g_spec_l01Hex : Env Unit := ⟨tys, [], 0⟩
noncomputable def spec_l01Hex (d : Int) (k0 : Int → Res) : Res :=
  bif inb (Int.tmod d 16) 16 then
    k0 (bt z_0123456789abcdef (Int.tmod d 16))
  else none
noncomputable def s_spec_l01Hex : Sig Unit := ⟨[.borrow (.int .i64) false], [false], fun vals ext k => av vals (.int .i64) fun d vals => nl vals <| nl ext <| spec_l01Hex d (fun (r0 : Int) => k [⟨(.int .u8), false, r0, []⟩] [] [])⟩
theorem E_spec_l01Hex (d : Int) (a_d : Bool) (t_d : List Tag) (k : List TVal → List TVal → List TVal → Res) : funC g_spec_l01Hex [] .o false Try.f131 [.borrow (.int .i64) false] [false] [⟨(.int .i64), a_d, d, t_d⟩] [] k = spec_l01Hex d (fun (r0 : Int) => k [⟨(.int .u8), false, r0, []⟩] [] []) := by kernel_rfl
theorem S_spec_l01Hex : Sound Try.prog 131 s_spec_l01Hex := sound_of (Γ := g_spec_l01Hex) (X := []) (ht := .o) (fz := false) (c := c_spec_l01Hex) follows tysOk fns_nil trivial Try.func131 (by kernel_rfl) (by kernel_rfl) (by decide) (by
  intro vals ext k r h
  obtain ⟨d, a_d, t_d, vals, rfl, h1⟩ := av_some h
  obtain ⟨rfl, h2⟩ := nl_some h1
  obtain ⟨rfl, h3⟩ := nl_some h2
  exact (E_spec_l01Hex d a_d t_d k).trans h3)

/-! ### 119 loop.example/g00462/spec.ValText -/
noncomputable def c_spec_ValText : Code := (Try.f119.body).getD .skip
noncomputable def g_spec_ValText : Env Unit := ⟨tys, [(106, s_spec_ValOk), (129, s_spec_l01Bool), (130, (s_spec_NumText spec_NumText)), (131, s_spec_l01Hex)], 0⟩
noncomputable def spec_ValText_p0 (b : Int) (k0 : Bool → Res) : Res :=
  bif decide (b ≥ 33) then
    bif decide (b ≤ 126) then
      bif (b != 39) then
        k0 (b != 37)
      else
        k0 false
    else
      k0 false
  else
    k0 false
noncomputable def xspec_ValText_p0 : Node Unit := fun σ k => rdN σ 68 <| rdT σ 1 (.ptr ⟨true, 1, []⟩) <| rdV σ 3 y1 false [.O] fun out => rdV σ 4 (.int .i64) false [] fun i => rdV σ 5 (.int .u8) false [] fun b => rdB σ 1 y3 [] fun a v_ => spec_ValText_p0 b (fun (t48 : Bool) => k .normal (mkS 68 68 [(1, .ptr ⟨true, 1, []⟩), (3, .val ⟨y1, false, out, [.O]⟩), (4, .val ⟨(.int .i64), false, i, []⟩), (5, .val ⟨(.int .u8), false, b, []⟩), (48, .val ⟨.bool, false, t48, []⟩)] [(1, ⟨y3, a, v_, []⟩)]))
theorem espec_ValText_p0 (out : List Int) (i : Int) (b : Int) (a : Bool) (v_ : Int × Int × ByteArray) (k : Kont Unit) : codeC g_spec_ValText [] .o (Code.pl (Code.pr (Code.pl (Code.pl (Code.pr (Code.pl (Code.pl (Code.pr (Code.pl (Code.pr (Code.pr (Code.pr (Code.pr c_spec_ValText))))))))))))) (mkS 68 68 [(1, .ptr ⟨true, 1, []⟩), (3, .val ⟨y1, false, out, [.O]⟩), (4, .val ⟨(.int .i64), false, i, []⟩), (5, .val ⟨(.int .u8), false, b, []⟩)] [(1, ⟨y3, a, v_, []⟩)]) (fun e σ => k e ((cutC ([1, 3, 4, 5, 48], [1]) [] ([], [])) e σ)) = spec_ValText_p0 b (fun (t48 : Bool) => k .normal (mkS 68 68 [(1, .ptr ⟨true, 1, []⟩), (3, .val ⟨y1, false, out, [.O]⟩), (4, .val ⟨(.int .i64), false, i, []⟩), (5, .val ⟨(.int .u8), false, b, []⟩), (48, .val ⟨.bool, false, t48, []⟩)] [(1, ⟨y3, a, v_, []⟩)])) := by kernel_rfl
theorem ospec_ValText_p0 {W0 : Base} {M : Nat → Prop} (hnp : W0.np ≤ 0) : CodeOk Try.prog W0 M (Code.pl (Code.pr (Code.pl (Code.pl (Code.pr (Code.pl (Code.pl (Code.pr (Code.pl (Code.pr (Code.pr (Code.pr (Code.pr c_spec_ValText))))))))))))) xspec_ValText_p0 := node_ok (code_sound follows tysOk (calls_ok (fns_cons S_spec_ValOk (fns_cons S_spec_l01Bool (fns_cons S_spec_NumText (fns_cons S_spec_l01Hex fns_nil))))) hnp [] _ .o trivial) (fg := (cutC ([1, 3, 4, 5, 48], [1]) [] ([], []))) (cutC_le _ _ _) (by
  intro σ k r h
  obtain ⟨hn, h1⟩ := rdN_some h
  obtain ⟨hs1, h2⟩ := rdT_some h1
  obtain ⟨out, hs3, h3⟩ := rdV_some h2
  obtain ⟨i, hs4, h4⟩ := rdV_some h3
  obtain ⟨b, hs5, h5⟩ := rdV_some h4
  obtain ⟨a, v_, hb1, h6⟩ := rdB_some h5
  refine ⟨_, ?_, (espec_ValText_p0 out i b a v_ k).trans h6⟩
  exact mkS_le hn ⟨hs1, hs3, hs4, hs5, trivial⟩ ⟨hb1, trivial⟩)
noncomputable def spec_ValText_l1_r (v_ : Int × Int × ByteArray) (out : List Int) (i : Int) (rec : (List Int) → Int → Res) (k0 : (List Int) → Res) : Res :=
  bif decide (i < (nI (ByteArray.size v_.2.2))) then
    bif inb i (ByteArray.size v_.2.2) then
      spec_ValText_p0 (bt v_.2.2 i) fun (t : Bool) =>
        bif t then
          bif lim ((List.length out) + 1) then
            rec (out ++ [bt v_.2.2 i]) (wi64 (i + 1))
          else none
        else
          spec_l01Hex (wi64 (Int.tdiv (wi64 (bt v_.2.2 i)) 16)) fun (r : Int) =>
            spec_l01Hex (Int.tmod (wi64 (bt v_.2.2 i)) 16) fun (r1 : Int) =>
              bif lim ((List.length out) + 3) then
                rec (out ++ [37, r, r1]) (wi64 (i + 1))
              else none
    else none
  else
    k0 out
noncomputable def spec_ValText_l1_s (v_ : Int × Int × ByteArray) : ((List Int) × Int) → ((List Int) × Int → Res) → (((List Int) → Res)) → Res := fun v rec q => spec_ValText_l1_r v_ v.1 v.2 (fun out i => rec (out, i)) q
noncomputable def spec_ValText_l1 (v_ : Int × Int × ByteArray) (n : Nat) (out : List Int) (i : Int) (k0 : (List Int) → Res) : Res := iter (spec_ValText_l1_s v_) n (out, i) (k0)
noncomputable def xspec_ValText_l1 : Node Unit := fun σ k => rdN σ 68 <| rdT σ 1 (.ptr ⟨true, 1, []⟩) <| rdV σ 3 y1 false [.O] fun out => rdV σ 4 (.int .i64) false [] fun i => rdB σ 1 y3 [] fun a v_ => spec_ValText_l1 v_ FUEL out i (fun (out1 : List Int) => k (.exit 1) (mkS 68 68 [(3, .val ⟨y1, false, out1, [.O]⟩)] []))
theorem espec_ValText_l1 (a : Bool) (v_ : Int × Int × ByteArray) (n : Nat) (v : (List Int) × Int) (k : Kont Unit) : loopC (codeC g_spec_ValText [xspec_ValText_p0] (.t .o (.t (.t (.t .o (.t (.x 0) .o)) .o) .o)) (Code.pl (Code.pl (Code.pr (Code.pl (Code.pr (Code.pr (Code.pr (Code.pr c_spec_ValText))))))))) (fun σ => σ.forget [1, 3, 4] [1]) (cutC ([], []) [(1, [3], [])] ([], [])) n (mkS 68 68 [(1, .ptr ⟨true, 1, []⟩), (3, .val ⟨y1, false, v.1, [.O]⟩), (4, .val ⟨(.int .i64), false, v.2, []⟩)] [(1, ⟨y3, a, v_, []⟩)]) k = iter (spec_ValText_l1_s v_) n v ((fun (k : Kont Unit) => (((fun (out1 : List Int) => k (.exit 1) (mkS 68 68 [(3, .val ⟨y1, false, out1, [.O]⟩)] []))) : ((List Int) → Res))) k) := loop_eq (fun v : (List Int) × Int => (mkS 68 68 [(1, .ptr ⟨true, 1, []⟩), (3, .val ⟨y1, false, v.1, [.O]⟩), (4, .val ⟨(.int .i64), false, v.2, []⟩)] [(1, ⟨y3, a, v_, []⟩)])) (spec_ValText_l1_s v_) (fun (k : Kont Unit) => (((fun (out1 : List Int) => k (.exit 1) (mkS 68 68 [(3, .val ⟨y1, false, out1, [.O]⟩)] []))) : ((List Int) → Res))) (fun v rec k => by kernel_rfl) n v k
theorem ospec_ValText_l1 {W0 : Base} {M : Nat → Prop} (hnp : W0.np ≤ 0) : CodeOk Try.prog W0 M (Code.loop (Code.pl (Code.pl (Code.pr (Code.pl (Code.pr (Code.pr (Code.pr (Code.pr c_spec_ValText))))))))) xspec_ValText_l1 := loop_ok (code_sound follows tysOk (calls_ok (fns_cons S_spec_ValOk (fns_cons S_spec_l01Bool (fns_cons S_spec_NumText (fns_cons S_spec_l01Hex fns_nil))))) hnp [xspec_ValText_p0] _ (.t .o (.t (.t (.t .o (.t (.x 0) .o)) .o) .o)) (OrOk.mk trivial ((OrOk.mk ((OrOk.mk ((OrOk.mk trivial ((OrOk.mk (OrOk.x_mk (fun W0 M hnp => ospec_ValText_p0 (W0 := W0) (M := M) hnp)) trivial)))) trivial)) trivial)))) (ks := [1, 3, 4]) (bs := [1]) (fX := (cutC ([], []) [(1, [3], [])] ([], []))) (cutC_le _ _ _) FUEL (by
  intro σ k r h
  obtain ⟨hn, h1⟩ := rdN_some h
  obtain ⟨hs1, h2⟩ := rdT_some h1
  obtain ⟨out, hs3, h3⟩ := rdV_some h2
  obtain ⟨i, hs4, h4⟩ := rdV_some h3
  obtain ⟨a, v_, hb1, h5⟩ := rdB_some h4
  refine ⟨_, ?_, (espec_ValText_l1 a v_ FUEL (out, i) k).trans h5⟩
  exact mkS_le hn ⟨hs1, hs3, hs4, trivial⟩ ⟨hb1, trivial⟩)
noncomputable def spec_ValText (v_ : Int × Int × ByteArray) (k0 : ByteArray → Res) : Res :=
  spec_ValOk v_ fun (r : Bool) =>
    bif !r then
      k0 eS
    else
      bif (v_.1 == 0) then
        k0 z_null
      else
        bif (v_.1 == 1) then
          spec_l01Bool v_.2.1 fun (r1 : ByteArray) =>
            k0 r1
        else
          bif (v_.1 == 2) then
            spec_NumText v_.2.1 fun (r2 : ByteArray) =>
              k0 r2
          else
            spec_ValText_l1 v_ FUEL [39] 0 fun (out : List Int) =>
              bif lim ((List.length out) + 1) then
                k0 (ofBytes (out ++ [39]))
              else none
noncomputable def s_spec_ValText : Sig Unit := ⟨[.borrow y3 true], [false], fun vals ext k => av vals y3 fun v_ vals => nl vals <| nl ext <| spec_ValText v_ (fun (r0 : ByteArray) => k [⟨.str, false, r0, []⟩] [] [])⟩
theorem E_spec_ValText (v_ : Int × Int × ByteArray) (a_v_ : Bool) (t_v_ : List Tag) (k : List TVal → List TVal → List TVal → Res) : funC g_spec_ValText [xspec_ValText_p0, xspec_ValText_l1] (.t .o (.t .o (.t .o (.t .o (.t (.t .o (.t (.x 1) .o)) .o))))) false Try.f119 [.borrow y3 true] [false] [⟨y3, a_v_, v_, t_v_⟩] [] k = spec_ValText v_ (fun (r0 : ByteArray) => k [⟨.str, false, r0, []⟩] [] []) := by kernel_rfl
theorem S_spec_ValText : Sound Try.prog 119 s_spec_ValText := sound_of (Γ := g_spec_ValText) (X := [xspec_ValText_p0, xspec_ValText_l1]) (ht := (.t .o (.t .o (.t .o (.t .o (.t (.t .o (.t (.x 1) .o)) .o)))))) (fz := false) (c := c_spec_ValText) follows tysOk (fns_cons S_spec_ValOk (fns_cons S_spec_l01Bool (fns_cons S_spec_NumText (fns_cons S_spec_l01Hex fns_nil)))) (OrOk.mk trivial ((OrOk.mk trivial ((OrOk.mk trivial ((OrOk.mk trivial ((OrOk.mk ((OrOk.mk trivial ((OrOk.mk (OrOk.x_mk (fun W0 M hnp => ospec_ValText_l1 (W0 := W0) (M := M) hnp)) trivial)))) trivial))))))))) Try.func119 (by kernel_rfl) (by kernel_rfl) (by decide) (by
  intro vals ext k r h
  obtain ⟨v_, a_v_, t_v_, vals, rfl, h1⟩ := av_some h
  obtain ⟨rfl, h2⟩ := nl_some h1
  obtain ⟨rfl, h3⟩ := nl_some h2
  exact (E_spec_ValText v_ a_v_ t_v_ k).trans h3)

/-! ### 108 loop.example/g00462/spec.l05Vals -/
noncomputable def c_spec_l05Vals : Code := (Try.f108.body).getD .skip
noncomputable def g_spec_l05Vals : Env Unit := ⟨tys, [(119, s_spec_ValText)], 0⟩
noncomputable def spec_l05Vals_l0_r (t7 : List (Int × Int × ByteArray)) (t8 : Int) (out : List ByteArray) (t9 : Int) (rec : (List ByteArray) → Int → Res) (k0 : (List ByteArray) → Res) : Res :=
  bif decide (t9 < t8) then
    bif inb t9 (List.length t7) then
      spec_ValText (nth (0, 0, eS) t7 t9) fun (r : ByteArray) =>
        bif lim ((List.length out) + 1) then
          rec (out ++ [r]) (wi64 (t9 + 1))
        else none
    else none
  else
    k0 out
noncomputable def spec_l05Vals_l0_s (t7 : List (Int × Int × ByteArray)) (t8 : Int) : ((List ByteArray) × Int) → ((List ByteArray) × Int → Res) → (((List ByteArray) → Res)) → Res := fun v rec q => spec_l05Vals_l0_r t7 t8 v.1 v.2 (fun out t9 => rec (out, t9)) q
noncomputable def spec_l05Vals_l0 (t7 : List (Int × Int × ByteArray)) (t8 : Int) (n : Nat) (out : List ByteArray) (t9 : Int) (k0 : (List ByteArray) → Res) : Res := iter (spec_l05Vals_l0_s t7 t8) n (out, t9) (k0)
noncomputable def xspec_l05Vals_l0 : Node Unit := fun σ k => rdN σ 20 <| rdV σ 3 y0 false [.O] fun out => rdV σ 7 y4 false [.S] fun t7 => rdV σ 8 (.int .i64) false [] fun t8 => rdV σ 9 (.int .i64) false [] fun t9 => spec_l05Vals_l0 t7 t8 FUEL out t9 (fun (out1 : List ByteArray) => k (.exit 0) (mkS 20 20 [(3, .val ⟨y0, false, out1, [.O]⟩)] []))
theorem espec_l05Vals_l0 (t7 : List (Int × Int × ByteArray)) (t8 : Int) (n : Nat) (v : (List ByteArray) × Int) (k : Kont Unit) : loopC (codeC g_spec_l05Vals [] .o (Code.pl (Code.pl (Code.pr (Code.pl (Code.pr (Code.pr c_spec_l05Vals))))))) (fun σ => σ.forget [3, 7, 8, 9] []) (cutC ([], []) [(0, [3], [])] ([], [])) n (mkS 20 20 [(3, .val ⟨y0, false, v.1, [.O]⟩), (7, .val ⟨y4, false, t7, [.S]⟩), (8, .val ⟨(.int .i64), false, t8, []⟩), (9, .val ⟨(.int .i64), false, v.2, []⟩)] []) k = iter (spec_l05Vals_l0_s t7 t8) n v ((fun (k : Kont Unit) => (((fun (out1 : List ByteArray) => k (.exit 0) (mkS 20 20 [(3, .val ⟨y0, false, out1, [.O]⟩)] []))) : ((List ByteArray) → Res))) k) := loop_eq (fun v : (List ByteArray) × Int => (mkS 20 20 [(3, .val ⟨y0, false, v.1, [.O]⟩), (7, .val ⟨y4, false, t7, [.S]⟩), (8, .val ⟨(.int .i64), false, t8, []⟩), (9, .val ⟨(.int .i64), false, v.2, []⟩)] [])) (spec_l05Vals_l0_s t7 t8) (fun (k : Kont Unit) => (((fun (out1 : List ByteArray) => k (.exit 0) (mkS 20 20 [(3, .val ⟨y0, false, out1, [.O]⟩)] []))) : ((List ByteArray) → Res))) (fun v rec k => by kernel_rfl) n v k
theorem ospec_l05Vals_l0 {W0 : Base} {M : Nat → Prop} (hnp : W0.np ≤ 0) : CodeOk Try.prog W0 M (Code.loop (Code.pl (Code.pl (Code.pr (Code.pl (Code.pr (Code.pr c_spec_l05Vals))))))) xspec_l05Vals_l0 := loop_ok (code_sound follows tysOk (calls_ok (fns_cons S_spec_ValText fns_nil)) hnp [] _ .o trivial) (ks := [3, 7, 8, 9]) (bs := []) (fX := (cutC ([], []) [(0, [3], [])] ([], []))) (cutC_le _ _ _) FUEL (by
  intro σ k r h
  obtain ⟨hn, h1⟩ := rdN_some h
  obtain ⟨out, hs3, h2⟩ := rdV_some h1
  obtain ⟨t7, hs7, h3⟩ := rdV_some h2
  obtain ⟨t8, hs8, h4⟩ := rdV_some h3
  obtain ⟨t9, hs9, h5⟩ := rdV_some h4
  refine ⟨_, ?_, (espec_l05Vals_l0 t7 t8 FUEL (out, t9) k).trans h5⟩
  exact mkS_le hn ⟨hs3, hs7, hs8, hs9, trivial⟩ trivial)
noncomputable def spec_l05Vals (l : List (Int × Int × ByteArray)) (k0 : (List ByteArray) → Res) : Res :=
  spec_l05Vals_l0 l (nI (List.length l)) FUEL [] 0 fun (out : List ByteArray) =>
    k0 out
noncomputable def s_spec_l05Vals : Sig Unit := ⟨[.borrow y4 false], [false], fun vals ext k => av vals y4 fun l vals => nl vals <| nl ext <| spec_l05Vals l (fun (r0 : List ByteArray) => k [⟨y0, false, r0, [.O]⟩] [] [])⟩
theorem E_spec_l05Vals (l : List (Int × Int × ByteArray)) (a_l : Bool) (t_l : List Tag) (k : List TVal → List TVal → List TVal → Res) : funC g_spec_l05Vals [xspec_l05Vals_l0] (.t .o (.t .o (.t (.t .o (.t (.x 0) .o)) .o))) false Try.f108 [.borrow y4 false] [false] [⟨y4, a_l, l, t_l⟩] [] k = spec_l05Vals l (fun (r0 : List ByteArray) => k [⟨y0, false, r0, [.O]⟩] [] []) := by kernel_rfl
theorem S_spec_l05Vals : Sound Try.prog 108 s_spec_l05Vals := sound_of (Γ := g_spec_l05Vals) (X := [xspec_l05Vals_l0]) (ht := (.t .o (.t .o (.t (.t .o (.t (.x 0) .o)) .o)))) (fz := false) (c := c_spec_l05Vals) follows tysOk (fns_cons S_spec_ValText fns_nil) (OrOk.mk trivial ((OrOk.mk trivial ((OrOk.mk ((OrOk.mk trivial ((OrOk.mk (OrOk.x_mk (fun W0 M hnp => ospec_l05Vals_l0 (W0 := W0) (M := M) hnp)) trivial)))) trivial))))) Try.func108 (by kernel_rfl) (by kernel_rfl) (by decide) (by
  intro vals ext k r h
  obtain ⟨l, a_l, t_l, vals, rfl, h1⟩ := av_some h
  obtain ⟨rfl, h2⟩ := nl_some h1
  obtain ⟨rfl, h3⟩ := nl_some h2
  exact (E_spec_l05Vals l a_l t_l k).trans h3)

/-! ### 107 loop.example/g00462/spec.l05Join -/
noncomputable def c_spec_l05Join : Code := (Try.f107.body).getD .skip
noncomputable def g_spec_l05Join : Env Unit := ⟨tys, [], 0⟩
noncomputable def spec_l05Join_l0_r (t6 : List ByteArray) (t7 : Int) (out : ByteArray) (t8 : Int) (rec : ByteArray → Int → Res) (k0 : ByteArray → Res) : Res :=
  bif decide (t8 < t7) then
    bif inb t8 (List.length t6) then
      bif decide (t8 > 0) then
        bif lim ((ByteArray.size out) + 1) then
          bif lim ((ByteArray.size (out ++ z___1)) + (ByteArray.size (nth eS t6 t8))) then
            rec ((out ++ z___1) ++ (nth eS t6 t8)) (wi64 (t8 + 1))
          else none
        else none
      else
        bif lim ((ByteArray.size out) + (ByteArray.size (nth eS t6 t8))) then
          rec (out ++ (nth eS t6 t8)) (wi64 (t8 + 1))
        else none
    else none
  else
    k0 out
noncomputable def spec_l05Join_l0_s (t6 : List ByteArray) (t7 : Int) : (ByteArray × Int) → (ByteArray × Int → Res) → ((ByteArray → Res)) → Res := fun v rec q => spec_l05Join_l0_r t6 t7 v.1 v.2 (fun out t8 => rec (out, t8)) q
noncomputable def spec_l05Join_l0 (t6 : List ByteArray) (t7 : Int) (n : Nat) (out : ByteArray) (t8 : Int) (k0 : ByteArray → Res) : Res := iter (spec_l05Join_l0_s t6 t7) n (out, t8) (k0)
noncomputable def xspec_l05Join_l0 : Node Unit := fun σ k => rdN σ 22 <| rdV σ 3 .str false [] fun out => rdV σ 6 y0 false [.S] fun t6 => rdV σ 7 (.int .i64) false [] fun t7 => rdV σ 8 (.int .i64) false [] fun t8 => spec_l05Join_l0 t6 t7 FUEL out t8 (fun (out1 : ByteArray) => k (.exit 0) (mkS 22 22 [(3, .val ⟨.str, false, out1, []⟩)] []))
theorem espec_l05Join_l0 (t6 : List ByteArray) (t7 : Int) (n : Nat) (v : ByteArray × Int) (k : Kont Unit) : loopC (codeC g_spec_l05Join [] .o (Code.pl (Code.pl (Code.pr (Code.pl (Code.pr (Code.pr c_spec_l05Join))))))) (fun σ => σ.forget [3, 6, 7, 8] []) (cutC ([], []) [(0, [3], [])] ([], [])) n (mkS 22 22 [(3, .val ⟨.str, false, v.1, []⟩), (6, .val ⟨y0, false, t6, [.S]⟩), (7, .val ⟨(.int .i64), false, t7, []⟩), (8, .val ⟨(.int .i64), false, v.2, []⟩)] []) k = iter (spec_l05Join_l0_s t6 t7) n v ((fun (k : Kont Unit) => (((fun (out1 : ByteArray) => k (.exit 0) (mkS 22 22 [(3, .val ⟨.str, false, out1, []⟩)] []))) : (ByteArray → Res))) k) := loop_eq (fun v : ByteArray × Int => (mkS 22 22 [(3, .val ⟨.str, false, v.1, []⟩), (6, .val ⟨y0, false, t6, [.S]⟩), (7, .val ⟨(.int .i64), false, t7, []⟩), (8, .val ⟨(.int .i64), false, v.2, []⟩)] [])) (spec_l05Join_l0_s t6 t7) (fun (k : Kont Unit) => (((fun (out1 : ByteArray) => k (.exit 0) (mkS 22 22 [(3, .val ⟨.str, false, out1, []⟩)] []))) : (ByteArray → Res))) (fun v rec k => by kernel_rfl) n v k
theorem ospec_l05Join_l0 {W0 : Base} {M : Nat → Prop} (hnp : W0.np ≤ 0) : CodeOk Try.prog W0 M (Code.loop (Code.pl (Code.pl (Code.pr (Code.pl (Code.pr (Code.pr c_spec_l05Join))))))) xspec_l05Join_l0 := loop_ok (code_sound follows tysOk (calls_ok fns_nil) hnp [] _ .o trivial) (ks := [3, 6, 7, 8]) (bs := []) (fX := (cutC ([], []) [(0, [3], [])] ([], []))) (cutC_le _ _ _) FUEL (by
  intro σ k r h
  obtain ⟨hn, h1⟩ := rdN_some h
  obtain ⟨out, hs3, h2⟩ := rdV_some h1
  obtain ⟨t6, hs6, h3⟩ := rdV_some h2
  obtain ⟨t7, hs7, h4⟩ := rdV_some h3
  obtain ⟨t8, hs8, h5⟩ := rdV_some h4
  refine ⟨_, ?_, (espec_l05Join_l0 t6 t7 FUEL (out, t8) k).trans h5⟩
  exact mkS_le hn ⟨hs3, hs6, hs7, hs8, trivial⟩ trivial)
noncomputable def spec_l05Join (l : List ByteArray) (k0 : ByteArray → Res) : Res :=
  spec_l05Join_l0 l (nI (List.length l)) FUEL eS 0 fun (out : ByteArray) =>
    k0 out
noncomputable def s_spec_l05Join : Sig Unit := ⟨[.borrow y0 false], [false], fun vals ext k => av vals y0 fun l vals => nl vals <| nl ext <| spec_l05Join l (fun (r0 : ByteArray) => k [⟨.str, false, r0, []⟩] [] [])⟩
theorem E_spec_l05Join (l : List ByteArray) (a_l : Bool) (t_l : List Tag) (k : List TVal → List TVal → List TVal → Res) : funC g_spec_l05Join [xspec_l05Join_l0] (.t .o (.t .o (.t (.t .o (.t (.x 0) .o)) .o))) false Try.f107 [.borrow y0 false] [false] [⟨y0, a_l, l, t_l⟩] [] k = spec_l05Join l (fun (r0 : ByteArray) => k [⟨.str, false, r0, []⟩] [] []) := by kernel_rfl
theorem S_spec_l05Join : Sound Try.prog 107 s_spec_l05Join := sound_of (Γ := g_spec_l05Join) (X := [xspec_l05Join_l0]) (ht := (.t .o (.t .o (.t (.t .o (.t (.x 0) .o)) .o)))) (fz := false) (c := c_spec_l05Join) follows tysOk fns_nil (OrOk.mk trivial ((OrOk.mk trivial ((OrOk.mk ((OrOk.mk trivial ((OrOk.mk (OrOk.x_mk (fun W0 M hnp => ospec_l05Join_l0 (W0 := W0) (M := M) hnp)) trivial)))) trivial))))) Try.func107 (by kernel_rfl) (by kernel_rfl) (by decide) (by
  intro vals ext k r h
  obtain ⟨l, a_l, t_l, vals, rfl, h1⟩ := av_some h
  obtain ⟨rfl, h2⟩ := nl_some h1
  obtain ⟨rfl, h3⟩ := nl_some h2
  exact (E_spec_l05Join l a_l t_l k).trans h3)

/-! ### 92 loop.example/g00462/spec.RowText -/
noncomputable def c_spec_RowText : Code := (Try.f92.body).getD .skip
noncomputable def g_spec_RowText : Env Unit := ⟨tys, [(106, s_spec_ValOk), (107, s_spec_l05Join), (108, s_spec_l05Vals)], 0⟩
noncomputable def spec_RowText_l0_r (t7 : Int) (r : List (Int × Int × ByteArray)) (t8 : Int) (rec : Int → Res) (k0 : Unit → Res) (k1 : Unit → Res) : Res :=
  bif decide (t8 < t7) then
    bif inb t8 (List.length r) then
      spec_ValOk (nth (0, 0, eS) r t8) fun (r1 : Bool) =>
        bif !r1 then
          k1 ()
        else
          rec (wi64 (t8 + 1))
    else none
  else
    k0 ()
noncomputable def spec_RowText_l0_s (t7 : Int) (r : List (Int × Int × ByteArray)) : Int → (Int → Res) → ((Unit → Res) × (Unit → Res)) → Res := fun v rec q => spec_RowText_l0_r t7 r v (fun t8 => rec (t8)) q.1 q.2
noncomputable def spec_RowText_l0 (t7 : Int) (r : List (Int × Int × ByteArray)) (n : Nat) (t8 : Int) (k0 : Unit → Res) (k1 : Unit → Res) : Res := iter (spec_RowText_l0_s t7 r) n (t8) (k0, k1)
noncomputable def xspec_RowText_l0 : Node Unit := fun σ k => rdN σ 20 <| rdT σ 1 (.ptr ⟨true, 1, []⟩) <| rdT σ 6 (.ref ⟨true, 1, []⟩ false) <| rdV σ 7 (.int .i64) false [] fun t7 => rdV σ 8 (.int .i64) false [] fun t8 => rdB σ 1 y4 [.S] fun a r => spec_RowText_l0 t7 r FUEL t8 (fun (_ : Unit) => k (.exit 0) (mkS 20 20 [(1, .ptr ⟨true, 1, []⟩)] [(1, ⟨y4, a, r, [.S]⟩)])) (fun (_ : Unit) => k .ret (mkS 20 20 [(2, .val ⟨.str, false, eS, []⟩)] []))
theorem espec_RowText_l0 (t7 : Int) (a : Bool) (r : List (Int × Int × ByteArray)) (n : Nat) (v : Int) (k : Kont Unit) : loopC (codeC g_spec_RowText [] .o (Code.pl (Code.pl (Code.pr (Code.pl (Code.pr c_spec_RowText)))))) (fun σ => σ.forget [1, 6, 7, 8] [1]) (cutC ([], []) [(0, [1], [1])] ([2], [])) n (mkS 20 20 [(1, .ptr ⟨true, 1, []⟩), (6, .ref ⟨true, 1, []⟩ false), (7, .val ⟨(.int .i64), false, t7, []⟩), (8, .val ⟨(.int .i64), false, v, []⟩)] [(1, ⟨y4, a, r, [.S]⟩)]) k = iter (spec_RowText_l0_s t7 r) n v ((fun (k : Kont Unit) => (((fun (_ : Unit) => k (.exit 0) (mkS 20 20 [(1, .ptr ⟨true, 1, []⟩)] [(1, ⟨y4, a, r, [.S]⟩)])), (fun (_ : Unit) => k .ret (mkS 20 20 [(2, .val ⟨.str, false, eS, []⟩)] []))) : (Unit → Res) × (Unit → Res))) k) := loop_eq (fun v : Int => (mkS 20 20 [(1, .ptr ⟨true, 1, []⟩), (6, .ref ⟨true, 1, []⟩ false), (7, .val ⟨(.int .i64), false, t7, []⟩), (8, .val ⟨(.int .i64), false, v, []⟩)] [(1, ⟨y4, a, r, [.S]⟩)])) (spec_RowText_l0_s t7 r) (fun (k : Kont Unit) => (((fun (_ : Unit) => k (.exit 0) (mkS 20 20 [(1, .ptr ⟨true, 1, []⟩)] [(1, ⟨y4, a, r, [.S]⟩)])), (fun (_ : Unit) => k .ret (mkS 20 20 [(2, .val ⟨.str, false, eS, []⟩)] []))) : (Unit → Res) × (Unit → Res))) (fun v rec k => by kernel_rfl) n v k
theorem ospec_RowText_l0 {W0 : Base} {M : Nat → Prop} (hnp : W0.np ≤ 0) : CodeOk Try.prog W0 M (Code.loop (Code.pl (Code.pl (Code.pr (Code.pl (Code.pr c_spec_RowText)))))) xspec_RowText_l0 := loop_ok (code_sound follows tysOk (calls_ok (fns_cons S_spec_ValOk (fns_cons S_spec_l05Join (fns_cons S_spec_l05Vals fns_nil)))) hnp [] _ .o trivial) (ks := [1, 6, 7, 8]) (bs := [1]) (fX := (cutC ([], []) [(0, [1], [1])] ([2], []))) (cutC_le _ _ _) FUEL (by
  intro σ k r h
  obtain ⟨hn, h1⟩ := rdN_some h
  obtain ⟨hs1, h2⟩ := rdT_some h1
  obtain ⟨hs6, h3⟩ := rdT_some h2
  obtain ⟨t7, hs7, h4⟩ := rdV_some h3
  obtain ⟨t8, hs8, h5⟩ := rdV_some h4
  obtain ⟨a, r, hb1, h6⟩ := rdB_some h5
  refine ⟨_, ?_, (espec_RowText_l0 t7 a r FUEL (t8) k).trans h6⟩
  exact mkS_le hn ⟨hs1, hs6, hs7, hs8, trivial⟩ ⟨hb1, trivial⟩)
noncomputable def spec_RowText (r : List (Int × Int × ByteArray)) (k0 : ByteArray → Res) : Res :=
  spec_RowText_l0 (nI (List.length r)) r FUEL 0
    (fun (_ : Unit) =>
      spec_l05Vals r fun (r1 : List ByteArray) =>
        spec_l05Join r1 fun (r2 : ByteArray) =>
          k0 r2)
    (fun (_ : Unit) =>
      k0 eS)
noncomputable def s_spec_RowText : Sig Unit := ⟨[.borrow y4 true], [false], fun vals ext k => av vals y4 fun r vals => nl vals <| nl ext <| spec_RowText r (fun (r0 : ByteArray) => k [⟨.str, false, r0, []⟩] [] [])⟩
theorem E_spec_RowText (r : List (Int × Int × ByteArray)) (a_r : Bool) (t_r : List Tag) (k : List TVal → List TVal → List TVal → Res) : funC g_spec_RowText [xspec_RowText_l0] (.t .o (.t (.t .o (.t (.x 0) .o)) .o)) false Try.f92 [.borrow y4 true] [false] [⟨y4, a_r, r, t_r⟩] [] k = spec_RowText r (fun (r0 : ByteArray) => k [⟨.str, false, r0, []⟩] [] []) := by kernel_rfl
theorem S_spec_RowText : Sound Try.prog 92 s_spec_RowText := sound_of (Γ := g_spec_RowText) (X := [xspec_RowText_l0]) (ht := (.t .o (.t (.t .o (.t (.x 0) .o)) .o))) (fz := false) (c := c_spec_RowText) follows tysOk (fns_cons S_spec_ValOk (fns_cons S_spec_l05Join (fns_cons S_spec_l05Vals fns_nil))) (OrOk.mk trivial ((OrOk.mk ((OrOk.mk trivial ((OrOk.mk (OrOk.x_mk (fun W0 M hnp => ospec_RowText_l0 (W0 := W0) (M := M) hnp)) trivial)))) trivial))) Try.func92 (by kernel_rfl) (by kernel_rfl) (by decide) (by
  intro vals ext k r h
  obtain ⟨r, a_r, t_r, vals, rfl, h1⟩ := av_some h
  obtain ⟨rfl, h2⟩ := nl_some h1
  obtain ⟨rfl, h3⟩ := nl_some h2
  exact (E_spec_RowText r a_r t_r k).trans h3)

/-! ### 91 loop.example/g00462/spec.Sum -/
noncomputable def c_spec_Sum : Code := (Try.f91.body).getD .skip
noncomputable def g_spec_Sum : Env Unit := ⟨tys, [], 0⟩
noncomputable def spec_Sum_l0_r (t6 : List Int) (t7 : Int) (n_ : Int) (t8 : Int) (rec : Int → Int → Res) (k0 : Int → Res) : Res :=
  bif decide (t8 < t7) then
    bif inb t8 (List.length t6) then
      rec (Int.tmod (wi64 ((wi64 ((wi64 (257 * n_)) + (wi64 (nth 0 t6 t8)))) + 1)) 16777213) (wi64 (t8 + 1))
    else none
  else
    k0 n_
noncomputable def spec_Sum_l0_s (t6 : List Int) (t7 : Int) : (Int × Int) → (Int × Int → Res) → ((Int → Res)) → Res := fun v rec q => spec_Sum_l0_r t6 t7 v.1 v.2 (fun n_ t8 => rec (n_, t8)) q
noncomputable def spec_Sum_l0 (t6 : List Int) (t7 : Int) (n : Nat) (n_ : Int) (t8 : Int) (k0 : Int → Res) : Res := iter (spec_Sum_l0_s t6 t7) n (n_, t8) (k0)
noncomputable def xspec_Sum_l0 : Node Unit := fun σ k => rdN σ 21 <| rdV σ 3 (.int .i64) false [] fun n_ => rdV σ 6 y1 false [.S] fun t6 => rdV σ 7 (.int .i64) false [] fun t7 => rdV σ 8 (.int .i64) false [] fun t8 => spec_Sum_l0 t6 t7 FUEL n_ t8 (fun (n_1 : Int) => k (.exit 0) (mkS 21 21 [(3, .val ⟨(.int .i64), false, n_1, []⟩)] []))
theorem espec_Sum_l0 (t6 : List Int) (t7 : Int) (n : Nat) (v : Int × Int) (k : Kont Unit) : loopC (codeC g_spec_Sum [] .o (Code.pl (Code.pl (Code.pr (Code.pl (Code.pr (Code.pr c_spec_Sum))))))) (fun σ => σ.forget [3, 6, 7, 8] []) (cutC ([], []) [(0, [3], [])] ([], [])) n (mkS 21 21 [(3, .val ⟨(.int .i64), false, v.1, []⟩), (6, .val ⟨y1, false, t6, [.S]⟩), (7, .val ⟨(.int .i64), false, t7, []⟩), (8, .val ⟨(.int .i64), false, v.2, []⟩)] []) k = iter (spec_Sum_l0_s t6 t7) n v ((fun (k : Kont Unit) => (((fun (n_1 : Int) => k (.exit 0) (mkS 21 21 [(3, .val ⟨(.int .i64), false, n_1, []⟩)] []))) : (Int → Res))) k) := loop_eq (fun v : Int × Int => (mkS 21 21 [(3, .val ⟨(.int .i64), false, v.1, []⟩), (6, .val ⟨y1, false, t6, [.S]⟩), (7, .val ⟨(.int .i64), false, t7, []⟩), (8, .val ⟨(.int .i64), false, v.2, []⟩)] [])) (spec_Sum_l0_s t6 t7) (fun (k : Kont Unit) => (((fun (n_1 : Int) => k (.exit 0) (mkS 21 21 [(3, .val ⟨(.int .i64), false, n_1, []⟩)] []))) : (Int → Res))) (fun v rec k => by kernel_rfl) n v k
theorem ospec_Sum_l0 {W0 : Base} {M : Nat → Prop} (hnp : W0.np ≤ 0) : CodeOk Try.prog W0 M (Code.loop (Code.pl (Code.pl (Code.pr (Code.pl (Code.pr (Code.pr c_spec_Sum))))))) xspec_Sum_l0 := loop_ok (code_sound follows tysOk (calls_ok fns_nil) hnp [] _ .o trivial) (ks := [3, 6, 7, 8]) (bs := []) (fX := (cutC ([], []) [(0, [3], [])] ([], []))) (cutC_le _ _ _) FUEL (by
  intro σ k r h
  obtain ⟨hn, h1⟩ := rdN_some h
  obtain ⟨n_, hs3, h2⟩ := rdV_some h1
  obtain ⟨t6, hs6, h3⟩ := rdV_some h2
  obtain ⟨t7, hs7, h4⟩ := rdV_some h3
  obtain ⟨t8, hs8, h5⟩ := rdV_some h4
  refine ⟨_, ?_, (espec_Sum_l0 t6 t7 FUEL (n_, t8) k).trans h5⟩
  exact mkS_le hn ⟨hs3, hs6, hs7, hs8, trivial⟩ trivial)
noncomputable def spec_Sum (b : List Int) (k0 : Int → Res) : Res :=
  spec_Sum_l0 b (nI (List.length b)) FUEL 1 0 fun (n_ : Int) =>
    k0 n_
noncomputable def s_spec_Sum : Sig Unit := ⟨[.borrow y1 false], [false], fun vals ext k => av vals y1 fun b vals => nl vals <| nl ext <| spec_Sum b (fun (r0 : Int) => k [⟨(.int .i64), false, r0, []⟩] [] [])⟩
theorem E_spec_Sum (b : List Int) (a_b : Bool) (t_b : List Tag) (k : List TVal → List TVal → List TVal → Res) : funC g_spec_Sum [xspec_Sum_l0] (.t .o (.t .o (.t (.t .o (.t (.x 0) .o)) .o))) false Try.f91 [.borrow y1 false] [false] [⟨y1, a_b, b, t_b⟩] [] k = spec_Sum b (fun (r0 : Int) => k [⟨(.int .i64), false, r0, []⟩] [] []) := by kernel_rfl
theorem S_spec_Sum : Sound Try.prog 91 s_spec_Sum := sound_of (Γ := g_spec_Sum) (X := [xspec_Sum_l0]) (ht := (.t .o (.t .o (.t (.t .o (.t (.x 0) .o)) .o)))) (fz := false) (c := c_spec_Sum) follows tysOk fns_nil (OrOk.mk trivial ((OrOk.mk trivial ((OrOk.mk ((OrOk.mk trivial ((OrOk.mk (OrOk.x_mk (fun W0 M hnp => ospec_Sum_l0 (W0 := W0) (M := M) hnp)) trivial)))) trivial))))) Try.func91 (by kernel_rfl) (by kernel_rfl) (by decide) (by
  intro vals ext k r h
  obtain ⟨b, a_b, t_b, vals, rfl, h1⟩ := av_some h
  obtain ⟨rfl, h2⟩ := nl_some h1
  obtain ⟨rfl, h3⟩ := nl_some h2
  exact (E_spec_Sum b a_b t_b k).trans h3)

/-! ### 48 loop.example/g00462/spec.RowSum -/
noncomputable def c_spec_RowSum : Code := (Try.f48.body).getD .skip
noncomputable def g_spec_RowSum : Env Unit := ⟨tys, [(91, s_spec_Sum), (92, s_spec_RowText)], 0⟩
noncomputable def spec_RowSum (r : List (Int × Int × ByteArray)) (k0 : Int → Res) : Res :=
  spec_RowText r fun (r1 : ByteArray) =>
    bif lim (ByteArray.size r1) then
      spec_Sum (toBytes r1) fun (r2 : Int) =>
        k0 r2
    else none
noncomputable def s_spec_RowSum : Sig Unit := ⟨[.borrow y4 true], [false], fun vals ext k => av vals y4 fun r vals => nl vals <| nl ext <| spec_RowSum r (fun (r0 : Int) => k [⟨(.int .i64), false, r0, []⟩] [] [])⟩
theorem E_spec_RowSum (r : List (Int × Int × ByteArray)) (a_r : Bool) (t_r : List Tag) (k : List TVal → List TVal → List TVal → Res) : funC g_spec_RowSum [] .o false Try.f48 [.borrow y4 true] [false] [⟨y4, a_r, r, t_r⟩] [] k = spec_RowSum r (fun (r0 : Int) => k [⟨(.int .i64), false, r0, []⟩] [] []) := by kernel_rfl
theorem S_spec_RowSum : Sound Try.prog 48 s_spec_RowSum := sound_of (Γ := g_spec_RowSum) (X := []) (ht := .o) (fz := false) (c := c_spec_RowSum) follows tysOk (fns_cons S_spec_Sum (fns_cons S_spec_RowText fns_nil)) trivial Try.func48 (by kernel_rfl) (by kernel_rfl) (by decide) (by
  intro vals ext k r h
  obtain ⟨r, a_r, t_r, vals, rfl, h1⟩ := av_some h
  obtain ⟨rfl, h2⟩ := nl_some h1
  obtain ⟨rfl, h3⟩ := nl_some h2
  exact (E_spec_RowSum r a_r t_r k).trans h3)

/-! ### 103 loop.example/g00462/impl.within -/
noncomputable def c_impl_within : Code := (Try.f103.body).getD .skip
noncomputable def g_impl_within : Env Unit := ⟨tys, [], 0⟩
noncomputable def impl_within (x : Int) (lo : Int) (hi : Int) (k0 : Bool → Res) : Res :=
  bif decide (x ≥ lo) then
    k0 (decide (x ≤ hi))
  else
    k0 false
noncomputable def s_impl_within : Sig Unit := ⟨[.borrow (.int .i64) false, .borrow (.int .i64) false, .borrow (.int .i64) false], [false], fun vals ext k => av vals (.int .i64) fun x vals => av vals (.int .i64) fun lo vals => av vals (.int .i64) fun hi vals => nl vals <| nl ext <| impl_within x lo hi (fun (r0 : Bool) => k [⟨.bool, false, r0, []⟩] [] [])⟩
theorem E_impl_within (x : Int) (a_x : Bool) (t_x : List Tag) (lo : Int) (a_lo : Bool) (t_lo : List Tag) (hi : Int) (a_hi : Bool) (t_hi : List Tag) (k : List TVal → List TVal → List TVal → Res) : funC g_impl_within [] .o false Try.f103 [.borrow (.int .i64) false, .borrow (.int .i64) false, .borrow (.int .i64) false] [false] [⟨(.int .i64), a_x, x, t_x⟩, ⟨(.int .i64), a_lo, lo, t_lo⟩, ⟨(.int .i64), a_hi, hi, t_hi⟩] [] k = impl_within x lo hi (fun (r0 : Bool) => k [⟨.bool, false, r0, []⟩] [] []) := by kernel_rfl
theorem S_impl_within : Sound Try.prog 103 s_impl_within := sound_of (Γ := g_impl_within) (X := []) (ht := .o) (fz := false) (c := c_impl_within) follows tysOk fns_nil trivial Try.func103 (by kernel_rfl) (by kernel_rfl) (by decide) (by
  intro vals ext k r h
  obtain ⟨x, a_x, t_x, vals, rfl, h1⟩ := av_some h
  obtain ⟨lo, a_lo, t_lo, vals, rfl, h2⟩ := av_some h1
  obtain ⟨hi, a_hi, t_hi, vals, rfl, h3⟩ := av_some h2
  obtain ⟨rfl, h4⟩ := nl_some h3
  obtain ⟨rfl, h5⟩ := nl_some h4
  exact (E_impl_within x a_x t_x lo a_lo t_lo hi a_hi t_hi k).trans h5)

/-! ### 110 loop.example/g00462/impl.ValOk -/
noncomputable def c_impl_ValOk : Code := (Try.f110.body).getD .skip
noncomputable def g_impl_ValOk : Env Unit := ⟨tys, [(103, s_impl_within)], 0⟩
noncomputable def impl_ValOk (v_ : Int × Int × ByteArray) (k0 : Bool → Res) : Res :=
  bif (v_.1 == 0) then
    k0 ((v_.1 == 0) && ((v_.2.1 == 0) && (sEq v_.2.2 eS)))
  else
    bif (v_.1 == 1) then
      impl_within v_.2.1 0 1 fun (r : Bool) =>
        bif r then
          k0 (sEq v_.2.2 eS)
        else
          k0 false
    else
      bif (v_.1 == 2) then
        impl_within v_.2.1 (-1099511627775) 1099511627775 fun (r1 : Bool) =>
          bif r1 then
            k0 (sEq v_.2.2 eS)
          else
            k0 false
      else
        bif (v_.1 == 3) then
          bif (v_.2.1 == 0) then
            k0 (decide ((nI (ByteArray.size v_.2.2)) ≤ 30))
          else
            k0 false
        else
          k0 false
noncomputable def s_impl_ValOk : Sig Unit := ⟨[.borrow y3 true], [false], fun vals ext k => av vals y3 fun v_ vals => nl vals <| nl ext <| impl_ValOk v_ (fun (r0 : Bool) => k [⟨.bool, false, r0, []⟩] [] [])⟩
theorem E_impl_ValOk (v_ : Int × Int × ByteArray) (a_v_ : Bool) (t_v_ : List Tag) (k : List TVal → List TVal → List TVal → Res) : funC g_impl_ValOk [] .o false Try.f110 [.borrow y3 true] [false] [⟨y3, a_v_, v_, t_v_⟩] [] k = impl_ValOk v_ (fun (r0 : Bool) => k [⟨.bool, false, r0, []⟩] [] []) := by kernel_rfl
theorem S_impl_ValOk : Sound Try.prog 110 s_impl_ValOk := sound_of (Γ := g_impl_ValOk) (X := []) (ht := .o) (fz := false) (c := c_impl_ValOk) follows tysOk (fns_cons S_impl_within fns_nil) trivial Try.func110 (by kernel_rfl) (by kernel_rfl) (by decide) (by
  intro vals ext k r h
  obtain ⟨v_, a_v_, t_v_, vals, rfl, h1⟩ := av_some h
  obtain ⟨rfl, h2⟩ := nl_some h1
  obtain ⟨rfl, h3⟩ := nl_some h2
  exact (E_impl_ValOk v_ a_v_ t_v_ k).trans h3)

/-! ### 132 loop.example/g00462/impl.boolText -/
noncomputable def c_impl_boolText : Code := (Try.f132.body).getD .skip
noncomputable def g_impl_boolText : Env Unit := ⟨tys, [], 0⟩
noncomputable def impl_boolText (n_ : Int) (k0 : ByteArray → Res) : Res :=
  bif (n_ == 1) then
    k0 z_true
  else
    k0 z_false
noncomputable def s_impl_boolText : Sig Unit := ⟨[.borrow (.int .i64) false], [false], fun vals ext k => av vals (.int .i64) fun n_ vals => nl vals <| nl ext <| impl_boolText n_ (fun (r0 : ByteArray) => k [⟨.str, false, r0, []⟩] [] [])⟩
theorem E_impl_boolText (n_ : Int) (a_n_ : Bool) (t_n_ : List Tag) (k : List TVal → List TVal → List TVal → Res) : funC g_impl_boolText [] .o false Try.f132 [.borrow (.int .i64) false] [false] [⟨(.int .i64), a_n_, n_, t_n_⟩] [] k = impl_boolText n_ (fun (r0 : ByteArray) => k [⟨.str, false, r0, []⟩] [] []) := by kernel_rfl
theorem S_impl_boolText : Sound Try.prog 132 s_impl_boolText := sound_of (Γ := g_impl_boolText) (X := []) (ht := .o) (fz := false) (c := c_impl_boolText) follows tysOk fns_nil trivial Try.func132 (by kernel_rfl) (by kernel_rfl) (by decide) (by
  intro vals ext k r h
  obtain ⟨n_, a_n_, t_n_, vals, rfl, h1⟩ := av_some h
  obtain ⟨rfl, h2⟩ := nl_some h1
  obtain ⟨rfl, h3⟩ := nl_some h2
  exact (E_impl_boolText n_ a_n_ t_n_ k).trans h3)

/-! ### 133 loop.example/g00462/impl.NumText -/
noncomputable def c_impl_NumText : Code := (Try.f133.body).getD .skip
noncomputable def s_impl_NumText (self : Int → (ByteArray → Res) → Res) : Sig Unit := ⟨[.borrow (.int .i64) false], [false], fun vals ext k => av vals (.int .i64) fun n_ vals => nl vals <| nl ext <| self n_ (fun (r0 : ByteArray) => k [⟨.str, false, r0, []⟩] [] [])⟩
noncomputable def g_impl_NumText (self : Int → (ByteArray → Res) → Res) : Env Unit := ⟨tys, [(103, s_impl_within), (133, (s_impl_NumText self))], 0⟩
noncomputable def impl_NumText_l0_r (self : Int → (ByteArray → Res) → Res) (n_ : Int) (s : ByteArray) (rec : Int → ByteArray → Res) (k0 : Int → ByteArray → Res) : Res :=
  bif decide (n_ > 9) then
    bif lim ((ByteArray.size (ofBytes [wu8 (wi64 (48 + (Int.tmod n_ 10)))])) + (ByteArray.size s)) then
      rec (wi64 (Int.tdiv n_ 10)) ((ofBytes [wu8 (wi64 (48 + (Int.tmod n_ 10)))]) ++ s)
    else none
  else
    k0 n_ s
noncomputable def impl_NumText_l0_s (self : Int → (ByteArray → Res) → Res) : (Int × ByteArray) → (Int × ByteArray → Res) → ((Int → ByteArray → Res)) → Res := fun v rec q => impl_NumText_l0_r self v.1 v.2 (fun n_ s => rec (n_, s)) q
noncomputable def impl_NumText_l0 (self : Int → (ByteArray → Res) → Res) (n : Nat) (n_ : Int) (s : ByteArray) (k0 : Int → ByteArray → Res) : Res := iter (impl_NumText_l0_s self) n (n_, s) (k0)
noncomputable def ximpl_NumText_l0 (self : Int → (ByteArray → Res) → Res) : Node Unit := fun σ k => rdN σ 32 <| rdV σ 0 (.int .i64) false [] fun n_ => rdV σ 3 .str false [] fun s => impl_NumText_l0 self FUEL n_ s (fun (n_1 : Int) (s1 : ByteArray) => k (.exit 0) (mkS 32 32 [(0, .val ⟨(.int .i64), false, n_1, []⟩), (3, .val ⟨.str, false, s1, []⟩)] []))
theorem eimpl_NumText_l0 (self : Int → (ByteArray → Res) → Res)  (n : Nat) (v : Int × ByteArray) (k : Kont Unit) : loopC (codeC (g_impl_NumText self) [] .o (Code.pl (Code.pl (Code.pl (Code.pr (Code.pr (Code.pr (Code.pr c_impl_NumText)))))))) (fun σ => σ.forget [0, 3] []) (cutC ([], []) [(0, [0, 3], [])] ([], [])) n (mkS 32 32 [(0, .val ⟨(.int .i64), false, v.1, []⟩), (3, .val ⟨.str, false, v.2, []⟩)] []) k = iter (impl_NumText_l0_s self) n v ((fun (k : Kont Unit) => (((fun (n_1 : Int) (s1 : ByteArray) => k (.exit 0) (mkS 32 32 [(0, .val ⟨(.int .i64), false, n_1, []⟩), (3, .val ⟨.str, false, s1, []⟩)] []))) : (Int → ByteArray → Res))) k) := loop_eq (fun v : Int × ByteArray => (mkS 32 32 [(0, .val ⟨(.int .i64), false, v.1, []⟩), (3, .val ⟨.str, false, v.2, []⟩)] [])) (impl_NumText_l0_s self) (fun (k : Kont Unit) => (((fun (n_1 : Int) (s1 : ByteArray) => k (.exit 0) (mkS 32 32 [(0, .val ⟨(.int .i64), false, n_1, []⟩), (3, .val ⟨.str, false, s1, []⟩)] []))) : (Int → ByteArray → Res))) (fun v rec k => by kernel_rfl) n v k
theorem oimpl_NumText_l0 (self : Int → (ByteArray → Res) → Res) (hself : Sound Try.prog 133 (s_impl_NumText self)) {W0 : Base} {M : Nat → Prop} (hnp : W0.np ≤ 0) : CodeOk Try.prog W0 M (Code.loop (Code.pl (Code.pl (Code.pl (Code.pr (Code.pr (Code.pr (Code.pr c_impl_NumText)))))))) (ximpl_NumText_l0 self) := loop_ok (code_sound follows tysOk (calls_ok (fns_cons S_impl_within (fns_cons hself fns_nil))) hnp [] _ .o trivial) (ks := [0, 3]) (bs := []) (fX := (cutC ([], []) [(0, [0, 3], [])] ([], []))) (cutC_le _ _ _) FUEL (by
  intro σ k r h
  obtain ⟨hn, h1⟩ := rdN_some h
  obtain ⟨n_, hs0, h2⟩ := rdV_some h1
  obtain ⟨s, hs3, h3⟩ := rdV_some h2
  refine ⟨_, ?_, (eimpl_NumText_l0 self  FUEL (n_, s) k).trans h3⟩
  exact mkS_le hn ⟨hs0, hs3, trivial⟩ trivial)
noncomputable def impl_NumText_b (self : Int → (ByteArray → Res) → Res) (n_ : Int) (k0 : ByteArray → Res) : Res :=
  impl_within n_ (-1099511627775) 1099511627775 fun (r : Bool) =>
    bif !r then
      k0 eS
    else
      bif decide (n_ < 0) then
        self (wi64 (0 - n_)) fun (r1 : ByteArray) =>
          bif lim (1 + (ByteArray.size r1)) then
            k0 (z__ ++ r1)
          else none
      else
        impl_NumText_l0 self FUEL n_ eS fun (n_1 : Int) (s : ByteArray) =>
          bif lim ((ByteArray.size (ofBytes [wu8 (wi64 (48 + n_1))])) + (ByteArray.size s)) then
            k0 ((ofBytes [wu8 (wi64 (48 + n_1))]) ++ s)
          else none
theorem E_impl_NumText (self : Int → (ByteArray → Res) → Res) (n_ : Int) (a_n_ : Bool) (t_n_ : List Tag) (k : List TVal → List TVal → List TVal → Res) : funC (g_impl_NumText self) [(ximpl_NumText_l0 self)] (.t .o (.t .o (.t .o (.t .o (.t (.t (.x 0) .o) .o))))) false Try.f133 [.borrow (.int .i64) false] [false] [⟨(.int .i64), a_n_, n_, t_n_⟩] [] k = impl_NumText_b self n_ (fun (r0 : ByteArray) => k [⟨.str, false, r0, []⟩] [] []) := by kernel_rfl
theorem SS_impl_NumText (self : Int → (ByteArray → Res) → Res) (hself : Sound Try.prog 133 (s_impl_NumText self)) : Sound Try.prog 133 (s_impl_NumText (impl_NumText_b self)) := sound_of (Γ := (g_impl_NumText self)) (X := [(ximpl_NumText_l0 self)]) (ht := (.t .o (.t .o (.t .o (.t .o (.t (.t (.x 0) .o) .o)))))) (fz := false) (c := c_impl_NumText) follows tysOk (fns_cons S_impl_within (fns_cons hself fns_nil)) (OrOk.mk trivial ((OrOk.mk trivial ((OrOk.mk trivial ((OrOk.mk trivial ((OrOk.mk ((OrOk.mk (OrOk.x_mk (fun W0 M hnp => oimpl_NumText_l0 self hself (W0 := W0) (M := M) hnp)) trivial)) trivial))))))))) Try.func133 (by kernel_rfl) (by kernel_rfl) (by decide) (by
  intro vals ext k r h
  obtain ⟨n_, a_n_, t_n_, vals, rfl, h1⟩ := av_some h
  obtain ⟨rfl, h2⟩ := nl_some h1
  obtain ⟨rfl, h3⟩ := nl_some h2
  exact (E_impl_NumText self n_ a_n_ t_n_ k).trans h3)
noncomputable def impl_NumText : Int → (ByteArray → Res) → Res := recN (fun _ _ => none) impl_NumText_b FUEL
theorem S_impl_NumText : Sound Try.prog 133 (s_impl_NumText impl_NumText) := recN_ind (C := fun t => Sound Try.prog 133 (s_impl_NumText t)) (sound_none (c := c_impl_NumText) Try.func133 (by kernel_rfl) (by kernel_rfl) (by
  intro vals ext k r h
  obtain ⟨n_, a_n_, t_n_, vals, rfl, h1⟩ := av_some h
  obtain ⟨rfl, h2⟩ := nl_some h1
  obtain ⟨rfl, h3⟩ := nl_some h2
  cases h3)) (fun t h => SS_impl_NumText t h) FUEL

/-! ### 120 loop.example/g00462/impl.ValText -/
noncomputable def c_impl_ValText : Code := (Try.f120.body).getD .skip
noncomputable def g_impl_ValText : Env Unit := ⟨tys, [(103, s_impl_within), (110, s_impl_ValOk), (132, s_impl_boolText), (133, (s_impl_NumText impl_NumText))], 0⟩
noncomputable def impl_ValText_p0 (b : Int) (k0 : Bool → Res) : Res :=
  impl_within (wi64 b) 33 126 fun (r : Bool) =>
    bif r then
      bif (b != 39) then
        k0 (b != 37)
      else
        k0 false
    else
      k0 false
noncomputable def ximpl_ValText_p0 : Node Unit := fun σ k => rdN σ 68 <| rdT σ 1 (.ptr ⟨true, 1, []⟩) <| rdV σ 3 y1 false [.O] fun out => rdV σ 4 (.int .i64) false [] fun i => rdV σ 5 (.int .u8) false [] fun b => rdB σ 1 y3 [] fun a v_ => impl_ValText_p0 b (fun (t50 : Bool) => k .normal (mkS 68 68 [(1, .ptr ⟨true, 1, []⟩), (3, .val ⟨y1, false, out, [.O]⟩), (4, .val ⟨(.int .i64), false, i, []⟩), (5, .val ⟨(.int .u8), false, b, []⟩), (50, .val ⟨.bool, false, t50, []⟩)] [(1, ⟨y3, a, v_, []⟩)]))
theorem eimpl_ValText_p0 (out : List Int) (i : Int) (b : Int) (a : Bool) (v_ : Int × Int × ByteArray) (k : Kont Unit) : codeC g_impl_ValText [] .o (Code.pl (Code.pr (Code.pl (Code.pl (Code.pr (Code.pl (Code.pl (Code.pr (Code.pl (Code.pr (Code.pr (Code.pr c_impl_ValText)))))))))))) (mkS 68 68 [(1, .ptr ⟨true, 1, []⟩), (3, .val ⟨y1, false, out, [.O]⟩), (4, .val ⟨(.int .i64), false, i, []⟩), (5, .val ⟨(.int .u8), false, b, []⟩)] [(1, ⟨y3, a, v_, []⟩)]) (fun e σ => k e ((cutC ([1, 3, 4, 5, 50], [1]) [] ([], [])) e σ)) = impl_ValText_p0 b (fun (t50 : Bool) => k .normal (mkS 68 68 [(1, .ptr ⟨true, 1, []⟩), (3, .val ⟨y1, false, out, [.O]⟩), (4, .val ⟨(.int .i64), false, i, []⟩), (5, .val ⟨(.int .u8), false, b, []⟩), (50, .val ⟨.bool, false, t50, []⟩)] [(1, ⟨y3, a, v_, []⟩)])) := by kernel_rfl
theorem oimpl_ValText_p0 {W0 : Base} {M : Nat → Prop} (hnp : W0.np ≤ 0) : CodeOk Try.prog W0 M (Code.pl (Code.pr (Code.pl (Code.pl (Code.pr (Code.pl (Code.pl (Code.pr (Code.pl (Code.pr (Code.pr (Code.pr c_impl_ValText)))))))))))) ximpl_ValText_p0 := node_ok (code_sound follows tysOk (calls_ok (fns_cons S_impl_within (fns_cons S_impl_ValOk (fns_cons S_impl_boolText (fns_cons S_impl_NumText fns_nil))))) hnp [] _ .o trivial) (fg := (cutC ([1, 3, 4, 5, 50], [1]) [] ([], []))) (cutC_le _ _ _) (by
  intro σ k r h
  obtain ⟨hn, h1⟩ := rdN_some h
  obtain ⟨hs1, h2⟩ := rdT_some h1
  obtain ⟨out, hs3, h3⟩ := rdV_some h2
  obtain ⟨i, hs4, h4⟩ := rdV_some h3
  obtain ⟨b, hs5, h5⟩ := rdV_some h4
  obtain ⟨a, v_, hb1, h6⟩ := rdB_some h5
  refine ⟨_, ?_, (eimpl_ValText_p0 out i b a v_ k).trans h6⟩
  exact mkS_le hn ⟨hs1, hs3, hs4, hs5, trivial⟩ ⟨hb1, trivial⟩)
noncomputable def impl_ValText_l1_r (v_ : Int × Int × ByteArray) (out : List Int) (i : Int) (rec : (List Int) → Int → Res) (k0 : (List Int) → Res) : Res :=
  bif decide (i < (nI (ByteArray.size v_.2.2))) then
    bif inb i (ByteArray.size v_.2.2) then
      impl_ValText_p0 (bt v_.2.2 i) fun (t : Bool) =>
        bif t then
          bif lim ((List.length out) + 1) then
            rec (out ++ [bt v_.2.2 i]) (wi64 (i + 1))
          else none
        else
          bif inb (shrI .u8 (bt v_.2.2 i) 4) 16 then
            bif inb (andI .u8 (bt v_.2.2 i) 15) 16 then
              bif lim ((List.length out) + 3) then
                rec (out ++ [37, bt z_0123456789abcdef (shrI .u8 (bt v_.2.2 i) 4), bt z_0123456789abcdef (andI .u8 (bt v_.2.2 i) 15)]) (wi64 (i + 1))
              else none
            else none
          else none
    else none
  else
    k0 out
noncomputable def impl_ValText_l1_s (v_ : Int × Int × ByteArray) : ((List Int) × Int) → ((List Int) × Int → Res) → (((List Int) → Res)) → Res := fun v rec q => impl_ValText_l1_r v_ v.1 v.2 (fun out i => rec (out, i)) q
noncomputable def impl_ValText_l1 (v_ : Int × Int × ByteArray) (n : Nat) (out : List Int) (i : Int) (k0 : (List Int) → Res) : Res := iter (impl_ValText_l1_s v_) n (out, i) (k0)
noncomputable def ximpl_ValText_l1 : Node Unit := fun σ k => rdN σ 68 <| rdT σ 1 (.ptr ⟨true, 1, []⟩) <| rdV σ 3 y1 false [.O] fun out => rdV σ 4 (.int .i64) false [] fun i => rdB σ 1 y3 [] fun a v_ => impl_ValText_l1 v_ FUEL out i (fun (out1 : List Int) => k (.exit 1) (mkS 68 68 [(3, .val ⟨y1, false, out1, [.O]⟩)] []))
theorem eimpl_ValText_l1 (a : Bool) (v_ : Int × Int × ByteArray) (n : Nat) (v : (List Int) × Int) (k : Kont Unit) : loopC (codeC g_impl_ValText [ximpl_ValText_p0] (.t .o (.t (.t (.t .o (.t (.x 0) .o)) .o) .o)) (Code.pl (Code.pl (Code.pr (Code.pl (Code.pr (Code.pr (Code.pr c_impl_ValText)))))))) (fun σ => σ.forget [1, 3, 4] [1]) (cutC ([], []) [(1, [3], [])] ([], [])) n (mkS 68 68 [(1, .ptr ⟨true, 1, []⟩), (3, .val ⟨y1, false, v.1, [.O]⟩), (4, .val ⟨(.int .i64), false, v.2, []⟩)] [(1, ⟨y3, a, v_, []⟩)]) k = iter (impl_ValText_l1_s v_) n v ((fun (k : Kont Unit) => (((fun (out1 : List Int) => k (.exit 1) (mkS 68 68 [(3, .val ⟨y1, false, out1, [.O]⟩)] []))) : ((List Int) → Res))) k) := loop_eq (fun v : (List Int) × Int => (mkS 68 68 [(1, .ptr ⟨true, 1, []⟩), (3, .val ⟨y1, false, v.1, [.O]⟩), (4, .val ⟨(.int .i64), false, v.2, []⟩)] [(1, ⟨y3, a, v_, []⟩)])) (impl_ValText_l1_s v_) (fun (k : Kont Unit) => (((fun (out1 : List Int) => k (.exit 1) (mkS 68 68 [(3, .val ⟨y1, false, out1, [.O]⟩)] []))) : ((List Int) → Res))) (fun v rec k => by kernel_rfl) n v k
theorem oimpl_ValText_l1 {W0 : Base} {M : Nat → Prop} (hnp : W0.np ≤ 0) : CodeOk Try.prog W0 M (Code.loop (Code.pl (Code.pl (Code.pr (Code.pl (Code.pr (Code.pr (Code.pr c_impl_ValText)))))))) ximpl_ValText_l1 := loop_ok (code_sound follows tysOk (calls_ok (fns_cons S_impl_within (fns_cons S_impl_ValOk (fns_cons S_impl_boolText (fns_cons S_impl_NumText fns_nil))))) hnp [ximpl_ValText_p0] _ (.t .o (.t (.t (.t .o (.t (.x 0) .o)) .o) .o)) (OrOk.mk trivial ((OrOk.mk ((OrOk.mk ((OrOk.mk trivial ((OrOk.mk (OrOk.x_mk (fun W0 M hnp => oimpl_ValText_p0 (W0 := W0) (M := M) hnp)) trivial)))) trivial)) trivial)))) (ks := [1, 3, 4]) (bs := [1]) (fX := (cutC ([], []) [(1, [3], [])] ([], []))) (cutC_le _ _ _) FUEL (by
  intro σ k r h
  obtain ⟨hn, h1⟩ := rdN_some h
  obtain ⟨hs1, h2⟩ := rdT_some h1
  obtain ⟨out, hs3, h3⟩ := rdV_some h2
  obtain ⟨i, hs4, h4⟩ := rdV_some h3
  obtain ⟨a, v_, hb1, h5⟩ := rdB_some h4
  refine ⟨_, ?_, (eimpl_ValText_l1 a v_ FUEL (out, i) k).trans h5⟩
  exact mkS_le hn ⟨hs1, hs3, hs4, trivial⟩ ⟨hb1, trivial⟩)
noncomputable def impl_ValText (v_ : Int × Int × ByteArray) (k0 : ByteArray → Res) : Res :=
  impl_ValOk v_ fun (r : Bool) =>
    bif !r then
      k0 eS
    else
      bif (v_.1 == 0) then
        k0 z_null
      else
        bif (v_.1 == 1) then
          impl_boolText v_.2.1 fun (r1 : ByteArray) =>
            k0 r1
        else
          bif (v_.1 == 2) then
            impl_NumText v_.2.1 fun (r2 : ByteArray) =>
              k0 r2
          else
            impl_ValText_l1 v_ FUEL [39] 0 fun (out : List Int) =>
              bif lim ((List.length out) + 1) then
                k0 (ofBytes (out ++ [39]))
              else none
noncomputable def s_impl_ValText : Sig Unit := ⟨[.borrow y3 true], [false], fun vals ext k => av vals y3 fun v_ vals => nl vals <| nl ext <| impl_ValText v_ (fun (r0 : ByteArray) => k [⟨.str, false, r0, []⟩] [] [])⟩
theorem E_impl_ValText (v_ : Int × Int × ByteArray) (a_v_ : Bool) (t_v_ : List Tag) (k : List TVal → List TVal → List TVal → Res) : funC g_impl_ValText [ximpl_ValText_p0, ximpl_ValText_l1] (.t .o (.t .o (.t .o (.t (.t .o (.t (.x 1) .o)) .o)))) false Try.f120 [.borrow y3 true] [false] [⟨y3, a_v_, v_, t_v_⟩] [] k = impl_ValText v_ (fun (r0 : ByteArray) => k [⟨.str, false, r0, []⟩] [] []) := by kernel_rfl
theorem S_impl_ValText : Sound Try.prog 120 s_impl_ValText := sound_of (Γ := g_impl_ValText) (X := [ximpl_ValText_p0, ximpl_ValText_l1]) (ht := (.t .o (.t .o (.t .o (.t (.t .o (.t (.x 1) .o)) .o))))) (fz := false) (c := c_impl_ValText) follows tysOk (fns_cons S_impl_within (fns_cons S_impl_ValOk (fns_cons S_impl_boolText (fns_cons S_impl_NumText fns_nil)))) (OrOk.mk trivial ((OrOk.mk trivial ((OrOk.mk trivial ((OrOk.mk ((OrOk.mk trivial ((OrOk.mk (OrOk.x_mk (fun W0 M hnp => oimpl_ValText_l1 (W0 := W0) (M := M) hnp)) trivial)))) trivial))))))) Try.func120 (by kernel_rfl) (by kernel_rfl) (by decide) (by
  intro vals ext k r h
  obtain ⟨v_, a_v_, t_v_, vals, rfl, h1⟩ := av_some h
  obtain ⟨rfl, h2⟩ := nl_some h1
  obtain ⟨rfl, h3⟩ := nl_some h2
  exact (E_impl_ValText v_ a_v_ t_v_ k).trans h3)

/-! ### 121 loop.example/g00462/impl.glued -/
noncomputable def c_impl_glued : Code := (Try.f121.body).getD .skip
noncomputable def g_impl_glued : Env Unit := ⟨tys, [], 0⟩
noncomputable def impl_glued_l0_r (t6 : List ByteArray) (t7 : Int) (s : ByteArray) (t8 : Int) (rec : ByteArray → Int → Res) (k0 : ByteArray → Res) : Res :=
  bif decide (t8 < t7) then
    bif inb t8 (List.length t6) then
      bif decide (t8 > 0) then
        bif lim ((ByteArray.size s) + 1) then
          bif lim ((ByteArray.size (s ++ z___1)) + (ByteArray.size (nth eS t6 t8))) then
            rec ((s ++ z___1) ++ (nth eS t6 t8)) (wi64 (t8 + 1))
          else none
        else none
      else
        bif lim ((ByteArray.size s) + (ByteArray.size (nth eS t6 t8))) then
          rec (s ++ (nth eS t6 t8)) (wi64 (t8 + 1))
        else none
    else none
  else
    k0 s
noncomputable def impl_glued_l0_s (t6 : List ByteArray) (t7 : Int) : (ByteArray × Int) → (ByteArray × Int → Res) → ((ByteArray → Res)) → Res := fun v rec q => impl_glued_l0_r t6 t7 v.1 v.2 (fun s t8 => rec (s, t8)) q
noncomputable def impl_glued_l0 (t6 : List ByteArray) (t7 : Int) (n : Nat) (s : ByteArray) (t8 : Int) (k0 : ByteArray → Res) : Res := iter (impl_glued_l0_s t6 t7) n (s, t8) (k0)
noncomputable def ximpl_glued_l0 : Node Unit := fun σ k => rdN σ 22 <| rdV σ 3 .str false [] fun s => rdV σ 6 y0 false [.S] fun t6 => rdV σ 7 (.int .i64) false [] fun t7 => rdV σ 8 (.int .i64) false [] fun t8 => impl_glued_l0 t6 t7 FUEL s t8 (fun (s1 : ByteArray) => k (.exit 0) (mkS 22 22 [(3, .val ⟨.str, false, s1, []⟩)] []))
theorem eimpl_glued_l0 (t6 : List ByteArray) (t7 : Int) (n : Nat) (v : ByteArray × Int) (k : Kont Unit) : loopC (codeC g_impl_glued [] .o (Code.pl (Code.pl (Code.pr (Code.pl (Code.pr (Code.pr c_impl_glued))))))) (fun σ => σ.forget [3, 6, 7, 8] []) (cutC ([], []) [(0, [3], [])] ([], [])) n (mkS 22 22 [(3, .val ⟨.str, false, v.1, []⟩), (6, .val ⟨y0, false, t6, [.S]⟩), (7, .val ⟨(.int .i64), false, t7, []⟩), (8, .val ⟨(.int .i64), false, v.2, []⟩)] []) k = iter (impl_glued_l0_s t6 t7) n v ((fun (k : Kont Unit) => (((fun (s1 : ByteArray) => k (.exit 0) (mkS 22 22 [(3, .val ⟨.str, false, s1, []⟩)] []))) : (ByteArray → Res))) k) := loop_eq (fun v : ByteArray × Int => (mkS 22 22 [(3, .val ⟨.str, false, v.1, []⟩), (6, .val ⟨y0, false, t6, [.S]⟩), (7, .val ⟨(.int .i64), false, t7, []⟩), (8, .val ⟨(.int .i64), false, v.2, []⟩)] [])) (impl_glued_l0_s t6 t7) (fun (k : Kont Unit) => (((fun (s1 : ByteArray) => k (.exit 0) (mkS 22 22 [(3, .val ⟨.str, false, s1, []⟩)] []))) : (ByteArray → Res))) (fun v rec k => by kernel_rfl) n v k
theorem oimpl_glued_l0 {W0 : Base} {M : Nat → Prop} (hnp : W0.np ≤ 0) : CodeOk Try.prog W0 M (Code.loop (Code.pl (Code.pl (Code.pr (Code.pl (Code.pr (Code.pr c_impl_glued))))))) ximpl_glued_l0 := loop_ok (code_sound follows tysOk (calls_ok fns_nil) hnp [] _ .o trivial) (ks := [3, 6, 7, 8]) (bs := []) (fX := (cutC ([], []) [(0, [3], [])] ([], []))) (cutC_le _ _ _) FUEL (by
  intro σ k r h
  obtain ⟨hn, h1⟩ := rdN_some h
  obtain ⟨s, hs3, h2⟩ := rdV_some h1
  obtain ⟨t6, hs6, h3⟩ := rdV_some h2
  obtain ⟨t7, hs7, h4⟩ := rdV_some h3
  obtain ⟨t8, hs8, h5⟩ := rdV_some h4
  refine ⟨_, ?_, (eimpl_glued_l0 t6 t7 FUEL (s, t8) k).trans h5⟩
  exact mkS_le hn ⟨hs3, hs6, hs7, hs8, trivial⟩ trivial)
noncomputable def impl_glued (l : List ByteArray) (k0 : ByteArray → Res) : Res :=
  impl_glued_l0 l (nI (List.length l)) FUEL eS 0 fun (s : ByteArray) =>
    k0 s
noncomputable def s_impl_glued : Sig Unit := ⟨[.borrow y0 false], [false], fun vals ext k => av vals y0 fun l vals => nl vals <| nl ext <| impl_glued l (fun (r0 : ByteArray) => k [⟨.str, false, r0, []⟩] [] [])⟩
theorem E_impl_glued (l : List ByteArray) (a_l : Bool) (t_l : List Tag) (k : List TVal → List TVal → List TVal → Res) : funC g_impl_glued [ximpl_glued_l0] (.t .o (.t .o (.t (.t .o (.t (.x 0) .o)) .o))) false Try.f121 [.borrow y0 false] [false] [⟨y0, a_l, l, t_l⟩] [] k = impl_glued l (fun (r0 : ByteArray) => k [⟨.str, false, r0, []⟩] [] []) := by kernel_rfl
theorem S_impl_glued : Sound Try.prog 121 s_impl_glued := sound_of (Γ := g_impl_glued) (X := [ximpl_glued_l0]) (ht := (.t .o (.t .o (.t (.t .o (.t (.x 0) .o)) .o)))) (fz := false) (c := c_impl_glued) follows tysOk fns_nil (OrOk.mk trivial ((OrOk.mk trivial ((OrOk.mk ((OrOk.mk trivial ((OrOk.mk (OrOk.x_mk (fun W0 M hnp => oimpl_glued_l0 (W0 := W0) (M := M) hnp)) trivial)))) trivial))))) Try.func121 (by kernel_rfl) (by kernel_rfl) (by decide) (by
  intro vals ext k r h
  obtain ⟨l, a_l, t_l, vals, rfl, h1⟩ := av_some h
  obtain ⟨rfl, h2⟩ := nl_some h1
  obtain ⟨rfl, h3⟩ := nl_some h2
  exact (E_impl_glued l a_l t_l k).trans h3)

/-! ### 111 loop.example/g00462/impl.valTexts -/
noncomputable def c_impl_valTexts : Code := (Try.f111.body).getD .skip
noncomputable def g_impl_valTexts : Env Unit := ⟨tys, [(120, s_impl_ValText), (121, s_impl_glued)], 0⟩
noncomputable def impl_valTexts_l0_r (t7 : List (Int × Int × ByteArray)) (t8 : Int) (out : List ByteArray) (t9 : Int) (rec : (List ByteArray) → Int → Res) (k0 : (List ByteArray) → Res) : Res :=
  bif decide (t9 < t8) then
    bif inb t9 (List.length t7) then
      impl_ValText (nth (0, 0, eS) t7 t9) fun (r : ByteArray) =>
        bif lim ((List.length out) + 1) then
          rec (out ++ [r]) (wi64 (t9 + 1))
        else none
    else none
  else
    k0 out
noncomputable def impl_valTexts_l0_s (t7 : List (Int × Int × ByteArray)) (t8 : Int) : ((List ByteArray) × Int) → ((List ByteArray) × Int → Res) → (((List ByteArray) → Res)) → Res := fun v rec q => impl_valTexts_l0_r t7 t8 v.1 v.2 (fun out t9 => rec (out, t9)) q
noncomputable def impl_valTexts_l0 (t7 : List (Int × Int × ByteArray)) (t8 : Int) (n : Nat) (out : List ByteArray) (t9 : Int) (k0 : (List ByteArray) → Res) : Res := iter (impl_valTexts_l0_s t7 t8) n (out, t9) (k0)
noncomputable def ximpl_valTexts_l0 : Node Unit := fun σ k => rdN σ 21 <| rdV σ 3 y0 false [.O] fun out => rdV σ 7 y4 false [.S] fun t7 => rdV σ 8 (.int .i64) false [] fun t8 => rdV σ 9 (.int .i64) false [] fun t9 => impl_valTexts_l0 t7 t8 FUEL out t9 (fun (out1 : List ByteArray) => k (.exit 0) (mkS 21 21 [(3, .val ⟨y0, false, out1, [.O]⟩)] []))
theorem eimpl_valTexts_l0 (t7 : List (Int × Int × ByteArray)) (t8 : Int) (n : Nat) (v : (List ByteArray) × Int) (k : Kont Unit) : loopC (codeC g_impl_valTexts [] .o (Code.pl (Code.pl (Code.pr (Code.pl (Code.pr (Code.pr c_impl_valTexts))))))) (fun σ => σ.forget [3, 7, 8, 9] []) (cutC ([], []) [(0, [3], [])] ([], [])) n (mkS 21 21 [(3, .val ⟨y0, false, v.1, [.O]⟩), (7, .val ⟨y4, false, t7, [.S]⟩), (8, .val ⟨(.int .i64), false, t8, []⟩), (9, .val ⟨(.int .i64), false, v.2, []⟩)] []) k = iter (impl_valTexts_l0_s t7 t8) n v ((fun (k : Kont Unit) => (((fun (out1 : List ByteArray) => k (.exit 0) (mkS 21 21 [(3, .val ⟨y0, false, out1, [.O]⟩)] []))) : ((List ByteArray) → Res))) k) := loop_eq (fun v : (List ByteArray) × Int => (mkS 21 21 [(3, .val ⟨y0, false, v.1, [.O]⟩), (7, .val ⟨y4, false, t7, [.S]⟩), (8, .val ⟨(.int .i64), false, t8, []⟩), (9, .val ⟨(.int .i64), false, v.2, []⟩)] [])) (impl_valTexts_l0_s t7 t8) (fun (k : Kont Unit) => (((fun (out1 : List ByteArray) => k (.exit 0) (mkS 21 21 [(3, .val ⟨y0, false, out1, [.O]⟩)] []))) : ((List ByteArray) → Res))) (fun v rec k => by kernel_rfl) n v k
theorem oimpl_valTexts_l0 {W0 : Base} {M : Nat → Prop} (hnp : W0.np ≤ 0) : CodeOk Try.prog W0 M (Code.loop (Code.pl (Code.pl (Code.pr (Code.pl (Code.pr (Code.pr c_impl_valTexts))))))) ximpl_valTexts_l0 := loop_ok (code_sound follows tysOk (calls_ok (fns_cons S_impl_ValText (fns_cons S_impl_glued fns_nil))) hnp [] _ .o trivial) (ks := [3, 7, 8, 9]) (bs := []) (fX := (cutC ([], []) [(0, [3], [])] ([], []))) (cutC_le _ _ _) FUEL (by
  intro σ k r h
  obtain ⟨hn, h1⟩ := rdN_some h
  obtain ⟨out, hs3, h2⟩ := rdV_some h1
  obtain ⟨t7, hs7, h3⟩ := rdV_some h2
  obtain ⟨t8, hs8, h4⟩ := rdV_some h3
  obtain ⟨t9, hs9, h5⟩ := rdV_some h4
  refine ⟨_, ?_, (eimpl_valTexts_l0 t7 t8 FUEL (out, t9) k).trans h5⟩
  exact mkS_le hn ⟨hs3, hs7, hs8, hs9, trivial⟩ trivial)
noncomputable def impl_valTexts (l : List (Int × Int × ByteArray)) (k0 : ByteArray → Res) : Res :=
  impl_valTexts_l0 l (nI (List.length l)) FUEL [] 0 fun (out : List ByteArray) =>
    impl_glued out fun (r : ByteArray) =>
      k0 r
noncomputable def s_impl_valTexts : Sig Unit := ⟨[.borrow y4 false], [false], fun vals ext k => av vals y4 fun l vals => nl vals <| nl ext <| impl_valTexts l (fun (r0 : ByteArray) => k [⟨.str, false, r0, []⟩] [] [])⟩
theorem E_impl_valTexts (l : List (Int × Int × ByteArray)) (a_l : Bool) (t_l : List Tag) (k : List TVal → List TVal → List TVal → Res) : funC g_impl_valTexts [ximpl_valTexts_l0] (.t .o (.t .o (.t (.t .o (.t (.x 0) .o)) .o))) false Try.f111 [.borrow y4 false] [false] [⟨y4, a_l, l, t_l⟩] [] k = impl_valTexts l (fun (r0 : ByteArray) => k [⟨.str, false, r0, []⟩] [] []) := by kernel_rfl
theorem S_impl_valTexts : Sound Try.prog 111 s_impl_valTexts := sound_of (Γ := g_impl_valTexts) (X := [ximpl_valTexts_l0]) (ht := (.t .o (.t .o (.t (.t .o (.t (.x 0) .o)) .o)))) (fz := false) (c := c_impl_valTexts) follows tysOk (fns_cons S_impl_ValText (fns_cons S_impl_glued fns_nil)) (OrOk.mk trivial ((OrOk.mk trivial ((OrOk.mk ((OrOk.mk trivial ((OrOk.mk (OrOk.x_mk (fun W0 M hnp => oimpl_valTexts_l0 (W0 := W0) (M := M) hnp)) trivial)))) trivial))))) Try.func111 (by kernel_rfl) (by kernel_rfl) (by decide) (by
  intro vals ext k r h
  obtain ⟨l, a_l, t_l, vals, rfl, h1⟩ := av_some h
  obtain ⟨rfl, h2⟩ := nl_some h1
  obtain ⟨rfl, h3⟩ := nl_some h2
  exact (E_impl_valTexts l a_l t_l k).trans h3)

/-! ### 95 loop.example/g00462/impl.RowText -/
noncomputable def c_impl_RowText : Code := (Try.f95.body).getD .skip
noncomputable def g_impl_RowText : Env Unit := ⟨tys, [(110, s_impl_ValOk), (111, s_impl_valTexts)], 0⟩
noncomputable def impl_RowText_l0_r (t7 : Int) (r : List (Int × Int × ByteArray)) (t8 : Int) (rec : Int → Res) (k0 : Unit → Res) (k1 : Unit → Res) : Res :=
  bif decide (t8 < t7) then
    bif inb t8 (List.length r) then
      impl_ValOk (nth (0, 0, eS) r t8) fun (r1 : Bool) =>
        bif !r1 then
          k1 ()
        else
          rec (wi64 (t8 + 1))
    else none
  else
    k0 ()
noncomputable def impl_RowText_l0_s (t7 : Int) (r : List (Int × Int × ByteArray)) : Int → (Int → Res) → ((Unit → Res) × (Unit → Res)) → Res := fun v rec q => impl_RowText_l0_r t7 r v (fun t8 => rec (t8)) q.1 q.2
noncomputable def impl_RowText_l0 (t7 : Int) (r : List (Int × Int × ByteArray)) (n : Nat) (t8 : Int) (k0 : Unit → Res) (k1 : Unit → Res) : Res := iter (impl_RowText_l0_s t7 r) n (t8) (k0, k1)
noncomputable def ximpl_RowText_l0 : Node Unit := fun σ k => rdN σ 19 <| rdT σ 1 (.ptr ⟨true, 1, []⟩) <| rdT σ 6 (.ref ⟨true, 1, []⟩ false) <| rdV σ 7 (.int .i64) false [] fun t7 => rdV σ 8 (.int .i64) false [] fun t8 => rdB σ 1 y4 [.S] fun a r => impl_RowText_l0 t7 r FUEL t8 (fun (_ : Unit) => k (.exit 0) (mkS 19 19 [(1, .ptr ⟨true, 1, []⟩)] [(1, ⟨y4, a, r, [.S]⟩)])) (fun (_ : Unit) => k .ret (mkS 19 19 [(2, .val ⟨.str, false, eS, []⟩)] []))
theorem eimpl_RowText_l0 (t7 : Int) (a : Bool) (r : List (Int × Int × ByteArray)) (n : Nat) (v : Int) (k : Kont Unit) : loopC (codeC g_impl_RowText [] .o (Code.pl (Code.pl (Code.pr (Code.pl (Code.pr c_impl_RowText)))))) (fun σ => σ.forget [1, 6, 7, 8] [1]) (cutC ([], []) [(0, [1], [1])] ([2], [])) n (mkS 19 19 [(1, .ptr ⟨true, 1, []⟩), (6, .ref ⟨true, 1, []⟩ false), (7, .val ⟨(.int .i64), false, t7, []⟩), (8, .val ⟨(.int .i64), false, v, []⟩)] [(1, ⟨y4, a, r, [.S]⟩)]) k = iter (impl_RowText_l0_s t7 r) n v ((fun (k : Kont Unit) => (((fun (_ : Unit) => k (.exit 0) (mkS 19 19 [(1, .ptr ⟨true, 1, []⟩)] [(1, ⟨y4, a, r, [.S]⟩)])), (fun (_ : Unit) => k .ret (mkS 19 19 [(2, .val ⟨.str, false, eS, []⟩)] []))) : (Unit → Res) × (Unit → Res))) k) := loop_eq (fun v : Int => (mkS 19 19 [(1, .ptr ⟨true, 1, []⟩), (6, .ref ⟨true, 1, []⟩ false), (7, .val ⟨(.int .i64), false, t7, []⟩), (8, .val ⟨(.int .i64), false, v, []⟩)] [(1, ⟨y4, a, r, [.S]⟩)])) (impl_RowText_l0_s t7 r) (fun (k : Kont Unit) => (((fun (_ : Unit) => k (.exit 0) (mkS 19 19 [(1, .ptr ⟨true, 1, []⟩)] [(1, ⟨y4, a, r, [.S]⟩)])), (fun (_ : Unit) => k .ret (mkS 19 19 [(2, .val ⟨.str, false, eS, []⟩)] []))) : (Unit → Res) × (Unit → Res))) (fun v rec k => by kernel_rfl) n v k
theorem oimpl_RowText_l0 {W0 : Base} {M : Nat → Prop} (hnp : W0.np ≤ 0) : CodeOk Try.prog W0 M (Code.loop (Code.pl (Code.pl (Code.pr (Code.pl (Code.pr c_impl_RowText)))))) ximpl_RowText_l0 := loop_ok (code_sound follows tysOk (calls_ok (fns_cons S_impl_ValOk (fns_cons S_impl_valTexts fns_nil))) hnp [] _ .o trivial) (ks := [1, 6, 7, 8]) (bs := [1]) (fX := (cutC ([], []) [(0, [1], [1])] ([2], []))) (cutC_le _ _ _) FUEL (by
  intro σ k r h
  obtain ⟨hn, h1⟩ := rdN_some h
  obtain ⟨hs1, h2⟩ := rdT_some h1
  obtain ⟨hs6, h3⟩ := rdT_some h2
  obtain ⟨t7, hs7, h4⟩ := rdV_some h3
  obtain ⟨t8, hs8, h5⟩ := rdV_some h4
  obtain ⟨a, r, hb1, h6⟩ := rdB_some h5
  refine ⟨_, ?_, (eimpl_RowText_l0 t7 a r FUEL (t8) k).trans h6⟩
  exact mkS_le hn ⟨hs1, hs6, hs7, hs8, trivial⟩ ⟨hb1, trivial⟩)
noncomputable def impl_RowText (r : List (Int × Int × ByteArray)) (k0 : ByteArray → Res) : Res :=
  impl_RowText_l0 (nI (List.length r)) r FUEL 0
    (fun (_ : Unit) =>
      impl_valTexts r fun (r1 : ByteArray) =>
        k0 r1)
    (fun (_ : Unit) =>
      k0 eS)
noncomputable def s_impl_RowText : Sig Unit := ⟨[.borrow y4 true], [false], fun vals ext k => av vals y4 fun r vals => nl vals <| nl ext <| impl_RowText r (fun (r0 : ByteArray) => k [⟨.str, false, r0, []⟩] [] [])⟩
theorem E_impl_RowText (r : List (Int × Int × ByteArray)) (a_r : Bool) (t_r : List Tag) (k : List TVal → List TVal → List TVal → Res) : funC g_impl_RowText [ximpl_RowText_l0] (.t .o (.t (.t .o (.t (.x 0) .o)) .o)) false Try.f95 [.borrow y4 true] [false] [⟨y4, a_r, r, t_r⟩] [] k = impl_RowText r (fun (r0 : ByteArray) => k [⟨.str, false, r0, []⟩] [] []) := by kernel_rfl
theorem S_impl_RowText : Sound Try.prog 95 s_impl_RowText := sound_of (Γ := g_impl_RowText) (X := [ximpl_RowText_l0]) (ht := (.t .o (.t (.t .o (.t (.x 0) .o)) .o))) (fz := false) (c := c_impl_RowText) follows tysOk (fns_cons S_impl_ValOk (fns_cons S_impl_valTexts fns_nil)) (OrOk.mk trivial ((OrOk.mk ((OrOk.mk trivial ((OrOk.mk (OrOk.x_mk (fun W0 M hnp => oimpl_RowText_l0 (W0 := W0) (M := M) hnp)) trivial)))) trivial))) Try.func95 (by kernel_rfl) (by kernel_rfl) (by decide) (by
  intro vals ext k r h
  obtain ⟨r, a_r, t_r, vals, rfl, h1⟩ := av_some h
  obtain ⟨rfl, h2⟩ := nl_some h1
  obtain ⟨rfl, h3⟩ := nl_some h2
  exact (E_impl_RowText r a_r t_r k).trans h3)

/-! ### 94 loop.example/g00462/impl.Sum -/
noncomputable def c_impl_Sum : Code := (Try.f94.body).getD .skip
noncomputable def g_impl_Sum : Env Unit := ⟨tys, [], 0⟩
noncomputable def impl_Sum_l0_r (t6 : List Int) (t7 : Int) (n_ : Int) (t8 : Int) (rec : Int → Int → Res) (k0 : Int → Res) : Res :=
  bif decide (t8 < t7) then
    bif inb t8 (List.length t6) then
      rec (Int.tmod (wi64 ((wi64 ((wi64 (257 * n_)) + (wi64 (nth 0 t6 t8)))) + 1)) 16777213) (wi64 (t8 + 1))
    else none
  else
    k0 n_
noncomputable def impl_Sum_l0_s (t6 : List Int) (t7 : Int) : (Int × Int) → (Int × Int → Res) → ((Int → Res)) → Res := fun v rec q => impl_Sum_l0_r t6 t7 v.1 v.2 (fun n_ t8 => rec (n_, t8)) q
noncomputable def impl_Sum_l0 (t6 : List Int) (t7 : Int) (n : Nat) (n_ : Int) (t8 : Int) (k0 : Int → Res) : Res := iter (impl_Sum_l0_s t6 t7) n (n_, t8) (k0)
noncomputable def ximpl_Sum_l0 : Node Unit := fun σ k => rdN σ 21 <| rdV σ 3 (.int .i64) false [] fun n_ => rdV σ 6 y1 false [.S] fun t6 => rdV σ 7 (.int .i64) false [] fun t7 => rdV σ 8 (.int .i64) false [] fun t8 => impl_Sum_l0 t6 t7 FUEL n_ t8 (fun (n_1 : Int) => k (.exit 0) (mkS 21 21 [(3, .val ⟨(.int .i64), false, n_1, []⟩)] []))
theorem eimpl_Sum_l0 (t6 : List Int) (t7 : Int) (n : Nat) (v : Int × Int) (k : Kont Unit) : loopC (codeC g_impl_Sum [] .o (Code.pl (Code.pl (Code.pr (Code.pl (Code.pr (Code.pr c_impl_Sum))))))) (fun σ => σ.forget [3, 6, 7, 8] []) (cutC ([], []) [(0, [3], [])] ([], [])) n (mkS 21 21 [(3, .val ⟨(.int .i64), false, v.1, []⟩), (6, .val ⟨y1, false, t6, [.S]⟩), (7, .val ⟨(.int .i64), false, t7, []⟩), (8, .val ⟨(.int .i64), false, v.2, []⟩)] []) k = iter (impl_Sum_l0_s t6 t7) n v ((fun (k : Kont Unit) => (((fun (n_1 : Int) => k (.exit 0) (mkS 21 21 [(3, .val ⟨(.int .i64), false, n_1, []⟩)] []))) : (Int → Res))) k) := loop_eq (fun v : Int × Int => (mkS 21 21 [(3, .val ⟨(.int .i64), false, v.1, []⟩), (6, .val ⟨y1, false, t6, [.S]⟩), (7, .val ⟨(.int .i64), false, t7, []⟩), (8, .val ⟨(.int .i64), false, v.2, []⟩)] [])) (impl_Sum_l0_s t6 t7) (fun (k : Kont Unit) => (((fun (n_1 : Int) => k (.exit 0) (mkS 21 21 [(3, .val ⟨(.int .i64), false, n_1, []⟩)] []))) : (Int → Res))) (fun v rec k => by kernel_rfl) n v k
theorem oimpl_Sum_l0 {W0 : Base} {M : Nat → Prop} (hnp : W0.np ≤ 0) : CodeOk Try.prog W0 M (Code.loop (Code.pl (Code.pl (Code.pr (Code.pl (Code.pr (Code.pr c_impl_Sum))))))) ximpl_Sum_l0 := loop_ok (code_sound follows tysOk (calls_ok fns_nil) hnp [] _ .o trivial) (ks := [3, 6, 7, 8]) (bs := []) (fX := (cutC ([], []) [(0, [3], [])] ([], []))) (cutC_le _ _ _) FUEL (by
  intro σ k r h
  obtain ⟨hn, h1⟩ := rdN_some h
  obtain ⟨n_, hs3, h2⟩ := rdV_some h1
  obtain ⟨t6, hs6, h3⟩ := rdV_some h2
  obtain ⟨t7, hs7, h4⟩ := rdV_some h3
  obtain ⟨t8, hs8, h5⟩ := rdV_some h4
  refine ⟨_, ?_, (eimpl_Sum_l0 t6 t7 FUEL (n_, t8) k).trans h5⟩
  exact mkS_le hn ⟨hs3, hs6, hs7, hs8, trivial⟩ trivial)
noncomputable def impl_Sum (b : List Int) (k0 : Int → Res) : Res :=
  impl_Sum_l0 b (nI (List.length b)) FUEL 1 0 fun (n_ : Int) =>
    k0 n_
noncomputable def s_impl_Sum : Sig Unit := ⟨[.borrow y1 false], [false], fun vals ext k => av vals y1 fun b vals => nl vals <| nl ext <| impl_Sum b (fun (r0 : Int) => k [⟨(.int .i64), false, r0, []⟩] [] [])⟩
theorem E_impl_Sum (b : List Int) (a_b : Bool) (t_b : List Tag) (k : List TVal → List TVal → List TVal → Res) : funC g_impl_Sum [ximpl_Sum_l0] (.t .o (.t .o (.t (.t .o (.t (.x 0) .o)) .o))) false Try.f94 [.borrow y1 false] [false] [⟨y1, a_b, b, t_b⟩] [] k = impl_Sum b (fun (r0 : Int) => k [⟨(.int .i64), false, r0, []⟩] [] []) := by kernel_rfl
theorem S_impl_Sum : Sound Try.prog 94 s_impl_Sum := sound_of (Γ := g_impl_Sum) (X := [ximpl_Sum_l0]) (ht := (.t .o (.t .o (.t (.t .o (.t (.x 0) .o)) .o)))) (fz := false) (c := c_impl_Sum) follows tysOk fns_nil (OrOk.mk trivial ((OrOk.mk trivial ((OrOk.mk ((OrOk.mk trivial ((OrOk.mk (OrOk.x_mk (fun W0 M hnp => oimpl_Sum_l0 (W0 := W0) (M := M) hnp)) trivial)))) trivial))))) Try.func94 (by kernel_rfl) (by kernel_rfl) (by decide) (by
  intro vals ext k r h
  obtain ⟨b, a_b, t_b, vals, rfl, h1⟩ := av_some h
  obtain ⟨rfl, h2⟩ := nl_some h1
  obtain ⟨rfl, h3⟩ := nl_some h2
  exact (E_impl_Sum b a_b t_b k).trans h3)

/-! ### 50 loop.example/g00462/impl.RowSum -/
noncomputable def c_impl_RowSum : Code := (Try.f50.body).getD .skip
noncomputable def g_impl_RowSum : Env Unit := ⟨tys, [(94, s_impl_Sum), (95, s_impl_RowText)], 0⟩
noncomputable def impl_RowSum (r : List (Int × Int × ByteArray)) (k0 : Int → Res) : Res :=
  impl_RowText r fun (r1 : ByteArray) =>
    bif lim (ByteArray.size r1) then
      impl_Sum (toBytes r1) fun (r2 : Int) =>
        k0 r2
    else none
noncomputable def s_impl_RowSum : Sig Unit := ⟨[.borrow y4 true], [false], fun vals ext k => av vals y4 fun r vals => nl vals <| nl ext <| impl_RowSum r (fun (r0 : Int) => k [⟨(.int .i64), false, r0, []⟩] [] [])⟩
theorem E_impl_RowSum (r : List (Int × Int × ByteArray)) (a_r : Bool) (t_r : List Tag) (k : List TVal → List TVal → List TVal → Res) : funC g_impl_RowSum [] .o false Try.f50 [.borrow y4 true] [false] [⟨y4, a_r, r, t_r⟩] [] k = impl_RowSum r (fun (r0 : Int) => k [⟨(.int .i64), false, r0, []⟩] [] []) := by kernel_rfl
theorem S_impl_RowSum : Sound Try.prog 50 s_impl_RowSum := sound_of (Γ := g_impl_RowSum) (X := []) (ht := .o) (fz := false) (c := c_impl_RowSum) follows tysOk (fns_cons S_impl_Sum (fns_cons S_impl_RowText fns_nil)) trivial Try.func50 (by kernel_rfl) (by kernel_rfl) (by decide) (by
  intro vals ext k r h
  obtain ⟨r, a_r, t_r, vals, rfl, h1⟩ := av_some h
  obtain ⟨rfl, h2⟩ := nl_some h1
  obtain ⟨rfl, h3⟩ := nl_some h2
  exact (E_impl_RowSum r a_r t_r k).trans h3)

/-! ### 100 loop.example/g00462/laws.eqVal -/
noncomputable def c_laws_eqVal : Code := (Try.f100.body).getD .skip
noncomputable def g_laws_eqVal : Env Unit := ⟨tys, [], 0⟩
noncomputable def laws_eqVal (a : Int × Int × ByteArray) (b : Int × Int × ByteArray) (k0 : Bool → Res) : Res :=
  bif (a.1 != b.1) then
    k0 false
  else
    bif (a.2.1 != b.2.1) then
      k0 false
    else
      bif sNe a.2.2 b.2.2 then
        k0 false
      else
        k0 true
noncomputable def s_laws_eqVal : Sig Unit := ⟨[.borrow y3 true, .borrow y3 true], [false], fun vals ext k => av vals y3 fun a vals => av vals y3 fun b vals => nl vals <| nl ext <| laws_eqVal a b (fun (r0 : Bool) => k [⟨.bool, false, r0, []⟩] [] [])⟩
theorem E_laws_eqVal (a : Int × Int × ByteArray) (a_a : Bool) (t_a : List Tag) (b : Int × Int × ByteArray) (a_b : Bool) (t_b : List Tag) (k : List TVal → List TVal → List TVal → Res) : funC g_laws_eqVal [] .o false Try.f100 [.borrow y3 true, .borrow y3 true] [false] [⟨y3, a_a, a, t_a⟩, ⟨y3, a_b, b, t_b⟩] [] k = laws_eqVal a b (fun (r0 : Bool) => k [⟨.bool, false, r0, []⟩] [] []) := by kernel_rfl
theorem S_laws_eqVal : Sound Try.prog 100 s_laws_eqVal := sound_of (Γ := g_laws_eqVal) (X := []) (ht := .o) (fz := false) (c := c_laws_eqVal) follows tysOk fns_nil trivial Try.func100 (by kernel_rfl) (by kernel_rfl) (by decide) (by
  intro vals ext k r h
  obtain ⟨a, a_a, t_a, vals, rfl, h1⟩ := av_some h
  obtain ⟨b, a_b, t_b, vals, rfl, h2⟩ := av_some h1
  obtain ⟨rfl, h3⟩ := nl_some h2
  obtain ⟨rfl, h4⟩ := nl_some h3
  exact (E_laws_eqVal a a_a t_a b a_b t_b k).trans h4)

/-! ### 55 loop.example/g00462/laws.eqValS -/
noncomputable def c_laws_eqValS : Code := (Try.f55.body).getD .skip
noncomputable def g_laws_eqValS : Env Unit := ⟨tys, [(100, s_laws_eqVal)], 0⟩
noncomputable def laws_eqValS_l0_r (a : List (Int × Int × ByteArray)) (b : List (Int × Int × ByteArray)) (i : Int) (rec : Int → Res) (k0 : Unit → Res) (k1 : Unit → Res) : Res :=
  bif decide (i < (nI (List.length a))) then
    bif inb i (List.length a) then
      bif inb i (List.length b) then
        laws_eqVal (nth (0, 0, eS) a i) (nth (0, 0, eS) b i) fun (r : Bool) =>
          bif !r then
            k1 ()
          else
            rec (wi64 (i + 1))
      else none
    else none
  else
    k0 ()
noncomputable def laws_eqValS_l0_s (a : List (Int × Int × ByteArray)) (b : List (Int × Int × ByteArray)) : Int → (Int → Res) → ((Unit → Res) × (Unit → Res)) → Res := fun v rec q => laws_eqValS_l0_r a b v (fun i => rec (i)) q.1 q.2
noncomputable def laws_eqValS_l0 (a : List (Int × Int × ByteArray)) (b : List (Int × Int × ByteArray)) (n : Nat) (i : Int) (k0 : Unit → Res) (k1 : Unit → Res) : Res := iter (laws_eqValS_l0_s a b) n (i) (k0, k1)
noncomputable def xlaws_eqValS_l0 : Node Unit := fun σ k => rdN σ 27 <| rdV σ 0 y4 false [.S] fun a => rdV σ 1 y4 false [.S] fun b => rdV σ 5 (.int .i64) false [] fun i => laws_eqValS_l0 a b FUEL i (fun (_ : Unit) => k (.exit 0) (mkS 27 27 [] [])) (fun (_ : Unit) => k .ret (mkS 27 27 [(4, .val ⟨.bool, false, false, []⟩)] []))
theorem elaws_eqValS_l0 (a : List (Int × Int × ByteArray)) (b : List (Int × Int × ByteArray)) (n : Nat) (v : Int) (k : Kont Unit) : loopC (codeC g_laws_eqValS [] .o (Code.pl (Code.pl (Code.pr (Code.pl (Code.pr (Code.pr c_laws_eqValS))))))) (fun σ => σ.forget [0, 1, 5] []) (cutC ([], []) [(0, [], [])] ([4], [])) n (mkS 27 27 [(0, .val ⟨y4, false, a, [.S]⟩), (1, .val ⟨y4, false, b, [.S]⟩), (5, .val ⟨(.int .i64), false, v, []⟩)] []) k = iter (laws_eqValS_l0_s a b) n v ((fun (k : Kont Unit) => (((fun (_ : Unit) => k (.exit 0) (mkS 27 27 [] [])), (fun (_ : Unit) => k .ret (mkS 27 27 [(4, .val ⟨.bool, false, false, []⟩)] []))) : (Unit → Res) × (Unit → Res))) k) := loop_eq (fun v : Int => (mkS 27 27 [(0, .val ⟨y4, false, a, [.S]⟩), (1, .val ⟨y4, false, b, [.S]⟩), (5, .val ⟨(.int .i64), false, v, []⟩)] [])) (laws_eqValS_l0_s a b) (fun (k : Kont Unit) => (((fun (_ : Unit) => k (.exit 0) (mkS 27 27 [] [])), (fun (_ : Unit) => k .ret (mkS 27 27 [(4, .val ⟨.bool, false, false, []⟩)] []))) : (Unit → Res) × (Unit → Res))) (fun v rec k => by kernel_rfl) n v k
theorem olaws_eqValS_l0 {W0 : Base} {M : Nat → Prop} (hnp : W0.np ≤ 0) : CodeOk Try.prog W0 M (Code.loop (Code.pl (Code.pl (Code.pr (Code.pl (Code.pr (Code.pr c_laws_eqValS))))))) xlaws_eqValS_l0 := loop_ok (code_sound follows tysOk (calls_ok (fns_cons S_laws_eqVal fns_nil)) hnp [] _ .o trivial) (ks := [0, 1, 5]) (bs := []) (fX := (cutC ([], []) [(0, [], [])] ([4], []))) (cutC_le _ _ _) FUEL (by
  intro σ k r h
  obtain ⟨hn, h1⟩ := rdN_some h
  obtain ⟨a, hs0, h2⟩ := rdV_some h1
  obtain ⟨b, hs1, h3⟩ := rdV_some h2
  obtain ⟨i, hs5, h4⟩ := rdV_some h3
  refine ⟨_, ?_, (elaws_eqValS_l0 a b FUEL (i) k).trans h4⟩
  exact mkS_le hn ⟨hs0, hs1, hs5, trivial⟩ trivial)
noncomputable def laws_eqValS (a : List (Int × Int × ByteArray)) (b : List (Int × Int × ByteArray)) (k0 : Bool → Res) : Res :=
  bif ((nI (List.length a)) != (nI (List.length b))) then
    k0 false
  else
    laws_eqValS_l0 a b FUEL 0
      (fun (_ : Unit) =>
        k0 true)
      (fun (_ : Unit) =>
        k0 false)
noncomputable def s_laws_eqValS : Sig Unit := ⟨[.borrow y4 false, .borrow y4 false], [false], fun vals ext k => av vals y4 fun a vals => av vals y4 fun b vals => nl vals <| nl ext <| laws_eqValS a b (fun (r0 : Bool) => k [⟨.bool, false, r0, []⟩] [] [])⟩
theorem E_laws_eqValS (a : List (Int × Int × ByteArray)) (a_a : Bool) (t_a : List Tag) (b : List (Int × Int × ByteArray)) (a_b : Bool) (t_b : List Tag) (k : List TVal → List TVal → List TVal → Res) : funC g_laws_eqValS [xlaws_eqValS_l0] (.t .o (.t .o (.t (.t .o (.t (.x 0) .o)) .o))) false Try.f55 [.borrow y4 false, .borrow y4 false] [false] [⟨y4, a_a, a, t_a⟩, ⟨y4, a_b, b, t_b⟩] [] k = laws_eqValS a b (fun (r0 : Bool) => k [⟨.bool, false, r0, []⟩] [] []) := by kernel_rfl
theorem S_laws_eqValS : Sound Try.prog 55 s_laws_eqValS := sound_of (Γ := g_laws_eqValS) (X := [xlaws_eqValS_l0]) (ht := (.t .o (.t .o (.t (.t .o (.t (.x 0) .o)) .o)))) (fz := false) (c := c_laws_eqValS) follows tysOk (fns_cons S_laws_eqVal fns_nil) (OrOk.mk trivial ((OrOk.mk trivial ((OrOk.mk ((OrOk.mk trivial ((OrOk.mk (OrOk.x_mk (fun W0 M hnp => olaws_eqValS_l0 (W0 := W0) (M := M) hnp)) trivial)))) trivial))))) Try.func55 (by kernel_rfl) (by kernel_rfl) (by decide) (by
  intro vals ext k r h
  obtain ⟨a, a_a, t_a, vals, rfl, h1⟩ := av_some h
  obtain ⟨b, a_b, t_b, vals, rfl, h2⟩ := av_some h1
  obtain ⟨rfl, h3⟩ := nl_some h2
  obtain ⟨rfl, h4⟩ := nl_some h3
  exact (E_laws_eqValS a a_a t_a b a_b t_b k).trans h4)

/-! ### 51 loop.example/g00462/laws.eqRow -/
noncomputable def c_laws_eqRow : Code := (Try.f51.body).getD .skip
noncomputable def g_laws_eqRow : Env Unit := ⟨tys, [(55, s_laws_eqValS)], 0⟩
noncomputable def laws_eqRow (a : List (Int × Int × ByteArray)) (b : List (Int × Int × ByteArray)) (k0 : Bool → Res) : Res :=
  laws_eqValS a b fun (r : Bool) =>
    bif !r then
      k0 false
    else
      k0 true
noncomputable def s_laws_eqRow : Sig Unit := ⟨[.borrow y4 true, .borrow y4 true], [false], fun vals ext k => av vals y4 fun a vals => av vals y4 fun b vals => nl vals <| nl ext <| laws_eqRow a b (fun (r0 : Bool) => k [⟨.bool, false, r0, []⟩] [] [])⟩
theorem E_laws_eqRow (a : List (Int × Int × ByteArray)) (a_a : Bool) (t_a : List Tag) (b : List (Int × Int × ByteArray)) (a_b : Bool) (t_b : List Tag) (k : List TVal → List TVal → List TVal → Res) : funC g_laws_eqRow [] .o false Try.f51 [.borrow y4 true, .borrow y4 true] [false] [⟨y4, a_a, a, t_a⟩, ⟨y4, a_b, b, t_b⟩] [] k = laws_eqRow a b (fun (r0 : Bool) => k [⟨.bool, false, r0, []⟩] [] []) := by kernel_rfl
theorem S_laws_eqRow : Sound Try.prog 51 s_laws_eqRow := sound_of (Γ := g_laws_eqRow) (X := []) (ht := .o) (fz := false) (c := c_laws_eqRow) follows tysOk (fns_cons S_laws_eqValS fns_nil) trivial Try.func51 (by kernel_rfl) (by kernel_rfl) (by decide) (by
  intro vals ext k r h
  obtain ⟨a, a_a, t_a, vals, rfl, h1⟩ := av_some h
  obtain ⟨b, a_b, t_b, vals, rfl, h2⟩ := av_some h1
  obtain ⟨rfl, h3⟩ := nl_some h2
  obtain ⟨rfl, h4⟩ := nl_some h3
  exact (E_laws_eqRow a a_a t_a b a_b t_b k).trans h4)

/-! ### 12 loop.example/g00462/laws.FnExactRowSum -/
noncomputable def c_laws_FnExactRowSum : Code := (Try.f12.body).getD .skip
noncomputable def g_laws_FnExactRowSum : Env Unit := ⟨tys, [(47, s_laws_szRow), (48, s_spec_RowSum), (49, s_laws_toRow), (50, s_impl_RowSum), (51, s_laws_eqRow)], 0⟩
noncomputable def laws_FnExactRowSum (aR : List (Int × Int × ByteArray)) (k0 : Bool → Res) : Res :=
  laws_szRow aR 1048576 fun (r : Int) =>
    bif decide (r < 0) then
      k0 true
    else
      laws_toRow aR fun (r1 : List (Int × Int × ByteArray)) =>
        spec_RowSum r1 fun (r2 : Int) =>
          laws_toRow aR fun (r3 : List (Int × Int × ByteArray)) =>
            impl_RowSum r3 fun (r4 : Int) =>
              bif (r4 != r2) then
                k0 false
              else
                laws_toRow aR fun (r5 : List (Int × Int × ByteArray)) =>
                  laws_eqRow r3 r5 fun (r6 : Bool) =>
                    bif !r6 then
                      k0 false
                    else
                      k0 true
noncomputable def s_laws_FnExactRowSum : Sig Unit := ⟨[.borrow y4 true], [false], fun vals ext k => av vals y4 fun aR vals => nl vals <| nl ext <| laws_FnExactRowSum aR (fun (r0 : Bool) => k [⟨.bool, false, r0, []⟩] [] [])⟩
theorem E_laws_FnExactRowSum (aR : List (Int × Int × ByteArray)) (a_aR : Bool) (t_aR : List Tag) (k : List TVal → List TVal → List TVal → Res) : funC g_laws_FnExactRowSum [] .o false Try.f12 [.borrow y4 true] [false] [⟨y4, a_aR, aR, t_aR⟩] [] k = laws_FnExactRowSum aR (fun (r0 : Bool) => k [⟨.bool, false, r0, []⟩] [] []) := by kernel_rfl
theorem S_laws_FnExactRowSum : Sound Try.prog 12 s_laws_FnExactRowSum := sound_of (Γ := g_laws_FnExactRowSum) (X := []) (ht := .o) (fz := false) (c := c_laws_FnExactRowSum) follows tysOk (fns_cons S_laws_szRow (fns_cons S_spec_RowSum (fns_cons S_laws_toRow (fns_cons S_impl_RowSum (fns_cons S_laws_eqRow fns_nil))))) trivial Try.func12 (by kernel_rfl) (by kernel_rfl) (by decide) (by
  intro vals ext k r h
  obtain ⟨aR, a_aR, t_aR, vals, rfl, h1⟩ := av_some h
  obtain ⟨rfl, h2⟩ := nl_some h1
  obtain ⟨rfl, h3⟩ := nl_some h2
  exact (E_laws_FnExactRowSum aR a_aR t_aR k).trans h3)
end Go.PI.L12
