/-
  Printed texts and plain laws. No conditions.
-/
import Derived.Test.YtcapkiofiipamaaGreatD4a
import Derived.Test.YtcapkiofiipamaaGreatD4d
import Derived.Test.YtcapkiofiipamaaGreatD4e
set_option linter.unusedVariables false
set_option maxRecDepth 100000
noncomputable section
namespace Go.PI.G
open Go Go.PI Go.Proofs

/-! ### 50 loop.example/g00462/laws.szStringS -/
def c_laws_szStringS : Code := (Tryz.f50.body).getD .skip
def g_laws_szStringS : Env Unit := ⟨tys, [], 0⟩
def laws_szStringS_l0_r (a : List ByteArray) (left : Int) (i : Int) (rec : Int → Int → Res) (k0 : Int → Res) (k1 : Unit → Res) : Res :=
 bif decide (i < (nI (List.length a))) then
  bif inb i (List.length a) then
   bif decide ((wi64 (left - (nI (ByteArray.size (nth eS a i))))) < 0) then
    k1 ()
   else
    rec (wi64 (left - (nI (ByteArray.size (nth eS a i))))) (wi64 (i + 1))
  else none
 else
  k0 left
def laws_szStringS_l0_s (a : List ByteArray) : (Int × Int) → (Int × Int → Res) → ((Int → Res) × (Unit → Res)) → Res := fun v rec q => laws_szStringS_l0_r a v.1 v.2 (fun left i => rec (left, i)) q.1 q.2
def laws_szStringS_l0 (a : List ByteArray) (n : Nat) (left : Int) (i : Int) (k0 : Int → Res) (k1 : Unit → Res) : Res := iter (laws_szStringS_l0_s a) n (left, i) (k0, k1)
def xlaws_szStringS_l0 : Node Unit := fun σ k => rdN σ 28 <| rdV σ 0 y7 false [.S] fun a => rdV σ 1 (.int .i64) false [] fun left => rdV σ 5 (.int .i64) false [] fun i => laws_szStringS_l0 a FUEL left i (fun (left1 : Int) => k (.exit 0) (mkS 28 28 [(1, .val ⟨(.int .i64), false, left1, []⟩)] [])) (fun (_ : Unit) => k .ret (mkS 28 28 [(4, .val ⟨(.int .i64), false, (-1), []⟩)] []))
theorem elaws_szStringS_l0 (a : List ByteArray) (n : Nat) (v : Int × Int) (k : Kont Unit) : loopC (codeC g_laws_szStringS [] .o (Code.pl (Code.pl (Code.pr (Code.pl (Code.pr (Code.pr (Code.pr c_laws_szStringS)))))))) (fun σ => σ.forget [0, 1, 5] []) (cutC ([], []) [(0, [1], [])] ([4], [])) n (mkS 28 28 [(0, .val ⟨y7, false, a, [.S]⟩), (1, .val ⟨(.int .i64), false, v.1, []⟩), (5, .val ⟨(.int .i64), false, v.2, []⟩)] []) k = iter (laws_szStringS_l0_s a) n v ((fun (k : Kont Unit) => (((fun (left1 : Int) => k (.exit 0) (mkS 28 28 [(1, .val ⟨(.int .i64), false, left1, []⟩)] [])), (fun (_ : Unit) => k .ret (mkS 28 28 [(4, .val ⟨(.int .i64), false, (-1), []⟩)] []))) : (Int → Res) × (Unit → Res))) k) := loop_eq (fun v : Int × Int => (mkS 28 28 [(0, .val ⟨y7, false, a, [.S]⟩), (1, .val ⟨(.int .i64), false, v.1, []⟩), (5, .val ⟨(.int .i64), false, v.2, []⟩)] [])) (laws_szStringS_l0_s a) (fun (k : Kont Unit) => (((fun (left1 : Int) => k (.exit 0) (mkS 28 28 [(1, .val ⟨(.int .i64), false, left1, []⟩)] [])), (fun (_ : Unit) => k .ret (mkS 28 28 [(4, .val ⟨(.int .i64), false, (-1), []⟩)] []))) : (Int → Res) × (Unit → Res))) (fun v rec k => by kernel_rfl) n v k
theorem olaws_szStringS_l0 {W0 : Base} {M : Nat → Prop} (hnp : W0.np ≤ 0) : CodeOk Tryz.prog W0 M (Code.pl (Code.pr (Code.pl (Code.pr (Code.pr (Code.pr c_laws_szStringS)))))) xlaws_szStringS_l0 := show CodeOk Tryz.prog W0 M (Code.loop (Code.pl (Code.pl (Code.pr (Code.pl (Code.pr (Code.pr (Code.pr c_laws_szStringS)))))))) xlaws_szStringS_l0 from loop_ok (code_sound follows tysOk (calls_ok fns_nil) hnp [] (Code.pl (Code.pl (Code.pr (Code.pl (Code.pr (Code.pr (Code.pr c_laws_szStringS))))))) .o trivial) (ks := [0, 1, 5]) (bs := []) (fX := (cutC ([], []) [(0, [1], [])] ([4], []))) (cutC_le _ _ _) FUEL (by
 intro σ k r h
 obtain ⟨hn, h1⟩ := rdN_some h
 obtain ⟨a, hs0, h2⟩ := rdV_some h1
 obtain ⟨left, hs1, h3⟩ := rdV_some h2
 obtain ⟨i, hs5, h4⟩ := rdV_some h3
 refine ⟨_, ?_, (elaws_szStringS_l0 a FUEL (left, i) k).trans h4⟩
 exact mkS_le hn ⟨hs0, hs1, hs5, trivial⟩ trivial)
def laws_szStringS (a : List ByteArray) (left : Int) (k0 : Int → Res) : Res :=
 bif decide ((wi64 (left - (nI (List.length a)))) < 0) then
  k0 (-1)
 else
  laws_szStringS_l0 a FUEL (wi64 (left - (nI (List.length a)))) 0
   (fun (left1 : Int) =>
    k0 left1)
   (fun (_ : Unit) =>
    k0 (-1))
def s_laws_szStringS : Sig Unit := ⟨[.look y7 false, .look (.int .i64) false], [false], fun vals ext k => av vals y7 fun a vals => av vals (.int .i64) fun left vals => nl vals <| nl ext <| laws_szStringS a left (fun (r0 : Int) => k [⟨(.int .i64), false, r0, []⟩] [] [])⟩
theorem E_laws_szStringS (a : List ByteArray) (a_a : Bool) (t_a : List Tag) (left : Int) (a_left : Bool) (t_left : List Tag) (k : qK) : funC g_laws_szStringS [xlaws_szStringS_l0] (.t .o (.t .o (.t .o (.t (.t .o (.t (.x 0) .o)) .o)))) false Tryz.f50 [.look y7 false, .look (.int .i64) false] [false] [⟨y7, a_a, a, t_a⟩, ⟨(.int .i64), a_left, left, t_left⟩] [] k = laws_szStringS a left (fun (r0 : Int) => k [⟨(.int .i64), false, r0, []⟩] [] []) := by kernel_rfl
theorem S_laws_szStringS : Sound Tryz.prog 50 s_laws_szStringS := sound_of (Γ := g_laws_szStringS) (X := [xlaws_szStringS_l0]) (ht := (.t .o (.t .o (.t .o (.t (.t .o (.t (.x 0) .o)) .o))))) (fz := false) (c := c_laws_szStringS) follows tysOk fns_nil (OrOk.mk trivial ((OrOk.mk trivial ((OrOk.mk trivial ((OrOk.mk ((OrOk.mk trivial ((OrOk.mk (OrOk.x_mk (fun W0 M hnp => olaws_szStringS_l0 (W0 := W0) (M := M) hnp)) trivial)))) trivial))))))) Tryz.func50 (by kernel_rfl) (by kernel_rfl) (by decide) (by
 intro vals ext k r h
 obtain ⟨a, a_a, t_a, vals, rfl, h1⟩ := av_some h
 obtain ⟨left, a_left, t_left, vals, rfl, h2⟩ := av_some h1
 obtain ⟨rfl, h3⟩ := nl_some h2
 obtain ⟨rfl, h4⟩ := nl_some h3
 exact (E_laws_szStringS a a_a t_a left a_left t_left k).trans h4)

/-! ### 55 loop.example/g00462/laws.toStringS -/
def c_laws_toStringS : Code := (Tryz.f55.body).getD .skip
def g_laws_toStringS : Env Unit := ⟨tys, [], 0⟩
def laws_toStringS_l0_r (a : List ByteArray) (out : List ByteArray) (i : Int) (rec : (List ByteArray) → Int → Res) (k0 : (List ByteArray) → Res) : Res :=
 bif decide (i < (nI (List.length a))) then
  bif inb i (List.length a) then
   bif inb i (List.length out) then
    rec (upd out i (nth eS a i)) (wi64 (i + 1))
   else none
  else none
 else
  k0 out
def laws_toStringS_l0_s (a : List ByteArray) : ((List ByteArray) × Int) → ((List ByteArray) × Int → Res) → (((List ByteArray) → Res)) → Res := fun v rec q => laws_toStringS_l0_r a v.1 v.2 (fun out i => rec (out, i)) q
def laws_toStringS_l0 (a : List ByteArray) (n : Nat) (out : List ByteArray) (i : Int) (k0 : (List ByteArray) → Res) : Res := iter (laws_toStringS_l0_s a) n (out, i) (k0)
def xlaws_toStringS_l0 : Node Unit := fun σ k => rdN σ 22 <| rdV σ 0 y7 false [.S] fun a => rdV σ 3 y7 false [.O] fun out => rdV σ 4 (.int .i64) false [] fun i => laws_toStringS_l0 a FUEL out i (fun (out1 : List ByteArray) => k (.exit 0) (mkS 22 22 [(3, .val ⟨y7, false, out1, [.O]⟩)] []))
theorem elaws_toStringS_l0 (a : List ByteArray) (n : Nat) (v : (List ByteArray) × Int) (k : Kont Unit) : loopC (codeC g_laws_toStringS [] .o (Code.pl (Code.pl (Code.pr (Code.pl (Code.pr (Code.pr c_laws_toStringS))))))) (fun σ => σ.forget [0, 3, 4] []) (cutC ([], []) [(0, [3], [])] ([], [])) n (mkS 22 22 [(0, .val ⟨y7, false, a, [.S]⟩), (3, .val ⟨y7, false, v.1, [.O]⟩), (4, .val ⟨(.int .i64), false, v.2, []⟩)] []) k = iter (laws_toStringS_l0_s a) n v ((fun (k : Kont Unit) => (((fun (out1 : List ByteArray) => k (.exit 0) (mkS 22 22 [(3, .val ⟨y7, false, out1, [.O]⟩)] []))) : ((List ByteArray) → Res))) k) := loop_eq (fun v : (List ByteArray) × Int => (mkS 22 22 [(0, .val ⟨y7, false, a, [.S]⟩), (3, .val ⟨y7, false, v.1, [.O]⟩), (4, .val ⟨(.int .i64), false, v.2, []⟩)] [])) (laws_toStringS_l0_s a) (fun (k : Kont Unit) => (((fun (out1 : List ByteArray) => k (.exit 0) (mkS 22 22 [(3, .val ⟨y7, false, out1, [.O]⟩)] []))) : ((List ByteArray) → Res))) (fun v rec k => by kernel_rfl) n v k
theorem olaws_toStringS_l0 {W0 : Base} {M : Nat → Prop} (hnp : W0.np ≤ 0) : CodeOk Tryz.prog W0 M (Code.pl (Code.pr (Code.pl (Code.pr (Code.pr c_laws_toStringS))))) xlaws_toStringS_l0 := show CodeOk Tryz.prog W0 M (Code.loop (Code.pl (Code.pl (Code.pr (Code.pl (Code.pr (Code.pr c_laws_toStringS))))))) xlaws_toStringS_l0 from loop_ok (code_sound follows tysOk (calls_ok fns_nil) hnp [] (Code.pl (Code.pl (Code.pr (Code.pl (Code.pr (Code.pr c_laws_toStringS)))))) .o trivial) (ks := [0, 3, 4]) (bs := []) (fX := (cutC ([], []) [(0, [3], [])] ([], []))) (cutC_le _ _ _) FUEL (by
 intro σ k r h
 obtain ⟨hn, h1⟩ := rdN_some h
 obtain ⟨a, hs0, h2⟩ := rdV_some h1
 obtain ⟨out, hs3, h3⟩ := rdV_some h2
 obtain ⟨i, hs4, h4⟩ := rdV_some h3
 refine ⟨_, ?_, (elaws_toStringS_l0 a FUEL (out, i) k).trans h4⟩
 exact mkS_le hn ⟨hs0, hs3, hs4, trivial⟩ trivial)
def laws_toStringS (a : List ByteArray) (k0 : (List ByteArray) → Res) : Res :=
 bif mkOk (nI (List.length a)) (nI (List.length a)) then
  laws_toStringS_l0 a FUEL (repl (nI (List.length a)) eS) 0 fun (out : List ByteArray) =>
   k0 out
 else none
def s_laws_toStringS : Sig Unit := ⟨[.borrow y7 false], [false], fun vals ext k => av vals y7 fun a vals => nl vals <| nl ext <| laws_toStringS a (fun (r0 : List ByteArray) => k [⟨y7, false, r0, [.O]⟩] [] [])⟩
theorem E_laws_toStringS (a : List ByteArray) (a_a : Bool) (t_a : List Tag) (k : qK) : funC g_laws_toStringS [xlaws_toStringS_l0] (.t .o (.t .o (.t (.t .o (.t (.x 0) .o)) .o))) false Tryz.f55 [.borrow y7 false] [false] [⟨y7, a_a, a, t_a⟩] [] k = laws_toStringS a (fun (r0 : List ByteArray) => k [⟨y7, false, r0, [.O]⟩] [] []) := by kernel_rfl
theorem S_laws_toStringS : Sound Tryz.prog 55 s_laws_toStringS := sound_of (Γ := g_laws_toStringS) (X := [xlaws_toStringS_l0]) (ht := (.t .o (.t .o (.t (.t .o (.t (.x 0) .o)) .o)))) (fz := false) (c := c_laws_toStringS) follows tysOk fns_nil (OrOk.mk trivial ((OrOk.mk trivial ((OrOk.mk ((OrOk.mk trivial ((OrOk.mk (OrOk.x_mk (fun W0 M hnp => olaws_toStringS_l0 (W0 := W0) (M := M) hnp)) trivial)))) trivial))))) Tryz.func55 (by kernel_rfl) (by kernel_rfl) (by decide) (by
 intro vals ext k r h
 obtain ⟨a, a_a, t_a, vals, rfl, h1⟩ := av_some h
 obtain ⟨rfl, h2⟩ := nl_some h1
 obtain ⟨rfl, h3⟩ := nl_some h2
 exact (E_laws_toStringS a a_a t_a k).trans h3)

/-! ### 11 loop.example/g00462/laws.eqStringS -/
def c_laws_eqStringS : Code := (Tryz.f11.body).getD .skip
def g_laws_eqStringS : Env Unit := ⟨tys, [], 0⟩
def laws_eqStringS_l0_r (a : List ByteArray) (b : List ByteArray) (i : Int) (rec : Int → Res) (k0 : Unit → Res) (k1 : Unit → Res) : Res :=
 bif decide (i < (nI (List.length a))) then
  bif inb i (List.length a) then
   bif inb i (List.length b) then
    bif sNe (nth eS a i) (nth eS b i) then
     k1 ()
    else
     rec (wi64 (i + 1))
   else none
  else none
 else
  k0 ()
def laws_eqStringS_l0_s (a : List ByteArray) (b : List ByteArray) : Int → (Int → Res) → ((Unit → Res) × (Unit → Res)) → Res := fun v rec q => laws_eqStringS_l0_r a b v (fun i => rec (i)) q.1 q.2
def laws_eqStringS_l0 (a : List ByteArray) (b : List ByteArray) (n : Nat) (i : Int) (k0 : Unit → Res) (k1 : Unit → Res) : Res := iter (laws_eqStringS_l0_s a b) n (i) (k0, k1)
def xlaws_eqStringS_l0 : Node Unit := fun σ k => rdN σ 26 <| rdV σ 0 y7 false [.S] fun a => rdV σ 1 y7 false [.S] fun b => rdV σ 5 (.int .i64) false [] fun i => laws_eqStringS_l0 a b FUEL i (fun (_ : Unit) => k (.exit 0) (mkS 26 26 [] [])) (fun (_ : Unit) => k .ret (mkS 26 26 [(4, .val ⟨.bool, false, false, []⟩)] []))
theorem elaws_eqStringS_l0 (a : List ByteArray) (b : List ByteArray) (n : Nat) (v : Int) (k : Kont Unit) : loopC (codeC g_laws_eqStringS [] .o (Code.pl (Code.pl (Code.pr (Code.pl (Code.pr (Code.pr c_laws_eqStringS))))))) (fun σ => σ.forget [0, 1, 5] []) (cutC ([], []) [(0, [], [])] ([4], [])) n (mkS 26 26 [(0, .val ⟨y7, false, a, [.S]⟩), (1, .val ⟨y7, false, b, [.S]⟩), (5, .val ⟨(.int .i64), false, v, []⟩)] []) k = iter (laws_eqStringS_l0_s a b) n v ((fun (k : Kont Unit) => (((fun (_ : Unit) => k (.exit 0) (mkS 26 26 [] [])), (fun (_ : Unit) => k .ret (mkS 26 26 [(4, .val ⟨.bool, false, false, []⟩)] []))) : (Unit → Res) × (Unit → Res))) k) := loop_eq (fun v : Int => (mkS 26 26 [(0, .val ⟨y7, false, a, [.S]⟩), (1, .val ⟨y7, false, b, [.S]⟩), (5, .val ⟨(.int .i64), false, v, []⟩)] [])) (laws_eqStringS_l0_s a b) (fun (k : Kont Unit) => (((fun (_ : Unit) => k (.exit 0) (mkS 26 26 [] [])), (fun (_ : Unit) => k .ret (mkS 26 26 [(4, .val ⟨.bool, false, false, []⟩)] []))) : (Unit → Res) × (Unit → Res))) (fun v rec k => by kernel_rfl) n v k
theorem olaws_eqStringS_l0 {W0 : Base} {M : Nat → Prop} (hnp : W0.np ≤ 0) : CodeOk Tryz.prog W0 M (Code.pl (Code.pr (Code.pl (Code.pr (Code.pr c_laws_eqStringS))))) xlaws_eqStringS_l0 := show CodeOk Tryz.prog W0 M (Code.loop (Code.pl (Code.pl (Code.pr (Code.pl (Code.pr (Code.pr c_laws_eqStringS))))))) xlaws_eqStringS_l0 from loop_ok (code_sound follows tysOk (calls_ok fns_nil) hnp [] (Code.pl (Code.pl (Code.pr (Code.pl (Code.pr (Code.pr c_laws_eqStringS)))))) .o trivial) (ks := [0, 1, 5]) (bs := []) (fX := (cutC ([], []) [(0, [], [])] ([4], []))) (cutC_le _ _ _) FUEL (by
 intro σ k r h
 obtain ⟨hn, h1⟩ := rdN_some h
 obtain ⟨a, hs0, h2⟩ := rdV_some h1
 obtain ⟨b, hs1, h3⟩ := rdV_some h2
 obtain ⟨i, hs5, h4⟩ := rdV_some h3
 refine ⟨_, ?_, (elaws_eqStringS_l0 a b FUEL (i) k).trans h4⟩
 exact mkS_le hn ⟨hs0, hs1, hs5, trivial⟩ trivial)
def laws_eqStringS (a : List ByteArray) (b : List ByteArray) (k0 : Bool → Res) : Res :=
 bif ((nI (List.length a)) != (nI (List.length b))) then
  k0 false
 else
  laws_eqStringS_l0 a b FUEL 0
   (fun (_ : Unit) =>
    k0 true)
   (fun (_ : Unit) =>
    k0 false)
def s_laws_eqStringS : Sig Unit := ⟨[.look y7 false, .look y7 false], [false], fun vals ext k => av vals y7 fun a vals => av vals y7 fun b vals => nl vals <| nl ext <| laws_eqStringS a b (fun (r0 : Bool) => k [⟨.bool, false, r0, []⟩] [] [])⟩
theorem E_laws_eqStringS (a : List ByteArray) (a_a : Bool) (t_a : List Tag) (b : List ByteArray) (a_b : Bool) (t_b : List Tag) (k : qK) : funC g_laws_eqStringS [xlaws_eqStringS_l0] (.t .o (.t .o (.t (.t .o (.t (.x 0) .o)) .o))) false Tryz.f11 [.look y7 false, .look y7 false] [false] [⟨y7, a_a, a, t_a⟩, ⟨y7, a_b, b, t_b⟩] [] k = laws_eqStringS a b (fun (r0 : Bool) => k [⟨.bool, false, r0, []⟩] [] []) := by kernel_rfl
theorem S_laws_eqStringS : Sound Tryz.prog 11 s_laws_eqStringS := sound_of (Γ := g_laws_eqStringS) (X := [xlaws_eqStringS_l0]) (ht := (.t .o (.t .o (.t (.t .o (.t (.x 0) .o)) .o)))) (fz := false) (c := c_laws_eqStringS) follows tysOk fns_nil (OrOk.mk trivial ((OrOk.mk trivial ((OrOk.mk ((OrOk.mk trivial ((OrOk.mk (OrOk.x_mk (fun W0 M hnp => olaws_eqStringS_l0 (W0 := W0) (M := M) hnp)) trivial)))) trivial))))) Tryz.func11 (by kernel_rfl) (by kernel_rfl) (by decide) (by
 intro vals ext k r h
 obtain ⟨a, a_a, t_a, vals, rfl, h1⟩ := av_some h
 obtain ⟨b, a_b, t_b, vals, rfl, h2⟩ := av_some h1
 obtain ⟨rfl, h3⟩ := nl_some h2
 obtain ⟨rfl, h4⟩ := nl_some h3
 exact (E_laws_eqStringS a a_a t_a b a_b t_b k).trans h4)

/-! ### 14 loop.example/g00462/laws.markStringS -/
def c_laws_markStringS : Code := (Tryz.f14.body).getD .skip
def g_laws_markStringS : Env Unit := ⟨tys, [(49, s_laws_markText)], 1⟩
def laws_markStringS_l0_r (a : List ByteArray) (k_ : Int) (i : Int) (rec : (List ByteArray) → Int → Int → Res) (k0 : (List ByteArray) → Int → Res) : Res :=
 bif decide (i < (nI (List.length a))) then
  laws_markText k_ fun (r : ByteArray) =>
   bif inb i (List.length a) then
    rec (upd a i r) (wi64 (k_ + 1)) (wi64 (i + 1))
   else none
 else
  k0 a k_
def laws_markStringS_l0_s : ((List ByteArray) × Int × Int) → ((List ByteArray) × Int × Int → Res) → (((List ByteArray) → Int → Res)) → Res := fun v rec q => laws_markStringS_l0_r v.1 v.2.1 v.2.2 (fun a k_ i => rec (a, k_, i)) q
def laws_markStringS_l0 (n : Nat) (a : List ByteArray) (k_ : Int) (i : Int) (k0 : (List ByteArray) → Int → Res) : Res := iter (laws_markStringS_l0_s) n (a, k_, i) (k0)
def xlaws_markStringS_l0 : Node Unit := fun σ k => rdN σ 20 <| rdV σ 0 y7 false [.O] fun a => rdV σ 1 (.int .i64) false [] fun k_ => rdV σ 5 (.int .i64) false [] fun i => laws_markStringS_l0 FUEL a k_ i (fun (a1 : List ByteArray) (k_1 : Int) => k (.exit 0) (mkS 20 20 [(0, .val ⟨y7, false, a1, [.O]⟩), (1, .val ⟨(.int .i64), false, k_1, []⟩)] []))
theorem elaws_markStringS_l0  (n : Nat) (v : (List ByteArray) × Int × Int) (k : Kont Unit) : loopC (codeC g_laws_markStringS [] .o (Code.pl (Code.pl (Code.pr (Code.pl (Code.pr c_laws_markStringS)))))) (fun σ => σ.forget [0, 1, 5] []) (cutC ([], []) [(0, [0, 1], [])] ([], [])) n (mkS 20 20 [(0, .val ⟨y7, false, v.1, [.O]⟩), (1, .val ⟨(.int .i64), false, v.2.1, []⟩), (5, .val ⟨(.int .i64), false, v.2.2, []⟩)] []) k = iter (laws_markStringS_l0_s) n v ((fun (k : Kont Unit) => (((fun (a1 : List ByteArray) (k_1 : Int) => k (.exit 0) (mkS 20 20 [(0, .val ⟨y7, false, a1, [.O]⟩), (1, .val ⟨(.int .i64), false, k_1, []⟩)] []))) : ((List ByteArray) → Int → Res))) k) := loop_eq (fun v : (List ByteArray) × Int × Int => (mkS 20 20 [(0, .val ⟨y7, false, v.1, [.O]⟩), (1, .val ⟨(.int .i64), false, v.2.1, []⟩), (5, .val ⟨(.int .i64), false, v.2.2, []⟩)] [])) (laws_markStringS_l0_s) (fun (k : Kont Unit) => (((fun (a1 : List ByteArray) (k_1 : Int) => k (.exit 0) (mkS 20 20 [(0, .val ⟨y7, false, a1, [.O]⟩), (1, .val ⟨(.int .i64), false, k_1, []⟩)] []))) : ((List ByteArray) → Int → Res))) (fun v rec k => by kernel_rfl) n v k
theorem olaws_markStringS_l0 {W0 : Base} {M : Nat → Prop} (hnp : W0.np ≤ 1) : CodeOk Tryz.prog W0 M (Code.pl (Code.pr (Code.pl (Code.pr c_laws_markStringS)))) xlaws_markStringS_l0 := show CodeOk Tryz.prog W0 M (Code.loop (Code.pl (Code.pl (Code.pr (Code.pl (Code.pr c_laws_markStringS)))))) xlaws_markStringS_l0 from loop_ok (code_sound follows tysOk (calls_ok (fns_cons S_laws_markText fns_nil)) hnp [] (Code.pl (Code.pl (Code.pr (Code.pl (Code.pr c_laws_markStringS))))) .o trivial) (ks := [0, 1, 5]) (bs := []) (fX := (cutC ([], []) [(0, [0, 1], [])] ([], []))) (cutC_le _ _ _) FUEL (by
 intro σ k r h
 obtain ⟨hn, h1⟩ := rdN_some h
 obtain ⟨a, hs0, h2⟩ := rdV_some h1
 obtain ⟨k_, hs1, h3⟩ := rdV_some h2
 obtain ⟨i, hs5, h4⟩ := rdV_some h3
 refine ⟨_, ?_, (elaws_markStringS_l0  FUEL (a, k_, i) k).trans h4⟩
 exact mkS_le hn ⟨hs0, hs1, hs5, trivial⟩ trivial)
def laws_markStringS (a : List ByteArray) (k_ : Int) (k0 : Int → (List ByteArray) → Res) : Res :=
 laws_markStringS_l0 FUEL a k_ 0 fun (a1 : List ByteArray) (k_1 : Int) =>
  k0 k_1 a1
def s_laws_markStringS : Sig Unit := ⟨[.inout y7 false, .borrow (.int .i64) false], [false], fun vals ext k => ao vals y7 [.O] fun a vals => av vals (.int .i64) fun k_ vals => nl vals <| nl ext <| laws_markStringS a k_ (fun (r0 : Int) (i0 : List ByteArray) => k [⟨(.int .i64), false, r0, []⟩] [⟨y7, false, i0, [.O]⟩] [])⟩
theorem E_laws_markStringS (a_a : Bool) (a : List ByteArray) (k_ : Int) (a_k_ : Bool) (t_k_ : List Tag) (k : qK) : funC g_laws_markStringS [xlaws_markStringS_l0] (.t .o (.t (.t .o (.t (.x 0) .o)) .o)) false Tryz.f14 [.inout y7 false, .borrow (.int .i64) false] [false] [⟨y7, a_a, a, [.O]⟩, ⟨(.int .i64), a_k_, k_, t_k_⟩] [] k = laws_markStringS a k_ (fun (r0 : Int) (i0 : List ByteArray) => k [⟨(.int .i64), false, r0, []⟩] [⟨y7, false, i0, [.O]⟩] []) := by kernel_rfl
theorem S_laws_markStringS : Sound Tryz.prog 14 s_laws_markStringS := sound_of (Γ := g_laws_markStringS) (X := [xlaws_markStringS_l0]) (ht := (.t .o (.t (.t .o (.t (.x 0) .o)) .o))) (fz := false) (c := c_laws_markStringS) follows tysOk (fns_cons S_laws_markText fns_nil) (OrOk.mk trivial ((OrOk.mk ((OrOk.mk trivial ((OrOk.mk (OrOk.x_mk (fun W0 M hnp => olaws_markStringS_l0 (W0 := W0) (M := M) hnp)) trivial)))) trivial))) Tryz.func14 (by kernel_rfl) (by kernel_rfl) (by decide) (by
 intro vals ext k r h
 obtain ⟨a_a, a, vals, rfl, h1⟩ := ao_some h
 obtain ⟨k_, a_k_, t_k_, vals, rfl, h2⟩ := av_some h1
 obtain ⟨rfl, h3⟩ := nl_some h2
 obtain ⟨rfl, h4⟩ := nl_some h3
 exact (E_laws_markStringS a_a a k_ a_k_ t_k_ k).trans h4)

/-! ### 15 loop.example/g00462/laws.heldStringS -/
def c_laws_heldStringS : Code := (Tryz.f15.body).getD .skip
def g_laws_heldStringS : Env Unit := ⟨tys, [(49, s_laws_markText)], 0⟩
def laws_heldStringS_l0_r (a : List ByteArray) (k_ : Int) (i : Int) (rec : Int → Int → Res) (k0 : Int → Res) (k1 : Unit → Res) : Res :=
 bif decide (i < (nI (List.length a))) then
  bif inb i (List.length a) then
   laws_markText k_ fun (r : ByteArray) =>
    bif sNe (nth eS a i) r then
     k1 ()
    else
     rec (wi64 (k_ + 1)) (wi64 (i + 1))
  else none
 else
  k0 k_
def laws_heldStringS_l0_s (a : List ByteArray) : (Int × Int) → (Int × Int → Res) → ((Int → Res) × (Unit → Res)) → Res := fun v rec q => laws_heldStringS_l0_r a v.1 v.2 (fun k_ i => rec (k_, i)) q.1 q.2
def laws_heldStringS_l0 (a : List ByteArray) (n : Nat) (k_ : Int) (i : Int) (k0 : Int → Res) (k1 : Unit → Res) : Res := iter (laws_heldStringS_l0_s a) n (k_, i) (k0, k1)
def xlaws_heldStringS_l0 : Node Unit := fun σ k => rdN σ 22 <| rdV σ 0 y7 false [.S] fun a => rdV σ 1 (.int .i64) false [] fun k_ => rdV σ 5 (.int .i64) false [] fun i => laws_heldStringS_l0 a FUEL k_ i (fun (k_1 : Int) => k (.exit 0) (mkS 22 22 [(1, .val ⟨(.int .i64), false, k_1, []⟩)] [])) (fun (_ : Unit) => k .ret (mkS 22 22 [(4, .val ⟨(.int .i64), false, (-1), []⟩)] []))
theorem elaws_heldStringS_l0 (a : List ByteArray) (n : Nat) (v : Int × Int) (k : Kont Unit) : loopC (codeC g_laws_heldStringS [] .o (Code.pl (Code.pl (Code.pr (Code.pl (Code.pr c_laws_heldStringS)))))) (fun σ => σ.forget [0, 1, 5] []) (cutC ([], []) [(0, [1], [])] ([4], [])) n (mkS 22 22 [(0, .val ⟨y7, false, a, [.S]⟩), (1, .val ⟨(.int .i64), false, v.1, []⟩), (5, .val ⟨(.int .i64), false, v.2, []⟩)] []) k = iter (laws_heldStringS_l0_s a) n v ((fun (k : Kont Unit) => (((fun (k_1 : Int) => k (.exit 0) (mkS 22 22 [(1, .val ⟨(.int .i64), false, k_1, []⟩)] [])), (fun (_ : Unit) => k .ret (mkS 22 22 [(4, .val ⟨(.int .i64), false, (-1), []⟩)] []))) : (Int → Res) × (Unit → Res))) k) := loop_eq (fun v : Int × Int => (mkS 22 22 [(0, .val ⟨y7, false, a, [.S]⟩), (1, .val ⟨(.int .i64), false, v.1, []⟩), (5, .val ⟨(.int .i64), false, v.2, []⟩)] [])) (laws_heldStringS_l0_s a) (fun (k : Kont Unit) => (((fun (k_1 : Int) => k (.exit 0) (mkS 22 22 [(1, .val ⟨(.int .i64), false, k_1, []⟩)] [])), (fun (_ : Unit) => k .ret (mkS 22 22 [(4, .val ⟨(.int .i64), false, (-1), []⟩)] []))) : (Int → Res) × (Unit → Res))) (fun v rec k => by kernel_rfl) n v k
theorem olaws_heldStringS_l0 {W0 : Base} {M : Nat → Prop} (hnp : W0.np ≤ 0) : CodeOk Tryz.prog W0 M (Code.pl (Code.pr (Code.pl (Code.pr c_laws_heldStringS)))) xlaws_heldStringS_l0 := show CodeOk Tryz.prog W0 M (Code.loop (Code.pl (Code.pl (Code.pr (Code.pl (Code.pr c_laws_heldStringS)))))) xlaws_heldStringS_l0 from loop_ok (code_sound follows tysOk (calls_ok (fns_cons S_laws_markText fns_nil)) hnp [] (Code.pl (Code.pl (Code.pr (Code.pl (Code.pr c_laws_heldStringS))))) .o trivial) (ks := [0, 1, 5]) (bs := []) (fX := (cutC ([], []) [(0, [1], [])] ([4], []))) (cutC_le _ _ _) FUEL (by
 intro σ k r h
 obtain ⟨hn, h1⟩ := rdN_some h
 obtain ⟨a, hs0, h2⟩ := rdV_some h1
 obtain ⟨k_, hs1, h3⟩ := rdV_some h2
 obtain ⟨i, hs5, h4⟩ := rdV_some h3
 refine ⟨_, ?_, (elaws_heldStringS_l0 a FUEL (k_, i) k).trans h4⟩
 exact mkS_le hn ⟨hs0, hs1, hs5, trivial⟩ trivial)
def laws_heldStringS (a : List ByteArray) (k_ : Int) (k0 : Int → Res) : Res :=
 laws_heldStringS_l0 a FUEL k_ 0
  (fun (k_1 : Int) =>
   k0 k_1)
  (fun (_ : Unit) =>
   k0 (-1))
def s_laws_heldStringS : Sig Unit := ⟨[.look y7 false, .look (.int .i64) false], [false], fun vals ext k => av vals y7 fun a vals => av vals (.int .i64) fun k_ vals => nl vals <| nl ext <| laws_heldStringS a k_ (fun (r0 : Int) => k [⟨(.int .i64), false, r0, []⟩] [] [])⟩
theorem E_laws_heldStringS (a : List ByteArray) (a_a : Bool) (t_a : List Tag) (k_ : Int) (a_k_ : Bool) (t_k_ : List Tag) (k : qK) : funC g_laws_heldStringS [xlaws_heldStringS_l0] (.t .o (.t (.t .o (.t (.x 0) .o)) .o)) false Tryz.f15 [.look y7 false, .look (.int .i64) false] [false] [⟨y7, a_a, a, t_a⟩, ⟨(.int .i64), a_k_, k_, t_k_⟩] [] k = laws_heldStringS a k_ (fun (r0 : Int) => k [⟨(.int .i64), false, r0, []⟩] [] []) := by kernel_rfl
theorem S_laws_heldStringS : Sound Tryz.prog 15 s_laws_heldStringS := sound_of (Γ := g_laws_heldStringS) (X := [xlaws_heldStringS_l0]) (ht := (.t .o (.t (.t .o (.t (.x 0) .o)) .o))) (fz := false) (c := c_laws_heldStringS) follows tysOk (fns_cons S_laws_markText fns_nil) (OrOk.mk trivial ((OrOk.mk ((OrOk.mk trivial ((OrOk.mk (OrOk.x_mk (fun W0 M hnp => olaws_heldStringS_l0 (W0 := W0) (M := M) hnp)) trivial)))) trivial))) Tryz.func15 (by kernel_rfl) (by kernel_rfl) (by decide) (by
 intro vals ext k r h
 obtain ⟨a, a_a, t_a, vals, rfl, h1⟩ := av_some h
 obtain ⟨k_, a_k_, t_k_, vals, rfl, h2⟩ := av_some h1
 obtain ⟨rfl, h3⟩ := nl_some h2
 obtain ⟨rfl, h4⟩ := nl_some h3
 exact (E_laws_heldStringS a a_a t_a k_ a_k_ t_k_ k).trans h4)
end Go.PI.G
end
noncomputable section
namespace Go.PI.G
open Go Go.PI Go.Proofs

/-! ### 131 loop.example/g00462/laws.szTable -/
def c_laws_szTable : Code := (Tryz.f131.body).getD .skip
def g_laws_szTable : Env Unit := ⟨tys, [(50, s_laws_szStringS), (164, s_laws_szColS)], 0⟩
def laws_szTable (a : ByteArray × qE × List ByteArray) (left : Int) (k0 : Int → Res) : Res :=
 bif decide ((wi64 (left - (nI (ByteArray.size a.1)))) < 0) then
  k0 (-1)
 else
  laws_szColS a.2.1 (wi64 (left - (nI (ByteArray.size a.1)))) fun (r : Int) =>
   bif decide (r < 0) then
    k0 (-1)
   else
    laws_szStringS a.2.2 r fun (r1 : Int) =>
     bif decide (r1 < 0) then
      k0 (-1)
     else
      k0 r1
def s_laws_szTable : Sig Unit := ⟨[.look y9 true, .look (.int .i64) false], [false], fun vals ext k => av vals y9 fun a vals => av vals (.int .i64) fun left vals => nl vals <| nl ext <| laws_szTable a left (fun (r0 : Int) => k [⟨(.int .i64), false, r0, []⟩] [] [])⟩
theorem E_laws_szTable (a : ByteArray × qE × List ByteArray) (a_a : Bool) (t_a : List Tag) (left : Int) (a_left : Bool) (t_left : List Tag) (k : qK) : funC g_laws_szTable [] .o false Tryz.f131 [.look y9 true, .look (.int .i64) false] [false] [⟨y9, a_a, a, t_a⟩, ⟨(.int .i64), a_left, left, t_left⟩] [] k = laws_szTable a left (fun (r0 : Int) => k [⟨(.int .i64), false, r0, []⟩] [] []) := by kernel_rfl
theorem S_laws_szTable : Sound Tryz.prog 131 s_laws_szTable := sound_of (Γ := g_laws_szTable) (X := []) (ht := .o) (fz := false) (c := c_laws_szTable) follows tysOk (fns_cons S_laws_szStringS (fns_cons S_laws_szColS fns_nil)) trivial Tryz.func131 (by kernel_rfl) (by kernel_rfl) (by decide) (by
 intro vals ext k r h
 obtain ⟨a, a_a, t_a, vals, rfl, h1⟩ := av_some h
 obtain ⟨left, a_left, t_left, vals, rfl, h2⟩ := av_some h1
 obtain ⟨rfl, h3⟩ := nl_some h2
 obtain ⟨rfl, h4⟩ := nl_some h3
 exact (E_laws_szTable a a_a t_a left a_left t_left k).trans h4)

/-! ### 137 loop.example/g00462/laws.toTable -/
def c_laws_toTable : Code := (Tryz.f137.body).getD .skip
def g_laws_toTable : Env Unit := ⟨tys, [(55, s_laws_toStringS), (171, s_laws_toColS)], 0⟩
def laws_toTable (a : ByteArray × qE × List ByteArray) (k0 : qT → Res) : Res :=
 laws_toColS a.2.1 fun (r : List qC) =>
  laws_toStringS a.2.2 fun (r1 : List ByteArray) =>
   k0 (a.1, r, r1)
def s_laws_toTable : Sig Unit := ⟨[.borrow y9 true], [true], fun vals ext k => av vals y9 fun a vals => nl vals <| nl ext <| laws_toTable a (fun (r0 : ByteArray × qE × List ByteArray) => k [⟨y9, true, r0, [.O, .O]⟩] [] [])⟩
theorem E_laws_toTable (a : ByteArray × qE × List ByteArray) (a_a : Bool) (t_a : List Tag) (k : qK) : funC g_laws_toTable [] .o false Tryz.f137 [.borrow y9 true] [true] [⟨y9, a_a, a, t_a⟩] [] k = laws_toTable a (fun (r0 : ByteArray × qE × List ByteArray) => k [⟨y9, true, r0, [.O, .O]⟩] [] []) := by kernel_rfl
theorem S_laws_toTable : Sound Tryz.prog 137 s_laws_toTable := sound_of (Γ := g_laws_toTable) (X := []) (ht := .o) (fz := false) (c := c_laws_toTable) follows tysOk (fns_cons S_laws_toStringS (fns_cons S_laws_toColS fns_nil)) trivial Tryz.func137 (by kernel_rfl) (by kernel_rfl) (by decide) (by
 intro vals ext k r h
 obtain ⟨a, a_a, t_a, vals, rfl, h1⟩ := av_some h
 obtain ⟨rfl, h2⟩ := nl_some h1
 obtain ⟨rfl, h3⟩ := nl_some h2
 exact (E_laws_toTable a a_a t_a k).trans h3)

/-! ### 144 loop.example/g00462/laws.eqTable -/
def c_laws_eqTable : Code := (Tryz.f144.body).getD .skip
def g_laws_eqTable : Env Unit := ⟨tys, [(11, s_laws_eqStringS), (163, s_laws_eqColS)], 0⟩
def laws_eqTable (a : ByteArray × qE × List ByteArray) (b : ByteArray × qE × List ByteArray) (k0 : Bool → Res) : Res :=
 bif sNe a.1 b.1 then
  k0 false
 else
  laws_eqColS a.2.1 b.2.1 fun (r : Bool) =>
   bif !r then
    k0 false
   else
    laws_eqStringS a.2.2 b.2.2 fun (r1 : Bool) =>
     bif !r1 then
      k0 false
     else
      k0 true
def s_laws_eqTable : Sig Unit := ⟨[.look y9 true, .look y9 true], [false], fun vals ext k => av vals y9 fun a vals => av vals y9 fun b vals => nl vals <| nl ext <| laws_eqTable a b (fun (r0 : Bool) => k [⟨.bool, false, r0, []⟩] [] [])⟩
theorem E_laws_eqTable (a : ByteArray × qE × List ByteArray) (a_a : Bool) (t_a : List Tag) (b : ByteArray × qE × List ByteArray) (a_b : Bool) (t_b : List Tag) (k : qK) : funC g_laws_eqTable [] .o false Tryz.f144 [.look y9 true, .look y9 true] [false] [⟨y9, a_a, a, t_a⟩, ⟨y9, a_b, b, t_b⟩] [] k = laws_eqTable a b (fun (r0 : Bool) => k [⟨.bool, false, r0, []⟩] [] []) := by kernel_rfl
theorem S_laws_eqTable : Sound Tryz.prog 144 s_laws_eqTable := sound_of (Γ := g_laws_eqTable) (X := []) (ht := .o) (fz := false) (c := c_laws_eqTable) follows tysOk (fns_cons S_laws_eqStringS (fns_cons S_laws_eqColS fns_nil)) trivial Tryz.func144 (by kernel_rfl) (by kernel_rfl) (by decide) (by
 intro vals ext k r h
 obtain ⟨a, a_a, t_a, vals, rfl, h1⟩ := av_some h
 obtain ⟨b, a_b, t_b, vals, rfl, h2⟩ := av_some h1
 obtain ⟨rfl, h3⟩ := nl_some h2
 obtain ⟨rfl, h4⟩ := nl_some h3
 exact (E_laws_eqTable a a_a t_a b a_b t_b k).trans h4)
end Go.PI.G
end
noncomputable section
namespace Go.PI.G
open Go Go.PI Go.Proofs

/-! ### 83 loop.example/g00462/laws.szTableS -/
def c_laws_szTableS : Code := (Tryz.f83.body).getD .skip
def g_laws_szTableS : Env Unit := ⟨tys, [(131, s_laws_szTable)], 0⟩
def laws_szTableS_l0_r (a : List qT) (left : Int) (i : Int) (rec : Int → Int → Res) (k0 : Int → Res) (k1 : Unit → Res) : Res :=
 bif decide (i < (nI (List.length a))) then
  bif inb i (List.length a) then
   laws_szTable (nth (eS, [], []) a i) left fun (r : Int) =>
    bif decide (r < 0) then
     k1 ()
    else
     rec r (wi64 (i + 1))
  else none
 else
  k0 left
def laws_szTableS_l0_s (a : List qT) : (Int × Int) → (Int × Int → Res) → ((Int → Res) × (Unit → Res)) → Res := fun v rec q => laws_szTableS_l0_r a v.1 v.2 (fun left i => rec (left, i)) q.1 q.2
def laws_szTableS_l0 (a : List qT) (n : Nat) (left : Int) (i : Int) (k0 : Int → Res) (k1 : Unit → Res) : Res := iter (laws_szTableS_l0_s a) n (left, i) (k0, k1)
def xlaws_szTableS_l0 : Node Unit := fun σ k => rdN σ 27 <| rdV σ 0 y10 false [.S] fun a => rdV σ 1 (.int .i64) false [] fun left => rdV σ 5 (.int .i64) false [] fun i => laws_szTableS_l0 a FUEL left i (fun (left1 : Int) => k (.exit 0) (mkS 27 27 [(1, .val ⟨(.int .i64), false, left1, []⟩)] [])) (fun (_ : Unit) => k .ret (mkS 27 27 [(4, .val ⟨(.int .i64), false, (-1), []⟩)] []))
theorem elaws_szTableS_l0 (a : List qT) (n : Nat) (v : Int × Int) (k : Kont Unit) : loopC (codeC g_laws_szTableS [] .o (Code.pl (Code.pl (Code.pr (Code.pl (Code.pr (Code.pr (Code.pr c_laws_szTableS)))))))) (fun σ => σ.forget [0, 1, 5] []) (cutC ([], []) [(0, [1], [])] ([4], [])) n (mkS 27 27 [(0, .val ⟨y10, false, a, [.S]⟩), (1, .val ⟨(.int .i64), false, v.1, []⟩), (5, .val ⟨(.int .i64), false, v.2, []⟩)] []) k = iter (laws_szTableS_l0_s a) n v ((fun (k : Kont Unit) => (((fun (left1 : Int) => k (.exit 0) (mkS 27 27 [(1, .val ⟨(.int .i64), false, left1, []⟩)] [])), (fun (_ : Unit) => k .ret (mkS 27 27 [(4, .val ⟨(.int .i64), false, (-1), []⟩)] []))) : (Int → Res) × (Unit → Res))) k) := loop_eq (fun v : Int × Int => (mkS 27 27 [(0, .val ⟨y10, false, a, [.S]⟩), (1, .val ⟨(.int .i64), false, v.1, []⟩), (5, .val ⟨(.int .i64), false, v.2, []⟩)] [])) (laws_szTableS_l0_s a) (fun (k : Kont Unit) => (((fun (left1 : Int) => k (.exit 0) (mkS 27 27 [(1, .val ⟨(.int .i64), false, left1, []⟩)] [])), (fun (_ : Unit) => k .ret (mkS 27 27 [(4, .val ⟨(.int .i64), false, (-1), []⟩)] []))) : (Int → Res) × (Unit → Res))) (fun v rec k => by kernel_rfl) n v k
theorem olaws_szTableS_l0 {W0 : Base} {M : Nat → Prop} (hnp : W0.np ≤ 0) : CodeOk Tryz.prog W0 M (Code.pl (Code.pr (Code.pl (Code.pr (Code.pr (Code.pr c_laws_szTableS)))))) xlaws_szTableS_l0 := show CodeOk Tryz.prog W0 M (Code.loop (Code.pl (Code.pl (Code.pr (Code.pl (Code.pr (Code.pr (Code.pr c_laws_szTableS)))))))) xlaws_szTableS_l0 from loop_ok (code_sound follows tysOk (calls_ok (fns_cons S_laws_szTable fns_nil)) hnp [] (Code.pl (Code.pl (Code.pr (Code.pl (Code.pr (Code.pr (Code.pr c_laws_szTableS))))))) .o trivial) (ks := [0, 1, 5]) (bs := []) (fX := (cutC ([], []) [(0, [1], [])] ([4], []))) (cutC_le _ _ _) FUEL (by
 intro σ k r h
 obtain ⟨hn, h1⟩ := rdN_some h
 obtain ⟨a, hs0, h2⟩ := rdV_some h1
 obtain ⟨left, hs1, h3⟩ := rdV_some h2
 obtain ⟨i, hs5, h4⟩ := rdV_some h3
 refine ⟨_, ?_, (elaws_szTableS_l0 a FUEL (left, i) k).trans h4⟩
 exact mkS_le hn ⟨hs0, hs1, hs5, trivial⟩ trivial)
def laws_szTableS (a : List qT) (left : Int) (k0 : Int → Res) : Res :=
 bif decide ((wi64 (left - (nI (List.length a)))) < 0) then
  k0 (-1)
 else
  laws_szTableS_l0 a FUEL (wi64 (left - (nI (List.length a)))) 0
   (fun (left1 : Int) =>
    k0 left1)
   (fun (_ : Unit) =>
    k0 (-1))
def s_laws_szTableS : Sig Unit := ⟨[.look y10 false, .look (.int .i64) false], [false], fun vals ext k => av vals y10 fun a vals => av vals (.int .i64) fun left vals => nl vals <| nl ext <| laws_szTableS a left (fun (r0 : Int) => k [⟨(.int .i64), false, r0, []⟩] [] [])⟩
theorem E_laws_szTableS (a : List qT) (a_a : Bool) (t_a : List Tag) (left : Int) (a_left : Bool) (t_left : List Tag) (k : qK) : funC g_laws_szTableS [xlaws_szTableS_l0] (.t .o (.t .o (.t .o (.t (.t .o (.t (.x 0) .o)) .o)))) false Tryz.f83 [.look y10 false, .look (.int .i64) false] [false] [⟨y10, a_a, a, t_a⟩, ⟨(.int .i64), a_left, left, t_left⟩] [] k = laws_szTableS a left (fun (r0 : Int) => k [⟨(.int .i64), false, r0, []⟩] [] []) := by kernel_rfl
theorem S_laws_szTableS : Sound Tryz.prog 83 s_laws_szTableS := sound_of (Γ := g_laws_szTableS) (X := [xlaws_szTableS_l0]) (ht := (.t .o (.t .o (.t .o (.t (.t .o (.t (.x 0) .o)) .o))))) (fz := false) (c := c_laws_szTableS) follows tysOk (fns_cons S_laws_szTable fns_nil) (OrOk.mk trivial ((OrOk.mk trivial ((OrOk.mk trivial ((OrOk.mk ((OrOk.mk trivial ((OrOk.mk (OrOk.x_mk (fun W0 M hnp => olaws_szTableS_l0 (W0 := W0) (M := M) hnp)) trivial)))) trivial))))))) Tryz.func83 (by kernel_rfl) (by kernel_rfl) (by decide) (by
 intro vals ext k r h
 obtain ⟨a, a_a, t_a, vals, rfl, h1⟩ := av_some h
 obtain ⟨left, a_left, t_left, vals, rfl, h2⟩ := av_some h1
 obtain ⟨rfl, h3⟩ := nl_some h2
 obtain ⟨rfl, h4⟩ := nl_some h3
 exact (E_laws_szTableS a a_a t_a left a_left t_left k).trans h4)

/-! ### 88 loop.example/g00462/laws.toTableS -/
def c_laws_toTableS : Code := (Tryz.f88.body).getD .skip
def g_laws_toTableS : Env Unit := ⟨tys, [(137, s_laws_toTable)], 0⟩
def laws_toTableS_l0_r (a : List qT) (out : List qT) (i : Int) (rec : qF → Int → Res) (k0 : qF → Res) : Res :=
 bif decide (i < (nI (List.length a))) then
  bif inb i (List.length a) then
   laws_toTable (nth (eS, [], []) a i) fun (r : ByteArray × qE × List ByteArray) =>
    bif inb i (List.length out) then
     rec (upd out i r) (wi64 (i + 1))
    else none
  else none
 else
  k0 out
def laws_toTableS_l0_s (a : List qT) : (qF × Int) → (qF × Int → Res) → ((qF → Res)) → Res := fun v rec q => laws_toTableS_l0_r a v.1 v.2 (fun out i => rec (out, i)) q
def laws_toTableS_l0 (a : List qT) (n : Nat) (out : List qT) (i : Int) (k0 : qF → Res) : Res := iter (laws_toTableS_l0_s a) n (out, i) (k0)
def xlaws_toTableS_l0 : Node Unit := fun σ k => rdN σ 23 <| rdV σ 0 y10 false [.S] fun a => rdV σ 3 y10 false [.O] fun out => rdV σ 4 (.int .i64) false [] fun i => laws_toTableS_l0 a FUEL out i (fun (out1 : List qT) => k (.exit 0) (mkS 23 23 [(3, .val ⟨y10, false, out1, [.O]⟩)] []))
theorem elaws_toTableS_l0 (a : List qT) (n : Nat) (v : qF × Int) (k : Kont Unit) : loopC (codeC g_laws_toTableS [] .o (Code.pl (Code.pl (Code.pr (Code.pl (Code.pr (Code.pr c_laws_toTableS))))))) (fun σ => σ.forget [0, 3, 4] []) (cutC ([], []) [(0, [3], [])] ([], [])) n (mkS 23 23 [(0, .val ⟨y10, false, a, [.S]⟩), (3, .val ⟨y10, false, v.1, [.O]⟩), (4, .val ⟨(.int .i64), false, v.2, []⟩)] []) k = iter (laws_toTableS_l0_s a) n v ((fun (k : Kont Unit) => (((fun (out1 : List qT) => k (.exit 0) (mkS 23 23 [(3, .val ⟨y10, false, out1, [.O]⟩)] []))) : (qF → Res))) k) := loop_eq (fun v : qF × Int => (mkS 23 23 [(0, .val ⟨y10, false, a, [.S]⟩), (3, .val ⟨y10, false, v.1, [.O]⟩), (4, .val ⟨(.int .i64), false, v.2, []⟩)] [])) (laws_toTableS_l0_s a) (fun (k : Kont Unit) => (((fun (out1 : List qT) => k (.exit 0) (mkS 23 23 [(3, .val ⟨y10, false, out1, [.O]⟩)] []))) : (qF → Res))) (fun v rec k => by kernel_rfl) n v k
theorem olaws_toTableS_l0 {W0 : Base} {M : Nat → Prop} (hnp : W0.np ≤ 0) : CodeOk Tryz.prog W0 M (Code.pl (Code.pr (Code.pl (Code.pr (Code.pr c_laws_toTableS))))) xlaws_toTableS_l0 := show CodeOk Tryz.prog W0 M (Code.loop (Code.pl (Code.pl (Code.pr (Code.pl (Code.pr (Code.pr c_laws_toTableS))))))) xlaws_toTableS_l0 from loop_ok (code_sound follows tysOk (calls_ok (fns_cons S_laws_toTable fns_nil)) hnp [] (Code.pl (Code.pl (Code.pr (Code.pl (Code.pr (Code.pr c_laws_toTableS)))))) .o trivial) (ks := [0, 3, 4]) (bs := []) (fX := (cutC ([], []) [(0, [3], [])] ([], []))) (cutC_le _ _ _) FUEL (by
 intro σ k r h
 obtain ⟨hn, h1⟩ := rdN_some h
 obtain ⟨a, hs0, h2⟩ := rdV_some h1
 obtain ⟨out, hs3, h3⟩ := rdV_some h2
 obtain ⟨i, hs4, h4⟩ := rdV_some h3
 refine ⟨_, ?_, (elaws_toTableS_l0 a FUEL (out, i) k).trans h4⟩
 exact mkS_le hn ⟨hs0, hs3, hs4, trivial⟩ trivial)
def laws_toTableS (a : List qT) (k0 : qF → Res) : Res :=
 bif mkOk (nI (List.length a)) (nI (List.length a)) then
  laws_toTableS_l0 a FUEL (repl (nI (List.length a)) (eS, [], [])) 0 fun (out : List qT) =>
   k0 out
 else none
def s_laws_toTableS : Sig Unit := ⟨[.borrow y10 false], [false], fun vals ext k => av vals y10 fun a vals => nl vals <| nl ext <| laws_toTableS a (fun (r0 : List qT) => k [⟨y10, false, r0, [.O]⟩] [] [])⟩
theorem E_laws_toTableS (a : List qT) (a_a : Bool) (t_a : List Tag) (k : qK) : funC g_laws_toTableS [xlaws_toTableS_l0] (.t .o (.t .o (.t (.t .o (.t (.x 0) .o)) .o))) false Tryz.f88 [.borrow y10 false] [false] [⟨y10, a_a, a, t_a⟩] [] k = laws_toTableS a (fun (r0 : List qT) => k [⟨y10, false, r0, [.O]⟩] [] []) := by kernel_rfl
theorem S_laws_toTableS : Sound Tryz.prog 88 s_laws_toTableS := sound_of (Γ := g_laws_toTableS) (X := [xlaws_toTableS_l0]) (ht := (.t .o (.t .o (.t (.t .o (.t (.x 0) .o)) .o)))) (fz := false) (c := c_laws_toTableS) follows tysOk (fns_cons S_laws_toTable fns_nil) (OrOk.mk trivial ((OrOk.mk trivial ((OrOk.mk ((OrOk.mk trivial ((OrOk.mk (OrOk.x_mk (fun W0 M hnp => olaws_toTableS_l0 (W0 := W0) (M := M) hnp)) trivial)))) trivial))))) Tryz.func88 (by kernel_rfl) (by kernel_rfl) (by decide) (by
 intro vals ext k r h
 obtain ⟨a, a_a, t_a, vals, rfl, h1⟩ := av_some h
 obtain ⟨rfl, h2⟩ := nl_some h1
 obtain ⟨rfl, h3⟩ := nl_some h2
 exact (E_laws_toTableS a a_a t_a k).trans h3)

/-! ### 95 loop.example/g00462/laws.eqTableS -/
def c_laws_eqTableS : Code := (Tryz.f95.body).getD .skip
def g_laws_eqTableS : Env Unit := ⟨tys, [(144, s_laws_eqTable)], 0⟩
def laws_eqTableS_l0_r (a : List qT) (b : List qT) (i : Int) (rec : Int → Res) (k0 : Unit → Res) (k1 : Unit → Res) : Res :=
 bif decide (i < (nI (List.length a))) then
  bif inb i (List.length a) then
   bif inb i (List.length b) then
    laws_eqTable (nth (eS, [], []) a i) (nth (eS, [], []) b i) fun (r : Bool) =>
     bif !r then
      k1 ()
     else
      rec (wi64 (i + 1))
   else none
  else none
 else
  k0 ()
def laws_eqTableS_l0_s (a : List qT) (b : List qT) : Int → (Int → Res) → ((Unit → Res) × (Unit → Res)) → Res := fun v rec q => laws_eqTableS_l0_r a b v (fun i => rec (i)) q.1 q.2
def laws_eqTableS_l0 (a : List qT) (b : List qT) (n : Nat) (i : Int) (k0 : Unit → Res) (k1 : Unit → Res) : Res := iter (laws_eqTableS_l0_s a b) n (i) (k0, k1)
def xlaws_eqTableS_l0 : Node Unit := fun σ k => rdN σ 27 <| rdV σ 0 y10 false [.S] fun a => rdV σ 1 y10 false [.S] fun b => rdV σ 5 (.int .i64) false [] fun i => laws_eqTableS_l0 a b FUEL i (fun (_ : Unit) => k (.exit 0) (mkS 27 27 [] [])) (fun (_ : Unit) => k .ret (mkS 27 27 [(4, .val ⟨.bool, false, false, []⟩)] []))
theorem elaws_eqTableS_l0 (a : List qT) (b : List qT) (n : Nat) (v : Int) (k : Kont Unit) : loopC (codeC g_laws_eqTableS [] .o (Code.pl (Code.pl (Code.pr (Code.pl (Code.pr (Code.pr c_laws_eqTableS))))))) (fun σ => σ.forget [0, 1, 5] []) (cutC ([], []) [(0, [], [])] ([4], [])) n (mkS 27 27 [(0, .val ⟨y10, false, a, [.S]⟩), (1, .val ⟨y10, false, b, [.S]⟩), (5, .val ⟨(.int .i64), false, v, []⟩)] []) k = iter (laws_eqTableS_l0_s a b) n v ((fun (k : Kont Unit) => (((fun (_ : Unit) => k (.exit 0) (mkS 27 27 [] [])), (fun (_ : Unit) => k .ret (mkS 27 27 [(4, .val ⟨.bool, false, false, []⟩)] []))) : (Unit → Res) × (Unit → Res))) k) := loop_eq (fun v : Int => (mkS 27 27 [(0, .val ⟨y10, false, a, [.S]⟩), (1, .val ⟨y10, false, b, [.S]⟩), (5, .val ⟨(.int .i64), false, v, []⟩)] [])) (laws_eqTableS_l0_s a b) (fun (k : Kont Unit) => (((fun (_ : Unit) => k (.exit 0) (mkS 27 27 [] [])), (fun (_ : Unit) => k .ret (mkS 27 27 [(4, .val ⟨.bool, false, false, []⟩)] []))) : (Unit → Res) × (Unit → Res))) (fun v rec k => by kernel_rfl) n v k
theorem olaws_eqTableS_l0 {W0 : Base} {M : Nat → Prop} (hnp : W0.np ≤ 0) : CodeOk Tryz.prog W0 M (Code.pl (Code.pr (Code.pl (Code.pr (Code.pr c_laws_eqTableS))))) xlaws_eqTableS_l0 := show CodeOk Tryz.prog W0 M (Code.loop (Code.pl (Code.pl (Code.pr (Code.pl (Code.pr (Code.pr c_laws_eqTableS))))))) xlaws_eqTableS_l0 from loop_ok (code_sound follows tysOk (calls_ok (fns_cons S_laws_eqTable fns_nil)) hnp [] (Code.pl (Code.pl (Code.pr (Code.pl (Code.pr (Code.pr c_laws_eqTableS)))))) .o trivial) (ks := [0, 1, 5]) (bs := []) (fX := (cutC ([], []) [(0, [], [])] ([4], []))) (cutC_le _ _ _) FUEL (by
 intro σ k r h
 obtain ⟨hn, h1⟩ := rdN_some h
 obtain ⟨a, hs0, h2⟩ := rdV_some h1
 obtain ⟨b, hs1, h3⟩ := rdV_some h2
 obtain ⟨i, hs5, h4⟩ := rdV_some h3
 refine ⟨_, ?_, (elaws_eqTableS_l0 a b FUEL (i) k).trans h4⟩
 exact mkS_le hn ⟨hs0, hs1, hs5, trivial⟩ trivial)
def laws_eqTableS (a : List qT) (b : List qT) (k0 : Bool → Res) : Res :=
 bif ((nI (List.length a)) != (nI (List.length b))) then
  k0 false
 else
  laws_eqTableS_l0 a b FUEL 0
   (fun (_ : Unit) =>
    k0 true)
   (fun (_ : Unit) =>
    k0 false)
def s_laws_eqTableS : Sig Unit := ⟨[.look y10 false, .look y10 false], [false], fun vals ext k => av vals y10 fun a vals => av vals y10 fun b vals => nl vals <| nl ext <| laws_eqTableS a b (fun (r0 : Bool) => k [⟨.bool, false, r0, []⟩] [] [])⟩
theorem E_laws_eqTableS (a : List qT) (a_a : Bool) (t_a : List Tag) (b : List qT) (a_b : Bool) (t_b : List Tag) (k : qK) : funC g_laws_eqTableS [xlaws_eqTableS_l0] (.t .o (.t .o (.t (.t .o (.t (.x 0) .o)) .o))) false Tryz.f95 [.look y10 false, .look y10 false] [false] [⟨y10, a_a, a, t_a⟩, ⟨y10, a_b, b, t_b⟩] [] k = laws_eqTableS a b (fun (r0 : Bool) => k [⟨.bool, false, r0, []⟩] [] []) := by kernel_rfl
theorem S_laws_eqTableS : Sound Tryz.prog 95 s_laws_eqTableS := sound_of (Γ := g_laws_eqTableS) (X := [xlaws_eqTableS_l0]) (ht := (.t .o (.t .o (.t (.t .o (.t (.x 0) .o)) .o)))) (fz := false) (c := c_laws_eqTableS) follows tysOk (fns_cons S_laws_eqTable fns_nil) (OrOk.mk trivial ((OrOk.mk trivial ((OrOk.mk ((OrOk.mk trivial ((OrOk.mk (OrOk.x_mk (fun W0 M hnp => olaws_eqTableS_l0 (W0 := W0) (M := M) hnp)) trivial)))) trivial))))) Tryz.func95 (by kernel_rfl) (by kernel_rfl) (by decide) (by
 intro vals ext k r h
 obtain ⟨a, a_a, t_a, vals, rfl, h1⟩ := av_some h
 obtain ⟨b, a_b, t_b, vals, rfl, h2⟩ := av_some h1
 obtain ⟨rfl, h3⟩ := nl_some h2
 obtain ⟨rfl, h4⟩ := nl_some h3
 exact (E_laws_eqTableS a a_a t_a b a_b t_b k).trans h4)

/-! ### 97 loop.example/g00462/laws.markTableS -/
def c_laws_markTableS : Code := (Tryz.f97.body).getD .skip
def g_laws_markTableS : Env Unit := ⟨tys, [(14, s_laws_markStringS), (49, s_laws_markText), (80, s_laws_markColS)], 1⟩
def laws_markTableS_l0_r (a : List qT) (k_ : Int) (i : Int) (rec : qF → Int → Int → Res) (k0 : qF → Int → Res) : Res :=
 bif decide (i < (nI (List.length a))) then
  laws_markText k_ fun (r : ByteArray) =>
   bif inb i (List.length a) then
    bif inb i (List.length (upd a i (r, (nth (eS, [], []) a i).2))) then
     laws_markColS (nth (eS, [], []) (upd a i (r, (nth (eS, [], []) a i).2)) i).2.1 (wi64 (k_ + 1)) fun (r1 : Int) (a1 : List qC) =>
      bif inb i (List.length (upd (upd a i (r, (nth (eS, [], []) a i).2)) i ((nth (eS, [], []) (upd a i (r, (nth (eS, [], []) a i).2)) i).1, a1, (nth (eS, [], []) (upd a i (r, (nth (eS, [], []) a i).2)) i).2.2))) then
       laws_markStringS (nth (eS, [], []) (upd (upd a i (r, (nth (eS, [], []) a i).2)) i ((nth (eS, [], []) (upd a i (r, (nth (eS, [], []) a i).2)) i).1, a1, (nth (eS, [], []) (upd a i (r, (nth (eS, [], []) a i).2)) i).2.2)) i).2.2 r1 fun (r2 : Int) (a2 : List ByteArray) =>
        rec (upd (upd (upd a i (r, (nth (eS, [], []) a i).2)) i ((nth (eS, [], []) (upd a i (r, (nth (eS, [], []) a i).2)) i).1, a1, (nth (eS, [], []) (upd a i (r, (nth (eS, [], []) a i).2)) i).2.2)) i ((nth (eS, [], []) (upd (upd a i (r, (nth (eS, [], []) a i).2)) i ((nth (eS, [], []) (upd a i (r, (nth (eS, [], []) a i).2)) i).1, a1, (nth (eS, [], []) (upd a i (r, (nth (eS, [], []) a i).2)) i).2.2)) i).1, (nth (eS, [], []) (upd (upd a i (r, (nth (eS, [], []) a i).2)) i ((nth (eS, [], []) (upd a i (r, (nth (eS, [], []) a i).2)) i).1, a1, (nth (eS, [], []) (upd a i (r, (nth (eS, [], []) a i).2)) i).2.2)) i).2.1, a2)) r2 (wi64 (i + 1))
      else none
    else none
   else none
 else
  k0 a k_
def laws_markTableS_l0_s : (qF × Int × Int) → (qF × Int × Int → Res) → ((qF → Int → Res)) → Res := fun v rec q => laws_markTableS_l0_r v.1 v.2.1 v.2.2 (fun a k_ i => rec (a, k_, i)) q
def laws_markTableS_l0 (n : Nat) (a : List qT) (k_ : Int) (i : Int) (k0 : qF → Int → Res) : Res := iter (laws_markTableS_l0_s) n (a, k_, i) (k0)
def xlaws_markTableS_l0 : Node Unit := fun σ k => rdN σ 35 <| rdV σ 0 y10 false [.O] fun a => rdV σ 1 (.int .i64) false [] fun k_ => rdV σ 5 (.int .i64) false [] fun i => laws_markTableS_l0 FUEL a k_ i (fun (a3 : List qT) (k_1 : Int) => k (.exit 0) (mkS 35 35 [(0, .val ⟨y10, false, a3, [.O]⟩), (1, .val ⟨(.int .i64), false, k_1, []⟩)] []))
theorem elaws_markTableS_l0  (n : Nat) (v : qF × Int × Int) (k : Kont Unit) : loopC (codeC g_laws_markTableS [] .o (Code.pl (Code.pl (Code.pr (Code.pl (Code.pr c_laws_markTableS)))))) (fun σ => σ.forget [0, 1, 5] []) (cutC ([], []) [(0, [0, 1], [])] ([], [])) n (mkS 35 35 [(0, .val ⟨y10, false, v.1, [.O]⟩), (1, .val ⟨(.int .i64), false, v.2.1, []⟩), (5, .val ⟨(.int .i64), false, v.2.2, []⟩)] []) k = iter (laws_markTableS_l0_s) n v ((fun (k : Kont Unit) => (((fun (a3 : List qT) (k_1 : Int) => k (.exit 0) (mkS 35 35 [(0, .val ⟨y10, false, a3, [.O]⟩), (1, .val ⟨(.int .i64), false, k_1, []⟩)] []))) : (qF → Int → Res))) k) := loop_eq (fun v : qF × Int × Int => (mkS 35 35 [(0, .val ⟨y10, false, v.1, [.O]⟩), (1, .val ⟨(.int .i64), false, v.2.1, []⟩), (5, .val ⟨(.int .i64), false, v.2.2, []⟩)] [])) (laws_markTableS_l0_s) (fun (k : Kont Unit) => (((fun (a3 : List qT) (k_1 : Int) => k (.exit 0) (mkS 35 35 [(0, .val ⟨y10, false, a3, [.O]⟩), (1, .val ⟨(.int .i64), false, k_1, []⟩)] []))) : (qF → Int → Res))) (fun v rec k => by kernel_rfl) n v k
theorem olaws_markTableS_l0 {W0 : Base} {M : Nat → Prop} (hnp : W0.np ≤ 1) : CodeOk Tryz.prog W0 M (Code.pl (Code.pr (Code.pl (Code.pr c_laws_markTableS)))) xlaws_markTableS_l0 := show CodeOk Tryz.prog W0 M (Code.loop (Code.pl (Code.pl (Code.pr (Code.pl (Code.pr c_laws_markTableS)))))) xlaws_markTableS_l0 from loop_ok (code_sound follows tysOk (calls_ok (fns_cons S_laws_markStringS (fns_cons S_laws_markText (fns_cons S_laws_markColS fns_nil)))) hnp [] (Code.pl (Code.pl (Code.pr (Code.pl (Code.pr c_laws_markTableS))))) .o trivial) (ks := [0, 1, 5]) (bs := []) (fX := (cutC ([], []) [(0, [0, 1], [])] ([], []))) (cutC_le _ _ _) FUEL (by
 intro σ k r h
 obtain ⟨hn, h1⟩ := rdN_some h
 obtain ⟨a, hs0, h2⟩ := rdV_some h1
 obtain ⟨k_, hs1, h3⟩ := rdV_some h2
 obtain ⟨i, hs5, h4⟩ := rdV_some h3
 refine ⟨_, ?_, (elaws_markTableS_l0  FUEL (a, k_, i) k).trans h4⟩
 exact mkS_le hn ⟨hs0, hs1, hs5, trivial⟩ trivial)
def laws_markTableS (a : List qT) (k_ : Int) (k0 : Int → qF → Res) : Res :=
 laws_markTableS_l0 FUEL a k_ 0 fun (a1 : List qT) (k_1 : Int) =>
  k0 k_1 a1
def s_laws_markTableS : Sig Unit := ⟨[.inout y10 false, .borrow (.int .i64) false], [false], fun vals ext k => ao vals y10 [.O] fun a vals => av vals (.int .i64) fun k_ vals => nl vals <| nl ext <| laws_markTableS a k_ (fun (r0 : Int) (i0 : List qT) => k [⟨(.int .i64), false, r0, []⟩] [⟨y10, false, i0, [.O]⟩] [])⟩
theorem E_laws_markTableS (a_a : Bool) (a : List qT) (k_ : Int) (a_k_ : Bool) (t_k_ : List Tag) (k : qK) : funC g_laws_markTableS [xlaws_markTableS_l0] (.t .o (.t (.t .o (.t (.x 0) .o)) .o)) false Tryz.f97 [.inout y10 false, .borrow (.int .i64) false] [false] [⟨y10, a_a, a, [.O]⟩, ⟨(.int .i64), a_k_, k_, t_k_⟩] [] k = laws_markTableS a k_ (fun (r0 : Int) (i0 : List qT) => k [⟨(.int .i64), false, r0, []⟩] [⟨y10, false, i0, [.O]⟩] []) := by kernel_rfl
theorem S_laws_markTableS : Sound Tryz.prog 97 s_laws_markTableS := sound_of (Γ := g_laws_markTableS) (X := [xlaws_markTableS_l0]) (ht := (.t .o (.t (.t .o (.t (.x 0) .o)) .o))) (fz := false) (c := c_laws_markTableS) follows tysOk (fns_cons S_laws_markStringS (fns_cons S_laws_markText (fns_cons S_laws_markColS fns_nil))) (OrOk.mk trivial ((OrOk.mk ((OrOk.mk trivial ((OrOk.mk (OrOk.x_mk (fun W0 M hnp => olaws_markTableS_l0 (W0 := W0) (M := M) hnp)) trivial)))) trivial))) Tryz.func97 (by kernel_rfl) (by kernel_rfl) (by decide) (by
 intro vals ext k r h
 obtain ⟨a_a, a, vals, rfl, h1⟩ := ao_some h
 obtain ⟨k_, a_k_, t_k_, vals, rfl, h2⟩ := av_some h1
 obtain ⟨rfl, h3⟩ := nl_some h2
 obtain ⟨rfl, h4⟩ := nl_some h3
 exact (E_laws_markTableS a_a a k_ a_k_ t_k_ k).trans h4)

/-! ### 106 loop.example/g00462/laws.heldTableS -/
def c_laws_heldTableS : Code := (Tryz.f106.body).getD .skip
def g_laws_heldTableS : Env Unit := ⟨tys, [(15, s_laws_heldStringS), (49, s_laws_markText), (82, s_laws_heldColS)], 0⟩
def laws_heldTableS_l0_r (a : List qT) (k_ : Int) (i : Int) (rec : Int → Int → Res) (k0 : Int → Res) (k1 : Unit → Res) : Res :=
 bif decide (i < (nI (List.length a))) then
  bif inb i (List.length a) then
   laws_markText k_ fun (r : ByteArray) =>
    bif sNe (nth (eS, [], []) a i).1 r then
     k1 ()
    else
     bif inb i (List.length a) then
      laws_heldColS (nth (eS, [], []) a i).2.1 (wi64 (k_ + 1)) fun (r1 : Int) =>
       bif decide (r1 < 0) then
        k1 ()
       else
        bif inb i (List.length a) then
         laws_heldStringS (nth (eS, [], []) a i).2.2 r1 fun (r2 : Int) =>
          bif decide (r2 < 0) then
           k1 ()
          else
           rec r2 (wi64 (i + 1))
        else none
     else none
  else none
 else
  k0 k_
def laws_heldTableS_l0_s (a : List qT) : (Int × Int) → (Int × Int → Res) → ((Int → Res) × (Unit → Res)) → Res := fun v rec q => laws_heldTableS_l0_r a v.1 v.2 (fun k_ i => rec (k_, i)) q.1 q.2
def laws_heldTableS_l0 (a : List qT) (n : Nat) (k_ : Int) (i : Int) (k0 : Int → Res) (k1 : Unit → Res) : Res := iter (laws_heldTableS_l0_s a) n (k_, i) (k0, k1)
def xlaws_heldTableS_l0 : Node Unit := fun σ k => rdN σ 41 <| rdV σ 0 y10 false [.S] fun a => rdV σ 1 (.int .i64) false [] fun k_ => rdV σ 5 (.int .i64) false [] fun i => laws_heldTableS_l0 a FUEL k_ i (fun (k_1 : Int) => k (.exit 0) (mkS 41 41 [(1, .val ⟨(.int .i64), false, k_1, []⟩)] [])) (fun (_ : Unit) => k .ret (mkS 41 41 [(4, .val ⟨(.int .i64), false, (-1), []⟩)] []))
theorem elaws_heldTableS_l0 (a : List qT) (n : Nat) (v : Int × Int) (k : Kont Unit) : loopC (codeC g_laws_heldTableS [] .o (Code.pl (Code.pl (Code.pr (Code.pl (Code.pr c_laws_heldTableS)))))) (fun σ => σ.forget [0, 1, 5] []) (cutC ([], []) [(0, [1], [])] ([4], [])) n (mkS 41 41 [(0, .val ⟨y10, false, a, [.S]⟩), (1, .val ⟨(.int .i64), false, v.1, []⟩), (5, .val ⟨(.int .i64), false, v.2, []⟩)] []) k = iter (laws_heldTableS_l0_s a) n v ((fun (k : Kont Unit) => (((fun (k_1 : Int) => k (.exit 0) (mkS 41 41 [(1, .val ⟨(.int .i64), false, k_1, []⟩)] [])), (fun (_ : Unit) => k .ret (mkS 41 41 [(4, .val ⟨(.int .i64), false, (-1), []⟩)] []))) : (Int → Res) × (Unit → Res))) k) := loop_eq (fun v : Int × Int => (mkS 41 41 [(0, .val ⟨y10, false, a, [.S]⟩), (1, .val ⟨(.int .i64), false, v.1, []⟩), (5, .val ⟨(.int .i64), false, v.2, []⟩)] [])) (laws_heldTableS_l0_s a) (fun (k : Kont Unit) => (((fun (k_1 : Int) => k (.exit 0) (mkS 41 41 [(1, .val ⟨(.int .i64), false, k_1, []⟩)] [])), (fun (_ : Unit) => k .ret (mkS 41 41 [(4, .val ⟨(.int .i64), false, (-1), []⟩)] []))) : (Int → Res) × (Unit → Res))) (fun v rec k => by kernel_rfl) n v k
theorem olaws_heldTableS_l0 {W0 : Base} {M : Nat → Prop} (hnp : W0.np ≤ 0) : CodeOk Tryz.prog W0 M (Code.pl (Code.pr (Code.pl (Code.pr c_laws_heldTableS)))) xlaws_heldTableS_l0 := show CodeOk Tryz.prog W0 M (Code.loop (Code.pl (Code.pl (Code.pr (Code.pl (Code.pr c_laws_heldTableS)))))) xlaws_heldTableS_l0 from loop_ok (code_sound follows tysOk (calls_ok (fns_cons S_laws_heldStringS (fns_cons S_laws_markText (fns_cons S_laws_heldColS fns_nil)))) hnp [] (Code.pl (Code.pl (Code.pr (Code.pl (Code.pr c_laws_heldTableS))))) .o trivial) (ks := [0, 1, 5]) (bs := []) (fX := (cutC ([], []) [(0, [1], [])] ([4], []))) (cutC_le _ _ _) FUEL (by
 intro σ k r h
 obtain ⟨hn, h1⟩ := rdN_some h
 obtain ⟨a, hs0, h2⟩ := rdV_some h1
 obtain ⟨k_, hs1, h3⟩ := rdV_some h2
 obtain ⟨i, hs5, h4⟩ := rdV_some h3
 refine ⟨_, ?_, (elaws_heldTableS_l0 a FUEL (k_, i) k).trans h4⟩
 exact mkS_le hn ⟨hs0, hs1, hs5, trivial⟩ trivial)
def laws_heldTableS (a : List qT) (k_ : Int) (k0 : Int → Res) : Res :=
 laws_heldTableS_l0 a FUEL k_ 0
  (fun (k_1 : Int) =>
   k0 k_1)
  (fun (_ : Unit) =>
   k0 (-1))
def s_laws_heldTableS : Sig Unit := ⟨[.look y10 false, .look (.int .i64) false], [false], fun vals ext k => av vals y10 fun a vals => av vals (.int .i64) fun k_ vals => nl vals <| nl ext <| laws_heldTableS a k_ (fun (r0 : Int) => k [⟨(.int .i64), false, r0, []⟩] [] [])⟩
theorem E_laws_heldTableS (a : List qT) (a_a : Bool) (t_a : List Tag) (k_ : Int) (a_k_ : Bool) (t_k_ : List Tag) (k : qK) : funC g_laws_heldTableS [xlaws_heldTableS_l0] (.t .o (.t (.t .o (.t (.x 0) .o)) .o)) false Tryz.f106 [.look y10 false, .look (.int .i64) false] [false] [⟨y10, a_a, a, t_a⟩, ⟨(.int .i64), a_k_, k_, t_k_⟩] [] k = laws_heldTableS a k_ (fun (r0 : Int) => k [⟨(.int .i64), false, r0, []⟩] [] []) := by kernel_rfl
theorem S_laws_heldTableS : Sound Tryz.prog 106 s_laws_heldTableS := sound_of (Γ := g_laws_heldTableS) (X := [xlaws_heldTableS_l0]) (ht := (.t .o (.t (.t .o (.t (.x 0) .o)) .o))) (fz := false) (c := c_laws_heldTableS) follows tysOk (fns_cons S_laws_heldStringS (fns_cons S_laws_markText (fns_cons S_laws_heldColS fns_nil))) (OrOk.mk trivial ((OrOk.mk ((OrOk.mk trivial ((OrOk.mk (OrOk.x_mk (fun W0 M hnp => olaws_heldTableS_l0 (W0 := W0) (M := M) hnp)) trivial)))) trivial))) Tryz.func106 (by kernel_rfl) (by kernel_rfl) (by decide) (by
 intro vals ext k r h
 obtain ⟨a, a_a, t_a, vals, rfl, h1⟩ := av_some h
 obtain ⟨k_, a_k_, t_k_, vals, rfl, h2⟩ := av_some h1
 obtain ⟨rfl, h3⟩ := nl_some h2
 obtain ⟨rfl, h4⟩ := nl_some h3
 exact (E_laws_heldTableS a a_a t_a k_ a_k_ t_k_ k).trans h4)
end Go.PI.G
end
