/-
  Printed texts and plain laws. No conditions.
-/
import Derived.Test.Ytiieddiheadocaasa
import Derived.Test.Ytiieddiheadocaasg
set_option linter.unusedVariables false
set_option maxRecDepth 100000
noncomputable section
namespace Go.PI.G
open Go Go.PI Go.Proofs

/-! ### 179 loop.example/g00462/laws.szColS -/
def c_laws_szColS : Code := (Try.f179.body).getD .skip
def g_laws_szColS : Env Unit := ⟨tys, [(204, s_laws_szCol)], 0⟩
def laws_szColS_l0_r (a : List qC) (left : Int) (i : Int) (rec : Int → Int → Res) (k0 : Int → Res) (k1 : Unit → Res) : Res :=
 bif decide (i < (nI (List.length a))) then
  bif inb i (List.length a) then
   laws_szCol (nth (eS, 0, false, false, 0, 0, eS) a i) left fun (r : Int) =>
    bif decide (r < 0) then
     k1 ()
    else
     rec r (wi64 (i + 1))
  else none
 else
  k0 left
def laws_szColS_l0_s (a : List qC) : (Int × Int) → (Int × Int → Res) → ((Int → Res) × (Unit → Res)) → Res := fun v rec q => laws_szColS_l0_r a v.1 v.2 (fun left i => rec (left, i)) q.1 q.2
def laws_szColS_l0 (a : List qC) (n : Nat) (left : Int) (i : Int) (k0 : Int → Res) (k1 : Unit → Res) : Res := iter (laws_szColS_l0_s a) n (left, i) (k0, k1)
def xlaws_szColS_l0 : Node Unit := fun σ k => rdN σ 27 <| rdV σ 0 y7 false [.S] fun a => rdV σ 1 (.int .i64) false [] fun left => rdV σ 5 (.int .i64) false [] fun i => laws_szColS_l0 a FUEL left i (fun (left1 : Int) => k (.exit 0) (mkS 27 27 [(1, .val ⟨(.int .i64), false, left1, []⟩)] [])) (fun (_ : Unit) => k .ret (mkS 27 27 [(4, .val ⟨(.int .i64), false, (-1), []⟩)] []))
theorem elaws_szColS_l0 (a : List qC) (n : Nat) (v : Int × Int) (k : Kont Unit) : loopC (codeC g_laws_szColS [] .o (Code.pl (Code.pl (Code.pr (Code.pl (Code.pr (Code.pr (Code.pr c_laws_szColS)))))))) (fun σ => σ.forget [0, 1, 5] []) (cutC ([], []) [(0, [1], [])] ([4], [])) n (mkS 27 27 [(0, .val ⟨y7, false, a, [.S]⟩), (1, .val ⟨(.int .i64), false, v.1, []⟩), (5, .val ⟨(.int .i64), false, v.2, []⟩)] []) k = iter (laws_szColS_l0_s a) n v ((fun (k : Kont Unit) => (((fun (left1 : Int) => k (.exit 0) (mkS 27 27 [(1, .val ⟨(.int .i64), false, left1, []⟩)] [])), (fun (_ : Unit) => k .ret (mkS 27 27 [(4, .val ⟨(.int .i64), false, (-1), []⟩)] []))) : (Int → Res) × (Unit → Res))) k) := loop_eq (fun v : Int × Int => (mkS 27 27 [(0, .val ⟨y7, false, a, [.S]⟩), (1, .val ⟨(.int .i64), false, v.1, []⟩), (5, .val ⟨(.int .i64), false, v.2, []⟩)] [])) (laws_szColS_l0_s a) (fun (k : Kont Unit) => (((fun (left1 : Int) => k (.exit 0) (mkS 27 27 [(1, .val ⟨(.int .i64), false, left1, []⟩)] [])), (fun (_ : Unit) => k .ret (mkS 27 27 [(4, .val ⟨(.int .i64), false, (-1), []⟩)] []))) : (Int → Res) × (Unit → Res))) (fun v rec k => by kernel_rfl) n v k
theorem olaws_szColS_l0 {W0 : Base} {M : Nat → Prop} (hnp : W0.np ≤ 0) : CodeOk Try.prog W0 M (Code.pl (Code.pr (Code.pl (Code.pr (Code.pr (Code.pr c_laws_szColS)))))) xlaws_szColS_l0 := show CodeOk Try.prog W0 M (Code.loop (Code.pl (Code.pl (Code.pr (Code.pl (Code.pr (Code.pr (Code.pr c_laws_szColS)))))))) xlaws_szColS_l0 from loop_ok (code_sound follows tysOk (calls_ok (fns_cons S_laws_szCol fns_nil)) hnp [] (Code.pl (Code.pl (Code.pr (Code.pl (Code.pr (Code.pr (Code.pr c_laws_szColS))))))) .o trivial) (ks := [0, 1, 5]) (bs := []) (fX := (cutC ([], []) [(0, [1], [])] ([4], []))) (cutC_le _ _ _) FUEL (by
 intro σ k r h
 obtain ⟨hn, h1⟩ := rdN_some h
 obtain ⟨a, hs0, h2⟩ := rdV_some h1
 obtain ⟨left, hs1, h3⟩ := rdV_some h2
 obtain ⟨i, hs5, h4⟩ := rdV_some h3
 refine ⟨_, ?_, (elaws_szColS_l0 a FUEL (left, i) k).trans h4⟩
 exact mkS_le hn ⟨hs0, hs1, hs5, trivial⟩ trivial)
def laws_szColS (a : List qC) (left : Int) (k0 : Int → Res) : Res :=
 bif decide ((wi64 (left - (nI (List.length a)))) < 0) then
  k0 (-1)
 else
  laws_szColS_l0 a FUEL (wi64 (left - (nI (List.length a)))) 0
   (fun (left1 : Int) =>
    k0 left1)
   (fun (_ : Unit) =>
    k0 (-1))
def s_laws_szColS : Sig Unit := ⟨[.look y7 false, .look (.int .i64) false], [false], fun vals ext k => av vals y7 fun a vals => av vals (.int .i64) fun left vals => nl vals <| nl ext <| laws_szColS a left (fun (r0 : Int) => k [⟨(.int .i64), false, r0, []⟩] [] [])⟩
theorem E_laws_szColS (a : List qC) (a_a : Bool) (t_a : List Tag) (left : Int) (a_left : Bool) (t_left : List Tag) (k : qK) : funC g_laws_szColS [xlaws_szColS_l0] (.t .o (.t .o (.t .o (.t (.t .o (.t (.x 0) .o)) .o)))) false Try.f179 [.look y7 false, .look (.int .i64) false] [false] [⟨y7, a_a, a, t_a⟩, ⟨(.int .i64), a_left, left, t_left⟩] [] k = laws_szColS a left (fun (r0 : Int) => k [⟨(.int .i64), false, r0, []⟩] [] []) := by kernel_rfl
theorem S_laws_szColS : Sound Try.prog 179 s_laws_szColS := sound_of (Γ := g_laws_szColS) (X := [xlaws_szColS_l0]) (ht := (.t .o (.t .o (.t .o (.t (.t .o (.t (.x 0) .o)) .o))))) (fz := false) (c := c_laws_szColS) follows tysOk (fns_cons S_laws_szCol fns_nil) (OrOk.mk trivial ((OrOk.mk trivial ((OrOk.mk trivial ((OrOk.mk ((OrOk.mk trivial ((OrOk.mk (OrOk.x_mk (fun W0 M hnp => olaws_szColS_l0 (W0 := W0) (M := M) hnp)) trivial)))) trivial))))))) Try.func179 (by kernel_rfl) (by kernel_rfl) (by decide) (by
 intro vals ext k r h
 obtain ⟨a, a_a, t_a, vals, rfl, h1⟩ := av_some h
 obtain ⟨left, a_left, t_left, vals, rfl, h2⟩ := av_some h1
 obtain ⟨rfl, h3⟩ := nl_some h2
 obtain ⟨rfl, h4⟩ := nl_some h3
 exact (E_laws_szColS a a_a t_a left a_left t_left k).trans h4)

/-! ### 183 loop.example/g00462/laws.toColS -/
def c_laws_toColS : Code := (Try.f183.body).getD .skip
def g_laws_toColS : Env Unit := ⟨tys, [(208, s_laws_toCol)], 0⟩
def laws_toColS_l0_r (a : List qC) (out : List qC) (i : Int) (rec : qE → Int → Res) (k0 : qE → Res) : Res :=
 bif decide (i < (nI (List.length a))) then
  bif inb i (List.length a) then
   laws_toCol (nth (eS, 0, false, false, 0, 0, eS) a i) fun (r : ByteArray × Int × Bool × Bool × Int × Int × ByteArray) =>
    bif inb i (List.length out) then
     rec (upd out i r) (wi64 (i + 1))
    else none
  else none
 else
  k0 out
def laws_toColS_l0_s (a : List qC) : (qE × Int) → (qE × Int → Res) → ((qE → Res)) → Res := fun v rec q => laws_toColS_l0_r a v.1 v.2 (fun out i => rec (out, i)) q
def laws_toColS_l0 (a : List qC) (n : Nat) (out : List qC) (i : Int) (k0 : qE → Res) : Res := iter (laws_toColS_l0_s a) n (out, i) (k0)
def xlaws_toColS_l0 : Node Unit := fun σ k => rdN σ 23 <| rdV σ 0 y7 false [.S] fun a => rdV σ 3 y7 false [.O] fun out => rdV σ 4 (.int .i64) false [] fun i => laws_toColS_l0 a FUEL out i (fun (out1 : List qC) => k (.exit 0) (mkS 23 23 [(3, .val ⟨y7, false, out1, [.O]⟩)] []))
theorem elaws_toColS_l0 (a : List qC) (n : Nat) (v : qE × Int) (k : Kont Unit) : loopC (codeC g_laws_toColS [] .o (Code.pl (Code.pl (Code.pr (Code.pl (Code.pr (Code.pr c_laws_toColS))))))) (fun σ => σ.forget [0, 3, 4] []) (cutC ([], []) [(0, [3], [])] ([], [])) n (mkS 23 23 [(0, .val ⟨y7, false, a, [.S]⟩), (3, .val ⟨y7, false, v.1, [.O]⟩), (4, .val ⟨(.int .i64), false, v.2, []⟩)] []) k = iter (laws_toColS_l0_s a) n v ((fun (k : Kont Unit) => (((fun (out1 : List qC) => k (.exit 0) (mkS 23 23 [(3, .val ⟨y7, false, out1, [.O]⟩)] []))) : (qE → Res))) k) := loop_eq (fun v : qE × Int => (mkS 23 23 [(0, .val ⟨y7, false, a, [.S]⟩), (3, .val ⟨y7, false, v.1, [.O]⟩), (4, .val ⟨(.int .i64), false, v.2, []⟩)] [])) (laws_toColS_l0_s a) (fun (k : Kont Unit) => (((fun (out1 : List qC) => k (.exit 0) (mkS 23 23 [(3, .val ⟨y7, false, out1, [.O]⟩)] []))) : (qE → Res))) (fun v rec k => by kernel_rfl) n v k
theorem olaws_toColS_l0 {W0 : Base} {M : Nat → Prop} (hnp : W0.np ≤ 0) : CodeOk Try.prog W0 M (Code.pl (Code.pr (Code.pl (Code.pr (Code.pr c_laws_toColS))))) xlaws_toColS_l0 := show CodeOk Try.prog W0 M (Code.loop (Code.pl (Code.pl (Code.pr (Code.pl (Code.pr (Code.pr c_laws_toColS))))))) xlaws_toColS_l0 from loop_ok (code_sound follows tysOk (calls_ok (fns_cons S_laws_toCol fns_nil)) hnp [] (Code.pl (Code.pl (Code.pr (Code.pl (Code.pr (Code.pr c_laws_toColS)))))) .o trivial) (ks := [0, 3, 4]) (bs := []) (fX := (cutC ([], []) [(0, [3], [])] ([], []))) (cutC_le _ _ _) FUEL (by
 intro σ k r h
 obtain ⟨hn, h1⟩ := rdN_some h
 obtain ⟨a, hs0, h2⟩ := rdV_some h1
 obtain ⟨out, hs3, h3⟩ := rdV_some h2
 obtain ⟨i, hs4, h4⟩ := rdV_some h3
 refine ⟨_, ?_, (elaws_toColS_l0 a FUEL (out, i) k).trans h4⟩
 exact mkS_le hn ⟨hs0, hs3, hs4, trivial⟩ trivial)
def laws_toColS (a : List qC) (k0 : qE → Res) : Res :=
 bif mkOk (nI (List.length a)) (nI (List.length a)) then
  laws_toColS_l0 a FUEL (repl (nI (List.length a)) (eS, 0, false, false, 0, 0, eS)) 0 fun (out : List qC) =>
   k0 out
 else none
def s_laws_toColS : Sig Unit := ⟨[.borrow y7 false], [false], fun vals ext k => av vals y7 fun a vals => nl vals <| nl ext <| laws_toColS a (fun (r0 : List qC) => k [⟨y7, false, r0, [.O]⟩] [] [])⟩
theorem E_laws_toColS (a : List qC) (a_a : Bool) (t_a : List Tag) (k : qK) : funC g_laws_toColS [xlaws_toColS_l0] (.t .o (.t .o (.t (.t .o (.t (.x 0) .o)) .o))) false Try.f183 [.borrow y7 false] [false] [⟨y7, a_a, a, t_a⟩] [] k = laws_toColS a (fun (r0 : List qC) => k [⟨y7, false, r0, [.O]⟩] [] []) := by kernel_rfl
theorem S_laws_toColS : Sound Try.prog 183 s_laws_toColS := sound_of (Γ := g_laws_toColS) (X := [xlaws_toColS_l0]) (ht := (.t .o (.t .o (.t (.t .o (.t (.x 0) .o)) .o)))) (fz := false) (c := c_laws_toColS) follows tysOk (fns_cons S_laws_toCol fns_nil) (OrOk.mk trivial ((OrOk.mk trivial ((OrOk.mk ((OrOk.mk trivial ((OrOk.mk (OrOk.x_mk (fun W0 M hnp => olaws_toColS_l0 (W0 := W0) (M := M) hnp)) trivial)))) trivial))))) Try.func183 (by kernel_rfl) (by kernel_rfl) (by decide) (by
 intro vals ext k r h
 obtain ⟨a, a_a, t_a, vals, rfl, h1⟩ := av_some h
 obtain ⟨rfl, h2⟩ := nl_some h1
 obtain ⟨rfl, h3⟩ := nl_some h2
 exact (E_laws_toColS a a_a t_a k).trans h3)

/-! ### 122 loop.example/g00462/laws.eqColS -/
def c_laws_eqColS : Code := (Try.f122.body).getD .skip
def g_laws_eqColS : Env Unit := ⟨tys, [(159, s_laws_eqCol)], 0⟩
def laws_eqColS_l0_r (a : List qC) (b : List qC) (i : Int) (rec : Int → Res) (k0 : Unit → Res) (k1 : Unit → Res) : Res :=
 bif decide (i < (nI (List.length a))) then
  bif inb i (List.length a) then
   bif inb i (List.length b) then
    laws_eqCol (nth (eS, 0, false, false, 0, 0, eS) a i) (nth (eS, 0, false, false, 0, 0, eS) b i) fun (r : Bool) =>
     bif !r then
      k1 ()
     else
      rec (wi64 (i + 1))
   else none
  else none
 else
  k0 ()
def laws_eqColS_l0_s (a : List qC) (b : List qC) : Int → (Int → Res) → ((Unit → Res) × (Unit → Res)) → Res := fun v rec q => laws_eqColS_l0_r a b v (fun i => rec (i)) q.1 q.2
def laws_eqColS_l0 (a : List qC) (b : List qC) (n : Nat) (i : Int) (k0 : Unit → Res) (k1 : Unit → Res) : Res := iter (laws_eqColS_l0_s a b) n (i) (k0, k1)
def xlaws_eqColS_l0 : Node Unit := fun σ k => rdN σ 27 <| rdV σ 0 y7 false [.S] fun a => rdV σ 1 y7 false [.S] fun b => rdV σ 5 (.int .i64) false [] fun i => laws_eqColS_l0 a b FUEL i (fun (_ : Unit) => k (.exit 0) (mkS 27 27 [] [])) (fun (_ : Unit) => k .ret (mkS 27 27 [(4, .val ⟨.bool, false, false, []⟩)] []))
theorem elaws_eqColS_l0 (a : List qC) (b : List qC) (n : Nat) (v : Int) (k : Kont Unit) : loopC (codeC g_laws_eqColS [] .o (Code.pl (Code.pl (Code.pr (Code.pl (Code.pr (Code.pr c_laws_eqColS))))))) (fun σ => σ.forget [0, 1, 5] []) (cutC ([], []) [(0, [], [])] ([4], [])) n (mkS 27 27 [(0, .val ⟨y7, false, a, [.S]⟩), (1, .val ⟨y7, false, b, [.S]⟩), (5, .val ⟨(.int .i64), false, v, []⟩)] []) k = iter (laws_eqColS_l0_s a b) n v ((fun (k : Kont Unit) => (((fun (_ : Unit) => k (.exit 0) (mkS 27 27 [] [])), (fun (_ : Unit) => k .ret (mkS 27 27 [(4, .val ⟨.bool, false, false, []⟩)] []))) : (Unit → Res) × (Unit → Res))) k) := loop_eq (fun v : Int => (mkS 27 27 [(0, .val ⟨y7, false, a, [.S]⟩), (1, .val ⟨y7, false, b, [.S]⟩), (5, .val ⟨(.int .i64), false, v, []⟩)] [])) (laws_eqColS_l0_s a b) (fun (k : Kont Unit) => (((fun (_ : Unit) => k (.exit 0) (mkS 27 27 [] [])), (fun (_ : Unit) => k .ret (mkS 27 27 [(4, .val ⟨.bool, false, false, []⟩)] []))) : (Unit → Res) × (Unit → Res))) (fun v rec k => by kernel_rfl) n v k
theorem olaws_eqColS_l0 {W0 : Base} {M : Nat → Prop} (hnp : W0.np ≤ 0) : CodeOk Try.prog W0 M (Code.pl (Code.pr (Code.pl (Code.pr (Code.pr c_laws_eqColS))))) xlaws_eqColS_l0 := show CodeOk Try.prog W0 M (Code.loop (Code.pl (Code.pl (Code.pr (Code.pl (Code.pr (Code.pr c_laws_eqColS))))))) xlaws_eqColS_l0 from loop_ok (code_sound follows tysOk (calls_ok (fns_cons S_laws_eqCol fns_nil)) hnp [] (Code.pl (Code.pl (Code.pr (Code.pl (Code.pr (Code.pr c_laws_eqColS)))))) .o trivial) (ks := [0, 1, 5]) (bs := []) (fX := (cutC ([], []) [(0, [], [])] ([4], []))) (cutC_le _ _ _) FUEL (by
 intro σ k r h
 obtain ⟨hn, h1⟩ := rdN_some h
 obtain ⟨a, hs0, h2⟩ := rdV_some h1
 obtain ⟨b, hs1, h3⟩ := rdV_some h2
 obtain ⟨i, hs5, h4⟩ := rdV_some h3
 refine ⟨_, ?_, (elaws_eqColS_l0 a b FUEL (i) k).trans h4⟩
 exact mkS_le hn ⟨hs0, hs1, hs5, trivial⟩ trivial)
def laws_eqColS (a : List qC) (b : List qC) (k0 : Bool → Res) : Res :=
 bif ((nI (List.length a)) != (nI (List.length b))) then
  k0 false
 else
  laws_eqColS_l0 a b FUEL 0
   (fun (_ : Unit) =>
    k0 true)
   (fun (_ : Unit) =>
    k0 false)
def s_laws_eqColS : Sig Unit := ⟨[.look y7 false, .look y7 false], [false], fun vals ext k => av vals y7 fun a vals => av vals y7 fun b vals => nl vals <| nl ext <| laws_eqColS a b (fun (r0 : Bool) => k [⟨.bool, false, r0, []⟩] [] [])⟩
theorem E_laws_eqColS (a : List qC) (a_a : Bool) (t_a : List Tag) (b : List qC) (a_b : Bool) (t_b : List Tag) (k : qK) : funC g_laws_eqColS [xlaws_eqColS_l0] (.t .o (.t .o (.t (.t .o (.t (.x 0) .o)) .o))) false Try.f122 [.look y7 false, .look y7 false] [false] [⟨y7, a_a, a, t_a⟩, ⟨y7, a_b, b, t_b⟩] [] k = laws_eqColS a b (fun (r0 : Bool) => k [⟨.bool, false, r0, []⟩] [] []) := by kernel_rfl
theorem S_laws_eqColS : Sound Try.prog 122 s_laws_eqColS := sound_of (Γ := g_laws_eqColS) (X := [xlaws_eqColS_l0]) (ht := (.t .o (.t .o (.t (.t .o (.t (.x 0) .o)) .o)))) (fz := false) (c := c_laws_eqColS) follows tysOk (fns_cons S_laws_eqCol fns_nil) (OrOk.mk trivial ((OrOk.mk trivial ((OrOk.mk ((OrOk.mk trivial ((OrOk.mk (OrOk.x_mk (fun W0 M hnp => olaws_eqColS_l0 (W0 := W0) (M := M) hnp)) trivial)))) trivial))))) Try.func122 (by kernel_rfl) (by kernel_rfl) (by decide) (by
 intro vals ext k r h
 obtain ⟨a, a_a, t_a, vals, rfl, h1⟩ := av_some h
 obtain ⟨b, a_b, t_b, vals, rfl, h2⟩ := av_some h1
 obtain ⟨rfl, h3⟩ := nl_some h2
 obtain ⟨rfl, h4⟩ := nl_some h3
 exact (E_laws_eqColS a a_a t_a b a_b t_b k).trans h4)
end Go.PI.G
end
noncomputable section
namespace Go.PI.G
open Go Go.PI Go.Proofs

/-! ### 80 loop.example/g00462/laws.szStringS -/
def c_laws_szStringS : Code := (Try.f80.body).getD .skip
def g_laws_szStringS : Env Unit := ⟨tys, [], 0⟩
def laws_szStringS_l0_r (a : List ByteArray) (left : Int) (i : Int) (rec : Int → Int → Res) (k0 : Int → Res) (k1 : Unit → Res) : Res :=
 bif decide (i < (nI (List.length a))) then
  bif inb i (List.length a) then
   bif decide ((wi64 (left - (nI (ByteArray.size (nth eS a i))))) < 0) then
    k1 ()
   else
    rec (wi64 (left - (nI (ByteArray.size (nth eS a i))))) (wi64 (i + 1))
  else none
 else
  k0 left
def laws_szStringS_l0_s (a : List ByteArray) : (Int × Int) → (Int × Int → Res) → ((Int → Res) × (Unit → Res)) → Res := fun v rec q => laws_szStringS_l0_r a v.1 v.2 (fun left i => rec (left, i)) q.1 q.2
def laws_szStringS_l0 (a : List ByteArray) (n : Nat) (left : Int) (i : Int) (k0 : Int → Res) (k1 : Unit → Res) : Res := iter (laws_szStringS_l0_s a) n (left, i) (k0, k1)
def xlaws_szStringS_l0 : Node Unit := fun σ k => rdN σ 28 <| rdV σ 0 y8 false [.S] fun a => rdV σ 1 (.int .i64) false [] fun left => rdV σ 5 (.int .i64) false [] fun i => laws_szStringS_l0 a FUEL left i (fun (left1 : Int) => k (.exit 0) (mkS 28 28 [(1, .val ⟨(.int .i64), false, left1, []⟩)] [])) (fun (_ : Unit) => k .ret (mkS 28 28 [(4, .val ⟨(.int .i64), false, (-1), []⟩)] []))
theorem elaws_szStringS_l0 (a : List ByteArray) (n : Nat) (v : Int × Int) (k : Kont Unit) : loopC (codeC g_laws_szStringS [] .o (Code.pl (Code.pl (Code.pr (Code.pl (Code.pr (Code.pr (Code.pr c_laws_szStringS)))))))) (fun σ => σ.forget [0, 1, 5] []) (cutC ([], []) [(0, [1], [])] ([4], [])) n (mkS 28 28 [(0, .val ⟨y8, false, a, [.S]⟩), (1, .val ⟨(.int .i64), false, v.1, []⟩), (5, .val ⟨(.int .i64), false, v.2, []⟩)] []) k = iter (laws_szStringS_l0_s a) n v ((fun (k : Kont Unit) => (((fun (left1 : Int) => k (.exit 0) (mkS 28 28 [(1, .val ⟨(.int .i64), false, left1, []⟩)] [])), (fun (_ : Unit) => k .ret (mkS 28 28 [(4, .val ⟨(.int .i64), false, (-1), []⟩)] []))) : (Int → Res) × (Unit → Res))) k) := loop_eq (fun v : Int × Int => (mkS 28 28 [(0, .val ⟨y8, false, a, [.S]⟩), (1, .val ⟨(.int .i64), false, v.1, []⟩), (5, .val ⟨(.int .i64), false, v.2, []⟩)] [])) (laws_szStringS_l0_s a) (fun (k : Kont Unit) => (((fun (left1 : Int) => k (.exit 0) (mkS 28 28 [(1, .val ⟨(.int .i64), false, left1, []⟩)] [])), (fun (_ : Unit) => k .ret (mkS 28 28 [(4, .val ⟨(.int .i64), false, (-1), []⟩)] []))) : (Int → Res) × (Unit → Res))) (fun v rec k => by kernel_rfl) n v k
theorem olaws_szStringS_l0 {W0 : Base} {M : Nat → Prop} (hnp : W0.np ≤ 0) : CodeOk Try.prog W0 M (Code.pl (Code.pr (Code.pl (Code.pr (Code.pr (Code.pr c_laws_szStringS)))))) xlaws_szStringS_l0 := show CodeOk Try.prog W0 M (Code.loop (Code.pl (Code.pl (Code.pr (Code.pl (Code.pr (Code.pr (Code.pr c_laws_szStringS)))))))) xlaws_szStringS_l0 from loop_ok (code_sound follows tysOk (calls_ok fns_nil) hnp [] (Code.pl (Code.pl (Code.pr (Code.pl (Code.pr (Code.pr (Code.pr c_laws_szStringS))))))) .o trivial) (ks := [0, 1, 5]) (bs := []) (fX := (cutC ([], []) [(0, [1], [])] ([4], []))) (cutC_le _ _ _) FUEL (by
 intro σ k r h
 obtain ⟨hn, h1⟩ := rdN_some h
 obtain ⟨a, hs0, h2⟩ := rdV_some h1
 obtain ⟨left, hs1, h3⟩ := rdV_some h2
 obtain ⟨i, hs5, h4⟩ := rdV_some h3
 refine ⟨_, ?_, (elaws_szStringS_l0 a FUEL (left, i) k).trans h4⟩
 exact mkS_le hn ⟨hs0, hs1, hs5, trivial⟩ trivial)
def laws_szStringS (a : List ByteArray) (left : Int) (k0 : Int → Res) : Res :=
 bif decide ((wi64 (left - (nI (List.length a)))) < 0) then
  k0 (-1)
 else
  laws_szStringS_l0 a FUEL (wi64 (left - (nI (List.length a)))) 0
   (fun (left1 : Int) =>
    k0 left1)
   (fun (_ : Unit) =>
    k0 (-1))
def s_laws_szStringS : Sig Unit := ⟨[.look y8 false, .look (.int .i64) false], [false], fun vals ext k => av vals y8 fun a vals => av vals (.int .i64) fun left vals => nl vals <| nl ext <| laws_szStringS a left (fun (r0 : Int) => k [⟨(.int .i64), false, r0, []⟩] [] [])⟩
theorem E_laws_szStringS (a : List ByteArray) (a_a : Bool) (t_a : List Tag) (left : Int) (a_left : Bool) (t_left : List Tag) (k : qK) : funC g_laws_szStringS [xlaws_szStringS_l0] (.t .o (.t .o (.t .o (.t (.t .o (.t (.x 0) .o)) .o)))) false Try.f80 [.look y8 false, .look (.int .i64) false] [false] [⟨y8, a_a, a, t_a⟩, ⟨(.int .i64), a_left, left, t_left⟩] [] k = laws_szStringS a left (fun (r0 : Int) => k [⟨(.int .i64), false, r0, []⟩] [] []) := by kernel_rfl
theorem S_laws_szStringS : Sound Try.prog 80 s_laws_szStringS := sound_of (Γ := g_laws_szStringS) (X := [xlaws_szStringS_l0]) (ht := (.t .o (.t .o (.t .o (.t (.t .o (.t (.x 0) .o)) .o))))) (fz := false) (c := c_laws_szStringS) follows tysOk fns_nil (OrOk.mk trivial ((OrOk.mk trivial ((OrOk.mk trivial ((OrOk.mk ((OrOk.mk trivial ((OrOk.mk (OrOk.x_mk (fun W0 M hnp => olaws_szStringS_l0 (W0 := W0) (M := M) hnp)) trivial)))) trivial))))))) Try.func80 (by kernel_rfl) (by kernel_rfl) (by decide) (by
 intro vals ext k r h
 obtain ⟨a, a_a, t_a, vals, rfl, h1⟩ := av_some h
 obtain ⟨left, a_left, t_left, vals, rfl, h2⟩ := av_some h1
 obtain ⟨rfl, h3⟩ := nl_some h2
 obtain ⟨rfl, h4⟩ := nl_some h3
 exact (E_laws_szStringS a a_a t_a left a_left t_left k).trans h4)

/-! ### 83 loop.example/g00462/laws.toStringS -/
def c_laws_toStringS : Code := (Try.f83.body).getD .skip
def g_laws_toStringS : Env Unit := ⟨tys, [], 0⟩
def laws_toStringS_l0_r (a : List ByteArray) (out : List ByteArray) (i : Int) (rec : (List ByteArray) → Int → Res) (k0 : (List ByteArray) → Res) : Res :=
 bif decide (i < (nI (List.length a))) then
  bif inb i (List.length a) then
   bif inb i (List.length out) then
    rec (upd out i (nth eS a i)) (wi64 (i + 1))
   else none
  else none
 else
  k0 out
def laws_toStringS_l0_s (a : List ByteArray) : ((List ByteArray) × Int) → ((List ByteArray) × Int → Res) → (((List ByteArray) → Res)) → Res := fun v rec q => laws_toStringS_l0_r a v.1 v.2 (fun out i => rec (out, i)) q
def laws_toStringS_l0 (a : List ByteArray) (n : Nat) (out : List ByteArray) (i : Int) (k0 : (List ByteArray) → Res) : Res := iter (laws_toStringS_l0_s a) n (out, i) (k0)
def xlaws_toStringS_l0 : Node Unit := fun σ k => rdN σ 22 <| rdV σ 0 y8 false [.S] fun a => rdV σ 3 y8 false [.O] fun out => rdV σ 4 (.int .i64) false [] fun i => laws_toStringS_l0 a FUEL out i (fun (out1 : List ByteArray) => k (.exit 0) (mkS 22 22 [(3, .val ⟨y8, false, out1, [.O]⟩)] []))
theorem elaws_toStringS_l0 (a : List ByteArray) (n : Nat) (v : (List ByteArray) × Int) (k : Kont Unit) : loopC (codeC g_laws_toStringS [] .o (Code.pl (Code.pl (Code.pr (Code.pl (Code.pr (Code.pr c_laws_toStringS))))))) (fun σ => σ.forget [0, 3, 4] []) (cutC ([], []) [(0, [3], [])] ([], [])) n (mkS 22 22 [(0, .val ⟨y8, false, a, [.S]⟩), (3, .val ⟨y8, false, v.1, [.O]⟩), (4, .val ⟨(.int .i64), false, v.2, []⟩)] []) k = iter (laws_toStringS_l0_s a) n v ((fun (k : Kont Unit) => (((fun (out1 : List ByteArray) => k (.exit 0) (mkS 22 22 [(3, .val ⟨y8, false, out1, [.O]⟩)] []))) : ((List ByteArray) → Res))) k) := loop_eq (fun v : (List ByteArray) × Int => (mkS 22 22 [(0, .val ⟨y8, false, a, [.S]⟩), (3, .val ⟨y8, false, v.1, [.O]⟩), (4, .val ⟨(.int .i64), false, v.2, []⟩)] [])) (laws_toStringS_l0_s a) (fun (k : Kont Unit) => (((fun (out1 : List ByteArray) => k (.exit 0) (mkS 22 22 [(3, .val ⟨y8, false, out1, [.O]⟩)] []))) : ((List ByteArray) → Res))) (fun v rec k => by kernel_rfl) n v k
theorem olaws_toStringS_l0 {W0 : Base} {M : Nat → Prop} (hnp : W0.np ≤ 0) : CodeOk Try.prog W0 M (Code.pl (Code.pr (Code.pl (Code.pr (Code.pr c_laws_toStringS))))) xlaws_toStringS_l0 := show CodeOk Try.prog W0 M (Code.loop (Code.pl (Code.pl (Code.pr (Code.pl (Code.pr (Code.pr c_laws_toStringS))))))) xlaws_toStringS_l0 from loop_ok (code_sound follows tysOk (calls_ok fns_nil) hnp [] (Code.pl (Code.pl (Code.pr (Code.pl (Code.pr (Code.pr c_laws_toStringS)))))) .o trivial) (ks := [0, 3, 4]) (bs := []) (fX := (cutC ([], []) [(0, [3], [])] ([], []))) (cutC_le _ _ _) FUEL (by
 intro σ k r h
 obtain ⟨hn, h1⟩ := rdN_some h
 obtain ⟨a, hs0, h2⟩ := rdV_some h1
 obtain ⟨out, hs3, h3⟩ := rdV_some h2
 obtain ⟨i, hs4, h4⟩ := rdV_some h3
 refine ⟨_, ?_, (elaws_toStringS_l0 a FUEL (out, i) k).trans h4⟩
 exact mkS_le hn ⟨hs0, hs3, hs4, trivial⟩ trivial)
def laws_toStringS (a : List ByteArray) (k0 : (List ByteArray) → Res) : Res :=
 bif mkOk (nI (List.length a)) (nI (List.length a)) then
  laws_toStringS_l0 a FUEL (repl (nI (List.length a)) eS) 0 fun (out : List ByteArray) =>
   k0 out
 else none
def s_laws_toStringS : Sig Unit := ⟨[.borrow y8 false], [false], fun vals ext k => av vals y8 fun a vals => nl vals <| nl ext <| laws_toStringS a (fun (r0 : List ByteArray) => k [⟨y8, false, r0, [.O]⟩] [] [])⟩
theorem E_laws_toStringS (a : List ByteArray) (a_a : Bool) (t_a : List Tag) (k : qK) : funC g_laws_toStringS [xlaws_toStringS_l0] (.t .o (.t .o (.t (.t .o (.t (.x 0) .o)) .o))) false Try.f83 [.borrow y8 false] [false] [⟨y8, a_a, a, t_a⟩] [] k = laws_toStringS a (fun (r0 : List ByteArray) => k [⟨y8, false, r0, [.O]⟩] [] []) := by kernel_rfl
theorem S_laws_toStringS : Sound Try.prog 83 s_laws_toStringS := sound_of (Γ := g_laws_toStringS) (X := [xlaws_toStringS_l0]) (ht := (.t .o (.t .o (.t (.t .o (.t (.x 0) .o)) .o)))) (fz := false) (c := c_laws_toStringS) follows tysOk fns_nil (OrOk.mk trivial ((OrOk.mk trivial ((OrOk.mk ((OrOk.mk trivial ((OrOk.mk (OrOk.x_mk (fun W0 M hnp => olaws_toStringS_l0 (W0 := W0) (M := M) hnp)) trivial)))) trivial))))) Try.func83 (by kernel_rfl) (by kernel_rfl) (by decide) (by
 intro vals ext k r h
 obtain ⟨a, a_a, t_a, vals, rfl, h1⟩ := av_some h
 obtain ⟨rfl, h2⟩ := nl_some h1
 obtain ⟨rfl, h3⟩ := nl_some h2
 exact (E_laws_toStringS a a_a t_a k).trans h3)

/-! ### 90 loop.example/g00462/laws.eqStringS -/
def c_laws_eqStringS : Code := (Try.f90.body).getD .skip
def g_laws_eqStringS : Env Unit := ⟨tys, [], 0⟩
def laws_eqStringS_l0_r (a : List ByteArray) (b : List ByteArray) (i : Int) (rec : Int → Res) (k0 : Unit → Res) (k1 : Unit → Res) : Res :=
 bif decide (i < (nI (List.length a))) then
  bif inb i (List.length a) then
   bif inb i (List.length b) then
    bif sNe (nth eS a i) (nth eS b i) then
     k1 ()
    else
     rec (wi64 (i + 1))
   else none
  else none
 else
  k0 ()
def laws_eqStringS_l0_s (a : List ByteArray) (b : List ByteArray) : Int → (Int → Res) → ((Unit → Res) × (Unit → Res)) → Res := fun v rec q => laws_eqStringS_l0_r a b v (fun i => rec (i)) q.1 q.2
def laws_eqStringS_l0 (a : List ByteArray) (b : List ByteArray) (n : Nat) (i : Int) (k0 : Unit → Res) (k1 : Unit → Res) : Res := iter (laws_eqStringS_l0_s a b) n (i) (k0, k1)
def xlaws_eqStringS_l0 : Node Unit := fun σ k => rdN σ 26 <| rdV σ 0 y8 false [.S] fun a => rdV σ 1 y8 false [.S] fun b => rdV σ 5 (.int .i64) false [] fun i => laws_eqStringS_l0 a b FUEL i (fun (_ : Unit) => k (.exit 0) (mkS 26 26 [] [])) (fun (_ : Unit) => k .ret (mkS 26 26 [(4, .val ⟨.bool, false, false, []⟩)] []))
theorem elaws_eqStringS_l0 (a : List ByteArray) (b : List ByteArray) (n : Nat) (v : Int) (k : Kont Unit) : loopC (codeC g_laws_eqStringS [] .o (Code.pl (Code.pl (Code.pr (Code.pl (Code.pr (Code.pr c_laws_eqStringS))))))) (fun σ => σ.forget [0, 1, 5] []) (cutC ([], []) [(0, [], [])] ([4], [])) n (mkS 26 26 [(0, .val ⟨y8, false, a, [.S]⟩), (1, .val ⟨y8, false, b, [.S]⟩), (5, .val ⟨(.int .i64), false, v, []⟩)] []) k = iter (laws_eqStringS_l0_s a b) n v ((fun (k : Kont Unit) => (((fun (_ : Unit) => k (.exit 0) (mkS 26 26 [] [])), (fun (_ : Unit) => k .ret (mkS 26 26 [(4, .val ⟨.bool, false, false, []⟩)] []))) : (Unit → Res) × (Unit → Res))) k) := loop_eq (fun v : Int => (mkS 26 26 [(0, .val ⟨y8, false, a, [.S]⟩), (1, .val ⟨y8, false, b, [.S]⟩), (5, .val ⟨(.int .i64), false, v, []⟩)] [])) (laws_eqStringS_l0_s a b) (fun (k : Kont Unit) => (((fun (_ : Unit) => k (.exit 0) (mkS 26 26 [] [])), (fun (_ : Unit) => k .ret (mkS 26 26 [(4, .val ⟨.bool, false, false, []⟩)] []))) : (Unit → Res) × (Unit → Res))) (fun v rec k => by kernel_rfl) n v k
theorem olaws_eqStringS_l0 {W0 : Base} {M : Nat → Prop} (hnp : W0.np ≤ 0) : CodeOk Try.prog W0 M (Code.pl (Code.pr (Code.pl (Code.pr (Code.pr c_laws_eqStringS))))) xlaws_eqStringS_l0 := show CodeOk Try.prog W0 M (Code.loop (Code.pl (Code.pl (Code.pr (Code.pl (Code.pr (Code.pr c_laws_eqStringS))))))) xlaws_eqStringS_l0 from loop_ok (code_sound follows tysOk (calls_ok fns_nil) hnp [] (Code.pl (Code.pl (Code.pr (Code.pl (Code.pr (Code.pr c_laws_eqStringS)))))) .o trivial) (ks := [0, 1, 5]) (bs := []) (fX := (cutC ([], []) [(0, [], [])] ([4], []))) (cutC_le _ _ _) FUEL (by
 intro σ k r h
 obtain ⟨hn, h1⟩ := rdN_some h
 obtain ⟨a, hs0, h2⟩ := rdV_some h1
 obtain ⟨b, hs1, h3⟩ := rdV_some h2
 obtain ⟨i, hs5, h4⟩ := rdV_some h3
 refine ⟨_, ?_, (elaws_eqStringS_l0 a b FUEL (i) k).trans h4⟩
 exact mkS_le hn ⟨hs0, hs1, hs5, trivial⟩ trivial)
def laws_eqStringS (a : List ByteArray) (b : List ByteArray) (k0 : Bool → Res) : Res :=
 bif ((nI (List.length a)) != (nI (List.length b))) then
  k0 false
 else
  laws_eqStringS_l0 a b FUEL 0
   (fun (_ : Unit) =>
    k0 true)
   (fun (_ : Unit) =>
    k0 false)
def s_laws_eqStringS : Sig Unit := ⟨[.look y8 false, .look y8 false], [false], fun vals ext k => av vals y8 fun a vals => av vals y8 fun b vals => nl vals <| nl ext <| laws_eqStringS a b (fun (r0 : Bool) => k [⟨.bool, false, r0, []⟩] [] [])⟩
theorem E_laws_eqStringS (a : List ByteArray) (a_a : Bool) (t_a : List Tag) (b : List ByteArray) (a_b : Bool) (t_b : List Tag) (k : qK) : funC g_laws_eqStringS [xlaws_eqStringS_l0] (.t .o (.t .o (.t (.t .o (.t (.x 0) .o)) .o))) false Try.f90 [.look y8 false, .look y8 false] [false] [⟨y8, a_a, a, t_a⟩, ⟨y8, a_b, b, t_b⟩] [] k = laws_eqStringS a b (fun (r0 : Bool) => k [⟨.bool, false, r0, []⟩] [] []) := by kernel_rfl
theorem S_laws_eqStringS : Sound Try.prog 90 s_laws_eqStringS := sound_of (Γ := g_laws_eqStringS) (X := [xlaws_eqStringS_l0]) (ht := (.t .o (.t .o (.t (.t .o (.t (.x 0) .o)) .o)))) (fz := false) (c := c_laws_eqStringS) follows tysOk fns_nil (OrOk.mk trivial ((OrOk.mk trivial ((OrOk.mk ((OrOk.mk trivial ((OrOk.mk (OrOk.x_mk (fun W0 M hnp => olaws_eqStringS_l0 (W0 := W0) (M := M) hnp)) trivial)))) trivial))))) Try.func90 (by kernel_rfl) (by kernel_rfl) (by decide) (by
 intro vals ext k r h
 obtain ⟨a, a_a, t_a, vals, rfl, h1⟩ := av_some h
 obtain ⟨b, a_b, t_b, vals, rfl, h2⟩ := av_some h1
 obtain ⟨rfl, h3⟩ := nl_some h2
 obtain ⟨rfl, h4⟩ := nl_some h3
 exact (E_laws_eqStringS a a_a t_a b a_b t_b k).trans h4)
end Go.PI.G
end
noncomputable section
namespace Go.PI.G
open Go Go.PI Go.Proofs

/-! ### 138 loop.example/g00462/laws.szDdl -/
def c_laws_szDdl : Code := (Try.f138.body).getD .skip
def g_laws_szDdl : Env Unit := ⟨tys, [(80, s_laws_szStringS), (179, s_laws_szColS)], 0⟩
def laws_szDdl (a : Int × ByteArray × qE × List ByteArray × ByteArray × ByteArray) (left : Int) (k0 : Int → Res) : Res :=
 bif decide ((wi64 (left - (nI (ByteArray.size a.2.1)))) < 0) then
  k0 (-1)
 else
  laws_szColS a.2.2.1 (wi64 (left - (nI (ByteArray.size a.2.1)))) fun (r : Int) =>
   bif decide (r < 0) then
    k0 (-1)
   else
    laws_szStringS a.2.2.2.1 r fun (r1 : Int) =>
     bif decide (r1 < 0) then
      k0 (-1)
     else
      bif decide ((wi64 (r1 - (nI (ByteArray.size a.2.2.2.2.1)))) < 0) then
       k0 (-1)
      else
       bif decide ((wi64 ((wi64 (r1 - (nI (ByteArray.size a.2.2.2.2.1)))) - (nI (ByteArray.size a.2.2.2.2.2)))) < 0) then
        k0 (-1)
       else
        k0 (wi64 ((wi64 (r1 - (nI (ByteArray.size a.2.2.2.2.1)))) - (nI (ByteArray.size a.2.2.2.2.2))))
def s_laws_szDdl : Sig Unit := ⟨[.look y13 true, .look (.int .i64) false], [false], fun vals ext k => av vals y13 fun a vals => av vals (.int .i64) fun left vals => nl vals <| nl ext <| laws_szDdl a left (fun (r0 : Int) => k [⟨(.int .i64), false, r0, []⟩] [] [])⟩
theorem E_laws_szDdl (a : Int × ByteArray × qE × List ByteArray × ByteArray × ByteArray) (a_a : Bool) (t_a : List Tag) (left : Int) (a_left : Bool) (t_left : List Tag) (k : qK) : funC g_laws_szDdl [] .o false Try.f138 [.look y13 true, .look (.int .i64) false] [false] [⟨y13, a_a, a, t_a⟩, ⟨(.int .i64), a_left, left, t_left⟩] [] k = laws_szDdl a left (fun (r0 : Int) => k [⟨(.int .i64), false, r0, []⟩] [] []) := by kernel_rfl
theorem S_laws_szDdl : Sound Try.prog 138 s_laws_szDdl := sound_of (Γ := g_laws_szDdl) (X := []) (ht := .o) (fz := false) (c := c_laws_szDdl) follows tysOk (fns_cons S_laws_szStringS (fns_cons S_laws_szColS fns_nil)) trivial Try.func138 (by kernel_rfl) (by kernel_rfl) (by decide) (by
 intro vals ext k r h
 obtain ⟨a, a_a, t_a, vals, rfl, h1⟩ := av_some h
 obtain ⟨left, a_left, t_left, vals, rfl, h2⟩ := av_some h1
 obtain ⟨rfl, h3⟩ := nl_some h2
 obtain ⟨rfl, h4⟩ := nl_some h3
 exact (E_laws_szDdl a a_a t_a left a_left t_left k).trans h4)

/-! ### 146 loop.example/g00462/laws.toDdl -/
def c_laws_toDdl : Code := (Try.f146.body).getD .skip
def g_laws_toDdl : Env Unit := ⟨tys, [(83, s_laws_toStringS), (183, s_laws_toColS)], 0⟩
def laws_toDdl (a : Int × ByteArray × qE × List ByteArray × ByteArray × ByteArray) (k0 : (Int × ByteArray × qE × List ByteArray × ByteArray × ByteArray) → Res) : Res :=
 laws_toColS a.2.2.1 fun (r : List qC) =>
  laws_toStringS a.2.2.2.1 fun (r1 : List ByteArray) =>
   k0 (a.1, a.2.1, r, r1, a.2.2.2.2.1, a.2.2.2.2.2)
def s_laws_toDdl : Sig Unit := ⟨[.borrow y13 true], [true], fun vals ext k => av vals y13 fun a vals => nl vals <| nl ext <| laws_toDdl a (fun (r0 : Int × ByteArray × qE × List ByteArray × ByteArray × ByteArray) => k [⟨y13, true, r0, [.O, .O]⟩] [] [])⟩
theorem E_laws_toDdl (a : Int × ByteArray × qE × List ByteArray × ByteArray × ByteArray) (a_a : Bool) (t_a : List Tag) (k : qK) : funC g_laws_toDdl [] .o false Try.f146 [.borrow y13 true] [true] [⟨y13, a_a, a, t_a⟩] [] k = laws_toDdl a (fun (r0 : Int × ByteArray × qE × List ByteArray × ByteArray × ByteArray) => k [⟨y13, true, r0, [.O, .O]⟩] [] []) := by kernel_rfl
theorem S_laws_toDdl : Sound Try.prog 146 s_laws_toDdl := sound_of (Γ := g_laws_toDdl) (X := []) (ht := .o) (fz := false) (c := c_laws_toDdl) follows tysOk (fns_cons S_laws_toStringS (fns_cons S_laws_toColS fns_nil)) trivial Try.func146 (by kernel_rfl) (by kernel_rfl) (by decide) (by
 intro vals ext k r h
 obtain ⟨a, a_a, t_a, vals, rfl, h1⟩ := av_some h
 obtain ⟨rfl, h2⟩ := nl_some h1
 obtain ⟨rfl, h3⟩ := nl_some h2
 exact (E_laws_toDdl a a_a t_a k).trans h3)

/-! ### 65 loop.example/g00462/laws.eqDdl -/
def c_laws_eqDdl : Code := (Try.f65.body).getD .skip
def g_laws_eqDdl : Env Unit := ⟨tys, [(90, s_laws_eqStringS), (122, s_laws_eqColS)], 0⟩
def laws_eqDdl (a : Int × ByteArray × qE × List ByteArray × ByteArray × ByteArray) (b : Int × ByteArray × qE × List ByteArray × ByteArray × ByteArray) (k0 : Bool → Res) : Res :=
 bif (a.1 != b.1) then
  k0 false
 else
  bif sNe a.2.1 b.2.1 then
   k0 false
  else
   laws_eqColS a.2.2.1 b.2.2.1 fun (r : Bool) =>
    bif !r then
     k0 false
    else
     laws_eqStringS a.2.2.2.1 b.2.2.2.1 fun (r1 : Bool) =>
      bif !r1 then
       k0 false
      else
       bif sNe a.2.2.2.2.1 b.2.2.2.2.1 then
        k0 false
       else
        bif sNe a.2.2.2.2.2 b.2.2.2.2.2 then
         k0 false
        else
         k0 true
def s_laws_eqDdl : Sig Unit := ⟨[.look y13 true, .look y13 true], [false], fun vals ext k => av vals y13 fun a vals => av vals y13 fun b vals => nl vals <| nl ext <| laws_eqDdl a b (fun (r0 : Bool) => k [⟨.bool, false, r0, []⟩] [] [])⟩
theorem E_laws_eqDdl (a : Int × ByteArray × qE × List ByteArray × ByteArray × ByteArray) (a_a : Bool) (t_a : List Tag) (b : Int × ByteArray × qE × List ByteArray × ByteArray × ByteArray) (a_b : Bool) (t_b : List Tag) (k : qK) : funC g_laws_eqDdl [] .o false Try.f65 [.look y13 true, .look y13 true] [false] [⟨y13, a_a, a, t_a⟩, ⟨y13, a_b, b, t_b⟩] [] k = laws_eqDdl a b (fun (r0 : Bool) => k [⟨.bool, false, r0, []⟩] [] []) := by kernel_rfl
theorem S_laws_eqDdl : Sound Try.prog 65 s_laws_eqDdl := sound_of (Γ := g_laws_eqDdl) (X := []) (ht := .o) (fz := false) (c := c_laws_eqDdl) follows tysOk (fns_cons S_laws_eqStringS (fns_cons S_laws_eqColS fns_nil)) trivial Try.func65 (by kernel_rfl) (by kernel_rfl) (by decide) (by
 intro vals ext k r h
 obtain ⟨a, a_a, t_a, vals, rfl, h1⟩ := av_some h
 obtain ⟨b, a_b, t_b, vals, rfl, h2⟩ := av_some h1
 obtain ⟨rfl, h3⟩ := nl_some h2
 obtain ⟨rfl, h4⟩ := nl_some h3
 exact (E_laws_eqDdl a a_a t_a b a_b t_b k).trans h4)
end Go.PI.G
end
noncomputable section
namespace Go.PI.G
open Go Go.PI Go.Proofs

/-! ### 136 loop.example/g00462/laws.szValS -/
def c_laws_szValS : Code := (Try.f136.body).getD .skip
def g_laws_szValS : Env Unit := ⟨tys, [(178, s_laws_szVal)], 0⟩
def laws_szValS_l0_r (a : List qV) (left : Int) (i : Int) (rec : Int → Int → Res) (k0 : Int → Res) (k1 : Unit → Res) : Res :=
 bif decide (i < (nI (List.length a))) then
  bif inb i (List.length a) then
   laws_szVal (nth (0, 0, eS) a i) left fun (r : Int) =>
    bif decide (r < 0) then
     k1 ()
    else
     rec r (wi64 (i + 1))
  else none
 else
  k0 left
def laws_szValS_l0_s (a : List qV) : (Int × Int) → (Int × Int → Res) → ((Int → Res) × (Unit → Res)) → Res := fun v rec q => laws_szValS_l0_r a v.1 v.2 (fun left i => rec (left, i)) q.1 q.2
def laws_szValS_l0 (a : List qV) (n : Nat) (left : Int) (i : Int) (k0 : Int → Res) (k1 : Unit → Res) : Res := iter (laws_szValS_l0_s a) n (left, i) (k0, k1)
def xlaws_szValS_l0 : Node Unit := fun σ k => rdN σ 27 <| rdV σ 0 y2 false [.S] fun a => rdV σ 1 (.int .i64) false [] fun left => rdV σ 5 (.int .i64) false [] fun i => laws_szValS_l0 a FUEL left i (fun (left1 : Int) => k (.exit 0) (mkS 27 27 [(1, .val ⟨(.int .i64), false, left1, []⟩)] [])) (fun (_ : Unit) => k .ret (mkS 27 27 [(4, .val ⟨(.int .i64), false, (-1), []⟩)] []))
theorem elaws_szValS_l0 (a : List qV) (n : Nat) (v : Int × Int) (k : Kont Unit) : loopC (codeC g_laws_szValS [] .o (Code.pl (Code.pl (Code.pr (Code.pl (Code.pr (Code.pr (Code.pr c_laws_szValS)))))))) (fun σ => σ.forget [0, 1, 5] []) (cutC ([], []) [(0, [1], [])] ([4], [])) n (mkS 27 27 [(0, .val ⟨y2, false, a, [.S]⟩), (1, .val ⟨(.int .i64), false, v.1, []⟩), (5, .val ⟨(.int .i64), false, v.2, []⟩)] []) k = iter (laws_szValS_l0_s a) n v ((fun (k : Kont Unit) => (((fun (left1 : Int) => k (.exit 0) (mkS 27 27 [(1, .val ⟨(.int .i64), false, left1, []⟩)] [])), (fun (_ : Unit) => k .ret (mkS 27 27 [(4, .val ⟨(.int .i64), false, (-1), []⟩)] []))) : (Int → Res) × (Unit → Res))) k) := loop_eq (fun v : Int × Int => (mkS 27 27 [(0, .val ⟨y2, false, a, [.S]⟩), (1, .val ⟨(.int .i64), false, v.1, []⟩), (5, .val ⟨(.int .i64), false, v.2, []⟩)] [])) (laws_szValS_l0_s a) (fun (k : Kont Unit) => (((fun (left1 : Int) => k (.exit 0) (mkS 27 27 [(1, .val ⟨(.int .i64), false, left1, []⟩)] [])), (fun (_ : Unit) => k .ret (mkS 27 27 [(4, .val ⟨(.int .i64), false, (-1), []⟩)] []))) : (Int → Res) × (Unit → Res))) (fun v rec k => by kernel_rfl) n v k
theorem olaws_szValS_l0 {W0 : Base} {M : Nat → Prop} (hnp : W0.np ≤ 0) : CodeOk Try.prog W0 M (Code.pl (Code.pr (Code.pl (Code.pr (Code.pr (Code.pr c_laws_szValS)))))) xlaws_szValS_l0 := show CodeOk Try.prog W0 M (Code.loop (Code.pl (Code.pl (Code.pr (Code.pl (Code.pr (Code.pr (Code.pr c_laws_szValS)))))))) xlaws_szValS_l0 from loop_ok (code_sound follows tysOk (calls_ok (fns_cons S_laws_szVal fns_nil)) hnp [] (Code.pl (Code.pl (Code.pr (Code.pl (Code.pr (Code.pr (Code.pr c_laws_szValS))))))) .o trivial) (ks := [0, 1, 5]) (bs := []) (fX := (cutC ([], []) [(0, [1], [])] ([4], []))) (cutC_le _ _ _) FUEL (by
 intro σ k r h
 obtain ⟨hn, h1⟩ := rdN_some h
 obtain ⟨a, hs0, h2⟩ := rdV_some h1
 obtain ⟨left, hs1, h3⟩ := rdV_some h2
 obtain ⟨i, hs5, h4⟩ := rdV_some h3
 refine ⟨_, ?_, (elaws_szValS_l0 a FUEL (left, i) k).trans h4⟩
 exact mkS_le hn ⟨hs0, hs1, hs5, trivial⟩ trivial)
def laws_szValS (a : List qV) (left : Int) (k0 : Int → Res) : Res :=
 bif decide ((wi64 (left - (nI (List.length a)))) < 0) then
  k0 (-1)
 else
  laws_szValS_l0 a FUEL (wi64 (left - (nI (List.length a)))) 0
   (fun (left1 : Int) =>
    k0 left1)
   (fun (_ : Unit) =>
    k0 (-1))
def s_laws_szValS : Sig Unit := ⟨[.look y2 false, .look (.int .i64) false], [false], fun vals ext k => av vals y2 fun a vals => av vals (.int .i64) fun left vals => nl vals <| nl ext <| laws_szValS a left (fun (r0 : Int) => k [⟨(.int .i64), false, r0, []⟩] [] [])⟩
theorem E_laws_szValS (a : List qV) (a_a : Bool) (t_a : List Tag) (left : Int) (a_left : Bool) (t_left : List Tag) (k : qK) : funC g_laws_szValS [xlaws_szValS_l0] (.t .o (.t .o (.t .o (.t (.t .o (.t (.x 0) .o)) .o)))) false Try.f136 [.look y2 false, .look (.int .i64) false] [false] [⟨y2, a_a, a, t_a⟩, ⟨(.int .i64), a_left, left, t_left⟩] [] k = laws_szValS a left (fun (r0 : Int) => k [⟨(.int .i64), false, r0, []⟩] [] []) := by kernel_rfl
theorem S_laws_szValS : Sound Try.prog 136 s_laws_szValS := sound_of (Γ := g_laws_szValS) (X := [xlaws_szValS_l0]) (ht := (.t .o (.t .o (.t .o (.t (.t .o (.t (.x 0) .o)) .o))))) (fz := false) (c := c_laws_szValS) follows tysOk (fns_cons S_laws_szVal fns_nil) (OrOk.mk trivial ((OrOk.mk trivial ((OrOk.mk trivial ((OrOk.mk ((OrOk.mk trivial ((OrOk.mk (OrOk.x_mk (fun W0 M hnp => olaws_szValS_l0 (W0 := W0) (M := M) hnp)) trivial)))) trivial))))))) Try.func136 (by kernel_rfl) (by kernel_rfl) (by decide) (by
 intro vals ext k r h
 obtain ⟨a, a_a, t_a, vals, rfl, h1⟩ := av_some h
 obtain ⟨left, a_left, t_left, vals, rfl, h2⟩ := av_some h1
 obtain ⟨rfl, h3⟩ := nl_some h2
 obtain ⟨rfl, h4⟩ := nl_some h3
 exact (E_laws_szValS a a_a t_a left a_left t_left k).trans h4)

/-! ### 144 loop.example/g00462/laws.toValS -/
def c_laws_toValS : Code := (Try.f144.body).getD .skip
def g_laws_toValS : Env Unit := ⟨tys, [(182, s_laws_toVal)], 0⟩
def laws_toValS_l0_r (a : List qV) (out : List qV) (i : Int) (rec : qW → Int → Res) (k0 : qW → Res) : Res :=
 bif decide (i < (nI (List.length a))) then
  bif inb i (List.length a) then
   laws_toVal (nth (0, 0, eS) a i) fun (r : Int × Int × ByteArray) =>
    bif inb i (List.length out) then
     rec (upd out i r) (wi64 (i + 1))
    else none
  else none
 else
  k0 out
def laws_toValS_l0_s (a : List qV) : (qW × Int) → (qW × Int → Res) → ((qW → Res)) → Res := fun v rec q => laws_toValS_l0_r a v.1 v.2 (fun out i => rec (out, i)) q
def laws_toValS_l0 (a : List qV) (n : Nat) (out : List qV) (i : Int) (k0 : qW → Res) : Res := iter (laws_toValS_l0_s a) n (out, i) (k0)
def xlaws_toValS_l0 : Node Unit := fun σ k => rdN σ 23 <| rdV σ 0 y2 false [.S] fun a => rdV σ 3 y2 false [.O] fun out => rdV σ 4 (.int .i64) false [] fun i => laws_toValS_l0 a FUEL out i (fun (out1 : List qV) => k (.exit 0) (mkS 23 23 [(3, .val ⟨y2, false, out1, [.O]⟩)] []))
theorem elaws_toValS_l0 (a : List qV) (n : Nat) (v : qW × Int) (k : Kont Unit) : loopC (codeC g_laws_toValS [] .o (Code.pl (Code.pl (Code.pr (Code.pl (Code.pr (Code.pr c_laws_toValS))))))) (fun σ => σ.forget [0, 3, 4] []) (cutC ([], []) [(0, [3], [])] ([], [])) n (mkS 23 23 [(0, .val ⟨y2, false, a, [.S]⟩), (3, .val ⟨y2, false, v.1, [.O]⟩), (4, .val ⟨(.int .i64), false, v.2, []⟩)] []) k = iter (laws_toValS_l0_s a) n v ((fun (k : Kont Unit) => (((fun (out1 : List qV) => k (.exit 0) (mkS 23 23 [(3, .val ⟨y2, false, out1, [.O]⟩)] []))) : (qW → Res))) k) := loop_eq (fun v : qW × Int => (mkS 23 23 [(0, .val ⟨y2, false, a, [.S]⟩), (3, .val ⟨y2, false, v.1, [.O]⟩), (4, .val ⟨(.int .i64), false, v.2, []⟩)] [])) (laws_toValS_l0_s a) (fun (k : Kont Unit) => (((fun (out1 : List qV) => k (.exit 0) (mkS 23 23 [(3, .val ⟨y2, false, out1, [.O]⟩)] []))) : (qW → Res))) (fun v rec k => by kernel_rfl) n v k
theorem olaws_toValS_l0 {W0 : Base} {M : Nat → Prop} (hnp : W0.np ≤ 0) : CodeOk Try.prog W0 M (Code.pl (Code.pr (Code.pl (Code.pr (Code.pr c_laws_toValS))))) xlaws_toValS_l0 := show CodeOk Try.prog W0 M (Code.loop (Code.pl (Code.pl (Code.pr (Code.pl (Code.pr (Code.pr c_laws_toValS))))))) xlaws_toValS_l0 from loop_ok (code_sound follows tysOk (calls_ok (fns_cons S_laws_toVal fns_nil)) hnp [] (Code.pl (Code.pl (Code.pr (Code.pl (Code.pr (Code.pr c_laws_toValS)))))) .o trivial) (ks := [0, 3, 4]) (bs := []) (fX := (cutC ([], []) [(0, [3], [])] ([], []))) (cutC_le _ _ _) FUEL (by
 intro σ k r h
 obtain ⟨hn, h1⟩ := rdN_some h
 obtain ⟨a, hs0, h2⟩ := rdV_some h1
 obtain ⟨out, hs3, h3⟩ := rdV_some h2
 obtain ⟨i, hs4, h4⟩ := rdV_some h3
 refine ⟨_, ?_, (elaws_toValS_l0 a FUEL (out, i) k).trans h4⟩
 exact mkS_le hn ⟨hs0, hs3, hs4, trivial⟩ trivial)
def laws_toValS (a : List qV) (k0 : qW → Res) : Res :=
 bif mkOk (nI (List.length a)) (nI (List.length a)) then
  laws_toValS_l0 a FUEL (repl (nI (List.length a)) (0, 0, eS)) 0 fun (out : List qV) =>
   k0 out
 else none
def s_laws_toValS : Sig Unit := ⟨[.borrow y2 false], [false], fun vals ext k => av vals y2 fun a vals => nl vals <| nl ext <| laws_toValS a (fun (r0 : List qV) => k [⟨y2, false, r0, [.O]⟩] [] [])⟩
theorem E_laws_toValS (a : List qV) (a_a : Bool) (t_a : List Tag) (k : qK) : funC g_laws_toValS [xlaws_toValS_l0] (.t .o (.t .o (.t (.t .o (.t (.x 0) .o)) .o))) false Try.f144 [.borrow y2 false] [false] [⟨y2, a_a, a, t_a⟩] [] k = laws_toValS a (fun (r0 : List qV) => k [⟨y2, false, r0, [.O]⟩] [] []) := by kernel_rfl
theorem S_laws_toValS : Sound Try.prog 144 s_laws_toValS := sound_of (Γ := g_laws_toValS) (X := [xlaws_toValS_l0]) (ht := (.t .o (.t .o (.t (.t .o (.t (.x 0) .o)) .o)))) (fz := false) (c := c_laws_toValS) follows tysOk (fns_cons S_laws_toVal fns_nil) (OrOk.mk trivial ((OrOk.mk trivial ((OrOk.mk ((OrOk.mk trivial ((OrOk.mk (OrOk.x_mk (fun W0 M hnp => olaws_toValS_l0 (W0 := W0) (M := M) hnp)) trivial)))) trivial))))) Try.func144 (by kernel_rfl) (by kernel_rfl) (by decide) (by
 intro vals ext k r h
 obtain ⟨a, a_a, t_a, vals, rfl, h1⟩ := av_some h
 obtain ⟨rfl, h2⟩ := nl_some h1
 obtain ⟨rfl, h3⟩ := nl_some h2
 exact (E_laws_toValS a a_a t_a k).trans h3)

/-! ### 63 loop.example/g00462/laws.eqValS -/
def c_laws_eqValS : Code := (Try.f63.body).getD .skip
def g_laws_eqValS : Env Unit := ⟨tys, [(121, s_laws_eqVal)], 0⟩
def laws_eqValS_l0_r (a : List qV) (b : List qV) (i : Int) (rec : Int → Res) (k0 : Unit → Res) (k1 : Unit → Res) : Res :=
 bif decide (i < (nI (List.length a))) then
  bif inb i (List.length a) then
   bif inb i (List.length b) then
    laws_eqVal (nth (0, 0, eS) a i) (nth (0, 0, eS) b i) fun (r : Bool) =>
     bif !r then
      k1 ()
     else
      rec (wi64 (i + 1))
   else none
  else none
 else
  k0 ()
def laws_eqValS_l0_s (a : List qV) (b : List qV) : Int → (Int → Res) → ((Unit → Res) × (Unit → Res)) → Res := fun v rec q => laws_eqValS_l0_r a b v (fun i => rec (i)) q.1 q.2
def laws_eqValS_l0 (a : List qV) (b : List qV) (n : Nat) (i : Int) (k0 : Unit → Res) (k1 : Unit → Res) : Res := iter (laws_eqValS_l0_s a b) n (i) (k0, k1)
def xlaws_eqValS_l0 : Node Unit := fun σ k => rdN σ 27 <| rdV σ 0 y2 false [.S] fun a => rdV σ 1 y2 false [.S] fun b => rdV σ 5 (.int .i64) false [] fun i => laws_eqValS_l0 a b FUEL i (fun (_ : Unit) => k (.exit 0) (mkS 27 27 [] [])) (fun (_ : Unit) => k .ret (mkS 27 27 [(4, .val ⟨.bool, false, false, []⟩)] []))
theorem elaws_eqValS_l0 (a : List qV) (b : List qV) (n : Nat) (v : Int) (k : Kont Unit) : loopC (codeC g_laws_eqValS [] .o (Code.pl (Code.pl (Code.pr (Code.pl (Code.pr (Code.pr c_laws_eqValS))))))) (fun σ => σ.forget [0, 1, 5] []) (cutC ([], []) [(0, [], [])] ([4], [])) n (mkS 27 27 [(0, .val ⟨y2, false, a, [.S]⟩), (1, .val ⟨y2, false, b, [.S]⟩), (5, .val ⟨(.int .i64), false, v, []⟩)] []) k = iter (laws_eqValS_l0_s a b) n v ((fun (k : Kont Unit) => (((fun (_ : Unit) => k (.exit 0) (mkS 27 27 [] [])), (fun (_ : Unit) => k .ret (mkS 27 27 [(4, .val ⟨.bool, false, false, []⟩)] []))) : (Unit → Res) × (Unit → Res))) k) := loop_eq (fun v : Int => (mkS 27 27 [(0, .val ⟨y2, false, a, [.S]⟩), (1, .val ⟨y2, false, b, [.S]⟩), (5, .val ⟨(.int .i64), false, v, []⟩)] [])) (laws_eqValS_l0_s a b) (fun (k : Kont Unit) => (((fun (_ : Unit) => k (.exit 0) (mkS 27 27 [] [])), (fun (_ : Unit) => k .ret (mkS 27 27 [(4, .val ⟨.bool, false, false, []⟩)] []))) : (Unit → Res) × (Unit → Res))) (fun v rec k => by kernel_rfl) n v k
theorem olaws_eqValS_l0 {W0 : Base} {M : Nat → Prop} (hnp : W0.np ≤ 0) : CodeOk Try.prog W0 M (Code.pl (Code.pr (Code.pl (Code.pr (Code.pr c_laws_eqValS))))) xlaws_eqValS_l0 := show CodeOk Try.prog W0 M (Code.loop (Code.pl (Code.pl (Code.pr (Code.pl (Code.pr (Code.pr c_laws_eqValS))))))) xlaws_eqValS_l0 from loop_ok (code_sound follows tysOk (calls_ok (fns_cons S_laws_eqVal fns_nil)) hnp [] (Code.pl (Code.pl (Code.pr (Code.pl (Code.pr (Code.pr c_laws_eqValS)))))) .o trivial) (ks := [0, 1, 5]) (bs := []) (fX := (cutC ([], []) [(0, [], [])] ([4], []))) (cutC_le _ _ _) FUEL (by
 intro σ k r h
 obtain ⟨hn, h1⟩ := rdN_some h
 obtain ⟨a, hs0, h2⟩ := rdV_some h1
 obtain ⟨b, hs1, h3⟩ := rdV_some h2
 obtain ⟨i, hs5, h4⟩ := rdV_some h3
 refine ⟨_, ?_, (elaws_eqValS_l0 a b FUEL (i) k).trans h4⟩
 exact mkS_le hn ⟨hs0, hs1, hs5, trivial⟩ trivial)
def laws_eqValS (a : List qV) (b : List qV) (k0 : Bool → Res) : Res :=
 bif ((nI (List.length a)) != (nI (List.length b))) then
  k0 false
 else
  laws_eqValS_l0 a b FUEL 0
   (fun (_ : Unit) =>
    k0 true)
   (fun (_ : Unit) =>
    k0 false)
def s_laws_eqValS : Sig Unit := ⟨[.look y2 false, .look y2 false], [false], fun vals ext k => av vals y2 fun a vals => av vals y2 fun b vals => nl vals <| nl ext <| laws_eqValS a b (fun (r0 : Bool) => k [⟨.bool, false, r0, []⟩] [] [])⟩
theorem E_laws_eqValS (a : List qV) (a_a : Bool) (t_a : List Tag) (b : List qV) (a_b : Bool) (t_b : List Tag) (k : qK) : funC g_laws_eqValS [xlaws_eqValS_l0] (.t .o (.t .o (.t (.t .o (.t (.x 0) .o)) .o))) false Try.f63 [.look y2 false, .look y2 false] [false] [⟨y2, a_a, a, t_a⟩, ⟨y2, a_b, b, t_b⟩] [] k = laws_eqValS a b (fun (r0 : Bool) => k [⟨.bool, false, r0, []⟩] [] []) := by kernel_rfl
theorem S_laws_eqValS : Sound Try.prog 63 s_laws_eqValS := sound_of (Γ := g_laws_eqValS) (X := [xlaws_eqValS_l0]) (ht := (.t .o (.t .o (.t (.t .o (.t (.x 0) .o)) .o)))) (fz := false) (c := c_laws_eqValS) follows tysOk (fns_cons S_laws_eqVal fns_nil) (OrOk.mk trivial ((OrOk.mk trivial ((OrOk.mk ((OrOk.mk trivial ((OrOk.mk (OrOk.x_mk (fun W0 M hnp => olaws_eqValS_l0 (W0 := W0) (M := M) hnp)) trivial)))) trivial))))) Try.func63 (by kernel_rfl) (by kernel_rfl) (by decide) (by
 intro vals ext k r h
 obtain ⟨a, a_a, t_a, vals, rfl, h1⟩ := av_some h
 obtain ⟨b, a_b, t_b, vals, rfl, h2⟩ := av_some h1
 obtain ⟨rfl, h3⟩ := nl_some h2
 obtain ⟨rfl, h4⟩ := nl_some h3
 exact (E_laws_eqValS a a_a t_a b a_b t_b k).trans h4)
end Go.PI.G
end
noncomputable section
namespace Go.PI.G
open Go Go.PI Go.Proofs

/-! ### 137 loop.example/g00462/laws.szRow -/
def c_laws_szRow : Code := (Try.f137.body).getD .skip
def g_laws_szRow : Env Unit := ⟨tys, [(136, s_laws_szValS)], 0⟩
def laws_szRow (a : List qV) (left : Int) (k0 : Int → Res) : Res :=
 laws_szValS a left fun (r : Int) =>
  bif decide (r < 0) then
   k0 (-1)
  else
   k0 r
def s_laws_szRow : Sig Unit := ⟨[.look y2 true, .look (.int .i64) false], [false], fun vals ext k => av vals y2 fun a vals => av vals (.int .i64) fun left vals => nl vals <| nl ext <| laws_szRow a left (fun (r0 : Int) => k [⟨(.int .i64), false, r0, []⟩] [] [])⟩
theorem E_laws_szRow (a : List qV) (a_a : Bool) (t_a : List Tag) (left : Int) (a_left : Bool) (t_left : List Tag) (k : qK) : funC g_laws_szRow [] .o false Try.f137 [.look y2 true, .look (.int .i64) false] [false] [⟨y2, a_a, a, t_a⟩, ⟨(.int .i64), a_left, left, t_left⟩] [] k = laws_szRow a left (fun (r0 : Int) => k [⟨(.int .i64), false, r0, []⟩] [] []) := by kernel_rfl
theorem S_laws_szRow : Sound Try.prog 137 s_laws_szRow := sound_of (Γ := g_laws_szRow) (X := []) (ht := .o) (fz := false) (c := c_laws_szRow) follows tysOk (fns_cons S_laws_szValS fns_nil) trivial Try.func137 (by kernel_rfl) (by kernel_rfl) (by decide) (by
 intro vals ext k r h
 obtain ⟨a, a_a, t_a, vals, rfl, h1⟩ := av_some h
 obtain ⟨left, a_left, t_left, vals, rfl, h2⟩ := av_some h1
 obtain ⟨rfl, h3⟩ := nl_some h2
 obtain ⟨rfl, h4⟩ := nl_some h3
 exact (E_laws_szRow a a_a t_a left a_left t_left k).trans h4)

/-! ### 145 loop.example/g00462/laws.toRow -/
def c_laws_toRow : Code := (Try.f145.body).getD .skip
def g_laws_toRow : Env Unit := ⟨tys, [(144, s_laws_toValS)], 0⟩
def laws_toRow (a : List qV) (k0 : qW → Res) : Res :=
 laws_toValS a fun (r : List qV) =>
  k0 r
def s_laws_toRow : Sig Unit := ⟨[.borrow y2 true], [true], fun vals ext k => av vals y2 fun a vals => nl vals <| nl ext <| laws_toRow a (fun (r0 : List qV) => k [⟨y2, true, r0, [.O]⟩] [] [])⟩
theorem E_laws_toRow (a : List qV) (a_a : Bool) (t_a : List Tag) (k : qK) : funC g_laws_toRow [] .o false Try.f145 [.borrow y2 true] [true] [⟨y2, a_a, a, t_a⟩] [] k = laws_toRow a (fun (r0 : List qV) => k [⟨y2, true, r0, [.O]⟩] [] []) := by kernel_rfl
theorem S_laws_toRow : Sound Try.prog 145 s_laws_toRow := sound_of (Γ := g_laws_toRow) (X := []) (ht := .o) (fz := false) (c := c_laws_toRow) follows tysOk (fns_cons S_laws_toValS fns_nil) trivial Try.func145 (by kernel_rfl) (by kernel_rfl) (by decide) (by
 intro vals ext k r h
 obtain ⟨a, a_a, t_a, vals, rfl, h1⟩ := av_some h
 obtain ⟨rfl, h2⟩ := nl_some h1
 obtain ⟨rfl, h3⟩ := nl_some h2
 exact (E_laws_toRow a a_a t_a k).trans h3)

/-! ### 64 loop.example/g00462/laws.eqRow -/
def c_laws_eqRow : Code := (Try.f64.body).getD .skip
def g_laws_eqRow : Env Unit := ⟨tys, [(63, s_laws_eqValS)], 0⟩
def laws_eqRow (a : List qV) (b : List qV) (k0 : Bool → Res) : Res :=
 laws_eqValS a b fun (r : Bool) =>
  bif !r then
   k0 false
  else
   k0 true
def s_laws_eqRow : Sig Unit := ⟨[.look y2 true, .look y2 true], [false], fun vals ext k => av vals y2 fun a vals => av vals y2 fun b vals => nl vals <| nl ext <| laws_eqRow a b (fun (r0 : Bool) => k [⟨.bool, false, r0, []⟩] [] [])⟩
theorem E_laws_eqRow (a : List qV) (a_a : Bool) (t_a : List Tag) (b : List qV) (a_b : Bool) (t_b : List Tag) (k : qK) : funC g_laws_eqRow [] .o false Try.f64 [.look y2 true, .look y2 true] [false] [⟨y2, a_a, a, t_a⟩, ⟨y2, a_b, b, t_b⟩] [] k = laws_eqRow a b (fun (r0 : Bool) => k [⟨.bool, false, r0, []⟩] [] []) := by kernel_rfl
theorem S_laws_eqRow : Sound Try.prog 64 s_laws_eqRow := sound_of (Γ := g_laws_eqRow) (X := []) (ht := .o) (fz := false) (c := c_laws_eqRow) follows tysOk (fns_cons S_laws_eqValS fns_nil) trivial Try.func64 (by kernel_rfl) (by kernel_rfl) (by decide) (by
 intro vals ext k r h
 obtain ⟨a, a_a, t_a, vals, rfl, h1⟩ := av_some h
 obtain ⟨b, a_b, t_b, vals, rfl, h2⟩ := av_some h1
 obtain ⟨rfl, h3⟩ := nl_some h2
 obtain ⟨rfl, h4⟩ := nl_some h3
 exact (E_laws_eqRow a a_a t_a b a_b t_b k).trans h4)
end Go.PI.G
end
