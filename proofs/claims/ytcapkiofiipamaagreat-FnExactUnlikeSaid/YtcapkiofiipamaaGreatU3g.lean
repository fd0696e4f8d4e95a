/-
  Printed texts and plain laws. No conditions.
-/
import Derived.Test.YtcapkiofiipamaaGreatU3a
import Derived.Test.YtcapkiofiipamaaGreatU3f
import Derived.Test.YtcapkiofiipamaaGreatU3e
set_option linter.unusedVariables false
set_option maxRecDepth 100000
noncomputable section
namespace Go.PI.G
open Go Go.PI Go.Proofs

/-! ### 131 loop.example/g00462/laws.szTable -/
def c_laws_szTable : Code := (Tryz.f131.body).getD .skip
def g_laws_szTable : Env Unit := ⟨tys, [(50, s_laws_szStringS), (164, s_laws_szColS)], 0⟩
def laws_szTable (a : ByteArray × qE × List ByteArray) (left : Int) (k0 : Int → Res) : Res :=
 bif decide ((wi64 (left - (nI (ByteArray.size a.1)))) < 0) then
  k0 (-1)
 else
  laws_szColS a.2.1 (wi64 (left - (nI (ByteArray.size a.1)))) fun (r : Int) =>
   bif decide (r < 0) then
    k0 (-1)
   else
    laws_szStringS a.2.2 r fun (r1 : Int) =>
     bif decide (r1 < 0) then
      k0 (-1)
     else
      k0 r1
def s_laws_szTable : Sig Unit := ⟨[.look y9 true, .look (.int .i64) false], [false], fun vals ext k => av vals y9 fun a vals => av vals (.int .i64) fun left vals => nl vals <| nl ext <| laws_szTable a left (fun (r0 : Int) => k [⟨(.int .i64), false, r0, []⟩] [] [])⟩
theorem E_laws_szTable (a : ByteArray × qE × List ByteArray) (a_a : Bool) (t_a : List Tag) (left : Int) (a_left : Bool) (t_left : List Tag) (k : qK) : funC g_laws_szTable [] .o false Tryz.f131 [.look y9 true, .look (.int .i64) false] [false] [⟨y9, a_a, a, t_a⟩, ⟨(.int .i64), a_left, left, t_left⟩] [] k = laws_szTable a left (fun (r0 : Int) => k [⟨(.int .i64), false, r0, []⟩] [] []) := by kernel_rfl
theorem S_laws_szTable : Sound Tryz.prog 131 s_laws_szTable := sound_of (Γ := g_laws_szTable) (X := []) (ht := .o) (fz := false) (c := c_laws_szTable) follows tysOk (fns_cons S_laws_szStringS (fns_cons S_laws_szColS fns_nil)) trivial Tryz.func131 (by kernel_rfl) (by kernel_rfl) (by decide) (by
 intro vals ext k r h
 obtain ⟨a, a_a, t_a, vals, rfl, h1⟩ := av_some h
 obtain ⟨left, a_left, t_left, vals, rfl, h2⟩ := av_some h1
 obtain ⟨rfl, h3⟩ := nl_some h2
 obtain ⟨rfl, h4⟩ := nl_some h3
 exact (E_laws_szTable a a_a t_a left a_left t_left k).trans h4)

/-! ### 137 loop.example/g00462/laws.toTable -/
def c_laws_toTable : Code := (Tryz.f137.body).getD .skip
def g_laws_toTable : Env Unit := ⟨tys, [(55, s_laws_toStringS), (171, s_laws_toColS)], 0⟩
def laws_toTable (a : ByteArray × qE × List ByteArray) (k0 : qT → Res) : Res :=
 laws_toColS a.2.1 fun (r : List qC) =>
  laws_toStringS a.2.2 fun (r1 : List ByteArray) =>
   k0 (a.1, r, r1)
def s_laws_toTable : Sig Unit := ⟨[.borrow y9 true], [true], fun vals ext k => av vals y9 fun a vals => nl vals <| nl ext <| laws_toTable a (fun (r0 : ByteArray × qE × List ByteArray) => k [⟨y9, true, r0, [.O, .O]⟩] [] [])⟩
theorem E_laws_toTable (a : ByteArray × qE × List ByteArray) (a_a : Bool) (t_a : List Tag) (k : qK) : funC g_laws_toTable [] .o false Tryz.f137 [.borrow y9 true] [true] [⟨y9, a_a, a, t_a⟩] [] k = laws_toTable a (fun (r0 : ByteArray × qE × List ByteArray) => k [⟨y9, true, r0, [.O, .O]⟩] [] []) := by kernel_rfl
theorem S_laws_toTable : Sound Tryz.prog 137 s_laws_toTable := sound_of (Γ := g_laws_toTable) (X := []) (ht := .o) (fz := false) (c := c_laws_toTable) follows tysOk (fns_cons S_laws_toStringS (fns_cons S_laws_toColS fns_nil)) trivial Tryz.func137 (by kernel_rfl) (by kernel_rfl) (by decide) (by
 intro vals ext k r h
 obtain ⟨a, a_a, t_a, vals, rfl, h1⟩ := av_some h
 obtain ⟨rfl, h2⟩ := nl_some h1
 obtain ⟨rfl, h3⟩ := nl_some h2
 exact (E_laws_toTable a a_a t_a k).trans h3)

/-! ### 144 loop.example/g00462/laws.eqTable -/
def c_laws_eqTable : Code := (Tryz.f144.body).getD .skip
def g_laws_eqTable : Env Unit := ⟨tys, [(11, s_laws_eqStringS), (163, s_laws_eqColS)], 0⟩
def laws_eqTable (a : ByteArray × qE × List ByteArray) (b : ByteArray × qE × List ByteArray) (k0 : Bool → Res) : Res :=
 bif sNe a.1 b.1 then
  k0 false
 else
  laws_eqColS a.2.1 b.2.1 fun (r : Bool) =>
   bif !r then
    k0 false
   else
    laws_eqStringS a.2.2 b.2.2 fun (r1 : Bool) =>
     bif !r1 then
      k0 false
     else
      k0 true
def s_laws_eqTable : Sig Unit := ⟨[.look y9 true, .look y9 true], [false], fun vals ext k => av vals y9 fun a vals => av vals y9 fun b vals => nl vals <| nl ext <| laws_eqTable a b (fun (r0 : Bool) => k [⟨.bool, false, r0, []⟩] [] [])⟩
theorem E_laws_eqTable (a : ByteArray × qE × List ByteArray) (a_a : Bool) (t_a : List Tag) (b : ByteArray × qE × List ByteArray) (a_b : Bool) (t_b : List Tag) (k : qK) : funC g_laws_eqTable [] .o false Tryz.f144 [.look y9 true, .look y9 true] [false] [⟨y9, a_a, a, t_a⟩, ⟨y9, a_b, b, t_b⟩] [] k = laws_eqTable a b (fun (r0 : Bool) => k [⟨.bool, false, r0, []⟩] [] []) := by kernel_rfl
theorem S_laws_eqTable : Sound Tryz.prog 144 s_laws_eqTable := sound_of (Γ := g_laws_eqTable) (X := []) (ht := .o) (fz := false) (c := c_laws_eqTable) follows tysOk (fns_cons S_laws_eqStringS (fns_cons S_laws_eqColS fns_nil)) trivial Tryz.func144 (by kernel_rfl) (by kernel_rfl) (by decide) (by
 intro vals ext k r h
 obtain ⟨a, a_a, t_a, vals, rfl, h1⟩ := av_some h
 obtain ⟨b, a_b, t_b, vals, rfl, h2⟩ := av_some h1
 obtain ⟨rfl, h3⟩ := nl_some h2
 obtain ⟨rfl, h4⟩ := nl_some h3
 exact (E_laws_eqTable a a_a t_a b a_b t_b k).trans h4)
end Go.PI.G
end
noncomputable section
namespace Go.PI.G
open Go Go.PI Go.Proofs

/-! ### 83 loop.example/g00462/laws.szTableS -/
def c_laws_szTableS : Code := (Tryz.f83.body).getD .skip
def g_laws_szTableS : Env Unit := ⟨tys, [(131, s_laws_szTable)], 0⟩
def laws_szTableS_l0_r (a : List qT) (left : Int) (i : Int) (rec : Int → Int → Res) (k0 : Int → Res) (k1 : Unit → Res) : Res :=
 bif decide (i < (nI (List.length a))) then
  bif inb i (List.length a) then
   laws_szTable (nth (eS, [], []) a i) left fun (r : Int) =>
    bif decide (r < 0) then
     k1 ()
    else
     rec r (wi64 (i + 1))
  else none
 else
  k0 left
def laws_szTableS_l0_s (a : List qT) : (Int × Int) → (Int × Int → Res) → ((Int → Res) × (Unit → Res)) → Res := fun v rec q => laws_szTableS_l0_r a v.1 v.2 (fun left i => rec (left, i)) q.1 q.2
def laws_szTableS_l0 (a : List qT) (n : Nat) (left : Int) (i : Int) (k0 : Int → Res) (k1 : Unit → Res) : Res := iter (laws_szTableS_l0_s a) n (left, i) (k0, k1)
def xlaws_szTableS_l0 : Node Unit := fun σ k => rdN σ 27 <| rdV σ 0 y10 false [.S] fun a => rdV σ 1 (.int .i64) false [] fun left => rdV σ 5 (.int .i64) false [] fun i => laws_szTableS_l0 a FUEL left i (fun (left1 : Int) => k (.exit 0) (mkS 27 27 [(1, .val ⟨(.int .i64), false, left1, []⟩)] [])) (fun (_ : Unit) => k .ret (mkS 27 27 [(4, .val ⟨(.int .i64), false, (-1), []⟩)] []))
theorem elaws_szTableS_l0 (a : List qT) (n : Nat) (v : Int × Int) (k : Kont Unit) : loopC (codeC g_laws_szTableS [] .o (Code.pl (Code.pl (Code.pr (Code.pl (Code.pr (Code.pr (Code.pr c_laws_szTableS)))))))) (fun σ => σ.forget [0, 1, 5] []) (cutC ([], []) [(0, [1], [])] ([4], [])) n (mkS 27 27 [(0, .val ⟨y10, false, a, [.S]⟩), (1, .val ⟨(.int .i64), false, v.1, []⟩), (5, .val ⟨(.int .i64), false, v.2, []⟩)] []) k = iter (laws_szTableS_l0_s a) n v ((fun (k : Kont Unit) => (((fun (left1 : Int) => k (.exit 0) (mkS 27 27 [(1, .val ⟨(.int .i64), false, left1, []⟩)] [])), (fun (_ : Unit) => k .ret (mkS 27 27 [(4, .val ⟨(.int .i64), false, (-1), []⟩)] []))) : (Int → Res) × (Unit → Res))) k) := loop_eq (fun v : Int × Int => (mkS 27 27 [(0, .val ⟨y10, false, a, [.S]⟩), (1, .val ⟨(.int .i64), false, v.1, []⟩), (5, .val ⟨(.int .i64), false, v.2, []⟩)] [])) (laws_szTableS_l0_s a) (fun (k : Kont Unit) => (((fun (left1 : Int) => k (.exit 0) (mkS 27 27 [(1, .val ⟨(.int .i64), false, left1, []⟩)] [])), (fun (_ : Unit) => k .ret (mkS 27 27 [(4, .val ⟨(.int .i64), false, (-1), []⟩)] []))) : (Int → Res) × (Unit → Res))) (fun v rec k => by kernel_rfl) n v k
theorem olaws_szTableS_l0 {W0 : Base} {M : Nat → Prop} (hnp : W0.np ≤ 0) : CodeOk Tryz.prog W0 M (Code.pl (Code.pr (Code.pl (Code.pr (Code.pr (Code.pr c_laws_szTableS)))))) xlaws_szTableS_l0 := show CodeOk Tryz.prog W0 M (Code.loop (Code.pl (Code.pl (Code.pr (Code.pl (Code.pr (Code.pr (Code.pr c_laws_szTableS)))))))) xlaws_szTableS_l0 from loop_ok (code_sound follows tysOk (calls_ok (fns_cons S_laws_szTable fns_nil)) hnp [] (Code.pl (Code.pl (Code.pr (Code.pl (Code.pr (Code.pr (Code.pr c_laws_szTableS))))))) .o trivial) (ks := [0, 1, 5]) (bs := []) (fX := (cutC ([], []) [(0, [1], [])] ([4], []))) (cutC_le _ _ _) FUEL (by
 intro σ k r h
 obtain ⟨hn, h1⟩ := rdN_some h
 obtain ⟨a, hs0, h2⟩ := rdV_some h1
 obtain ⟨left, hs1, h3⟩ := rdV_some h2
 obtain ⟨i, hs5, h4⟩ := rdV_some h3
 refine ⟨_, ?_, (elaws_szTableS_l0 a FUEL (left, i) k).trans h4⟩
 exact mkS_le hn ⟨hs0, hs1, hs5, trivial⟩ trivial)
def laws_szTableS (a : List qT) (left : Int) (k0 : Int → Res) : Res :=
 bif decide ((wi64 (left - (nI (List.length a)))) < 0) then
  k0 (-1)
 else
  laws_szTableS_l0 a FUEL (wi64 (left - (nI (List.length a)))) 0
   (fun (left1 : Int) =>
    k0 left1)
   (fun (_ : Unit) =>
    k0 (-1))
def s_laws_szTableS : Sig Unit := ⟨[.look y10 false, .look (.int .i64) false], [false], fun vals ext k => av vals y10 fun a vals => av vals (.int .i64) fun left vals => nl vals <| nl ext <| laws_szTableS a left (fun (r0 : Int) => k [⟨(.int .i64), false, r0, []⟩] [] [])⟩
theorem E_laws_szTableS (a : List qT) (a_a : Bool) (t_a : List Tag) (left : Int) (a_left : Bool) (t_left : List Tag) (k : qK) : funC g_laws_szTableS [xlaws_szTableS_l0] (.t .o (.t .o (.t .o (.t (.t .o (.t (.x 0) .o)) .o)))) false Tryz.f83 [.look y10 false, .look (.int .i64) false] [false] [⟨y10, a_a, a, t_a⟩, ⟨(.int .i64), a_left, left, t_left⟩] [] k = laws_szTableS a left (fun (r0 : Int) => k [⟨(.int .i64), false, r0, []⟩] [] []) := by kernel_rfl
theorem S_laws_szTableS : Sound Tryz.prog 83 s_laws_szTableS := sound_of (Γ := g_laws_szTableS) (X := [xlaws_szTableS_l0]) (ht := (.t .o (.t .o (.t .o (.t (.t .o (.t (.x 0) .o)) .o))))) (fz := false) (c := c_laws_szTableS) follows tysOk (fns_cons S_laws_szTable fns_nil) (OrOk.mk trivial ((OrOk.mk trivial ((OrOk.mk trivial ((OrOk.mk ((OrOk.mk trivial ((OrOk.mk (OrOk.x_mk (fun W0 M hnp => olaws_szTableS_l0 (W0 := W0) (M := M) hnp)) trivial)))) trivial))))))) Tryz.func83 (by kernel_rfl) (by kernel_rfl) (by decide) (by
 intro vals ext k r h
 obtain ⟨a, a_a, t_a, vals, rfl, h1⟩ := av_some h
 obtain ⟨left, a_left, t_left, vals, rfl, h2⟩ := av_some h1
 obtain ⟨rfl, h3⟩ := nl_some h2
 obtain ⟨rfl, h4⟩ := nl_some h3
 exact (E_laws_szTableS a a_a t_a left a_left t_left k).trans h4)

/-! ### 88 loop.example/g00462/laws.toTableS -/
def c_laws_toTableS : Code := (Tryz.f88.body).getD .skip
def g_laws_toTableS : Env Unit := ⟨tys, [(137, s_laws_toTable)], 0⟩
def laws_toTableS_l0_r (a : List qT) (out : List qT) (i : Int) (rec : qF → Int → Res) (k0 : qF → Res) : Res :=
 bif decide (i < (nI (List.length a))) then
  bif inb i (List.length a) then
   laws_toTable (nth (eS, [], []) a i) fun (r : ByteArray × qE × List ByteArray) =>
    bif inb i (List.length out) then
     rec (upd out i r) (wi64 (i + 1))
    else none
  else none
 else
  k0 out
def laws_toTableS_l0_s (a : List qT) : (qF × Int) → (qF × Int → Res) → ((qF → Res)) → Res := fun v rec q => laws_toTableS_l0_r a v.1 v.2 (fun out i => rec (out, i)) q
def laws_toTableS_l0 (a : List qT) (n : Nat) (out : List qT) (i : Int) (k0 : qF → Res) : Res := iter (laws_toTableS_l0_s a) n (out, i) (k0)
def xlaws_toTableS_l0 : Node Unit := fun σ k => rdN σ 23 <| rdV σ 0 y10 false [.S] fun a => rdV σ 3 y10 false [.O] fun out => rdV σ 4 (.int .i64) false [] fun i => laws_toTableS_l0 a FUEL out i (fun (out1 : List qT) => k (.exit 0) (mkS 23 23 [(3, .val ⟨y10, false, out1, [.O]⟩)] []))
theorem elaws_toTableS_l0 (a : List qT) (n : Nat) (v : qF × Int) (k : Kont Unit) : loopC (codeC g_laws_toTableS [] .o (Code.pl (Code.pl (Code.pr (Code.pl (Code.pr (Code.pr c_laws_toTableS))))))) (fun σ => σ.forget [0, 3, 4] []) (cutC ([], []) [(0, [3], [])] ([], [])) n (mkS 23 23 [(0, .val ⟨y10, false, a, [.S]⟩), (3, .val ⟨y10, false, v.1, [.O]⟩), (4, .val ⟨(.int .i64), false, v.2, []⟩)] []) k = iter (laws_toTableS_l0_s a) n v ((fun (k : Kont Unit) => (((fun (out1 : List qT) => k (.exit 0) (mkS 23 23 [(3, .val ⟨y10, false, out1, [.O]⟩)] []))) : (qF → Res))) k) := loop_eq (fun v : qF × Int => (mkS 23 23 [(0, .val ⟨y10, false, a, [.S]⟩), (3, .val ⟨y10, false, v.1, [.O]⟩), (4, .val ⟨(.int .i64), false, v.2, []⟩)] [])) (laws_toTableS_l0_s a) (fun (k : Kont Unit) => (((fun (out1 : List qT) => k (.exit 0) (mkS 23 23 [(3, .val ⟨y10, false, out1, [.O]⟩)] []))) : (qF → Res))) (fun v rec k => by kernel_rfl) n v k
theorem olaws_toTableS_l0 {W0 : Base} {M : Nat → Prop} (hnp : W0.np ≤ 0) : CodeOk Tryz.prog W0 M (Code.pl (Code.pr (Code.pl (Code.pr (Code.pr c_laws_toTableS))))) xlaws_toTableS_l0 := show CodeOk Tryz.prog W0 M (Code.loop (Code.pl (Code.pl (Code.pr (Code.pl (Code.pr (Code.pr c_laws_toTableS))))))) xlaws_toTableS_l0 from loop_ok (code_sound follows tysOk (calls_ok (fns_cons S_laws_toTable fns_nil)) hnp [] (Code.pl (Code.pl (Code.pr (Code.pl (Code.pr (Code.pr c_laws_toTableS)))))) .o trivial) (ks := [0, 3, 4]) (bs := []) (fX := (cutC ([], []) [(0, [3], [])] ([], []))) (cutC_le _ _ _) FUEL (by
 intro σ k r h
 obtain ⟨hn, h1⟩ := rdN_some h
 obtain ⟨a, hs0, h2⟩ := rdV_some h1
 obtain ⟨out, hs3, h3⟩ := rdV_some h2
 obtain ⟨i, hs4, h4⟩ := rdV_some h3
 refine ⟨_, ?_, (elaws_toTableS_l0 a FUEL (out, i) k).trans h4⟩
 exact mkS_le hn ⟨hs0, hs3, hs4, trivial⟩ trivial)
def laws_toTableS (a : List qT) (k0 : qF → Res) : Res :=
 bif mkOk (nI (List.length a)) (nI (List.length a)) then
  laws_toTableS_l0 a FUEL (repl (nI (List.length a)) (eS, [], [])) 0 fun (out : List qT) =>
   k0 out
 else none
def s_laws_toTableS : Sig Unit := ⟨[.borrow y10 false], [false], fun vals ext k => av vals y10 fun a vals => nl vals <| nl ext <| laws_toTableS a (fun (r0 : List qT) => k [⟨y10, false, r0, [.O]⟩] [] [])⟩
theorem E_laws_toTableS (a : List qT) (a_a : Bool) (t_a : List Tag) (k : qK) : funC g_laws_toTableS [xlaws_toTableS_l0] (.t .o (.t .o (.t (.t .o (.t (.x 0) .o)) .o))) false Tryz.f88 [.borrow y10 false] [false] [⟨y10, a_a, a, t_a⟩] [] k = laws_toTableS a (fun (r0 : List qT) => k [⟨y10, false, r0, [.O]⟩] [] []) := by kernel_rfl
theorem S_laws_toTableS : Sound Tryz.prog 88 s_laws_toTableS := sound_of (Γ := g_laws_toTableS) (X := [xlaws_toTableS_l0]) (ht := (.t .o (.t .o (.t (.t .o (.t (.x 0) .o)) .o)))) (fz := false) (c := c_laws_toTableS) follows tysOk (fns_cons S_laws_toTable fns_nil) (OrOk.mk trivial ((OrOk.mk trivial ((OrOk.mk ((OrOk.mk trivial ((OrOk.mk (OrOk.x_mk (fun W0 M hnp => olaws_toTableS_l0 (W0 := W0) (M := M) hnp)) trivial)))) trivial))))) Tryz.func88 (by kernel_rfl) (by kernel_rfl) (by decide) (by
 intro vals ext k r h
 obtain ⟨a, a_a, t_a, vals, rfl, h1⟩ := av_some h
 obtain ⟨rfl, h2⟩ := nl_some h1
 obtain ⟨rfl, h3⟩ := nl_some h2
 exact (E_laws_toTableS a a_a t_a k).trans h3)

/-! ### 95 loop.example/g00462/laws.eqTableS -/
def c_laws_eqTableS : Code := (Tryz.f95.body).getD .skip
def g_laws_eqTableS : Env Unit := ⟨tys, [(144, s_laws_eqTable)], 0⟩
def laws_eqTableS_l0_r (a : List qT) (b : List qT) (i : Int) (rec : Int → Res) (k0 : Unit → Res) (k1 : Unit → Res) : Res :=
 bif decide (i < (nI (List.length a))) then
  bif inb i (List.length a) then
   bif inb i (List.length b) then
    laws_eqTable (nth (eS, [], []) a i) (nth (eS, [], []) b i) fun (r : Bool) =>
     bif !r then
      k1 ()
     else
      rec (wi64 (i + 1))
   else none
  else none
 else
  k0 ()
def laws_eqTableS_l0_s (a : List qT) (b : List qT) : Int → (Int → Res) → ((Unit → Res) × (Unit → Res)) → Res := fun v rec q => laws_eqTableS_l0_r a b v (fun i => rec (i)) q.1 q.2
def laws_eqTableS_l0 (a : List qT) (b : List qT) (n : Nat) (i : Int) (k0 : Unit → Res) (k1 : Unit → Res) : Res := iter (laws_eqTableS_l0_s a b) n (i) (k0, k1)
def xlaws_eqTableS_l0 : Node Unit := fun σ k => rdN σ 27 <| rdV σ 0 y10 false [.S] fun a => rdV σ 1 y10 false [.S] fun b => rdV σ 5 (.int .i64) false [] fun i => laws_eqTableS_l0 a b FUEL i (fun (_ : Unit) => k (.exit 0) (mkS 27 27 [] [])) (fun (_ : Unit) => k .ret (mkS 27 27 [(4, .val ⟨.bool, false, false, []⟩)] []))
theorem elaws_eqTableS_l0 (a : List qT) (b : List qT) (n : Nat) (v : Int) (k : Kont Unit) : loopC (codeC g_laws_eqTableS [] .o (Code.pl (Code.pl (Code.pr (Code.pl (Code.pr (Code.pr c_laws_eqTableS))))))) (fun σ => σ.forget [0, 1, 5] []) (cutC ([], []) [(0, [], [])] ([4], [])) n (mkS 27 27 [(0, .val ⟨y10, false, a, [.S]⟩), (1, .val ⟨y10, false, b, [.S]⟩), (5, .val ⟨(.int .i64), false, v, []⟩)] []) k = iter (laws_eqTableS_l0_s a b) n v ((fun (k : Kont Unit) => (((fun (_ : Unit) => k (.exit 0) (mkS 27 27 [] [])), (fun (_ : Unit) => k .ret (mkS 27 27 [(4, .val ⟨.bool, false, false, []⟩)] []))) : (Unit → Res) × (Unit → Res))) k) := loop_eq (fun v : Int => (mkS 27 27 [(0, .val ⟨y10, false, a, [.S]⟩), (1, .val ⟨y10, false, b, [.S]⟩), (5, .val ⟨(.int .i64), false, v, []⟩)] [])) (laws_eqTableS_l0_s a b) (fun (k : Kont Unit) => (((fun (_ : Unit) => k (.exit 0) (mkS 27 27 [] [])), (fun (_ : Unit) => k .ret (mkS 27 27 [(4, .val ⟨.bool, false, false, []⟩)] []))) : (Unit → Res) × (Unit → Res))) (fun v rec k => by kernel_rfl) n v k
theorem olaws_eqTableS_l0 {W0 : Base} {M : Nat → Prop} (hnp : W0.np ≤ 0) : CodeOk Tryz.prog W0 M (Code.pl (Code.pr (Code.pl (Code.pr (Code.pr c_laws_eqTableS))))) xlaws_eqTableS_l0 := show CodeOk Tryz.prog W0 M (Code.loop (Code.pl (Code.pl (Code.pr (Code.pl (Code.pr (Code.pr c_laws_eqTableS))))))) xlaws_eqTableS_l0 from loop_ok (code_sound follows tysOk (calls_ok (fns_cons S_laws_eqTable fns_nil)) hnp [] (Code.pl (Code.pl (Code.pr (Code.pl (Code.pr (Code.pr c_laws_eqTableS)))))) .o trivial) (ks := [0, 1, 5]) (bs := []) (fX := (cutC ([], []) [(0, [], [])] ([4], []))) (cutC_le _ _ _) FUEL (by
 intro σ k r h
 obtain ⟨hn, h1⟩ := rdN_some h
 obtain ⟨a, hs0, h2⟩ := rdV_some h1
 obtain ⟨b, hs1, h3⟩ := rdV_some h2
 obtain ⟨i, hs5, h4⟩ := rdV_some h3
 refine ⟨_, ?_, (elaws_eqTableS_l0 a b FUEL (i) k).trans h4⟩
 exact mkS_le hn ⟨hs0, hs1, hs5, trivial⟩ trivial)
def laws_eqTableS (a : List qT) (b : List qT) (k0 : Bool → Res) : Res :=
 bif ((nI (List.length a)) != (nI (List.length b))) then
  k0 false
 else
  laws_eqTableS_l0 a b FUEL 0
   (fun (_ : Unit) =>
    k0 true)
   (fun (_ : Unit) =>
    k0 false)
def s_laws_eqTableS : Sig Unit := ⟨[.look y10 false, .look y10 false], [false], fun vals ext k => av vals y10 fun a vals => av vals y10 fun b vals => nl vals <| nl ext <| laws_eqTableS a b (fun (r0 : Bool) => k [⟨.bool, false, r0, []⟩] [] [])⟩
theorem E_laws_eqTableS (a : List qT) (a_a : Bool) (t_a : List Tag) (b : List qT) (a_b : Bool) (t_b : List Tag) (k : qK) : funC g_laws_eqTableS [xlaws_eqTableS_l0] (.t .o (.t .o (.t (.t .o (.t (.x 0) .o)) .o))) false Tryz.f95 [.look y10 false, .look y10 false] [false] [⟨y10, a_a, a, t_a⟩, ⟨y10, a_b, b, t_b⟩] [] k = laws_eqTableS a b (fun (r0 : Bool) => k [⟨.bool, false, r0, []⟩] [] []) := by kernel_rfl
theorem S_laws_eqTableS : Sound Tryz.prog 95 s_laws_eqTableS := sound_of (Γ := g_laws_eqTableS) (X := [xlaws_eqTableS_l0]) (ht := (.t .o (.t .o (.t (.t .o (.t (.x 0) .o)) .o)))) (fz := false) (c := c_laws_eqTableS) follows tysOk (fns_cons S_laws_eqTable fns_nil) (OrOk.mk trivial ((OrOk.mk trivial ((OrOk.mk ((OrOk.mk trivial ((OrOk.mk (OrOk.x_mk (fun W0 M hnp => olaws_eqTableS_l0 (W0 := W0) (M := M) hnp)) trivial)))) trivial))))) Tryz.func95 (by kernel_rfl) (by kernel_rfl) (by decide) (by
 intro vals ext k r h
 obtain ⟨a, a_a, t_a, vals, rfl, h1⟩ := av_some h
 obtain ⟨b, a_b, t_b, vals, rfl, h2⟩ := av_some h1
 obtain ⟨rfl, h3⟩ := nl_some h2
 obtain ⟨rfl, h4⟩ := nl_some h3
 exact (E_laws_eqTableS a a_a t_a b a_b t_b k).trans h4)

/-! ### 97 loop.example/g00462/laws.markTableS -/
def c_laws_markTableS : Code := (Tryz.f97.body).getD .skip
def g_laws_markTableS : Env Unit := ⟨tys, [(14, s_laws_markStringS), (49, s_laws_markText), (80, s_laws_markColS)], 1⟩
def laws_markTableS_l0_r (a : List qT) (k_ : Int) (i : Int) (rec : qF → Int → Int → Res) (k0 : qF → Int → Res) : Res :=
 bif decide (i < (nI (List.length a))) then
  laws_markText k_ fun (r : ByteArray) =>
   bif inb i (List.length a) then
    bif inb i (List.length (upd a i (r, (nth (eS, [], []) a i).2))) then
     laws_markColS (nth (eS, [], []) (upd a i (r, (nth (eS, [], []) a i).2)) i).2.1 (wi64 (k_ + 1)) fun (r1 : Int) (a1 : List qC) =>
      bif inb i (List.length (upd (upd a i (r, (nth (eS, [], []) a i).2)) i ((nth (eS, [], []) (upd a i (r, (nth (eS, [], []) a i).2)) i).1, a1, (nth (eS, [], []) (upd a i (r, (nth (eS, [], []) a i).2)) i).2.2))) then
       laws_markStringS (nth (eS, [], []) (upd (upd a i (r, (nth (eS, [], []) a i).2)) i ((nth (eS, [], []) (upd a i (r, (nth (eS, [], []) a i).2)) i).1, a1, (nth (eS, [], []) (upd a i (r, (nth (eS, [], []) a i).2)) i).2.2)) i).2.2 r1 fun (r2 : Int) (a2 : List ByteArray) =>
        rec (upd (upd (upd a i (r, (nth (eS, [], []) a i).2)) i ((nth (eS, [], []) (upd a i (r, (nth (eS, [], []) a i).2)) i).1, a1, (nth (eS, [], []) (upd a i (r, (nth (eS, [], []) a i).2)) i).2.2)) i ((nth (eS, [], []) (upd (upd a i (r, (nth (eS, [], []) a i).2)) i ((nth (eS, [], []) (upd a i (r, (nth (eS, [], []) a i).2)) i).1, a1, (nth (eS, [], []) (upd a i (r, (nth (eS, [], []) a i).2)) i).2.2)) i).1, (nth (eS, [], []) (upd (upd a i (r, (nth (eS, [], []) a i).2)) i ((nth (eS, [], []) (upd a i (r, (nth (eS, [], []) a i).2)) i).1, a1, (nth (eS, [], []) (upd a i (r, (nth (eS, [], []) a i).2)) i).2.2)) i).2.1, a2)) r2 (wi64 (i + 1))
      else none
    else none
   else none
 else
  k0 a k_
def laws_markTableS_l0_s : (qF × Int × Int) → (qF × Int × Int → Res) → ((qF → Int → Res)) → Res := fun v rec q => laws_markTableS_l0_r v.1 v.2.1 v.2.2 (fun a k_ i => rec (a, k_, i)) q
def laws_markTableS_l0 (n : Nat) (a : List qT) (k_ : Int) (i : Int) (k0 : qF → Int → Res) : Res := iter (laws_markTableS_l0_s) n (a, k_, i) (k0)
def xlaws_markTableS_l0 : Node Unit := fun σ k => rdN σ 35 <| rdV σ 0 y10 false [.O] fun a => rdV σ 1 (.int .i64) false [] fun k_ => rdV σ 5 (.int .i64) false [] fun i => laws_markTableS_l0 FUEL a k_ i (fun (a3 : List qT) (k_1 : Int) => k (.exit 0) (mkS 35 35 [(0, .val ⟨y10, false, a3, [.O]⟩), (1, .val ⟨(.int .i64), false, k_1, []⟩)] []))
theorem elaws_markTableS_l0  (n : Nat) (v : qF × Int × Int) (k : Kont Unit) : loopC (codeC g_laws_markTableS [] .o (Code.pl (Code.pl (Code.pr (Code.pl (Code.pr c_laws_markTableS)))))) (fun σ => σ.forget [0, 1, 5] []) (cutC ([], []) [(0, [0, 1], [])] ([], [])) n (mkS 35 35 [(0, .val ⟨y10, false, v.1, [.O]⟩), (1, .val ⟨(.int .i64), false, v.2.1, []⟩), (5, .val ⟨(.int .i64), false, v.2.2, []⟩)] []) k = iter (laws_markTableS_l0_s) n v ((fun (k : Kont Unit) => (((fun (a3 : List qT) (k_1 : Int) => k (.exit 0) (mkS 35 35 [(0, .val ⟨y10, false, a3, [.O]⟩), (1, .val ⟨(.int .i64), false, k_1, []⟩)] []))) : (qF → Int → Res))) k) := loop_eq (fun v : qF × Int × Int => (mkS 35 35 [(0, .val ⟨y10, false, v.1, [.O]⟩), (1, .val ⟨(.int .i64), false, v.2.1, []⟩), (5, .val ⟨(.int .i64), false, v.2.2, []⟩)] [])) (laws_markTableS_l0_s) (fun (k : Kont Unit) => (((fun (a3 : List qT) (k_1 : Int) => k (.exit 0) (mkS 35 35 [(0, .val ⟨y10, false, a3, [.O]⟩), (1, .val ⟨(.int .i64), false, k_1, []⟩)] []))) : (qF → Int → Res))) (fun v rec k => by kernel_rfl) n v k
theorem olaws_markTableS_l0 {W0 : Base} {M : Nat → Prop} (hnp : W0.np ≤ 1) : CodeOk Tryz.prog W0 M (Code.pl (Code.pr (Code.pl (Code.pr c_laws_markTableS)))) xlaws_markTableS_l0 := show CodeOk Tryz.prog W0 M (Code.loop (Code.pl (Code.pl (Code.pr (Code.pl (Code.pr c_laws_markTableS)))))) xlaws_markTableS_l0 from loop_ok (code_sound follows tysOk (calls_ok (fns_cons S_laws_markStringS (fns_cons S_laws_markText (fns_cons S_laws_markColS fns_nil)))) hnp [] (Code.pl (Code.pl (Code.pr (Code.pl (Code.pr c_laws_markTableS))))) .o trivial) (ks := [0, 1, 5]) (bs := []) (fX := (cutC ([], []) [(0, [0, 1], [])] ([], []))) (cutC_le _ _ _) FUEL (by
 intro σ k r h
 obtain ⟨hn, h1⟩ := rdN_some h
 obtain ⟨a, hs0, h2⟩ := rdV_some h1
 obtain ⟨k_, hs1, h3⟩ := rdV_some h2
 obtain ⟨i, hs5, h4⟩ := rdV_some h3
 refine ⟨_, ?_, (elaws_markTableS_l0  FUEL (a, k_, i) k).trans h4⟩
 exact mkS_le hn ⟨hs0, hs1, hs5, trivial⟩ trivial)
def laws_markTableS (a : List qT) (k_ : Int) (k0 : Int → qF → Res) : Res :=
 laws_markTableS_l0 FUEL a k_ 0 fun (a1 : List qT) (k_1 : Int) =>
  k0 k_1 a1
def s_laws_markTableS : Sig Unit := ⟨[.inout y10 false, .borrow (.int .i64) false], [false], fun vals ext k => ao vals y10 [.O] fun a vals => av vals (.int .i64) fun k_ vals => nl vals <| nl ext <| laws_markTableS a k_ (fun (r0 : Int) (i0 : List qT) => k [⟨(.int .i64), false, r0, []⟩] [⟨y10, false, i0, [.O]⟩] [])⟩
theorem E_laws_markTableS (a_a : Bool) (a : List qT) (k_ : Int) (a_k_ : Bool) (t_k_ : List Tag) (k : qK) : funC g_laws_markTableS [xlaws_markTableS_l0] (.t .o (.t (.t .o (.t (.x 0) .o)) .o)) false Tryz.f97 [.inout y10 false, .borrow (.int .i64) false] [false] [⟨y10, a_a, a, [.O]⟩, ⟨(.int .i64), a_k_, k_, t_k_⟩] [] k = laws_markTableS a k_ (fun (r0 : Int) (i0 : List qT) => k [⟨(.int .i64), false, r0, []⟩] [⟨y10, false, i0, [.O]⟩] []) := by kernel_rfl
theorem S_laws_markTableS : Sound Tryz.prog 97 s_laws_markTableS := sound_of (Γ := g_laws_markTableS) (X := [xlaws_markTableS_l0]) (ht := (.t .o (.t (.t .o (.t (.x 0) .o)) .o))) (fz := false) (c := c_laws_markTableS) follows tysOk (fns_cons S_laws_markStringS (fns_cons S_laws_markText (fns_cons S_laws_markColS fns_nil))) (OrOk.mk trivial ((OrOk.mk ((OrOk.mk trivial ((OrOk.mk (OrOk.x_mk (fun W0 M hnp => olaws_markTableS_l0 (W0 := W0) (M := M) hnp)) trivial)))) trivial))) Tryz.func97 (by kernel_rfl) (by kernel_rfl) (by decide) (by
 intro vals ext k r h
 obtain ⟨a_a, a, vals, rfl, h1⟩ := ao_some h
 obtain ⟨k_, a_k_, t_k_, vals, rfl, h2⟩ := av_some h1
 obtain ⟨rfl, h3⟩ := nl_some h2
 obtain ⟨rfl, h4⟩ := nl_some h3
 exact (E_laws_markTableS a_a a k_ a_k_ t_k_ k).trans h4)
end Go.PI.G
end
noncomputable section
namespace Go.PI.G
open Go Go.PI Go.Proofs

/-! ### 35 loop.example/g00462/laws.szCat -/
def c_laws_szCat : Code := (Tryz.f35.body).getD .skip
def g_laws_szCat : Env Unit := ⟨tys, [(83, s_laws_szTableS)], 0⟩
def laws_szCat (a : List qT) (left : Int) (k0 : Int → Res) : Res :=
 laws_szTableS a left fun (r : Int) =>
  bif decide (r < 0) then
   k0 (-1)
  else
   k0 r
def s_laws_szCat : Sig Unit := ⟨[.look y10 true, .look (.int .i64) false], [false], fun vals ext k => av vals y10 fun a vals => av vals (.int .i64) fun left vals => nl vals <| nl ext <| laws_szCat a left (fun (r0 : Int) => k [⟨(.int .i64), false, r0, []⟩] [] [])⟩
theorem E_laws_szCat (a : List qT) (a_a : Bool) (t_a : List Tag) (left : Int) (a_left : Bool) (t_left : List Tag) (k : qK) : funC g_laws_szCat [] .o false Tryz.f35 [.look y10 true, .look (.int .i64) false] [false] [⟨y10, a_a, a, t_a⟩, ⟨(.int .i64), a_left, left, t_left⟩] [] k = laws_szCat a left (fun (r0 : Int) => k [⟨(.int .i64), false, r0, []⟩] [] []) := by kernel_rfl
theorem S_laws_szCat : Sound Tryz.prog 35 s_laws_szCat := sound_of (Γ := g_laws_szCat) (X := []) (ht := .o) (fz := false) (c := c_laws_szCat) follows tysOk (fns_cons S_laws_szTableS fns_nil) trivial Tryz.func35 (by kernel_rfl) (by kernel_rfl) (by decide) (by
 intro vals ext k r h
 obtain ⟨a, a_a, t_a, vals, rfl, h1⟩ := av_some h
 obtain ⟨left, a_left, t_left, vals, rfl, h2⟩ := av_some h1
 obtain ⟨rfl, h3⟩ := nl_some h2
 obtain ⟨rfl, h4⟩ := nl_some h3
 exact (E_laws_szCat a a_a t_a left a_left t_left k).trans h4)

/-! ### 40 loop.example/g00462/laws.toCat -/
def c_laws_toCat : Code := (Tryz.f40.body).getD .skip
def g_laws_toCat : Env Unit := ⟨tys, [(88, s_laws_toTableS)], 0⟩
def laws_toCat (a : List qT) (k0 : qF → Res) : Res :=
 laws_toTableS a fun (r : List qT) =>
  k0 r
def s_laws_toCat : Sig Unit := ⟨[.borrow y10 true], [true], fun vals ext k => av vals y10 fun a vals => nl vals <| nl ext <| laws_toCat a (fun (r0 : List qT) => k [⟨y10, true, r0, [.O]⟩] [] [])⟩
theorem E_laws_toCat (a : List qT) (a_a : Bool) (t_a : List Tag) (k : qK) : funC g_laws_toCat [] .o false Tryz.f40 [.borrow y10 true] [true] [⟨y10, a_a, a, t_a⟩] [] k = laws_toCat a (fun (r0 : List qT) => k [⟨y10, true, r0, [.O]⟩] [] []) := by kernel_rfl
theorem S_laws_toCat : Sound Tryz.prog 40 s_laws_toCat := sound_of (Γ := g_laws_toCat) (X := []) (ht := .o) (fz := false) (c := c_laws_toCat) follows tysOk (fns_cons S_laws_toTableS fns_nil) trivial Tryz.func40 (by kernel_rfl) (by kernel_rfl) (by decide) (by
 intro vals ext k r h
 obtain ⟨a, a_a, t_a, vals, rfl, h1⟩ := av_some h
 obtain ⟨rfl, h2⟩ := nl_some h1
 obtain ⟨rfl, h3⟩ := nl_some h2
 exact (E_laws_toCat a a_a t_a k).trans h3)

/-! ### 45 loop.example/g00462/laws.eqCat -/
def c_laws_eqCat : Code := (Tryz.f45.body).getD .skip
def g_laws_eqCat : Env Unit := ⟨tys, [(95, s_laws_eqTableS)], 0⟩
def laws_eqCat (a : List qT) (b : List qT) (k0 : Bool → Res) : Res :=
 laws_eqTableS a b fun (r : Bool) =>
  bif !r then
   k0 false
  else
   k0 true
def s_laws_eqCat : Sig Unit := ⟨[.look y10 true, .look y10 true], [false], fun vals ext k => av vals y10 fun a vals => av vals y10 fun b vals => nl vals <| nl ext <| laws_eqCat a b (fun (r0 : Bool) => k [⟨.bool, false, r0, []⟩] [] [])⟩
theorem E_laws_eqCat (a : List qT) (a_a : Bool) (t_a : List Tag) (b : List qT) (a_b : Bool) (t_b : List Tag) (k : qK) : funC g_laws_eqCat [] .o false Tryz.f45 [.look y10 true, .look y10 true] [false] [⟨y10, a_a, a, t_a⟩, ⟨y10, a_b, b, t_b⟩] [] k = laws_eqCat a b (fun (r0 : Bool) => k [⟨.bool, false, r0, []⟩] [] []) := by kernel_rfl
theorem S_laws_eqCat : Sound Tryz.prog 45 s_laws_eqCat := sound_of (Γ := g_laws_eqCat) (X := []) (ht := .o) (fz := false) (c := c_laws_eqCat) follows tysOk (fns_cons S_laws_eqTableS fns_nil) trivial Tryz.func45 (by kernel_rfl) (by kernel_rfl) (by decide) (by
 intro vals ext k r h
 obtain ⟨a, a_a, t_a, vals, rfl, h1⟩ := av_some h
 obtain ⟨b, a_b, t_b, vals, rfl, h2⟩ := av_some h1
 obtain ⟨rfl, h3⟩ := nl_some h2
 obtain ⟨rfl, h4⟩ := nl_some h3
 exact (E_laws_eqCat a a_a t_a b a_b t_b k).trans h4)

/-! ### 47 loop.example/g00462/laws.markCat -/
def c_laws_markCat : Code := (Tryz.f47.body).getD .skip
def g_laws_markCat : Env Unit := ⟨tys, [(97, s_laws_markTableS)], 1⟩
def laws_markCat (a : List qT) (k_ : Int) (k0 : Int → qF → Res) : Res :=
 laws_markTableS a k_ fun (r : Int) (a1 : List qT) =>
  k0 r a1
def s_laws_markCat : Sig Unit := ⟨[.inout y10 true, .borrow (.int .i64) false], [false], fun vals ext k => ao vals y10 [.O] fun a vals => av vals (.int .i64) fun k_ vals => nl vals <| nl ext <| laws_markCat a k_ (fun (r0 : Int) (i0 : List qT) => k [⟨(.int .i64), false, r0, []⟩] [⟨y10, true, i0, [.O]⟩] [])⟩
theorem E_laws_markCat (a_a : Bool) (a : List qT) (k_ : Int) (a_k_ : Bool) (t_k_ : List Tag) (k : qK) : funC g_laws_markCat [] .o false Tryz.f47 [.inout y10 true, .borrow (.int .i64) false] [false] [⟨y10, a_a, a, [.O]⟩, ⟨(.int .i64), a_k_, k_, t_k_⟩] [] k = laws_markCat a k_ (fun (r0 : Int) (i0 : List qT) => k [⟨(.int .i64), false, r0, []⟩] [⟨y10, true, i0, [.O]⟩] []) := by kernel_rfl
theorem S_laws_markCat : Sound Tryz.prog 47 s_laws_markCat := sound_of (Γ := g_laws_markCat) (X := []) (ht := .o) (fz := false) (c := c_laws_markCat) follows tysOk (fns_cons S_laws_markTableS fns_nil) trivial Tryz.func47 (by kernel_rfl) (by kernel_rfl) (by decide) (by
 intro vals ext k r h
 obtain ⟨a_a, a, vals, rfl, h1⟩ := ao_some h
 obtain ⟨k_, a_k_, t_k_, vals, rfl, h2⟩ := av_some h1
 obtain ⟨rfl, h3⟩ := nl_some h2
 obtain ⟨rfl, h4⟩ := nl_some h3
 exact (E_laws_markCat a_a a k_ a_k_ t_k_ k).trans h4)
end Go.PI.G
end
noncomputable section
namespace Go.PI.G
open Go Go.PI Go.Proofs

/-! ### 178 loop.example/g00462/laws.szValS -/
def c_laws_szValS : Code := (Tryz.f178.body).getD .skip
def g_laws_szValS : Env Unit := ⟨tys, [(196, s_laws_szVal)], 0⟩
def laws_szValS_l0_r (a : List qV) (left : Int) (i : Int) (rec : Int → Int → Res) (k0 : Int → Res) (k1 : Unit → Res) : Res :=
 bif decide (i < (nI (List.length a))) then
  bif inb i (List.length a) then
   laws_szVal (nth (0, 0, eS) a i) left fun (r : Int) =>
    bif decide (r < 0) then
     k1 ()
    else
     rec r (wi64 (i + 1))
  else none
 else
  k0 left
def laws_szValS_l0_s (a : List qV) : (Int × Int) → (Int × Int → Res) → ((Int → Res) × (Unit → Res)) → Res := fun v rec q => laws_szValS_l0_r a v.1 v.2 (fun left i => rec (left, i)) q.1 q.2
def laws_szValS_l0 (a : List qV) (n : Nat) (left : Int) (i : Int) (k0 : Int → Res) (k1 : Unit → Res) : Res := iter (laws_szValS_l0_s a) n (left, i) (k0, k1)
def xlaws_szValS_l0 : Node Unit := fun σ k => rdN σ 27 <| rdV σ 0 y11 false [.S] fun a => rdV σ 1 (.int .i64) false [] fun left => rdV σ 5 (.int .i64) false [] fun i => laws_szValS_l0 a FUEL left i (fun (left1 : Int) => k (.exit 0) (mkS 27 27 [(1, .val ⟨(.int .i64), false, left1, []⟩)] [])) (fun (_ : Unit) => k .ret (mkS 27 27 [(4, .val ⟨(.int .i64), false, (-1), []⟩)] []))
theorem elaws_szValS_l0 (a : List qV) (n : Nat) (v : Int × Int) (k : Kont Unit) : loopC (codeC g_laws_szValS [] .o (Code.pl (Code.pl (Code.pr (Code.pl (Code.pr (Code.pr (Code.pr c_laws_szValS)))))))) (fun σ => σ.forget [0, 1, 5] []) (cutC ([], []) [(0, [1], [])] ([4], [])) n (mkS 27 27 [(0, .val ⟨y11, false, a, [.S]⟩), (1, .val ⟨(.int .i64), false, v.1, []⟩), (5, .val ⟨(.int .i64), false, v.2, []⟩)] []) k = iter (laws_szValS_l0_s a) n v ((fun (k : Kont Unit) => (((fun (left1 : Int) => k (.exit 0) (mkS 27 27 [(1, .val ⟨(.int .i64), false, left1, []⟩)] [])), (fun (_ : Unit) => k .ret (mkS 27 27 [(4, .val ⟨(.int .i64), false, (-1), []⟩)] []))) : (Int → Res) × (Unit → Res))) k) := loop_eq (fun v : Int × Int => (mkS 27 27 [(0, .val ⟨y11, false, a, [.S]⟩), (1, .val ⟨(.int .i64), false, v.1, []⟩), (5, .val ⟨(.int .i64), false, v.2, []⟩)] [])) (laws_szValS_l0_s a) (fun (k : Kont Unit) => (((fun (left1 : Int) => k (.exit 0) (mkS 27 27 [(1, .val ⟨(.int .i64), false, left1, []⟩)] [])), (fun (_ : Unit) => k .ret (mkS 27 27 [(4, .val ⟨(.int .i64), false, (-1), []⟩)] []))) : (Int → Res) × (Unit → Res))) (fun v rec k => by kernel_rfl) n v k
theorem olaws_szValS_l0 {W0 : Base} {M : Nat → Prop} (hnp : W0.np ≤ 0) : CodeOk Tryz.prog W0 M (Code.pl (Code.pr (Code.pl (Code.pr (Code.pr (Code.pr c_laws_szValS)))))) xlaws_szValS_l0 := show CodeOk Tryz.prog W0 M (Code.loop (Code.pl (Code.pl (Code.pr (Code.pl (Code.pr (Code.pr (Code.pr c_laws_szValS)))))))) xlaws_szValS_l0 from loop_ok (code_sound follows tysOk (calls_ok (fns_cons S_laws_szVal fns_nil)) hnp [] (Code.pl (Code.pl (Code.pr (Code.pl (Code.pr (Code.pr (Code.pr c_laws_szValS))))))) .o trivial) (ks := [0, 1, 5]) (bs := []) (fX := (cutC ([], []) [(0, [1], [])] ([4], []))) (cutC_le _ _ _) FUEL (by
 intro σ k r h
 obtain ⟨hn, h1⟩ := rdN_some h
 obtain ⟨a, hs0, h2⟩ := rdV_some h1
 obtain ⟨left, hs1, h3⟩ := rdV_some h2
 obtain ⟨i, hs5, h4⟩ := rdV_some h3
 refine ⟨_, ?_, (elaws_szValS_l0 a FUEL (left, i) k).trans h4⟩
 exact mkS_le hn ⟨hs0, hs1, hs5, trivial⟩ trivial)
def laws_szValS (a : List qV) (left : Int) (k0 : Int → Res) : Res :=
 bif decide ((wi64 (left - (nI (List.length a)))) < 0) then
  k0 (-1)
 else
  laws_szValS_l0 a FUEL (wi64 (left - (nI (List.length a)))) 0
   (fun (left1 : Int) =>
    k0 left1)
   (fun (_ : Unit) =>
    k0 (-1))
def s_laws_szValS : Sig Unit := ⟨[.look y11 false, .look (.int .i64) false], [false], fun vals ext k => av vals y11 fun a vals => av vals (.int .i64) fun left vals => nl vals <| nl ext <| laws_szValS a left (fun (r0 : Int) => k [⟨(.int .i64), false, r0, []⟩] [] [])⟩
theorem E_laws_szValS (a : List qV) (a_a : Bool) (t_a : List Tag) (left : Int) (a_left : Bool) (t_left : List Tag) (k : qK) : funC g_laws_szValS [xlaws_szValS_l0] (.t .o (.t .o (.t .o (.t (.t .o (.t (.x 0) .o)) .o)))) false Tryz.f178 [.look y11 false, .look (.int .i64) false] [false] [⟨y11, a_a, a, t_a⟩, ⟨(.int .i64), a_left, left, t_left⟩] [] k = laws_szValS a left (fun (r0 : Int) => k [⟨(.int .i64), false, r0, []⟩] [] []) := by kernel_rfl
theorem S_laws_szValS : Sound Tryz.prog 178 s_laws_szValS := sound_of (Γ := g_laws_szValS) (X := [xlaws_szValS_l0]) (ht := (.t .o (.t .o (.t .o (.t (.t .o (.t (.x 0) .o)) .o))))) (fz := false) (c := c_laws_szValS) follows tysOk (fns_cons S_laws_szVal fns_nil) (OrOk.mk trivial ((OrOk.mk trivial ((OrOk.mk trivial ((OrOk.mk ((OrOk.mk trivial ((OrOk.mk (OrOk.x_mk (fun W0 M hnp => olaws_szValS_l0 (W0 := W0) (M := M) hnp)) trivial)))) trivial))))))) Tryz.func178 (by kernel_rfl) (by kernel_rfl) (by decide) (by
 intro vals ext k r h
 obtain ⟨a, a_a, t_a, vals, rfl, h1⟩ := av_some h
 obtain ⟨left, a_left, t_left, vals, rfl, h2⟩ := av_some h1
 obtain ⟨rfl, h3⟩ := nl_some h2
 obtain ⟨rfl, h4⟩ := nl_some h3
 exact (E_laws_szValS a a_a t_a left a_left t_left k).trans h4)

/-! ### 180 loop.example/g00462/laws.toValS -/
def c_laws_toValS : Code := (Tryz.f180.body).getD .skip
def g_laws_toValS : Env Unit := ⟨tys, [(197, s_laws_toVal)], 0⟩
def laws_toValS_l0_r (a : List qV) (out : List qV) (i : Int) (rec : qW → Int → Res) (k0 : qW → Res) : Res :=
 bif decide (i < (nI (List.length a))) then
  bif inb i (List.length a) then
   laws_toVal (nth (0, 0, eS) a i) fun (r : Int × Int × ByteArray) =>
    bif inb i (List.length out) then
     rec (upd out i r) (wi64 (i + 1))
    else none
  else none
 else
  k0 out
def laws_toValS_l0_s (a : List qV) : (qW × Int) → (qW × Int → Res) → ((qW → Res)) → Res := fun v rec q => laws_toValS_l0_r a v.1 v.2 (fun out i => rec (out, i)) q
def laws_toValS_l0 (a : List qV) (n : Nat) (out : List qV) (i : Int) (k0 : qW → Res) : Res := iter (laws_toValS_l0_s a) n (out, i) (k0)
def xlaws_toValS_l0 : Node Unit := fun σ k => rdN σ 23 <| rdV σ 0 y11 false [.S] fun a => rdV σ 3 y11 false [.O] fun out => rdV σ 4 (.int .i64) false [] fun i => laws_toValS_l0 a FUEL out i (fun (out1 : List qV) => k (.exit 0) (mkS 23 23 [(3, .val ⟨y11, false, out1, [.O]⟩)] []))
theorem elaws_toValS_l0 (a : List qV) (n : Nat) (v : qW × Int) (k : Kont Unit) : loopC (codeC g_laws_toValS [] .o (Code.pl (Code.pl (Code.pr (Code.pl (Code.pr (Code.pr c_laws_toValS))))))) (fun σ => σ.forget [0, 3, 4] []) (cutC ([], []) [(0, [3], [])] ([], [])) n (mkS 23 23 [(0, .val ⟨y11, false, a, [.S]⟩), (3, .val ⟨y11, false, v.1, [.O]⟩), (4, .val ⟨(.int .i64), false, v.2, []⟩)] []) k = iter (laws_toValS_l0_s a) n v ((fun (k : Kont Unit) => (((fun (out1 : List qV) => k (.exit 0) (mkS 23 23 [(3, .val ⟨y11, false, out1, [.O]⟩)] []))) : (qW → Res))) k) := loop_eq (fun v : qW × Int => (mkS 23 23 [(0, .val ⟨y11, false, a, [.S]⟩), (3, .val ⟨y11, false, v.1, [.O]⟩), (4, .val ⟨(.int .i64), false, v.2, []⟩)] [])) (laws_toValS_l0_s a) (fun (k : Kont Unit) => (((fun (out1 : List qV) => k (.exit 0) (mkS 23 23 [(3, .val ⟨y11, false, out1, [.O]⟩)] []))) : (qW → Res))) (fun v rec k => by kernel_rfl) n v k
theorem olaws_toValS_l0 {W0 : Base} {M : Nat → Prop} (hnp : W0.np ≤ 0) : CodeOk Tryz.prog W0 M (Code.pl (Code.pr (Code.pl (Code.pr (Code.pr c_laws_toValS))))) xlaws_toValS_l0 := show CodeOk Tryz.prog W0 M (Code.loop (Code.pl (Code.pl (Code.pr (Code.pl (Code.pr (Code.pr c_laws_toValS))))))) xlaws_toValS_l0 from loop_ok (code_sound follows tysOk (calls_ok (fns_cons S_laws_toVal fns_nil)) hnp [] (Code.pl (Code.pl (Code.pr (Code.pl (Code.pr (Code.pr c_laws_toValS)))))) .o trivial) (ks := [0, 3, 4]) (bs := []) (fX := (cutC ([], []) [(0, [3], [])] ([], []))) (cutC_le _ _ _) FUEL (by
 intro σ k r h
 obtain ⟨hn, h1⟩ := rdN_some h
 obtain ⟨a, hs0, h2⟩ := rdV_some h1
 obtain ⟨out, hs3, h3⟩ := rdV_some h2
 obtain ⟨i, hs4, h4⟩ := rdV_some h3
 refine ⟨_, ?_, (elaws_toValS_l0 a FUEL (out, i) k).trans h4⟩
 exact mkS_le hn ⟨hs0, hs3, hs4, trivial⟩ trivial)
def laws_toValS (a : List qV) (k0 : qW → Res) : Res :=
 bif mkOk (nI (List.length a)) (nI (List.length a)) then
  laws_toValS_l0 a FUEL (repl (nI (List.length a)) (0, 0, eS)) 0 fun (out : List qV) =>
   k0 out
 else none
def s_laws_toValS : Sig Unit := ⟨[.borrow y11 false], [false], fun vals ext k => av vals y11 fun a vals => nl vals <| nl ext <| laws_toValS a (fun (r0 : List qV) => k [⟨y11, false, r0, [.O]⟩] [] [])⟩
theorem E_laws_toValS (a : List qV) (a_a : Bool) (t_a : List Tag) (k : qK) : funC g_laws_toValS [xlaws_toValS_l0] (.t .o (.t .o (.t (.t .o (.t (.x 0) .o)) .o))) false Tryz.f180 [.borrow y11 false] [false] [⟨y11, a_a, a, t_a⟩] [] k = laws_toValS a (fun (r0 : List qV) => k [⟨y11, false, r0, [.O]⟩] [] []) := by kernel_rfl
theorem S_laws_toValS : Sound Tryz.prog 180 s_laws_toValS := sound_of (Γ := g_laws_toValS) (X := [xlaws_toValS_l0]) (ht := (.t .o (.t .o (.t (.t .o (.t (.x 0) .o)) .o)))) (fz := false) (c := c_laws_toValS) follows tysOk (fns_cons S_laws_toVal fns_nil) (OrOk.mk trivial ((OrOk.mk trivial ((OrOk.mk ((OrOk.mk trivial ((OrOk.mk (OrOk.x_mk (fun W0 M hnp => olaws_toValS_l0 (W0 := W0) (M := M) hnp)) trivial)))) trivial))))) Tryz.func180 (by kernel_rfl) (by kernel_rfl) (by decide) (by
 intro vals ext k r h
 obtain ⟨a, a_a, t_a, vals, rfl, h1⟩ := av_some h
 obtain ⟨rfl, h2⟩ := nl_some h1
 obtain ⟨rfl, h3⟩ := nl_some h2
 exact (E_laws_toValS a a_a t_a k).trans h3)

/-! ### 128 loop.example/g00462/laws.eqValS -/
def c_laws_eqValS : Code := (Tryz.f128.body).getD .skip
def g_laws_eqValS : Env Unit := ⟨tys, [(162, s_laws_eqVal)], 0⟩
def laws_eqValS_l0_r (a : List qV) (b : List qV) (i : Int) (rec : Int → Res) (k0 : Unit → Res) (k1 : Unit → Res) : Res :=
 bif decide (i < (nI (List.length a))) then
  bif inb i (List.length a) then
   bif inb i (List.length b) then
    laws_eqVal (nth (0, 0, eS) a i) (nth (0, 0, eS) b i) fun (r : Bool) =>
     bif !r then
      k1 ()
     else
      rec (wi64 (i + 1))
   else none
  else none
 else
  k0 ()
def laws_eqValS_l0_s (a : List qV) (b : List qV) : Int → (Int → Res) → ((Unit → Res) × (Unit → Res)) → Res := fun v rec q => laws_eqValS_l0_r a b v (fun i => rec (i)) q.1 q.2
def laws_eqValS_l0 (a : List qV) (b : List qV) (n : Nat) (i : Int) (k0 : Unit → Res) (k1 : Unit → Res) : Res := iter (laws_eqValS_l0_s a b) n (i) (k0, k1)
def xlaws_eqValS_l0 : Node Unit := fun σ k => rdN σ 27 <| rdV σ 0 y11 false [.S] fun a => rdV σ 1 y11 false [.S] fun b => rdV σ 5 (.int .i64) false [] fun i => laws_eqValS_l0 a b FUEL i (fun (_ : Unit) => k (.exit 0) (mkS 27 27 [] [])) (fun (_ : Unit) => k .ret (mkS 27 27 [(4, .val ⟨.bool, false, false, []⟩)] []))
theorem elaws_eqValS_l0 (a : List qV) (b : List qV) (n : Nat) (v : Int) (k : Kont Unit) : loopC (codeC g_laws_eqValS [] .o (Code.pl (Code.pl (Code.pr (Code.pl (Code.pr (Code.pr c_laws_eqValS))))))) (fun σ => σ.forget [0, 1, 5] []) (cutC ([], []) [(0, [], [])] ([4], [])) n (mkS 27 27 [(0, .val ⟨y11, false, a, [.S]⟩), (1, .val ⟨y11, false, b, [.S]⟩), (5, .val ⟨(.int .i64), false, v, []⟩)] []) k = iter (laws_eqValS_l0_s a b) n v ((fun (k : Kont Unit) => (((fun (_ : Unit) => k (.exit 0) (mkS 27 27 [] [])), (fun (_ : Unit) => k .ret (mkS 27 27 [(4, .val ⟨.bool, false, false, []⟩)] []))) : (Unit → Res) × (Unit → Res))) k) := loop_eq (fun v : Int => (mkS 27 27 [(0, .val ⟨y11, false, a, [.S]⟩), (1, .val ⟨y11, false, b, [.S]⟩), (5, .val ⟨(.int .i64), false, v, []⟩)] [])) (laws_eqValS_l0_s a b) (fun (k : Kont Unit) => (((fun (_ : Unit) => k (.exit 0) (mkS 27 27 [] [])), (fun (_ : Unit) => k .ret (mkS 27 27 [(4, .val ⟨.bool, false, false, []⟩)] []))) : (Unit → Res) × (Unit → Res))) (fun v rec k => by kernel_rfl) n v k
theorem olaws_eqValS_l0 {W0 : Base} {M : Nat → Prop} (hnp : W0.np ≤ 0) : CodeOk Tryz.prog W0 M (Code.pl (Code.pr (Code.pl (Code.pr (Code.pr c_laws_eqValS))))) xlaws_eqValS_l0 := show CodeOk Tryz.prog W0 M (Code.loop (Code.pl (Code.pl (Code.pr (Code.pl (Code.pr (Code.pr c_laws_eqValS))))))) xlaws_eqValS_l0 from loop_ok (code_sound follows tysOk (calls_ok (fns_cons S_laws_eqVal fns_nil)) hnp [] (Code.pl (Code.pl (Code.pr (Code.pl (Code.pr (Code.pr c_laws_eqValS)))))) .o trivial) (ks := [0, 1, 5]) (bs := []) (fX := (cutC ([], []) [(0, [], [])] ([4], []))) (cutC_le _ _ _) FUEL (by
 intro σ k r h
 obtain ⟨hn, h1⟩ := rdN_some h
 obtain ⟨a, hs0, h2⟩ := rdV_some h1
 obtain ⟨b, hs1, h3⟩ := rdV_some h2
 obtain ⟨i, hs5, h4⟩ := rdV_some h3
 refine ⟨_, ?_, (elaws_eqValS_l0 a b FUEL (i) k).trans h4⟩
 exact mkS_le hn ⟨hs0, hs1, hs5, trivial⟩ trivial)
def laws_eqValS (a : List qV) (b : List qV) (k0 : Bool → Res) : Res :=
 bif ((nI (List.length a)) != (nI (List.length b))) then
  k0 false
 else
  laws_eqValS_l0 a b FUEL 0
   (fun (_ : Unit) =>
    k0 true)
   (fun (_ : Unit) =>
    k0 false)
def s_laws_eqValS : Sig Unit := ⟨[.look y11 false, .look y11 false], [false], fun vals ext k => av vals y11 fun a vals => av vals y11 fun b vals => nl vals <| nl ext <| laws_eqValS a b (fun (r0 : Bool) => k [⟨.bool, false, r0, []⟩] [] [])⟩
theorem E_laws_eqValS (a : List qV) (a_a : Bool) (t_a : List Tag) (b : List qV) (a_b : Bool) (t_b : List Tag) (k : qK) : funC g_laws_eqValS [xlaws_eqValS_l0] (.t .o (.t .o (.t (.t .o (.t (.x 0) .o)) .o))) false Tryz.f128 [.look y11 false, .look y11 false] [false] [⟨y11, a_a, a, t_a⟩, ⟨y11, a_b, b, t_b⟩] [] k = laws_eqValS a b (fun (r0 : Bool) => k [⟨.bool, false, r0, []⟩] [] []) := by kernel_rfl
theorem S_laws_eqValS : Sound Tryz.prog 128 s_laws_eqValS := sound_of (Γ := g_laws_eqValS) (X := [xlaws_eqValS_l0]) (ht := (.t .o (.t .o (.t (.t .o (.t (.x 0) .o)) .o)))) (fz := false) (c := c_laws_eqValS) follows tysOk (fns_cons S_laws_eqVal fns_nil) (OrOk.mk trivial ((OrOk.mk trivial ((OrOk.mk ((OrOk.mk trivial ((OrOk.mk (OrOk.x_mk (fun W0 M hnp => olaws_eqValS_l0 (W0 := W0) (M := M) hnp)) trivial)))) trivial))))) Tryz.func128 (by kernel_rfl) (by kernel_rfl) (by decide) (by
 intro vals ext k r h
 obtain ⟨a, a_a, t_a, vals, rfl, h1⟩ := av_some h
 obtain ⟨b, a_b, t_b, vals, rfl, h2⟩ := av_some h1
 obtain ⟨rfl, h3⟩ := nl_some h2
 obtain ⟨rfl, h4⟩ := nl_some h3
 exact (E_laws_eqValS a a_a t_a b a_b t_b k).trans h4)

/-! ### 79 loop.example/g00462/laws.markValS -/
def c_laws_markValS : Code := (Tryz.f79.body).getD .skip
def g_laws_markValS : Env Unit := ⟨tys, [(49, s_laws_markText)], 1⟩
def laws_markValS_l0_r (a : List qV) (k_ : Int) (i : Int) (rec : qW → Int → Int → Res) (k0 : qW → Int → Res) : Res :=
 bif decide (i < (nI (List.length a))) then
  bif inb i (List.length a) then
   bif inb i (List.length (upd a i (k_, (nth (0, 0, eS) a i).2))) then
    laws_markText (wi64 ((wi64 (k_ + 1)) + 1)) fun (r : ByteArray) =>
     bif inb i (List.length (upd (upd a i (k_, (nth (0, 0, eS) a i).2)) i ((nth (0, 0, eS) (upd a i (k_, (nth (0, 0, eS) a i).2)) i).1, wi64 (k_ + 1), (nth (0, 0, eS) (upd a i (k_, (nth (0, 0, eS) a i).2)) i).2.2))) then
      rec (upd (upd (upd a i (k_, (nth (0, 0, eS) a i).2)) i ((nth (0, 0, eS) (upd a i (k_, (nth (0, 0, eS) a i).2)) i).1, wi64 (k_ + 1), (nth (0, 0, eS) (upd a i (k_, (nth (0, 0, eS) a i).2)) i).2.2)) i ((nth (0, 0, eS) (upd (upd a i (k_, (nth (0, 0, eS) a i).2)) i ((nth (0, 0, eS) (upd a i (k_, (nth (0, 0, eS) a i).2)) i).1, wi64 (k_ + 1), (nth (0, 0, eS) (upd a i (k_, (nth (0, 0, eS) a i).2)) i).2.2)) i).1, (nth (0, 0, eS) (upd (upd a i (k_, (nth (0, 0, eS) a i).2)) i ((nth (0, 0, eS) (upd a i (k_, (nth (0, 0, eS) a i).2)) i).1, wi64 (k_ + 1), (nth (0, 0, eS) (upd a i (k_, (nth (0, 0, eS) a i).2)) i).2.2)) i).2.1, r)) (wi64 ((wi64 ((wi64 (k_ + 1)) + 1)) + 1)) (wi64 (i + 1))
     else none
   else none
  else none
 else
  k0 a k_
def laws_markValS_l0_s : (qW × Int × Int) → (qW × Int × Int → Res) → ((qW → Int → Res)) → Res := fun v rec q => laws_markValS_l0_r v.1 v.2.1 v.2.2 (fun a k_ i => rec (a, k_, i)) q
def laws_markValS_l0 (n : Nat) (a : List qV) (k_ : Int) (i : Int) (k0 : qW → Int → Res) : Res := iter (laws_markValS_l0_s) n (a, k_, i) (k0)
def xlaws_markValS_l0 : Node Unit := fun σ k => rdN σ 35 <| rdV σ 0 y11 false [.O] fun a => rdV σ 1 (.int .i64) false [] fun k_ => rdV σ 5 (.int .i64) false [] fun i => laws_markValS_l0 FUEL a k_ i (fun (a1 : List qV) (k_1 : Int) => k (.exit 0) (mkS 35 35 [(0, .val ⟨y11, false, a1, [.O]⟩), (1, .val ⟨(.int .i64), false, k_1, []⟩)] []))
theorem elaws_markValS_l0  (n : Nat) (v : qW × Int × Int) (k : Kont Unit) : loopC (codeC g_laws_markValS [] .o (Code.pl (Code.pl (Code.pr (Code.pl (Code.pr c_laws_markValS)))))) (fun σ => σ.forget [0, 1, 5] []) (cutC ([], []) [(0, [0, 1], [])] ([], [])) n (mkS 35 35 [(0, .val ⟨y11, false, v.1, [.O]⟩), (1, .val ⟨(.int .i64), false, v.2.1, []⟩), (5, .val ⟨(.int .i64), false, v.2.2, []⟩)] []) k = iter (laws_markValS_l0_s) n v ((fun (k : Kont Unit) => (((fun (a1 : List qV) (k_1 : Int) => k (.exit 0) (mkS 35 35 [(0, .val ⟨y11, false, a1, [.O]⟩), (1, .val ⟨(.int .i64), false, k_1, []⟩)] []))) : (qW → Int → Res))) k) := loop_eq (fun v : qW × Int × Int => (mkS 35 35 [(0, .val ⟨y11, false, v.1, [.O]⟩), (1, .val ⟨(.int .i64), false, v.2.1, []⟩), (5, .val ⟨(.int .i64), false, v.2.2, []⟩)] [])) (laws_markValS_l0_s) (fun (k : Kont Unit) => (((fun (a1 : List qV) (k_1 : Int) => k (.exit 0) (mkS 35 35 [(0, .val ⟨y11, false, a1, [.O]⟩), (1, .val ⟨(.int .i64), false, k_1, []⟩)] []))) : (qW → Int → Res))) (fun v rec k => by kernel_rfl) n v k
theorem olaws_markValS_l0 {W0 : Base} {M : Nat → Prop} (hnp : W0.np ≤ 1) : CodeOk Tryz.prog W0 M (Code.pl (Code.pr (Code.pl (Code.pr c_laws_markValS)))) xlaws_markValS_l0 := show CodeOk Tryz.prog W0 M (Code.loop (Code.pl (Code.pl (Code.pr (Code.pl (Code.pr c_laws_markValS)))))) xlaws_markValS_l0 from loop_ok (code_sound follows tysOk (calls_ok (fns_cons S_laws_markText fns_nil)) hnp [] (Code.pl (Code.pl (Code.pr (Code.pl (Code.pr c_laws_markValS))))) .o trivial) (ks := [0, 1, 5]) (bs := []) (fX := (cutC ([], []) [(0, [0, 1], [])] ([], []))) (cutC_le _ _ _) FUEL (by
 intro σ k r h
 obtain ⟨hn, h1⟩ := rdN_some h
 obtain ⟨a, hs0, h2⟩ := rdV_some h1
 obtain ⟨k_, hs1, h3⟩ := rdV_some h2
 obtain ⟨i, hs5, h4⟩ := rdV_some h3
 refine ⟨_, ?_, (elaws_markValS_l0  FUEL (a, k_, i) k).trans h4⟩
 exact mkS_le hn ⟨hs0, hs1, hs5, trivial⟩ trivial)
def laws_markValS (a : List qV) (k_ : Int) (k0 : Int → qW → Res) : Res :=
 laws_markValS_l0 FUEL a k_ 0 fun (a1 : List qV) (k_1 : Int) =>
  k0 k_1 a1
def s_laws_markValS : Sig Unit := ⟨[.inout y11 false, .borrow (.int .i64) false], [false], fun vals ext k => ao vals y11 [.O] fun a vals => av vals (.int .i64) fun k_ vals => nl vals <| nl ext <| laws_markValS a k_ (fun (r0 : Int) (i0 : List qV) => k [⟨(.int .i64), false, r0, []⟩] [⟨y11, false, i0, [.O]⟩] [])⟩
theorem E_laws_markValS (a_a : Bool) (a : List qV) (k_ : Int) (a_k_ : Bool) (t_k_ : List Tag) (k : qK) : funC g_laws_markValS [xlaws_markValS_l0] (.t .o (.t (.t .o (.t (.x 0) .o)) .o)) false Tryz.f79 [.inout y11 false, .borrow (.int .i64) false] [false] [⟨y11, a_a, a, [.O]⟩, ⟨(.int .i64), a_k_, k_, t_k_⟩] [] k = laws_markValS a k_ (fun (r0 : Int) (i0 : List qV) => k [⟨(.int .i64), false, r0, []⟩] [⟨y11, false, i0, [.O]⟩] []) := by kernel_rfl
theorem S_laws_markValS : Sound Tryz.prog 79 s_laws_markValS := sound_of (Γ := g_laws_markValS) (X := [xlaws_markValS_l0]) (ht := (.t .o (.t (.t .o (.t (.x 0) .o)) .o))) (fz := false) (c := c_laws_markValS) follows tysOk (fns_cons S_laws_markText fns_nil) (OrOk.mk trivial ((OrOk.mk ((OrOk.mk trivial ((OrOk.mk (OrOk.x_mk (fun W0 M hnp => olaws_markValS_l0 (W0 := W0) (M := M) hnp)) trivial)))) trivial))) Tryz.func79 (by kernel_rfl) (by kernel_rfl) (by decide) (by
 intro vals ext k r h
 obtain ⟨a_a, a, vals, rfl, h1⟩ := ao_some h
 obtain ⟨k_, a_k_, t_k_, vals, rfl, h2⟩ := av_some h1
 obtain ⟨rfl, h3⟩ := nl_some h2
 obtain ⟨rfl, h4⟩ := nl_some h3
 exact (E_laws_markValS a_a a k_ a_k_ t_k_ k).trans h4)
end Go.PI.G
end
noncomputable section
namespace Go.PI.G
open Go Go.PI Go.Proofs

/-! ### 165 loop.example/g00462/laws.szRow -/
def c_laws_szRow : Code := (Tryz.f165.body).getD .skip
def g_laws_szRow : Env Unit := ⟨tys, [(178, s_laws_szValS)], 0⟩
def laws_szRow (a : List qV) (left : Int) (k0 : Int → Res) : Res :=
 laws_szValS a left fun (r : Int) =>
  bif decide (r < 0) then
   k0 (-1)
  else
   k0 r
def s_laws_szRow : Sig Unit := ⟨[.look y11 true, .look (.int .i64) false], [false], fun vals ext k => av vals y11 fun a vals => av vals (.int .i64) fun left vals => nl vals <| nl ext <| laws_szRow a left (fun (r0 : Int) => k [⟨(.int .i64), false, r0, []⟩] [] [])⟩
theorem E_laws_szRow (a : List qV) (a_a : Bool) (t_a : List Tag) (left : Int) (a_left : Bool) (t_left : List Tag) (k : qK) : funC g_laws_szRow [] .o false Tryz.f165 [.look y11 true, .look (.int .i64) false] [false] [⟨y11, a_a, a, t_a⟩, ⟨(.int .i64), a_left, left, t_left⟩] [] k = laws_szRow a left (fun (r0 : Int) => k [⟨(.int .i64), false, r0, []⟩] [] []) := by kernel_rfl
theorem S_laws_szRow : Sound Tryz.prog 165 s_laws_szRow := sound_of (Γ := g_laws_szRow) (X := []) (ht := .o) (fz := false) (c := c_laws_szRow) follows tysOk (fns_cons S_laws_szValS fns_nil) trivial Tryz.func165 (by kernel_rfl) (by kernel_rfl) (by decide) (by
 intro vals ext k r h
 obtain ⟨a, a_a, t_a, vals, rfl, h1⟩ := av_some h
 obtain ⟨left, a_left, t_left, vals, rfl, h2⟩ := av_some h1
 obtain ⟨rfl, h3⟩ := nl_some h2
 obtain ⟨rfl, h4⟩ := nl_some h3
 exact (E_laws_szRow a a_a t_a left a_left t_left k).trans h4)

/-! ### 172 loop.example/g00462/laws.toRow -/
def c_laws_toRow : Code := (Tryz.f172.body).getD .skip
def g_laws_toRow : Env Unit := ⟨tys, [(180, s_laws_toValS)], 0⟩
def laws_toRow (a : List qV) (k0 : qW → Res) : Res :=
 laws_toValS a fun (r : List qV) =>
  k0 r
def s_laws_toRow : Sig Unit := ⟨[.borrow y11 true], [true], fun vals ext k => av vals y11 fun a vals => nl vals <| nl ext <| laws_toRow a (fun (r0 : List qV) => k [⟨y11, true, r0, [.O]⟩] [] [])⟩
theorem E_laws_toRow (a : List qV) (a_a : Bool) (t_a : List Tag) (k : qK) : funC g_laws_toRow [] .o false Tryz.f172 [.borrow y11 true] [true] [⟨y11, a_a, a, t_a⟩] [] k = laws_toRow a (fun (r0 : List qV) => k [⟨y11, true, r0, [.O]⟩] [] []) := by kernel_rfl
theorem S_laws_toRow : Sound Tryz.prog 172 s_laws_toRow := sound_of (Γ := g_laws_toRow) (X := []) (ht := .o) (fz := false) (c := c_laws_toRow) follows tysOk (fns_cons S_laws_toValS fns_nil) trivial Tryz.func172 (by kernel_rfl) (by kernel_rfl) (by decide) (by
 intro vals ext k r h
 obtain ⟨a, a_a, t_a, vals, rfl, h1⟩ := av_some h
 obtain ⟨rfl, h2⟩ := nl_some h1
 obtain ⟨rfl, h3⟩ := nl_some h2
 exact (E_laws_toRow a a_a t_a k).trans h3)

/-! ### 129 loop.example/g00462/laws.eqRow -/
def c_laws_eqRow : Code := (Tryz.f129.body).getD .skip
def g_laws_eqRow : Env Unit := ⟨tys, [(128, s_laws_eqValS)], 0⟩
def laws_eqRow (a : List qV) (b : List qV) (k0 : Bool → Res) : Res :=
 laws_eqValS a b fun (r : Bool) =>
  bif !r then
   k0 false
  else
   k0 true
def s_laws_eqRow : Sig Unit := ⟨[.look y11 true, .look y11 true], [false], fun vals ext k => av vals y11 fun a vals => av vals y11 fun b vals => nl vals <| nl ext <| laws_eqRow a b (fun (r0 : Bool) => k [⟨.bool, false, r0, []⟩] [] [])⟩
theorem E_laws_eqRow (a : List qV) (a_a : Bool) (t_a : List Tag) (b : List qV) (a_b : Bool) (t_b : List Tag) (k : qK) : funC g_laws_eqRow [] .o false Tryz.f129 [.look y11 true, .look y11 true] [false] [⟨y11, a_a, a, t_a⟩, ⟨y11, a_b, b, t_b⟩] [] k = laws_eqRow a b (fun (r0 : Bool) => k [⟨.bool, false, r0, []⟩] [] []) := by kernel_rfl
theorem S_laws_eqRow : Sound Tryz.prog 129 s_laws_eqRow := sound_of (Γ := g_laws_eqRow) (X := []) (ht := .o) (fz := false) (c := c_laws_eqRow) follows tysOk (fns_cons S_laws_eqValS fns_nil) trivial Tryz.func129 (by kernel_rfl) (by kernel_rfl) (by decide) (by
 intro vals ext k r h
 obtain ⟨a, a_a, t_a, vals, rfl, h1⟩ := av_some h
 obtain ⟨b, a_b, t_b, vals, rfl, h2⟩ := av_some h1
 obtain ⟨rfl, h3⟩ := nl_some h2
 obtain ⟨rfl, h4⟩ := nl_some h3
 exact (E_laws_eqRow a a_a t_a b a_b t_b k).trans h4)
end Go.PI.G
end
