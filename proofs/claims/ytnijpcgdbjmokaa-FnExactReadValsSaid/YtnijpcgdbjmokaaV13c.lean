/-
  Printed texts and plain laws. No conditions.
-/
import Derived.Test.YtnijpcgdbjmokaaPc
import Derived.Test.YtnijpcgdbjmokaaV13a
import Derived.Test.YtnijpcgdbjmokaaV13b
set_option linter.unusedVariables false
set_option maxRecDepth 100000
noncomputable section
namespace Go.PI.G
open Go Go.PI Go.Proofs

/-! ### 53 loop.example/g00462/laws.toByteS -/
def c_laws_toByteS : Code := (Try.f53.body).getD .skip
def g_laws_toByteS : Env Unit := ⟨tys, [], 0⟩
def laws_toByteS_l0_r (a : List Int) (out : List Int) (i : Int) (rec : (List Int) → Int → Res) (k0 : (List Int) → Res) : Res :=
 bif decide (i < (nI (List.length a))) then
  bif inb i (List.length a) then
   bif inb i (List.length out) then
    rec (upd out i (nth 0 a i)) (wi64 (i + 1))
   else none
  else none
 else
  k0 out
def laws_toByteS_l0_s (a : List Int) : ((List Int) × Int) → ((List Int) × Int → Res) → (((List Int) → Res)) → Res := fun v rec q => laws_toByteS_l0_r a v.1 v.2 (fun out i => rec (out, i)) q
def laws_toByteS_l0 (a : List Int) (n : Nat) (out : List Int) (i : Int) (k0 : (List Int) → Res) : Res := iter (laws_toByteS_l0_s a) n (out, i) (k0)
def xlaws_toByteS_l0 : Node Unit := fun σ k => rdN σ 22 <| rdV σ 0 y0 false [.S] fun a => rdV σ 3 y0 false [.O] fun out => rdV σ 4 (.int .i64) false [] fun i => laws_toByteS_l0 a FUEL out i (fun (out1 : List Int) => k (.exit 0) (mkS 22 22 [(3, .val ⟨y0, false, out1, [.O]⟩)] []))
theorem elaws_toByteS_l0 (a : List Int) (n : Nat) (v : (List Int) × Int) (k : Kont Unit) : loopC (codeC g_laws_toByteS [] .o (Code.pl (Code.pl (Code.pr (Code.pl (Code.pr (Code.pr c_laws_toByteS))))))) (fun σ => σ.forget [0, 3, 4] []) (cutC ([], []) [(0, [3], [])] ([], [])) n (mkS 22 22 [(0, .val ⟨y0, false, a, [.S]⟩), (3, .val ⟨y0, false, v.1, [.O]⟩), (4, .val ⟨(.int .i64), false, v.2, []⟩)] []) k = iter (laws_toByteS_l0_s a) n v ((fun (k : Kont Unit) => (((fun (out1 : List Int) => k (.exit 0) (mkS 22 22 [(3, .val ⟨y0, false, out1, [.O]⟩)] []))) : ((List Int) → Res))) k) := loop_eq (fun v : (List Int) × Int => (mkS 22 22 [(0, .val ⟨y0, false, a, [.S]⟩), (3, .val ⟨y0, false, v.1, [.O]⟩), (4, .val ⟨(.int .i64), false, v.2, []⟩)] [])) (laws_toByteS_l0_s a) (fun (k : Kont Unit) => (((fun (out1 : List Int) => k (.exit 0) (mkS 22 22 [(3, .val ⟨y0, false, out1, [.O]⟩)] []))) : ((List Int) → Res))) (fun v rec k => by kernel_rfl) n v k
theorem olaws_toByteS_l0 {W0 : Base} {M : Nat → Prop} (hnp : W0.np ≤ 0) : CodeOk Try.prog W0 M (Code.pl (Code.pr (Code.pl (Code.pr (Code.pr c_laws_toByteS))))) xlaws_toByteS_l0 := show CodeOk Try.prog W0 M (Code.loop (Code.pl (Code.pl (Code.pr (Code.pl (Code.pr (Code.pr c_laws_toByteS))))))) xlaws_toByteS_l0 from loop_ok (code_sound follows tysOk (calls_ok fns_nil) hnp [] (Code.pl (Code.pl (Code.pr (Code.pl (Code.pr (Code.pr c_laws_toByteS)))))) .o trivial) (ks := [0, 3, 4]) (bs := []) (fX := (cutC ([], []) [(0, [3], [])] ([], []))) (cutC_le _ _ _) FUEL (by
 intro σ k r h
 obtain ⟨hn, h1⟩ := rdN_some h
 obtain ⟨a, hs0, h2⟩ := rdV_some h1
 obtain ⟨out, hs3, h3⟩ := rdV_some h2
 obtain ⟨i, hs4, h4⟩ := rdV_some h3
 refine ⟨_, ?_, (elaws_toByteS_l0 a FUEL (out, i) k).trans h4⟩
 exact mkS_le hn ⟨hs0, hs3, hs4, trivial⟩ trivial)
def laws_toByteS (a : List Int) (k0 : (List Int) → Res) : Res :=
 bif mkOk (nI (List.length a)) (nI (List.length a)) then
  laws_toByteS_l0 a FUEL (repl (nI (List.length a)) 0) 0 fun (out : List Int) =>
   k0 out
 else none
def s_laws_toByteS : Sig Unit := ⟨[.borrow y0 false], [false], fun vals ext k => av vals y0 fun a vals => nl vals <| nl ext <| laws_toByteS a (fun (r0 : List Int) => k [⟨y0, false, r0, [.O]⟩] [] [])⟩
theorem E_laws_toByteS (a : List Int) (a_a : Bool) (t_a : List Tag) (k : qK) : funC g_laws_toByteS [xlaws_toByteS_l0] (.t .o (.t .o (.t (.t .o (.t (.x 0) .o)) .o))) false Try.f53 [.borrow y0 false] [false] [⟨y0, a_a, a, t_a⟩] [] k = laws_toByteS a (fun (r0 : List Int) => k [⟨y0, false, r0, [.O]⟩] [] []) := by kernel_rfl
theorem S_laws_toByteS : Sound Try.prog 53 s_laws_toByteS := sound_of (Γ := g_laws_toByteS) (X := [xlaws_toByteS_l0]) (ht := (.t .o (.t .o (.t (.t .o (.t (.x 0) .o)) .o)))) (fz := false) (c := c_laws_toByteS) follows tysOk fns_nil (OrOk.mk trivial ((OrOk.mk trivial ((OrOk.mk ((OrOk.mk trivial ((OrOk.mk (OrOk.x_mk (fun W0 M hnp => olaws_toByteS_l0 (W0 := W0) (M := M) hnp)) trivial)))) trivial))))) Try.func53 (by kernel_rfl) (by kernel_rfl) (by decide) (by
 intro vals ext k r h
 obtain ⟨a, a_a, t_a, vals, rfl, h1⟩ := av_some h
 obtain ⟨rfl, h2⟩ := nl_some h1
 obtain ⟨rfl, h3⟩ := nl_some h2
 exact (E_laws_toByteS a a_a t_a k).trans h3)

/-! ### 56 loop.example/g00462/laws.eqByteS -/
def c_laws_eqByteS : Code := (Try.f56.body).getD .skip
def g_laws_eqByteS : Env Unit := ⟨tys, [], 0⟩
def laws_eqByteS_l0_r (a : List Int) (b : List Int) (i : Int) (rec : Int → Res) (k0 : Unit → Res) (k1 : Unit → Res) : Res :=
 bif decide (i < (nI (List.length a))) then
  bif inb i (List.length a) then
   bif inb i (List.length b) then
    bif ((nth 0 a i) != (nth 0 b i)) then
     k1 ()
    else
     rec (wi64 (i + 1))
   else none
  else none
 else
  k0 ()
def laws_eqByteS_l0_s (a : List Int) (b : List Int) : Int → (Int → Res) → ((Unit → Res) × (Unit → Res)) → Res := fun v rec q => laws_eqByteS_l0_r a b v (fun i => rec (i)) q.1 q.2
def laws_eqByteS_l0 (a : List Int) (b : List Int) (n : Nat) (i : Int) (k0 : Unit → Res) (k1 : Unit → Res) : Res := iter (laws_eqByteS_l0_s a b) n (i) (k0, k1)
def xlaws_eqByteS_l0 : Node Unit := fun σ k => rdN σ 26 <| rdV σ 0 y0 false [.S] fun a => rdV σ 1 y0 false [.S] fun b => rdV σ 5 (.int .i64) false [] fun i => laws_eqByteS_l0 a b FUEL i (fun (_ : Unit) => k (.exit 0) (mkS 26 26 [] [])) (fun (_ : Unit) => k .ret (mkS 26 26 [(4, .val ⟨.bool, false, false, []⟩)] []))
theorem elaws_eqByteS_l0 (a : List Int) (b : List Int) (n : Nat) (v : Int) (k : Kont Unit) : loopC (codeC g_laws_eqByteS [] .o (Code.pl (Code.pl (Code.pr (Code.pl (Code.pr (Code.pr c_laws_eqByteS))))))) (fun σ => σ.forget [0, 1, 5] []) (cutC ([], []) [(0, [], [])] ([4], [])) n (mkS 26 26 [(0, .val ⟨y0, false, a, [.S]⟩), (1, .val ⟨y0, false, b, [.S]⟩), (5, .val ⟨(.int .i64), false, v, []⟩)] []) k = iter (laws_eqByteS_l0_s a b) n v ((fun (k : Kont Unit) => (((fun (_ : Unit) => k (.exit 0) (mkS 26 26 [] [])), (fun (_ : Unit) => k .ret (mkS 26 26 [(4, .val ⟨.bool, false, false, []⟩)] []))) : (Unit → Res) × (Unit → Res))) k) := loop_eq (fun v : Int => (mkS 26 26 [(0, .val ⟨y0, false, a, [.S]⟩), (1, .val ⟨y0, false, b, [.S]⟩), (5, .val ⟨(.int .i64), false, v, []⟩)] [])) (laws_eqByteS_l0_s a b) (fun (k : Kont Unit) => (((fun (_ : Unit) => k (.exit 0) (mkS 26 26 [] [])), (fun (_ : Unit) => k .ret (mkS 26 26 [(4, .val ⟨.bool, false, false, []⟩)] []))) : (Unit → Res) × (Unit → Res))) (fun v rec k => by kernel_rfl) n v k
theorem olaws_eqByteS_l0 {W0 : Base} {M : Nat → Prop} (hnp : W0.np ≤ 0) : CodeOk Try.prog W0 M (Code.pl (Code.pr (Code.pl (Code.pr (Code.pr c_laws_eqByteS))))) xlaws_eqByteS_l0 := show CodeOk Try.prog W0 M (Code.loop (Code.pl (Code.pl (Code.pr (Code.pl (Code.pr (Code.pr c_laws_eqByteS))))))) xlaws_eqByteS_l0 from loop_ok (code_sound follows tysOk (calls_ok fns_nil) hnp [] (Code.pl (Code.pl (Code.pr (Code.pl (Code.pr (Code.pr c_laws_eqByteS)))))) .o trivial) (ks := [0, 1, 5]) (bs := []) (fX := (cutC ([], []) [(0, [], [])] ([4], []))) (cutC_le _ _ _) FUEL (by
 intro σ k r h
 obtain ⟨hn, h1⟩ := rdN_some h
 obtain ⟨a, hs0, h2⟩ := rdV_some h1
 obtain ⟨b, hs1, h3⟩ := rdV_some h2
 obtain ⟨i, hs5, h4⟩ := rdV_some h3
 refine ⟨_, ?_, (elaws_eqByteS_l0 a b FUEL (i) k).trans h4⟩
 exact mkS_le hn ⟨hs0, hs1, hs5, trivial⟩ trivial)
def laws_eqByteS (a : List Int) (b : List Int) (k0 : Bool → Res) : Res :=
 bif ((nI (List.length a)) != (nI (List.length b))) then
  k0 false
 else
  laws_eqByteS_l0 a b FUEL 0
   (fun (_ : Unit) =>
    k0 true)
   (fun (_ : Unit) =>
    k0 false)
def s_laws_eqByteS : Sig Unit := ⟨[.look y0 false, .look y0 false], [false], fun vals ext k => av vals y0 fun a vals => av vals y0 fun b vals => nl vals <| nl ext <| laws_eqByteS a b (fun (r0 : Bool) => k [⟨.bool, false, r0, []⟩] [] [])⟩
theorem E_laws_eqByteS (a : List Int) (a_a : Bool) (t_a : List Tag) (b : List Int) (a_b : Bool) (t_b : List Tag) (k : qK) : funC g_laws_eqByteS [xlaws_eqByteS_l0] (.t .o (.t .o (.t (.t .o (.t (.x 0) .o)) .o))) false Try.f56 [.look y0 false, .look y0 false] [false] [⟨y0, a_a, a, t_a⟩, ⟨y0, a_b, b, t_b⟩] [] k = laws_eqByteS a b (fun (r0 : Bool) => k [⟨.bool, false, r0, []⟩] [] []) := by kernel_rfl
theorem S_laws_eqByteS : Sound Try.prog 56 s_laws_eqByteS := sound_of (Γ := g_laws_eqByteS) (X := [xlaws_eqByteS_l0]) (ht := (.t .o (.t .o (.t (.t .o (.t (.x 0) .o)) .o)))) (fz := false) (c := c_laws_eqByteS) follows tysOk fns_nil (OrOk.mk trivial ((OrOk.mk trivial ((OrOk.mk ((OrOk.mk trivial ((OrOk.mk (OrOk.x_mk (fun W0 M hnp => olaws_eqByteS_l0 (W0 := W0) (M := M) hnp)) trivial)))) trivial))))) Try.func56 (by kernel_rfl) (by kernel_rfl) (by decide) (by
 intro vals ext k r h
 obtain ⟨a, a_a, t_a, vals, rfl, h1⟩ := av_some h
 obtain ⟨b, a_b, t_b, vals, rfl, h2⟩ := av_some h1
 obtain ⟨rfl, h3⟩ := nl_some h2
 obtain ⟨rfl, h4⟩ := nl_some h3
 exact (E_laws_eqByteS a a_a t_a b a_b t_b k).trans h4)

/-! ### 57 loop.example/g00462/laws.markByteS -/
def c_laws_markByteS : Code := (Try.f57.body).getD .skip
def g_laws_markByteS : Env Unit := ⟨tys, [], 1⟩
def laws_markByteS_l0_r (a : List Int) (k_ : Int) (i : Int) (rec : (List Int) → Int → Int → Res) (k0 : (List Int) → Int → Res) : Res :=
 bif decide (i < (nI (List.length a))) then
  bif inb i (List.length a) then
   rec (upd a i (wu8 k_)) (wi64 (k_ + 1)) (wi64 (i + 1))
  else none
 else
  k0 a k_
def laws_markByteS_l0_s : ((List Int) × Int × Int) → ((List Int) × Int × Int → Res) → (((List Int) → Int → Res)) → Res := fun v rec q => laws_markByteS_l0_r v.1 v.2.1 v.2.2 (fun a k_ i => rec (a, k_, i)) q
def laws_markByteS_l0 (n : Nat) (a : List Int) (k_ : Int) (i : Int) (k0 : (List Int) → Int → Res) : Res := iter (laws_markByteS_l0_s) n (a, k_, i) (k0)
def xlaws_markByteS_l0 : Node Unit := fun σ k => rdN σ 20 <| rdV σ 0 y0 false [.O] fun a => rdV σ 1 (.int .i64) false [] fun k_ => rdV σ 5 (.int .i64) false [] fun i => laws_markByteS_l0 FUEL a k_ i (fun (a1 : List Int) (k_1 : Int) => k (.exit 0) (mkS 20 20 [(0, .val ⟨y0, false, a1, [.O]⟩), (1, .val ⟨(.int .i64), false, k_1, []⟩)] []))
theorem elaws_markByteS_l0  (n : Nat) (v : (List Int) × Int × Int) (k : Kont Unit) : loopC (codeC g_laws_markByteS [] .o (Code.pl (Code.pl (Code.pr (Code.pl (Code.pr c_laws_markByteS)))))) (fun σ => σ.forget [0, 1, 5] []) (cutC ([], []) [(0, [0, 1], [])] ([], [])) n (mkS 20 20 [(0, .val ⟨y0, false, v.1, [.O]⟩), (1, .val ⟨(.int .i64), false, v.2.1, []⟩), (5, .val ⟨(.int .i64), false, v.2.2, []⟩)] []) k = iter (laws_markByteS_l0_s) n v ((fun (k : Kont Unit) => (((fun (a1 : List Int) (k_1 : Int) => k (.exit 0) (mkS 20 20 [(0, .val ⟨y0, false, a1, [.O]⟩), (1, .val ⟨(.int .i64), false, k_1, []⟩)] []))) : ((List Int) → Int → Res))) k) := loop_eq (fun v : (List Int) × Int × Int => (mkS 20 20 [(0, .val ⟨y0, false, v.1, [.O]⟩), (1, .val ⟨(.int .i64), false, v.2.1, []⟩), (5, .val ⟨(.int .i64), false, v.2.2, []⟩)] [])) (laws_markByteS_l0_s) (fun (k : Kont Unit) => (((fun (a1 : List Int) (k_1 : Int) => k (.exit 0) (mkS 20 20 [(0, .val ⟨y0, false, a1, [.O]⟩), (1, .val ⟨(.int .i64), false, k_1, []⟩)] []))) : ((List Int) → Int → Res))) (fun v rec k => by kernel_rfl) n v k
theorem olaws_markByteS_l0 {W0 : Base} {M : Nat → Prop} (hnp : W0.np ≤ 1) : CodeOk Try.prog W0 M (Code.pl (Code.pr (Code.pl (Code.pr c_laws_markByteS)))) xlaws_markByteS_l0 := show CodeOk Try.prog W0 M (Code.loop (Code.pl (Code.pl (Code.pr (Code.pl (Code.pr c_laws_markByteS)))))) xlaws_markByteS_l0 from loop_ok (code_sound follows tysOk (calls_ok fns_nil) hnp [] (Code.pl (Code.pl (Code.pr (Code.pl (Code.pr c_laws_markByteS))))) .o trivial) (ks := [0, 1, 5]) (bs := []) (fX := (cutC ([], []) [(0, [0, 1], [])] ([], []))) (cutC_le _ _ _) FUEL (by
 intro σ k r h
 obtain ⟨hn, h1⟩ := rdN_some h
 obtain ⟨a, hs0, h2⟩ := rdV_some h1
 obtain ⟨k_, hs1, h3⟩ := rdV_some h2
 obtain ⟨i, hs5, h4⟩ := rdV_some h3
 refine ⟨_, ?_, (elaws_markByteS_l0  FUEL (a, k_, i) k).trans h4⟩
 exact mkS_le hn ⟨hs0, hs1, hs5, trivial⟩ trivial)
def laws_markByteS (a : List Int) (k_ : Int) (k0 : Int → (List Int) → Res) : Res :=
 laws_markByteS_l0 FUEL a k_ 0 fun (a1 : List Int) (k_1 : Int) =>
  k0 k_1 a1
def s_laws_markByteS : Sig Unit := ⟨[.inout y0 false, .borrow (.int .i64) false], [false], fun vals ext k => ao vals y0 [.O] fun a vals => av vals (.int .i64) fun k_ vals => nl vals <| nl ext <| laws_markByteS a k_ (fun (r0 : Int) (i0 : List Int) => k [⟨(.int .i64), false, r0, []⟩] [⟨y0, false, i0, [.O]⟩] [])⟩
theorem E_laws_markByteS (a_a : Bool) (a : List Int) (k_ : Int) (a_k_ : Bool) (t_k_ : List Tag) (k : qK) : funC g_laws_markByteS [xlaws_markByteS_l0] (.t .o (.t (.t .o (.t (.x 0) .o)) .o)) false Try.f57 [.inout y0 false, .borrow (.int .i64) false] [false] [⟨y0, a_a, a, [.O]⟩, ⟨(.int .i64), a_k_, k_, t_k_⟩] [] k = laws_markByteS a k_ (fun (r0 : Int) (i0 : List Int) => k [⟨(.int .i64), false, r0, []⟩] [⟨y0, false, i0, [.O]⟩] []) := by kernel_rfl
theorem S_laws_markByteS : Sound Try.prog 57 s_laws_markByteS := sound_of (Γ := g_laws_markByteS) (X := [xlaws_markByteS_l0]) (ht := (.t .o (.t (.t .o (.t (.x 0) .o)) .o))) (fz := false) (c := c_laws_markByteS) follows tysOk fns_nil (OrOk.mk trivial ((OrOk.mk ((OrOk.mk trivial ((OrOk.mk (OrOk.x_mk (fun W0 M hnp => olaws_markByteS_l0 (W0 := W0) (M := M) hnp)) trivial)))) trivial))) Try.func57 (by kernel_rfl) (by kernel_rfl) (by decide) (by
 intro vals ext k r h
 obtain ⟨a_a, a, vals, rfl, h1⟩ := ao_some h
 obtain ⟨k_, a_k_, t_k_, vals, rfl, h2⟩ := av_some h1
 obtain ⟨rfl, h3⟩ := nl_some h2
 obtain ⟨rfl, h4⟩ := nl_some h3
 exact (E_laws_markByteS a_a a k_ a_k_ t_k_ k).trans h4)
end Go.PI.G
end
noncomputable section
namespace Go.PI.G
open Go Go.PI Go.Proofs

/-! ### 101 loop.example/g00462/laws.markText -/
def c_laws_markText : Code := (Try.f101.body).getD .skip
def g_laws_markText : Env Unit := ⟨tys, [], 0⟩
def laws_markText_l0_r (k_ : Int) (out : ByteArray) (rec : Int → ByteArray → Res) (k0 : ByteArray → Res) : Res :=
 bif decide (k_ > 0) then
  bif lim ((ByteArray.size (ofBytes [wu8 (wi64 (48 + (Int.tmod k_ 10)))])) + (ByteArray.size out)) then
   rec (wi64 (Int.tdiv k_ 10)) ((ofBytes [wu8 (wi64 (48 + (Int.tmod k_ 10)))]) ++ out)
  else none
 else
  k0 out
def laws_markText_l0_s : (Int × ByteArray) → (Int × ByteArray → Res) → ((ByteArray → Res)) → Res := fun v rec q => laws_markText_l0_r v.1 v.2 (fun k_ out => rec (k_, out)) q
def laws_markText_l0 (n : Nat) (k_ : Int) (out : ByteArray) (k0 : ByteArray → Res) : Res := iter (laws_markText_l0_s) n (k_, out) (k0)
def xlaws_markText_l0 : Node Unit := fun σ k => rdN σ 20 <| rdV σ 0 (.int .i64) false [] fun k_ => rdV σ 3 .str false [] fun out => laws_markText_l0 FUEL k_ out (fun (out1 : ByteArray) => k (.exit 0) (mkS 20 20 [(3, .val ⟨.str, false, out1, []⟩)] []))
theorem elaws_markText_l0  (n : Nat) (v : Int × ByteArray) (k : Kont Unit) : loopC (codeC g_laws_markText [] .o (Code.pl (Code.pl (Code.pl (Code.pr (Code.pr (Code.pr c_laws_markText))))))) (fun σ => σ.forget [0, 3] []) (cutC ([], []) [(0, [3], [])] ([], [])) n (mkS 20 20 [(0, .val ⟨(.int .i64), false, v.1, []⟩), (3, .val ⟨.str, false, v.2, []⟩)] []) k = iter (laws_markText_l0_s) n v ((fun (k : Kont Unit) => (((fun (out1 : ByteArray) => k (.exit 0) (mkS 20 20 [(3, .val ⟨.str, false, out1, []⟩)] []))) : (ByteArray → Res))) k) := loop_eq (fun v : Int × ByteArray => (mkS 20 20 [(0, .val ⟨(.int .i64), false, v.1, []⟩), (3, .val ⟨.str, false, v.2, []⟩)] [])) (laws_markText_l0_s) (fun (k : Kont Unit) => (((fun (out1 : ByteArray) => k (.exit 0) (mkS 20 20 [(3, .val ⟨.str, false, out1, []⟩)] []))) : (ByteArray → Res))) (fun v rec k => by kernel_rfl) n v k
theorem olaws_markText_l0 {W0 : Base} {M : Nat → Prop} (hnp : W0.np ≤ 0) : CodeOk Try.prog W0 M (Code.pl (Code.pl (Code.pr (Code.pr (Code.pr c_laws_markText))))) xlaws_markText_l0 := show CodeOk Try.prog W0 M (Code.loop (Code.pl (Code.pl (Code.pl (Code.pr (Code.pr (Code.pr c_laws_markText))))))) xlaws_markText_l0 from loop_ok (code_sound follows tysOk (calls_ok fns_nil) hnp [] (Code.pl (Code.pl (Code.pl (Code.pr (Code.pr (Code.pr c_laws_markText)))))) .o trivial) (ks := [0, 3]) (bs := []) (fX := (cutC ([], []) [(0, [3], [])] ([], []))) (cutC_le _ _ _) FUEL (by
 intro σ k r h
 obtain ⟨hn, h1⟩ := rdN_some h
 obtain ⟨k_, hs0, h2⟩ := rdV_some h1
 obtain ⟨out, hs3, h3⟩ := rdV_some h2
 refine ⟨_, ?_, (elaws_markText_l0  FUEL (k_, out) k).trans h3⟩
 exact mkS_le hn ⟨hs0, hs3, trivial⟩ trivial)
def laws_markText (k_ : Int) (k0 : ByteArray → Res) : Res :=
 bif decide (k_ ≤ 0) then
  k0 z_m0
 else
  laws_markText_l0 FUEL k_ eS fun (out : ByteArray) =>
   bif lim (1 + (ByteArray.size out)) then
    k0 (z_m ++ out)
   else none
def s_laws_markText : Sig Unit := ⟨[.look (.int .i64) false], [false], fun vals ext k => av vals (.int .i64) fun k_ vals => nl vals <| nl ext <| laws_markText k_ (fun (r0 : ByteArray) => k [⟨.str, false, r0, []⟩] [] [])⟩
theorem E_laws_markText (k_ : Int) (a_k_ : Bool) (t_k_ : List Tag) (k : qK) : funC g_laws_markText [xlaws_markText_l0] (.t .o (.t .o (.t .o (.t (.t (.x 0) .o) .o)))) false Try.f101 [.look (.int .i64) false] [false] [⟨(.int .i64), a_k_, k_, t_k_⟩] [] k = laws_markText k_ (fun (r0 : ByteArray) => k [⟨.str, false, r0, []⟩] [] []) := by kernel_rfl
theorem S_laws_markText : Sound Try.prog 101 s_laws_markText := sound_of (Γ := g_laws_markText) (X := [xlaws_markText_l0]) (ht := (.t .o (.t .o (.t .o (.t (.t (.x 0) .o) .o))))) (fz := false) (c := c_laws_markText) follows tysOk fns_nil (OrOk.mk trivial ((OrOk.mk trivial ((OrOk.mk trivial ((OrOk.mk ((OrOk.mk (OrOk.x_mk (fun W0 M hnp => olaws_markText_l0 (W0 := W0) (M := M) hnp)) trivial)) trivial))))))) Try.func101 (by kernel_rfl) (by kernel_rfl) (by decide) (by
 intro vals ext k r h
 obtain ⟨k_, a_k_, t_k_, vals, rfl, h1⟩ := av_some h
 obtain ⟨rfl, h2⟩ := nl_some h1
 obtain ⟨rfl, h3⟩ := nl_some h2
 exact (E_laws_markText k_ a_k_ t_k_ k).trans h3)
end Go.PI.G
end
noncomputable section
namespace Go.PI.G
open Go Go.PI Go.Proofs

/-! ### 100 loop.example/g00462/laws.eqVal -/
def c_laws_eqVal : Code := (Try.f100.body).getD .skip
def g_laws_eqVal : Env Unit := ⟨tys, [], 0⟩
def laws_eqVal (a : Int × Int × ByteArray) (b : Int × Int × ByteArray) (k0 : Bool → Res) : Res :=
 bif (a.1 != b.1) then
  k0 false
 else
  bif (a.2.1 != b.2.1) then
   k0 false
  else
   bif sNe a.2.2 b.2.2 then
    k0 false
   else
    k0 true
def s_laws_eqVal : Sig Unit := ⟨[.look y2 true, .look y2 true], [false], fun vals ext k => av vals y2 fun a vals => av vals y2 fun b vals => nl vals <| nl ext <| laws_eqVal a b (fun (r0 : Bool) => k [⟨.bool, false, r0, []⟩] [] [])⟩
theorem E_laws_eqVal (a : Int × Int × ByteArray) (a_a : Bool) (t_a : List Tag) (b : Int × Int × ByteArray) (a_b : Bool) (t_b : List Tag) (k : qK) : funC g_laws_eqVal [] .o false Try.f100 [.look y2 true, .look y2 true] [false] [⟨y2, a_a, a, t_a⟩, ⟨y2, a_b, b, t_b⟩] [] k = laws_eqVal a b (fun (r0 : Bool) => k [⟨.bool, false, r0, []⟩] [] []) := by kernel_rfl
theorem S_laws_eqVal : Sound Try.prog 100 s_laws_eqVal := sound_of (Γ := g_laws_eqVal) (X := []) (ht := .o) (fz := false) (c := c_laws_eqVal) follows tysOk fns_nil trivial Try.func100 (by kernel_rfl) (by kernel_rfl) (by decide) (by
 intro vals ext k r h
 obtain ⟨a, a_a, t_a, vals, rfl, h1⟩ := av_some h
 obtain ⟨b, a_b, t_b, vals, rfl, h2⟩ := av_some h1
 obtain ⟨rfl, h3⟩ := nl_some h2
 obtain ⟨rfl, h4⟩ := nl_some h3
 exact (E_laws_eqVal a a_a t_a b a_b t_b k).trans h4)
end Go.PI.G
end
noncomputable section
namespace Go.PI.G
open Go Go.PI Go.Proofs

/-! ### 55 loop.example/g00462/laws.eqValS -/
def c_laws_eqValS : Code := (Try.f55.body).getD .skip
def g_laws_eqValS : Env Unit := ⟨tys, [(100, s_laws_eqVal)], 0⟩
def laws_eqValS_l0_r (a : List qV) (b : List qV) (i : Int) (rec : Int → Res) (k0 : Unit → Res) (k1 : Unit → Res) : Res :=
 bif decide (i < (nI (List.length a))) then
  bif inb i (List.length a) then
   bif inb i (List.length b) then
    laws_eqVal (nth (0, 0, eS) a i) (nth (0, 0, eS) b i) fun (r : Bool) =>
     bif !r then
      k1 ()
     else
      rec (wi64 (i + 1))
   else none
  else none
 else
  k0 ()
def laws_eqValS_l0_s (a : List qV) (b : List qV) : Int → (Int → Res) → ((Unit → Res) × (Unit → Res)) → Res := fun v rec q => laws_eqValS_l0_r a b v (fun i => rec (i)) q.1 q.2
def laws_eqValS_l0 (a : List qV) (b : List qV) (n : Nat) (i : Int) (k0 : Unit → Res) (k1 : Unit → Res) : Res := iter (laws_eqValS_l0_s a b) n (i) (k0, k1)
def xlaws_eqValS_l0 : Node Unit := fun σ k => rdN σ 27 <| rdV σ 0 y3 false [.S] fun a => rdV σ 1 y3 false [.S] fun b => rdV σ 5 (.int .i64) false [] fun i => laws_eqValS_l0 a b FUEL i (fun (_ : Unit) => k (.exit 0) (mkS 27 27 [] [])) (fun (_ : Unit) => k .ret (mkS 27 27 [(4, .val ⟨.bool, false, false, []⟩)] []))
theorem elaws_eqValS_l0 (a : List qV) (b : List qV) (n : Nat) (v : Int) (k : Kont Unit) : loopC (codeC g_laws_eqValS [] .o (Code.pl (Code.pl (Code.pr (Code.pl (Code.pr (Code.pr c_laws_eqValS))))))) (fun σ => σ.forget [0, 1, 5] []) (cutC ([], []) [(0, [], [])] ([4], [])) n (mkS 27 27 [(0, .val ⟨y3, false, a, [.S]⟩), (1, .val ⟨y3, false, b, [.S]⟩), (5, .val ⟨(.int .i64), false, v, []⟩)] []) k = iter (laws_eqValS_l0_s a b) n v ((fun (k : Kont Unit) => (((fun (_ : Unit) => k (.exit 0) (mkS 27 27 [] [])), (fun (_ : Unit) => k .ret (mkS 27 27 [(4, .val ⟨.bool, false, false, []⟩)] []))) : (Unit → Res) × (Unit → Res))) k) := loop_eq (fun v : Int => (mkS 27 27 [(0, .val ⟨y3, false, a, [.S]⟩), (1, .val ⟨y3, false, b, [.S]⟩), (5, .val ⟨(.int .i64), false, v, []⟩)] [])) (laws_eqValS_l0_s a b) (fun (k : Kont Unit) => (((fun (_ : Unit) => k (.exit 0) (mkS 27 27 [] [])), (fun (_ : Unit) => k .ret (mkS 27 27 [(4, .val ⟨.bool, false, false, []⟩)] []))) : (Unit → Res) × (Unit → Res))) (fun v rec k => by kernel_rfl) n v k
theorem olaws_eqValS_l0 {W0 : Base} {M : Nat → Prop} (hnp : W0.np ≤ 0) : CodeOk Try.prog W0 M (Code.pl (Code.pr (Code.pl (Code.pr (Code.pr c_laws_eqValS))))) xlaws_eqValS_l0 := show CodeOk Try.prog W0 M (Code.loop (Code.pl (Code.pl (Code.pr (Code.pl (Code.pr (Code.pr c_laws_eqValS))))))) xlaws_eqValS_l0 from loop_ok (code_sound follows tysOk (calls_ok (fns_cons S_laws_eqVal fns_nil)) hnp [] (Code.pl (Code.pl (Code.pr (Code.pl (Code.pr (Code.pr c_laws_eqValS)))))) .o trivial) (ks := [0, 1, 5]) (bs := []) (fX := (cutC ([], []) [(0, [], [])] ([4], []))) (cutC_le _ _ _) FUEL (by
 intro σ k r h
 obtain ⟨hn, h1⟩ := rdN_some h
 obtain ⟨a, hs0, h2⟩ := rdV_some h1
 obtain ⟨b, hs1, h3⟩ := rdV_some h2
 obtain ⟨i, hs5, h4⟩ := rdV_some h3
 refine ⟨_, ?_, (elaws_eqValS_l0 a b FUEL (i) k).trans h4⟩
 exact mkS_le hn ⟨hs0, hs1, hs5, trivial⟩ trivial)
def laws_eqValS (a : List qV) (b : List qV) (k0 : Bool → Res) : Res :=
 bif ((nI (List.length a)) != (nI (List.length b))) then
  k0 false
 else
  laws_eqValS_l0 a b FUEL 0
   (fun (_ : Unit) =>
    k0 true)
   (fun (_ : Unit) =>
    k0 false)
def s_laws_eqValS : Sig Unit := ⟨[.look y3 false, .look y3 false], [false], fun vals ext k => av vals y3 fun a vals => av vals y3 fun b vals => nl vals <| nl ext <| laws_eqValS a b (fun (r0 : Bool) => k [⟨.bool, false, r0, []⟩] [] [])⟩
theorem E_laws_eqValS (a : List qV) (a_a : Bool) (t_a : List Tag) (b : List qV) (a_b : Bool) (t_b : List Tag) (k : qK) : funC g_laws_eqValS [xlaws_eqValS_l0] (.t .o (.t .o (.t (.t .o (.t (.x 0) .o)) .o))) false Try.f55 [.look y3 false, .look y3 false] [false] [⟨y3, a_a, a, t_a⟩, ⟨y3, a_b, b, t_b⟩] [] k = laws_eqValS a b (fun (r0 : Bool) => k [⟨.bool, false, r0, []⟩] [] []) := by kernel_rfl
theorem S_laws_eqValS : Sound Try.prog 55 s_laws_eqValS := sound_of (Γ := g_laws_eqValS) (X := [xlaws_eqValS_l0]) (ht := (.t .o (.t .o (.t (.t .o (.t (.x 0) .o)) .o)))) (fz := false) (c := c_laws_eqValS) follows tysOk (fns_cons S_laws_eqVal fns_nil) (OrOk.mk trivial ((OrOk.mk trivial ((OrOk.mk ((OrOk.mk trivial ((OrOk.mk (OrOk.x_mk (fun W0 M hnp => olaws_eqValS_l0 (W0 := W0) (M := M) hnp)) trivial)))) trivial))))) Try.func55 (by kernel_rfl) (by kernel_rfl) (by decide) (by
 intro vals ext k r h
 obtain ⟨a, a_a, t_a, vals, rfl, h1⟩ := av_some h
 obtain ⟨b, a_b, t_b, vals, rfl, h2⟩ := av_some h1
 obtain ⟨rfl, h3⟩ := nl_some h2
 obtain ⟨rfl, h4⟩ := nl_some h3
 exact (E_laws_eqValS a a_a t_a b a_b t_b k).trans h4)

/-! ### 58 loop.example/g00462/laws.markValS -/
def c_laws_markValS : Code := (Try.f58.body).getD .skip
def g_laws_markValS : Env Unit := ⟨tys, [(101, s_laws_markText)], 1⟩
def laws_markValS_l0_r (a : List qV) (k_ : Int) (i : Int) (rec : qW → Int → Int → Res) (k0 : qW → Int → Res) : Res :=
 bif decide (i < (nI (List.length a))) then
  bif inb i (List.length a) then
   bif inb i (List.length (upd a i (k_, (nth (0, 0, eS) a i).2))) then
    laws_markText (wi64 ((wi64 (k_ + 1)) + 1)) fun (r : ByteArray) =>
     bif inb i (List.length (upd (upd a i (k_, (nth (0, 0, eS) a i).2)) i ((nth (0, 0, eS) (upd a i (k_, (nth (0, 0, eS) a i).2)) i).1, wi64 (k_ + 1), (nth (0, 0, eS) (upd a i (k_, (nth (0, 0, eS) a i).2)) i).2.2))) then
      rec (upd (upd (upd a i (k_, (nth (0, 0, eS) a i).2)) i ((nth (0, 0, eS) (upd a i (k_, (nth (0, 0, eS) a i).2)) i).1, wi64 (k_ + 1), (nth (0, 0, eS) (upd a i (k_, (nth (0, 0, eS) a i).2)) i).2.2)) i ((nth (0, 0, eS) (upd (upd a i (k_, (nth (0, 0, eS) a i).2)) i ((nth (0, 0, eS) (upd a i (k_, (nth (0, 0, eS) a i).2)) i).1, wi64 (k_ + 1), (nth (0, 0, eS) (upd a i (k_, (nth (0, 0, eS) a i).2)) i).2.2)) i).1, (nth (0, 0, eS) (upd (upd a i (k_, (nth (0, 0, eS) a i).2)) i ((nth (0, 0, eS) (upd a i (k_, (nth (0, 0, eS) a i).2)) i).1, wi64 (k_ + 1), (nth (0, 0, eS) (upd a i (k_, (nth (0, 0, eS) a i).2)) i).2.2)) i).2.1, r)) (wi64 ((wi64 ((wi64 (k_ + 1)) + 1)) + 1)) (wi64 (i + 1))
     else none
   else none
  else none
 else
  k0 a k_
def laws_markValS_l0_s : (qW × Int × Int) → (qW × Int × Int → Res) → ((qW → Int → Res)) → Res := fun v rec q => laws_markValS_l0_r v.1 v.2.1 v.2.2 (fun a k_ i => rec (a, k_, i)) q
def laws_markValS_l0 (n : Nat) (a : List qV) (k_ : Int) (i : Int) (k0 : qW → Int → Res) : Res := iter (laws_markValS_l0_s) n (a, k_, i) (k0)
def xlaws_markValS_l0 : Node Unit := fun σ k => rdN σ 35 <| rdV σ 0 y3 false [.O] fun a => rdV σ 1 (.int .i64) false [] fun k_ => rdV σ 5 (.int .i64) false [] fun i => laws_markValS_l0 FUEL a k_ i (fun (a1 : List qV) (k_1 : Int) => k (.exit 0) (mkS 35 35 [(0, .val ⟨y3, false, a1, [.O]⟩), (1, .val ⟨(.int .i64), false, k_1, []⟩)] []))
theorem elaws_markValS_l0  (n : Nat) (v : qW × Int × Int) (k : Kont Unit) : loopC (codeC g_laws_markValS [] .o (Code.pl (Code.pl (Code.pr (Code.pl (Code.pr c_laws_markValS)))))) (fun σ => σ.forget [0, 1, 5] []) (cutC ([], []) [(0, [0, 1], [])] ([], [])) n (mkS 35 35 [(0, .val ⟨y3, false, v.1, [.O]⟩), (1, .val ⟨(.int .i64), false, v.2.1, []⟩), (5, .val ⟨(.int .i64), false, v.2.2, []⟩)] []) k = iter (laws_markValS_l0_s) n v ((fun (k : Kont Unit) => (((fun (a1 : List qV) (k_1 : Int) => k (.exit 0) (mkS 35 35 [(0, .val ⟨y3, false, a1, [.O]⟩), (1, .val ⟨(.int .i64), false, k_1, []⟩)] []))) : (qW → Int → Res))) k) := loop_eq (fun v : qW × Int × Int => (mkS 35 35 [(0, .val ⟨y3, false, v.1, [.O]⟩), (1, .val ⟨(.int .i64), false, v.2.1, []⟩), (5, .val ⟨(.int .i64), false, v.2.2, []⟩)] [])) (laws_markValS_l0_s) (fun (k : Kont Unit) => (((fun (a1 : List qV) (k_1 : Int) => k (.exit 0) (mkS 35 35 [(0, .val ⟨y3, false, a1, [.O]⟩), (1, .val ⟨(.int .i64), false, k_1, []⟩)] []))) : (qW → Int → Res))) (fun v rec k => by kernel_rfl) n v k
theorem olaws_markValS_l0 {W0 : Base} {M : Nat → Prop} (hnp : W0.np ≤ 1) : CodeOk Try.prog W0 M (Code.pl (Code.pr (Code.pl (Code.pr c_laws_markValS)))) xlaws_markValS_l0 := show CodeOk Try.prog W0 M (Code.loop (Code.pl (Code.pl (Code.pr (Code.pl (Code.pr c_laws_markValS)))))) xlaws_markValS_l0 from loop_ok (code_sound follows tysOk (calls_ok (fns_cons S_laws_markText fns_nil)) hnp [] (Code.pl (Code.pl (Code.pr (Code.pl (Code.pr c_laws_markValS))))) .o trivial) (ks := [0, 1, 5]) (bs := []) (fX := (cutC ([], []) [(0, [0, 1], [])] ([], []))) (cutC_le _ _ _) FUEL (by
 intro σ k r h
 obtain ⟨hn, h1⟩ := rdN_some h
 obtain ⟨a, hs0, h2⟩ := rdV_some h1
 obtain ⟨k_, hs1, h3⟩ := rdV_some h2
 obtain ⟨i, hs5, h4⟩ := rdV_some h3
 refine ⟨_, ?_, (elaws_markValS_l0  FUEL (a, k_, i) k).trans h4⟩
 exact mkS_le hn ⟨hs0, hs1, hs5, trivial⟩ trivial)
def laws_markValS (a : List qV) (k_ : Int) (k0 : Int → qW → Res) : Res :=
 laws_markValS_l0 FUEL a k_ 0 fun (a1 : List qV) (k_1 : Int) =>
  k0 k_1 a1
def s_laws_markValS : Sig Unit := ⟨[.inout y3 false, .borrow (.int .i64) false], [false], fun vals ext k => ao vals y3 [.O] fun a vals => av vals (.int .i64) fun k_ vals => nl vals <| nl ext <| laws_markValS a k_ (fun (r0 : Int) (i0 : List qV) => k [⟨(.int .i64), false, r0, []⟩] [⟨y3, false, i0, [.O]⟩] [])⟩
theorem E_laws_markValS (a_a : Bool) (a : List qV) (k_ : Int) (a_k_ : Bool) (t_k_ : List Tag) (k : qK) : funC g_laws_markValS [xlaws_markValS_l0] (.t .o (.t (.t .o (.t (.x 0) .o)) .o)) false Try.f58 [.inout y3 false, .borrow (.int .i64) false] [false] [⟨y3, a_a, a, [.O]⟩, ⟨(.int .i64), a_k_, k_, t_k_⟩] [] k = laws_markValS a k_ (fun (r0 : Int) (i0 : List qV) => k [⟨(.int .i64), false, r0, []⟩] [⟨y3, false, i0, [.O]⟩] []) := by kernel_rfl
theorem S_laws_markValS : Sound Try.prog 58 s_laws_markValS := sound_of (Γ := g_laws_markValS) (X := [xlaws_markValS_l0]) (ht := (.t .o (.t (.t .o (.t (.x 0) .o)) .o))) (fz := false) (c := c_laws_markValS) follows tysOk (fns_cons S_laws_markText fns_nil) (OrOk.mk trivial ((OrOk.mk ((OrOk.mk trivial ((OrOk.mk (OrOk.x_mk (fun W0 M hnp => olaws_markValS_l0 (W0 := W0) (M := M) hnp)) trivial)))) trivial))) Try.func58 (by kernel_rfl) (by kernel_rfl) (by decide) (by
 intro vals ext k r h
 obtain ⟨a_a, a, vals, rfl, h1⟩ := ao_some h
 obtain ⟨k_, a_k_, t_k_, vals, rfl, h2⟩ := av_some h1
 obtain ⟨rfl, h3⟩ := nl_some h2
 obtain ⟨rfl, h4⟩ := nl_some h3
 exact (E_laws_markValS a_a a k_ a_k_ t_k_ k).trans h4)

/-! ### 59 loop.example/g00462/laws.heldValS -/
def c_laws_heldValS : Code := (Try.f59.body).getD .skip
def g_laws_heldValS : Env Unit := ⟨tys, [(101, s_laws_markText)], 0⟩
def laws_heldValS_l0_r (a : List qV) (k_ : Int) (i : Int) (rec : Int → Int → Res) (k0 : Int → Res) (k1 : Unit → Res) : Res :=
 bif decide (i < (nI (List.length a))) then
  bif inb i (List.length a) then
   bif ((nth (0, 0, eS) a i).1 != k_) then
    k1 ()
   else
    bif inb i (List.length a) then
     bif ((nth (0, 0, eS) a i).2.1 != (wi64 (k_ + 1))) then
      k1 ()
     else
      bif inb i (List.length a) then
       laws_markText (wi64 ((wi64 (k_ + 1)) + 1)) fun (r : ByteArray) =>
        bif sNe (nth (0, 0, eS) a i).2.2 r then
         k1 ()
        else
         rec (wi64 ((wi64 ((wi64 (k_ + 1)) + 1)) + 1)) (wi64 (i + 1))
      else none
    else none
  else none
 else
  k0 k_
def laws_heldValS_l0_s (a : List qV) : (Int × Int) → (Int × Int → Res) → ((Int → Res) × (Unit → Res)) → Res := fun v rec q => laws_heldValS_l0_r a v.1 v.2 (fun k_ i => rec (k_, i)) q.1 q.2
def laws_heldValS_l0 (a : List qV) (n : Nat) (k_ : Int) (i : Int) (k0 : Int → Res) (k1 : Unit → Res) : Res := iter (laws_heldValS_l0_s a) n (k_, i) (k0, k1)
def xlaws_heldValS_l0 : Node Unit := fun σ k => rdN σ 41 <| rdV σ 0 y3 false [.S] fun a => rdV σ 1 (.int .i64) false [] fun k_ => rdV σ 5 (.int .i64) false [] fun i => laws_heldValS_l0 a FUEL k_ i (fun (k_1 : Int) => k (.exit 0) (mkS 41 41 [(1, .val ⟨(.int .i64), false, k_1, []⟩)] [])) (fun (_ : Unit) => k .ret (mkS 41 41 [(4, .val ⟨(.int .i64), false, (-1), []⟩)] []))
theorem elaws_heldValS_l0 (a : List qV) (n : Nat) (v : Int × Int) (k : Kont Unit) : loopC (codeC g_laws_heldValS [] .o (Code.pl (Code.pl (Code.pr (Code.pl (Code.pr c_laws_heldValS)))))) (fun σ => σ.forget [0, 1, 5] []) (cutC ([], []) [(0, [1], [])] ([4], [])) n (mkS 41 41 [(0, .val ⟨y3, false, a, [.S]⟩), (1, .val ⟨(.int .i64), false, v.1, []⟩), (5, .val ⟨(.int .i64), false, v.2, []⟩)] []) k = iter (laws_heldValS_l0_s a) n v ((fun (k : Kont Unit) => (((fun (k_1 : Int) => k (.exit 0) (mkS 41 41 [(1, .val ⟨(.int .i64), false, k_1, []⟩)] [])), (fun (_ : Unit) => k .ret (mkS 41 41 [(4, .val ⟨(.int .i64), false, (-1), []⟩)] []))) : (Int → Res) × (Unit → Res))) k) := loop_eq (fun v : Int × Int => (mkS 41 41 [(0, .val ⟨y3, false, a, [.S]⟩), (1, .val ⟨(.int .i64), false, v.1, []⟩), (5, .val ⟨(.int .i64), false, v.2, []⟩)] [])) (laws_heldValS_l0_s a) (fun (k : Kont Unit) => (((fun (k_1 : Int) => k (.exit 0) (mkS 41 41 [(1, .val ⟨(.int .i64), false, k_1, []⟩)] [])), (fun (_ : Unit) => k .ret (mkS 41 41 [(4, .val ⟨(.int .i64), false, (-1), []⟩)] []))) : (Int → Res) × (Unit → Res))) (fun v rec k => by kernel_rfl) n v k
theorem olaws_heldValS_l0 {W0 : Base} {M : Nat → Prop} (hnp : W0.np ≤ 0) : CodeOk Try.prog W0 M (Code.pl (Code.pr (Code.pl (Code.pr c_laws_heldValS)))) xlaws_heldValS_l0 := show CodeOk Try.prog W0 M (Code.loop (Code.pl (Code.pl (Code.pr (Code.pl (Code.pr c_laws_heldValS)))))) xlaws_heldValS_l0 from loop_ok (code_sound follows tysOk (calls_ok (fns_cons S_laws_markText fns_nil)) hnp [] (Code.pl (Code.pl (Code.pr (Code.pl (Code.pr c_laws_heldValS))))) .o trivial) (ks := [0, 1, 5]) (bs := []) (fX := (cutC ([], []) [(0, [1], [])] ([4], []))) (cutC_le _ _ _) FUEL (by
 intro σ k r h
 obtain ⟨hn, h1⟩ := rdN_some h
 obtain ⟨a, hs0, h2⟩ := rdV_some h1
 obtain ⟨k_, hs1, h3⟩ := rdV_some h2
 obtain ⟨i, hs5, h4⟩ := rdV_some h3
 refine ⟨_, ?_, (elaws_heldValS_l0 a FUEL (k_, i) k).trans h4⟩
 exact mkS_le hn ⟨hs0, hs1, hs5, trivial⟩ trivial)
def laws_heldValS (a : List qV) (k_ : Int) (k0 : Int → Res) : Res :=
 laws_heldValS_l0 a FUEL k_ 0
  (fun (k_1 : Int) =>
   k0 k_1)
  (fun (_ : Unit) =>
   k0 (-1))
def s_laws_heldValS : Sig Unit := ⟨[.look y3 false, .look (.int .i64) false], [false], fun vals ext k => av vals y3 fun a vals => av vals (.int .i64) fun k_ vals => nl vals <| nl ext <| laws_heldValS a k_ (fun (r0 : Int) => k [⟨(.int .i64), false, r0, []⟩] [] [])⟩
theorem E_laws_heldValS (a : List qV) (a_a : Bool) (t_a : List Tag) (k_ : Int) (a_k_ : Bool) (t_k_ : List Tag) (k : qK) : funC g_laws_heldValS [xlaws_heldValS_l0] (.t .o (.t (.t .o (.t (.x 0) .o)) .o)) false Try.f59 [.look y3 false, .look (.int .i64) false] [false] [⟨y3, a_a, a, t_a⟩, ⟨(.int .i64), a_k_, k_, t_k_⟩] [] k = laws_heldValS a k_ (fun (r0 : Int) => k [⟨(.int .i64), false, r0, []⟩] [] []) := by kernel_rfl
theorem S_laws_heldValS : Sound Try.prog 59 s_laws_heldValS := sound_of (Γ := g_laws_heldValS) (X := [xlaws_heldValS_l0]) (ht := (.t .o (.t (.t .o (.t (.x 0) .o)) .o))) (fz := false) (c := c_laws_heldValS) follows tysOk (fns_cons S_laws_markText fns_nil) (OrOk.mk trivial ((OrOk.mk ((OrOk.mk trivial ((OrOk.mk (OrOk.x_mk (fun W0 M hnp => olaws_heldValS_l0 (W0 := W0) (M := M) hnp)) trivial)))) trivial))) Try.func59 (by kernel_rfl) (by kernel_rfl) (by decide) (by
 intro vals ext k r h
 obtain ⟨a, a_a, t_a, vals, rfl, h1⟩ := av_some h
 obtain ⟨k_, a_k_, t_k_, vals, rfl, h2⟩ := av_some h1
 obtain ⟨rfl, h3⟩ := nl_some h2
 obtain ⟨rfl, h4⟩ := nl_some h3
 exact (E_laws_heldValS a a_a t_a k_ a_k_ t_k_ k).trans h4)
end Go.PI.G
end
noncomputable section
namespace Go.PI.G
open Go Go.PI Go.Proofs

/-! ### 13 loop.example/g00462/laws.FnExactReadVals -/
def c_laws_FnExactReadVals : Code := (Try.f13.body).getD .skip
def g_laws_FnExactReadVals : Env Unit := ⟨tys, [(52, s_spec_ReadVals), (53, s_laws_toByteS), (54, s_impl_ReadVals), (55, s_laws_eqValS), (56, s_laws_eqByteS), (57, s_laws_markByteS), (58, s_laws_markValS), (59, s_laws_heldValS)], 0⟩
def laws_FnExactReadVals_p0 (aB : List Int) (w0 : List qV) (w1 : Bool) (g0 : List qV) (k0 : Bool → Res) : Res :=
 laws_markValS g0 1 fun (r : Int) (a : List qV) =>
  laws_heldValS a 1 fun (r1 : Int) =>
   bif decide (r1 < 0) then
    k0 false
   else
    bif (r1 != r) then
     k0 false
    else
     laws_toByteS aB fun (r2 : List Int) =>
      impl_ReadVals r2 fun (r3 : List qV) (r4 : Bool) =>
       laws_eqValS r3 w0 fun (r5 : Bool) =>
        bif !r5 then
         k0 false
        else
         bif !(r4 == w1) then
          k0 false
         else
          laws_heldValS a 1 fun (r6 : Int) =>
           bif decide (r6 < 0) then
            k0 false
           else
            bif (r6 != r) then
             k0 false
            else
             k0 true
def xlaws_FnExactReadVals_p0 : Node Unit := fun σ k => rdN σ 93 <| rdV σ 0 y0 false [.S] fun aB => rdV σ 3 y3 false [.O] fun w0 => rdV σ 4 .bool false [] fun w1 => rdV σ 6 y3 false [.O] fun g0 => laws_FnExactReadVals_p0 aB w0 w1 g0 (fun (t2 : Bool) => k .ret (mkS 93 93 [(2, .val ⟨.bool, false, t2, []⟩)] []))
theorem elaws_FnExactReadVals_p0 (aB : List Int) (w0 : List qV) (w1 : Bool) (g0 : List qV) (k : Kont Unit) : codeC g_laws_FnExactReadVals [] .o (Code.pr (Code.pr (Code.pr (Code.pr (Code.pr (Code.pr (Code.pr (Code.pr (Code.pr (Code.pr c_laws_FnExactReadVals)))))))))) (mkS 93 93 [(0, .val ⟨y0, false, aB, [.S]⟩), (3, .val ⟨y3, false, w0, [.O]⟩), (4, .val ⟨.bool, false, w1, []⟩), (6, .val ⟨y3, false, g0, [.O]⟩)] []) (fun e σ => k e ((cutC ([], []) [] ([2], [])) e σ)) = laws_FnExactReadVals_p0 aB w0 w1 g0 (fun (t2 : Bool) => k .ret (mkS 93 93 [(2, .val ⟨.bool, false, t2, []⟩)] [])) := by kernel_rfl
theorem olaws_FnExactReadVals_p0 {W0 : Base} {M : Nat → Prop} (hnp : W0.np ≤ 0) : CodeOk Try.prog W0 M (Code.pr (Code.pr (Code.pr (Code.pr (Code.pr (Code.pr (Code.pr (Code.pr (Code.pr (Code.pr c_laws_FnExactReadVals)))))))))) xlaws_FnExactReadVals_p0 := node_ok (code_sound follows tysOk (calls_ok (fns_cons S_spec_ReadVals (fns_cons S_laws_toByteS (fns_cons S_impl_ReadVals (fns_cons S_laws_eqValS (fns_cons S_laws_eqByteS (fns_cons S_laws_markByteS (fns_cons S_laws_markValS (fns_cons S_laws_heldValS fns_nil))))))))) hnp [] ((Code.pr (Code.pr (Code.pr (Code.pr (Code.pr (Code.pr (Code.pr (Code.pr (Code.pr (Code.pr c_laws_FnExactReadVals))))))))))) .o trivial) (fg := (cutC ([], []) [] ([2], []))) (cutC_le _ _ _) (by
 intro σ k r h
 obtain ⟨hn, h1⟩ := rdN_some h
 obtain ⟨aB, hs0, h2⟩ := rdV_some h1
 obtain ⟨w0, hs3, h3⟩ := rdV_some h2
 obtain ⟨w1, hs4, h4⟩ := rdV_some h3
 obtain ⟨g0, hs6, h5⟩ := rdV_some h4
 refine ⟨_, ?_, (elaws_FnExactReadVals_p0 aB w0 w1 g0 k).trans h5⟩
 exact mkS_le hn ⟨hs0, hs3, hs4, hs6, trivial⟩ trivial)
def laws_FnExactReadVals (aB : List Int) (k0 : Bool → Res) : Res :=
 bif decide ((nI (List.length aB)) > 1048576) then
  k0 true
 else
  laws_toByteS aB fun (r : List Int) =>
   spec_ReadVals r fun (r1 : List qV) (r2 : Bool) =>
    laws_toByteS aB fun (r3 : List Int) =>
     impl_ReadVals r3 fun (r4 : List qV) (r5 : Bool) =>
      laws_eqValS r4 r1 fun (r6 : Bool) =>
       bif !r6 then
        k0 false
       else
        bif !(r5 == r2) then
         k0 false
        else
         laws_toByteS aB fun (r7 : List Int) =>
          laws_eqByteS r3 r7 fun (r8 : Bool) =>
           bif !r8 then
            k0 false
           else
            laws_markByteS r3 1 fun (r9 : Int) (a : List Int) =>
             bif decide (r9 < 0) then
              k0 false
             else
              laws_eqValS r4 r1 fun (r10 : Bool) =>
               bif !r10 then
                k0 false
               else
                bif !(r5 == r2) then
                 k0 false
                else
                 laws_FnExactReadVals_p0 aB r1 r2 r4 fun (t : Bool) =>
                  k0 t
def s_laws_FnExactReadVals : Sig Unit := ⟨[.borrow y0 false], [false], fun vals ext k => av vals y0 fun aB vals => nl vals <| nl ext <| laws_FnExactReadVals aB (fun (r0 : Bool) => k [⟨.bool, false, r0, []⟩] [] [])⟩
theorem E_laws_FnExactReadVals (aB : List Int) (a_aB : Bool) (t_aB : List Tag) (k : qK) : funC g_laws_FnExactReadVals [xlaws_FnExactReadVals_p0] (.t .o (.t .o (.t .o (.t .o (.t .o (.t .o (.t .o (.t .o (.t .o (.t .o (.x 0))))))))))) false Try.f13 [.borrow y0 false] [false] [⟨y0, a_aB, aB, t_aB⟩] [] k = laws_FnExactReadVals aB (fun (r0 : Bool) => k [⟨.bool, false, r0, []⟩] [] []) := by kernel_rfl
theorem S_laws_FnExactReadVals : Sound Try.prog 13 s_laws_FnExactReadVals := sound_of (Γ := g_laws_FnExactReadVals) (X := [xlaws_FnExactReadVals_p0]) (ht := (.t .o (.t .o (.t .o (.t .o (.t .o (.t .o (.t .o (.t .o (.t .o (.t .o (.x 0)))))))))))) (fz := false) (c := c_laws_FnExactReadVals) follows tysOk (fns_cons S_spec_ReadVals (fns_cons S_laws_toByteS (fns_cons S_impl_ReadVals (fns_cons S_laws_eqValS (fns_cons S_laws_eqByteS (fns_cons S_laws_markByteS (fns_cons S_laws_markValS (fns_cons S_laws_heldValS fns_nil)))))))) (OrOk.mk trivial ((OrOk.mk trivial ((OrOk.mk trivial ((OrOk.mk trivial ((OrOk.mk trivial ((OrOk.mk trivial ((OrOk.mk trivial ((OrOk.mk trivial ((OrOk.mk trivial ((OrOk.mk trivial (OrOk.x_mk (fun W0 M hnp => olaws_FnExactReadVals_p0 (W0 := W0) (M := M) hnp))))))))))))))))))))) Try.func13 (by kernel_rfl) (by kernel_rfl) (by decide) (by
 intro vals ext k r h
 obtain ⟨aB, a_aB, t_aB, vals, rfl, h1⟩ := av_some h
 obtain ⟨rfl, h2⟩ := nl_some h1
 obtain ⟨rfl, h3⟩ := nl_some h2
 exact (E_laws_FnExactReadVals aB a_aB t_aB k).trans h3)
end Go.PI.G
end
namespace Go.PI.G
open Go Go.PI

abbrev V := Int × Int × ByteArray
theorem wu8_of (n : Int) : wu8 n = n % 256 := by
  unfold wu8 IntKind.wrap
  simp [IntKind.bits, IntKind.signed]
theorem wu8_small {n : Int} (h : 0 ≤ n ∧ n < 256) : wu8 n = n := by rw [wu8_of]; omega
theorem toBytes_len (s : ByteArray) : (toBytes s).length = s.size := by unfold toBytes; simp
theorem ofBytes_size (l : List Int) : (ofBytes l).size = l.length := by
  show ((l.map fun n => UInt8.ofNat n.toNat).toArray).size = _
  simp
/-- A row of bytes. -/
def isB (l : List Int) : Prop := ∀ x ∈ l, 0 ≤ x ∧ x < 256
theorem toBytes_isB (s : ByteArray) : isB (toBytes s) := by
  intro x hx
  unfold toBytes at hx
  obtain ⟨b, _, rfl⟩ := List.mem_map.1 hx
  have := UInt8.toNat_lt b
  omega
theorem ofBytes_toBytes (s : ByteArray) : ofBytes (toBytes s) = s := by
  unfold ofBytes toBytes
  rw [List.map_map]
  have : (fun b : UInt8 => b) = (fun n : Int => UInt8.ofNat n.toNat) ∘ fun b : UInt8 => (b.toNat : Int) := by
    funext b; simp
  rw [← this]
  simp
theorem toBytes_ofBytes {l : List Int} (h : isB l) : toBytes (ofBytes l) = l := by
  unfold ofBytes toBytes
  simp only [List.map_map]
  have : l.map ((fun b : UInt8 => (b.toNat : Int)) ∘ fun n : Int => UInt8.ofNat n.toNat) = l.map id := by
    refine List.map_congr_left fun x hx => ?_
    have := h x hx
    simp only [Function.comp, id]
    rw [UInt8.toNat_ofNat']
    omega
  rw [this, List.map_id]
theorem sEq_iff (a b : ByteArray) : sEq a b = true ↔ a = b := by
  unfold sEq
  rw [beq_iff_eq]
  constructor
  · intro h
    rw [ByteArray.ext_iff]
    have h1 : a.toList = a.data.toList := by rw [ByteArray.toList_eq]
    have h2 : b.toList = b.data.toList := by rw [ByteArray.toList_eq]
    rw [h1, h2] at h
    exact Array.toList_inj.1 h
  · rintro rfl; rfl
theorem sNe_iff (a b : ByteArray) : sNe a b = false ↔ a = b := by
  unfold sNe
  rw [Bool.not_eq_false']
  exact sEq_iff a b
theorem ofBytes_inj {l m : List Int} (hl : isB l) (hm : isB m) (h : ofBytes l = ofBytes m) : l = m := by
  rw [← toBytes_ofBytes hl, h, toBytes_ofBytes hm]

/-! ### right values -/
def numB (n : Int) : Bool := decide (-1099511627775 ≤ n ∧ n ≤ 1099511627775)
def valB (v : V) : Bool :=
  bif v.1 == 0 then (v.2.1 == 0) && sEq v.2.2 eS
  else bif v.1 == 1 then ((v.2.1 == 0) || (v.2.1 == 1)) && sEq v.2.2 eS
  else bif v.1 == 2 then numB v.2.1 && sEq v.2.2 eS
  else bif v.1 == 3 then (v.2.1 == 0) && decide (nI v.2.2.size ≤ 30)
  else false
theorem or_within (x : Int) : decide (0 ≤ x ∧ x ≤ 1) = ((x == 0) || (x == 1)) := by
  by_cases h : 0 ≤ x ∧ x ≤ 1
  · rw [decide_eq_true h]
    have : x = 0 ∨ x = 1 := by omega
    rcases this with rfl | rfl <;> rfl
  · rw [decide_eq_false h]
    have h1 : (x == 0) = false := by simp; omega
    have h2 : (x == 1) = false := by simp; omega
    rw [h1, h2]; rfl
/-- What a right value is. -/
theorem valB_cases {v : V} (h : valB v = true) : v = (0, 0, eS) ∨ (∃ n, (n = 0 ∨ n = 1) ∧ v = (1, n, eS)) ∨ (∃ n, (-1099511627775 ≤ n ∧ n ≤ 1099511627775) ∧ v = (2, n, eS)) ∨ ∃ s : ByteArray, s.size ≤ 30 ∧ v = (3, 0, s) := by
  obtain ⟨t, n, s⟩ := v
  unfold valB at h
  simp only at h
  cases h0 : t == 0
  · cases h1 : t == 1
    · cases h2 : t == 2
      · cases h3 : t == 3
        · rw [h0, h1, h2, h3] at h; cases h
        · rw [h0, h1, h2, h3] at h
          simp only [cond_false, cond_true, Bool.and_eq_true, beq_iff_eq, decide_eq_true_eq] at h h3
          obtain ⟨rfl, h⟩ := h
          subst h3
          exact .inr (.inr (.inr ⟨s, by unfold nI at h; omega, rfl⟩))
      · rw [h0, h1, h2] at h
        simp only [cond_false, cond_true, Bool.and_eq_true, beq_iff_eq] at h h2
        obtain ⟨h, hs⟩ := h
        rw [sEq_iff] at hs
        subst hs; subst h2
        exact .inr (.inr (.inl ⟨n, of_decide_eq_true h, rfl⟩))
    · rw [h0, h1] at h
      simp only [cond_false, cond_true, Bool.and_eq_true, Bool.or_eq_true, beq_iff_eq] at h h1
      obtain ⟨h, hs⟩ := h
      rw [sEq_iff] at hs
      subst hs; subst h1
      exact .inr (.inl ⟨n, h, rfl⟩)
  · rw [h0] at h
    simp only [cond_true, Bool.and_eq_true, beq_iff_eq] at h h0
    obtain ⟨h, hs⟩ := h
    rw [sEq_iff] at hs
    subst hs; subst h0; subst h
    exact .inl rfl
theorem valB_size {v : V} (h : valB v = true) : v.2.2.size ≤ 30 := by
  rcases valB_cases h with rfl | ⟨n, _, rfl⟩ | ⟨n, _, rfl⟩ | ⟨s, hs, rfl⟩
  · show (0 : Nat) ≤ 30; omega
  · show (0 : Nat) ≤ 30; omega
  · show (0 : Nat) ≤ 30; omega
  · exact hs

/-! ### bytes -/
/-- A number in so many bytes. -/
def be (n : Nat) : Nat → List Int
  | 0 => []
  | s + 1 => ((n / 256 ^ s % 256 : Nat) : Int) :: be n s
theorem be_len (n : Nat) : (s : Nat) → (be n s).length = s
  | 0 => rfl
  | s + 1 => by simp [be, be_len n s]
theorem be_isB (n : Nat) : (s : Nat) → isB (be n s)
  | 0 => by intro x hx; cases hx
  | s + 1 => by
    intro x hx
    rcases List.mem_cons.1 hx with rfl | hx
    · omega
    · exact be_isB n s x hx
theorem isB_append {l m : List Int} (hl : isB l) (hm : isB m) : isB (l ++ m) := fun x hx => (List.mem_append.1 hx).elim (hl x) (hm x)
theorem isB_cons {x : Int} {l : List Int} (hx : 0 ≤ x ∧ x < 256) (hl : isB l) : isB (x :: l) := fun y hy => (List.mem_cons.1 hy).elim (fun h => h ▸ hx) (hl y)
theorem isB_nil : isB [] := fun _ h => by cases h
def wB (v : V) : List Int :=
  bif v.1 == 1 then [1, v.2.1]
  else bif v.1 == 2 then 2 :: (bif decide (v.2.1 < 0) then 1 else 0) :: be v.2.1.natAbs 6
  else bif v.1 == 3 then 3 :: nI v.2.2.size :: toBytes v.2.2
  else [0]
def rowW (l : List V) : List Int := nI l.length :: l.flatMap wB
theorem wB_len {v : V} (h : valB v = true) : (wB v).length ≤ 32 := by
  rcases valB_cases h with rfl | ⟨n, _, rfl⟩ | ⟨n, _, rfl⟩ | ⟨s, hs, rfl⟩
  · show (1 : Nat) ≤ 32; omega
  · show (2 : Nat) ≤ 32; omega
  · show (2 :: (bif decide (n < 0) then 1 else 0) :: be n.natAbs 6).length ≤ 32
    simp [be_len]
  · show (3 :: nI s.size :: toBytes s).length ≤ 32
    simp [toBytes_len]; omega
theorem wB_isB {v : V} (h : valB v = true) : isB (wB v) := by
  rcases valB_cases h with rfl | ⟨n, hn, rfl⟩ | ⟨n, _, rfl⟩ | ⟨s, hs, rfl⟩
  · exact isB_cons (by omega) isB_nil
  · exact isB_cons (by omega) (isB_cons (x := n) (by omega) isB_nil)
  · refine isB_cons (x := 2) (by omega) (isB_cons ?_ (be_isB _ _))
    cases decide (n < 0) <;> simp
  · exact isB_cons (x := 3) (by omega) (isB_cons (x := nI s.size) (by unfold nI; omega) (toBytes_isB s))
theorem flat_len : (l : List V) → (∀ v ∈ l, valB v = true) → (l.flatMap wB).length ≤ 32 * l.length
  | [], _ => by simp
  | v :: l, h => by
    have h1 := wB_len (h v (by simp))
    have h2 := flat_len l fun v hv => h v (List.mem_cons_of_mem _ hv)
    simp only [List.flatMap_cons, List.length_append, List.length_cons]
    omega
theorem flat_isB : (l : List V) → (∀ v ∈ l, valB v = true) → isB (l.flatMap wB)
  | [], _ => isB_nil
  | v :: l, h => by
    rw [List.flatMap_cons]
    exact isB_append (wB_isB (h v (by simp))) (flat_isB l fun v hv => h v (List.mem_cons_of_mem _ hv))
theorem rowW_isB {l : List V} (hl : l.length ≤ 255) (h : ∀ v ∈ l, valB v = true) : isB (rowW l) := isB_cons (by unfold nI; omega) (flat_isB l h)
end Go.PI.G
namespace Go.PI.G
open Go Go.PI Go.Proofs

theorem within_eq (x lo hi : Int) (k : Bool → Res) : impl_within x lo hi k = k (decide (lo ≤ x ∧ x ≤ hi)) := by
  unfold impl_within
  by_cases h : x ≥ lo
  · rw [decide_eq_true h, cond_true]
    congr 1
    exact decide_eq_decide.2 (by omega)
  · rw [decide_eq_false h, cond_false]
    congr 1
    exact (decide_eq_false (by omega)).symm
theorem l01Num_eq (n : Int) (k : Bool → Res) : spec_l01Num n k = k (numB n) := within_eq n _ _ k
theorem specVal_eq (v : V) (k : Bool → Res) : spec_ValOk v k = k (valB v) := by
  unfold spec_ValOk valB
  cases v.1 == 0
  · cases v.1 == 1
    · cases v.1 == 2
      · cases v.1 == 3
        · rfl
        · cases v.2.1 == 0 <;> rfl
      · rw [cond_false, cond_false, cond_true, l01Num_eq]
        cases numB v.2.1 <;> rfl
    · cases v.2.1 == 0
      · cases v.2.1 == 1 <;> rfl
      · rfl
  · cases v.2.1 == 0 <;> rfl
theorem implVal_eq (v : V) (k : Bool → Res) : impl_ValOk v k = k (valB v) := by
  unfold impl_ValOk valB
  simp only [within_eq, or_within]
  cases v.1 == 0
  · cases v.1 == 1
    · cases v.1 == 2
      · cases v.1 == 3
        · rfl
        · cases v.2.1 == 0 <;> rfl
      · rw [cond_false, cond_false, cond_true, cond_false, cond_false, cond_true]
        show (bif numB v.2.1 then _ else _) = _
        cases numB v.2.1 <;> rfl
    · cases v.2.1 == 0
      · cases v.2.1 == 1 <;> rfl
      · rfl
  · cases v.2.1 == 0 <;> rfl
end Go.PI.G
namespace Go.PI.G
open Go Go.PI

/-- How much a value holds. -/
def msr : (τ : Ty) → El τ → Nat
  | .str, s => ByteArray.size s
  | .slice e, l => List.length (α := El e) l + (List.map (msr e) l).sum
  | .pair a b, x => msr a x.1 + msr b x.2
  | .int _, _ => 0
  | .bool, _ => 0
  | .unit, _ => 0
/-- How many marks it takes where it stands in a row; where it is given by value. -/
def wgt : (τ : Ty) → El τ → Nat
  | .str, _ => 1
  | .slice e, l => (List.map (wgt e) l).sum
  | .pair a b, x => wgt a x.1 + wgt b x.2
  | .int _, _ => 1
  | .bool, _ => 1
  | .unit, _ => 0
def wgtT : (τ : Ty) → El τ → Nat
  | .slice e, l => (List.map (wgt e) l).sum
  | .pair a b, x => wgtT a x.1 + wgtT b x.2
  | .str, _ => 0
  | .int _, _ => 0
  | .bool, _ => 0
  | .unit, _ => 0
def width : Ty → Nat
  | .slice e => width e
  | .pair a b => width a + width b
  | .unit => 0
  | _ => 1

theorem sum_le_mul {α : Type} (f g : α → Nat) (c : Nat) (h : ∀ x, f x ≤ (g x + 1) * c) : (l : List α) → (l.map f).sum ≤ (l.length + (l.map g).sum) * c
  | [] => by simp
  | x :: l => by
    have h1 := h x
    have h2 := sum_le_mul f g c h l
    simp only [List.map_cons, List.sum_cons, List.length_cons]
    have : (l.length + 1 + (g x + (l.map g).sum)) * c = (g x + 1) * c + (l.length + (l.map g).sum) * c := by
      rw [← Nat.add_mul]; congr 1; omega
    omega
theorem wgt_le : (τ : Ty) → (x : El τ) → wgt τ x ≤ (msr τ x + 1) * width τ
  | .str, _ => by simp [wgt, width]
  | .int _, _ => by simp [wgt, width]
  | .bool, _ => by simp [wgt, width]
  | .unit, _ => by simp [wgt]
  | .pair a b, x => by
    have h1 := wgt_le a x.1
    have h2 := wgt_le b x.2
    simp only [wgt, msr, width, Nat.mul_add]
    have e1 : (msr a x.1 + 1) * width a ≤ (msr a x.1 + msr b x.2 + 1) * width a := Nat.mul_le_mul_right _ (by omega)
    have e2 : (msr b x.2 + 1) * width b ≤ (msr a x.1 + msr b x.2 + 1) * width b := Nat.mul_le_mul_right _ (by omega)
    omega
  | .slice e, l => by
    have h1 := sum_le_mul (wgt e) (msr e) (width e) (wgt_le e) l
    simp only [wgt, msr, width]
    have e1 : (List.length (α := El e) l + (List.map (msr e) l).sum) * width e ≤ (List.length (α := El e) l + (List.map (msr e) l).sum + 1) * width e := Nat.mul_le_mul_right _ (by omega)
    exact Nat.le_trans h1 e1
theorem wgtT_le_wgt : (τ : Ty) → (x : El τ) → wgtT τ x ≤ wgt τ x
  | .str, _ => Nat.zero_le _
  | .int _, _ => Nat.zero_le _
  | .bool, _ => Nat.zero_le _
  | .unit, _ => Nat.le_refl _
  | .pair a b, x => Nat.add_le_add (wgtT_le_wgt a x.1) (wgtT_le_wgt b x.2)
  | .slice e, l => Nat.le_refl _

/-! ### marks -/
def dgt (x : Int) : ByteArray := ofBytes [wu8 (wi64 (48 + x))]
theorem dgt_size (x : Int) : (dgt x).size = 1 := rfl
def digt (n : Nat) : ByteArray := if h : n < 10 then dgt n else digt (n / 10) ++ dgt ((n % 10 : Nat) : Int)
termination_by n
decreasing_by omega
/-- The text of a mark. -/
def mT (k : Int) : ByteArray := (⟨#[109]⟩ : ByteArray) ++ digt k.toNat
def mk : (τ : Ty) → El τ → Int → El τ
  | .str, _, k => mT k
  | .slice e, l, k => mkL (wgt e) (mk e) l k
  | .pair a b, x, k => (mk a x.1 k, mk b x.2 (k + (wgt a x.1 : Int)))
  | .int .u8, _, k => wu8 k
  | .int _, _, k => k
  | .bool, _, k => (Int.tmod k 3 == 0)
  | .unit, x, _ => x
def mkT : (τ : Ty) → El τ → Int → El τ
  | .slice e, l, k => mkL (wgt e) (mk e) l k
  | .pair a b, x, k => (mkT a x.1 k, mkT b x.2 (k + (wgtT a x.1 : Int)))
  | .str, x, _ => x
  | .int _, x, _ => x
  | .bool, x, _ => x
  | .unit, x, _ => x

theorem msr_slice (e : Ty) (l : List (El e)) : msr (.slice e) l = l.length + (l.map (msr e)).sum := rfl
theorem msr_len {e : Ty} {l : List (El e)} {n : Nat} (h : msr (.slice e) l ≤ n) : l.length ≤ n := by
  have : msr (.slice e) l = l.length + (l.map (msr e)).sum := rfl
  omega
theorem msr_mem {e : Ty} {l : List (El e)} {n : Nat} (h : msr (.slice e) l ≤ n) {x : El e} (hx : x ∈ l) : msr e x ≤ n := by
  have h1 : msr (.slice e) l = l.length + (l.map (msr e)).sum := rfl
  have := le_sum (msr e) l x hx
  omega
/-- A small value: all its marks are numbers without trouble. -/
theorem wgt_small {τ : Ty} {x : El τ} (hw : width τ ≤ 200) (h : msr τ x ≤ 1048576) : wgt τ x ≤ 209715400 := by
  have h1 := wgt_le τ x
  have h2 : (msr τ x + 1) * width τ ≤ 1048577 * 200 := Nat.mul_le_mul (by omega) hw
  omega
theorem wgt_slice (e : Ty) (l : List (El e)) : wgt (.slice e) l = (l.map (wgt e)).sum := rfl
theorem wgt_pair (a b : Ty) (x : El (.pair a b)) : wgt (.pair a b) x = wgt a x.1 + wgt b x.2 := rfl
theorem wgt_int (k : IntKind) (x : El (.int k)) : wgt (.int k) x = 1 := rfl
theorem wgt_bool (x : El .bool) : wgt .bool x = 1 := rfl
theorem wgt_str (x : El .str) : wgt .str x = 1 := rfl
theorem mk_pair (a b : Ty) (x : El (.pair a b)) (k : Int) : mk (.pair a b) x k = (mk a x.1 k, mk b x.2 (k + (wgt a x.1 : Int))) := rfl
theorem mk_slice (e : Ty) (l : El (.slice e)) (k : Int) : mk (.slice e) l k = mkL (wgt e) (mk e) l k := rfl
theorem mk_i64 (x : El (.int .i64)) (k : Int) : mk (.int .i64) x k = k := rfl
theorem mk_u8 (x : El (.int .u8)) (k : Int) : mk (.int .u8) x k = wu8 k := rfl
theorem mk_bool (x : El .bool) (k : Int) : mk .bool x k = (Int.tmod k 3 == 0) := rfl
theorem mk_str (x : El .str) (k : Int) : mk .str x k = mT k := rfl
theorem mkT_pair (a b : Ty) (x : El (.pair a b)) (k : Int) : mkT (.pair a b) x k = (mkT a x.1 k, mkT b x.2 (k + (wgtT a x.1 : Int))) := rfl
theorem mkT_slice (e : Ty) (l : El (.slice e)) (k : Int) : mkT (.slice e) l k = mkL (wgt e) (mk e) l k := rfl
theorem mkT_int (i : IntKind) (x : El (.int i)) (k : Int) : mkT (.int i) x k = x := rfl
theorem mkT_bool (x : El .bool) (k : Int) : mkT .bool x k = x := rfl
theorem mkT_str (x : El .str) (k : Int) : mkT .str x k = x := rfl
theorem wgtT_pair (a b : Ty) (x : El (.pair a b)) : wgtT (.pair a b) x = wgtT a x.1 + wgtT b x.2 := rfl
theorem wgtT_slice (e : Ty) (l : El (.slice e)) : wgtT (.slice e) l = wgt (.slice e) l := rfl
theorem wgtT_int (i : IntKind) (x : El (.int i)) : wgtT (.int i) x = 0 := rfl
theorem wgtT_bool (x : El .bool) : wgtT .bool x = 0 := rfl
theorem wgtT_str (x : El .str) : wgtT .str x = 0 := rfl
theorem nth_upd {α : Type} (z : α) (l : List α) (i : Nat) (v : α) (h : i < l.length) : nth z (upd l (i : Int) v) (i : Int) = v := by
  rw [upd_nat, nth_nat _ _ _ (by simpa using h)]; simp
theorem upd_upd {α : Type} (l : List α) (i : Int) (u v : α) : upd (upd l i u) i v = upd l i v := by
  unfold upd; simp
theorem upd_len {α : Type} (l : List α) (i : Int) (v : α) : (upd l i v).length = l.length := by unfold upd; simp
theorem upd_eq {α : Type} (l : List α) (i : Nat) (v w : α) (h : v = w) : upd l (i : Int) v = l.set i w := by rw [upd_nat, h]
end Go.PI.G
