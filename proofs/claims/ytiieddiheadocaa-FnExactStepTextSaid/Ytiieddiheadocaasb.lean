/-
  Printed texts and plain laws. No conditions.
-/
import Derived.Test.Ytiieddiheadocaasa
set_option linter.unusedVariables false
set_option maxRecDepth 100000
noncomputable section
namespace Go.PI.G
open Go Go.PI Go.Proofs

/-! ### 150 slices.Equal[[]loop.example/g00462/impl.Col,loop.example/g00462/impl.Col] -/
def c_slices_Equal_Col : Code := (Try.f150.body).getD .skip
def g_slices_Equal_Col : Env Unit := ⟨tys, [], 0⟩
def slices_Equal_Col_l0_r (s1 : List qC) (s2 : List qC) (t12 : Int) (t13 : Int) (rec : Int → Res) (k0 : Unit → Res) (k1 : Unit → Res) : Res :=
 bif decide (t13 < t12) then
  bif inb t13 (List.length s1) then
   bif inb t13 (List.length s2) then
    bif !((sEq (nth (eS, 0, false, false, 0, 0, eS) s1 t13).1 (nth (eS, 0, false, false, 0, 0, eS) s2 t13).1) && (((nth (eS, 0, false, false, 0, 0, eS) s1 t13).2.1 == (nth (eS, 0, false, false, 0, 0, eS) s2 t13).2.1) && (((nth (eS, 0, false, false, 0, 0, eS) s1 t13).2.2.1 == (nth (eS, 0, false, false, 0, 0, eS) s2 t13).2.2.1) && (((nth (eS, 0, false, false, 0, 0, eS) s1 t13).2.2.2.1 == (nth (eS, 0, false, false, 0, 0, eS) s2 t13).2.2.2.1) && (((nth (eS, 0, false, false, 0, 0, eS) s1 t13).2.2.2.2.1 == (nth (eS, 0, false, false, 0, 0, eS) s2 t13).2.2.2.2.1) && (((nth (eS, 0, false, false, 0, 0, eS) s1 t13).2.2.2.2.2.1 == (nth (eS, 0, false, false, 0, 0, eS) s2 t13).2.2.2.2.2.1) && (sEq (nth (eS, 0, false, false, 0, 0, eS) s1 t13).2.2.2.2.2.2 (nth (eS, 0, false, false, 0, 0, eS) s2 t13).2.2.2.2.2.2))))))) then
     k1 ()
    else
     rec (wi64 (t13 + 1))
   else none
  else none
 else
  k0 ()
def slices_Equal_Col_l0_s (s1 : List qC) (s2 : List qC) (t12 : Int) : Int → (Int → Res) → ((Unit → Res) × (Unit → Res)) → Res := fun v rec q => slices_Equal_Col_l0_r s1 s2 t12 v (fun t13 => rec (t13)) q.1 q.2
def slices_Equal_Col_l0 (s1 : List qC) (s2 : List qC) (t12 : Int) (n : Nat) (t13 : Int) (k0 : Unit → Res) (k1 : Unit → Res) : Res := iter (slices_Equal_Col_l0_s s1 s2 t12) n (t13) (k0, k1)
def xslices_Equal_Col_l0 : Node Unit := fun σ k => rdN σ 26 <| rdV σ 0 y7 false [.S] fun s1 => rdV σ 1 y7 false [.S] fun s2 => rdV σ 12 (.int .i64) false [] fun t12 => rdV σ 13 (.int .i64) false [] fun t13 => slices_Equal_Col_l0 s1 s2 t12 FUEL t13 (fun (_ : Unit) => k (.exit 0) (mkS 26 26 [] [])) (fun (_ : Unit) => k .ret (mkS 26 26 [(4, .val ⟨.bool, false, false, []⟩)] []))
theorem eslices_Equal_Col_l0 (s1 : List qC) (s2 : List qC) (t12 : Int) (n : Nat) (v : Int) (k : Kont Unit) : loopC (codeC g_slices_Equal_Col [] .o (Code.pl (Code.pl (Code.pr (Code.pl (Code.pr (Code.pr c_slices_Equal_Col))))))) (fun σ => σ.forget [0, 1, 12, 13] []) (cutC ([], []) [(0, [], [])] ([4], [])) n (mkS 26 26 [(0, .val ⟨y7, false, s1, [.S]⟩), (1, .val ⟨y7, false, s2, [.S]⟩), (12, .val ⟨(.int .i64), false, t12, []⟩), (13, .val ⟨(.int .i64), false, v, []⟩)] []) k = iter (slices_Equal_Col_l0_s s1 s2 t12) n v ((fun (k : Kont Unit) => (((fun (_ : Unit) => k (.exit 0) (mkS 26 26 [] [])), (fun (_ : Unit) => k .ret (mkS 26 26 [(4, .val ⟨.bool, false, false, []⟩)] []))) : (Unit → Res) × (Unit → Res))) k) := loop_eq (fun v : Int => (mkS 26 26 [(0, .val ⟨y7, false, s1, [.S]⟩), (1, .val ⟨y7, false, s2, [.S]⟩), (12, .val ⟨(.int .i64), false, t12, []⟩), (13, .val ⟨(.int .i64), false, v, []⟩)] [])) (slices_Equal_Col_l0_s s1 s2 t12) (fun (k : Kont Unit) => (((fun (_ : Unit) => k (.exit 0) (mkS 26 26 [] [])), (fun (_ : Unit) => k .ret (mkS 26 26 [(4, .val ⟨.bool, false, false, []⟩)] []))) : (Unit → Res) × (Unit → Res))) (fun v rec k => by kernel_rfl) n v k
theorem oslices_Equal_Col_l0 {W0 : Base} {M : Nat → Prop} (hnp : W0.np ≤ 0) : CodeOk Try.prog W0 M (Code.pl (Code.pr (Code.pl (Code.pr (Code.pr c_slices_Equal_Col))))) xslices_Equal_Col_l0 := show CodeOk Try.prog W0 M (Code.loop (Code.pl (Code.pl (Code.pr (Code.pl (Code.pr (Code.pr c_slices_Equal_Col))))))) xslices_Equal_Col_l0 from loop_ok (code_sound follows tysOk (calls_ok fns_nil) hnp [] (Code.pl (Code.pl (Code.pr (Code.pl (Code.pr (Code.pr c_slices_Equal_Col)))))) .o trivial) (ks := [0, 1, 12, 13]) (bs := []) (fX := (cutC ([], []) [(0, [], [])] ([4], []))) (cutC_le _ _ _) FUEL (by
 intro σ k r h
 obtain ⟨hn, h1⟩ := rdN_some h
 obtain ⟨s1, hs0, h2⟩ := rdV_some h1
 obtain ⟨s2, hs1, h3⟩ := rdV_some h2
 obtain ⟨t12, hs12, h4⟩ := rdV_some h3
 obtain ⟨t13, hs13, h5⟩ := rdV_some h4
 refine ⟨_, ?_, (eslices_Equal_Col_l0 s1 s2 t12 FUEL (t13) k).trans h5⟩
 exact mkS_le hn ⟨hs0, hs1, hs12, hs13, trivial⟩ trivial)
def slices_Equal_Col (s1 : List qC) (s2 : List qC) (k0 : Bool → Res) : Res :=
 bif ((nI (List.length s1)) != (nI (List.length s2))) then
  k0 false
 else
  slices_Equal_Col_l0 s1 s2 (nI (List.length s1)) FUEL 0
   (fun (_ : Unit) =>
    k0 true)
   (fun (_ : Unit) =>
    k0 false)
def s_slices_Equal_Col : Sig Unit := ⟨[.look y7 false, .look y7 false], [false], fun vals ext k => av vals y7 fun s1 vals => av vals y7 fun s2 vals => nl vals <| nl ext <| slices_Equal_Col s1 s2 (fun (r0 : Bool) => k [⟨.bool, false, r0, []⟩] [] [])⟩
theorem E_slices_Equal_Col (s1 : List qC) (a_s1 : Bool) (t_s1 : List Tag) (s2 : List qC) (a_s2 : Bool) (t_s2 : List Tag) (k : qK) : funC g_slices_Equal_Col [xslices_Equal_Col_l0] (.t .o (.t .o (.t (.t .o (.t (.x 0) .o)) .o))) false Try.f150 [.look y7 false, .look y7 false] [false] [⟨y7, a_s1, s1, t_s1⟩, ⟨y7, a_s2, s2, t_s2⟩] [] k = slices_Equal_Col s1 s2 (fun (r0 : Bool) => k [⟨.bool, false, r0, []⟩] [] []) := by kernel_rfl
theorem S_slices_Equal_Col : Sound Try.prog 150 s_slices_Equal_Col := sound_of (Γ := g_slices_Equal_Col) (X := [xslices_Equal_Col_l0]) (ht := (.t .o (.t .o (.t (.t .o (.t (.x 0) .o)) .o)))) (fz := false) (c := c_slices_Equal_Col) follows tysOk fns_nil (OrOk.mk trivial ((OrOk.mk trivial ((OrOk.mk ((OrOk.mk trivial ((OrOk.mk (OrOk.x_mk (fun W0 M hnp => oslices_Equal_Col_l0 (W0 := W0) (M := M) hnp)) trivial)))) trivial))))) Try.func150 (by kernel_rfl) (by kernel_rfl) (by decide) (by
 intro vals ext k r h
 obtain ⟨s1, a_s1, t_s1, vals, rfl, h1⟩ := av_some h
 obtain ⟨s2, a_s2, t_s2, vals, rfl, h2⟩ := av_some h1
 obtain ⟨rfl, h3⟩ := nl_some h2
 obtain ⟨rfl, h4⟩ := nl_some h3
 exact (E_slices_Equal_Col s1 a_s1 t_s1 s2 a_s2 t_s2 k).trans h4)

/-! ### 151 slices.Equal[[]string,string] -/
def c_slices_Equal_string : Code := (Try.f151.body).getD .skip
def g_slices_Equal_string : Env Unit := ⟨tys, [], 0⟩
def slices_Equal_string_l0_r (s1 : List ByteArray) (s2 : List ByteArray) (t12 : Int) (t13 : Int) (rec : Int → Res) (k0 : Unit → Res) (k1 : Unit → Res) : Res :=
 bif decide (t13 < t12) then
  bif inb t13 (List.length s1) then
   bif inb t13 (List.length s2) then
    bif sNe (nth eS s1 t13) (nth eS s2 t13) then
     k1 ()
    else
     rec (wi64 (t13 + 1))
   else none
  else none
 else
  k0 ()
def slices_Equal_string_l0_s (s1 : List ByteArray) (s2 : List ByteArray) (t12 : Int) : Int → (Int → Res) → ((Unit → Res) × (Unit → Res)) → Res := fun v rec q => slices_Equal_string_l0_r s1 s2 t12 v (fun t13 => rec (t13)) q.1 q.2
def slices_Equal_string_l0 (s1 : List ByteArray) (s2 : List ByteArray) (t12 : Int) (n : Nat) (t13 : Int) (k0 : Unit → Res) (k1 : Unit → Res) : Res := iter (slices_Equal_string_l0_s s1 s2 t12) n (t13) (k0, k1)
def xslices_Equal_string_l0 : Node Unit := fun σ k => rdN σ 26 <| rdV σ 0 y8 false [.S] fun s1 => rdV σ 1 y8 false [.S] fun s2 => rdV σ 12 (.int .i64) false [] fun t12 => rdV σ 13 (.int .i64) false [] fun t13 => slices_Equal_string_l0 s1 s2 t12 FUEL t13 (fun (_ : Unit) => k (.exit 0) (mkS 26 26 [] [])) (fun (_ : Unit) => k .ret (mkS 26 26 [(4, .val ⟨.bool, false, false, []⟩)] []))
theorem eslices_Equal_string_l0 (s1 : List ByteArray) (s2 : List ByteArray) (t12 : Int) (n : Nat) (v : Int) (k : Kont Unit) : loopC (codeC g_slices_Equal_string [] .o (Code.pl (Code.pl (Code.pr (Code.pl (Code.pr (Code.pr c_slices_Equal_string))))))) (fun σ => σ.forget [0, 1, 12, 13] []) (cutC ([], []) [(0, [], [])] ([4], [])) n (mkS 26 26 [(0, .val ⟨y8, false, s1, [.S]⟩), (1, .val ⟨y8, false, s2, [.S]⟩), (12, .val ⟨(.int .i64), false, t12, []⟩), (13, .val ⟨(.int .i64), false, v, []⟩)] []) k = iter (slices_Equal_string_l0_s s1 s2 t12) n v ((fun (k : Kont Unit) => (((fun (_ : Unit) => k (.exit 0) (mkS 26 26 [] [])), (fun (_ : Unit) => k .ret (mkS 26 26 [(4, .val ⟨.bool, false, false, []⟩)] []))) : (Unit → Res) × (Unit → Res))) k) := loop_eq (fun v : Int => (mkS 26 26 [(0, .val ⟨y8, false, s1, [.S]⟩), (1, .val ⟨y8, false, s2, [.S]⟩), (12, .val ⟨(.int .i64), false, t12, []⟩), (13, .val ⟨(.int .i64), false, v, []⟩)] [])) (slices_Equal_string_l0_s s1 s2 t12) (fun (k : Kont Unit) => (((fun (_ : Unit) => k (.exit 0) (mkS 26 26 [] [])), (fun (_ : Unit) => k .ret (mkS 26 26 [(4, .val ⟨.bool, false, false, []⟩)] []))) : (Unit → Res) × (Unit → Res))) (fun v rec k => by kernel_rfl) n v k
theorem oslices_Equal_string_l0 {W0 : Base} {M : Nat → Prop} (hnp : W0.np ≤ 0) : CodeOk Try.prog W0 M (Code.pl (Code.pr (Code.pl (Code.pr (Code.pr c_slices_Equal_string))))) xslices_Equal_string_l0 := show CodeOk Try.prog W0 M (Code.loop (Code.pl (Code.pl (Code.pr (Code.pl (Code.pr (Code.pr c_slices_Equal_string))))))) xslices_Equal_string_l0 from loop_ok (code_sound follows tysOk (calls_ok fns_nil) hnp [] (Code.pl (Code.pl (Code.pr (Code.pl (Code.pr (Code.pr c_slices_Equal_string)))))) .o trivial) (ks := [0, 1, 12, 13]) (bs := []) (fX := (cutC ([], []) [(0, [], [])] ([4], []))) (cutC_le _ _ _) FUEL (by
 intro σ k r h
 obtain ⟨hn, h1⟩ := rdN_some h
 obtain ⟨s1, hs0, h2⟩ := rdV_some h1
 obtain ⟨s2, hs1, h3⟩ := rdV_some h2
 obtain ⟨t12, hs12, h4⟩ := rdV_some h3
 obtain ⟨t13, hs13, h5⟩ := rdV_some h4
 refine ⟨_, ?_, (eslices_Equal_string_l0 s1 s2 t12 FUEL (t13) k).trans h5⟩
 exact mkS_le hn ⟨hs0, hs1, hs12, hs13, trivial⟩ trivial)
def slices_Equal_string (s1 : List ByteArray) (s2 : List ByteArray) (k0 : Bool → Res) : Res :=
 bif ((nI (List.length s1)) != (nI (List.length s2))) then
  k0 false
 else
  slices_Equal_string_l0 s1 s2 (nI (List.length s1)) FUEL 0
   (fun (_ : Unit) =>
    k0 true)
   (fun (_ : Unit) =>
    k0 false)
def s_slices_Equal_string : Sig Unit := ⟨[.look y8 false, .look y8 false], [false], fun vals ext k => av vals y8 fun s1 vals => av vals y8 fun s2 vals => nl vals <| nl ext <| slices_Equal_string s1 s2 (fun (r0 : Bool) => k [⟨.bool, false, r0, []⟩] [] [])⟩
theorem E_slices_Equal_string (s1 : List ByteArray) (a_s1 : Bool) (t_s1 : List Tag) (s2 : List ByteArray) (a_s2 : Bool) (t_s2 : List Tag) (k : qK) : funC g_slices_Equal_string [xslices_Equal_string_l0] (.t .o (.t .o (.t (.t .o (.t (.x 0) .o)) .o))) false Try.f151 [.look y8 false, .look y8 false] [false] [⟨y8, a_s1, s1, t_s1⟩, ⟨y8, a_s2, s2, t_s2⟩] [] k = slices_Equal_string s1 s2 (fun (r0 : Bool) => k [⟨.bool, false, r0, []⟩] [] []) := by kernel_rfl
theorem S_slices_Equal_string : Sound Try.prog 151 s_slices_Equal_string := sound_of (Γ := g_slices_Equal_string) (X := [xslices_Equal_string_l0]) (ht := (.t .o (.t .o (.t (.t .o (.t (.x 0) .o)) .o)))) (fz := false) (c := c_slices_Equal_string) follows tysOk fns_nil (OrOk.mk trivial ((OrOk.mk trivial ((OrOk.mk ((OrOk.mk trivial ((OrOk.mk (OrOk.x_mk (fun W0 M hnp => oslices_Equal_string_l0 (W0 := W0) (M := M) hnp)) trivial)))) trivial))))) Try.func151 (by kernel_rfl) (by kernel_rfl) (by decide) (by
 intro vals ext k r h
 obtain ⟨s1, a_s1, t_s1, vals, rfl, h1⟩ := av_some h
 obtain ⟨s2, a_s2, t_s2, vals, rfl, h2⟩ := av_some h1
 obtain ⟨rfl, h3⟩ := nl_some h2
 obtain ⟨rfl, h4⟩ := nl_some h3
 exact (E_slices_Equal_string s1 a_s1 t_s1 s2 a_s2 t_s2 k).trans h4)
end Go.PI.G
end
