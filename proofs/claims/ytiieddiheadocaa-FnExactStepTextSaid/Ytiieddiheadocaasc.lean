/-
  Printed texts and plain laws. No conditions.
-/
import Derived.Test.Ytiieddiheadocaasa
import Derived.Test.Ytiieddiheadocaasb
set_option linter.unusedVariables false
set_option maxRecDepth 100000
noncomputable section
namespace Go.PI.G
open Go Go.PI Go.Proofs

/-! ### 188 loop.example/g00462/spec.ColOk -/
def c_spec_ColOk : Code := (Try.f188.body).getD .skip
def g_spec_ColOk : Env Unit := ⟨tys, [(82, s_spec_WordOk), (186, s_spec_ValOk)], 0⟩
def spec_ColOk (c : ByteArray × Int × Bool × Bool × Int × Int × ByteArray) (k0 : Bool → Res) : Res :=
 spec_WordOk c.1 fun (r : Bool) =>
  bif !r then
   k0 false
  else
   bif decide (c.2.1 < 1) then
    k0 false
   else
    bif decide (c.2.1 > 3) then
     k0 false
    else
     bif !c.2.2.2.1 then
      k0 ((c.2.2.2.2.1 == 0) && ((c.2.2.2.2.2.1 == 0) && (sEq c.2.2.2.2.2.2 eS)))
     else
      spec_ValOk c.2.2.2.2 fun (r1 : Bool) =>
       bif r1 then
        bif ((c.2.2.2.2.1 == 0) && ((c.2.2.2.2.2.1 == 0) && (sEq c.2.2.2.2.2.2 eS))) then
         bif ((c.2.2.2.2.1 == 0) && ((c.2.2.2.2.2.1 == 0) && (sEq c.2.2.2.2.2.2 eS))) then
          k0 (!c.2.2.1)
         else
          k0 true
        else
         bif (c.2.2.2.2.1 == c.2.1) then
          bif ((c.2.2.2.2.1 == 0) && ((c.2.2.2.2.2.1 == 0) && (sEq c.2.2.2.2.2.2 eS))) then
           k0 (!c.2.2.1)
          else
           k0 true
         else
          k0 false
       else
        k0 false
def s_spec_ColOk : Sig Unit := ⟨[.look y6 true], [false], fun vals ext k => av vals y6 fun c vals => nl vals <| nl ext <| spec_ColOk c (fun (r0 : Bool) => k [⟨.bool, false, r0, []⟩] [] [])⟩
theorem E_spec_ColOk (c : ByteArray × Int × Bool × Bool × Int × Int × ByteArray) (a_c : Bool) (t_c : List Tag) (k : qK) : funC g_spec_ColOk [] .o false Try.f188 [.look y6 true] [false] [⟨y6, a_c, c, t_c⟩] [] k = spec_ColOk c (fun (r0 : Bool) => k [⟨.bool, false, r0, []⟩] [] []) := by kernel_rfl
theorem S_spec_ColOk : Sound Try.prog 188 s_spec_ColOk := sound_of (Γ := g_spec_ColOk) (X := []) (ht := .o) (fz := false) (c := c_spec_ColOk) follows tysOk (fns_cons S_spec_WordOk (fns_cons S_spec_ValOk fns_nil)) trivial Try.func188 (by kernel_rfl) (by kernel_rfl) (by decide) (by
 intro vals ext k r h
 obtain ⟨c, a_c, t_c, vals, rfl, h1⟩ := av_some h
 obtain ⟨rfl, h2⟩ := nl_some h1
 obtain ⟨rfl, h3⟩ := nl_some h2
 exact (E_spec_ColOk c a_c t_c k).trans h3)

/-! ### 211 loop.example/g00462/spec.ColAt -/
def c_spec_ColAt : Code := (Try.f211.body).getD .skip
def g_spec_ColAt : Env Unit := ⟨tys, [], 0⟩
def spec_ColAt_l0_r (name : ByteArray) (t8 : List qC) (t9 : Int) (t10 : Int) (rec : Int → Res) (k0 : Unit → Res) (k1 : Int → Res) : Res :=
 bif decide (t10 < t9) then
  bif inb t10 (List.length t8) then
   bif sEq (nth (eS, 0, false, false, 0, 0, eS) t8 t10).1 name then
    k1 t10
   else
    rec (wi64 (t10 + 1))
  else none
 else
  k0 ()
def spec_ColAt_l0_s (name : ByteArray) (t8 : List qC) (t9 : Int) : Int → (Int → Res) → ((Unit → Res) × (Int → Res)) → Res := fun v rec q => spec_ColAt_l0_r name t8 t9 v (fun t10 => rec (t10)) q.1 q.2
def spec_ColAt_l0 (name : ByteArray) (t8 : List qC) (t9 : Int) (n : Nat) (t10 : Int) (k0 : Unit → Res) (k1 : Int → Res) : Res := iter (spec_ColAt_l0_s name t8 t9) n (t10) (k0, k1)
def xspec_ColAt_l0 : Node Unit := fun σ k => rdN σ 21 <| rdV σ 1 .str false [] fun name => rdV σ 8 y7 false [.S] fun t8 => rdV σ 9 (.int .i64) false [] fun t9 => rdV σ 10 (.int .i64) false [] fun t10 => spec_ColAt_l0 name t8 t9 FUEL t10 (fun (_ : Unit) => k (.exit 0) (mkS 21 21 [] [])) (fun (t4 : Int) => k .ret (mkS 21 21 [(4, .val ⟨(.int .i64), false, t4, []⟩)] []))
theorem espec_ColAt_l0 (name : ByteArray) (t8 : List qC) (t9 : Int) (n : Nat) (v : Int) (k : Kont Unit) : loopC (codeC g_spec_ColAt [] .o (Code.pl (Code.pl (Code.pr (Code.pl (Code.pr c_spec_ColAt)))))) (fun σ => σ.forget [1, 8, 9, 10] []) (cutC ([], []) [(0, [], [])] ([4], [])) n (mkS 21 21 [(1, .val ⟨.str, false, name, []⟩), (8, .val ⟨y7, false, t8, [.S]⟩), (9, .val ⟨(.int .i64), false, t9, []⟩), (10, .val ⟨(.int .i64), false, v, []⟩)] []) k = iter (spec_ColAt_l0_s name t8 t9) n v ((fun (k : Kont Unit) => (((fun (_ : Unit) => k (.exit 0) (mkS 21 21 [] [])), (fun (t4 : Int) => k .ret (mkS 21 21 [(4, .val ⟨(.int .i64), false, t4, []⟩)] []))) : (Unit → Res) × (Int → Res))) k) := loop_eq (fun v : Int => (mkS 21 21 [(1, .val ⟨.str, false, name, []⟩), (8, .val ⟨y7, false, t8, [.S]⟩), (9, .val ⟨(.int .i64), false, t9, []⟩), (10, .val ⟨(.int .i64), false, v, []⟩)] [])) (spec_ColAt_l0_s name t8 t9) (fun (k : Kont Unit) => (((fun (_ : Unit) => k (.exit 0) (mkS 21 21 [] [])), (fun (t4 : Int) => k .ret (mkS 21 21 [(4, .val ⟨(.int .i64), false, t4, []⟩)] []))) : (Unit → Res) × (Int → Res))) (fun v rec k => by kernel_rfl) n v k
theorem ospec_ColAt_l0 {W0 : Base} {M : Nat → Prop} (hnp : W0.np ≤ 0) : CodeOk Try.prog W0 M (Code.pl (Code.pr (Code.pl (Code.pr c_spec_ColAt)))) xspec_ColAt_l0 := show CodeOk Try.prog W0 M (Code.loop (Code.pl (Code.pl (Code.pr (Code.pl (Code.pr c_spec_ColAt)))))) xspec_ColAt_l0 from loop_ok (code_sound follows tysOk (calls_ok fns_nil) hnp [] (Code.pl (Code.pl (Code.pr (Code.pl (Code.pr c_spec_ColAt))))) .o trivial) (ks := [1, 8, 9, 10]) (bs := []) (fX := (cutC ([], []) [(0, [], [])] ([4], []))) (cutC_le _ _ _) FUEL (by
 intro σ k r h
 obtain ⟨hn, h1⟩ := rdN_some h
 obtain ⟨name, hs1, h2⟩ := rdV_some h1
 obtain ⟨t8, hs8, h3⟩ := rdV_some h2
 obtain ⟨t9, hs9, h4⟩ := rdV_some h3
 obtain ⟨t10, hs10, h5⟩ := rdV_some h4
 refine ⟨_, ?_, (espec_ColAt_l0 name t8 t9 FUEL (t10) k).trans h5⟩
 exact mkS_le hn ⟨hs1, hs8, hs9, hs10, trivial⟩ trivial)
def spec_ColAt (t : ByteArray × qE × List ByteArray) (name : ByteArray) (k0 : Int → Res) : Res :=
 spec_ColAt_l0 name t.2.1 (nI (List.length t.2.1)) FUEL 0
  (fun (_ : Unit) =>
   k0 (-1))
  (fun (t1 : Int) =>
   k0 t1)
def s_spec_ColAt : Sig Unit := ⟨[.look y27 true, .look .str false], [false], fun vals ext k => av vals y27 fun t vals => av vals .str fun name vals => nl vals <| nl ext <| spec_ColAt t name (fun (r0 : Int) => k [⟨(.int .i64), false, r0, []⟩] [] [])⟩
theorem E_spec_ColAt (t : ByteArray × qE × List ByteArray) (a_t : Bool) (t_t : List Tag) (name : ByteArray) (a_name : Bool) (t_name : List Tag) (k : qK) : funC g_spec_ColAt [xspec_ColAt_l0] (.t .o (.t (.t .o (.t (.x 0) .o)) .o)) false Try.f211 [.look y27 true, .look .str false] [false] [⟨y27, a_t, t, t_t⟩, ⟨.str, a_name, name, t_name⟩] [] k = spec_ColAt t name (fun (r0 : Int) => k [⟨(.int .i64), false, r0, []⟩] [] []) := by kernel_rfl
theorem S_spec_ColAt : Sound Try.prog 211 s_spec_ColAt := sound_of (Γ := g_spec_ColAt) (X := [xspec_ColAt_l0]) (ht := (.t .o (.t (.t .o (.t (.x 0) .o)) .o))) (fz := false) (c := c_spec_ColAt) follows tysOk fns_nil (OrOk.mk trivial ((OrOk.mk ((OrOk.mk trivial ((OrOk.mk (OrOk.x_mk (fun W0 M hnp => ospec_ColAt_l0 (W0 := W0) (M := M) hnp)) trivial)))) trivial))) Try.func211 (by kernel_rfl) (by kernel_rfl) (by decide) (by
 intro vals ext k r h
 obtain ⟨t, a_t, t_t, vals, rfl, h1⟩ := av_some h
 obtain ⟨name, a_name, t_name, vals, rfl, h2⟩ := av_some h1
 obtain ⟨rfl, h3⟩ := nl_some h2
 obtain ⟨rfl, h4⟩ := nl_some h3
 exact (E_spec_ColAt t a_t t_t name a_name t_name k).trans h4)

/-! ### 187 loop.example/g00462/spec.TableOk -/
def c_spec_TableOk : Code := (Try.f187.body).getD .skip
def g_spec_TableOk : Env Unit := ⟨tys, [(82, s_spec_WordOk), (188, s_spec_ColOk), (211, s_spec_ColAt)], 0⟩
def spec_TableOk_p0 (t : ByteArray × qE × List ByteArray) (k0 : Bool → Res) : Res :=
 spec_WordOk t.1 fun (r : Bool) =>
  bif !r then
   k0 true
  else
   bif decide ((nI (List.length t.2.1)) < 1) then
    k0 true
   else
    bif decide ((nI (List.length t.2.1)) > 8) then
     k0 true
    else
     k0 (decide ((nI (List.length t.2.2)) < 1))
def xspec_TableOk_p0 : Node Unit := fun σ k => rdN σ 75 <| rdT σ 1 (.ptr ⟨true, 1, []⟩) <| rdB σ 1 y27 [.S, .S] fun a t => spec_TableOk_p0 t (fun (t30 : Bool) => k .normal (mkS 75 75 [(1, .ptr ⟨true, 1, []⟩), (30, .val ⟨.bool, false, t30, []⟩)] [(1, ⟨y27, a, t, [.S, .S]⟩)]))
theorem espec_TableOk_p0 (a : Bool) (t : ByteArray × qE × List ByteArray) (k : Kont Unit) : codeC g_spec_TableOk [] .o (Code.pl (Code.pl (Code.pr c_spec_TableOk))) (mkS 75 75 [(1, .ptr ⟨true, 1, []⟩)] [(1, ⟨y27, a, t, [.S, .S]⟩)]) (fun e σ => k e ((cutC ([1, 30], [1]) [] ([], [])) e σ)) = spec_TableOk_p0 t (fun (t30 : Bool) => k .normal (mkS 75 75 [(1, .ptr ⟨true, 1, []⟩), (30, .val ⟨.bool, false, t30, []⟩)] [(1, ⟨y27, a, t, [.S, .S]⟩)])) := by kernel_rfl
theorem ospec_TableOk_p0 {W0 : Base} {M : Nat → Prop} (hnp : W0.np ≤ 0) : CodeOk Try.prog W0 M (Code.pl (Code.pl (Code.pr c_spec_TableOk))) xspec_TableOk_p0 := node_ok (code_sound follows tysOk (calls_ok (fns_cons S_spec_WordOk (fns_cons S_spec_ColOk (fns_cons S_spec_ColAt fns_nil)))) hnp [] ((Code.pl (Code.pl (Code.pr c_spec_TableOk)))) .o trivial) (fg := (cutC ([1, 30], [1]) [] ([], []))) (cutC_le _ _ _) (by
 intro σ k r h
 obtain ⟨hn, h1⟩ := rdN_some h
 obtain ⟨hs1, h2⟩ := rdT_some h1
 obtain ⟨a, t, hb1, h3⟩ := rdB_some h2
 refine ⟨_, ?_, (espec_TableOk_p0 a t k).trans h3⟩
 exact mkS_le hn ⟨hs1, trivial⟩ ⟨hb1, trivial⟩)
def spec_TableOk_l1_r (t32 : List qC) (t33 : Int) (t : ByteArray × qE × List ByteArray) (t34 : Int) (rec : Int → Res) (k0 : Unit → Res) (k1 : Unit → Res) : Res :=
 bif decide (t34 < t33) then
  bif inb t34 (List.length t32) then
   spec_ColOk (nth (eS, 0, false, false, 0, 0, eS) t32 t34) fun (r : Bool) =>
    bif !r then
     k1 ()
    else
     spec_ColAt t (nth (eS, 0, false, false, 0, 0, eS) t32 t34).1 fun (r1 : Int) =>
      bif (r1 != t34) then
       k1 ()
      else
       rec (wi64 (t34 + 1))
  else none
 else
  k0 ()
def spec_TableOk_l1_s (t32 : List qC) (t33 : Int) (t : ByteArray × qE × List ByteArray) : Int → (Int → Res) → ((Unit → Res) × (Unit → Res)) → Res := fun v rec q => spec_TableOk_l1_r t32 t33 t v (fun t34 => rec (t34)) q.1 q.2
def spec_TableOk_l1 (t32 : List qC) (t33 : Int) (t : ByteArray × qE × List ByteArray) (n : Nat) (t34 : Int) (k0 : Unit → Res) (k1 : Unit → Res) : Res := iter (spec_TableOk_l1_s t32 t33 t) n (t34) (k0, k1)
def xspec_TableOk_l1 : Node Unit := fun σ k => rdN σ 75 <| rdT σ 1 (.ptr ⟨true, 1, []⟩) <| rdV σ 32 y7 false [.S] fun t32 => rdV σ 33 (.int .i64) false [] fun t33 => rdV σ 34 (.int .i64) false [] fun t34 => rdB σ 1 y27 [.S, .S] fun a t => spec_TableOk_l1 t32 t33 t FUEL t34 (fun (_ : Unit) => k (.exit 0) (mkS 75 75 [(1, .ptr ⟨true, 1, []⟩)] [(1, ⟨y27, a, t, [.S, .S]⟩)])) (fun (_ : Unit) => k .ret (mkS 75 75 [(2, .val ⟨.bool, false, false, []⟩)] []))
theorem espec_TableOk_l1 (t32 : List qC) (t33 : Int) (a : Bool) (t : ByteArray × qE × List ByteArray) (n : Nat) (v : Int) (k : Kont Unit) : loopC (codeC g_spec_TableOk [xspec_TableOk_p0] .o (Code.pl (Code.pl (Code.pr (Code.pl (Code.pr (Code.pr c_spec_TableOk))))))) (fun σ => σ.forget [1, 32, 33, 34] [1]) (cutC ([], []) [(0, [1], [1])] ([2], [])) n (mkS 75 75 [(1, .ptr ⟨true, 1, []⟩), (32, .val ⟨y7, false, t32, [.S]⟩), (33, .val ⟨(.int .i64), false, t33, []⟩), (34, .val ⟨(.int .i64), false, v, []⟩)] [(1, ⟨y27, a, t, [.S, .S]⟩)]) k = iter (spec_TableOk_l1_s t32 t33 t) n v ((fun (k : Kont Unit) => (((fun (_ : Unit) => k (.exit 0) (mkS 75 75 [(1, .ptr ⟨true, 1, []⟩)] [(1, ⟨y27, a, t, [.S, .S]⟩)])), (fun (_ : Unit) => k .ret (mkS 75 75 [(2, .val ⟨.bool, false, false, []⟩)] []))) : (Unit → Res) × (Unit → Res))) k) := loop_eq (fun v : Int => (mkS 75 75 [(1, .ptr ⟨true, 1, []⟩), (32, .val ⟨y7, false, t32, [.S]⟩), (33, .val ⟨(.int .i64), false, t33, []⟩), (34, .val ⟨(.int .i64), false, v, []⟩)] [(1, ⟨y27, a, t, [.S, .S]⟩)])) (spec_TableOk_l1_s t32 t33 t) (fun (k : Kont Unit) => (((fun (_ : Unit) => k (.exit 0) (mkS 75 75 [(1, .ptr ⟨true, 1, []⟩)] [(1, ⟨y27, a, t, [.S, .S]⟩)])), (fun (_ : Unit) => k .ret (mkS 75 75 [(2, .val ⟨.bool, false, false, []⟩)] []))) : (Unit → Res) × (Unit → Res))) (fun v rec k => by kernel_rfl) n v k
theorem ospec_TableOk_l1 {W0 : Base} {M : Nat → Prop} (hnp : W0.np ≤ 0) : CodeOk Try.prog W0 M (Code.pl (Code.pr (Code.pl (Code.pr (Code.pr c_spec_TableOk))))) xspec_TableOk_l1 := show CodeOk Try.prog W0 M (Code.loop (Code.pl (Code.pl (Code.pr (Code.pl (Code.pr (Code.pr c_spec_TableOk))))))) xspec_TableOk_l1 from loop_ok (code_sound follows tysOk (calls_ok (fns_cons S_spec_WordOk (fns_cons S_spec_ColOk (fns_cons S_spec_ColAt fns_nil)))) hnp [xspec_TableOk_p0] (Code.pl (Code.pl (Code.pr (Code.pl (Code.pr (Code.pr c_spec_TableOk)))))) .o trivial) (ks := [1, 32, 33, 34]) (bs := [1]) (fX := (cutC ([], []) [(0, [1], [1])] ([2], []))) (cutC_le _ _ _) FUEL (by
 intro σ k r h
 obtain ⟨hn, h1⟩ := rdN_some h
 obtain ⟨hs1, h2⟩ := rdT_some h1
 obtain ⟨t32, hs32, h3⟩ := rdV_some h2
 obtain ⟨t33, hs33, h4⟩ := rdV_some h3
 obtain ⟨t34, hs34, h5⟩ := rdV_some h4
 obtain ⟨a, t, hb1, h6⟩ := rdB_some h5
 refine ⟨_, ?_, (espec_TableOk_l1 t32 t33 a t FUEL (t34) k).trans h6⟩
 exact mkS_le hn ⟨hs1, hs32, hs33, hs34, trivial⟩ ⟨hb1, trivial⟩)
def spec_TableOk_l2_r (t52 : List ByteArray) (t53 : Int) (t : ByteArray × qE × List ByteArray) (last : Int) (t54 : Int) (rec : Int → Int → Res) (k0 : Unit → Res) (k1 : Unit → Res) : Res :=
 bif decide (t54 < t53) then
  bif inb t54 (List.length t52) then
   spec_ColAt t (nth eS t52 t54) fun (r : Int) =>
    bif decide (r ≤ last) then
     k1 ()
    else
     bif inb r (List.length t.2.1) then
      bif !(nth (eS, 0, false, false, 0, 0, eS) t.2.1 r).2.2.1 then
       k1 ()
      else
       rec r (wi64 (t54 + 1))
     else none
  else none
 else
  k0 ()
def spec_TableOk_l2_s (t52 : List ByteArray) (t53 : Int) (t : ByteArray × qE × List ByteArray) : (Int × Int) → (Int × Int → Res) → ((Unit → Res) × (Unit → Res)) → Res := fun v rec q => spec_TableOk_l2_r t52 t53 t v.1 v.2 (fun last t54 => rec (last, t54)) q.1 q.2
def spec_TableOk_l2 (t52 : List ByteArray) (t53 : Int) (t : ByteArray × qE × List ByteArray) (n : Nat) (last : Int) (t54 : Int) (k0 : Unit → Res) (k1 : Unit → Res) : Res := iter (spec_TableOk_l2_s t52 t53 t) n (last, t54) (k0, k1)
def xspec_TableOk_l2 : Node Unit := fun σ k => rdN σ 75 <| rdT σ 1 (.ptr ⟨true, 1, []⟩) <| rdV σ 5 (.int .i64) false [] fun last => rdV σ 52 y8 false [.S] fun t52 => rdV σ 53 (.int .i64) false [] fun t53 => rdV σ 54 (.int .i64) false [] fun t54 => rdB σ 1 y27 [.S, .S] fun a t => spec_TableOk_l2 t52 t53 t FUEL last t54 (fun (_ : Unit) => k (.exit 2) (mkS 75 75 [] [])) (fun (_ : Unit) => k .ret (mkS 75 75 [(2, .val ⟨.bool, false, false, []⟩)] []))
theorem espec_TableOk_l2 (t52 : List ByteArray) (t53 : Int) (a : Bool) (t : ByteArray × qE × List ByteArray) (n : Nat) (v : Int × Int) (k : Kont Unit) : loopC (codeC g_spec_TableOk [xspec_TableOk_p0, xspec_TableOk_l1] .o (Code.pl (Code.pl (Code.pr (Code.pl (Code.pr (Code.pr (Code.pr (Code.pr c_spec_TableOk))))))))) (fun σ => σ.forget [1, 5, 52, 53, 54] [1]) (cutC ([], []) [(2, [], [])] ([2], [])) n (mkS 75 75 [(1, .ptr ⟨true, 1, []⟩), (5, .val ⟨(.int .i64), false, v.1, []⟩), (52, .val ⟨y8, false, t52, [.S]⟩), (53, .val ⟨(.int .i64), false, t53, []⟩), (54, .val ⟨(.int .i64), false, v.2, []⟩)] [(1, ⟨y27, a, t, [.S, .S]⟩)]) k = iter (spec_TableOk_l2_s t52 t53 t) n v ((fun (k : Kont Unit) => (((fun (_ : Unit) => k (.exit 2) (mkS 75 75 [] [])), (fun (_ : Unit) => k .ret (mkS 75 75 [(2, .val ⟨.bool, false, false, []⟩)] []))) : (Unit → Res) × (Unit → Res))) k) := loop_eq (fun v : Int × Int => (mkS 75 75 [(1, .ptr ⟨true, 1, []⟩), (5, .val ⟨(.int .i64), false, v.1, []⟩), (52, .val ⟨y8, false, t52, [.S]⟩), (53, .val ⟨(.int .i64), false, t53, []⟩), (54, .val ⟨(.int .i64), false, v.2, []⟩)] [(1, ⟨y27, a, t, [.S, .S]⟩)])) (spec_TableOk_l2_s t52 t53 t) (fun (k : Kont Unit) => (((fun (_ : Unit) => k (.exit 2) (mkS 75 75 [] [])), (fun (_ : Unit) => k .ret (mkS 75 75 [(2, .val ⟨.bool, false, false, []⟩)] []))) : (Unit → Res) × (Unit → Res))) (fun v rec k => by kernel_rfl) n v k
theorem ospec_TableOk_l2 {W0 : Base} {M : Nat → Prop} (hnp : W0.np ≤ 0) : CodeOk Try.prog W0 M (Code.pl (Code.pr (Code.pl (Code.pr (Code.pr (Code.pr (Code.pr c_spec_TableOk))))))) xspec_TableOk_l2 := show CodeOk Try.prog W0 M (Code.loop (Code.pl (Code.pl (Code.pr (Code.pl (Code.pr (Code.pr (Code.pr (Code.pr c_spec_TableOk))))))))) xspec_TableOk_l2 from loop_ok (code_sound follows tysOk (calls_ok (fns_cons S_spec_WordOk (fns_cons S_spec_ColOk (fns_cons S_spec_ColAt fns_nil)))) hnp [xspec_TableOk_p0, xspec_TableOk_l1] (Code.pl (Code.pl (Code.pr (Code.pl (Code.pr (Code.pr (Code.pr (Code.pr c_spec_TableOk)))))))) .o trivial) (ks := [1, 5, 52, 53, 54]) (bs := [1]) (fX := (cutC ([], []) [(2, [], [])] ([2], []))) (cutC_le _ _ _) FUEL (by
 intro σ k r h
 obtain ⟨hn, h1⟩ := rdN_some h
 obtain ⟨hs1, h2⟩ := rdT_some h1
 obtain ⟨last, hs5, h3⟩ := rdV_some h2
 obtain ⟨t52, hs52, h4⟩ := rdV_some h3
 obtain ⟨t53, hs53, h5⟩ := rdV_some h4
 obtain ⟨t54, hs54, h6⟩ := rdV_some h5
 obtain ⟨a, t, hb1, h7⟩ := rdB_some h6
 refine ⟨_, ?_, (espec_TableOk_l2 t52 t53 a t FUEL (last, t54) k).trans h7⟩
 exact mkS_le hn ⟨hs1, hs5, hs52, hs53, hs54, trivial⟩ ⟨hb1, trivial⟩)
def spec_TableOk (t : ByteArray × qE × List ByteArray) (k0 : Bool → Res) : Res :=
 spec_TableOk_p0 t fun (t1 : Bool) =>
  bif t1 then
   k0 false
  else
   spec_TableOk_l1 t.2.1 (nI (List.length t.2.1)) t FUEL 0
    (fun (_ : Unit) =>
     spec_TableOk_l2 t.2.2 (nI (List.length t.2.2)) t FUEL (-1) 0
      (fun (_ : Unit) =>
       k0 true)
      (fun (_ : Unit) =>
       k0 false))
    (fun (_ : Unit) =>
     k0 false)
def s_spec_TableOk : Sig Unit := ⟨[.look y27 true], [false], fun vals ext k => av vals y27 fun t vals => nl vals <| nl ext <| spec_TableOk t (fun (r0 : Bool) => k [⟨.bool, false, r0, []⟩] [] [])⟩
theorem E_spec_TableOk (t : ByteArray × qE × List ByteArray) (a_t : Bool) (t_t : List Tag) (k : qK) : funC g_spec_TableOk [xspec_TableOk_p0, xspec_TableOk_l1, xspec_TableOk_l2] (.t .o (.t (.t (.x 0) .o) (.t (.t .o (.t (.x 1) .o)) (.t .o (.t (.t .o (.t (.x 2) .o)) .o))))) false Try.f187 [.look y27 true] [false] [⟨y27, a_t, t, t_t⟩] [] k = spec_TableOk t (fun (r0 : Bool) => k [⟨.bool, false, r0, []⟩] [] []) := by kernel_rfl
theorem S_spec_TableOk : Sound Try.prog 187 s_spec_TableOk := sound_of (Γ := g_spec_TableOk) (X := [xspec_TableOk_p0, xspec_TableOk_l1, xspec_TableOk_l2]) (ht := (.t .o (.t (.t (.x 0) .o) (.t (.t .o (.t (.x 1) .o)) (.t .o (.t (.t .o (.t (.x 2) .o)) .o)))))) (fz := false) (c := c_spec_TableOk) follows tysOk (fns_cons S_spec_WordOk (fns_cons S_spec_ColOk (fns_cons S_spec_ColAt fns_nil))) (OrOk.mk trivial ((OrOk.mk ((OrOk.mk (OrOk.x_mk (fun W0 M hnp => ospec_TableOk_p0 (W0 := W0) (M := M) hnp)) trivial)) ((OrOk.mk ((OrOk.mk trivial ((OrOk.mk (OrOk.x_mk (fun W0 M hnp => ospec_TableOk_l1 (W0 := W0) (M := M) hnp)) trivial)))) ((OrOk.mk trivial ((OrOk.mk ((OrOk.mk trivial ((OrOk.mk (OrOk.x_mk (fun W0 M hnp => ospec_TableOk_l2 (W0 := W0) (M := M) hnp)) trivial)))) trivial))))))))) Try.func187 (by kernel_rfl) (by kernel_rfl) (by decide) (by
 intro vals ext k r h
 obtain ⟨t, a_t, t_t, vals, rfl, h1⟩ := av_some h
 obtain ⟨rfl, h2⟩ := nl_some h1
 obtain ⟨rfl, h3⟩ := nl_some h2
 exact (E_spec_TableOk t a_t t_t k).trans h3)

/-! ### 153 loop.example/g00462/spec.DdlOk -/
def c_spec_DdlOk : Code := (Try.f153.body).getD .skip
def g_spec_DdlOk : Env Unit := ⟨tys, [(82, s_spec_WordOk), (187, s_spec_TableOk), (188, s_spec_ColOk)], 0⟩
def spec_DdlOk_p0 (d : Int × ByteArray × qE × List ByteArray × ByteArray × ByteArray) (k0 : Bool → Res) : Res :=
 bif ((nI (List.length d.2.2.1)) == 0) then
  k0 ((nI (List.length d.2.2.2.1)) == 0)
 else
  k0 false
def xspec_DdlOk_p0 : Node Unit := fun σ k => rdN σ 123 <| rdT σ 1 (.ptr ⟨true, 1, []⟩) <| rdB σ 1 y13 [.S, .S] fun a d => spec_DdlOk_p0 d (fun (plain : Bool) => k .normal (mkS 123 123 [(1, .ptr ⟨true, 1, []⟩), (3, .val ⟨.bool, false, plain, []⟩)] [(1, ⟨y13, a, d, [.S, .S]⟩)]))
theorem espec_DdlOk_p0 (a : Bool) (d : Int × ByteArray × qE × List ByteArray × ByteArray × ByteArray) (k : Kont Unit) : codeC g_spec_DdlOk [] .o (Code.pl (Code.pr (Code.pr c_spec_DdlOk))) (mkS 123 123 [(1, .ptr ⟨true, 1, []⟩)] [(1, ⟨y13, a, d, [.S, .S]⟩)]) (fun e σ => k e ((cutC ([1, 3], [1]) [] ([], [])) e σ)) = spec_DdlOk_p0 d (fun (plain : Bool) => k .normal (mkS 123 123 [(1, .ptr ⟨true, 1, []⟩), (3, .val ⟨.bool, false, plain, []⟩)] [(1, ⟨y13, a, d, [.S, .S]⟩)])) := by kernel_rfl
theorem ospec_DdlOk_p0 {W0 : Base} {M : Nat → Prop} (hnp : W0.np ≤ 0) : CodeOk Try.prog W0 M (Code.pl (Code.pr (Code.pr c_spec_DdlOk))) xspec_DdlOk_p0 := node_ok (code_sound follows tysOk (calls_ok (fns_cons S_spec_WordOk (fns_cons S_spec_TableOk (fns_cons S_spec_ColOk fns_nil)))) hnp [] ((Code.pl (Code.pr (Code.pr c_spec_DdlOk)))) .o trivial) (fg := (cutC ([1, 3], [1]) [] ([], []))) (cutC_le _ _ _) (by
 intro σ k r h
 obtain ⟨hn, h1⟩ := rdN_some h
 obtain ⟨hs1, h2⟩ := rdT_some h1
 obtain ⟨a, d, hb1, h3⟩ := rdB_some h2
 refine ⟨_, ?_, (espec_DdlOk_p0 a d k).trans h3⟩
 exact mkS_le hn ⟨hs1, trivial⟩ ⟨hb1, trivial⟩)
def spec_DdlOk (d : Int × ByteArray × qE × List ByteArray × ByteArray × ByteArray) (k0 : Bool → Res) : Res :=
 spec_WordOk d.2.1 fun (r : Bool) =>
  bif !r then
   k0 false
  else
   spec_DdlOk_p0 d fun (plain : Bool) =>
    bif (d.1 == 1) then
     bif sEq d.2.2.2.2.1 eS then
      bif sEq d.2.2.2.2.2 eS then
       spec_TableOk (d.2.1, d.2.2.1, d.2.2.2.1) fun (r1 : Bool) =>
        k0 r1
      else
       k0 false
     else
      k0 false
    else
     bif (d.1 == 2) then
      bif plain then
       bif sEq d.2.2.2.2.1 eS then
        k0 (sEq d.2.2.2.2.2 eS)
       else
        k0 false
      else
       k0 false
     else
      bif (d.1 == 3) then
       bif ((nI (List.length d.2.2.1)) == 1) then
        bif inb 0 (List.length d.2.2.1) then
         spec_ColOk (nth (eS, 0, false, false, 0, 0, eS) d.2.2.1 0) fun (r2 : Bool) =>
          bif r2 then
           bif inb 0 (List.length d.2.2.1) then
            bif (nth (eS, 0, false, false, 0, 0, eS) d.2.2.1 0).2.2.2.1 then
             bif ((nI (List.length d.2.2.2.1)) == 0) then
              bif sEq d.2.2.2.2.1 eS then
               k0 (sEq d.2.2.2.2.2 eS)
              else
               k0 false
             else
              k0 false
            else
             bif inb 0 (List.length d.2.2.1) then
              bif !(nth (eS, 0, false, false, 0, 0, eS) d.2.2.1 0).2.2.1 then
               bif ((nI (List.length d.2.2.2.1)) == 0) then
                bif sEq d.2.2.2.2.1 eS then
                 k0 (sEq d.2.2.2.2.2 eS)
                else
                 k0 false
               else
                k0 false
              else
               k0 false
             else none
           else none
          else
           k0 false
        else none
       else
        k0 false
      else
       bif (d.1 == 4) then
        bif plain then
         spec_WordOk d.2.2.2.2.1 fun (r3 : Bool) =>
          bif r3 then
           k0 (sEq d.2.2.2.2.2 eS)
          else
           k0 false
        else
         k0 false
       else
        bif (d.1 == 5) then
         bif plain then
          spec_WordOk d.2.2.2.2.1 fun (r4 : Bool) =>
           bif r4 then
            spec_WordOk d.2.2.2.2.2 fun (r5 : Bool) =>
             k0 r5
           else
            k0 false
         else
          k0 false
        else
         k0 false
def s_spec_DdlOk : Sig Unit := ⟨[.look y13 true], [false], fun vals ext k => av vals y13 fun d vals => nl vals <| nl ext <| spec_DdlOk d (fun (r0 : Bool) => k [⟨.bool, false, r0, []⟩] [] [])⟩
theorem E_spec_DdlOk (d : Int × ByteArray × qE × List ByteArray × ByteArray × ByteArray) (a_d : Bool) (t_d : List Tag) (k : qK) : funC g_spec_DdlOk [xspec_DdlOk_p0] (.t .o (.t .o (.t (.x 0) .o))) false Try.f153 [.look y13 true] [false] [⟨y13, a_d, d, t_d⟩] [] k = spec_DdlOk d (fun (r0 : Bool) => k [⟨.bool, false, r0, []⟩] [] []) := by kernel_rfl
theorem S_spec_DdlOk : Sound Try.prog 153 s_spec_DdlOk := sound_of (Γ := g_spec_DdlOk) (X := [xspec_DdlOk_p0]) (ht := (.t .o (.t .o (.t (.x 0) .o)))) (fz := false) (c := c_spec_DdlOk) follows tysOk (fns_cons S_spec_WordOk (fns_cons S_spec_TableOk (fns_cons S_spec_ColOk fns_nil))) (OrOk.mk trivial ((OrOk.mk trivial ((OrOk.mk (OrOk.x_mk (fun W0 M hnp => ospec_DdlOk_p0 (W0 := W0) (M := M) hnp)) trivial))))) Try.func153 (by kernel_rfl) (by kernel_rfl) (by decide) (by
 intro vals ext k r h
 obtain ⟨d, a_d, t_d, vals, rfl, h1⟩ := av_some h
 obtain ⟨rfl, h2⟩ := nl_some h1
 obtain ⟨rfl, h3⟩ := nl_some h2
 exact (E_spec_DdlOk d a_d t_d k).trans h3)

/-! ### 88 loop.example/g00462/impl.copyTexts -/
def c_impl_copyTexts : Code := (Try.f88.body).getD .skip
def g_impl_copyTexts : Env Unit := ⟨tys, [], 0⟩
def impl_copyTexts (l : List ByteArray) (k0 : (List ByteArray) → Res) : Res :=
 bif lim (0 + (List.length l)) then
  k0 l
 else none
def s_impl_copyTexts : Sig Unit := ⟨[.borrow y8 false], [false], fun vals ext k => av vals y8 fun l vals => nl vals <| nl ext <| impl_copyTexts l (fun (r0 : List ByteArray) => k [⟨y8, false, r0, [.O]⟩] [] [])⟩
theorem E_impl_copyTexts (l : List ByteArray) (a_l : Bool) (t_l : List Tag) (k : qK) : funC g_impl_copyTexts [] .o false Try.f88 [.borrow y8 false] [false] [⟨y8, a_l, l, t_l⟩] [] k = impl_copyTexts l (fun (r0 : List ByteArray) => k [⟨y8, false, r0, [.O]⟩] [] []) := by kernel_rfl
theorem S_impl_copyTexts : Sound Try.prog 88 s_impl_copyTexts := sound_of (Γ := g_impl_copyTexts) (X := []) (ht := .o) (fz := false) (c := c_impl_copyTexts) follows tysOk fns_nil trivial Try.func88 (by kernel_rfl) (by kernel_rfl) (by decide) (by
 intro vals ext k r h
 obtain ⟨l, a_l, t_l, vals, rfl, h1⟩ := av_some h
 obtain ⟨rfl, h2⟩ := nl_some h1
 obtain ⟨rfl, h3⟩ := nl_some h2
 exact (E_impl_copyTexts l a_l t_l k).trans h3)

/-! ### 213 loop.example/g00462/impl.copyTable -/
def c_impl_copyTable : Code := (Try.f213.body).getD .skip
def g_impl_copyTable : Env Unit := ⟨tys, [(88, s_impl_copyTexts)], 0⟩
def impl_copyTable (t : ByteArray × qE × List ByteArray) (k0 : qT → Res) : Res :=
 bif lim (0 + (List.length t.2.1)) then
  impl_copyTexts t.2.2 fun (r : List ByteArray) =>
   k0 (t.1, t.2.1, r)
 else none
def s_impl_copyTable : Sig Unit := ⟨[.borrow y27 true], [true], fun vals ext k => av vals y27 fun t vals => nl vals <| nl ext <| impl_copyTable t (fun (r0 : ByteArray × qE × List ByteArray) => k [⟨y27, true, r0, [.O, .O]⟩] [] [])⟩
theorem E_impl_copyTable (t : ByteArray × qE × List ByteArray) (a_t : Bool) (t_t : List Tag) (k : qK) : funC g_impl_copyTable [] .o false Try.f213 [.borrow y27 true] [true] [⟨y27, a_t, t, t_t⟩] [] k = impl_copyTable t (fun (r0 : ByteArray × qE × List ByteArray) => k [⟨y27, true, r0, [.O, .O]⟩] [] []) := by kernel_rfl
theorem S_impl_copyTable : Sound Try.prog 213 s_impl_copyTable := sound_of (Γ := g_impl_copyTable) (X := []) (ht := .o) (fz := false) (c := c_impl_copyTable) follows tysOk (fns_cons S_impl_copyTexts fns_nil) trivial Try.func213 (by kernel_rfl) (by kernel_rfl) (by decide) (by
 intro vals ext k r h
 obtain ⟨t, a_t, t_t, vals, rfl, h1⟩ := av_some h
 obtain ⟨rfl, h2⟩ := nl_some h1
 obtain ⟨rfl, h3⟩ := nl_some h2
 exact (E_impl_copyTable t a_t t_t k).trans h3)

/-! ### 190 (loop.example/g00462/impl.Ddl).made -/
def c_impl_Ddl_made : Code := (Try.f190.body).getD .skip
def g_impl_Ddl_made : Env Unit := ⟨tys, [(213, s_impl_copyTable)], 0⟩
def impl_Ddl_made (d : Int × ByteArray × qE × List ByteArray × ByteArray × ByteArray) (k0 : qT → Res) : Res :=
 impl_copyTable (d.2.1, d.2.2.1, d.2.2.2.1) fun (r : ByteArray × qE × List ByteArray) =>
  k0 r
def s_impl_Ddl_made : Sig Unit := ⟨[.borrow y13 true], [true], fun vals ext k => av vals y13 fun d vals => nl vals <| nl ext <| impl_Ddl_made d (fun (r0 : ByteArray × qE × List ByteArray) => k [⟨y27, true, r0, [.O, .O]⟩] [] [])⟩
theorem E_impl_Ddl_made (d : Int × ByteArray × qE × List ByteArray × ByteArray × ByteArray) (a_d : Bool) (t_d : List Tag) (k : qK) : funC g_impl_Ddl_made [] .o false Try.f190 [.borrow y13 true] [true] [⟨y13, a_d, d, t_d⟩] [] k = impl_Ddl_made d (fun (r0 : ByteArray × qE × List ByteArray) => k [⟨y27, true, r0, [.O, .O]⟩] [] []) := by kernel_rfl
theorem S_impl_Ddl_made : Sound Try.prog 190 s_impl_Ddl_made := sound_of (Γ := g_impl_Ddl_made) (X := []) (ht := .o) (fz := false) (c := c_impl_Ddl_made) follows tysOk (fns_cons S_impl_copyTable fns_nil) trivial Try.func190 (by kernel_rfl) (by kernel_rfl) (by decide) (by
 intro vals ext k r h
 obtain ⟨d, a_d, t_d, vals, rfl, h1⟩ := av_some h
 obtain ⟨rfl, h2⟩ := nl_some h1
 obtain ⟨rfl, h3⟩ := nl_some h2
 exact (E_impl_Ddl_made d a_d t_d k).trans h3)

/-! ### 191 loop.example/g00462/impl.ColOk -/
def c_impl_ColOk : Code := (Try.f191.body).getD .skip
def g_impl_ColOk : Env Unit := ⟨tys, [(85, s_impl_WordOk), (104, s_impl_within), (194, s_impl_ValOk)], 0⟩
def impl_ColOk (c : ByteArray × Int × Bool × Bool × Int × Int × ByteArray) (k0 : Bool → Res) : Res :=
 impl_WordOk c.1 fun (r : Bool) =>
  bif !r then
   k0 false
  else
   impl_within c.2.1 1 3 fun (r1 : Bool) =>
    bif !r1 then
     k0 false
    else
     impl_ValOk c.2.2.2.2 fun (r2 : Bool) =>
      bif !r2 then
       k0 false
      else
       bif !c.2.2.2.1 then
        k0 ((c.2.2.2.2.1 == 0) && ((c.2.2.2.2.2.1 == 0) && (sEq c.2.2.2.2.2.2 eS)))
       else
        bif (c.2.2.2.2.1 == c.2.1) then
         k0 true
        else
         bif (c.2.2.2.2.1 == 0) then
          k0 (!c.2.2.1)
         else
          k0 false
def s_impl_ColOk : Sig Unit := ⟨[.look y6 true], [false], fun vals ext k => av vals y6 fun c vals => nl vals <| nl ext <| impl_ColOk c (fun (r0 : Bool) => k [⟨.bool, false, r0, []⟩] [] [])⟩
theorem E_impl_ColOk (c : ByteArray × Int × Bool × Bool × Int × Int × ByteArray) (a_c : Bool) (t_c : List Tag) (k : qK) : funC g_impl_ColOk [] .o false Try.f191 [.look y6 true] [false] [⟨y6, a_c, c, t_c⟩] [] k = impl_ColOk c (fun (r0 : Bool) => k [⟨.bool, false, r0, []⟩] [] []) := by kernel_rfl
theorem S_impl_ColOk : Sound Try.prog 191 s_impl_ColOk := sound_of (Γ := g_impl_ColOk) (X := []) (ht := .o) (fz := false) (c := c_impl_ColOk) follows tysOk (fns_cons S_impl_WordOk (fns_cons S_impl_within (fns_cons S_impl_ValOk fns_nil))) trivial Try.func191 (by kernel_rfl) (by kernel_rfl) (by decide) (by
 intro vals ext k r h
 obtain ⟨c, a_c, t_c, vals, rfl, h1⟩ := av_some h
 obtain ⟨rfl, h2⟩ := nl_some h1
 obtain ⟨rfl, h3⟩ := nl_some h2
 exact (E_impl_ColOk c a_c t_c k).trans h3)

/-! ### 220 loop.example/g00462/impl.ColAt$1 -/
def c_impl_ColAt1 : Code := (Try.f220.body).getD .skip
def g_impl_ColAt1 : Env Unit := ⟨tys, [], 0⟩
def impl_ColAt1 (c : ByteArray × Int × Bool × Bool × Int × Int × ByteArray) (t1 : ByteArray) (k0 : Bool → Res) : Res :=
 k0 (sEq c.1 t1)
def s_impl_ColAt1 : Sig Unit := ⟨[.look y6 true, .rptr .str], [false], fun vals ext k => av vals y6 fun c vals => av vals .str fun t1 vals => nl vals <| nl ext <| impl_ColAt1 c t1 (fun (r0 : Bool) => k [⟨.bool, false, r0, []⟩] [] [])⟩
theorem E_impl_ColAt1 (c : ByteArray × Int × Bool × Bool × Int × Int × ByteArray) (a_c : Bool) (t_c : List Tag) (t1 : ByteArray) (a_t1 : Bool) (t_t1 : List Tag) (k : qK) : funC g_impl_ColAt1 [] .o false Try.f220 [.look y6 true, .rptr .str] [false] [⟨y6, a_c, c, t_c⟩, ⟨.str, a_t1, t1, t_t1⟩] [] k = impl_ColAt1 c t1 (fun (r0 : Bool) => k [⟨.bool, false, r0, []⟩] [] []) := by kernel_rfl
theorem S_impl_ColAt1 : Sound Try.prog 220 s_impl_ColAt1 := sound_of (Γ := g_impl_ColAt1) (X := []) (ht := .o) (fz := false) (c := c_impl_ColAt1) follows tysOk fns_nil trivial Try.func220 (by kernel_rfl) (by kernel_rfl) (by decide) (by
 intro vals ext k r h
 obtain ⟨c, a_c, t_c, vals, rfl, h1⟩ := av_some h
 obtain ⟨t1, a_t1, t_t1, vals, rfl, h2⟩ := av_some h1
 obtain ⟨rfl, h3⟩ := nl_some h2
 obtain ⟨rfl, h4⟩ := nl_some h3
 exact (E_impl_ColAt1 c a_c t_c t1 a_t1 t_t1 k).trans h4)

/-! ### 219 slices.IndexFunc[[]loop.example/g00462/impl.Col,loop.example/g00462/impl.Col] -/
def c_slices_IndexFunc_Col : Code := (Try.f219.body).getD .skip
def g_slices_IndexFunc_Col : Env Unit := ⟨tys, [(220, s_impl_ColAt1)], 0⟩
def slices_IndexFunc_Col_l0_r (s : List qC) (f : ByteArray) (t7 : Int) (t8 : Int) (rec : Int → Res) (k0 : Unit → Res) (k1 : Int → Res) : Res :=
 bif decide (t8 < t7) then
  bif inb t8 (List.length s) then
   impl_ColAt1 (nth (eS, 0, false, false, 0, 0, eS) s t8) f fun (r : Bool) =>
    bif r then
     k1 t8
    else
     rec (wi64 (t8 + 1))
  else none
 else
  k0 ()
def slices_IndexFunc_Col_l0_s (s : List qC) (f : ByteArray) (t7 : Int) : Int → (Int → Res) → ((Unit → Res) × (Int → Res)) → Res := fun v rec q => slices_IndexFunc_Col_l0_r s f t7 v (fun t8 => rec (t8)) q.1 q.2
def slices_IndexFunc_Col_l0 (s : List qC) (f : ByteArray) (t7 : Int) (n : Nat) (t8 : Int) (k0 : Unit → Res) (k1 : Int → Res) : Res := iter (slices_IndexFunc_Col_l0_s s f t7) n (t8) (k0, k1)
def xslices_IndexFunc_Col_l0 : Node Unit := fun σ k => rdN σ 19 <| rdV σ 0 y7 false [.S] fun s => rdC σ 1 220 [.str] .str [] fun f => rdV σ 7 (.int .i64) false [] fun t7 => rdV σ 8 (.int .i64) false [] fun t8 => slices_IndexFunc_Col_l0 s f t7 FUEL t8 (fun (_ : Unit) => k (.exit 0) (mkS 19 19 [] [])) (fun (t4 : Int) => k .ret (mkS 19 19 [(4, .val ⟨(.int .i64), false, t4, []⟩)] []))
theorem eslices_IndexFunc_Col_l0 (s : List qC) (f : ByteArray) (t7 : Int) (n : Nat) (v : Int) (k : Kont Unit) : loopC (codeC g_slices_IndexFunc_Col [] .o (Code.pl (Code.pl (Code.pr (Code.pl (Code.pr c_slices_IndexFunc_Col)))))) (fun σ => σ.forget [0, 1, 7, 8] []) (cutC ([], []) [(0, [], [])] ([4], [])) n (mkS 19 19 [(0, .val ⟨y7, false, s, [.S]⟩), (1, .sclos 220 [.str] ⟨.str, false, f, []⟩), (7, .val ⟨(.int .i64), false, t7, []⟩), (8, .val ⟨(.int .i64), false, v, []⟩)] []) k = iter (slices_IndexFunc_Col_l0_s s f t7) n v ((fun (k : Kont Unit) => (((fun (_ : Unit) => k (.exit 0) (mkS 19 19 [] [])), (fun (t4 : Int) => k .ret (mkS 19 19 [(4, .val ⟨(.int .i64), false, t4, []⟩)] []))) : (Unit → Res) × (Int → Res))) k) := loop_eq (fun v : Int => (mkS 19 19 [(0, .val ⟨y7, false, s, [.S]⟩), (1, .sclos 220 [.str] ⟨.str, false, f, []⟩), (7, .val ⟨(.int .i64), false, t7, []⟩), (8, .val ⟨(.int .i64), false, v, []⟩)] [])) (slices_IndexFunc_Col_l0_s s f t7) (fun (k : Kont Unit) => (((fun (_ : Unit) => k (.exit 0) (mkS 19 19 [] [])), (fun (t4 : Int) => k .ret (mkS 19 19 [(4, .val ⟨(.int .i64), false, t4, []⟩)] []))) : (Unit → Res) × (Int → Res))) (fun v rec k => by kernel_rfl) n v k
theorem oslices_IndexFunc_Col_l0 {W0 : Base} {M : Nat → Prop} (hnp : W0.np ≤ 0) : CodeOk Try.prog W0 M (Code.pl (Code.pr (Code.pl (Code.pr c_slices_IndexFunc_Col)))) xslices_IndexFunc_Col_l0 := show CodeOk Try.prog W0 M (Code.loop (Code.pl (Code.pl (Code.pr (Code.pl (Code.pr c_slices_IndexFunc_Col)))))) xslices_IndexFunc_Col_l0 from loop_ok (code_sound follows tysOk (calls_ok (fns_cons S_impl_ColAt1 fns_nil)) hnp [] (Code.pl (Code.pl (Code.pr (Code.pl (Code.pr c_slices_IndexFunc_Col))))) .o trivial) (ks := [0, 1, 7, 8]) (bs := []) (fX := (cutC ([], []) [(0, [], [])] ([4], []))) (cutC_le _ _ _) FUEL (by
 intro σ k r h
 obtain ⟨hn, h1⟩ := rdN_some h
 obtain ⟨s, hs0, h2⟩ := rdV_some h1
 obtain ⟨f, hs1, h3⟩ := rdC_some h2
 obtain ⟨t7, hs7, h4⟩ := rdV_some h3
 obtain ⟨t8, hs8, h5⟩ := rdV_some h4
 refine ⟨_, ?_, (eslices_IndexFunc_Col_l0 s f t7 FUEL (t8) k).trans h5⟩
 exact mkS_le hn ⟨hs0, hs1, hs7, hs8, trivial⟩ trivial)
def slices_IndexFunc_Col (s : List qC) (f : ByteArray) (k0 : Int → Res) : Res :=
 slices_IndexFunc_Col_l0 s f (nI (List.length s)) FUEL 0
  (fun (_ : Unit) =>
   k0 (-1))
  (fun (t : Int) =>
   k0 t)
def s_slices_IndexFunc_Col : Sig Unit := ⟨[.look y7 false, .rclos 220 [.str]], [false], fun vals ext k => av vals y7 fun s vals => av vals .str fun f vals => nl vals <| nl ext <| slices_IndexFunc_Col s f (fun (r0 : Int) => k [⟨(.int .i64), false, r0, []⟩] [] [])⟩
theorem E_slices_IndexFunc_Col (s : List qC) (a_s : Bool) (t_s : List Tag) (f : ByteArray) (a_f : Bool) (t_f : List Tag) (k : qK) : funC g_slices_IndexFunc_Col [xslices_IndexFunc_Col_l0] (.t .o (.t (.t .o (.t (.x 0) .o)) .o)) false Try.f219 [.look y7 false, .rclos 220 [.str]] [false] [⟨y7, a_s, s, t_s⟩, ⟨.str, a_f, f, t_f⟩] [] k = slices_IndexFunc_Col s f (fun (r0 : Int) => k [⟨(.int .i64), false, r0, []⟩] [] []) := by kernel_rfl
theorem S_slices_IndexFunc_Col : Sound Try.prog 219 s_slices_IndexFunc_Col := sound_of (Γ := g_slices_IndexFunc_Col) (X := [xslices_IndexFunc_Col_l0]) (ht := (.t .o (.t (.t .o (.t (.x 0) .o)) .o))) (fz := false) (c := c_slices_IndexFunc_Col) follows tysOk (fns_cons S_impl_ColAt1 fns_nil) (OrOk.mk trivial ((OrOk.mk ((OrOk.mk trivial ((OrOk.mk (OrOk.x_mk (fun W0 M hnp => oslices_IndexFunc_Col_l0 (W0 := W0) (M := M) hnp)) trivial)))) trivial))) Try.func219 (by kernel_rfl) (by kernel_rfl) (by decide) (by
 intro vals ext k r h
 obtain ⟨s, a_s, t_s, vals, rfl, h1⟩ := av_some h
 obtain ⟨f, a_f, t_f, vals, rfl, h2⟩ := av_some h1
 obtain ⟨rfl, h3⟩ := nl_some h2
 obtain ⟨rfl, h4⟩ := nl_some h3
 exact (E_slices_IndexFunc_Col s a_s t_s f a_f t_f k).trans h4)

/-! ### 212 loop.example/g00462/impl.ColAt -/
def c_impl_ColAt : Code := (Try.f212.body).getD .skip
def g_impl_ColAt : Env Unit := ⟨tys, [(219, s_slices_IndexFunc_Col)], 0⟩
def impl_ColAt (t : ByteArray × qE × List ByteArray) (name : ByteArray) (k0 : Int → Res) : Res :=
 slices_IndexFunc_Col t.2.1 name fun (r : Int) =>
  k0 r
def s_impl_ColAt : Sig Unit := ⟨[.look y27 true, .look .str false], [false], fun vals ext k => av vals y27 fun t vals => av vals .str fun name vals => nl vals <| nl ext <| impl_ColAt t name (fun (r0 : Int) => k [⟨(.int .i64), false, r0, []⟩] [] [])⟩
theorem E_impl_ColAt (t : ByteArray × qE × List ByteArray) (a_t : Bool) (t_t : List Tag) (name : ByteArray) (a_name : Bool) (t_name : List Tag) (k : qK) : funC g_impl_ColAt [] .o false Try.f212 [.look y27 true, .look .str false] [false] [⟨y27, a_t, t, t_t⟩, ⟨.str, a_name, name, t_name⟩] [] k = impl_ColAt t name (fun (r0 : Int) => k [⟨(.int .i64), false, r0, []⟩] [] []) := by kernel_rfl
theorem S_impl_ColAt : Sound Try.prog 212 s_impl_ColAt := sound_of (Γ := g_impl_ColAt) (X := []) (ht := .o) (fz := false) (c := c_impl_ColAt) follows tysOk (fns_cons S_slices_IndexFunc_Col fns_nil) trivial Try.func212 (by kernel_rfl) (by kernel_rfl) (by decide) (by
 intro vals ext k r h
 obtain ⟨t, a_t, t_t, vals, rfl, h1⟩ := av_some h
 obtain ⟨name, a_name, t_name, vals, rfl, h2⟩ := av_some h1
 obtain ⟨rfl, h3⟩ := nl_some h2
 obtain ⟨rfl, h4⟩ := nl_some h3
 exact (E_impl_ColAt t a_t t_t name a_name t_name k).trans h4)

/-! ### 189 loop.example/g00462/impl.TableOk -/
def c_impl_TableOk : Code := (Try.f189.body).getD .skip
def g_impl_TableOk : Env Unit := ⟨tys, [(85, s_impl_WordOk), (104, s_impl_within), (191, s_impl_ColOk), (212, s_impl_ColAt)], 0⟩
def impl_TableOk_l0_r (t10 : List qC) (t11 : Int) (t : ByteArray × qE × List ByteArray) (t12 : Int) (rec : Int → Res) (k0 : Unit → Res) (k1 : Unit → Res) : Res :=
 bif decide (t12 < t11) then
  bif inb t12 (List.length t10) then
   impl_ColOk (nth (eS, 0, false, false, 0, 0, eS) t10 t12) fun (r : Bool) =>
    bif !r then
     k1 ()
    else
     impl_ColAt t (nth (eS, 0, false, false, 0, 0, eS) t10 t12).1 fun (r1 : Int) =>
      bif (r1 != t12) then
       k1 ()
      else
       rec (wi64 (t12 + 1))
  else none
 else
  k0 ()
def impl_TableOk_l0_s (t10 : List qC) (t11 : Int) (t : ByteArray × qE × List ByteArray) : Int → (Int → Res) → ((Unit → Res) × (Unit → Res)) → Res := fun v rec q => impl_TableOk_l0_r t10 t11 t v (fun t12 => rec (t12)) q.1 q.2
def impl_TableOk_l0 (t10 : List qC) (t11 : Int) (t : ByteArray × qE × List ByteArray) (n : Nat) (t12 : Int) (k0 : Unit → Res) (k1 : Unit → Res) : Res := iter (impl_TableOk_l0_s t10 t11 t) n (t12) (k0, k1)
def ximpl_TableOk_l0 : Node Unit := fun σ k => rdN σ 68 <| rdT σ 1 (.ptr ⟨true, 1, []⟩) <| rdV σ 10 y7 false [.S] fun t10 => rdV σ 11 (.int .i64) false [] fun t11 => rdV σ 12 (.int .i64) false [] fun t12 => rdB σ 1 y27 [.S, .S] fun a t => impl_TableOk_l0 t10 t11 t FUEL t12 (fun (_ : Unit) => k (.exit 0) (mkS 68 68 [(1, .ptr ⟨true, 1, []⟩)] [(1, ⟨y27, a, t, [.S, .S]⟩)])) (fun (_ : Unit) => k .ret (mkS 68 68 [(2, .val ⟨.bool, false, false, []⟩)] []))
theorem eimpl_TableOk_l0 (t10 : List qC) (t11 : Int) (a : Bool) (t : ByteArray × qE × List ByteArray) (n : Nat) (v : Int) (k : Kont Unit) : loopC (codeC g_impl_TableOk [] .o (Code.pl (Code.pl (Code.pr (Code.pl (Code.pr c_impl_TableOk)))))) (fun σ => σ.forget [1, 10, 11, 12] [1]) (cutC ([], []) [(0, [1], [1])] ([2], [])) n (mkS 68 68 [(1, .ptr ⟨true, 1, []⟩), (10, .val ⟨y7, false, t10, [.S]⟩), (11, .val ⟨(.int .i64), false, t11, []⟩), (12, .val ⟨(.int .i64), false, v, []⟩)] [(1, ⟨y27, a, t, [.S, .S]⟩)]) k = iter (impl_TableOk_l0_s t10 t11 t) n v ((fun (k : Kont Unit) => (((fun (_ : Unit) => k (.exit 0) (mkS 68 68 [(1, .ptr ⟨true, 1, []⟩)] [(1, ⟨y27, a, t, [.S, .S]⟩)])), (fun (_ : Unit) => k .ret (mkS 68 68 [(2, .val ⟨.bool, false, false, []⟩)] []))) : (Unit → Res) × (Unit → Res))) k) := loop_eq (fun v : Int => (mkS 68 68 [(1, .ptr ⟨true, 1, []⟩), (10, .val ⟨y7, false, t10, [.S]⟩), (11, .val ⟨(.int .i64), false, t11, []⟩), (12, .val ⟨(.int .i64), false, v, []⟩)] [(1, ⟨y27, a, t, [.S, .S]⟩)])) (impl_TableOk_l0_s t10 t11 t) (fun (k : Kont Unit) => (((fun (_ : Unit) => k (.exit 0) (mkS 68 68 [(1, .ptr ⟨true, 1, []⟩)] [(1, ⟨y27, a, t, [.S, .S]⟩)])), (fun (_ : Unit) => k .ret (mkS 68 68 [(2, .val ⟨.bool, false, false, []⟩)] []))) : (Unit → Res) × (Unit → Res))) (fun v rec k => by kernel_rfl) n v k
theorem oimpl_TableOk_l0 {W0 : Base} {M : Nat → Prop} (hnp : W0.np ≤ 0) : CodeOk Try.prog W0 M (Code.pl (Code.pr (Code.pl (Code.pr c_impl_TableOk)))) ximpl_TableOk_l0 := show CodeOk Try.prog W0 M (Code.loop (Code.pl (Code.pl (Code.pr (Code.pl (Code.pr c_impl_TableOk)))))) ximpl_TableOk_l0 from loop_ok (code_sound follows tysOk (calls_ok (fns_cons S_impl_WordOk (fns_cons S_impl_within (fns_cons S_impl_ColOk (fns_cons S_impl_ColAt fns_nil))))) hnp [] (Code.pl (Code.pl (Code.pr (Code.pl (Code.pr c_impl_TableOk))))) .o trivial) (ks := [1, 10, 11, 12]) (bs := [1]) (fX := (cutC ([], []) [(0, [1], [1])] ([2], []))) (cutC_le _ _ _) FUEL (by
 intro σ k r h
 obtain ⟨hn, h1⟩ := rdN_some h
 obtain ⟨hs1, h2⟩ := rdT_some h1
 obtain ⟨t10, hs10, h3⟩ := rdV_some h2
 obtain ⟨t11, hs11, h4⟩ := rdV_some h3
 obtain ⟨t12, hs12, h5⟩ := rdV_some h4
 obtain ⟨a, t, hb1, h6⟩ := rdB_some h5
 refine ⟨_, ?_, (eimpl_TableOk_l0 t10 t11 a t FUEL (t12) k).trans h6⟩
 exact mkS_le hn ⟨hs1, hs10, hs11, hs12, trivial⟩ ⟨hb1, trivial⟩)
def impl_TableOk_l1_r (t30 : List ByteArray) (t31 : Int) (t : ByteArray × qE × List ByteArray) (last : Int) (t32 : Int) (rec : Int → Int → Res) (k0 : Unit → Res) (k1 : Unit → Res) : Res :=
 bif decide (t32 < t31) then
  bif inb t32 (List.length t30) then
   impl_ColAt t (nth eS t30 t32) fun (r : Int) =>
    bif decide (r ≤ last) then
     k1 ()
    else
     bif inb r (List.length t.2.1) then
      bif !(nth (eS, 0, false, false, 0, 0, eS) t.2.1 r).2.2.1 then
       k1 ()
      else
       rec r (wi64 (t32 + 1))
     else none
  else none
 else
  k0 ()
def impl_TableOk_l1_s (t30 : List ByteArray) (t31 : Int) (t : ByteArray × qE × List ByteArray) : (Int × Int) → (Int × Int → Res) → ((Unit → Res) × (Unit → Res)) → Res := fun v rec q => impl_TableOk_l1_r t30 t31 t v.1 v.2 (fun last t32 => rec (last, t32)) q.1 q.2
def impl_TableOk_l1 (t30 : List ByteArray) (t31 : Int) (t : ByteArray × qE × List ByteArray) (n : Nat) (last : Int) (t32 : Int) (k0 : Unit → Res) (k1 : Unit → Res) : Res := iter (impl_TableOk_l1_s t30 t31 t) n (last, t32) (k0, k1)
def ximpl_TableOk_l1 : Node Unit := fun σ k => rdN σ 68 <| rdT σ 1 (.ptr ⟨true, 1, []⟩) <| rdV σ 5 (.int .i64) false [] fun last => rdV σ 30 y8 false [.S] fun t30 => rdV σ 31 (.int .i64) false [] fun t31 => rdV σ 32 (.int .i64) false [] fun t32 => rdB σ 1 y27 [.S, .S] fun a t => impl_TableOk_l1 t30 t31 t FUEL last t32 (fun (_ : Unit) => k (.exit 2) (mkS 68 68 [(1, .ptr ⟨true, 1, []⟩)] [(1, ⟨y27, a, t, [.S, .S]⟩)])) (fun (_ : Unit) => k .ret (mkS 68 68 [(2, .val ⟨.bool, false, false, []⟩)] []))
theorem eimpl_TableOk_l1 (t30 : List ByteArray) (t31 : Int) (a : Bool) (t : ByteArray × qE × List ByteArray) (n : Nat) (v : Int × Int) (k : Kont Unit) : loopC (codeC g_impl_TableOk [ximpl_TableOk_l0] .o (Code.pl (Code.pl (Code.pr (Code.pl (Code.pr (Code.pr (Code.pr c_impl_TableOk)))))))) (fun σ => σ.forget [1, 5, 30, 31, 32] [1]) (cutC ([], []) [(2, [1], [1])] ([2], [])) n (mkS 68 68 [(1, .ptr ⟨true, 1, []⟩), (5, .val ⟨(.int .i64), false, v.1, []⟩), (30, .val ⟨y8, false, t30, [.S]⟩), (31, .val ⟨(.int .i64), false, t31, []⟩), (32, .val ⟨(.int .i64), false, v.2, []⟩)] [(1, ⟨y27, a, t, [.S, .S]⟩)]) k = iter (impl_TableOk_l1_s t30 t31 t) n v ((fun (k : Kont Unit) => (((fun (_ : Unit) => k (.exit 2) (mkS 68 68 [(1, .ptr ⟨true, 1, []⟩)] [(1, ⟨y27, a, t, [.S, .S]⟩)])), (fun (_ : Unit) => k .ret (mkS 68 68 [(2, .val ⟨.bool, false, false, []⟩)] []))) : (Unit → Res) × (Unit → Res))) k) := loop_eq (fun v : Int × Int => (mkS 68 68 [(1, .ptr ⟨true, 1, []⟩), (5, .val ⟨(.int .i64), false, v.1, []⟩), (30, .val ⟨y8, false, t30, [.S]⟩), (31, .val ⟨(.int .i64), false, t31, []⟩), (32, .val ⟨(.int .i64), false, v.2, []⟩)] [(1, ⟨y27, a, t, [.S, .S]⟩)])) (impl_TableOk_l1_s t30 t31 t) (fun (k : Kont Unit) => (((fun (_ : Unit) => k (.exit 2) (mkS 68 68 [(1, .ptr ⟨true, 1, []⟩)] [(1, ⟨y27, a, t, [.S, .S]⟩)])), (fun (_ : Unit) => k .ret (mkS 68 68 [(2, .val ⟨.bool, false, false, []⟩)] []))) : (Unit → Res) × (Unit → Res))) (fun v rec k => by kernel_rfl) n v k
theorem oimpl_TableOk_l1 {W0 : Base} {M : Nat → Prop} (hnp : W0.np ≤ 0) : CodeOk Try.prog W0 M (Code.pl (Code.pr (Code.pl (Code.pr (Code.pr (Code.pr c_impl_TableOk)))))) ximpl_TableOk_l1 := show CodeOk Try.prog W0 M (Code.loop (Code.pl (Code.pl (Code.pr (Code.pl (Code.pr (Code.pr (Code.pr c_impl_TableOk)))))))) ximpl_TableOk_l1 from loop_ok (code_sound follows tysOk (calls_ok (fns_cons S_impl_WordOk (fns_cons S_impl_within (fns_cons S_impl_ColOk (fns_cons S_impl_ColAt fns_nil))))) hnp [ximpl_TableOk_l0] (Code.pl (Code.pl (Code.pr (Code.pl (Code.pr (Code.pr (Code.pr c_impl_TableOk))))))) .o trivial) (ks := [1, 5, 30, 31, 32]) (bs := [1]) (fX := (cutC ([], []) [(2, [1], [1])] ([2], []))) (cutC_le _ _ _) FUEL (by
 intro σ k r h
 obtain ⟨hn, h1⟩ := rdN_some h
 obtain ⟨hs1, h2⟩ := rdT_some h1
 obtain ⟨last, hs5, h3⟩ := rdV_some h2
 obtain ⟨t30, hs30, h4⟩ := rdV_some h3
 obtain ⟨t31, hs31, h5⟩ := rdV_some h4
 obtain ⟨t32, hs32, h6⟩ := rdV_some h5
 obtain ⟨a, t, hb1, h7⟩ := rdB_some h6
 refine ⟨_, ?_, (eimpl_TableOk_l1 t30 t31 a t FUEL (last, t32) k).trans h7⟩
 exact mkS_le hn ⟨hs1, hs5, hs30, hs31, hs32, trivial⟩ ⟨hb1, trivial⟩)
def impl_TableOk (t : ByteArray × qE × List ByteArray) (k0 : Bool → Res) : Res :=
 impl_TableOk_l0 t.2.1 (nI (List.length t.2.1)) t FUEL 0
  (fun (_ : Unit) =>
   impl_TableOk_l1 t.2.2 (nI (List.length t.2.2)) t FUEL (-1) 0
    (fun (_ : Unit) =>
     impl_WordOk t.1 fun (r : Bool) =>
      bif r then
       impl_within (nI (List.length t.2.1)) 1 8 fun (r1 : Bool) =>
        bif r1 then
         k0 (decide ((nI (List.length t.2.2)) > 0))
        else
         k0 false
      else
       k0 false)
    (fun (_ : Unit) =>
     k0 false))
  (fun (_ : Unit) =>
   k0 false)
def s_impl_TableOk : Sig Unit := ⟨[.look y27 true], [false], fun vals ext k => av vals y27 fun t vals => nl vals <| nl ext <| impl_TableOk t (fun (r0 : Bool) => k [⟨.bool, false, r0, []⟩] [] [])⟩
theorem E_impl_TableOk (t : ByteArray × qE × List ByteArray) (a_t : Bool) (t_t : List Tag) (k : qK) : funC g_impl_TableOk [ximpl_TableOk_l0, ximpl_TableOk_l1] (.t .o (.t (.t .o (.t (.x 0) .o)) (.t .o (.t (.t .o (.t (.x 1) .o)) .o)))) false Try.f189 [.look y27 true] [false] [⟨y27, a_t, t, t_t⟩] [] k = impl_TableOk t (fun (r0 : Bool) => k [⟨.bool, false, r0, []⟩] [] []) := by kernel_rfl
theorem S_impl_TableOk : Sound Try.prog 189 s_impl_TableOk := sound_of (Γ := g_impl_TableOk) (X := [ximpl_TableOk_l0, ximpl_TableOk_l1]) (ht := (.t .o (.t (.t .o (.t (.x 0) .o)) (.t .o (.t (.t .o (.t (.x 1) .o)) .o))))) (fz := false) (c := c_impl_TableOk) follows tysOk (fns_cons S_impl_WordOk (fns_cons S_impl_within (fns_cons S_impl_ColOk (fns_cons S_impl_ColAt fns_nil)))) (OrOk.mk trivial ((OrOk.mk ((OrOk.mk trivial ((OrOk.mk (OrOk.x_mk (fun W0 M hnp => oimpl_TableOk_l0 (W0 := W0) (M := M) hnp)) trivial)))) ((OrOk.mk trivial ((OrOk.mk ((OrOk.mk trivial ((OrOk.mk (OrOk.x_mk (fun W0 M hnp => oimpl_TableOk_l1 (W0 := W0) (M := M) hnp)) trivial)))) trivial))))))) Try.func189 (by kernel_rfl) (by kernel_rfl) (by decide) (by
 intro vals ext k r h
 obtain ⟨t, a_t, t_t, vals, rfl, h1⟩ := av_some h
 obtain ⟨rfl, h2⟩ := nl_some h1
 obtain ⟨rfl, h3⟩ := nl_some h2
 exact (E_impl_TableOk t a_t t_t k).trans h3)

/-! ### 105 loop.example/g00462/impl.equalDdl -/
def c_impl_equalDdl : Code := (Try.f105.body).getD .skip
def g_impl_equalDdl : Env Unit := ⟨tys, [(150, s_slices_Equal_Col), (151, s_slices_Equal_string)], 0⟩
def impl_equalDdl (a : Int × ByteArray × qE × List ByteArray × ByteArray × ByteArray) (b : Int × ByteArray × qE × List ByteArray × ByteArray × ByteArray) (k0 : Bool → Res) : Res :=
 bif (a.1 == b.1) then
  bif sEq a.2.1 b.2.1 then
   slices_Equal_Col a.2.2.1 b.2.2.1 fun (r : Bool) =>
    bif r then
     slices_Equal_string a.2.2.2.1 b.2.2.2.1 fun (r1 : Bool) =>
      bif r1 then
       bif sEq a.2.2.2.2.1 b.2.2.2.2.1 then
        k0 (sEq a.2.2.2.2.2 b.2.2.2.2.2)
       else
        k0 false
      else
       k0 false
    else
     k0 false
  else
   k0 false
 else
  k0 false
def s_impl_equalDdl : Sig Unit := ⟨[.look y13 true, .look y13 true], [false], fun vals ext k => av vals y13 fun a vals => av vals y13 fun b vals => nl vals <| nl ext <| impl_equalDdl a b (fun (r0 : Bool) => k [⟨.bool, false, r0, []⟩] [] [])⟩
theorem E_impl_equalDdl (a : Int × ByteArray × qE × List ByteArray × ByteArray × ByteArray) (a_a : Bool) (t_a : List Tag) (b : Int × ByteArray × qE × List ByteArray × ByteArray × ByteArray) (a_b : Bool) (t_b : List Tag) (k : qK) : funC g_impl_equalDdl [] .o false Try.f105 [.look y13 true, .look y13 true] [false] [⟨y13, a_a, a, t_a⟩, ⟨y13, a_b, b, t_b⟩] [] k = impl_equalDdl a b (fun (r0 : Bool) => k [⟨.bool, false, r0, []⟩] [] []) := by kernel_rfl
theorem S_impl_equalDdl : Sound Try.prog 105 s_impl_equalDdl := sound_of (Γ := g_impl_equalDdl) (X := []) (ht := .o) (fz := false) (c := c_impl_equalDdl) follows tysOk (fns_cons S_slices_Equal_Col (fns_cons S_slices_Equal_string fns_nil)) trivial Try.func105 (by kernel_rfl) (by kernel_rfl) (by decide) (by
 intro vals ext k r h
 obtain ⟨a, a_a, t_a, vals, rfl, h1⟩ := av_some h
 obtain ⟨b, a_b, t_b, vals, rfl, h2⟩ := av_some h1
 obtain ⟨rfl, h3⟩ := nl_some h2
 obtain ⟨rfl, h4⟩ := nl_some h3
 exact (E_impl_equalDdl a a_a t_a b a_b t_b k).trans h4)

/-! ### 157 loop.example/g00462/impl.DdlOk -/
def c_impl_DdlOk : Code := (Try.f157.body).getD .skip
def g_impl_DdlOk : Env Unit := ⟨tys, [(85, s_impl_WordOk), (105, s_impl_equalDdl), (189, s_impl_TableOk), (190, s_impl_Ddl_made), (191, s_impl_ColOk)], 0⟩
def impl_DdlOk (d : Int × ByteArray × qE × List ByteArray × ByteArray × ByteArray) (k0 : Bool → Res) : Res :=
 impl_WordOk d.2.1 fun (r : Bool) =>
  bif !r then
   k0 false
  else
   bif (d.1 == 1) then
    impl_Ddl_made d fun (r1 : ByteArray × qE × List ByteArray) =>
     impl_TableOk r1 fun (r2 : Bool) =>
      bif r2 then
       bif sEq d.2.2.2.2.1 eS then
        k0 (sEq d.2.2.2.2.2 eS)
       else
        k0 false
      else
       k0 false
   else
    bif (d.1 == 2) then
     impl_equalDdl d (d.1, d.2.1, [], [], eS, eS) fun (r3 : Bool) =>
      k0 r3
    else
     bif (d.1 == 3) then
      impl_equalDdl d (d.1, d.2.1, d.2.2.1, [], eS, eS) fun (r4 : Bool) =>
       bif r4 then
        bif ((nI (List.length d.2.2.1)) == 1) then
         bif inb 0 (List.length d.2.2.1) then
          impl_ColOk (nth (eS, 0, false, false, 0, 0, eS) d.2.2.1 0) fun (r5 : Bool) =>
           bif r5 then
            bif inb 0 (List.length d.2.2.1) then
             bif (nth (eS, 0, false, false, 0, 0, eS) d.2.2.1 0).2.2.2.1 then
              k0 true
             else
              bif inb 0 (List.length d.2.2.1) then
               k0 (!(nth (eS, 0, false, false, 0, 0, eS) d.2.2.1 0).2.2.1)
              else none
            else none
           else
            k0 false
         else none
        else
         k0 false
       else
        k0 false
     else
      bif (d.1 == 4) then
       impl_equalDdl d (d.1, d.2.1, [], [], d.2.2.2.2.1, eS) fun (r6 : Bool) =>
        bif r6 then
         impl_WordOk d.2.2.2.2.1 fun (r7 : Bool) =>
          k0 r7
        else
         k0 false
      else
       bif (d.1 == 5) then
        impl_equalDdl d (d.1, d.2.1, [], [], d.2.2.2.2.1, d.2.2.2.2.2) fun (r8 : Bool) =>
         bif r8 then
          impl_WordOk d.2.2.2.2.1 fun (r9 : Bool) =>
           bif r9 then
            impl_WordOk d.2.2.2.2.2 fun (r10 : Bool) =>
             k0 r10
           else
            k0 false
         else
          k0 false
       else
        k0 false
def s_impl_DdlOk : Sig Unit := ⟨[.look y13 true], [false], fun vals ext k => av vals y13 fun d vals => nl vals <| nl ext <| impl_DdlOk d (fun (r0 : Bool) => k [⟨.bool, false, r0, []⟩] [] [])⟩
theorem E_impl_DdlOk (d : Int × ByteArray × qE × List ByteArray × ByteArray × ByteArray) (a_d : Bool) (t_d : List Tag) (k : qK) : funC g_impl_DdlOk [] .o false Try.f157 [.look y13 true] [false] [⟨y13, a_d, d, t_d⟩] [] k = impl_DdlOk d (fun (r0 : Bool) => k [⟨.bool, false, r0, []⟩] [] []) := by kernel_rfl
theorem S_impl_DdlOk : Sound Try.prog 157 s_impl_DdlOk := sound_of (Γ := g_impl_DdlOk) (X := []) (ht := .o) (fz := false) (c := c_impl_DdlOk) follows tysOk (fns_cons S_impl_WordOk (fns_cons S_impl_equalDdl (fns_cons S_impl_TableOk (fns_cons S_impl_Ddl_made (fns_cons S_impl_ColOk fns_nil))))) trivial Try.func157 (by kernel_rfl) (by kernel_rfl) (by decide) (by
 intro vals ext k r h
 obtain ⟨d, a_d, t_d, vals, rfl, h1⟩ := av_some h
 obtain ⟨rfl, h2⟩ := nl_some h1
 obtain ⟨rfl, h3⟩ := nl_some h2
 exact (E_impl_DdlOk d a_d t_d k).trans h3)
end Go.PI.G
end
