/-
  Printed texts and plain laws. No conditions.
-/
import Derived.Test.Ytiieddiheadocaasa
import Derived.Test.Ytiieddiheadocaasc
set_option linter.unusedVariables false
set_option maxRecDepth 100000
noncomputable section
namespace Go.PI.G
open Go Go.PI Go.Proofs

/-! ### 152 loop.example/g00462/spec.l04Vals -/
def c_spec_l04Vals : Code := (Try.f152.body).getD .skip
def g_spec_l04Vals : Env Unit := ⟨tys, [(186, s_spec_ValOk)], 0⟩
def spec_l04Vals_l0_r (t5 : List qV) (t6 : Int) (t7 : Int) (rec : Int → Res) (k0 : Unit → Res) (k1 : Unit → Res) : Res :=
 bif decide (t7 < t6) then
  bif inb t7 (List.length t5) then
   spec_ValOk (nth (0, 0, eS) t5 t7) fun (r : Bool) =>
    bif !r then
     k1 ()
    else
     rec (wi64 (t7 + 1))
  else none
 else
  k0 ()
def spec_l04Vals_l0_s (t5 : List qV) (t6 : Int) : Int → (Int → Res) → ((Unit → Res) × (Unit → Res)) → Res := fun v rec q => spec_l04Vals_l0_r t5 t6 v (fun t7 => rec (t7)) q.1 q.2
def spec_l04Vals_l0 (t5 : List qV) (t6 : Int) (n : Nat) (t7 : Int) (k0 : Unit → Res) (k1 : Unit → Res) : Res := iter (spec_l04Vals_l0_s t5 t6) n (t7) (k0, k1)
def xspec_l04Vals_l0 : Node Unit := fun σ k => rdN σ 23 <| rdV σ 0 y2 false [.S] fun l => rdV σ 5 y2 false [.S] fun t5 => rdV σ 6 (.int .i64) false [] fun t6 => rdV σ 7 (.int .i64) false [] fun t7 => spec_l04Vals_l0 t5 t6 FUEL t7 (fun (_ : Unit) => k (.exit 0) (mkS 23 23 [(0, .val ⟨y2, false, l, [.S]⟩)] [])) (fun (_ : Unit) => k .ret (mkS 23 23 [(2, .val ⟨.bool, false, false, []⟩)] []))
theorem espec_l04Vals_l0 (l : List qV) (t5 : List qV) (t6 : Int) (n : Nat) (v : Int) (k : Kont Unit) : loopC (codeC g_spec_l04Vals [] .o (Code.pl (Code.pl (Code.pr (Code.pl (Code.pr c_spec_l04Vals)))))) (fun σ => σ.forget [0, 5, 6, 7] []) (cutC ([], []) [(0, [0], [])] ([2], [])) n (mkS 23 23 [(0, .val ⟨y2, false, l, [.S]⟩), (5, .val ⟨y2, false, t5, [.S]⟩), (6, .val ⟨(.int .i64), false, t6, []⟩), (7, .val ⟨(.int .i64), false, v, []⟩)] []) k = iter (spec_l04Vals_l0_s t5 t6) n v ((fun (k : Kont Unit) => (((fun (_ : Unit) => k (.exit 0) (mkS 23 23 [(0, .val ⟨y2, false, l, [.S]⟩)] [])), (fun (_ : Unit) => k .ret (mkS 23 23 [(2, .val ⟨.bool, false, false, []⟩)] []))) : (Unit → Res) × (Unit → Res))) k) := loop_eq (fun v : Int => (mkS 23 23 [(0, .val ⟨y2, false, l, [.S]⟩), (5, .val ⟨y2, false, t5, [.S]⟩), (6, .val ⟨(.int .i64), false, t6, []⟩), (7, .val ⟨(.int .i64), false, v, []⟩)] [])) (spec_l04Vals_l0_s t5 t6) (fun (k : Kont Unit) => (((fun (_ : Unit) => k (.exit 0) (mkS 23 23 [(0, .val ⟨y2, false, l, [.S]⟩)] [])), (fun (_ : Unit) => k .ret (mkS 23 23 [(2, .val ⟨.bool, false, false, []⟩)] []))) : (Unit → Res) × (Unit → Res))) (fun v rec k => by kernel_rfl) n v k
theorem ospec_l04Vals_l0 {W0 : Base} {M : Nat → Prop} (hnp : W0.np ≤ 0) : CodeOk Try.prog W0 M (Code.pl (Code.pr (Code.pl (Code.pr c_spec_l04Vals)))) xspec_l04Vals_l0 := show CodeOk Try.prog W0 M (Code.loop (Code.pl (Code.pl (Code.pr (Code.pl (Code.pr c_spec_l04Vals)))))) xspec_l04Vals_l0 from loop_ok (code_sound follows tysOk (calls_ok (fns_cons S_spec_ValOk fns_nil)) hnp [] (Code.pl (Code.pl (Code.pr (Code.pl (Code.pr c_spec_l04Vals))))) .o trivial) (ks := [0, 5, 6, 7]) (bs := []) (fX := (cutC ([], []) [(0, [0], [])] ([2], []))) (cutC_le _ _ _) FUEL (by
 intro σ k r h
 obtain ⟨hn, h1⟩ := rdN_some h
 obtain ⟨l, hs0, h2⟩ := rdV_some h1
 obtain ⟨t5, hs5, h3⟩ := rdV_some h2
 obtain ⟨t6, hs6, h4⟩ := rdV_some h3
 obtain ⟨t7, hs7, h5⟩ := rdV_some h4
 refine ⟨_, ?_, (espec_l04Vals_l0 l t5 t6 FUEL (t7) k).trans h5⟩
 exact mkS_le hn ⟨hs0, hs5, hs6, hs7, trivial⟩ trivial)
def spec_l04Vals (l : List qV) (k0 : Bool → Res) : Res :=
 spec_l04Vals_l0 l (nI (List.length l)) FUEL 0
  (fun (_ : Unit) =>
   bif decide ((nI (List.length l)) ≥ 1) then
    k0 (decide ((nI (List.length l)) ≤ 8))
   else
    k0 false)
  (fun (_ : Unit) =>
   k0 false)
def s_spec_l04Vals : Sig Unit := ⟨[.look y2 false], [false], fun vals ext k => av vals y2 fun l vals => nl vals <| nl ext <| spec_l04Vals l (fun (r0 : Bool) => k [⟨.bool, false, r0, []⟩] [] [])⟩
theorem E_spec_l04Vals (l : List qV) (a_l : Bool) (t_l : List Tag) (k : qK) : funC g_spec_l04Vals [xspec_l04Vals_l0] (.t .o (.t (.t .o (.t (.x 0) .o)) .o)) false Try.f152 [.look y2 false] [false] [⟨y2, a_l, l, t_l⟩] [] k = spec_l04Vals l (fun (r0 : Bool) => k [⟨.bool, false, r0, []⟩] [] []) := by kernel_rfl
theorem S_spec_l04Vals : Sound Try.prog 152 s_spec_l04Vals := sound_of (Γ := g_spec_l04Vals) (X := [xspec_l04Vals_l0]) (ht := (.t .o (.t (.t .o (.t (.x 0) .o)) .o))) (fz := false) (c := c_spec_l04Vals) follows tysOk (fns_cons S_spec_ValOk fns_nil) (OrOk.mk trivial ((OrOk.mk ((OrOk.mk trivial ((OrOk.mk (OrOk.x_mk (fun W0 M hnp => ospec_l04Vals_l0 (W0 := W0) (M := M) hnp)) trivial)))) trivial))) Try.func152 (by kernel_rfl) (by kernel_rfl) (by decide) (by
 intro vals ext k r h
 obtain ⟨l, a_l, t_l, vals, rfl, h1⟩ := av_some h
 obtain ⟨rfl, h2⟩ := nl_some h1
 obtain ⟨rfl, h3⟩ := nl_some h2
 exact (E_spec_l04Vals l a_l t_l k).trans h3)

/-! ### 143 loop.example/g00462/spec.l04NoDdl -/
def c_spec_l04NoDdl : Code := (Try.f143.body).getD .skip
def g_spec_l04NoDdl : Env Unit := ⟨tys, [], 0⟩
def spec_l04NoDdl (d : Int × ByteArray × qE × List ByteArray × ByteArray × ByteArray) (k0 : Bool → Res) : Res :=
 bif (d.1 == 0) then
  bif sEq d.2.1 eS then
   bif ((nI (List.length d.2.2.1)) == 0) then
    bif ((nI (List.length d.2.2.2.1)) == 0) then
     bif sEq d.2.2.2.2.1 eS then
      k0 (sEq d.2.2.2.2.2 eS)
     else
      k0 false
    else
     k0 false
   else
    k0 false
  else
   k0 false
 else
  k0 false
def s_spec_l04NoDdl : Sig Unit := ⟨[.look y13 true], [false], fun vals ext k => av vals y13 fun d vals => nl vals <| nl ext <| spec_l04NoDdl d (fun (r0 : Bool) => k [⟨.bool, false, r0, []⟩] [] [])⟩
theorem E_spec_l04NoDdl (d : Int × ByteArray × qE × List ByteArray × ByteArray × ByteArray) (a_d : Bool) (t_d : List Tag) (k : qK) : funC g_spec_l04NoDdl [] .o false Try.f143 [.look y13 true] [false] [⟨y13, a_d, d, t_d⟩] [] k = spec_l04NoDdl d (fun (r0 : Bool) => k [⟨.bool, false, r0, []⟩] [] []) := by kernel_rfl
theorem S_spec_l04NoDdl : Sound Try.prog 143 s_spec_l04NoDdl := sound_of (Γ := g_spec_l04NoDdl) (X := []) (ht := .o) (fz := false) (c := c_spec_l04NoDdl) follows tysOk fns_nil trivial Try.func143 (by kernel_rfl) (by kernel_rfl) (by decide) (by
 intro vals ext k r h
 obtain ⟨d, a_d, t_d, vals, rfl, h1⟩ := av_some h
 obtain ⟨rfl, h2⟩ := nl_some h1
 obtain ⟨rfl, h3⟩ := nl_some h2
 exact (E_spec_l04NoDdl d a_d t_d k).trans h3)

/-! ### 108 loop.example/g00462/spec.StmtOk -/
def c_spec_StmtOk : Code := (Try.f108.body).getD .skip
def g_spec_StmtOk : Env Unit := ⟨tys, [(82, s_spec_WordOk), (143, s_spec_l04NoDdl), (152, s_spec_l04Vals), (153, s_spec_DdlOk)], 0⟩
def spec_StmtOk_p0 (noKey : Bool) (noRow : Bool) (s : Int × ByteArray × qW × qW × Int × ByteArray × qE × List ByteArray × ByteArray × ByteArray) (k0 : Bool → Res) : Res :=
 bif (s.1 == 1) then
  bif noKey then
   spec_l04Vals s.2.2.2.1 fun (r : Bool) =>
    bif r then
     spec_l04NoDdl s.2.2.2.2 fun (r1 : Bool) =>
      k0 r1
    else
     k0 false
  else
   k0 false
 else
  bif (s.1 == 2) then
   spec_l04Vals s.2.2.1 fun (r2 : Bool) =>
    bif r2 then
     spec_l04Vals s.2.2.2.1 fun (r3 : Bool) =>
      bif r3 then
       spec_l04NoDdl s.2.2.2.2 fun (r4 : Bool) =>
        k0 r4
      else
       k0 false
    else
     k0 false
  else
   bif (s.1 == 3) then
    spec_l04Vals s.2.2.1 fun (r5 : Bool) =>
     bif r5 then
      bif noRow then
       spec_l04NoDdl s.2.2.2.2 fun (r6 : Bool) =>
        k0 r6
      else
       k0 false
     else
      k0 false
   else
    bif (s.1 == 4) then
     bif noKey then
      bif noRow then
       spec_l04NoDdl s.2.2.2.2 fun (r7 : Bool) =>
        k0 r7
      else
       k0 false
     else
      k0 false
    else
     bif (s.1 == 5) then
      bif noKey then
       bif noRow then
        spec_DdlOk s.2.2.2.2 fun (r8 : Bool) =>
         bif r8 then
          k0 (sEq s.2.2.2.2.2.1 s.2.1)
         else
          k0 false
       else
        k0 false
      else
       k0 false
     else
      k0 false
def xspec_StmtOk_p0 : Node Unit := fun σ k => rdN σ 93 <| rdT σ 1 (.ptr ⟨true, 1, []⟩) <| rdV σ 3 .bool false [] fun noKey => rdV σ 4 .bool false [] fun noRow => rdB σ 1 y17 [.S, .S, .S, .S] fun a s => spec_StmtOk_p0 noKey noRow s (fun (t2 : Bool) => k .ret (mkS 93 93 [(2, .val ⟨.bool, false, t2, []⟩)] []))
theorem espec_StmtOk_p0 (noKey : Bool) (noRow : Bool) (a : Bool) (s : Int × ByteArray × qW × qW × Int × ByteArray × qE × List ByteArray × ByteArray × ByteArray) (k : Kont Unit) : codeC g_spec_StmtOk [] .o (Code.pr (Code.pr (Code.pr (Code.pr c_spec_StmtOk)))) (mkS 93 93 [(1, .ptr ⟨true, 1, []⟩), (3, .val ⟨.bool, false, noKey, []⟩), (4, .val ⟨.bool, false, noRow, []⟩)] [(1, ⟨y17, a, s, [.S, .S, .S, .S]⟩)]) (fun e σ => k e ((cutC ([], []) [] ([2], [])) e σ)) = spec_StmtOk_p0 noKey noRow s (fun (t2 : Bool) => k .ret (mkS 93 93 [(2, .val ⟨.bool, false, t2, []⟩)] [])) := by kernel_rfl
theorem ospec_StmtOk_p0 {W0 : Base} {M : Nat → Prop} (hnp : W0.np ≤ 0) : CodeOk Try.prog W0 M (Code.pr (Code.pr (Code.pr (Code.pr c_spec_StmtOk)))) xspec_StmtOk_p0 := node_ok (code_sound follows tysOk (calls_ok (fns_cons S_spec_WordOk (fns_cons S_spec_l04NoDdl (fns_cons S_spec_l04Vals (fns_cons S_spec_DdlOk fns_nil))))) hnp [] ((Code.pr (Code.pr (Code.pr (Code.pr c_spec_StmtOk))))) .o trivial) (fg := (cutC ([], []) [] ([2], []))) (cutC_le _ _ _) (by
 intro σ k r h
 obtain ⟨hn, h1⟩ := rdN_some h
 obtain ⟨hs1, h2⟩ := rdT_some h1
 obtain ⟨noKey, hs3, h3⟩ := rdV_some h2
 obtain ⟨noRow, hs4, h4⟩ := rdV_some h3
 obtain ⟨a, s, hb1, h5⟩ := rdB_some h4
 refine ⟨_, ?_, (espec_StmtOk_p0 noKey noRow a s k).trans h5⟩
 exact mkS_le hn ⟨hs1, hs3, hs4, trivial⟩ ⟨hb1, trivial⟩)
def spec_StmtOk (s : Int × ByteArray × qW × qW × Int × ByteArray × qE × List ByteArray × ByteArray × ByteArray) (k0 : Bool → Res) : Res :=
 spec_WordOk s.2.1 fun (r : Bool) =>
  bif !r then
   k0 false
  else
   spec_StmtOk_p0 ((nI (List.length s.2.2.1)) == 0) ((nI (List.length s.2.2.2.1)) == 0) s fun (t : Bool) =>
    k0 t
def s_spec_StmtOk : Sig Unit := ⟨[.look y17 true], [false], fun vals ext k => av vals y17 fun s vals => nl vals <| nl ext <| spec_StmtOk s (fun (r0 : Bool) => k [⟨.bool, false, r0, []⟩] [] [])⟩
theorem E_spec_StmtOk (s : Int × ByteArray × qW × qW × Int × ByteArray × qE × List ByteArray × ByteArray × ByteArray) (a_s : Bool) (t_s : List Tag) (k : qK) : funC g_spec_StmtOk [xspec_StmtOk_p0] (.t .o (.t .o (.t .o (.t .o (.x 0))))) false Try.f108 [.look y17 true] [false] [⟨y17, a_s, s, t_s⟩] [] k = spec_StmtOk s (fun (r0 : Bool) => k [⟨.bool, false, r0, []⟩] [] []) := by kernel_rfl
theorem S_spec_StmtOk : Sound Try.prog 108 s_spec_StmtOk := sound_of (Γ := g_spec_StmtOk) (X := [xspec_StmtOk_p0]) (ht := (.t .o (.t .o (.t .o (.t .o (.x 0)))))) (fz := false) (c := c_spec_StmtOk) follows tysOk (fns_cons S_spec_WordOk (fns_cons S_spec_l04NoDdl (fns_cons S_spec_l04Vals (fns_cons S_spec_DdlOk fns_nil)))) (OrOk.mk trivial ((OrOk.mk trivial ((OrOk.mk trivial ((OrOk.mk trivial (OrOk.x_mk (fun W0 M hnp => ospec_StmtOk_p0 (W0 := W0) (M := M) hnp))))))))) Try.func108 (by kernel_rfl) (by kernel_rfl) (by decide) (by
 intro vals ext k r h
 obtain ⟨s, a_s, t_s, vals, rfl, h1⟩ := av_some h
 obtain ⟨rfl, h2⟩ := nl_some h1
 obtain ⟨rfl, h3⟩ := nl_some h2
 exact (E_spec_StmtOk s a_s t_s k).trans h3)

/-! ### 193 loop.example/g00462/impl.areVals$1 -/
def c_impl_areVals1 : Code := (Try.f193.body).getD .skip
def g_impl_areVals1 : Env Unit := ⟨tys, [(194, s_impl_ValOk)], 0⟩
def impl_areVals1 (v_ : Int × Int × ByteArray) (k0 : Bool → Res) : Res :=
 impl_ValOk v_ fun (r : Bool) =>
  k0 (!r)
def s_impl_areVals1 : Sig Unit := ⟨[.look y1 true], [false], fun vals ext k => av vals y1 fun v_ vals => nl vals <| nl ext <| impl_areVals1 v_ (fun (r0 : Bool) => k [⟨.bool, false, r0, []⟩] [] [])⟩
theorem E_impl_areVals1 (v_ : Int × Int × ByteArray) (a_v_ : Bool) (t_v_ : List Tag) (k : qK) : funC g_impl_areVals1 [] .o false Try.f193 [.look y1 true] [false] [⟨y1, a_v_, v_, t_v_⟩] [] k = impl_areVals1 v_ (fun (r0 : Bool) => k [⟨.bool, false, r0, []⟩] [] []) := by kernel_rfl
theorem S_impl_areVals1 : Sound Try.prog 193 s_impl_areVals1 := sound_of (Γ := g_impl_areVals1) (X := []) (ht := .o) (fz := false) (c := c_impl_areVals1) follows tysOk (fns_cons S_impl_ValOk fns_nil) trivial Try.func193 (by kernel_rfl) (by kernel_rfl) (by decide) (by
 intro vals ext k r h
 obtain ⟨v_, a_v_, t_v_, vals, rfl, h1⟩ := av_some h
 obtain ⟨rfl, h2⟩ := nl_some h1
 obtain ⟨rfl, h3⟩ := nl_some h2
 exact (E_impl_areVals1 v_ a_v_ t_v_ k).trans h3)

/-! ### 214 slices.IndexFunc[[]loop.example/g00462/impl.Val,loop.example/g00462/impl.Val] -/
def c_slices_IndexFunc_Val : Code := (Try.f214.body).getD .skip
def g_slices_IndexFunc_Val : Env Unit := ⟨tys, [(193, s_impl_areVals1)], 0⟩
def slices_IndexFunc_Val_l0_r (s : List qV) (t7 : Int) (t8 : Int) (rec : Int → Res) (k0 : Unit → Res) (k1 : Int → Res) : Res :=
 bif decide (t8 < t7) then
  bif inb t8 (List.length s) then
   impl_areVals1 (nth (0, 0, eS) s t8) fun (r : Bool) =>
    bif r then
     k1 t8
    else
     rec (wi64 (t8 + 1))
  else none
 else
  k0 ()
def slices_IndexFunc_Val_l0_s (s : List qV) (t7 : Int) : Int → (Int → Res) → ((Unit → Res) × (Int → Res)) → Res := fun v rec q => slices_IndexFunc_Val_l0_r s t7 v (fun t8 => rec (t8)) q.1 q.2
def slices_IndexFunc_Val_l0 (s : List qV) (t7 : Int) (n : Nat) (t8 : Int) (k0 : Unit → Res) (k1 : Int → Res) : Res := iter (slices_IndexFunc_Val_l0_s s t7) n (t8) (k0, k1)
def xslices_IndexFunc_Val_l0 : Node Unit := fun σ k => rdN σ 19 <| rdV σ 0 y2 false [.S] fun s => rdC σ 1 193 [] .unit [] fun f => rdV σ 7 (.int .i64) false [] fun t7 => rdV σ 8 (.int .i64) false [] fun t8 => slices_IndexFunc_Val_l0 s t7 FUEL t8 (fun (_ : Unit) => k (.exit 0) (mkS 19 19 [] [])) (fun (t4 : Int) => k .ret (mkS 19 19 [(4, .val ⟨(.int .i64), false, t4, []⟩)] []))
theorem eslices_IndexFunc_Val_l0 (s : List qV) (f : Unit) (t7 : Int) (n : Nat) (v : Int) (k : Kont Unit) : loopC (codeC g_slices_IndexFunc_Val [] .o (Code.pl (Code.pl (Code.pr (Code.pl (Code.pr c_slices_IndexFunc_Val)))))) (fun σ => σ.forget [0, 1, 7, 8] []) (cutC ([], []) [(0, [], [])] ([4], [])) n (mkS 19 19 [(0, .val ⟨y2, false, s, [.S]⟩), (1, .sclos 193 [] ⟨.unit, false, f, []⟩), (7, .val ⟨(.int .i64), false, t7, []⟩), (8, .val ⟨(.int .i64), false, v, []⟩)] []) k = iter (slices_IndexFunc_Val_l0_s s t7) n v ((fun (k : Kont Unit) => (((fun (_ : Unit) => k (.exit 0) (mkS 19 19 [] [])), (fun (t4 : Int) => k .ret (mkS 19 19 [(4, .val ⟨(.int .i64), false, t4, []⟩)] []))) : (Unit → Res) × (Int → Res))) k) := loop_eq (fun v : Int => (mkS 19 19 [(0, .val ⟨y2, false, s, [.S]⟩), (1, .sclos 193 [] ⟨.unit, false, f, []⟩), (7, .val ⟨(.int .i64), false, t7, []⟩), (8, .val ⟨(.int .i64), false, v, []⟩)] [])) (slices_IndexFunc_Val_l0_s s t7) (fun (k : Kont Unit) => (((fun (_ : Unit) => k (.exit 0) (mkS 19 19 [] [])), (fun (t4 : Int) => k .ret (mkS 19 19 [(4, .val ⟨(.int .i64), false, t4, []⟩)] []))) : (Unit → Res) × (Int → Res))) (fun v rec k => by kernel_rfl) n v k
theorem oslices_IndexFunc_Val_l0 {W0 : Base} {M : Nat → Prop} (hnp : W0.np ≤ 0) : CodeOk Try.prog W0 M (Code.pl (Code.pr (Code.pl (Code.pr c_slices_IndexFunc_Val)))) xslices_IndexFunc_Val_l0 := show CodeOk Try.prog W0 M (Code.loop (Code.pl (Code.pl (Code.pr (Code.pl (Code.pr c_slices_IndexFunc_Val)))))) xslices_IndexFunc_Val_l0 from loop_ok (code_sound follows tysOk (calls_ok (fns_cons S_impl_areVals1 fns_nil)) hnp [] (Code.pl (Code.pl (Code.pr (Code.pl (Code.pr c_slices_IndexFunc_Val))))) .o trivial) (ks := [0, 1, 7, 8]) (bs := []) (fX := (cutC ([], []) [(0, [], [])] ([4], []))) (cutC_le _ _ _) FUEL (by
 intro σ k r h
 obtain ⟨hn, h1⟩ := rdN_some h
 obtain ⟨s, hs0, h2⟩ := rdV_some h1
 obtain ⟨f, hs1, h3⟩ := rdC_some h2
 obtain ⟨t7, hs7, h4⟩ := rdV_some h3
 obtain ⟨t8, hs8, h5⟩ := rdV_some h4
 refine ⟨_, ?_, (eslices_IndexFunc_Val_l0 s f t7 FUEL (t8) k).trans h5⟩
 exact mkS_le hn ⟨hs0, hs1, hs7, hs8, trivial⟩ trivial)
def slices_IndexFunc_Val (s : List qV) (f : Unit) (k0 : Int → Res) : Res :=
 slices_IndexFunc_Val_l0 s (nI (List.length s)) FUEL 0
  (fun (_ : Unit) =>
   k0 (-1))
  (fun (t : Int) =>
   k0 t)
def s_slices_IndexFunc_Val : Sig Unit := ⟨[.look y2 false, .rclos 193 []], [false], fun vals ext k => av vals y2 fun s vals => av vals .unit fun f vals => nl vals <| nl ext <| slices_IndexFunc_Val s f (fun (r0 : Int) => k [⟨(.int .i64), false, r0, []⟩] [] [])⟩
theorem E_slices_IndexFunc_Val (s : List qV) (a_s : Bool) (t_s : List Tag) (f : Unit) (a_f : Bool) (t_f : List Tag) (k : qK) : funC g_slices_IndexFunc_Val [xslices_IndexFunc_Val_l0] (.t .o (.t (.t .o (.t (.x 0) .o)) .o)) false Try.f214 [.look y2 false, .rclos 193 []] [false] [⟨y2, a_s, s, t_s⟩, ⟨.unit, a_f, f, t_f⟩] [] k = slices_IndexFunc_Val s f (fun (r0 : Int) => k [⟨(.int .i64), false, r0, []⟩] [] []) := by kernel_rfl
theorem S_slices_IndexFunc_Val : Sound Try.prog 214 s_slices_IndexFunc_Val := sound_of (Γ := g_slices_IndexFunc_Val) (X := [xslices_IndexFunc_Val_l0]) (ht := (.t .o (.t (.t .o (.t (.x 0) .o)) .o))) (fz := false) (c := c_slices_IndexFunc_Val) follows tysOk (fns_cons S_impl_areVals1 fns_nil) (OrOk.mk trivial ((OrOk.mk ((OrOk.mk trivial ((OrOk.mk (OrOk.x_mk (fun W0 M hnp => oslices_IndexFunc_Val_l0 (W0 := W0) (M := M) hnp)) trivial)))) trivial))) Try.func214 (by kernel_rfl) (by kernel_rfl) (by decide) (by
 intro vals ext k r h
 obtain ⟨s, a_s, t_s, vals, rfl, h1⟩ := av_some h
 obtain ⟨f, a_f, t_f, vals, rfl, h2⟩ := av_some h1
 obtain ⟨rfl, h3⟩ := nl_some h2
 obtain ⟨rfl, h4⟩ := nl_some h3
 exact (E_slices_IndexFunc_Val s a_s t_s f a_f t_f k).trans h4)

/-! ### 192 slices.ContainsFunc[[]loop.example/g00462/impl.Val,loop.example/g00462/impl.Val] -/
def c_slices_ContainsFunc_Val : Code := (Try.f192.body).getD .skip
def g_slices_ContainsFunc_Val : Env Unit := ⟨tys, [(214, s_slices_IndexFunc_Val)], 0⟩
def slices_ContainsFunc_Val (s : List qV) (f : Unit) (k0 : Bool → Res) : Res :=
 slices_IndexFunc_Val s f fun (r : Int) =>
  k0 (decide (r ≥ 0))
def s_slices_ContainsFunc_Val : Sig Unit := ⟨[.look y2 false, .rclos 193 []], [false], fun vals ext k => av vals y2 fun s vals => av vals .unit fun f vals => nl vals <| nl ext <| slices_ContainsFunc_Val s f (fun (r0 : Bool) => k [⟨.bool, false, r0, []⟩] [] [])⟩
theorem E_slices_ContainsFunc_Val (s : List qV) (a_s : Bool) (t_s : List Tag) (f : Unit) (a_f : Bool) (t_f : List Tag) (k : qK) : funC g_slices_ContainsFunc_Val [] .o false Try.f192 [.look y2 false, .rclos 193 []] [false] [⟨y2, a_s, s, t_s⟩, ⟨.unit, a_f, f, t_f⟩] [] k = slices_ContainsFunc_Val s f (fun (r0 : Bool) => k [⟨.bool, false, r0, []⟩] [] []) := by kernel_rfl
theorem S_slices_ContainsFunc_Val : Sound Try.prog 192 s_slices_ContainsFunc_Val := sound_of (Γ := g_slices_ContainsFunc_Val) (X := []) (ht := .o) (fz := false) (c := c_slices_ContainsFunc_Val) follows tysOk (fns_cons S_slices_IndexFunc_Val fns_nil) trivial Try.func192 (by kernel_rfl) (by kernel_rfl) (by decide) (by
 intro vals ext k r h
 obtain ⟨s, a_s, t_s, vals, rfl, h1⟩ := av_some h
 obtain ⟨f, a_f, t_f, vals, rfl, h2⟩ := av_some h1
 obtain ⟨rfl, h3⟩ := nl_some h2
 obtain ⟨rfl, h4⟩ := nl_some h3
 exact (E_slices_ContainsFunc_Val s a_s t_s f a_f t_f k).trans h4)

/-! ### 158 loop.example/g00462/impl.areVals -/
def c_impl_areVals : Code := (Try.f158.body).getD .skip
def g_impl_areVals : Env Unit := ⟨tys, [(104, s_impl_within), (192, s_slices_ContainsFunc_Val)], 0⟩
def impl_areVals (l : List qV) (k0 : Bool → Res) : Res :=
 impl_within (nI (List.length l)) 1 8 fun (r : Bool) =>
  bif r then
   slices_ContainsFunc_Val l () fun (r1 : Bool) =>
    k0 (!r1)
  else
   k0 false
def s_impl_areVals : Sig Unit := ⟨[.look y2 false], [false], fun vals ext k => av vals y2 fun l vals => nl vals <| nl ext <| impl_areVals l (fun (r0 : Bool) => k [⟨.bool, false, r0, []⟩] [] [])⟩
theorem E_impl_areVals (l : List qV) (a_l : Bool) (t_l : List Tag) (k : qK) : funC g_impl_areVals [] .o false Try.f158 [.look y2 false] [false] [⟨y2, a_l, l, t_l⟩] [] k = impl_areVals l (fun (r0 : Bool) => k [⟨.bool, false, r0, []⟩] [] []) := by kernel_rfl
theorem S_impl_areVals : Sound Try.prog 158 s_impl_areVals := sound_of (Γ := g_impl_areVals) (X := []) (ht := .o) (fz := false) (c := c_impl_areVals) follows tysOk (fns_cons S_impl_within (fns_cons S_slices_ContainsFunc_Val fns_nil)) trivial Try.func158 (by kernel_rfl) (by kernel_rfl) (by decide) (by
 intro vals ext k r h
 obtain ⟨l, a_l, t_l, vals, rfl, h1⟩ := av_some h
 obtain ⟨rfl, h2⟩ := nl_some h1
 obtain ⟨rfl, h3⟩ := nl_some h2
 exact (E_impl_areVals l a_l t_l k).trans h3)

/-! ### 114 loop.example/g00462/impl.StmtOk -/
def c_impl_StmtOk : Code := (Try.f114.body).getD .skip
def g_impl_StmtOk : Env Unit := ⟨tys, [(85, s_impl_WordOk), (105, s_impl_equalDdl), (157, s_impl_DdlOk), (158, s_impl_areVals)], 0⟩
def impl_StmtOk_p0 (s : Int × ByteArray × qW × qW × Int × ByteArray × qE × List ByteArray × ByteArray × ByteArray) (k0 : Bool → Res) : Res :=
 bif (s.1 == 1) then
  bif ((nI (List.length s.2.2.1)) == 0) then
   impl_areVals s.2.2.2.1 fun (r : Bool) =>
    k0 r
  else
   k0 false
 else
  bif (s.1 == 2) then
   impl_areVals s.2.2.1 fun (r1 : Bool) =>
    bif r1 then
     impl_areVals s.2.2.2.1 fun (r2 : Bool) =>
      k0 r2
    else
     k0 false
  else
   bif (s.1 == 3) then
    impl_areVals s.2.2.1 fun (r3 : Bool) =>
     bif r3 then
      k0 ((nI (List.length s.2.2.2.1)) == 0)
     else
      k0 false
   else
    bif (s.1 == 4) then
     bif ((nI (List.length s.2.2.1)) == 0) then
      k0 ((nI (List.length s.2.2.2.1)) == 0)
     else
      k0 false
    else
     k0 false
def ximpl_StmtOk_p0 : Node Unit := fun σ k => rdN σ 91 <| rdT σ 1 (.ptr ⟨true, 1, []⟩) <| rdB σ 1 y17 [.S, .S, .S, .S] fun a s => impl_StmtOk_p0 s (fun (t2 : Bool) => k .ret (mkS 91 91 [(2, .val ⟨.bool, false, t2, []⟩)] []))
theorem eimpl_StmtOk_p0 (a : Bool) (s : Int × ByteArray × qW × qW × Int × ByteArray × qE × List ByteArray × ByteArray × ByteArray) (k : Kont Unit) : codeC g_impl_StmtOk [] .o (Code.pr (Code.pr (Code.pr c_impl_StmtOk))) (mkS 91 91 [(1, .ptr ⟨true, 1, []⟩)] [(1, ⟨y17, a, s, [.S, .S, .S, .S]⟩)]) (fun e σ => k e ((cutC ([], []) [] ([2], [])) e σ)) = impl_StmtOk_p0 s (fun (t2 : Bool) => k .ret (mkS 91 91 [(2, .val ⟨.bool, false, t2, []⟩)] [])) := by kernel_rfl
theorem oimpl_StmtOk_p0 {W0 : Base} {M : Nat → Prop} (hnp : W0.np ≤ 0) : CodeOk Try.prog W0 M (Code.pr (Code.pr (Code.pr c_impl_StmtOk))) ximpl_StmtOk_p0 := node_ok (code_sound follows tysOk (calls_ok (fns_cons S_impl_WordOk (fns_cons S_impl_equalDdl (fns_cons S_impl_DdlOk (fns_cons S_impl_areVals fns_nil))))) hnp [] ((Code.pr (Code.pr (Code.pr c_impl_StmtOk)))) .o trivial) (fg := (cutC ([], []) [] ([2], []))) (cutC_le _ _ _) (by
 intro σ k r h
 obtain ⟨hn, h1⟩ := rdN_some h
 obtain ⟨hs1, h2⟩ := rdT_some h1
 obtain ⟨a, s, hb1, h3⟩ := rdB_some h2
 refine ⟨_, ?_, (eimpl_StmtOk_p0 a s k).trans h3⟩
 exact mkS_le hn ⟨hs1, trivial⟩ ⟨hb1, trivial⟩)
def impl_StmtOk (s : Int × ByteArray × qW × qW × Int × ByteArray × qE × List ByteArray × ByteArray × ByteArray) (k0 : Bool → Res) : Res :=
 bif (s.1 == 5) then
  impl_DdlOk s.2.2.2.2 fun (r : Bool) =>
   bif r then
    bif sEq s.2.1 s.2.2.2.2.2.1 then
     bif ((nI (List.length s.2.2.1)) == 0) then
      k0 ((nI (List.length s.2.2.2.1)) == 0)
     else
      k0 false
    else
     k0 false
   else
    k0 false
 else
  impl_WordOk s.2.1 fun (r1 : Bool) =>
   bif !r1 then
    k0 false
   else
    impl_equalDdl s.2.2.2.2 (0, eS, [], [], eS, eS) fun (r2 : Bool) =>
     bif !r2 then
      k0 false
     else
      impl_StmtOk_p0 s fun (t : Bool) =>
       k0 t
def s_impl_StmtOk : Sig Unit := ⟨[.look y17 true], [false], fun vals ext k => av vals y17 fun s vals => nl vals <| nl ext <| impl_StmtOk s (fun (r0 : Bool) => k [⟨.bool, false, r0, []⟩] [] [])⟩
theorem E_impl_StmtOk (s : Int × ByteArray × qW × qW × Int × ByteArray × qE × List ByteArray × ByteArray × ByteArray) (a_s : Bool) (t_s : List Tag) (k : qK) : funC g_impl_StmtOk [ximpl_StmtOk_p0] (.t .o (.t .o (.t .o (.x 0)))) false Try.f114 [.look y17 true] [false] [⟨y17, a_s, s, t_s⟩] [] k = impl_StmtOk s (fun (r0 : Bool) => k [⟨.bool, false, r0, []⟩] [] []) := by kernel_rfl
theorem S_impl_StmtOk : Sound Try.prog 114 s_impl_StmtOk := sound_of (Γ := g_impl_StmtOk) (X := [ximpl_StmtOk_p0]) (ht := (.t .o (.t .o (.t .o (.x 0))))) (fz := false) (c := c_impl_StmtOk) follows tysOk (fns_cons S_impl_WordOk (fns_cons S_impl_equalDdl (fns_cons S_impl_DdlOk (fns_cons S_impl_areVals fns_nil)))) (OrOk.mk trivial ((OrOk.mk trivial ((OrOk.mk trivial (OrOk.x_mk (fun W0 M hnp => oimpl_StmtOk_p0 (W0 := W0) (M := M) hnp))))))) Try.func114 (by kernel_rfl) (by kernel_rfl) (by decide) (by
 intro vals ext k r h
 obtain ⟨s, a_s, t_s, vals, rfl, h1⟩ := av_some h
 obtain ⟨rfl, h2⟩ := nl_some h1
 obtain ⟨rfl, h3⟩ := nl_some h2
 exact (E_impl_StmtOk s a_s t_s k).trans h3)
end Go.PI.G
end
