/-
  Printed texts and plain laws. No conditions.
-/
import Derived.Test.YtcapkiofiipamaaGreatPc
import Derived.Test.YtcapkiofiipamaaGreatProg
set_option linter.unusedVariables false
set_option maxRecDepth 100000
namespace Go.PI.G
open Go Go.PI Go.Proofs
abbrev qV := Int × Int × ByteArray
abbrev qW := List qV
abbrev qC := ByteArray × Int × Bool × Bool × Int × Int × ByteArray
abbrev qE := List qC
abbrev qT := ByteArray × qE × List ByteArray
abbrev qF := List qT
abbrev qR := List qW
abbrev qX := List qR
abbrev qD := qF × List qR
abbrev qS := Int × ByteArray × qW × qW × Int × ByteArray × qE × List ByteArray × ByteArray × ByteArray
abbrev qU := List qS
abbrev qK := List TVal → List TVal → List TVal → Res
abbrev y0 : Ty := .pair (.int .i64) .str
abbrev y1 : Ty := .pair (.int .i64) y0
abbrev y2 : Ty := .pair .bool y1
abbrev y3 : Ty := .pair .bool y2
abbrev y4 : Ty := .pair (.int .i64) y3
abbrev y5 : Ty := .pair .str y4
abbrev y6 : Ty := .slice y5
abbrev y7 : Ty := .slice .str
abbrev y8 : Ty := .pair y6 y7
abbrev y9 : Ty := .pair .str y8
abbrev y10 : Ty := .slice y9
abbrev y11 : Ty := .slice y1
abbrev y12 : Ty := .slice y11
abbrev y13 : Ty := .slice y12
abbrev y14 : Ty := .pair y10 y13
abbrev y15 : Ty := .slice (.int .u8)
def z_m0 : ByteArray := ⟨#[109, 48]⟩
def z_m : ByteArray := ⟨#[109]⟩
def tys : List (TypeId × Ty × List TypeId) := [(3, (.int .i64), []),
 (4, .bool, []),
 (5, (.int .u8), []),
 (9, .str, []),
 (22, y10, []),
 (24, y10, [22]),
 (25, y13, []),
 (27, y14, [24, 25]),
 (29, y7, []),
 (31, y10, []),
 (33, y10, [31]),
 (34, y13, []),
 (36, y14, [33, 34]),
 (44, y7, [29]),
 (47, y7, [29]),
 (72, y6, []),
 (74, y9, [9, 72, 29]),
 (88, y12, []),
 (91, y12, [88]),
 (96, y11, []),
 (98, y11, [96]),
 (121, y12, []),
 (123, y12, [121]),
 (135, y15, []),
 (141, y11, []),
 (143, y11, [141]),
 (144, y6, []),
 (159, y1, [3, 3, 9]),
 (161, y5, [9, 3, 4, 4, 159]),
 (170, y9, [9, 144, 29]),
 (208, y1, [3, 3, 9]),
 (210, y5, [9, 3, 4, 4, 208])]
theorem follows : Tryz.prog.follows .mixedOrders = true := by kernel_rfl
theorem tysOk : TysOk Tryz.prog tys := tysB_ok (by kernel_rfl)
end Go.PI.G
noncomputable section
namespace Go.PI.G
open Go Go.PI Go.Proofs

/-! ### 103 slices.Index[[]string,string] -/
def c_slices_Index_string : Code := (Tryz.f103.body).getD .skip
def g_slices_Index_string : Env Unit := ⟨tys, [], 0⟩
def slices_Index_string_l0_r (s : List ByteArray) (v_ : ByteArray) (t7 : Int) (t8 : Int) (rec : Int → Res) (k0 : Unit → Res) (k1 : Int → Res) : Res :=
 bif decide (t8 < t7) then
  bif inb t8 (List.length s) then
   bif sEq v_ (nth eS s t8) then
    k1 t8
   else
    rec (wi64 (t8 + 1))
  else none
 else
  k0 ()
def slices_Index_string_l0_s (s : List ByteArray) (v_ : ByteArray) (t7 : Int) : Int → (Int → Res) → ((Unit → Res) × (Int → Res)) → Res := fun v rec q => slices_Index_string_l0_r s v_ t7 v (fun t8 => rec (t8)) q.1 q.2
def slices_Index_string_l0 (s : List ByteArray) (v_ : ByteArray) (t7 : Int) (n : Nat) (t8 : Int) (k0 : Unit → Res) (k1 : Int → Res) : Res := iter (slices_Index_string_l0_s s v_ t7) n (t8) (k0, k1)
def xslices_Index_string_l0 : Node Unit := fun σ k => rdN σ 19 <| rdV σ 0 y7 false [.S] fun s => rdV σ 1 .str false [] fun v_ => rdV σ 7 (.int .i64) false [] fun t7 => rdV σ 8 (.int .i64) false [] fun t8 => slices_Index_string_l0 s v_ t7 FUEL t8 (fun (_ : Unit) => k (.exit 0) (mkS 19 19 [] [])) (fun (t4 : Int) => k .ret (mkS 19 19 [(4, .val ⟨(.int .i64), false, t4, []⟩)] []))
theorem eslices_Index_string_l0 (s : List ByteArray) (v_ : ByteArray) (t7 : Int) (n : Nat) (v : Int) (k : Kont Unit) : loopC (codeC g_slices_Index_string [] .o (Code.pl (Code.pl (Code.pr (Code.pl (Code.pr c_slices_Index_string)))))) (fun σ => σ.forget [0, 1, 7, 8] []) (cutC ([], []) [(0, [], [])] ([4], [])) n (mkS 19 19 [(0, .val ⟨y7, false, s, [.S]⟩), (1, .val ⟨.str, false, v_, []⟩), (7, .val ⟨(.int .i64), false, t7, []⟩), (8, .val ⟨(.int .i64), false, v, []⟩)] []) k = iter (slices_Index_string_l0_s s v_ t7) n v ((fun (k : Kont Unit) => (((fun (_ : Unit) => k (.exit 0) (mkS 19 19 [] [])), (fun (t4 : Int) => k .ret (mkS 19 19 [(4, .val ⟨(.int .i64), false, t4, []⟩)] []))) : (Unit → Res) × (Int → Res))) k) := loop_eq (fun v : Int => (mkS 19 19 [(0, .val ⟨y7, false, s, [.S]⟩), (1, .val ⟨.str, false, v_, []⟩), (7, .val ⟨(.int .i64), false, t7, []⟩), (8, .val ⟨(.int .i64), false, v, []⟩)] [])) (slices_Index_string_l0_s s v_ t7) (fun (k : Kont Unit) => (((fun (_ : Unit) => k (.exit 0) (mkS 19 19 [] [])), (fun (t4 : Int) => k .ret (mkS 19 19 [(4, .val ⟨(.int .i64), false, t4, []⟩)] []))) : (Unit → Res) × (Int → Res))) (fun v rec k => by kernel_rfl) n v k
theorem oslices_Index_string_l0 {W0 : Base} {M : Nat → Prop} (hnp : W0.np ≤ 0) : CodeOk Tryz.prog W0 M (Code.pl (Code.pr (Code.pl (Code.pr c_slices_Index_string)))) xslices_Index_string_l0 := show CodeOk Tryz.prog W0 M (Code.loop (Code.pl (Code.pl (Code.pr (Code.pl (Code.pr c_slices_Index_string)))))) xslices_Index_string_l0 from loop_ok (code_sound follows tysOk (calls_ok fns_nil) hnp [] (Code.pl (Code.pl (Code.pr (Code.pl (Code.pr c_slices_Index_string))))) .o trivial) (ks := [0, 1, 7, 8]) (bs := []) (fX := (cutC ([], []) [(0, [], [])] ([4], []))) (cutC_le _ _ _) FUEL (by
 intro σ k r h
 obtain ⟨hn, h1⟩ := rdN_some h
 obtain ⟨s, hs0, h2⟩ := rdV_some h1
 obtain ⟨v_, hs1, h3⟩ := rdV_some h2
 obtain ⟨t7, hs7, h4⟩ := rdV_some h3
 obtain ⟨t8, hs8, h5⟩ := rdV_some h4
 refine ⟨_, ?_, (eslices_Index_string_l0 s v_ t7 FUEL (t8) k).trans h5⟩
 exact mkS_le hn ⟨hs0, hs1, hs7, hs8, trivial⟩ trivial)
def slices_Index_string (s : List ByteArray) (v_ : ByteArray) (k0 : Int → Res) : Res :=
 slices_Index_string_l0 s v_ (nI (List.length s)) FUEL 0
  (fun (_ : Unit) =>
   k0 (-1))
  (fun (t : Int) =>
   k0 t)
def s_slices_Index_string : Sig Unit := ⟨[.look y7 false, .look .str false], [false], fun vals ext k => av vals y7 fun s vals => av vals .str fun v_ vals => nl vals <| nl ext <| slices_Index_string s v_ (fun (r0 : Int) => k [⟨(.int .i64), false, r0, []⟩] [] [])⟩
theorem E_slices_Index_string (s : List ByteArray) (a_s : Bool) (t_s : List Tag) (v_ : ByteArray) (a_v_ : Bool) (t_v_ : List Tag) (k : qK) : funC g_slices_Index_string [xslices_Index_string_l0] (.t .o (.t (.t .o (.t (.x 0) .o)) .o)) false Tryz.f103 [.look y7 false, .look .str false] [false] [⟨y7, a_s, s, t_s⟩, ⟨.str, a_v_, v_, t_v_⟩] [] k = slices_Index_string s v_ (fun (r0 : Int) => k [⟨(.int .i64), false, r0, []⟩] [] []) := by kernel_rfl
theorem S_slices_Index_string : Sound Tryz.prog 103 s_slices_Index_string := sound_of (Γ := g_slices_Index_string) (X := [xslices_Index_string_l0]) (ht := (.t .o (.t (.t .o (.t (.x 0) .o)) .o))) (fz := false) (c := c_slices_Index_string) follows tysOk fns_nil (OrOk.mk trivial ((OrOk.mk ((OrOk.mk trivial ((OrOk.mk (OrOk.x_mk (fun W0 M hnp => oslices_Index_string_l0 (W0 := W0) (M := M) hnp)) trivial)))) trivial))) Tryz.func103 (by kernel_rfl) (by kernel_rfl) (by decide) (by
 intro vals ext k r h
 obtain ⟨s, a_s, t_s, vals, rfl, h1⟩ := av_some h
 obtain ⟨v_, a_v_, t_v_, vals, rfl, h2⟩ := av_some h1
 obtain ⟨rfl, h3⟩ := nl_some h2
 obtain ⟨rfl, h4⟩ := nl_some h3
 exact (E_slices_Index_string s a_s t_s v_ a_v_ t_v_ k).trans h4)

/-! ### 57 slices.Contains[[]string,string] -/
def c_slices_Contains_string : Code := (Tryz.f57.body).getD .skip
def g_slices_Contains_string : Env Unit := ⟨tys, [(103, s_slices_Index_string)], 0⟩
def slices_Contains_string (s : List ByteArray) (v_ : ByteArray) (k0 : Bool → Res) : Res :=
 slices_Index_string s v_ fun (r : Int) =>
  k0 (decide (r ≥ 0))
def s_slices_Contains_string : Sig Unit := ⟨[.look y7 false, .look .str false], [false], fun vals ext k => av vals y7 fun s vals => av vals .str fun v_ vals => nl vals <| nl ext <| slices_Contains_string s v_ (fun (r0 : Bool) => k [⟨.bool, false, r0, []⟩] [] [])⟩
theorem E_slices_Contains_string (s : List ByteArray) (a_s : Bool) (t_s : List Tag) (v_ : ByteArray) (a_v_ : Bool) (t_v_ : List Tag) (k : qK) : funC g_slices_Contains_string [] .o false Tryz.f57 [.look y7 false, .look .str false] [false] [⟨y7, a_s, s, t_s⟩, ⟨.str, a_v_, v_, t_v_⟩] [] k = slices_Contains_string s v_ (fun (r0 : Bool) => k [⟨.bool, false, r0, []⟩] [] []) := by kernel_rfl
theorem S_slices_Contains_string : Sound Tryz.prog 57 s_slices_Contains_string := sound_of (Γ := g_slices_Contains_string) (X := []) (ht := .o) (fz := false) (c := c_slices_Contains_string) follows tysOk (fns_cons S_slices_Index_string fns_nil) trivial Tryz.func57 (by kernel_rfl) (by kernel_rfl) (by decide) (by
 intro vals ext k r h
 obtain ⟨s, a_s, t_s, vals, rfl, h1⟩ := av_some h
 obtain ⟨v_, a_v_, t_v_, vals, rfl, h2⟩ := av_some h1
 obtain ⟨rfl, h3⟩ := nl_some h2
 obtain ⟨rfl, h4⟩ := nl_some h3
 exact (E_slices_Contains_string s a_s t_s v_ a_v_ t_v_ k).trans h4)
end Go.PI.G
end
noncomputable section
namespace Go.PI.G
open Go Go.PI Go.Proofs

/-! ### 99 loop.example/g00462/spec.WordOk -/
def c_spec_WordOk : Code := (Tryz.f99.body).getD .skip
def g_spec_WordOk : Env Unit := ⟨tys, [], 0⟩
def spec_WordOk_l0_r (s : ByteArray) (i : Int) (rec : Int → Res) (k0 : Unit → Res) (k1 : Unit → Res) : Res :=
 bif decide (i < (nI (ByteArray.size s))) then
  bif inb i (ByteArray.size s) then
   bif decide ((bt s i) < 97) then
    k1 ()
   else
    bif inb i (ByteArray.size s) then
     bif decide ((bt s i) > 122) then
      k1 ()
     else
      rec (wi64 (i + 1))
    else none
  else none
 else
  k0 ()
def spec_WordOk_l0_s (s : ByteArray) : Int → (Int → Res) → ((Unit → Res) × (Unit → Res)) → Res := fun v rec q => spec_WordOk_l0_r s v (fun i => rec (i)) q.1 q.2
def spec_WordOk_l0 (s : ByteArray) (n : Nat) (i : Int) (k0 : Unit → Res) (k1 : Unit → Res) : Res := iter (spec_WordOk_l0_s s) n (i) (k0, k1)
def xspec_WordOk_l0 : Node Unit := fun σ k => rdN σ 28 <| rdV σ 0 .str false [] fun s => rdV σ 3 (.int .i64) false [] fun i => spec_WordOk_l0 s FUEL i (fun (_ : Unit) => k (.exit 0) (mkS 28 28 [(0, .val ⟨.str, false, s, []⟩)] [])) (fun (_ : Unit) => k .ret (mkS 28 28 [(2, .val ⟨.bool, false, false, []⟩)] []))
theorem espec_WordOk_l0 (s : ByteArray) (n : Nat) (v : Int) (k : Kont Unit) : loopC (codeC g_spec_WordOk [] .o (Code.pl (Code.pl (Code.pr (Code.pl (Code.pr c_spec_WordOk)))))) (fun σ => σ.forget [0, 3] []) (cutC ([], []) [(0, [0], [])] ([2], [])) n (mkS 28 28 [(0, .val ⟨.str, false, s, []⟩), (3, .val ⟨(.int .i64), false, v, []⟩)] []) k = iter (spec_WordOk_l0_s s) n v ((fun (k : Kont Unit) => (((fun (_ : Unit) => k (.exit 0) (mkS 28 28 [(0, .val ⟨.str, false, s, []⟩)] [])), (fun (_ : Unit) => k .ret (mkS 28 28 [(2, .val ⟨.bool, false, false, []⟩)] []))) : (Unit → Res) × (Unit → Res))) k) := loop_eq (fun v : Int => (mkS 28 28 [(0, .val ⟨.str, false, s, []⟩), (3, .val ⟨(.int .i64), false, v, []⟩)] [])) (spec_WordOk_l0_s s) (fun (k : Kont Unit) => (((fun (_ : Unit) => k (.exit 0) (mkS 28 28 [(0, .val ⟨.str, false, s, []⟩)] [])), (fun (_ : Unit) => k .ret (mkS 28 28 [(2, .val ⟨.bool, false, false, []⟩)] []))) : (Unit → Res) × (Unit → Res))) (fun v rec k => by kernel_rfl) n v k
theorem ospec_WordOk_l0 {W0 : Base} {M : Nat → Prop} (hnp : W0.np ≤ 0) : CodeOk Tryz.prog W0 M (Code.pl (Code.pr (Code.pl (Code.pr c_spec_WordOk)))) xspec_WordOk_l0 := show CodeOk Tryz.prog W0 M (Code.loop (Code.pl (Code.pl (Code.pr (Code.pl (Code.pr c_spec_WordOk)))))) xspec_WordOk_l0 from loop_ok (code_sound follows tysOk (calls_ok fns_nil) hnp [] (Code.pl (Code.pl (Code.pr (Code.pl (Code.pr c_spec_WordOk))))) .o trivial) (ks := [0, 3]) (bs := []) (fX := (cutC ([], []) [(0, [0], [])] ([2], []))) (cutC_le _ _ _) FUEL (by
 intro σ k r h
 obtain ⟨hn, h1⟩ := rdN_some h
 obtain ⟨s, hs0, h2⟩ := rdV_some h1
 obtain ⟨i, hs3, h3⟩ := rdV_some h2
 refine ⟨_, ?_, (espec_WordOk_l0 s FUEL (i) k).trans h3⟩
 exact mkS_le hn ⟨hs0, hs3, trivial⟩ trivial)
def spec_WordOk (s : ByteArray) (k0 : Bool → Res) : Res :=
 spec_WordOk_l0 s FUEL 0
  (fun (_ : Unit) =>
   bif decide ((nI (ByteArray.size s)) ≥ 1) then
    k0 (decide ((nI (ByteArray.size s)) ≤ 8))
   else
    k0 false)
  (fun (_ : Unit) =>
   k0 false)
def s_spec_WordOk : Sig Unit := ⟨[.look .str false], [false], fun vals ext k => av vals .str fun s vals => nl vals <| nl ext <| spec_WordOk s (fun (r0 : Bool) => k [⟨.bool, false, r0, []⟩] [] [])⟩
theorem E_spec_WordOk (s : ByteArray) (a_s : Bool) (t_s : List Tag) (k : qK) : funC g_spec_WordOk [xspec_WordOk_l0] (.t .o (.t (.t .o (.t (.x 0) .o)) .o)) false Tryz.f99 [.look .str false] [false] [⟨.str, a_s, s, t_s⟩] [] k = spec_WordOk s (fun (r0 : Bool) => k [⟨.bool, false, r0, []⟩] [] []) := by kernel_rfl
theorem S_spec_WordOk : Sound Tryz.prog 99 s_spec_WordOk := sound_of (Γ := g_spec_WordOk) (X := [xspec_WordOk_l0]) (ht := (.t .o (.t (.t .o (.t (.x 0) .o)) .o))) (fz := false) (c := c_spec_WordOk) follows tysOk fns_nil (OrOk.mk trivial ((OrOk.mk ((OrOk.mk trivial ((OrOk.mk (OrOk.x_mk (fun W0 M hnp => ospec_WordOk_l0 (W0 := W0) (M := M) hnp)) trivial)))) trivial))) Tryz.func99 (by kernel_rfl) (by kernel_rfl) (by decide) (by
 intro vals ext k r h
 obtain ⟨s, a_s, t_s, vals, rfl, h1⟩ := av_some h
 obtain ⟨rfl, h2⟩ := nl_some h1
 obtain ⟨rfl, h3⟩ := nl_some h2
 exact (E_spec_WordOk s a_s t_s k).trans h3)

/-! ### 191 loop.example/g00462/spec.l01Num -/
def c_spec_l01Num : Code := (Tryz.f191.body).getD .skip
def g_spec_l01Num : Env Unit := ⟨tys, [], 0⟩
def spec_l01Num (n_ : Int) (k0 : Bool → Res) : Res :=
 bif decide (n_ ≥ (-1099511627775)) then
  k0 (decide (n_ ≤ 1099511627775))
 else
  k0 false
def s_spec_l01Num : Sig Unit := ⟨[.look (.int .i64) false], [false], fun vals ext k => av vals (.int .i64) fun n_ vals => nl vals <| nl ext <| spec_l01Num n_ (fun (r0 : Bool) => k [⟨.bool, false, r0, []⟩] [] [])⟩
theorem E_spec_l01Num (n_ : Int) (a_n_ : Bool) (t_n_ : List Tag) (k : qK) : funC g_spec_l01Num [] .o false Tryz.f191 [.look (.int .i64) false] [false] [⟨(.int .i64), a_n_, n_, t_n_⟩] [] k = spec_l01Num n_ (fun (r0 : Bool) => k [⟨.bool, false, r0, []⟩] [] []) := by kernel_rfl
theorem S_spec_l01Num : Sound Tryz.prog 191 s_spec_l01Num := sound_of (Γ := g_spec_l01Num) (X := []) (ht := .o) (fz := false) (c := c_spec_l01Num) follows tysOk fns_nil trivial Tryz.func191 (by kernel_rfl) (by kernel_rfl) (by decide) (by
 intro vals ext k r h
 obtain ⟨n_, a_n_, t_n_, vals, rfl, h1⟩ := av_some h
 obtain ⟨rfl, h2⟩ := nl_some h1
 obtain ⟨rfl, h3⟩ := nl_some h2
 exact (E_spec_l01Num n_ a_n_ t_n_ k).trans h3)

/-! ### 168 loop.example/g00462/spec.ValOk -/
def c_spec_ValOk : Code := (Tryz.f168.body).getD .skip
def g_spec_ValOk : Env Unit := ⟨tys, [(191, s_spec_l01Num)], 0⟩
def spec_ValOk (v_ : Int × Int × ByteArray) (k0 : Bool → Res) : Res :=
 bif (v_.1 == 0) then
  bif (v_.2.1 == 0) then
   k0 (sEq v_.2.2 eS)
  else
   k0 false
 else
  bif (v_.1 == 1) then
   bif (v_.2.1 == 0) then
    k0 (sEq v_.2.2 eS)
   else
    bif (v_.2.1 == 1) then
     k0 (sEq v_.2.2 eS)
    else
     k0 false
  else
   bif (v_.1 == 2) then
    spec_l01Num v_.2.1 fun (r : Bool) =>
     bif r then
      k0 (sEq v_.2.2 eS)
     else
      k0 false
   else
    bif (v_.1 == 3) then
     bif (v_.2.1 == 0) then
      k0 (decide ((nI (ByteArray.size v_.2.2)) ≤ 30))
     else
      k0 false
    else
     k0 false
def s_spec_ValOk : Sig Unit := ⟨[.look y1 true], [false], fun vals ext k => av vals y1 fun v_ vals => nl vals <| nl ext <| spec_ValOk v_ (fun (r0 : Bool) => k [⟨.bool, false, r0, []⟩] [] [])⟩
theorem E_spec_ValOk (v_ : Int × Int × ByteArray) (a_v_ : Bool) (t_v_ : List Tag) (k : qK) : funC g_spec_ValOk [] .o false Tryz.f168 [.look y1 true] [false] [⟨y1, a_v_, v_, t_v_⟩] [] k = spec_ValOk v_ (fun (r0 : Bool) => k [⟨.bool, false, r0, []⟩] [] []) := by kernel_rfl
theorem S_spec_ValOk : Sound Tryz.prog 168 s_spec_ValOk := sound_of (Γ := g_spec_ValOk) (X := []) (ht := .o) (fz := false) (c := c_spec_ValOk) follows tysOk (fns_cons S_spec_l01Num fns_nil) trivial Tryz.func168 (by kernel_rfl) (by kernel_rfl) (by decide) (by
 intro vals ext k r h
 obtain ⟨v_, a_v_, t_v_, vals, rfl, h1⟩ := av_some h
 obtain ⟨rfl, h2⟩ := nl_some h1
 obtain ⟨rfl, h3⟩ := nl_some h2
 exact (E_spec_ValOk v_ a_v_ t_v_ k).trans h3)

/-! ### 167 loop.example/g00462/spec.ValLess -/
def c_spec_ValLess : Code := (Tryz.f167.body).getD .skip
def g_spec_ValLess : Env Unit := ⟨tys, [(168, s_spec_ValOk)], 0⟩
def spec_ValLess (a : Int × Int × ByteArray) (b : Int × Int × ByteArray) (k0 : Bool → Res) : Res :=
 spec_ValOk a fun (r : Bool) =>
  bif !r then
   k0 false
  else
   spec_ValOk b fun (r1 : Bool) =>
    bif !r1 then
     k0 false
    else
     bif (a.1 != b.1) then
      k0 (decide (a.1 < b.1))
     else
      bif decide (a.2.1 < b.2.1) then
       k0 true
      else
       bif (a.2.1 == b.2.1) then
        k0 (sLt a.2.2 b.2.2)
       else
        k0 false
def s_spec_ValLess : Sig Unit := ⟨[.look y1 true, .look y1 true], [false], fun vals ext k => av vals y1 fun a vals => av vals y1 fun b vals => nl vals <| nl ext <| spec_ValLess a b (fun (r0 : Bool) => k [⟨.bool, false, r0, []⟩] [] [])⟩
theorem E_spec_ValLess (a : Int × Int × ByteArray) (a_a : Bool) (t_a : List Tag) (b : Int × Int × ByteArray) (a_b : Bool) (t_b : List Tag) (k : qK) : funC g_spec_ValLess [] .o false Tryz.f167 [.look y1 true, .look y1 true] [false] [⟨y1, a_a, a, t_a⟩, ⟨y1, a_b, b, t_b⟩] [] k = spec_ValLess a b (fun (r0 : Bool) => k [⟨.bool, false, r0, []⟩] [] []) := by kernel_rfl
theorem S_spec_ValLess : Sound Tryz.prog 167 s_spec_ValLess := sound_of (Γ := g_spec_ValLess) (X := []) (ht := .o) (fz := false) (c := c_spec_ValLess) follows tysOk (fns_cons S_spec_ValOk fns_nil) trivial Tryz.func167 (by kernel_rfl) (by kernel_rfl) (by decide) (by
 intro vals ext k r h
 obtain ⟨a, a_a, t_a, vals, rfl, h1⟩ := av_some h
 obtain ⟨b, a_b, t_b, vals, rfl, h2⟩ := av_some h1
 obtain ⟨rfl, h3⟩ := nl_some h2
 obtain ⟨rfl, h4⟩ := nl_some h3
 exact (E_spec_ValLess a a_a t_a b a_b t_b k).trans h4)

/-! ### 115 loop.example/g00462/impl.within -/
def c_impl_within : Code := (Tryz.f115.body).getD .skip
def g_impl_within : Env Unit := ⟨tys, [], 0⟩
def impl_within (x : Int) (lo : Int) (hi : Int) (k0 : Bool → Res) : Res :=
 bif decide (x ≥ lo) then
  k0 (decide (x ≤ hi))
 else
  k0 false
def s_impl_within : Sig Unit := ⟨[.look (.int .i64) false, .look (.int .i64) false, .look (.int .i64) false], [false], fun vals ext k => av vals (.int .i64) fun x vals => av vals (.int .i64) fun lo vals => av vals (.int .i64) fun hi vals => nl vals <| nl ext <| impl_within x lo hi (fun (r0 : Bool) => k [⟨.bool, false, r0, []⟩] [] [])⟩
theorem E_impl_within (x : Int) (a_x : Bool) (t_x : List Tag) (lo : Int) (a_lo : Bool) (t_lo : List Tag) (hi : Int) (a_hi : Bool) (t_hi : List Tag) (k : qK) : funC g_impl_within [] .o false Tryz.f115 [.look (.int .i64) false, .look (.int .i64) false, .look (.int .i64) false] [false] [⟨(.int .i64), a_x, x, t_x⟩, ⟨(.int .i64), a_lo, lo, t_lo⟩, ⟨(.int .i64), a_hi, hi, t_hi⟩] [] k = impl_within x lo hi (fun (r0 : Bool) => k [⟨.bool, false, r0, []⟩] [] []) := by kernel_rfl
theorem S_impl_within : Sound Tryz.prog 115 s_impl_within := sound_of (Γ := g_impl_within) (X := []) (ht := .o) (fz := false) (c := c_impl_within) follows tysOk fns_nil trivial Tryz.func115 (by kernel_rfl) (by kernel_rfl) (by decide) (by
 intro vals ext k r h
 obtain ⟨x, a_x, t_x, vals, rfl, h1⟩ := av_some h
 obtain ⟨lo, a_lo, t_lo, vals, rfl, h2⟩ := av_some h1
 obtain ⟨hi, a_hi, t_hi, vals, rfl, h3⟩ := av_some h2
 obtain ⟨rfl, h4⟩ := nl_some h3
 obtain ⟨rfl, h5⟩ := nl_some h4
 exact (E_impl_within x a_x t_x lo a_lo t_lo hi a_hi t_hi k).trans h5)

/-! ### 102 loop.example/g00462/impl.WordOk -/
def c_impl_WordOk : Code := (Tryz.f102.body).getD .skip
def g_impl_WordOk : Env Unit := ⟨tys, [(115, s_impl_within)], 0⟩
def impl_WordOk_l0_r (s : ByteArray) (i : Int) (rec : Int → Res) (k0 : Unit → Res) (k1 : Unit → Res) : Res :=
 bif decide (i < (nI (ByteArray.size s))) then
  bif inb i (ByteArray.size s) then
   bif decide ((bt s i) < 97) then
    k1 ()
   else
    bif inb i (ByteArray.size s) then
     bif decide ((bt s i) > 122) then
      k1 ()
     else
      rec (wi64 (i + 1))
    else none
  else none
 else
  k0 ()
def impl_WordOk_l0_s (s : ByteArray) : Int → (Int → Res) → ((Unit → Res) × (Unit → Res)) → Res := fun v rec q => impl_WordOk_l0_r s v (fun i => rec (i)) q.1 q.2
def impl_WordOk_l0 (s : ByteArray) (n : Nat) (i : Int) (k0 : Unit → Res) (k1 : Unit → Res) : Res := iter (impl_WordOk_l0_s s) n (i) (k0, k1)
def ximpl_WordOk_l0 : Node Unit := fun σ k => rdN σ 23 <| rdV σ 0 .str false [] fun s => rdV σ 3 (.int .i64) false [] fun i => impl_WordOk_l0 s FUEL i (fun (_ : Unit) => k (.exit 0) (mkS 23 23 [(0, .val ⟨.str, false, s, []⟩)] [])) (fun (_ : Unit) => k .ret (mkS 23 23 [(2, .val ⟨.bool, false, false, []⟩)] []))
theorem eimpl_WordOk_l0 (s : ByteArray) (n : Nat) (v : Int) (k : Kont Unit) : loopC (codeC g_impl_WordOk [] .o (Code.pl (Code.pl (Code.pr (Code.pl (Code.pr c_impl_WordOk)))))) (fun σ => σ.forget [0, 3] []) (cutC ([], []) [(0, [0], [])] ([2], [])) n (mkS 23 23 [(0, .val ⟨.str, false, s, []⟩), (3, .val ⟨(.int .i64), false, v, []⟩)] []) k = iter (impl_WordOk_l0_s s) n v ((fun (k : Kont Unit) => (((fun (_ : Unit) => k (.exit 0) (mkS 23 23 [(0, .val ⟨.str, false, s, []⟩)] [])), (fun (_ : Unit) => k .ret (mkS 23 23 [(2, .val ⟨.bool, false, false, []⟩)] []))) : (Unit → Res) × (Unit → Res))) k) := loop_eq (fun v : Int => (mkS 23 23 [(0, .val ⟨.str, false, s, []⟩), (3, .val ⟨(.int .i64), false, v, []⟩)] [])) (impl_WordOk_l0_s s) (fun (k : Kont Unit) => (((fun (_ : Unit) => k (.exit 0) (mkS 23 23 [(0, .val ⟨.str, false, s, []⟩)] [])), (fun (_ : Unit) => k .ret (mkS 23 23 [(2, .val ⟨.bool, false, false, []⟩)] []))) : (Unit → Res) × (Unit → Res))) (fun v rec k => by kernel_rfl) n v k
theorem oimpl_WordOk_l0 {W0 : Base} {M : Nat → Prop} (hnp : W0.np ≤ 0) : CodeOk Tryz.prog W0 M (Code.pl (Code.pr (Code.pl (Code.pr c_impl_WordOk)))) ximpl_WordOk_l0 := show CodeOk Tryz.prog W0 M (Code.loop (Code.pl (Code.pl (Code.pr (Code.pl (Code.pr c_impl_WordOk)))))) ximpl_WordOk_l0 from loop_ok (code_sound follows tysOk (calls_ok (fns_cons S_impl_within fns_nil)) hnp [] (Code.pl (Code.pl (Code.pr (Code.pl (Code.pr c_impl_WordOk))))) .o trivial) (ks := [0, 3]) (bs := []) (fX := (cutC ([], []) [(0, [0], [])] ([2], []))) (cutC_le _ _ _) FUEL (by
 intro σ k r h
 obtain ⟨hn, h1⟩ := rdN_some h
 obtain ⟨s, hs0, h2⟩ := rdV_some h1
 obtain ⟨i, hs3, h3⟩ := rdV_some h2
 refine ⟨_, ?_, (eimpl_WordOk_l0 s FUEL (i) k).trans h3⟩
 exact mkS_le hn ⟨hs0, hs3, trivial⟩ trivial)
def impl_WordOk (s : ByteArray) (k0 : Bool → Res) : Res :=
 impl_WordOk_l0 s FUEL 0
  (fun (_ : Unit) =>
   impl_within (nI (ByteArray.size s)) 1 8 fun (r : Bool) =>
    k0 r)
  (fun (_ : Unit) =>
   k0 false)
def s_impl_WordOk : Sig Unit := ⟨[.look .str false], [false], fun vals ext k => av vals .str fun s vals => nl vals <| nl ext <| impl_WordOk s (fun (r0 : Bool) => k [⟨.bool, false, r0, []⟩] [] [])⟩
theorem E_impl_WordOk (s : ByteArray) (a_s : Bool) (t_s : List Tag) (k : qK) : funC g_impl_WordOk [ximpl_WordOk_l0] (.t .o (.t (.t .o (.t (.x 0) .o)) .o)) false Tryz.f102 [.look .str false] [false] [⟨.str, a_s, s, t_s⟩] [] k = impl_WordOk s (fun (r0 : Bool) => k [⟨.bool, false, r0, []⟩] [] []) := by kernel_rfl
theorem S_impl_WordOk : Sound Tryz.prog 102 s_impl_WordOk := sound_of (Γ := g_impl_WordOk) (X := [ximpl_WordOk_l0]) (ht := (.t .o (.t (.t .o (.t (.x 0) .o)) .o))) (fz := false) (c := c_impl_WordOk) follows tysOk (fns_cons S_impl_within fns_nil) (OrOk.mk trivial ((OrOk.mk ((OrOk.mk trivial ((OrOk.mk (OrOk.x_mk (fun W0 M hnp => oimpl_WordOk_l0 (W0 := W0) (M := M) hnp)) trivial)))) trivial))) Tryz.func102 (by kernel_rfl) (by kernel_rfl) (by decide) (by
 intro vals ext k r h
 obtain ⟨s, a_s, t_s, vals, rfl, h1⟩ := av_some h
 obtain ⟨rfl, h2⟩ := nl_some h1
 obtain ⟨rfl, h3⟩ := nl_some h2
 exact (E_impl_WordOk s a_s t_s k).trans h3)

/-! ### 176 loop.example/g00462/impl.ValOk -/
def c_impl_ValOk : Code := (Tryz.f176.body).getD .skip
def g_impl_ValOk : Env Unit := ⟨tys, [(115, s_impl_within)], 0⟩
def impl_ValOk (v_ : Int × Int × ByteArray) (k0 : Bool → Res) : Res :=
 bif (v_.1 == 0) then
  k0 ((v_.1 == 0) && ((v_.2.1 == 0) && (sEq v_.2.2 eS)))
 else
  bif (v_.1 == 1) then
   impl_within v_.2.1 0 1 fun (r : Bool) =>
    bif r then
     k0 (sEq v_.2.2 eS)
    else
     k0 false
  else
   bif (v_.1 == 2) then
    impl_within v_.2.1 (-1099511627775) 1099511627775 fun (r1 : Bool) =>
     bif r1 then
      k0 (sEq v_.2.2 eS)
     else
      k0 false
   else
    bif (v_.1 == 3) then
     bif (v_.2.1 == 0) then
      k0 (decide ((nI (ByteArray.size v_.2.2)) ≤ 30))
     else
      k0 false
    else
     k0 false
def s_impl_ValOk : Sig Unit := ⟨[.look y1 true], [false], fun vals ext k => av vals y1 fun v_ vals => nl vals <| nl ext <| impl_ValOk v_ (fun (r0 : Bool) => k [⟨.bool, false, r0, []⟩] [] [])⟩
theorem E_impl_ValOk (v_ : Int × Int × ByteArray) (a_v_ : Bool) (t_v_ : List Tag) (k : qK) : funC g_impl_ValOk [] .o false Tryz.f176 [.look y1 true] [false] [⟨y1, a_v_, v_, t_v_⟩] [] k = impl_ValOk v_ (fun (r0 : Bool) => k [⟨.bool, false, r0, []⟩] [] []) := by kernel_rfl
theorem S_impl_ValOk : Sound Tryz.prog 176 s_impl_ValOk := sound_of (Γ := g_impl_ValOk) (X := []) (ht := .o) (fz := false) (c := c_impl_ValOk) follows tysOk (fns_cons S_impl_within fns_nil) trivial Tryz.func176 (by kernel_rfl) (by kernel_rfl) (by decide) (by
 intro vals ext k r h
 obtain ⟨v_, a_v_, t_v_, vals, rfl, h1⟩ := av_some h
 obtain ⟨rfl, h2⟩ := nl_some h1
 obtain ⟨rfl, h3⟩ := nl_some h2
 exact (E_impl_ValOk v_ a_v_ t_v_ k).trans h3)

/-! ### 175 loop.example/g00462/impl.ValLess -/
def c_impl_ValLess : Code := (Tryz.f175.body).getD .skip
def g_impl_ValLess : Env Unit := ⟨tys, [(176, s_impl_ValOk)], 0⟩
def impl_ValLess (a : Int × Int × ByteArray) (b : Int × Int × ByteArray) (k0 : Bool → Res) : Res :=
 impl_ValOk a fun (r : Bool) =>
  bif !r then
   k0 false
  else
   impl_ValOk b fun (r1 : Bool) =>
    bif !r1 then
     k0 false
    else
     bif (a.1 != b.1) then
      k0 (decide (a.1 < b.1))
     else
      bif (a.2.1 != b.2.1) then
       k0 (decide (a.2.1 < b.2.1))
      else
       k0 (sLt a.2.2 b.2.2)
def s_impl_ValLess : Sig Unit := ⟨[.look y1 true, .look y1 true], [false], fun vals ext k => av vals y1 fun a vals => av vals y1 fun b vals => nl vals <| nl ext <| impl_ValLess a b (fun (r0 : Bool) => k [⟨.bool, false, r0, []⟩] [] [])⟩
theorem E_impl_ValLess (a : Int × Int × ByteArray) (a_a : Bool) (t_a : List Tag) (b : Int × Int × ByteArray) (a_b : Bool) (t_b : List Tag) (k : qK) : funC g_impl_ValLess [] .o false Tryz.f175 [.look y1 true, .look y1 true] [false] [⟨y1, a_a, a, t_a⟩, ⟨y1, a_b, b, t_b⟩] [] k = impl_ValLess a b (fun (r0 : Bool) => k [⟨.bool, false, r0, []⟩] [] []) := by kernel_rfl
theorem S_impl_ValLess : Sound Tryz.prog 175 s_impl_ValLess := sound_of (Γ := g_impl_ValLess) (X := []) (ht := .o) (fz := false) (c := c_impl_ValLess) follows tysOk (fns_cons S_impl_ValOk fns_nil) trivial Tryz.func175 (by kernel_rfl) (by kernel_rfl) (by decide) (by
 intro vals ext k r h
 obtain ⟨a, a_a, t_a, vals, rfl, h1⟩ := av_some h
 obtain ⟨b, a_b, t_b, vals, rfl, h2⟩ := av_some h1
 obtain ⟨rfl, h3⟩ := nl_some h2
 obtain ⟨rfl, h4⟩ := nl_some h3
 exact (E_impl_ValLess a a_a t_a b a_b t_b k).trans h4)
end Go.PI.G
end
