/-
  Printed texts and plain laws. No conditions.
-/
import Derived.Test.YtiieddiheadocaaPc
import Derived.Test.YtiieddiheadocaaProg
set_option linter.unusedVariables false
set_option maxRecDepth 100000
namespace Go.PI.G
open Go Go.PI Go.Proofs
abbrev qV := Int × Int × ByteArray
abbrev qW := List qV
abbrev qC := ByteArray × Int × Bool × Bool × Int × Int × ByteArray
abbrev qE := List qC
abbrev qT := ByteArray × qE × List ByteArray
abbrev qF := List qT
abbrev qR := List qW
abbrev qX := List qR
abbrev qD := qF × List qR
abbrev qS := Int × ByteArray × qW × qW × Int × ByteArray × qE × List ByteArray × ByteArray × ByteArray
abbrev qU := List qS
abbrev qK := List TVal → List TVal → List TVal → Res
abbrev y0 : Ty := .pair (.int .i64) .str
abbrev y1 : Ty := .pair (.int .i64) y0
abbrev y2 : Ty := .slice y1
abbrev y3 : Ty := .pair .bool y1
abbrev y4 : Ty := .pair .bool y3
abbrev y5 : Ty := .pair (.int .i64) y4
abbrev y6 : Ty := .pair .str y5
abbrev y7 : Ty := .slice y6
abbrev y8 : Ty := .slice .str
abbrev y9 : Ty := .pair .str .str
abbrev y10 : Ty := .pair y8 y9
abbrev y11 : Ty := .pair y7 y10
abbrev y12 : Ty := .pair .str y11
abbrev y13 : Ty := .pair (.int .i64) y12
abbrev y14 : Ty := .pair y2 y13
abbrev y15 : Ty := .pair y2 y14
abbrev y16 : Ty := .pair .str y15
abbrev y17 : Ty := .pair (.int .i64) y16
abbrev y18 : Ty := .pair (.int .i64) y17
abbrev y19 : Ty := .pair (.int .i64) y18
abbrev y20 : Ty := .pair (.int .i64) (.int .i64)
abbrev y21 : Ty := .pair (.int .i64) y20
abbrev y22 : Ty := .pair y19 y21
abbrev y23 : Ty := .pair (.int .i64) y22
abbrev y24 : Ty := .slice (.int .u8)
abbrev y25 : Ty := .slice (.int .i64)
abbrev y26 : Ty := .pair y7 y8
abbrev y27 : Ty := .pair .str y26
def z__ : ByteArray := ⟨#[45]⟩
def z_true : ByteArray := ⟨#[116, 114, 117, 101]⟩
def z_false : ByteArray := ⟨#[102, 97, 108, 115, 101]⟩
def z_0123456789abcdef : ByteArray := ⟨#[48, 49, 50, 51, 52, 53, 54, 55, 56, 57, 97, 98, 99, 100, 101, 102]⟩
def z_null : ByteArray := ⟨#[110, 117, 108, 108]⟩
def z___1 : ByteArray := ⟨#[32]⟩
def z_bool : ByteArray := ⟨#[98, 111, 111, 108]⟩
def z_int : ByteArray := ⟨#[105, 110, 116]⟩
def z_text : ByteArray := ⟨#[116, 101, 120, 116]⟩
def z_not : ByteArray := ⟨#[110, 111, 116]⟩
def z___2 : ByteArray := ⟨#[61]⟩
def z___3 : ByteArray := ⟨#[40]⟩
def z___4 : ByteArray := ⟨#[41]⟩
def z_key : ByteArray := ⟨#[107, 101, 121]⟩
def z_create : ByteArray := ⟨#[99, 114, 101, 97, 116, 101]⟩
def z_drop : ByteArray := ⟨#[100, 114, 111, 112]⟩
def z_add : ByteArray := ⟨#[97, 100, 100]⟩
def z_out : ByteArray := ⟨#[111, 117, 116]⟩
def z_name : ByteArray := ⟨#[110, 97, 109, 101]⟩
def z_update : ByteArray := ⟨#[117, 112, 100, 97, 116, 101]⟩
def z_insert : ByteArray := ⟨#[105, 110, 115, 101, 114, 116]⟩
def z_to : ByteArray := ⟨#[116, 111]⟩
def z_delete : ByteArray := ⟨#[100, 101, 108, 101, 116, 101]⟩
def z_clear_ : ByteArray := ⟨#[99, 108, 101, 97, 114, 32]⟩
def z__not : ByteArray := ⟨#[32, 110, 111, 116]⟩
def z___ : ByteArray := ⟨#[32, 61]⟩
def z____ : ByteArray := ⟨#[32, 40, 32]⟩
def z____1 : ByteArray := ⟨#[32, 41]⟩
def z_create_ : ByteArray := ⟨#[99, 114, 101, 97, 116, 101, 32]⟩
def z__key_ : ByteArray := ⟨#[32, 107, 101, 121, 32]⟩
def z_drop_ : ByteArray := ⟨#[100, 114, 111, 112, 32]⟩
def z_begin : ByteArray := ⟨#[98, 101, 103, 105, 110]⟩
def z_do : ByteArray := ⟨#[100, 111]⟩
def z_commit : ByteArray := ⟨#[99, 111, 109, 109, 105, 116]⟩
def z_abort : ByteArray := ⟨#[97, 98, 111, 114, 116]⟩
def z_send : ByteArray := ⟨#[115, 101, 110, 100]⟩
def z_take : ByteArray := ⟨#[116, 97, 107, 101]⟩
def z_save : ByteArray := ⟨#[115, 97, 118, 101]⟩
def z_fall : ByteArray := ⟨#[102, 97, 108, 108]⟩
def z_boot : ByteArray := ⟨#[98, 111, 111, 116]⟩
def z_lose : ByteArray := ⟨#[108, 111, 115, 101]⟩
def z_twice : ByteArray := ⟨#[116, 119, 105, 99, 101]⟩
def z_late : ByteArray := ⟨#[108, 97, 116, 101]⟩
def z_cut : ByteArray := ⟨#[99, 117, 116]⟩
def z_src_ : ByteArray := ⟨#[115, 114, 99, 32]⟩
def tys : List (TypeId × Ty × List TypeId) := [(3, (.int .i64), []),
 (4, .bool, []),
 (5, (.int .u8), []),
 (9, .str, []),
 (22, y2, []),
 (24, y2, [22]),
 (25, y7, []),
 (26, y8, []),
 (28, y13, [3, 9, 25, 26, 9, 9]),
 (30, y17, [3, 9, 22, 24, 28]),
 (32, y19, [3, 3, 30]),
 (34, y23, [3, 32, 3, 3, 3]),
 (37, y2, []),
 (39, y2, [37]),
 (40, y7, []),
 (42, y13, [3, 9, 40, 26, 9, 9]),
 (44, y17, [3, 9, 37, 39, 42]),
 (46, y19, [3, 3, 44]),
 (48, y23, [3, 46, 3, 3, 3]),
 (52, y24, []),
 (65, y25, []),
 (116, y1, [3, 3, 9]),
 (118, y6, [9, 3, 4, 4, 116]),
 (215, y1, [3, 3, 9]),
 (225, y27, [9, 40, 26]),
 (238, y6, [9, 3, 4, 4, 215])]
theorem follows : Try.prog.follows .mixedOrders = true := by kernel_rfl
theorem tysOk : TysOk Try.prog tys := tysB_ok (by kernel_rfl)
end Go.PI.G
noncomputable section
namespace Go.PI.G
open Go Go.PI Go.Proofs

/-! ### 82 loop.example/g00462/spec.WordOk -/
def c_spec_WordOk : Code := (Try.f82.body).getD .skip
def g_spec_WordOk : Env Unit := ⟨tys, [], 0⟩
def spec_WordOk_l0_r (s : ByteArray) (i : Int) (rec : Int → Res) (k0 : Unit → Res) (k1 : Unit → Res) : Res :=
 bif decide (i < (nI (ByteArray.size s))) then
  bif inb i (ByteArray.size s) then
   bif decide ((bt s i) < 97) then
    k1 ()
   else
    bif inb i (ByteArray.size s) then
     bif decide ((bt s i) > 122) then
      k1 ()
     else
      rec (wi64 (i + 1))
    else none
  else none
 else
  k0 ()
def spec_WordOk_l0_s (s : ByteArray) : Int → (Int → Res) → ((Unit → Res) × (Unit → Res)) → Res := fun v rec q => spec_WordOk_l0_r s v (fun i => rec (i)) q.1 q.2
def spec_WordOk_l0 (s : ByteArray) (n : Nat) (i : Int) (k0 : Unit → Res) (k1 : Unit → Res) : Res := iter (spec_WordOk_l0_s s) n (i) (k0, k1)
def xspec_WordOk_l0 : Node Unit := fun σ k => rdN σ 28 <| rdV σ 0 .str false [] fun s => rdV σ 3 (.int .i64) false [] fun i => spec_WordOk_l0 s FUEL i (fun (_ : Unit) => k (.exit 0) (mkS 28 28 [(0, .val ⟨.str, false, s, []⟩)] [])) (fun (_ : Unit) => k .ret (mkS 28 28 [(2, .val ⟨.bool, false, false, []⟩)] []))
theorem espec_WordOk_l0 (s : ByteArray) (n : Nat) (v : Int) (k : Kont Unit) : loopC (codeC g_spec_WordOk [] .o (Code.pl (Code.pl (Code.pr (Code.pl (Code.pr c_spec_WordOk)))))) (fun σ => σ.forget [0, 3] []) (cutC ([], []) [(0, [0], [])] ([2], [])) n (mkS 28 28 [(0, .val ⟨.str, false, s, []⟩), (3, .val ⟨(.int .i64), false, v, []⟩)] []) k = iter (spec_WordOk_l0_s s) n v ((fun (k : Kont Unit) => (((fun (_ : Unit) => k (.exit 0) (mkS 28 28 [(0, .val ⟨.str, false, s, []⟩)] [])), (fun (_ : Unit) => k .ret (mkS 28 28 [(2, .val ⟨.bool, false, false, []⟩)] []))) : (Unit → Res) × (Unit → Res))) k) := loop_eq (fun v : Int => (mkS 28 28 [(0, .val ⟨.str, false, s, []⟩), (3, .val ⟨(.int .i64), false, v, []⟩)] [])) (spec_WordOk_l0_s s) (fun (k : Kont Unit) => (((fun (_ : Unit) => k (.exit 0) (mkS 28 28 [(0, .val ⟨.str, false, s, []⟩)] [])), (fun (_ : Unit) => k .ret (mkS 28 28 [(2, .val ⟨.bool, false, false, []⟩)] []))) : (Unit → Res) × (Unit → Res))) (fun v rec k => by kernel_rfl) n v k
theorem ospec_WordOk_l0 {W0 : Base} {M : Nat → Prop} (hnp : W0.np ≤ 0) : CodeOk Try.prog W0 M (Code.pl (Code.pr (Code.pl (Code.pr c_spec_WordOk)))) xspec_WordOk_l0 := show CodeOk Try.prog W0 M (Code.loop (Code.pl (Code.pl (Code.pr (Code.pl (Code.pr c_spec_WordOk)))))) xspec_WordOk_l0 from loop_ok (code_sound follows tysOk (calls_ok fns_nil) hnp [] (Code.pl (Code.pl (Code.pr (Code.pl (Code.pr c_spec_WordOk))))) .o trivial) (ks := [0, 3]) (bs := []) (fX := (cutC ([], []) [(0, [0], [])] ([2], []))) (cutC_le _ _ _) FUEL (by
 intro σ k r h
 obtain ⟨hn, h1⟩ := rdN_some h
 obtain ⟨s, hs0, h2⟩ := rdV_some h1
 obtain ⟨i, hs3, h3⟩ := rdV_some h2
 refine ⟨_, ?_, (espec_WordOk_l0 s FUEL (i) k).trans h3⟩
 exact mkS_le hn ⟨hs0, hs3, trivial⟩ trivial)
def spec_WordOk (s : ByteArray) (k0 : Bool → Res) : Res :=
 spec_WordOk_l0 s FUEL 0
  (fun (_ : Unit) =>
   bif decide ((nI (ByteArray.size s)) ≥ 1) then
    k0 (decide ((nI (ByteArray.size s)) ≤ 8))
   else
    k0 false)
  (fun (_ : Unit) =>
   k0 false)
def s_spec_WordOk : Sig Unit := ⟨[.look .str false], [false], fun vals ext k => av vals .str fun s vals => nl vals <| nl ext <| spec_WordOk s (fun (r0 : Bool) => k [⟨.bool, false, r0, []⟩] [] [])⟩
theorem E_spec_WordOk (s : ByteArray) (a_s : Bool) (t_s : List Tag) (k : qK) : funC g_spec_WordOk [xspec_WordOk_l0] (.t .o (.t (.t .o (.t (.x 0) .o)) .o)) false Try.f82 [.look .str false] [false] [⟨.str, a_s, s, t_s⟩] [] k = spec_WordOk s (fun (r0 : Bool) => k [⟨.bool, false, r0, []⟩] [] []) := by kernel_rfl
theorem S_spec_WordOk : Sound Try.prog 82 s_spec_WordOk := sound_of (Γ := g_spec_WordOk) (X := [xspec_WordOk_l0]) (ht := (.t .o (.t (.t .o (.t (.x 0) .o)) .o))) (fz := false) (c := c_spec_WordOk) follows tysOk fns_nil (OrOk.mk trivial ((OrOk.mk ((OrOk.mk trivial ((OrOk.mk (OrOk.x_mk (fun W0 M hnp => ospec_WordOk_l0 (W0 := W0) (M := M) hnp)) trivial)))) trivial))) Try.func82 (by kernel_rfl) (by kernel_rfl) (by decide) (by
 intro vals ext k r h
 obtain ⟨s, a_s, t_s, vals, rfl, h1⟩ := av_some h
 obtain ⟨rfl, h2⟩ := nl_some h1
 obtain ⟨rfl, h3⟩ := nl_some h2
 exact (E_spec_WordOk s a_s t_s k).trans h3)

/-! ### 139 loop.example/g00462/spec.l01Num -/
def c_spec_l01Num : Code := (Try.f139.body).getD .skip
def g_spec_l01Num : Env Unit := ⟨tys, [], 0⟩
def spec_l01Num (n_ : Int) (k0 : Bool → Res) : Res :=
 bif decide (n_ ≥ (-1099511627775)) then
  k0 (decide (n_ ≤ 1099511627775))
 else
  k0 false
def s_spec_l01Num : Sig Unit := ⟨[.look (.int .i64) false], [false], fun vals ext k => av vals (.int .i64) fun n_ vals => nl vals <| nl ext <| spec_l01Num n_ (fun (r0 : Bool) => k [⟨.bool, false, r0, []⟩] [] [])⟩
theorem E_spec_l01Num (n_ : Int) (a_n_ : Bool) (t_n_ : List Tag) (k : qK) : funC g_spec_l01Num [] .o false Try.f139 [.look (.int .i64) false] [false] [⟨(.int .i64), a_n_, n_, t_n_⟩] [] k = spec_l01Num n_ (fun (r0 : Bool) => k [⟨.bool, false, r0, []⟩] [] []) := by kernel_rfl
theorem S_spec_l01Num : Sound Try.prog 139 s_spec_l01Num := sound_of (Γ := g_spec_l01Num) (X := []) (ht := .o) (fz := false) (c := c_spec_l01Num) follows tysOk fns_nil trivial Try.func139 (by kernel_rfl) (by kernel_rfl) (by decide) (by
 intro vals ext k r h
 obtain ⟨n_, a_n_, t_n_, vals, rfl, h1⟩ := av_some h
 obtain ⟨rfl, h2⟩ := nl_some h1
 obtain ⟨rfl, h3⟩ := nl_some h2
 exact (E_spec_l01Num n_ a_n_ t_n_ k).trans h3)

/-! ### 186 loop.example/g00462/spec.ValOk -/
def c_spec_ValOk : Code := (Try.f186.body).getD .skip
def g_spec_ValOk : Env Unit := ⟨tys, [(139, s_spec_l01Num)], 0⟩
def spec_ValOk (v_ : Int × Int × ByteArray) (k0 : Bool → Res) : Res :=
 bif (v_.1 == 0) then
  bif (v_.2.1 == 0) then
   k0 (sEq v_.2.2 eS)
  else
   k0 false
 else
  bif (v_.1 == 1) then
   bif (v_.2.1 == 0) then
    k0 (sEq v_.2.2 eS)
   else
    bif (v_.2.1 == 1) then
     k0 (sEq v_.2.2 eS)
    else
     k0 false
  else
   bif (v_.1 == 2) then
    spec_l01Num v_.2.1 fun (r : Bool) =>
     bif r then
      k0 (sEq v_.2.2 eS)
     else
      k0 false
   else
    bif (v_.1 == 3) then
     bif (v_.2.1 == 0) then
      k0 (decide ((nI (ByteArray.size v_.2.2)) ≤ 30))
     else
      k0 false
    else
     k0 false
def s_spec_ValOk : Sig Unit := ⟨[.look y1 true], [false], fun vals ext k => av vals y1 fun v_ vals => nl vals <| nl ext <| spec_ValOk v_ (fun (r0 : Bool) => k [⟨.bool, false, r0, []⟩] [] [])⟩
theorem E_spec_ValOk (v_ : Int × Int × ByteArray) (a_v_ : Bool) (t_v_ : List Tag) (k : qK) : funC g_spec_ValOk [] .o false Try.f186 [.look y1 true] [false] [⟨y1, a_v_, v_, t_v_⟩] [] k = spec_ValOk v_ (fun (r0 : Bool) => k [⟨.bool, false, r0, []⟩] [] []) := by kernel_rfl
theorem S_spec_ValOk : Sound Try.prog 186 s_spec_ValOk := sound_of (Γ := g_spec_ValOk) (X := []) (ht := .o) (fz := false) (c := c_spec_ValOk) follows tysOk (fns_cons S_spec_l01Num fns_nil) trivial Try.func186 (by kernel_rfl) (by kernel_rfl) (by decide) (by
 intro vals ext k r h
 obtain ⟨v_, a_v_, t_v_, vals, rfl, h1⟩ := av_some h
 obtain ⟨rfl, h2⟩ := nl_some h1
 obtain ⟨rfl, h3⟩ := nl_some h2
 exact (E_spec_ValOk v_ a_v_ t_v_ k).trans h3)

/-! ### 98 loop.example/g00462/spec.NumText -/
def c_spec_NumText : Code := (Try.f98.body).getD .skip
def s_spec_NumText (self : Int → (ByteArray → Res) → Res) : Sig Unit := ⟨[.look (.int .i64) false], [false], fun vals ext k => av vals (.int .i64) fun n_ vals => nl vals <| nl ext <| self n_ (fun (r0 : ByteArray) => k [⟨.str, false, r0, []⟩] [] [])⟩
def g_spec_NumText (self : Int → (ByteArray → Res) → Res) : Env Unit := ⟨tys, [(98, (s_spec_NumText self)), (139, s_spec_l01Num)], 0⟩
def spec_NumText_b (self : Int → (ByteArray → Res) → Res) (n_ : Int) (k0 : ByteArray → Res) : Res :=
 spec_l01Num n_ fun (r : Bool) =>
  bif !r then
   k0 eS
  else
   bif decide (n_ < 0) then
    self (wi64 (0 - n_)) fun (r1 : ByteArray) =>
     bif lim (1 + (ByteArray.size r1)) then
      k0 (z__ ++ r1)
     else none
   else
    bif decide (n_ < 10) then
     k0 (ofBytes [wu8 (wi64 (48 + n_))])
    else
     both
      (self (wi64 (Int.tdiv n_ 10)) fun (r2 : ByteArray) =>
       bif lim ((ByteArray.size r2) + (ByteArray.size (ofBytes [wu8 (wi64 (48 + (Int.tmod n_ 10)))]))) then
        k0 (r2 ++ (ofBytes [wu8 (wi64 (48 + (Int.tmod n_ 10)))]))
       else none)
      (self (wi64 (Int.tdiv n_ 10)) fun (r3 : ByteArray) =>
       bif lim ((ByteArray.size r3) + (ByteArray.size (ofBytes [wu8 (wi64 (48 + (Int.tmod n_ 10)))]))) then
        k0 (r3 ++ (ofBytes [wu8 (wi64 (48 + (Int.tmod n_ 10)))]))
       else none)
theorem E_spec_NumText (self : Int → (ByteArray → Res) → Res) (n_ : Int) (a_n_ : Bool) (t_n_ : List Tag) (k : qK) : funC (g_spec_NumText self) [] .o false Try.f98 [.look (.int .i64) false] [false] [⟨(.int .i64), a_n_, n_, t_n_⟩] [] k = spec_NumText_b self n_ (fun (r0 : ByteArray) => k [⟨.str, false, r0, []⟩] [] []) := by kernel_rfl
theorem SS_spec_NumText (self : Int → (ByteArray → Res) → Res) (hself : Sound Try.prog 98 (s_spec_NumText self)) : Sound Try.prog 98 (s_spec_NumText (spec_NumText_b self)) := sound_of (Γ := (g_spec_NumText self)) (X := []) (ht := .o) (fz := false) (c := c_spec_NumText) follows tysOk (fns_cons hself (fns_cons S_spec_l01Num fns_nil)) trivial Try.func98 (by kernel_rfl) (by kernel_rfl) (by decide) (by
 intro vals ext k r h
 obtain ⟨n_, a_n_, t_n_, vals, rfl, h1⟩ := av_some h
 obtain ⟨rfl, h2⟩ := nl_some h1
 obtain ⟨rfl, h3⟩ := nl_some h2
 exact (E_spec_NumText self n_ a_n_ t_n_ k).trans h3)
def spec_NumText : Int → (ByteArray → Res) → Res := recN (fun _ _ => none) spec_NumText_b FUEL
theorem S_spec_NumText : Sound Try.prog 98 (s_spec_NumText spec_NumText) := recN_ind (C := fun t => Sound Try.prog 98 (s_spec_NumText t)) (sound_none (c := c_spec_NumText) Try.func98 (by kernel_rfl) (by kernel_rfl) (by
 intro vals ext k r h
 obtain ⟨n_, a_n_, t_n_, vals, rfl, h1⟩ := av_some h
 obtain ⟨rfl, h2⟩ := nl_some h1
 obtain ⟨rfl, h3⟩ := nl_some h2
 cases h3)) (fun t h => SS_spec_NumText t h) FUEL

/-! ### 205 loop.example/g00462/spec.l01Bool -/
def c_spec_l01Bool : Code := (Try.f205.body).getD .skip
def g_spec_l01Bool : Env Unit := ⟨tys, [], 0⟩
def spec_l01Bool (n_ : Int) (k0 : ByteArray → Res) : Res :=
 bif (n_ == 1) then
  k0 z_true
 else
  k0 z_false
def s_spec_l01Bool : Sig Unit := ⟨[.look (.int .i64) false], [false], fun vals ext k => av vals (.int .i64) fun n_ vals => nl vals <| nl ext <| spec_l01Bool n_ (fun (r0 : ByteArray) => k [⟨.str, false, r0, []⟩] [] [])⟩
theorem E_spec_l01Bool (n_ : Int) (a_n_ : Bool) (t_n_ : List Tag) (k : qK) : funC g_spec_l01Bool [] .o false Try.f205 [.look (.int .i64) false] [false] [⟨(.int .i64), a_n_, n_, t_n_⟩] [] k = spec_l01Bool n_ (fun (r0 : ByteArray) => k [⟨.str, false, r0, []⟩] [] []) := by kernel_rfl
theorem S_spec_l01Bool : Sound Try.prog 205 s_spec_l01Bool := sound_of (Γ := g_spec_l01Bool) (X := []) (ht := .o) (fz := false) (c := c_spec_l01Bool) follows tysOk fns_nil trivial Try.func205 (by kernel_rfl) (by kernel_rfl) (by decide) (by
 intro vals ext k r h
 obtain ⟨n_, a_n_, t_n_, vals, rfl, h1⟩ := av_some h
 obtain ⟨rfl, h2⟩ := nl_some h1
 obtain ⟨rfl, h3⟩ := nl_some h2
 exact (E_spec_l01Bool n_ a_n_ t_n_ k).trans h3)

/-! ### 206 loop.example/g00462/spec.l01Hex -/
def c_spec_l01Hex : Code := (Try.f206.body).getD .skip
def g_spec_l01Hex : Env Unit := ⟨tys, [], 0⟩
def spec_l01Hex (d : Int) (k0 : Int → Res) : Res :=
 bif inb (Int.tmod d 16) 16 then
  k0 (bt z_0123456789abcdef (Int.tmod d 16))
 else none
def s_spec_l01Hex : Sig Unit := ⟨[.look (.int .i64) false], [false], fun vals ext k => av vals (.int .i64) fun d vals => nl vals <| nl ext <| spec_l01Hex d (fun (r0 : Int) => k [⟨(.int .u8), false, r0, []⟩] [] [])⟩
theorem E_spec_l01Hex (d : Int) (a_d : Bool) (t_d : List Tag) (k : qK) : funC g_spec_l01Hex [] .o false Try.f206 [.look (.int .i64) false] [false] [⟨(.int .i64), a_d, d, t_d⟩] [] k = spec_l01Hex d (fun (r0 : Int) => k [⟨(.int .u8), false, r0, []⟩] [] []) := by kernel_rfl
theorem S_spec_l01Hex : Sound Try.prog 206 s_spec_l01Hex := sound_of (Γ := g_spec_l01Hex) (X := []) (ht := .o) (fz := false) (c := c_spec_l01Hex) follows tysOk fns_nil trivial Try.func206 (by kernel_rfl) (by kernel_rfl) (by decide) (by
 intro vals ext k r h
 obtain ⟨d, a_d, t_d, vals, rfl, h1⟩ := av_some h
 obtain ⟨rfl, h2⟩ := nl_some h1
 obtain ⟨rfl, h3⟩ := nl_some h2
 exact (E_spec_l01Hex d a_d t_d k).trans h3)

/-! ### 180 loop.example/g00462/spec.ValText -/
def c_spec_ValText : Code := (Try.f180.body).getD .skip
def g_spec_ValText : Env Unit := ⟨tys, [(98, (s_spec_NumText spec_NumText)), (186, s_spec_ValOk), (205, s_spec_l01Bool), (206, s_spec_l01Hex)], 0⟩
def spec_ValText_p0 (b : Int) (k0 : Bool → Res) : Res :=
 bif decide (b ≥ 33) then
  bif decide (b ≤ 126) then
   bif (b != 39) then
    k0 (b != 37)
   else
    k0 false
  else
   k0 false
 else
  k0 false
def xspec_ValText_p0 : Node Unit := fun σ k => rdN σ 68 <| rdT σ 1 (.ptr ⟨true, 1, []⟩) <| rdV σ 3 y24 false [.O] fun out => rdV σ 4 (.int .i64) false [] fun i => rdV σ 5 (.int .u8) false [] fun b => rdB σ 1 y1 [] fun a v_ => spec_ValText_p0 b (fun (t48 : Bool) => k .normal (mkS 68 68 [(1, .ptr ⟨true, 1, []⟩), (3, .val ⟨y24, false, out, [.O]⟩), (4, .val ⟨(.int .i64), false, i, []⟩), (5, .val ⟨(.int .u8), false, b, []⟩), (48, .val ⟨.bool, false, t48, []⟩)] [(1, ⟨y1, a, v_, []⟩)]))
theorem espec_ValText_p0 (out : List Int) (i : Int) (b : Int) (a : Bool) (v_ : Int × Int × ByteArray) (k : Kont Unit) : codeC g_spec_ValText [] .o (Code.pl (Code.pr (Code.pl (Code.pl (Code.pr (Code.pl (Code.pl (Code.pr (Code.pl (Code.pr (Code.pr (Code.pr (Code.pr c_spec_ValText))))))))))))) (mkS 68 68 [(1, .ptr ⟨true, 1, []⟩), (3, .val ⟨y24, false, out, [.O]⟩), (4, .val ⟨(.int .i64), false, i, []⟩), (5, .val ⟨(.int .u8), false, b, []⟩)] [(1, ⟨y1, a, v_, []⟩)]) (fun e σ => k e ((cutC ([1, 3, 4, 5, 48], [1]) [] ([], [])) e σ)) = spec_ValText_p0 b (fun (t48 : Bool) => k .normal (mkS 68 68 [(1, .ptr ⟨true, 1, []⟩), (3, .val ⟨y24, false, out, [.O]⟩), (4, .val ⟨(.int .i64), false, i, []⟩), (5, .val ⟨(.int .u8), false, b, []⟩), (48, .val ⟨.bool, false, t48, []⟩)] [(1, ⟨y1, a, v_, []⟩)])) := by kernel_rfl
theorem ospec_ValText_p0 {W0 : Base} {M : Nat → Prop} (hnp : W0.np ≤ 0) : CodeOk Try.prog W0 M (Code.pl (Code.pr (Code.pl (Code.pl (Code.pr (Code.pl (Code.pl (Code.pr (Code.pl (Code.pr (Code.pr (Code.pr (Code.pr c_spec_ValText))))))))))))) xspec_ValText_p0 := node_ok (code_sound follows tysOk (calls_ok (fns_cons S_spec_NumText (fns_cons S_spec_ValOk (fns_cons S_spec_l01Bool (fns_cons S_spec_l01Hex fns_nil))))) hnp [] ((Code.pl (Code.pr (Code.pl (Code.pl (Code.pr (Code.pl (Code.pl (Code.pr (Code.pl (Code.pr (Code.pr (Code.pr (Code.pr c_spec_ValText)))))))))))))) .o trivial) (fg := (cutC ([1, 3, 4, 5, 48], [1]) [] ([], []))) (cutC_le _ _ _) (by
 intro σ k r h
 obtain ⟨hn, h1⟩ := rdN_some h
 obtain ⟨hs1, h2⟩ := rdT_some h1
 obtain ⟨out, hs3, h3⟩ := rdV_some h2
 obtain ⟨i, hs4, h4⟩ := rdV_some h3
 obtain ⟨b, hs5, h5⟩ := rdV_some h4
 obtain ⟨a, v_, hb1, h6⟩ := rdB_some h5
 refine ⟨_, ?_, (espec_ValText_p0 out i b a v_ k).trans h6⟩
 exact mkS_le hn ⟨hs1, hs3, hs4, hs5, trivial⟩ ⟨hb1, trivial⟩)
def spec_ValText_l1_r (v_ : Int × Int × ByteArray) (out : List Int) (i : Int) (rec : (List Int) → Int → Res) (k0 : (List Int) → Res) : Res :=
 bif decide (i < (nI (ByteArray.size v_.2.2))) then
  bif inb i (ByteArray.size v_.2.2) then
   spec_ValText_p0 (bt v_.2.2 i) fun (t : Bool) =>
    bif t then
     bif lim ((List.length out) + 1) then
      rec (out ++ [bt v_.2.2 i]) (wi64 (i + 1))
     else none
    else
     spec_l01Hex (wi64 (Int.tdiv (wi64 (bt v_.2.2 i)) 16)) fun (r : Int) =>
      spec_l01Hex (Int.tmod (wi64 (bt v_.2.2 i)) 16) fun (r1 : Int) =>
       bif lim ((List.length out) + 3) then
        rec (out ++ [37, r, r1]) (wi64 (i + 1))
       else none
  else none
 else
  k0 out
def spec_ValText_l1_s (v_ : Int × Int × ByteArray) : ((List Int) × Int) → ((List Int) × Int → Res) → (((List Int) → Res)) → Res := fun v rec q => spec_ValText_l1_r v_ v.1 v.2 (fun out i => rec (out, i)) q
def spec_ValText_l1 (v_ : Int × Int × ByteArray) (n : Nat) (out : List Int) (i : Int) (k0 : (List Int) → Res) : Res := iter (spec_ValText_l1_s v_) n (out, i) (k0)
def xspec_ValText_l1 : Node Unit := fun σ k => rdN σ 68 <| rdT σ 1 (.ptr ⟨true, 1, []⟩) <| rdV σ 3 y24 false [.O] fun out => rdV σ 4 (.int .i64) false [] fun i => rdB σ 1 y1 [] fun a v_ => spec_ValText_l1 v_ FUEL out i (fun (out1 : List Int) => k (.exit 1) (mkS 68 68 [(3, .val ⟨y24, false, out1, [.O]⟩)] []))
theorem espec_ValText_l1 (a : Bool) (v_ : Int × Int × ByteArray) (n : Nat) (v : (List Int) × Int) (k : Kont Unit) : loopC (codeC g_spec_ValText [xspec_ValText_p0] (.t .o (.t (.t (.t .o (.t (.x 0) .o)) .o) .o)) (Code.pl (Code.pl (Code.pr (Code.pl (Code.pr (Code.pr (Code.pr (Code.pr c_spec_ValText))))))))) (fun σ => σ.forget [1, 3, 4] [1]) (cutC ([], []) [(1, [3], [])] ([], [])) n (mkS 68 68 [(1, .ptr ⟨true, 1, []⟩), (3, .val ⟨y24, false, v.1, [.O]⟩), (4, .val ⟨(.int .i64), false, v.2, []⟩)] [(1, ⟨y1, a, v_, []⟩)]) k = iter (spec_ValText_l1_s v_) n v ((fun (k : Kont Unit) => (((fun (out1 : List Int) => k (.exit 1) (mkS 68 68 [(3, .val ⟨y24, false, out1, [.O]⟩)] []))) : ((List Int) → Res))) k) := loop_eq (fun v : (List Int) × Int => (mkS 68 68 [(1, .ptr ⟨true, 1, []⟩), (3, .val ⟨y24, false, v.1, [.O]⟩), (4, .val ⟨(.int .i64), false, v.2, []⟩)] [(1, ⟨y1, a, v_, []⟩)])) (spec_ValText_l1_s v_) (fun (k : Kont Unit) => (((fun (out1 : List Int) => k (.exit 1) (mkS 68 68 [(3, .val ⟨y24, false, out1, [.O]⟩)] []))) : ((List Int) → Res))) (fun v rec k => by kernel_rfl) n v k
theorem ospec_ValText_l1 {W0 : Base} {M : Nat → Prop} (hnp : W0.np ≤ 0) : CodeOk Try.prog W0 M (Code.pl (Code.pr (Code.pl (Code.pr (Code.pr (Code.pr (Code.pr c_spec_ValText))))))) xspec_ValText_l1 := show CodeOk Try.prog W0 M (Code.loop (Code.pl (Code.pl (Code.pr (Code.pl (Code.pr (Code.pr (Code.pr (Code.pr c_spec_ValText))))))))) xspec_ValText_l1 from loop_ok (code_sound follows tysOk (calls_ok (fns_cons S_spec_NumText (fns_cons S_spec_ValOk (fns_cons S_spec_l01Bool (fns_cons S_spec_l01Hex fns_nil))))) hnp [xspec_ValText_p0] (Code.pl (Code.pl (Code.pr (Code.pl (Code.pr (Code.pr (Code.pr (Code.pr c_spec_ValText)))))))) (.t .o (.t (.t (.t .o (.t (.x 0) .o)) .o) .o)) (OrOk.mk trivial ((OrOk.mk ((OrOk.mk ((OrOk.mk trivial ((OrOk.mk (OrOk.x_mk (fun W0 M hnp => ospec_ValText_p0 (W0 := W0) (M := M) hnp)) trivial)))) trivial)) trivial)))) (ks := [1, 3, 4]) (bs := [1]) (fX := (cutC ([], []) [(1, [3], [])] ([], []))) (cutC_le _ _ _) FUEL (by
 intro σ k r h
 obtain ⟨hn, h1⟩ := rdN_some h
 obtain ⟨hs1, h2⟩ := rdT_some h1
 obtain ⟨out, hs3, h3⟩ := rdV_some h2
 obtain ⟨i, hs4, h4⟩ := rdV_some h3
 obtain ⟨a, v_, hb1, h5⟩ := rdB_some h4
 refine ⟨_, ?_, (espec_ValText_l1 a v_ FUEL (out, i) k).trans h5⟩
 exact mkS_le hn ⟨hs1, hs3, hs4, trivial⟩ ⟨hb1, trivial⟩)
def spec_ValText (v_ : Int × Int × ByteArray) (k0 : ByteArray → Res) : Res :=
 spec_ValOk v_ fun (r : Bool) =>
  bif !r then
   k0 eS
  else
   bif (v_.1 == 0) then
    k0 z_null
   else
    bif (v_.1 == 1) then
     spec_l01Bool v_.2.1 fun (r1 : ByteArray) =>
      k0 r1
    else
     bif (v_.1 == 2) then
      spec_NumText v_.2.1 fun (r2 : ByteArray) =>
       k0 r2
     else
      spec_ValText_l1 v_ FUEL [39] 0 fun (out : List Int) =>
       bif lim ((List.length out) + 1) then
        k0 (ofBytes (out ++ [39]))
       else none
def s_spec_ValText : Sig Unit := ⟨[.look y1 true], [false], fun vals ext k => av vals y1 fun v_ vals => nl vals <| nl ext <| spec_ValText v_ (fun (r0 : ByteArray) => k [⟨.str, false, r0, []⟩] [] [])⟩
theorem E_spec_ValText (v_ : Int × Int × ByteArray) (a_v_ : Bool) (t_v_ : List Tag) (k : qK) : funC g_spec_ValText [xspec_ValText_p0, xspec_ValText_l1] (.t .o (.t .o (.t .o (.t .o (.t (.t .o (.t (.x 1) .o)) .o))))) false Try.f180 [.look y1 true] [false] [⟨y1, a_v_, v_, t_v_⟩] [] k = spec_ValText v_ (fun (r0 : ByteArray) => k [⟨.str, false, r0, []⟩] [] []) := by kernel_rfl
theorem S_spec_ValText : Sound Try.prog 180 s_spec_ValText := sound_of (Γ := g_spec_ValText) (X := [xspec_ValText_p0, xspec_ValText_l1]) (ht := (.t .o (.t .o (.t .o (.t .o (.t (.t .o (.t (.x 1) .o)) .o)))))) (fz := false) (c := c_spec_ValText) follows tysOk (fns_cons S_spec_NumText (fns_cons S_spec_ValOk (fns_cons S_spec_l01Bool (fns_cons S_spec_l01Hex fns_nil)))) (OrOk.mk trivial ((OrOk.mk trivial ((OrOk.mk trivial ((OrOk.mk trivial ((OrOk.mk ((OrOk.mk trivial ((OrOk.mk (OrOk.x_mk (fun W0 M hnp => ospec_ValText_l1 (W0 := W0) (M := M) hnp)) trivial)))) trivial))))))))) Try.func180 (by kernel_rfl) (by kernel_rfl) (by decide) (by
 intro vals ext k r h
 obtain ⟨v_, a_v_, t_v_, vals, rfl, h1⟩ := av_some h
 obtain ⟨rfl, h2⟩ := nl_some h1
 obtain ⟨rfl, h3⟩ := nl_some h2
 exact (E_spec_ValText v_ a_v_ t_v_ k).trans h3)

/-! ### 104 loop.example/g00462/impl.within -/
def c_impl_within : Code := (Try.f104.body).getD .skip
def g_impl_within : Env Unit := ⟨tys, [], 0⟩
def impl_within (x : Int) (lo : Int) (hi : Int) (k0 : Bool → Res) : Res :=
 bif decide (x ≥ lo) then
  k0 (decide (x ≤ hi))
 else
  k0 false
def s_impl_within : Sig Unit := ⟨[.look (.int .i64) false, .look (.int .i64) false, .look (.int .i64) false], [false], fun vals ext k => av vals (.int .i64) fun x vals => av vals (.int .i64) fun lo vals => av vals (.int .i64) fun hi vals => nl vals <| nl ext <| impl_within x lo hi (fun (r0 : Bool) => k [⟨.bool, false, r0, []⟩] [] [])⟩
theorem E_impl_within (x : Int) (a_x : Bool) (t_x : List Tag) (lo : Int) (a_lo : Bool) (t_lo : List Tag) (hi : Int) (a_hi : Bool) (t_hi : List Tag) (k : qK) : funC g_impl_within [] .o false Try.f104 [.look (.int .i64) false, .look (.int .i64) false, .look (.int .i64) false] [false] [⟨(.int .i64), a_x, x, t_x⟩, ⟨(.int .i64), a_lo, lo, t_lo⟩, ⟨(.int .i64), a_hi, hi, t_hi⟩] [] k = impl_within x lo hi (fun (r0 : Bool) => k [⟨.bool, false, r0, []⟩] [] []) := by kernel_rfl
theorem S_impl_within : Sound Try.prog 104 s_impl_within := sound_of (Γ := g_impl_within) (X := []) (ht := .o) (fz := false) (c := c_impl_within) follows tysOk fns_nil trivial Try.func104 (by kernel_rfl) (by kernel_rfl) (by decide) (by
 intro vals ext k r h
 obtain ⟨x, a_x, t_x, vals, rfl, h1⟩ := av_some h
 obtain ⟨lo, a_lo, t_lo, vals, rfl, h2⟩ := av_some h1
 obtain ⟨hi, a_hi, t_hi, vals, rfl, h3⟩ := av_some h2
 obtain ⟨rfl, h4⟩ := nl_some h3
 obtain ⟨rfl, h5⟩ := nl_some h4
 exact (E_impl_within x a_x t_x lo a_lo t_lo hi a_hi t_hi k).trans h5)

/-! ### 85 loop.example/g00462/impl.WordOk -/
def c_impl_WordOk : Code := (Try.f85.body).getD .skip
def g_impl_WordOk : Env Unit := ⟨tys, [(104, s_impl_within)], 0⟩
def impl_WordOk_l0_r (s : ByteArray) (i : Int) (rec : Int → Res) (k0 : Unit → Res) (k1 : Unit → Res) : Res :=
 bif decide (i < (nI (ByteArray.size s))) then
  bif inb i (ByteArray.size s) then
   bif decide ((bt s i) < 97) then
    k1 ()
   else
    bif inb i (ByteArray.size s) then
     bif decide ((bt s i) > 122) then
      k1 ()
     else
      rec (wi64 (i + 1))
    else none
  else none
 else
  k0 ()
def impl_WordOk_l0_s (s : ByteArray) : Int → (Int → Res) → ((Unit → Res) × (Unit → Res)) → Res := fun v rec q => impl_WordOk_l0_r s v (fun i => rec (i)) q.1 q.2
def impl_WordOk_l0 (s : ByteArray) (n : Nat) (i : Int) (k0 : Unit → Res) (k1 : Unit → Res) : Res := iter (impl_WordOk_l0_s s) n (i) (k0, k1)
def ximpl_WordOk_l0 : Node Unit := fun σ k => rdN σ 23 <| rdV σ 0 .str false [] fun s => rdV σ 3 (.int .i64) false [] fun i => impl_WordOk_l0 s FUEL i (fun (_ : Unit) => k (.exit 0) (mkS 23 23 [(0, .val ⟨.str, false, s, []⟩)] [])) (fun (_ : Unit) => k .ret (mkS 23 23 [(2, .val ⟨.bool, false, false, []⟩)] []))
theorem eimpl_WordOk_l0 (s : ByteArray) (n : Nat) (v : Int) (k : Kont Unit) : loopC (codeC g_impl_WordOk [] .o (Code.pl (Code.pl (Code.pr (Code.pl (Code.pr c_impl_WordOk)))))) (fun σ => σ.forget [0, 3] []) (cutC ([], []) [(0, [0], [])] ([2], [])) n (mkS 23 23 [(0, .val ⟨.str, false, s, []⟩), (3, .val ⟨(.int .i64), false, v, []⟩)] []) k = iter (impl_WordOk_l0_s s) n v ((fun (k : Kont Unit) => (((fun (_ : Unit) => k (.exit 0) (mkS 23 23 [(0, .val ⟨.str, false, s, []⟩)] [])), (fun (_ : Unit) => k .ret (mkS 23 23 [(2, .val ⟨.bool, false, false, []⟩)] []))) : (Unit → Res) × (Unit → Res))) k) := loop_eq (fun v : Int => (mkS 23 23 [(0, .val ⟨.str, false, s, []⟩), (3, .val ⟨(.int .i64), false, v, []⟩)] [])) (impl_WordOk_l0_s s) (fun (k : Kont Unit) => (((fun (_ : Unit) => k (.exit 0) (mkS 23 23 [(0, .val ⟨.str, false, s, []⟩)] [])), (fun (_ : Unit) => k .ret (mkS 23 23 [(2, .val ⟨.bool, false, false, []⟩)] []))) : (Unit → Res) × (Unit → Res))) (fun v rec k => by kernel_rfl) n v k
theorem oimpl_WordOk_l0 {W0 : Base} {M : Nat → Prop} (hnp : W0.np ≤ 0) : CodeOk Try.prog W0 M (Code.pl (Code.pr (Code.pl (Code.pr c_impl_WordOk)))) ximpl_WordOk_l0 := show CodeOk Try.prog W0 M (Code.loop (Code.pl (Code.pl (Code.pr (Code.pl (Code.pr c_impl_WordOk)))))) ximpl_WordOk_l0 from loop_ok (code_sound follows tysOk (calls_ok (fns_cons S_impl_within fns_nil)) hnp [] (Code.pl (Code.pl (Code.pr (Code.pl (Code.pr c_impl_WordOk))))) .o trivial) (ks := [0, 3]) (bs := []) (fX := (cutC ([], []) [(0, [0], [])] ([2], []))) (cutC_le _ _ _) FUEL (by
 intro σ k r h
 obtain ⟨hn, h1⟩ := rdN_some h
 obtain ⟨s, hs0, h2⟩ := rdV_some h1
 obtain ⟨i, hs3, h3⟩ := rdV_some h2
 refine ⟨_, ?_, (eimpl_WordOk_l0 s FUEL (i) k).trans h3⟩
 exact mkS_le hn ⟨hs0, hs3, trivial⟩ trivial)
def impl_WordOk (s : ByteArray) (k0 : Bool → Res) : Res :=
 impl_WordOk_l0 s FUEL 0
  (fun (_ : Unit) =>
   impl_within (nI (ByteArray.size s)) 1 8 fun (r : Bool) =>
    k0 r)
  (fun (_ : Unit) =>
   k0 false)
def s_impl_WordOk : Sig Unit := ⟨[.look .str false], [false], fun vals ext k => av vals .str fun s vals => nl vals <| nl ext <| impl_WordOk s (fun (r0 : Bool) => k [⟨.bool, false, r0, []⟩] [] [])⟩
theorem E_impl_WordOk (s : ByteArray) (a_s : Bool) (t_s : List Tag) (k : qK) : funC g_impl_WordOk [ximpl_WordOk_l0] (.t .o (.t (.t .o (.t (.x 0) .o)) .o)) false Try.f85 [.look .str false] [false] [⟨.str, a_s, s, t_s⟩] [] k = impl_WordOk s (fun (r0 : Bool) => k [⟨.bool, false, r0, []⟩] [] []) := by kernel_rfl
theorem S_impl_WordOk : Sound Try.prog 85 s_impl_WordOk := sound_of (Γ := g_impl_WordOk) (X := [ximpl_WordOk_l0]) (ht := (.t .o (.t (.t .o (.t (.x 0) .o)) .o))) (fz := false) (c := c_impl_WordOk) follows tysOk (fns_cons S_impl_within fns_nil) (OrOk.mk trivial ((OrOk.mk ((OrOk.mk trivial ((OrOk.mk (OrOk.x_mk (fun W0 M hnp => oimpl_WordOk_l0 (W0 := W0) (M := M) hnp)) trivial)))) trivial))) Try.func85 (by kernel_rfl) (by kernel_rfl) (by decide) (by
 intro vals ext k r h
 obtain ⟨s, a_s, t_s, vals, rfl, h1⟩ := av_some h
 obtain ⟨rfl, h2⟩ := nl_some h1
 obtain ⟨rfl, h3⟩ := nl_some h2
 exact (E_impl_WordOk s a_s t_s k).trans h3)

/-! ### 194 loop.example/g00462/impl.ValOk -/
def c_impl_ValOk : Code := (Try.f194.body).getD .skip
def g_impl_ValOk : Env Unit := ⟨tys, [(104, s_impl_within)], 0⟩
def impl_ValOk (v_ : Int × Int × ByteArray) (k0 : Bool → Res) : Res :=
 bif (v_.1 == 0) then
  k0 ((v_.1 == 0) && ((v_.2.1 == 0) && (sEq v_.2.2 eS)))
 else
  bif (v_.1 == 1) then
   impl_within v_.2.1 0 1 fun (r : Bool) =>
    bif r then
     k0 (sEq v_.2.2 eS)
    else
     k0 false
  else
   bif (v_.1 == 2) then
    impl_within v_.2.1 (-1099511627775) 1099511627775 fun (r1 : Bool) =>
     bif r1 then
      k0 (sEq v_.2.2 eS)
     else
      k0 false
   else
    bif (v_.1 == 3) then
     bif (v_.2.1 == 0) then
      k0 (decide ((nI (ByteArray.size v_.2.2)) ≤ 30))
     else
      k0 false
    else
     k0 false
def s_impl_ValOk : Sig Unit := ⟨[.look y1 true], [false], fun vals ext k => av vals y1 fun v_ vals => nl vals <| nl ext <| impl_ValOk v_ (fun (r0 : Bool) => k [⟨.bool, false, r0, []⟩] [] [])⟩
theorem E_impl_ValOk (v_ : Int × Int × ByteArray) (a_v_ : Bool) (t_v_ : List Tag) (k : qK) : funC g_impl_ValOk [] .o false Try.f194 [.look y1 true] [false] [⟨y1, a_v_, v_, t_v_⟩] [] k = impl_ValOk v_ (fun (r0 : Bool) => k [⟨.bool, false, r0, []⟩] [] []) := by kernel_rfl
theorem S_impl_ValOk : Sound Try.prog 194 s_impl_ValOk := sound_of (Γ := g_impl_ValOk) (X := []) (ht := .o) (fz := false) (c := c_impl_ValOk) follows tysOk (fns_cons S_impl_within fns_nil) trivial Try.func194 (by kernel_rfl) (by kernel_rfl) (by decide) (by
 intro vals ext k r h
 obtain ⟨v_, a_v_, t_v_, vals, rfl, h1⟩ := av_some h
 obtain ⟨rfl, h2⟩ := nl_some h1
 obtain ⟨rfl, h3⟩ := nl_some h2
 exact (E_impl_ValOk v_ a_v_ t_v_ k).trans h3)

/-! ### 49 loop.example/g00462/impl.NumText -/
def c_impl_NumText : Code := (Try.f49.body).getD .skip
def s_impl_NumText (self : Int → (ByteArray → Res) → Res) : Sig Unit := ⟨[.look (.int .i64) false], [false], fun vals ext k => av vals (.int .i64) fun n_ vals => nl vals <| nl ext <| self n_ (fun (r0 : ByteArray) => k [⟨.str, false, r0, []⟩] [] [])⟩
def g_impl_NumText (self : Int → (ByteArray → Res) → Res) : Env Unit := ⟨tys, [(49, (s_impl_NumText self)), (104, s_impl_within)], 0⟩
def impl_NumText_l0_r (self : Int → (ByteArray → Res) → Res) (n_ : Int) (s : ByteArray) (rec : Int → ByteArray → Res) (k0 : Int → ByteArray → Res) : Res :=
 bif decide (n_ > 9) then
  bif lim ((ByteArray.size (ofBytes [wu8 (wi64 (48 + (Int.tmod n_ 10)))])) + (ByteArray.size s)) then
   rec (wi64 (Int.tdiv n_ 10)) ((ofBytes [wu8 (wi64 (48 + (Int.tmod n_ 10)))]) ++ s)
  else none
 else
  k0 n_ s
def impl_NumText_l0_s (self : Int → (ByteArray → Res) → Res) : (Int × ByteArray) → (Int × ByteArray → Res) → ((Int → ByteArray → Res)) → Res := fun v rec q => impl_NumText_l0_r self v.1 v.2 (fun n_ s => rec (n_, s)) q
def impl_NumText_l0 (self : Int → (ByteArray → Res) → Res) (n : Nat) (n_ : Int) (s : ByteArray) (k0 : Int → ByteArray → Res) : Res := iter (impl_NumText_l0_s self) n (n_, s) (k0)
def ximpl_NumText_l0 (self : Int → (ByteArray → Res) → Res) : Node Unit := fun σ k => rdN σ 32 <| rdV σ 0 (.int .i64) false [] fun n_ => rdV σ 3 .str false [] fun s => impl_NumText_l0 self FUEL n_ s (fun (n_1 : Int) (s1 : ByteArray) => k (.exit 0) (mkS 32 32 [(0, .val ⟨(.int .i64), false, n_1, []⟩), (3, .val ⟨.str, false, s1, []⟩)] []))
theorem eimpl_NumText_l0 (self : Int → (ByteArray → Res) → Res)  (n : Nat) (v : Int × ByteArray) (k : Kont Unit) : loopC (codeC (g_impl_NumText self) [] .o (Code.pl (Code.pl (Code.pl (Code.pr (Code.pr (Code.pr (Code.pr c_impl_NumText)))))))) (fun σ => σ.forget [0, 3] []) (cutC ([], []) [(0, [0, 3], [])] ([], [])) n (mkS 32 32 [(0, .val ⟨(.int .i64), false, v.1, []⟩), (3, .val ⟨.str, false, v.2, []⟩)] []) k = iter (impl_NumText_l0_s self) n v ((fun (k : Kont Unit) => (((fun (n_1 : Int) (s1 : ByteArray) => k (.exit 0) (mkS 32 32 [(0, .val ⟨(.int .i64), false, n_1, []⟩), (3, .val ⟨.str, false, s1, []⟩)] []))) : (Int → ByteArray → Res))) k) := loop_eq (fun v : Int × ByteArray => (mkS 32 32 [(0, .val ⟨(.int .i64), false, v.1, []⟩), (3, .val ⟨.str, false, v.2, []⟩)] [])) (impl_NumText_l0_s self) (fun (k : Kont Unit) => (((fun (n_1 : Int) (s1 : ByteArray) => k (.exit 0) (mkS 32 32 [(0, .val ⟨(.int .i64), false, n_1, []⟩), (3, .val ⟨.str, false, s1, []⟩)] []))) : (Int → ByteArray → Res))) (fun v rec k => by kernel_rfl) n v k
theorem oimpl_NumText_l0 (self : Int → (ByteArray → Res) → Res) (hself : Sound Try.prog 49 (s_impl_NumText self)) {W0 : Base} {M : Nat → Prop} (hnp : W0.np ≤ 0) : CodeOk Try.prog W0 M (Code.pl (Code.pl (Code.pr (Code.pr (Code.pr (Code.pr c_impl_NumText)))))) (ximpl_NumText_l0 self) := show CodeOk Try.prog W0 M (Code.loop (Code.pl (Code.pl (Code.pl (Code.pr (Code.pr (Code.pr (Code.pr c_impl_NumText)))))))) (ximpl_NumText_l0 self) from loop_ok (code_sound follows tysOk (calls_ok (fns_cons hself (fns_cons S_impl_within fns_nil))) hnp [] (Code.pl (Code.pl (Code.pl (Code.pr (Code.pr (Code.pr (Code.pr c_impl_NumText))))))) .o trivial) (ks := [0, 3]) (bs := []) (fX := (cutC ([], []) [(0, [0, 3], [])] ([], []))) (cutC_le _ _ _) FUEL (by
 intro σ k r h
 obtain ⟨hn, h1⟩ := rdN_some h
 obtain ⟨n_, hs0, h2⟩ := rdV_some h1
 obtain ⟨s, hs3, h3⟩ := rdV_some h2
 refine ⟨_, ?_, (eimpl_NumText_l0 self  FUEL (n_, s) k).trans h3⟩
 exact mkS_le hn ⟨hs0, hs3, trivial⟩ trivial)
def impl_NumText_b (self : Int → (ByteArray → Res) → Res) (n_ : Int) (k0 : ByteArray → Res) : Res :=
 impl_within n_ (-1099511627775) 1099511627775 fun (r : Bool) =>
  bif !r then
   k0 eS
  else
   bif decide (n_ < 0) then
    self (wi64 (0 - n_)) fun (r1 : ByteArray) =>
     bif lim (1 + (ByteArray.size r1)) then
      k0 (z__ ++ r1)
     else none
   else
    impl_NumText_l0 self FUEL n_ eS fun (n_1 : Int) (s : ByteArray) =>
     bif lim ((ByteArray.size (ofBytes [wu8 (wi64 (48 + n_1))])) + (ByteArray.size s)) then
      k0 ((ofBytes [wu8 (wi64 (48 + n_1))]) ++ s)
     else none
theorem E_impl_NumText (self : Int → (ByteArray → Res) → Res) (n_ : Int) (a_n_ : Bool) (t_n_ : List Tag) (k : qK) : funC (g_impl_NumText self) [(ximpl_NumText_l0 self)] (.t .o (.t .o (.t .o (.t .o (.t (.t (.x 0) .o) .o))))) false Try.f49 [.look (.int .i64) false] [false] [⟨(.int .i64), a_n_, n_, t_n_⟩] [] k = impl_NumText_b self n_ (fun (r0 : ByteArray) => k [⟨.str, false, r0, []⟩] [] []) := by kernel_rfl
theorem SS_impl_NumText (self : Int → (ByteArray → Res) → Res) (hself : Sound Try.prog 49 (s_impl_NumText self)) : Sound Try.prog 49 (s_impl_NumText (impl_NumText_b self)) := sound_of (Γ := (g_impl_NumText self)) (X := [(ximpl_NumText_l0 self)]) (ht := (.t .o (.t .o (.t .o (.t .o (.t (.t (.x 0) .o) .o)))))) (fz := false) (c := c_impl_NumText) follows tysOk (fns_cons hself (fns_cons S_impl_within fns_nil)) (OrOk.mk trivial ((OrOk.mk trivial ((OrOk.mk trivial ((OrOk.mk trivial ((OrOk.mk ((OrOk.mk (OrOk.x_mk (fun W0 M hnp => oimpl_NumText_l0 self hself (W0 := W0) (M := M) hnp)) trivial)) trivial))))))))) Try.func49 (by kernel_rfl) (by kernel_rfl) (by decide) (by
 intro vals ext k r h
 obtain ⟨n_, a_n_, t_n_, vals, rfl, h1⟩ := av_some h
 obtain ⟨rfl, h2⟩ := nl_some h1
 obtain ⟨rfl, h3⟩ := nl_some h2
 exact (E_impl_NumText self n_ a_n_ t_n_ k).trans h3)
def impl_NumText : Int → (ByteArray → Res) → Res := recN (fun _ _ => none) impl_NumText_b FUEL
theorem S_impl_NumText : Sound Try.prog 49 (s_impl_NumText impl_NumText) := recN_ind (C := fun t => Sound Try.prog 49 (s_impl_NumText t)) (sound_none (c := c_impl_NumText) Try.func49 (by kernel_rfl) (by kernel_rfl) (by
 intro vals ext k r h
 obtain ⟨n_, a_n_, t_n_, vals, rfl, h1⟩ := av_some h
 obtain ⟨rfl, h2⟩ := nl_some h1
 obtain ⟨rfl, h3⟩ := nl_some h2
 cases h3)) (fun t h => SS_impl_NumText t h) FUEL

/-! ### 209 loop.example/g00462/impl.boolText -/
def c_impl_boolText : Code := (Try.f209.body).getD .skip
def g_impl_boolText : Env Unit := ⟨tys, [], 0⟩
def impl_boolText (n_ : Int) (k0 : ByteArray → Res) : Res :=
 bif (n_ == 1) then
  k0 z_true
 else
  k0 z_false
def s_impl_boolText : Sig Unit := ⟨[.look (.int .i64) false], [false], fun vals ext k => av vals (.int .i64) fun n_ vals => nl vals <| nl ext <| impl_boolText n_ (fun (r0 : ByteArray) => k [⟨.str, false, r0, []⟩] [] [])⟩
theorem E_impl_boolText (n_ : Int) (a_n_ : Bool) (t_n_ : List Tag) (k : qK) : funC g_impl_boolText [] .o false Try.f209 [.look (.int .i64) false] [false] [⟨(.int .i64), a_n_, n_, t_n_⟩] [] k = impl_boolText n_ (fun (r0 : ByteArray) => k [⟨.str, false, r0, []⟩] [] []) := by kernel_rfl
theorem S_impl_boolText : Sound Try.prog 209 s_impl_boolText := sound_of (Γ := g_impl_boolText) (X := []) (ht := .o) (fz := false) (c := c_impl_boolText) follows tysOk fns_nil trivial Try.func209 (by kernel_rfl) (by kernel_rfl) (by decide) (by
 intro vals ext k r h
 obtain ⟨n_, a_n_, t_n_, vals, rfl, h1⟩ := av_some h
 obtain ⟨rfl, h2⟩ := nl_some h1
 obtain ⟨rfl, h3⟩ := nl_some h2
 exact (E_impl_boolText n_ a_n_ t_n_ k).trans h3)

/-! ### 184 loop.example/g00462/impl.ValText -/
def c_impl_ValText : Code := (Try.f184.body).getD .skip
def g_impl_ValText : Env Unit := ⟨tys, [(49, (s_impl_NumText impl_NumText)), (104, s_impl_within), (194, s_impl_ValOk), (209, s_impl_boolText)], 0⟩
def impl_ValText_p0 (b : Int) (k0 : Bool → Res) : Res :=
 impl_within (wi64 b) 33 126 fun (r : Bool) =>
  bif r then
   bif (b != 39) then
    k0 (b != 37)
   else
    k0 false
  else
   k0 false
def ximpl_ValText_p0 : Node Unit := fun σ k => rdN σ 68 <| rdT σ 1 (.ptr ⟨true, 1, []⟩) <| rdV σ 3 y24 false [.O] fun out => rdV σ 4 (.int .i64) false [] fun i => rdV σ 5 (.int .u8) false [] fun b => rdB σ 1 y1 [] fun a v_ => impl_ValText_p0 b (fun (t50 : Bool) => k .normal (mkS 68 68 [(1, .ptr ⟨true, 1, []⟩), (3, .val ⟨y24, false, out, [.O]⟩), (4, .val ⟨(.int .i64), false, i, []⟩), (5, .val ⟨(.int .u8), false, b, []⟩), (50, .val ⟨.bool, false, t50, []⟩)] [(1, ⟨y1, a, v_, []⟩)]))
theorem eimpl_ValText_p0 (out : List Int) (i : Int) (b : Int) (a : Bool) (v_ : Int × Int × ByteArray) (k : Kont Unit) : codeC g_impl_ValText [] .o (Code.pl (Code.pr (Code.pl (Code.pl (Code.pr (Code.pl (Code.pl (Code.pr (Code.pl (Code.pr (Code.pr (Code.pr c_impl_ValText)))))))))))) (mkS 68 68 [(1, .ptr ⟨true, 1, []⟩), (3, .val ⟨y24, false, out, [.O]⟩), (4, .val ⟨(.int .i64), false, i, []⟩), (5, .val ⟨(.int .u8), false, b, []⟩)] [(1, ⟨y1, a, v_, []⟩)]) (fun e σ => k e ((cutC ([1, 3, 4, 5, 50], [1]) [] ([], [])) e σ)) = impl_ValText_p0 b (fun (t50 : Bool) => k .normal (mkS 68 68 [(1, .ptr ⟨true, 1, []⟩), (3, .val ⟨y24, false, out, [.O]⟩), (4, .val ⟨(.int .i64), false, i, []⟩), (5, .val ⟨(.int .u8), false, b, []⟩), (50, .val ⟨.bool, false, t50, []⟩)] [(1, ⟨y1, a, v_, []⟩)])) := by kernel_rfl
theorem oimpl_ValText_p0 {W0 : Base} {M : Nat → Prop} (hnp : W0.np ≤ 0) : CodeOk Try.prog W0 M (Code.pl (Code.pr (Code.pl (Code.pl (Code.pr (Code.pl (Code.pl (Code.pr (Code.pl (Code.pr (Code.pr (Code.pr c_impl_ValText)))))))))))) ximpl_ValText_p0 := node_ok (code_sound follows tysOk (calls_ok (fns_cons S_impl_NumText (fns_cons S_impl_within (fns_cons S_impl_ValOk (fns_cons S_impl_boolText fns_nil))))) hnp [] ((Code.pl (Code.pr (Code.pl (Code.pl (Code.pr (Code.pl (Code.pl (Code.pr (Code.pl (Code.pr (Code.pr (Code.pr c_impl_ValText))))))))))))) .o trivial) (fg := (cutC ([1, 3, 4, 5, 50], [1]) [] ([], []))) (cutC_le _ _ _) (by
 intro σ k r h
 obtain ⟨hn, h1⟩ := rdN_some h
 obtain ⟨hs1, h2⟩ := rdT_some h1
 obtain ⟨out, hs3, h3⟩ := rdV_some h2
 obtain ⟨i, hs4, h4⟩ := rdV_some h3
 obtain ⟨b, hs5, h5⟩ := rdV_some h4
 obtain ⟨a, v_, hb1, h6⟩ := rdB_some h5
 refine ⟨_, ?_, (eimpl_ValText_p0 out i b a v_ k).trans h6⟩
 exact mkS_le hn ⟨hs1, hs3, hs4, hs5, trivial⟩ ⟨hb1, trivial⟩)
def impl_ValText_l1_r (v_ : Int × Int × ByteArray) (out : List Int) (i : Int) (rec : (List Int) → Int → Res) (k0 : (List Int) → Res) : Res :=
 bif decide (i < (nI (ByteArray.size v_.2.2))) then
  bif inb i (ByteArray.size v_.2.2) then
   impl_ValText_p0 (bt v_.2.2 i) fun (t : Bool) =>
    bif t then
     bif lim ((List.length out) + 1) then
      rec (out ++ [bt v_.2.2 i]) (wi64 (i + 1))
     else none
    else
     bif inb (shrI .u8 (bt v_.2.2 i) 4) 16 then
      bif inb (andI .u8 (bt v_.2.2 i) 15) 16 then
       bif lim ((List.length out) + 3) then
        rec (out ++ [37, bt z_0123456789abcdef (shrI .u8 (bt v_.2.2 i) 4), bt z_0123456789abcdef (andI .u8 (bt v_.2.2 i) 15)]) (wi64 (i + 1))
       else none
      else none
     else none
  else none
 else
  k0 out
def impl_ValText_l1_s (v_ : Int × Int × ByteArray) : ((List Int) × Int) → ((List Int) × Int → Res) → (((List Int) → Res)) → Res := fun v rec q => impl_ValText_l1_r v_ v.1 v.2 (fun out i => rec (out, i)) q
def impl_ValText_l1 (v_ : Int × Int × ByteArray) (n : Nat) (out : List Int) (i : Int) (k0 : (List Int) → Res) : Res := iter (impl_ValText_l1_s v_) n (out, i) (k0)
def ximpl_ValText_l1 : Node Unit := fun σ k => rdN σ 68 <| rdT σ 1 (.ptr ⟨true, 1, []⟩) <| rdV σ 3 y24 false [.O] fun out => rdV σ 4 (.int .i64) false [] fun i => rdB σ 1 y1 [] fun a v_ => impl_ValText_l1 v_ FUEL out i (fun (out1 : List Int) => k (.exit 1) (mkS 68 68 [(3, .val ⟨y24, false, out1, [.O]⟩)] []))
theorem eimpl_ValText_l1 (a : Bool) (v_ : Int × Int × ByteArray) (n : Nat) (v : (List Int) × Int) (k : Kont Unit) : loopC (codeC g_impl_ValText [ximpl_ValText_p0] (.t .o (.t (.t (.t .o (.t (.x 0) .o)) .o) .o)) (Code.pl (Code.pl (Code.pr (Code.pl (Code.pr (Code.pr (Code.pr c_impl_ValText)))))))) (fun σ => σ.forget [1, 3, 4] [1]) (cutC ([], []) [(1, [3], [])] ([], [])) n (mkS 68 68 [(1, .ptr ⟨true, 1, []⟩), (3, .val ⟨y24, false, v.1, [.O]⟩), (4, .val ⟨(.int .i64), false, v.2, []⟩)] [(1, ⟨y1, a, v_, []⟩)]) k = iter (impl_ValText_l1_s v_) n v ((fun (k : Kont Unit) => (((fun (out1 : List Int) => k (.exit 1) (mkS 68 68 [(3, .val ⟨y24, false, out1, [.O]⟩)] []))) : ((List Int) → Res))) k) := loop_eq (fun v : (List Int) × Int => (mkS 68 68 [(1, .ptr ⟨true, 1, []⟩), (3, .val ⟨y24, false, v.1, [.O]⟩), (4, .val ⟨(.int .i64), false, v.2, []⟩)] [(1, ⟨y1, a, v_, []⟩)])) (impl_ValText_l1_s v_) (fun (k : Kont Unit) => (((fun (out1 : List Int) => k (.exit 1) (mkS 68 68 [(3, .val ⟨y24, false, out1, [.O]⟩)] []))) : ((List Int) → Res))) (fun v rec k => by kernel_rfl) n v k
theorem oimpl_ValText_l1 {W0 : Base} {M : Nat → Prop} (hnp : W0.np ≤ 0) : CodeOk Try.prog W0 M (Code.pl (Code.pr (Code.pl (Code.pr (Code.pr (Code.pr c_impl_ValText)))))) ximpl_ValText_l1 := show CodeOk Try.prog W0 M (Code.loop (Code.pl (Code.pl (Code.pr (Code.pl (Code.pr (Code.pr (Code.pr c_impl_ValText)))))))) ximpl_ValText_l1 from loop_ok (code_sound follows tysOk (calls_ok (fns_cons S_impl_NumText (fns_cons S_impl_within (fns_cons S_impl_ValOk (fns_cons S_impl_boolText fns_nil))))) hnp [ximpl_ValText_p0] (Code.pl (Code.pl (Code.pr (Code.pl (Code.pr (Code.pr (Code.pr c_impl_ValText))))))) (.t .o (.t (.t (.t .o (.t (.x 0) .o)) .o) .o)) (OrOk.mk trivial ((OrOk.mk ((OrOk.mk ((OrOk.mk trivial ((OrOk.mk (OrOk.x_mk (fun W0 M hnp => oimpl_ValText_p0 (W0 := W0) (M := M) hnp)) trivial)))) trivial)) trivial)))) (ks := [1, 3, 4]) (bs := [1]) (fX := (cutC ([], []) [(1, [3], [])] ([], []))) (cutC_le _ _ _) FUEL (by
 intro σ k r h
 obtain ⟨hn, h1⟩ := rdN_some h
 obtain ⟨hs1, h2⟩ := rdT_some h1
 obtain ⟨out, hs3, h3⟩ := rdV_some h2
 obtain ⟨i, hs4, h4⟩ := rdV_some h3
 obtain ⟨a, v_, hb1, h5⟩ := rdB_some h4
 refine ⟨_, ?_, (eimpl_ValText_l1 a v_ FUEL (out, i) k).trans h5⟩
 exact mkS_le hn ⟨hs1, hs3, hs4, trivial⟩ ⟨hb1, trivial⟩)
def impl_ValText (v_ : Int × Int × ByteArray) (k0 : ByteArray → Res) : Res :=
 impl_ValOk v_ fun (r : Bool) =>
  bif !r then
   k0 eS
  else
   bif (v_.1 == 0) then
    k0 z_null
   else
    bif (v_.1 == 1) then
     impl_boolText v_.2.1 fun (r1 : ByteArray) =>
      k0 r1
    else
     bif (v_.1 == 2) then
      impl_NumText v_.2.1 fun (r2 : ByteArray) =>
       k0 r2
     else
      impl_ValText_l1 v_ FUEL [39] 0 fun (out : List Int) =>
       bif lim ((List.length out) + 1) then
        k0 (ofBytes (out ++ [39]))
       else none
def s_impl_ValText : Sig Unit := ⟨[.look y1 true], [false], fun vals ext k => av vals y1 fun v_ vals => nl vals <| nl ext <| impl_ValText v_ (fun (r0 : ByteArray) => k [⟨.str, false, r0, []⟩] [] [])⟩
theorem E_impl_ValText (v_ : Int × Int × ByteArray) (a_v_ : Bool) (t_v_ : List Tag) (k : qK) : funC g_impl_ValText [ximpl_ValText_p0, ximpl_ValText_l1] (.t .o (.t .o (.t .o (.t (.t .o (.t (.x 1) .o)) .o)))) false Try.f184 [.look y1 true] [false] [⟨y1, a_v_, v_, t_v_⟩] [] k = impl_ValText v_ (fun (r0 : ByteArray) => k [⟨.str, false, r0, []⟩] [] []) := by kernel_rfl
theorem S_impl_ValText : Sound Try.prog 184 s_impl_ValText := sound_of (Γ := g_impl_ValText) (X := [ximpl_ValText_p0, ximpl_ValText_l1]) (ht := (.t .o (.t .o (.t .o (.t (.t .o (.t (.x 1) .o)) .o))))) (fz := false) (c := c_impl_ValText) follows tysOk (fns_cons S_impl_NumText (fns_cons S_impl_within (fns_cons S_impl_ValOk (fns_cons S_impl_boolText fns_nil)))) (OrOk.mk trivial ((OrOk.mk trivial ((OrOk.mk trivial ((OrOk.mk ((OrOk.mk trivial ((OrOk.mk (OrOk.x_mk (fun W0 M hnp => oimpl_ValText_l1 (W0 := W0) (M := M) hnp)) trivial)))) trivial))))))) Try.func184 (by kernel_rfl) (by kernel_rfl) (by decide) (by
 intro vals ext k r h
 obtain ⟨v_, a_v_, t_v_, vals, rfl, h1⟩ := av_some h
 obtain ⟨rfl, h2⟩ := nl_some h1
 obtain ⟨rfl, h3⟩ := nl_some h2
 exact (E_impl_ValText v_ a_v_ t_v_ k).trans h3)
end Go.PI.G
end
