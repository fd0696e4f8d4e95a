/-
  Printed: what the functions compute. No conditions.
-/
import Derived.Test.YtcapkiofiipamaaGT0
set_option linter.unusedVariables false
set_option maxRecDepth 100000
namespace Go.PI.G
open Go Go.PI Go.Proofs

/-! ### 68 loop.example/g00462/spec.WordOk -/
noncomputable def c_spec_WordOk : Code := (Try.f68.body).getD .skip
noncomputable def g_spec_WordOk : Env Unit := ⟨tys, [], 0⟩
noncomputable def spec_WordOk_l0_r (s : ByteArray) (i : Int) (rec : Int → Res) (k0 : Unit → Res) (k1 : Unit → Res) : Res :=
  bif decide (i < (nI (ByteArray.size s))) then
    bif inb i (ByteArray.size s) then
      bif decide ((bt s i) < 97) then
        k1 ()
      else
        bif inb i (ByteArray.size s) then
          bif decide ((bt s i) > 122) then
            k1 ()
          else
            rec (wi64 (i + 1))
        else none
    else none
  else
    k0 ()
noncomputable def spec_WordOk_l0_s (s : ByteArray) : Int → (Int → Res) → ((Unit → Res) × (Unit → Res)) → Res := fun v rec q => spec_WordOk_l0_r s v (fun i => rec (i)) q.1 q.2
noncomputable def spec_WordOk_l0 (s : ByteArray) (n : Nat) (i : Int) (k0 : Unit → Res) (k1 : Unit → Res) : Res := iter (spec_WordOk_l0_s s) n (i) (k0, k1)
noncomputable def xspec_WordOk_l0 : Node Unit := fun σ k => rdN σ 28 <| rdV σ 0 .str false [] fun s => rdV σ 3 (.int .i64) false [] fun i => spec_WordOk_l0 s FUEL i (fun (_ : Unit) => k (.exit 0) (mkS 28 28 [(0, .val ⟨.str, false, s, []⟩)] [])) (fun (_ : Unit) => k .ret (mkS 28 28 [(2, .val ⟨.bool, false, false, []⟩)] []))
theorem espec_WordOk_l0 (s : ByteArray) (n : Nat) (v : Int) (k : Kont Unit) : loopC (codeC g_spec_WordOk [] .o (Code.pl (Code.pl (Code.pr (Code.pl (Code.pr c_spec_WordOk)))))) (fun σ => σ.forget [0, 3] []) (cutC ([], []) [(0, [0], [])] ([2], [])) n (mkS 28 28 [(0, .val ⟨.str, false, s, []⟩), (3, .val ⟨(.int .i64), false, v, []⟩)] []) k = iter (spec_WordOk_l0_s s) n v ((fun (k : Kont Unit) => (((fun (_ : Unit) => k (.exit 0) (mkS 28 28 [(0, .val ⟨.str, false, s, []⟩)] [])), (fun (_ : Unit) => k .ret (mkS 28 28 [(2, .val ⟨.bool, false, false, []⟩)] []))) : (Unit → Res) × (Unit → Res))) k) := loop_eq (fun v : Int => (mkS 28 28 [(0, .val ⟨.str, false, s, []⟩), (3, .val ⟨(.int .i64), false, v, []⟩)] [])) (spec_WordOk_l0_s s) (fun (k : Kont Unit) => (((fun (_ : Unit) => k (.exit 0) (mkS 28 28 [(0, .val ⟨.str, false, s, []⟩)] [])), (fun (_ : Unit) => k .ret (mkS 28 28 [(2, .val ⟨.bool, false, false, []⟩)] []))) : (Unit → Res) × (Unit → Res))) (fun v rec k => by kernel_rfl) n v k
theorem ospec_WordOk_l0 {W0 : Base} {M : Nat → Prop} (hnp : W0.np ≤ 0) : CodeOk Try.prog W0 M (Code.pl (Code.pr (Code.pl (Code.pr c_spec_WordOk)))) xspec_WordOk_l0 := show CodeOk Try.prog W0 M (Code.loop (Code.pl (Code.pl (Code.pr (Code.pl (Code.pr c_spec_WordOk)))))) xspec_WordOk_l0 from loop_ok (code_sound follows tysOk (calls_ok fns_nil) hnp [] (Code.pl (Code.pl (Code.pr (Code.pl (Code.pr c_spec_WordOk))))) .o trivial) (ks := [0, 3]) (bs := []) (fX := (cutC ([], []) [(0, [0], [])] ([2], []))) (cutC_le _ _ _) FUEL (by
  intro σ k r h
  obtain ⟨hn, h1⟩ := rdN_some h
  obtain ⟨s, hs0, h2⟩ := rdV_some h1
  obtain ⟨i, hs3, h3⟩ := rdV_some h2
  refine ⟨_, ?_, (espec_WordOk_l0 s FUEL (i) k).trans h3⟩
  exact mkS_le hn ⟨hs0, hs3, trivial⟩ trivial)
noncomputable def spec_WordOk (s : ByteArray) (k0 : Bool → Res) : Res :=
  spec_WordOk_l0 s FUEL 0
    (fun (_ : Unit) =>
      bif decide ((nI (ByteArray.size s)) ≥ 1) then
        k0 (decide ((nI (ByteArray.size s)) ≤ 8))
      else
        k0 false)
    (fun (_ : Unit) =>
      k0 false)
noncomputable def s_spec_WordOk : Sig Unit := ⟨[.look .str false], [false], fun vals ext k => av vals .str fun s vals => nl vals <| nl ext <| spec_WordOk s (fun (r0 : Bool) => k [⟨.bool, false, r0, []⟩] [] [])⟩
theorem E_spec_WordOk (s : ByteArray) (a_s : Bool) (t_s : List Tag) (k : List TVal → List TVal → List TVal → Res) : funC g_spec_WordOk [xspec_WordOk_l0] (.t .o (.t (.t .o (.t (.x 0) .o)) .o)) false Try.f68 [.look .str false] [false] [⟨.str, a_s, s, t_s⟩] [] k = spec_WordOk s (fun (r0 : Bool) => k [⟨.bool, false, r0, []⟩] [] []) := by kernel_rfl
theorem S_spec_WordOk : Sound Try.prog 68 s_spec_WordOk := sound_of (Γ := g_spec_WordOk) (X := [xspec_WordOk_l0]) (ht := (.t .o (.t (.t .o (.t (.x 0) .o)) .o))) (fz := false) (c := c_spec_WordOk) follows tysOk fns_nil (OrOk.mk trivial ((OrOk.mk ((OrOk.mk trivial ((OrOk.mk (OrOk.x_mk (fun W0 M hnp => ospec_WordOk_l0 (W0 := W0) (M := M) hnp)) trivial)))) trivial))) Try.func68 (by kernel_rfl) (by kernel_rfl) (by decide) (by
  intro vals ext k r h
  obtain ⟨s, a_s, t_s, vals, rfl, h1⟩ := av_some h
  obtain ⟨rfl, h2⟩ := nl_some h1
  obtain ⟨rfl, h3⟩ := nl_some h2
  exact (E_spec_WordOk s a_s t_s k).trans h3)

/-! ### 266 loop.example/g00462/spec.l01Num -/
noncomputable def c_spec_l01Num : Code := (Try.f266.body).getD .skip
noncomputable def g_spec_l01Num : Env Unit := ⟨tys, [], 0⟩
noncomputable def spec_l01Num (n_ : Int) (k0 : Bool → Res) : Res :=
  bif decide (n_ ≥ (-1099511627775)) then
    k0 (decide (n_ ≤ 1099511627775))
  else
    k0 false
noncomputable def s_spec_l01Num : Sig Unit := ⟨[.look (.int .i64) false], [false], fun vals ext k => av vals (.int .i64) fun n_ vals => nl vals <| nl ext <| spec_l01Num n_ (fun (r0 : Bool) => k [⟨.bool, false, r0, []⟩] [] [])⟩
theorem E_spec_l01Num (n_ : Int) (a_n_ : Bool) (t_n_ : List Tag) (k : List TVal → List TVal → List TVal → Res) : funC g_spec_l01Num [] .o false Try.f266 [.look (.int .i64) false] [false] [⟨(.int .i64), a_n_, n_, t_n_⟩] [] k = spec_l01Num n_ (fun (r0 : Bool) => k [⟨.bool, false, r0, []⟩] [] []) := by kernel_rfl
theorem S_spec_l01Num : Sound Try.prog 266 s_spec_l01Num := sound_of (Γ := g_spec_l01Num) (X := []) (ht := .o) (fz := false) (c := c_spec_l01Num) follows tysOk fns_nil trivial Try.func266 (by kernel_rfl) (by kernel_rfl) (by decide) (by
  intro vals ext k r h
  obtain ⟨n_, a_n_, t_n_, vals, rfl, h1⟩ := av_some h
  obtain ⟨rfl, h2⟩ := nl_some h1
  obtain ⟨rfl, h3⟩ := nl_some h2
  exact (E_spec_l01Num n_ a_n_ t_n_ k).trans h3)

/-! ### 247 loop.example/g00462/spec.ValOk -/
noncomputable def c_spec_ValOk : Code := (Try.f247.body).getD .skip
noncomputable def g_spec_ValOk : Env Unit := ⟨tys, [(266, s_spec_l01Num)], 0⟩
noncomputable def spec_ValOk (v_ : Int × Int × ByteArray) (k0 : Bool → Res) : Res :=
  bif (v_.1 == 0) then
    bif (v_.2.1 == 0) then
      k0 (sEq v_.2.2 eS)
    else
      k0 false
  else
    bif (v_.1 == 1) then
      bif (v_.2.1 == 0) then
        k0 (sEq v_.2.2 eS)
      else
        bif (v_.2.1 == 1) then
          k0 (sEq v_.2.2 eS)
        else
          k0 false
    else
      bif (v_.1 == 2) then
        spec_l01Num v_.2.1 fun (r : Bool) =>
          bif r then
            k0 (sEq v_.2.2 eS)
          else
            k0 false
      else
        bif (v_.1 == 3) then
          bif (v_.2.1 == 0) then
            k0 (decide ((nI (ByteArray.size v_.2.2)) ≤ 30))
          else
            k0 false
        else
          k0 false
noncomputable def s_spec_ValOk : Sig Unit := ⟨[.look y2 true], [false], fun vals ext k => av vals y2 fun v_ vals => nl vals <| nl ext <| spec_ValOk v_ (fun (r0 : Bool) => k [⟨.bool, false, r0, []⟩] [] [])⟩
theorem E_spec_ValOk (v_ : Int × Int × ByteArray) (a_v_ : Bool) (t_v_ : List Tag) (k : List TVal → List TVal → List TVal → Res) : funC g_spec_ValOk [] .o false Try.f247 [.look y2 true] [false] [⟨y2, a_v_, v_, t_v_⟩] [] k = spec_ValOk v_ (fun (r0 : Bool) => k [⟨.bool, false, r0, []⟩] [] []) := by kernel_rfl
theorem S_spec_ValOk : Sound Try.prog 247 s_spec_ValOk := sound_of (Γ := g_spec_ValOk) (X := []) (ht := .o) (fz := false) (c := c_spec_ValOk) follows tysOk (fns_cons S_spec_l01Num fns_nil) trivial Try.func247 (by kernel_rfl) (by kernel_rfl) (by decide) (by
  intro vals ext k r h
  obtain ⟨v_, a_v_, t_v_, vals, rfl, h1⟩ := av_some h
  obtain ⟨rfl, h2⟩ := nl_some h1
  obtain ⟨rfl, h3⟩ := nl_some h2
  exact (E_spec_ValOk v_ a_v_ t_v_ k).trans h3)

/-! ### 240 loop.example/g00462/spec.ValLess -/
noncomputable def c_spec_ValLess : Code := (Try.f240.body).getD .skip
noncomputable def g_spec_ValLess : Env Unit := ⟨tys, [(247, s_spec_ValOk)], 0⟩
noncomputable def spec_ValLess (a : Int × Int × ByteArray) (b : Int × Int × ByteArray) (k0 : Bool → Res) : Res :=
  spec_ValOk a fun (r : Bool) =>
    bif !r then
      k0 false
    else
      spec_ValOk b fun (r1 : Bool) =>
        bif !r1 then
          k0 false
        else
          bif (a.1 != b.1) then
            k0 (decide (a.1 < b.1))
          else
            bif decide (a.2.1 < b.2.1) then
              k0 true
            else
              bif (a.2.1 == b.2.1) then
                k0 (sLt a.2.2 b.2.2)
              else
                k0 false
noncomputable def s_spec_ValLess : Sig Unit := ⟨[.look y2 true, .look y2 true], [false], fun vals ext k => av vals y2 fun a vals => av vals y2 fun b vals => nl vals <| nl ext <| spec_ValLess a b (fun (r0 : Bool) => k [⟨.bool, false, r0, []⟩] [] [])⟩
theorem E_spec_ValLess (a : Int × Int × ByteArray) (a_a : Bool) (t_a : List Tag) (b : Int × Int × ByteArray) (a_b : Bool) (t_b : List Tag) (k : List TVal → List TVal → List TVal → Res) : funC g_spec_ValLess [] .o false Try.f240 [.look y2 true, .look y2 true] [false] [⟨y2, a_a, a, t_a⟩, ⟨y2, a_b, b, t_b⟩] [] k = spec_ValLess a b (fun (r0 : Bool) => k [⟨.bool, false, r0, []⟩] [] []) := by kernel_rfl
theorem S_spec_ValLess : Sound Try.prog 240 s_spec_ValLess := sound_of (Γ := g_spec_ValLess) (X := []) (ht := .o) (fz := false) (c := c_spec_ValLess) follows tysOk (fns_cons S_spec_ValOk fns_nil) trivial Try.func240 (by kernel_rfl) (by kernel_rfl) (by decide) (by
  intro vals ext k r h
  obtain ⟨a, a_a, t_a, vals, rfl, h1⟩ := av_some h
  obtain ⟨b, a_b, t_b, vals, rfl, h2⟩ := av_some h1
  obtain ⟨rfl, h3⟩ := nl_some h2
  obtain ⟨rfl, h4⟩ := nl_some h3
  exact (E_spec_ValLess a a_a t_a b a_b t_b k).trans h4)

/-! ### 288 loop.example/g00462/spec.l01Bool -/
noncomputable def c_spec_l01Bool : Code := (Try.f288.body).getD .skip
noncomputable def g_spec_l01Bool : Env Unit := ⟨tys, [], 0⟩
noncomputable def spec_l01Bool (n_ : Int) (k0 : ByteArray → Res) : Res :=
  bif (n_ == 1) then
    k0 z_true
  else
    k0 z_false
noncomputable def s_spec_l01Bool : Sig Unit := ⟨[.look (.int .i64) false], [false], fun vals ext k => av vals (.int .i64) fun n_ vals => nl vals <| nl ext <| spec_l01Bool n_ (fun (r0 : ByteArray) => k [⟨.str, false, r0, []⟩] [] [])⟩
theorem E_spec_l01Bool (n_ : Int) (a_n_ : Bool) (t_n_ : List Tag) (k : List TVal → List TVal → List TVal → Res) : funC g_spec_l01Bool [] .o false Try.f288 [.look (.int .i64) false] [false] [⟨(.int .i64), a_n_, n_, t_n_⟩] [] k = spec_l01Bool n_ (fun (r0 : ByteArray) => k [⟨.str, false, r0, []⟩] [] []) := by kernel_rfl
theorem S_spec_l01Bool : Sound Try.prog 288 s_spec_l01Bool := sound_of (Γ := g_spec_l01Bool) (X := []) (ht := .o) (fz := false) (c := c_spec_l01Bool) follows tysOk fns_nil trivial Try.func288 (by kernel_rfl) (by kernel_rfl) (by decide) (by
  intro vals ext k r h
  obtain ⟨n_, a_n_, t_n_, vals, rfl, h1⟩ := av_some h
  obtain ⟨rfl, h2⟩ := nl_some h1
  obtain ⟨rfl, h3⟩ := nl_some h2
  exact (E_spec_l01Bool n_ a_n_ t_n_ k).trans h3)

/-! ### 215 loop.example/g00462/spec.NumText -/
noncomputable def c_spec_NumText : Code := (Try.f215.body).getD .skip
noncomputable def s_spec_NumText (self : Int → (ByteArray → Res) → Res) : Sig Unit := ⟨[.look (.int .i64) false], [false], fun vals ext k => av vals (.int .i64) fun n_ vals => nl vals <| nl ext <| self n_ (fun (r0 : ByteArray) => k [⟨.str, false, r0, []⟩] [] [])⟩
noncomputable def g_spec_NumText (self : Int → (ByteArray → Res) → Res) : Env Unit := ⟨tys, [(215, (s_spec_NumText self)), (266, s_spec_l01Num)], 0⟩
noncomputable def spec_NumText_b (self : Int → (ByteArray → Res) → Res) (n_ : Int) (k0 : ByteArray → Res) : Res :=
  spec_l01Num n_ fun (r : Bool) =>
    bif !r then
      k0 eS
    else
      bif decide (n_ < 0) then
        self (wi64 (0 - n_)) fun (r1 : ByteArray) =>
          bif lim (1 + (ByteArray.size r1)) then
            k0 (z__ ++ r1)
          else none
      else
        bif decide (n_ < 10) then
          k0 (ofBytes [wu8 (wi64 (48 + n_))])
        else
          both
            (self (wi64 (Int.tdiv n_ 10)) fun (r2 : ByteArray) =>
              bif lim ((ByteArray.size r2) + (ByteArray.size (ofBytes [wu8 (wi64 (48 + (Int.tmod n_ 10)))]))) then
                k0 (r2 ++ (ofBytes [wu8 (wi64 (48 + (Int.tmod n_ 10)))]))
              else none)
            (self (wi64 (Int.tdiv n_ 10)) fun (r3 : ByteArray) =>
              bif lim ((ByteArray.size r3) + (ByteArray.size (ofBytes [wu8 (wi64 (48 + (Int.tmod n_ 10)))]))) then
                k0 (r3 ++ (ofBytes [wu8 (wi64 (48 + (Int.tmod n_ 10)))]))
              else none)
theorem E_spec_NumText (self : Int → (ByteArray → Res) → Res) (n_ : Int) (a_n_ : Bool) (t_n_ : List Tag) (k : List TVal → List TVal → List TVal → Res) : funC (g_spec_NumText self) [] .o false Try.f215 [.look (.int .i64) false] [false] [⟨(.int .i64), a_n_, n_, t_n_⟩] [] k = spec_NumText_b self n_ (fun (r0 : ByteArray) => k [⟨.str, false, r0, []⟩] [] []) := by kernel_rfl
theorem SS_spec_NumText (self : Int → (ByteArray → Res) → Res) (hself : Sound Try.prog 215 (s_spec_NumText self)) : Sound Try.prog 215 (s_spec_NumText (spec_NumText_b self)) := sound_of (Γ := (g_spec_NumText self)) (X := []) (ht := .o) (fz := false) (c := c_spec_NumText) follows tysOk (fns_cons hself (fns_cons S_spec_l01Num fns_nil)) trivial Try.func215 (by kernel_rfl) (by kernel_rfl) (by decide) (by
  intro vals ext k r h
  obtain ⟨n_, a_n_, t_n_, vals, rfl, h1⟩ := av_some h
  obtain ⟨rfl, h2⟩ := nl_some h1
  obtain ⟨rfl, h3⟩ := nl_some h2
  exact (E_spec_NumText self n_ a_n_ t_n_ k).trans h3)
noncomputable def spec_NumText : Int → (ByteArray → Res) → Res := recN (fun _ _ => none) spec_NumText_b FUEL
theorem S_spec_NumText : Sound Try.prog 215 (s_spec_NumText spec_NumText) := recN_ind (C := fun t => Sound Try.prog 215 (s_spec_NumText t)) (sound_none (c := c_spec_NumText) Try.func215 (by kernel_rfl) (by kernel_rfl) (by
  intro vals ext k r h
  obtain ⟨n_, a_n_, t_n_, vals, rfl, h1⟩ := av_some h
  obtain ⟨rfl, h2⟩ := nl_some h1
  obtain ⟨rfl, h3⟩ := nl_some h2
  cases h3)) (fun t h => SS_spec_NumText t h) FUEL

/-! ### 289 loop.example/g00462/spec.l01Hex -/
noncomputable def c_spec_l01Hex : Code := (Try.f289.body).getD .skip
noncomputable def g_spec_l01Hex : Env Unit := ⟨tys, [], 0⟩
noncomputable def spec_l01Hex (d : Int) (k0 : Int → Res) : Res :=
  bif inb (Int.tmod d 16) 16 then
    k0 (bt z_0123456789abcdef (Int.tmod d 16))
  else none
noncomputable def s_spec_l01Hex : Sig Unit := ⟨[.look (.int .i64) false], [false], fun vals ext k => av vals (.int .i64) fun d vals => nl vals <| nl ext <| spec_l01Hex d (fun (r0 : Int) => k [⟨(.int .u8), false, r0, []⟩] [] [])⟩
theorem E_spec_l01Hex (d : Int) (a_d : Bool) (t_d : List Tag) (k : List TVal → List TVal → List TVal → Res) : funC g_spec_l01Hex [] .o false Try.f289 [.look (.int .i64) false] [false] [⟨(.int .i64), a_d, d, t_d⟩] [] k = spec_l01Hex d (fun (r0 : Int) => k [⟨(.int .u8), false, r0, []⟩] [] []) := by kernel_rfl
theorem S_spec_l01Hex : Sound Try.prog 289 s_spec_l01Hex := sound_of (Γ := g_spec_l01Hex) (X := []) (ht := .o) (fz := false) (c := c_spec_l01Hex) follows tysOk fns_nil trivial Try.func289 (by kernel_rfl) (by kernel_rfl) (by decide) (by
  intro vals ext k r h
  obtain ⟨d, a_d, t_d, vals, rfl, h1⟩ := av_some h
  obtain ⟨rfl, h2⟩ := nl_some h1
  obtain ⟨rfl, h3⟩ := nl_some h2
  exact (E_spec_l01Hex d a_d t_d k).trans h3)

/-! ### 277 loop.example/g00462/spec.ValText -/
noncomputable def c_spec_ValText : Code := (Try.f277.body).getD .skip
noncomputable def g_spec_ValText : Env Unit := ⟨tys, [(215, (s_spec_NumText spec_NumText)), (247, s_spec_ValOk), (288, s_spec_l01Bool), (289, s_spec_l01Hex)], 0⟩
noncomputable def spec_ValText_p0 (b : Int) (k0 : Bool → Res) : Res :=
  bif decide (b ≥ 33) then
    bif decide (b ≤ 126) then
      bif (b != 39) then
        k0 (b != 37)
      else
        k0 false
    else
      k0 false
  else
    k0 false
noncomputable def xspec_ValText_p0 : Node Unit := fun σ k => rdN σ 68 <| rdT σ 1 (.ptr ⟨true, 1, []⟩) <| rdV σ 3 y15 false [.O] fun out => rdV σ 4 (.int .i64) false [] fun i => rdV σ 5 (.int .u8) false [] fun b => rdB σ 1 y2 [] fun a v_ => spec_ValText_p0 b (fun (t48 : Bool) => k .normal (mkS 68 68 [(1, .ptr ⟨true, 1, []⟩), (3, .val ⟨y15, false, out, [.O]⟩), (4, .val ⟨(.int .i64), false, i, []⟩), (5, .val ⟨(.int .u8), false, b, []⟩), (48, .val ⟨.bool, false, t48, []⟩)] [(1, ⟨y2, a, v_, []⟩)]))
theorem espec_ValText_p0 (out : List Int) (i : Int) (b : Int) (a : Bool) (v_ : Int × Int × ByteArray) (k : Kont Unit) : codeC g_spec_ValText [] .o (Code.pl (Code.pr (Code.pl (Code.pl (Code.pr (Code.pl (Code.pl (Code.pr (Code.pl (Code.pr (Code.pr (Code.pr (Code.pr c_spec_ValText))))))))))))) (mkS 68 68 [(1, .ptr ⟨true, 1, []⟩), (3, .val ⟨y15, false, out, [.O]⟩), (4, .val ⟨(.int .i64), false, i, []⟩), (5, .val ⟨(.int .u8), false, b, []⟩)] [(1, ⟨y2, a, v_, []⟩)]) (fun e σ => k e ((cutC ([1, 3, 4, 5, 48], [1]) [] ([], [])) e σ)) = spec_ValText_p0 b (fun (t48 : Bool) => k .normal (mkS 68 68 [(1, .ptr ⟨true, 1, []⟩), (3, .val ⟨y15, false, out, [.O]⟩), (4, .val ⟨(.int .i64), false, i, []⟩), (5, .val ⟨(.int .u8), false, b, []⟩), (48, .val ⟨.bool, false, t48, []⟩)] [(1, ⟨y2, a, v_, []⟩)])) := by kernel_rfl
theorem ospec_ValText_p0 {W0 : Base} {M : Nat → Prop} (hnp : W0.np ≤ 0) : CodeOk Try.prog W0 M (Code.pl (Code.pr (Code.pl (Code.pl (Code.pr (Code.pl (Code.pl (Code.pr (Code.pl (Code.pr (Code.pr (Code.pr (Code.pr c_spec_ValText))))))))))))) xspec_ValText_p0 := node_ok (code_sound follows tysOk (calls_ok (fns_cons S_spec_NumText (fns_cons S_spec_ValOk (fns_cons S_spec_l01Bool (fns_cons S_spec_l01Hex fns_nil))))) hnp [] ((Code.pl (Code.pr (Code.pl (Code.pl (Code.pr (Code.pl (Code.pl (Code.pr (Code.pl (Code.pr (Code.pr (Code.pr (Code.pr c_spec_ValText)))))))))))))) .o trivial) (fg := (cutC ([1, 3, 4, 5, 48], [1]) [] ([], []))) (cutC_le _ _ _) (by
  intro σ k r h
  obtain ⟨hn, h1⟩ := rdN_some h
  obtain ⟨hs1, h2⟩ := rdT_some h1
  obtain ⟨out, hs3, h3⟩ := rdV_some h2
  obtain ⟨i, hs4, h4⟩ := rdV_some h3
  obtain ⟨b, hs5, h5⟩ := rdV_some h4
  obtain ⟨a, v_, hb1, h6⟩ := rdB_some h5
  refine ⟨_, ?_, (espec_ValText_p0 out i b a v_ k).trans h6⟩
  exact mkS_le hn ⟨hs1, hs3, hs4, hs5, trivial⟩ ⟨hb1, trivial⟩)
noncomputable def spec_ValText_l1_r (v_ : Int × Int × ByteArray) (out : List Int) (i : Int) (rec : (List Int) → Int → Res) (k0 : (List Int) → Res) : Res :=
  bif decide (i < (nI (ByteArray.size v_.2.2))) then
    bif inb i (ByteArray.size v_.2.2) then
      spec_ValText_p0 (bt v_.2.2 i) fun (t : Bool) =>
        bif t then
          bif lim ((List.length out) + 1) then
            rec (out ++ [bt v_.2.2 i]) (wi64 (i + 1))
          else none
        else
          spec_l01Hex (wi64 (Int.tdiv (wi64 (bt v_.2.2 i)) 16)) fun (r : Int) =>
            spec_l01Hex (Int.tmod (wi64 (bt v_.2.2 i)) 16) fun (r1 : Int) =>
              bif lim ((List.length out) + 3) then
                rec (out ++ [37, r, r1]) (wi64 (i + 1))
              else none
    else none
  else
    k0 out
noncomputable def spec_ValText_l1_s (v_ : Int × Int × ByteArray) : ((List Int) × Int) → ((List Int) × Int → Res) → (((List Int) → Res)) → Res := fun v rec q => spec_ValText_l1_r v_ v.1 v.2 (fun out i => rec (out, i)) q
noncomputable def spec_ValText_l1 (v_ : Int × Int × ByteArray) (n : Nat) (out : List Int) (i : Int) (k0 : (List Int) → Res) : Res := iter (spec_ValText_l1_s v_) n (out, i) (k0)
noncomputable def xspec_ValText_l1 : Node Unit := fun σ k => rdN σ 68 <| rdT σ 1 (.ptr ⟨true, 1, []⟩) <| rdV σ 3 y15 false [.O] fun out => rdV σ 4 (.int .i64) false [] fun i => rdB σ 1 y2 [] fun a v_ => spec_ValText_l1 v_ FUEL out i (fun (out1 : List Int) => k (.exit 1) (mkS 68 68 [(3, .val ⟨y15, false, out1, [.O]⟩)] []))
theorem espec_ValText_l1 (a : Bool) (v_ : Int × Int × ByteArray) (n : Nat) (v : (List Int) × Int) (k : Kont Unit) : loopC (codeC g_spec_ValText [xspec_ValText_p0] (.t .o (.t (.t (.t .o (.t (.x 0) .o)) .o) .o)) (Code.pl (Code.pl (Code.pr (Code.pl (Code.pr (Code.pr (Code.pr (Code.pr c_spec_ValText))))))))) (fun σ => σ.forget [1, 3, 4] [1]) (cutC ([], []) [(1, [3], [])] ([], [])) n (mkS 68 68 [(1, .ptr ⟨true, 1, []⟩), (3, .val ⟨y15, false, v.1, [.O]⟩), (4, .val ⟨(.int .i64), false, v.2, []⟩)] [(1, ⟨y2, a, v_, []⟩)]) k = iter (spec_ValText_l1_s v_) n v ((fun (k : Kont Unit) => (((fun (out1 : List Int) => k (.exit 1) (mkS 68 68 [(3, .val ⟨y15, false, out1, [.O]⟩)] []))) : ((List Int) → Res))) k) := loop_eq (fun v : (List Int) × Int => (mkS 68 68 [(1, .ptr ⟨true, 1, []⟩), (3, .val ⟨y15, false, v.1, [.O]⟩), (4, .val ⟨(.int .i64), false, v.2, []⟩)] [(1, ⟨y2, a, v_, []⟩)])) (spec_ValText_l1_s v_) (fun (k : Kont Unit) => (((fun (out1 : List Int) => k (.exit 1) (mkS 68 68 [(3, .val ⟨y15, false, out1, [.O]⟩)] []))) : ((List Int) → Res))) (fun v rec k => by kernel_rfl) n v k
theorem ospec_ValText_l1 {W0 : Base} {M : Nat → Prop} (hnp : W0.np ≤ 0) : CodeOk Try.prog W0 M (Code.pl (Code.pr (Code.pl (Code.pr (Code.pr (Code.pr (Code.pr c_spec_ValText))))))) xspec_ValText_l1 := show CodeOk Try.prog W0 M (Code.loop (Code.pl (Code.pl (Code.pr (Code.pl (Code.pr (Code.pr (Code.pr (Code.pr c_spec_ValText))))))))) xspec_ValText_l1 from loop_ok (code_sound follows tysOk (calls_ok (fns_cons S_spec_NumText (fns_cons S_spec_ValOk (fns_cons S_spec_l01Bool (fns_cons S_spec_l01Hex fns_nil))))) hnp [xspec_ValText_p0] (Code.pl (Code.pl (Code.pr (Code.pl (Code.pr (Code.pr (Code.pr (Code.pr c_spec_ValText)))))))) (.t .o (.t (.t (.t .o (.t (.x 0) .o)) .o) .o)) (OrOk.mk trivial ((OrOk.mk ((OrOk.mk ((OrOk.mk trivial ((OrOk.mk (OrOk.x_mk (fun W0 M hnp => ospec_ValText_p0 (W0 := W0) (M := M) hnp)) trivial)))) trivial)) trivial)))) (ks := [1, 3, 4]) (bs := [1]) (fX := (cutC ([], []) [(1, [3], [])] ([], []))) (cutC_le _ _ _) FUEL (by
  intro σ k r h
  obtain ⟨hn, h1⟩ := rdN_some h
  obtain ⟨hs1, h2⟩ := rdT_some h1
  obtain ⟨out, hs3, h3⟩ := rdV_some h2
  obtain ⟨i, hs4, h4⟩ := rdV_some h3
  obtain ⟨a, v_, hb1, h5⟩ := rdB_some h4
  refine ⟨_, ?_, (espec_ValText_l1 a v_ FUEL (out, i) k).trans h5⟩
  exact mkS_le hn ⟨hs1, hs3, hs4, trivial⟩ ⟨hb1, trivial⟩)
noncomputable def spec_ValText (v_ : Int × Int × ByteArray) (k0 : ByteArray → Res) : Res :=
  spec_ValOk v_ fun (r : Bool) =>
    bif !r then
      k0 eS
    else
      bif (v_.1 == 0) then
        k0 z_null
      else
        bif (v_.1 == 1) then
          spec_l01Bool v_.2.1 fun (r1 : ByteArray) =>
            k0 r1
        else
          bif (v_.1 == 2) then
            spec_NumText v_.2.1 fun (r2 : ByteArray) =>
              k0 r2
          else
            spec_ValText_l1 v_ FUEL [39] 0 fun (out : List Int) =>
              bif lim ((List.length out) + 1) then
                k0 (ofBytes (out ++ [39]))
              else none
noncomputable def s_spec_ValText : Sig Unit := ⟨[.look y2 true], [false], fun vals ext k => av vals y2 fun v_ vals => nl vals <| nl ext <| spec_ValText v_ (fun (r0 : ByteArray) => k [⟨.str, false, r0, []⟩] [] [])⟩
theorem E_spec_ValText (v_ : Int × Int × ByteArray) (a_v_ : Bool) (t_v_ : List Tag) (k : List TVal → List TVal → List TVal → Res) : funC g_spec_ValText [xspec_ValText_p0, xspec_ValText_l1] (.t .o (.t .o (.t .o (.t .o (.t (.t .o (.t (.x 1) .o)) .o))))) false Try.f277 [.look y2 true] [false] [⟨y2, a_v_, v_, t_v_⟩] [] k = spec_ValText v_ (fun (r0 : ByteArray) => k [⟨.str, false, r0, []⟩] [] []) := by kernel_rfl
theorem S_spec_ValText : Sound Try.prog 277 s_spec_ValText := sound_of (Γ := g_spec_ValText) (X := [xspec_ValText_p0, xspec_ValText_l1]) (ht := (.t .o (.t .o (.t .o (.t .o (.t (.t .o (.t (.x 1) .o)) .o)))))) (fz := false) (c := c_spec_ValText) follows tysOk (fns_cons S_spec_NumText (fns_cons S_spec_ValOk (fns_cons S_spec_l01Bool (fns_cons S_spec_l01Hex fns_nil)))) (OrOk.mk trivial ((OrOk.mk trivial ((OrOk.mk trivial ((OrOk.mk trivial ((OrOk.mk ((OrOk.mk trivial ((OrOk.mk (OrOk.x_mk (fun W0 M hnp => ospec_ValText_l1 (W0 := W0) (M := M) hnp)) trivial)))) trivial))))))))) Try.func277 (by kernel_rfl) (by kernel_rfl) (by decide) (by
  intro vals ext k r h
  obtain ⟨v_, a_v_, t_v_, vals, rfl, h1⟩ := av_some h
  obtain ⟨rfl, h2⟩ := nl_some h1
  obtain ⟨rfl, h3⟩ := nl_some h2
  exact (E_spec_ValText v_ a_v_ t_v_ k).trans h3)

/-! ### 153 loop.example/g00462/impl.within -/
noncomputable def c_impl_within : Code := (Try.f153.body).getD .skip
noncomputable def g_impl_within : Env Unit := ⟨tys, [], 0⟩
noncomputable def impl_within (x : Int) (lo : Int) (hi : Int) (k0 : Bool → Res) : Res :=
  bif decide (x ≥ lo) then
    k0 (decide (x ≤ hi))
  else
    k0 false
noncomputable def s_impl_within : Sig Unit := ⟨[.look (.int .i64) false, .look (.int .i64) false, .look (.int .i64) false], [false], fun vals ext k => av vals (.int .i64) fun x vals => av vals (.int .i64) fun lo vals => av vals (.int .i64) fun hi vals => nl vals <| nl ext <| impl_within x lo hi (fun (r0 : Bool) => k [⟨.bool, false, r0, []⟩] [] [])⟩
theorem E_impl_within (x : Int) (a_x : Bool) (t_x : List Tag) (lo : Int) (a_lo : Bool) (t_lo : List Tag) (hi : Int) (a_hi : Bool) (t_hi : List Tag) (k : List TVal → List TVal → List TVal → Res) : funC g_impl_within [] .o false Try.f153 [.look (.int .i64) false, .look (.int .i64) false, .look (.int .i64) false] [false] [⟨(.int .i64), a_x, x, t_x⟩, ⟨(.int .i64), a_lo, lo, t_lo⟩, ⟨(.int .i64), a_hi, hi, t_hi⟩] [] k = impl_within x lo hi (fun (r0 : Bool) => k [⟨.bool, false, r0, []⟩] [] []) := by kernel_rfl
theorem S_impl_within : Sound Try.prog 153 s_impl_within := sound_of (Γ := g_impl_within) (X := []) (ht := .o) (fz := false) (c := c_impl_within) follows tysOk fns_nil trivial Try.func153 (by kernel_rfl) (by kernel_rfl) (by decide) (by
  intro vals ext k r h
  obtain ⟨x, a_x, t_x, vals, rfl, h1⟩ := av_some h
  obtain ⟨lo, a_lo, t_lo, vals, rfl, h2⟩ := av_some h1
  obtain ⟨hi, a_hi, t_hi, vals, rfl, h3⟩ := av_some h2
  obtain ⟨rfl, h4⟩ := nl_some h3
  obtain ⟨rfl, h5⟩ := nl_some h4
  exact (E_impl_within x a_x t_x lo a_lo t_lo hi a_hi t_hi k).trans h5)

/-! ### 73 loop.example/g00462/impl.WordOk -/
noncomputable def c_impl_WordOk : Code := (Try.f73.body).getD .skip
noncomputable def g_impl_WordOk : Env Unit := ⟨tys, [(153, s_impl_within)], 0⟩
noncomputable def impl_WordOk_l0_r (s : ByteArray) (i : Int) (rec : Int → Res) (k0 : Unit → Res) (k1 : Unit → Res) : Res :=
  bif decide (i < (nI (ByteArray.size s))) then
    bif inb i (ByteArray.size s) then
      bif decide ((bt s i) < 97) then
        k1 ()
      else
        bif inb i (ByteArray.size s) then
          bif decide ((bt s i) > 122) then
            k1 ()
          else
            rec (wi64 (i + 1))
        else none
    else none
  else
    k0 ()
noncomputable def impl_WordOk_l0_s (s : ByteArray) : Int → (Int → Res) → ((Unit → Res) × (Unit → Res)) → Res := fun v rec q => impl_WordOk_l0_r s v (fun i => rec (i)) q.1 q.2
noncomputable def impl_WordOk_l0 (s : ByteArray) (n : Nat) (i : Int) (k0 : Unit → Res) (k1 : Unit → Res) : Res := iter (impl_WordOk_l0_s s) n (i) (k0, k1)
noncomputable def ximpl_WordOk_l0 : Node Unit := fun σ k => rdN σ 23 <| rdV σ 0 .str false [] fun s => rdV σ 3 (.int .i64) false [] fun i => impl_WordOk_l0 s FUEL i (fun (_ : Unit) => k (.exit 0) (mkS 23 23 [(0, .val ⟨.str, false, s, []⟩)] [])) (fun (_ : Unit) => k .ret (mkS 23 23 [(2, .val ⟨.bool, false, false, []⟩)] []))
theorem eimpl_WordOk_l0 (s : ByteArray) (n : Nat) (v : Int) (k : Kont Unit) : loopC (codeC g_impl_WordOk [] .o (Code.pl (Code.pl (Code.pr (Code.pl (Code.pr c_impl_WordOk)))))) (fun σ => σ.forget [0, 3] []) (cutC ([], []) [(0, [0], [])] ([2], [])) n (mkS 23 23 [(0, .val ⟨.str, false, s, []⟩), (3, .val ⟨(.int .i64), false, v, []⟩)] []) k = iter (impl_WordOk_l0_s s) n v ((fun (k : Kont Unit) => (((fun (_ : Unit) => k (.exit 0) (mkS 23 23 [(0, .val ⟨.str, false, s, []⟩)] [])), (fun (_ : Unit) => k .ret (mkS 23 23 [(2, .val ⟨.bool, false, false, []⟩)] []))) : (Unit → Res) × (Unit → Res))) k) := loop_eq (fun v : Int => (mkS 23 23 [(0, .val ⟨.str, false, s, []⟩), (3, .val ⟨(.int .i64), false, v, []⟩)] [])) (impl_WordOk_l0_s s) (fun (k : Kont Unit) => (((fun (_ : Unit) => k (.exit 0) (mkS 23 23 [(0, .val ⟨.str, false, s, []⟩)] [])), (fun (_ : Unit) => k .ret (mkS 23 23 [(2, .val ⟨.bool, false, false, []⟩)] []))) : (Unit → Res) × (Unit → Res))) (fun v rec k => by kernel_rfl) n v k
theorem oimpl_WordOk_l0 {W0 : Base} {M : Nat → Prop} (hnp : W0.np ≤ 0) : CodeOk Try.prog W0 M (Code.pl (Code.pr (Code.pl (Code.pr c_impl_WordOk)))) ximpl_WordOk_l0 := show CodeOk Try.prog W0 M (Code.loop (Code.pl (Code.pl (Code.pr (Code.pl (Code.pr c_impl_WordOk)))))) ximpl_WordOk_l0 from loop_ok (code_sound follows tysOk (calls_ok (fns_cons S_impl_within fns_nil)) hnp [] (Code.pl (Code.pl (Code.pr (Code.pl (Code.pr c_impl_WordOk))))) .o trivial) (ks := [0, 3]) (bs := []) (fX := (cutC ([], []) [(0, [0], [])] ([2], []))) (cutC_le _ _ _) FUEL (by
  intro σ k r h
  obtain ⟨hn, h1⟩ := rdN_some h
  obtain ⟨s, hs0, h2⟩ := rdV_some h1
  obtain ⟨i, hs3, h3⟩ := rdV_some h2
  refine ⟨_, ?_, (eimpl_WordOk_l0 s FUEL (i) k).trans h3⟩
  exact mkS_le hn ⟨hs0, hs3, trivial⟩ trivial)
noncomputable def impl_WordOk (s : ByteArray) (k0 : Bool → Res) : Res :=
  impl_WordOk_l0 s FUEL 0
    (fun (_ : Unit) =>
      impl_within (nI (ByteArray.size s)) 1 8 fun (r : Bool) =>
        k0 r)
    (fun (_ : Unit) =>
      k0 false)
noncomputable def s_impl_WordOk : Sig Unit := ⟨[.look .str false], [false], fun vals ext k => av vals .str fun s vals => nl vals <| nl ext <| impl_WordOk s (fun (r0 : Bool) => k [⟨.bool, false, r0, []⟩] [] [])⟩
theorem E_impl_WordOk (s : ByteArray) (a_s : Bool) (t_s : List Tag) (k : List TVal → List TVal → List TVal → Res) : funC g_impl_WordOk [ximpl_WordOk_l0] (.t .o (.t (.t .o (.t (.x 0) .o)) .o)) false Try.f73 [.look .str false] [false] [⟨.str, a_s, s, t_s⟩] [] k = impl_WordOk s (fun (r0 : Bool) => k [⟨.bool, false, r0, []⟩] [] []) := by kernel_rfl
theorem S_impl_WordOk : Sound Try.prog 73 s_impl_WordOk := sound_of (Γ := g_impl_WordOk) (X := [ximpl_WordOk_l0]) (ht := (.t .o (.t (.t .o (.t (.x 0) .o)) .o))) (fz := false) (c := c_impl_WordOk) follows tysOk (fns_cons S_impl_within fns_nil) (OrOk.mk trivial ((OrOk.mk ((OrOk.mk trivial ((OrOk.mk (OrOk.x_mk (fun W0 M hnp => oimpl_WordOk_l0 (W0 := W0) (M := M) hnp)) trivial)))) trivial))) Try.func73 (by kernel_rfl) (by kernel_rfl) (by decide) (by
  intro vals ext k r h
  obtain ⟨s, a_s, t_s, vals, rfl, h1⟩ := av_some h
  obtain ⟨rfl, h2⟩ := nl_some h1
  obtain ⟨rfl, h3⟩ := nl_some h2
  exact (E_impl_WordOk s a_s t_s k).trans h3)

/-! ### 250 loop.example/g00462/impl.ValOk -/
noncomputable def c_impl_ValOk : Code := (Try.f250.body).getD .skip
noncomputable def g_impl_ValOk : Env Unit := ⟨tys, [(153, s_impl_within)], 0⟩
noncomputable def impl_ValOk (v_ : Int × Int × ByteArray) (k0 : Bool → Res) : Res :=
  bif (v_.1 == 0) then
    k0 ((v_.1 == 0) && ((v_.2.1 == 0) && (sEq v_.2.2 eS)))
  else
    bif (v_.1 == 1) then
      impl_within v_.2.1 0 1 fun (r : Bool) =>
        bif r then
          k0 (sEq v_.2.2 eS)
        else
          k0 false
    else
      bif (v_.1 == 2) then
        impl_within v_.2.1 (-1099511627775) 1099511627775 fun (r1 : Bool) =>
          bif r1 then
            k0 (sEq v_.2.2 eS)
          else
            k0 false
      else
        bif (v_.1 == 3) then
          bif (v_.2.1 == 0) then
            k0 (decide ((nI (ByteArray.size v_.2.2)) ≤ 30))
          else
            k0 false
        else
          k0 false
noncomputable def s_impl_ValOk : Sig Unit := ⟨[.look y2 true], [false], fun vals ext k => av vals y2 fun v_ vals => nl vals <| nl ext <| impl_ValOk v_ (fun (r0 : Bool) => k [⟨.bool, false, r0, []⟩] [] [])⟩
theorem E_impl_ValOk (v_ : Int × Int × ByteArray) (a_v_ : Bool) (t_v_ : List Tag) (k : List TVal → List TVal → List TVal → Res) : funC g_impl_ValOk [] .o false Try.f250 [.look y2 true] [false] [⟨y2, a_v_, v_, t_v_⟩] [] k = impl_ValOk v_ (fun (r0 : Bool) => k [⟨.bool, false, r0, []⟩] [] []) := by kernel_rfl
theorem S_impl_ValOk : Sound Try.prog 250 s_impl_ValOk := sound_of (Γ := g_impl_ValOk) (X := []) (ht := .o) (fz := false) (c := c_impl_ValOk) follows tysOk (fns_cons S_impl_within fns_nil) trivial Try.func250 (by kernel_rfl) (by kernel_rfl) (by decide) (by
  intro vals ext k r h
  obtain ⟨v_, a_v_, t_v_, vals, rfl, h1⟩ := av_some h
  obtain ⟨rfl, h2⟩ := nl_some h1
  obtain ⟨rfl, h3⟩ := nl_some h2
  exact (E_impl_ValOk v_ a_v_ t_v_ k).trans h3)

/-! ### 244 loop.example/g00462/impl.ValLess -/
noncomputable def c_impl_ValLess : Code := (Try.f244.body).getD .skip
noncomputable def g_impl_ValLess : Env Unit := ⟨tys, [(250, s_impl_ValOk)], 0⟩
noncomputable def impl_ValLess (a : Int × Int × ByteArray) (b : Int × Int × ByteArray) (k0 : Bool → Res) : Res :=
  impl_ValOk a fun (r : Bool) =>
    bif !r then
      k0 false
    else
      impl_ValOk b fun (r1 : Bool) =>
        bif !r1 then
          k0 false
        else
          bif (a.1 != b.1) then
            k0 (decide (a.1 < b.1))
          else
            bif (a.2.1 != b.2.1) then
              k0 (decide (a.2.1 < b.2.1))
            else
              k0 (sLt a.2.2 b.2.2)
noncomputable def s_impl_ValLess : Sig Unit := ⟨[.look y2 true, .look y2 true], [false], fun vals ext k => av vals y2 fun a vals => av vals y2 fun b vals => nl vals <| nl ext <| impl_ValLess a b (fun (r0 : Bool) => k [⟨.bool, false, r0, []⟩] [] [])⟩
theorem E_impl_ValLess (a : Int × Int × ByteArray) (a_a : Bool) (t_a : List Tag) (b : Int × Int × ByteArray) (a_b : Bool) (t_b : List Tag) (k : List TVal → List TVal → List TVal → Res) : funC g_impl_ValLess [] .o false Try.f244 [.look y2 true, .look y2 true] [false] [⟨y2, a_a, a, t_a⟩, ⟨y2, a_b, b, t_b⟩] [] k = impl_ValLess a b (fun (r0 : Bool) => k [⟨.bool, false, r0, []⟩] [] []) := by kernel_rfl
theorem S_impl_ValLess : Sound Try.prog 244 s_impl_ValLess := sound_of (Γ := g_impl_ValLess) (X := []) (ht := .o) (fz := false) (c := c_impl_ValLess) follows tysOk (fns_cons S_impl_ValOk fns_nil) trivial Try.func244 (by kernel_rfl) (by kernel_rfl) (by decide) (by
  intro vals ext k r h
  obtain ⟨a, a_a, t_a, vals, rfl, h1⟩ := av_some h
  obtain ⟨b, a_b, t_b, vals, rfl, h2⟩ := av_some h1
  obtain ⟨rfl, h3⟩ := nl_some h2
  obtain ⟨rfl, h4⟩ := nl_some h3
  exact (E_impl_ValLess a a_a t_a b a_b t_b k).trans h4)

/-! ### 290 loop.example/g00462/impl.boolText -/
noncomputable def c_impl_boolText : Code := (Try.f290.body).getD .skip
noncomputable def g_impl_boolText : Env Unit := ⟨tys, [], 0⟩
noncomputable def impl_boolText (n_ : Int) (k0 : ByteArray → Res) : Res :=
  bif (n_ == 1) then
    k0 z_true
  else
    k0 z_false
noncomputable def s_impl_boolText : Sig Unit := ⟨[.look (.int .i64) false], [false], fun vals ext k => av vals (.int .i64) fun n_ vals => nl vals <| nl ext <| impl_boolText n_ (fun (r0 : ByteArray) => k [⟨.str, false, r0, []⟩] [] [])⟩
theorem E_impl_boolText (n_ : Int) (a_n_ : Bool) (t_n_ : List Tag) (k : List TVal → List TVal → List TVal → Res) : funC g_impl_boolText [] .o false Try.f290 [.look (.int .i64) false] [false] [⟨(.int .i64), a_n_, n_, t_n_⟩] [] k = impl_boolText n_ (fun (r0 : ByteArray) => k [⟨.str, false, r0, []⟩] [] []) := by kernel_rfl
theorem S_impl_boolText : Sound Try.prog 290 s_impl_boolText := sound_of (Γ := g_impl_boolText) (X := []) (ht := .o) (fz := false) (c := c_impl_boolText) follows tysOk fns_nil trivial Try.func290 (by kernel_rfl) (by kernel_rfl) (by decide) (by
  intro vals ext k r h
  obtain ⟨n_, a_n_, t_n_, vals, rfl, h1⟩ := av_some h
  obtain ⟨rfl, h2⟩ := nl_some h1
  obtain ⟨rfl, h3⟩ := nl_some h2
  exact (E_impl_boolText n_ a_n_ t_n_ k).trans h3)

/-! ### 151 loop.example/g00462/impl.NumText -/
noncomputable def c_impl_NumText : Code := (Try.f151.body).getD .skip
noncomputable def s_impl_NumText (self : Int → (ByteArray → Res) → Res) : Sig Unit := ⟨[.look (.int .i64) false], [false], fun vals ext k => av vals (.int .i64) fun n_ vals => nl vals <| nl ext <| self n_ (fun (r0 : ByteArray) => k [⟨.str, false, r0, []⟩] [] [])⟩
noncomputable def g_impl_NumText (self : Int → (ByteArray → Res) → Res) : Env Unit := ⟨tys, [(151, (s_impl_NumText self)), (153, s_impl_within)], 0⟩
noncomputable def impl_NumText_l0_r (self : Int → (ByteArray → Res) → Res) (n_ : Int) (s : ByteArray) (rec : Int → ByteArray → Res) (k0 : Int → ByteArray → Res) : Res :=
  bif decide (n_ > 9) then
    bif lim ((ByteArray.size (ofBytes [wu8 (wi64 (48 + (Int.tmod n_ 10)))])) + (ByteArray.size s)) then
      rec (wi64 (Int.tdiv n_ 10)) ((ofBytes [wu8 (wi64 (48 + (Int.tmod n_ 10)))]) ++ s)
    else none
  else
    k0 n_ s
noncomputable def impl_NumText_l0_s (self : Int → (ByteArray → Res) → Res) : (Int × ByteArray) → (Int × ByteArray → Res) → ((Int → ByteArray → Res)) → Res := fun v rec q => impl_NumText_l0_r self v.1 v.2 (fun n_ s => rec (n_, s)) q
noncomputable def impl_NumText_l0 (self : Int → (ByteArray → Res) → Res) (n : Nat) (n_ : Int) (s : ByteArray) (k0 : Int → ByteArray → Res) : Res := iter (impl_NumText_l0_s self) n (n_, s) (k0)
noncomputable def ximpl_NumText_l0 (self : Int → (ByteArray → Res) → Res) : Node Unit := fun σ k => rdN σ 32 <| rdV σ 0 (.int .i64) false [] fun n_ => rdV σ 3 .str false [] fun s => impl_NumText_l0 self FUEL n_ s (fun (n_1 : Int) (s1 : ByteArray) => k (.exit 0) (mkS 32 32 [(0, .val ⟨(.int .i64), false, n_1, []⟩), (3, .val ⟨.str, false, s1, []⟩)] []))
theorem eimpl_NumText_l0 (self : Int → (ByteArray → Res) → Res)  (n : Nat) (v : Int × ByteArray) (k : Kont Unit) : loopC (codeC (g_impl_NumText self) [] .o (Code.pl (Code.pl (Code.pl (Code.pr (Code.pr (Code.pr (Code.pr c_impl_NumText)))))))) (fun σ => σ.forget [0, 3] []) (cutC ([], []) [(0, [0, 3], [])] ([], [])) n (mkS 32 32 [(0, .val ⟨(.int .i64), false, v.1, []⟩), (3, .val ⟨.str, false, v.2, []⟩)] []) k = iter (impl_NumText_l0_s self) n v ((fun (k : Kont Unit) => (((fun (n_1 : Int) (s1 : ByteArray) => k (.exit 0) (mkS 32 32 [(0, .val ⟨(.int .i64), false, n_1, []⟩), (3, .val ⟨.str, false, s1, []⟩)] []))) : (Int → ByteArray → Res))) k) := loop_eq (fun v : Int × ByteArray => (mkS 32 32 [(0, .val ⟨(.int .i64), false, v.1, []⟩), (3, .val ⟨.str, false, v.2, []⟩)] [])) (impl_NumText_l0_s self) (fun (k : Kont Unit) => (((fun (n_1 : Int) (s1 : ByteArray) => k (.exit 0) (mkS 32 32 [(0, .val ⟨(.int .i64), false, n_1, []⟩), (3, .val ⟨.str, false, s1, []⟩)] []))) : (Int → ByteArray → Res))) (fun v rec k => by kernel_rfl) n v k
theorem oimpl_NumText_l0 (self : Int → (ByteArray → Res) → Res) (hself : Sound Try.prog 151 (s_impl_NumText self)) {W0 : Base} {M : Nat → Prop} (hnp : W0.np ≤ 0) : CodeOk Try.prog W0 M (Code.pl (Code.pl (Code.pr (Code.pr (Code.pr (Code.pr c_impl_NumText)))))) (ximpl_NumText_l0 self) := show CodeOk Try.prog W0 M (Code.loop (Code.pl (Code.pl (Code.pl (Code.pr (Code.pr (Code.pr (Code.pr c_impl_NumText)))))))) (ximpl_NumText_l0 self) from loop_ok (code_sound follows tysOk (calls_ok (fns_cons hself (fns_cons S_impl_within fns_nil))) hnp [] (Code.pl (Code.pl (Code.pl (Code.pr (Code.pr (Code.pr (Code.pr c_impl_NumText))))))) .o trivial) (ks := [0, 3]) (bs := []) (fX := (cutC ([], []) [(0, [0, 3], [])] ([], []))) (cutC_le _ _ _) FUEL (by
  intro σ k r h
  obtain ⟨hn, h1⟩ := rdN_some h
  obtain ⟨n_, hs0, h2⟩ := rdV_some h1
  obtain ⟨s, hs3, h3⟩ := rdV_some h2
  refine ⟨_, ?_, (eimpl_NumText_l0 self  FUEL (n_, s) k).trans h3⟩
  exact mkS_le hn ⟨hs0, hs3, trivial⟩ trivial)
noncomputable def impl_NumText_b (self : Int → (ByteArray → Res) → Res) (n_ : Int) (k0 : ByteArray → Res) : Res :=
  impl_within n_ (-1099511627775) 1099511627775 fun (r : Bool) =>
    bif !r then
      k0 eS
    else
      bif decide (n_ < 0) then
        self (wi64 (0 - n_)) fun (r1 : ByteArray) =>
          bif lim (1 + (ByteArray.size r1)) then
            k0 (z__ ++ r1)
          else none
      else
        impl_NumText_l0 self FUEL n_ eS fun (n_1 : Int) (s : ByteArray) =>
          bif lim ((ByteArray.size (ofBytes [wu8 (wi64 (48 + n_1))])) + (ByteArray.size s)) then
            k0 ((ofBytes [wu8 (wi64 (48 + n_1))]) ++ s)
          else none
theorem E_impl_NumText (self : Int → (ByteArray → Res) → Res) (n_ : Int) (a_n_ : Bool) (t_n_ : List Tag) (k : List TVal → List TVal → List TVal → Res) : funC (g_impl_NumText self) [(ximpl_NumText_l0 self)] (.t .o (.t .o (.t .o (.t .o (.t (.t (.x 0) .o) .o))))) false Try.f151 [.look (.int .i64) false] [false] [⟨(.int .i64), a_n_, n_, t_n_⟩] [] k = impl_NumText_b self n_ (fun (r0 : ByteArray) => k [⟨.str, false, r0, []⟩] [] []) := by kernel_rfl
theorem SS_impl_NumText (self : Int → (ByteArray → Res) → Res) (hself : Sound Try.prog 151 (s_impl_NumText self)) : Sound Try.prog 151 (s_impl_NumText (impl_NumText_b self)) := sound_of (Γ := (g_impl_NumText self)) (X := [(ximpl_NumText_l0 self)]) (ht := (.t .o (.t .o (.t .o (.t .o (.t (.t (.x 0) .o) .o)))))) (fz := false) (c := c_impl_NumText) follows tysOk (fns_cons hself (fns_cons S_impl_within fns_nil)) (OrOk.mk trivial ((OrOk.mk trivial ((OrOk.mk trivial ((OrOk.mk trivial ((OrOk.mk ((OrOk.mk (OrOk.x_mk (fun W0 M hnp => oimpl_NumText_l0 self hself (W0 := W0) (M := M) hnp)) trivial)) trivial))))))))) Try.func151 (by kernel_rfl) (by kernel_rfl) (by decide) (by
  intro vals ext k r h
  obtain ⟨n_, a_n_, t_n_, vals, rfl, h1⟩ := av_some h
  obtain ⟨rfl, h2⟩ := nl_some h1
  obtain ⟨rfl, h3⟩ := nl_some h2
  exact (E_impl_NumText self n_ a_n_ t_n_ k).trans h3)
noncomputable def impl_NumText : Int → (ByteArray → Res) → Res := recN (fun _ _ => none) impl_NumText_b FUEL
theorem S_impl_NumText : Sound Try.prog 151 (s_impl_NumText impl_NumText) := recN_ind (C := fun t => Sound Try.prog 151 (s_impl_NumText t)) (sound_none (c := c_impl_NumText) Try.func151 (by kernel_rfl) (by kernel_rfl) (by
  intro vals ext k r h
  obtain ⟨n_, a_n_, t_n_, vals, rfl, h1⟩ := av_some h
  obtain ⟨rfl, h2⟩ := nl_some h1
  obtain ⟨rfl, h3⟩ := nl_some h2
  cases h3)) (fun t h => SS_impl_NumText t h) FUEL

/-! ### 278 loop.example/g00462/impl.ValText -/
noncomputable def c_impl_ValText : Code := (Try.f278.body).getD .skip
noncomputable def g_impl_ValText : Env Unit := ⟨tys, [(151, (s_impl_NumText impl_NumText)), (153, s_impl_within), (250, s_impl_ValOk), (290, s_impl_boolText)], 0⟩
noncomputable def impl_ValText_p0 (b : Int) (k0 : Bool → Res) : Res :=
  impl_within (wi64 b) 33 126 fun (r : Bool) =>
    bif r then
      bif (b != 39) then
        k0 (b != 37)
      else
        k0 false
    else
      k0 false
noncomputable def ximpl_ValText_p0 : Node Unit := fun σ k => rdN σ 68 <| rdT σ 1 (.ptr ⟨true, 1, []⟩) <| rdV σ 3 y15 false [.O] fun out => rdV σ 4 (.int .i64) false [] fun i => rdV σ 5 (.int .u8) false [] fun b => rdB σ 1 y2 [] fun a v_ => impl_ValText_p0 b (fun (t50 : Bool) => k .normal (mkS 68 68 [(1, .ptr ⟨true, 1, []⟩), (3, .val ⟨y15, false, out, [.O]⟩), (4, .val ⟨(.int .i64), false, i, []⟩), (5, .val ⟨(.int .u8), false, b, []⟩), (50, .val ⟨.bool, false, t50, []⟩)] [(1, ⟨y2, a, v_, []⟩)]))
theorem eimpl_ValText_p0 (out : List Int) (i : Int) (b : Int) (a : Bool) (v_ : Int × Int × ByteArray) (k : Kont Unit) : codeC g_impl_ValText [] .o (Code.pl (Code.pr (Code.pl (Code.pl (Code.pr (Code.pl (Code.pl (Code.pr (Code.pl (Code.pr (Code.pr (Code.pr c_impl_ValText)))))))))))) (mkS 68 68 [(1, .ptr ⟨true, 1, []⟩), (3, .val ⟨y15, false, out, [.O]⟩), (4, .val ⟨(.int .i64), false, i, []⟩), (5, .val ⟨(.int .u8), false, b, []⟩)] [(1, ⟨y2, a, v_, []⟩)]) (fun e σ => k e ((cutC ([1, 3, 4, 5, 50], [1]) [] ([], [])) e σ)) = impl_ValText_p0 b (fun (t50 : Bool) => k .normal (mkS 68 68 [(1, .ptr ⟨true, 1, []⟩), (3, .val ⟨y15, false, out, [.O]⟩), (4, .val ⟨(.int .i64), false, i, []⟩), (5, .val ⟨(.int .u8), false, b, []⟩), (50, .val ⟨.bool, false, t50, []⟩)] [(1, ⟨y2, a, v_, []⟩)])) := by kernel_rfl
theorem oimpl_ValText_p0 {W0 : Base} {M : Nat → Prop} (hnp : W0.np ≤ 0) : CodeOk Try.prog W0 M (Code.pl (Code.pr (Code.pl (Code.pl (Code.pr (Code.pl (Code.pl (Code.pr (Code.pl (Code.pr (Code.pr (Code.pr c_impl_ValText)))))))))))) ximpl_ValText_p0 := node_ok (code_sound follows tysOk (calls_ok (fns_cons S_impl_NumText (fns_cons S_impl_within (fns_cons S_impl_ValOk (fns_cons S_impl_boolText fns_nil))))) hnp [] ((Code.pl (Code.pr (Code.pl (Code.pl (Code.pr (Code.pl (Code.pl (Code.pr (Code.pl (Code.pr (Code.pr (Code.pr c_impl_ValText))))))))))))) .o trivial) (fg := (cutC ([1, 3, 4, 5, 50], [1]) [] ([], []))) (cutC_le _ _ _) (by
  intro σ k r h
  obtain ⟨hn, h1⟩ := rdN_some h
  obtain ⟨hs1, h2⟩ := rdT_some h1
  obtain ⟨out, hs3, h3⟩ := rdV_some h2
  obtain ⟨i, hs4, h4⟩ := rdV_some h3
  obtain ⟨b, hs5, h5⟩ := rdV_some h4
  obtain ⟨a, v_, hb1, h6⟩ := rdB_some h5
  refine ⟨_, ?_, (eimpl_ValText_p0 out i b a v_ k).trans h6⟩
  exact mkS_le hn ⟨hs1, hs3, hs4, hs5, trivial⟩ ⟨hb1, trivial⟩)
noncomputable def impl_ValText_l1_r (v_ : Int × Int × ByteArray) (out : List Int) (i : Int) (rec : (List Int) → Int → Res) (k0 : (List Int) → Res) : Res :=
  bif decide (i < (nI (ByteArray.size v_.2.2))) then
    bif inb i (ByteArray.size v_.2.2) then
      impl_ValText_p0 (bt v_.2.2 i) fun (t : Bool) =>
        bif t then
          bif lim ((List.length out) + 1) then
            rec (out ++ [bt v_.2.2 i]) (wi64 (i + 1))
          else none
        else
          bif inb (shrI .u8 (bt v_.2.2 i) 4) 16 then
            bif inb (andI .u8 (bt v_.2.2 i) 15) 16 then
              bif lim ((List.length out) + 3) then
                rec (out ++ [37, bt z_0123456789abcdef (shrI .u8 (bt v_.2.2 i) 4), bt z_0123456789abcdef (andI .u8 (bt v_.2.2 i) 15)]) (wi64 (i + 1))
              else none
            else none
          else none
    else none
  else
    k0 out
noncomputable def impl_ValText_l1_s (v_ : Int × Int × ByteArray) : ((List Int) × Int) → ((List Int) × Int → Res) → (((List Int) → Res)) → Res := fun v rec q => impl_ValText_l1_r v_ v.1 v.2 (fun out i => rec (out, i)) q
noncomputable def impl_ValText_l1 (v_ : Int × Int × ByteArray) (n : Nat) (out : List Int) (i : Int) (k0 : (List Int) → Res) : Res := iter (impl_ValText_l1_s v_) n (out, i) (k0)
noncomputable def ximpl_ValText_l1 : Node Unit := fun σ k => rdN σ 68 <| rdT σ 1 (.ptr ⟨true, 1, []⟩) <| rdV σ 3 y15 false [.O] fun out => rdV σ 4 (.int .i64) false [] fun i => rdB σ 1 y2 [] fun a v_ => impl_ValText_l1 v_ FUEL out i (fun (out1 : List Int) => k (.exit 1) (mkS 68 68 [(3, .val ⟨y15, false, out1, [.O]⟩)] []))
theorem eimpl_ValText_l1 (a : Bool) (v_ : Int × Int × ByteArray) (n : Nat) (v : (List Int) × Int) (k : Kont Unit) : loopC (codeC g_impl_ValText [ximpl_ValText_p0] (.t .o (.t (.t (.t .o (.t (.x 0) .o)) .o) .o)) (Code.pl (Code.pl (Code.pr (Code.pl (Code.pr (Code.pr (Code.pr c_impl_ValText)))))))) (fun σ => σ.forget [1, 3, 4] [1]) (cutC ([], []) [(1, [3], [])] ([], [])) n (mkS 68 68 [(1, .ptr ⟨true, 1, []⟩), (3, .val ⟨y15, false, v.1, [.O]⟩), (4, .val ⟨(.int .i64), false, v.2, []⟩)] [(1, ⟨y2, a, v_, []⟩)]) k = iter (impl_ValText_l1_s v_) n v ((fun (k : Kont Unit) => (((fun (out1 : List Int) => k (.exit 1) (mkS 68 68 [(3, .val ⟨y15, false, out1, [.O]⟩)] []))) : ((List Int) → Res))) k) := loop_eq (fun v : (List Int) × Int => (mkS 68 68 [(1, .ptr ⟨true, 1, []⟩), (3, .val ⟨y15, false, v.1, [.O]⟩), (4, .val ⟨(.int .i64), false, v.2, []⟩)] [(1, ⟨y2, a, v_, []⟩)])) (impl_ValText_l1_s v_) (fun (k : Kont Unit) => (((fun (out1 : List Int) => k (.exit 1) (mkS 68 68 [(3, .val ⟨y15, false, out1, [.O]⟩)] []))) : ((List Int) → Res))) (fun v rec k => by kernel_rfl) n v k
theorem oimpl_ValText_l1 {W0 : Base} {M : Nat → Prop} (hnp : W0.np ≤ 0) : CodeOk Try.prog W0 M (Code.pl (Code.pr (Code.pl (Code.pr (Code.pr (Code.pr c_impl_ValText)))))) ximpl_ValText_l1 := show CodeOk Try.prog W0 M (Code.loop (Code.pl (Code.pl (Code.pr (Code.pl (Code.pr (Code.pr (Code.pr c_impl_ValText)))))))) ximpl_ValText_l1 from loop_ok (code_sound follows tysOk (calls_ok (fns_cons S_impl_NumText (fns_cons S_impl_within (fns_cons S_impl_ValOk (fns_cons S_impl_boolText fns_nil))))) hnp [ximpl_ValText_p0] (Code.pl (Code.pl (Code.pr (Code.pl (Code.pr (Code.pr (Code.pr c_impl_ValText))))))) (.t .o (.t (.t (.t .o (.t (.x 0) .o)) .o) .o)) (OrOk.mk trivial ((OrOk.mk ((OrOk.mk ((OrOk.mk trivial ((OrOk.mk (OrOk.x_mk (fun W0 M hnp => oimpl_ValText_p0 (W0 := W0) (M := M) hnp)) trivial)))) trivial)) trivial)))) (ks := [1, 3, 4]) (bs := [1]) (fX := (cutC ([], []) [(1, [3], [])] ([], []))) (cutC_le _ _ _) FUEL (by
  intro σ k r h
  obtain ⟨hn, h1⟩ := rdN_some h
  obtain ⟨hs1, h2⟩ := rdT_some h1
  obtain ⟨out, hs3, h3⟩ := rdV_some h2
  obtain ⟨i, hs4, h4⟩ := rdV_some h3
  obtain ⟨a, v_, hb1, h5⟩ := rdB_some h4
  refine ⟨_, ?_, (eimpl_ValText_l1 a v_ FUEL (out, i) k).trans h5⟩
  exact mkS_le hn ⟨hs1, hs3, hs4, trivial⟩ ⟨hb1, trivial⟩)
noncomputable def impl_ValText (v_ : Int × Int × ByteArray) (k0 : ByteArray → Res) : Res :=
  impl_ValOk v_ fun (r : Bool) =>
    bif !r then
      k0 eS
    else
      bif (v_.1 == 0) then
        k0 z_null
      else
        bif (v_.1 == 1) then
          impl_boolText v_.2.1 fun (r1 : ByteArray) =>
            k0 r1
        else
          bif (v_.1 == 2) then
            impl_NumText v_.2.1 fun (r2 : ByteArray) =>
              k0 r2
          else
            impl_ValText_l1 v_ FUEL [39] 0 fun (out : List Int) =>
              bif lim ((List.length out) + 1) then
                k0 (ofBytes (out ++ [39]))
              else none
noncomputable def s_impl_ValText : Sig Unit := ⟨[.look y2 true], [false], fun vals ext k => av vals y2 fun v_ vals => nl vals <| nl ext <| impl_ValText v_ (fun (r0 : ByteArray) => k [⟨.str, false, r0, []⟩] [] [])⟩
theorem E_impl_ValText (v_ : Int × Int × ByteArray) (a_v_ : Bool) (t_v_ : List Tag) (k : List TVal → List TVal → List TVal → Res) : funC g_impl_ValText [ximpl_ValText_p0, ximpl_ValText_l1] (.t .o (.t .o (.t .o (.t (.t .o (.t (.x 1) .o)) .o)))) false Try.f278 [.look y2 true] [false] [⟨y2, a_v_, v_, t_v_⟩] [] k = impl_ValText v_ (fun (r0 : ByteArray) => k [⟨.str, false, r0, []⟩] [] []) := by kernel_rfl
theorem S_impl_ValText : Sound Try.prog 278 s_impl_ValText := sound_of (Γ := g_impl_ValText) (X := [ximpl_ValText_p0, ximpl_ValText_l1]) (ht := (.t .o (.t .o (.t .o (.t (.t .o (.t (.x 1) .o)) .o))))) (fz := false) (c := c_impl_ValText) follows tysOk (fns_cons S_impl_NumText (fns_cons S_impl_within (fns_cons S_impl_ValOk (fns_cons S_impl_boolText fns_nil)))) (OrOk.mk trivial ((OrOk.mk trivial ((OrOk.mk trivial ((OrOk.mk ((OrOk.mk trivial ((OrOk.mk (OrOk.x_mk (fun W0 M hnp => oimpl_ValText_l1 (W0 := W0) (M := M) hnp)) trivial)))) trivial))))))) Try.func278 (by kernel_rfl) (by kernel_rfl) (by decide) (by
  intro vals ext k r h
  obtain ⟨v_, a_v_, t_v_, vals, rfl, h1⟩ := av_some h
  obtain ⟨rfl, h2⟩ := nl_some h1
  obtain ⟨rfl, h3⟩ := nl_some h2
  exact (E_impl_ValText v_ a_v_ t_v_ k).trans h3)
end Go.PI.G
