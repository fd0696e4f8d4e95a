/-
  Printed: what the functions compute. No conditions.
-/
import Derived.Test.YtcapkiofiipamaaGR0
set_option linter.unusedVariables false
set_option maxRecDepth 100000
namespace Go.PI.G
open Go Go.PI Go.Proofs

/-! ### 68 loop.example/g00462/spec.WordOk -/
noncomputable def c_spec_WordOk : Code := (Try.f68.body).getD .skip
noncomputable def g_spec_WordOk : Env Unit := ⟨tys, [], 0⟩
noncomputable def spec_WordOk_l0_r (s : ByteArray) (i : Int) (rec : Int → Res) (k0 : Unit → Res) (k1 : Unit → Res) : Res :=
  bif decide (i < (nI (ByteArray.size s))) then
    bif inb i (ByteArray.size s) then
      bif decide ((bt s i) < 97) then
        k1 ()
      else
        bif inb i (ByteArray.size s) then
          bif decide ((bt s i) > 122) then
            k1 ()
          else
            rec (wi64 (i + 1))
        else none
    else none
  else
    k0 ()
noncomputable def spec_WordOk_l0_s (s : ByteArray) : Int → (Int → Res) → ((Unit → Res) × (Unit → Res)) → Res := fun v rec q => spec_WordOk_l0_r s v (fun i => rec (i)) q.1 q.2
noncomputable def spec_WordOk_l0 (s : ByteArray) (n : Nat) (i : Int) (k0 : Unit → Res) (k1 : Unit → Res) : Res := iter (spec_WordOk_l0_s s) n (i) (k0, k1)
noncomputable def xspec_WordOk_l0 : Node Unit := fun σ k => rdN σ 28 <| rdV σ 0 .str false [] fun s => rdV σ 3 (.int .i64) false [] fun i => spec_WordOk_l0 s FUEL i (fun (_ : Unit) => k (.exit 0) (mkS 28 28 [(0, .val ⟨.str, false, s, []⟩)] [])) (fun (_ : Unit) => k .ret (mkS 28 28 [(2, .val ⟨.bool, false, false, []⟩)] []))
theorem espec_WordOk_l0 (s : ByteArray) (n : Nat) (v : Int) (k : Kont Unit) : loopC (codeC g_spec_WordOk [] .o (Code.pl (Code.pl (Code.pr (Code.pl (Code.pr c_spec_WordOk)))))) (fun σ => σ.forget [0, 3] []) (cutC ([], []) [(0, [0], [])] ([2], [])) n (mkS 28 28 [(0, .val ⟨.str, false, s, []⟩), (3, .val ⟨(.int .i64), false, v, []⟩)] []) k = iter (spec_WordOk_l0_s s) n v ((fun (k : Kont Unit) => (((fun (_ : Unit) => k (.exit 0) (mkS 28 28 [(0, .val ⟨.str, false, s, []⟩)] [])), (fun (_ : Unit) => k .ret (mkS 28 28 [(2, .val ⟨.bool, false, false, []⟩)] []))) : (Unit → Res) × (Unit → Res))) k) := loop_eq (fun v : Int => (mkS 28 28 [(0, .val ⟨.str, false, s, []⟩), (3, .val ⟨(.int .i64), false, v, []⟩)] [])) (spec_WordOk_l0_s s) (fun (k : Kont Unit) => (((fun (_ : Unit) => k (.exit 0) (mkS 28 28 [(0, .val ⟨.str, false, s, []⟩)] [])), (fun (_ : Unit) => k .ret (mkS 28 28 [(2, .val ⟨.bool, false, false, []⟩)] []))) : (Unit → Res) × (Unit → Res))) (fun v rec k => by kernel_rfl) n v k
theorem ospec_WordOk_l0 {W0 : Base} {M : Nat → Prop} (hnp : W0.np ≤ 0) : CodeOk Try.prog W0 M (Code.pl (Code.pr (Code.pl (Code.pr c_spec_WordOk)))) xspec_WordOk_l0 := show CodeOk Try.prog W0 M (Code.loop (Code.pl (Code.pl (Code.pr (Code.pl (Code.pr c_spec_WordOk)))))) xspec_WordOk_l0 from loop_ok (code_sound follows tysOk (calls_ok fns_nil) hnp [] (Code.pl (Code.pl (Code.pr (Code.pl (Code.pr c_spec_WordOk))))) .o trivial) (ks := [0, 3]) (bs := []) (fX := (cutC ([], []) [(0, [0], [])] ([2], []))) (cutC_le _ _ _) FUEL (by
  intro σ k r h
  obtain ⟨hn, h1⟩ := rdN_some h
  obtain ⟨s, hs0, h2⟩ := rdV_some h1
  obtain ⟨i, hs3, h3⟩ := rdV_some h2
  refine ⟨_, ?_, (espec_WordOk_l0 s FUEL (i) k).trans h3⟩
  exact mkS_le hn ⟨hs0, hs3, trivial⟩ trivial)
noncomputable def spec_WordOk (s : ByteArray) (k0 : Bool → Res) : Res :=
  spec_WordOk_l0 s FUEL 0
    (fun (_ : Unit) =>
      bif decide ((nI (ByteArray.size s)) ≥ 1) then
        k0 (decide ((nI (ByteArray.size s)) ≤ 8))
      else
        k0 false)
    (fun (_ : Unit) =>
      k0 false)
noncomputable def s_spec_WordOk : Sig Unit := ⟨[.look .str false], [false], fun vals ext k => av vals .str fun s vals => nl vals <| nl ext <| spec_WordOk s (fun (r0 : Bool) => k [⟨.bool, false, r0, []⟩] [] [])⟩
theorem E_spec_WordOk (s : ByteArray) (a_s : Bool) (t_s : List Tag) (k : List TVal → List TVal → List TVal → Res) : funC g_spec_WordOk [xspec_WordOk_l0] (.t .o (.t (.t .o (.t (.x 0) .o)) .o)) false Try.f68 [.look .str false] [false] [⟨.str, a_s, s, t_s⟩] [] k = spec_WordOk s (fun (r0 : Bool) => k [⟨.bool, false, r0, []⟩] [] []) := by kernel_rfl
theorem S_spec_WordOk : Sound Try.prog 68 s_spec_WordOk := sound_of (Γ := g_spec_WordOk) (X := [xspec_WordOk_l0]) (ht := (.t .o (.t (.t .o (.t (.x 0) .o)) .o))) (fz := false) (c := c_spec_WordOk) follows tysOk fns_nil (OrOk.mk trivial ((OrOk.mk ((OrOk.mk trivial ((OrOk.mk (OrOk.x_mk (fun W0 M hnp => ospec_WordOk_l0 (W0 := W0) (M := M) hnp)) trivial)))) trivial))) Try.func68 (by kernel_rfl) (by kernel_rfl) (by decide) (by
  intro vals ext k r h
  obtain ⟨s, a_s, t_s, vals, rfl, h1⟩ := av_some h
  obtain ⟨rfl, h2⟩ := nl_some h1
  obtain ⟨rfl, h3⟩ := nl_some h2
  exact (E_spec_WordOk s a_s t_s k).trans h3)

/-! ### 266 loop.example/g00462/spec.l01Num -/
noncomputable def c_spec_l01Num : Code := (Try.f266.body).getD .skip
noncomputable def g_spec_l01Num : Env Unit := ⟨tys, [], 0⟩
noncomputable def spec_l01Num (n_ : Int) (k0 : Bool → Res) : Res :=
  bif decide (n_ ≥ (-1099511627775)) then
    k0 (decide (n_ ≤ 1099511627775))
  else
    k0 false
noncomputable def s_spec_l01Num : Sig Unit := ⟨[.look (.int .i64) false], [false], fun vals ext k => av vals (.int .i64) fun n_ vals => nl vals <| nl ext <| spec_l01Num n_ (fun (r0 : Bool) => k [⟨.bool, false, r0, []⟩] [] [])⟩
theorem E_spec_l01Num (n_ : Int) (a_n_ : Bool) (t_n_ : List Tag) (k : List TVal → List TVal → List TVal → Res) : funC g_spec_l01Num [] .o false Try.f266 [.look (.int .i64) false] [false] [⟨(.int .i64), a_n_, n_, t_n_⟩] [] k = spec_l01Num n_ (fun (r0 : Bool) => k [⟨.bool, false, r0, []⟩] [] []) := by kernel_rfl
theorem S_spec_l01Num : Sound Try.prog 266 s_spec_l01Num := sound_of (Γ := g_spec_l01Num) (X := []) (ht := .o) (fz := false) (c := c_spec_l01Num) follows tysOk fns_nil trivial Try.func266 (by kernel_rfl) (by kernel_rfl) (by decide) (by
  intro vals ext k r h
  obtain ⟨n_, a_n_, t_n_, vals, rfl, h1⟩ := av_some h
  obtain ⟨rfl, h2⟩ := nl_some h1
  obtain ⟨rfl, h3⟩ := nl_some h2
  exact (E_spec_l01Num n_ a_n_ t_n_ k).trans h3)

/-! ### 247 loop.example/g00462/spec.ValOk -/
noncomputable def c_spec_ValOk : Code := (Try.f247.body).getD .skip
noncomputable def g_spec_ValOk : Env Unit := ⟨tys, [(266, s_spec_l01Num)], 0⟩
noncomputable def spec_ValOk (v_ : Int × Int × ByteArray) (k0 : Bool → Res) : Res :=
  bif (v_.1 == 0) then
    bif (v_.2.1 == 0) then
      k0 (sEq v_.2.2 eS)
    else
      k0 false
  else
    bif (v_.1 == 1) then
      bif (v_.2.1 == 0) then
        k0 (sEq v_.2.2 eS)
      else
        bif (v_.2.1 == 1) then
          k0 (sEq v_.2.2 eS)
        else
          k0 false
    else
      bif (v_.1 == 2) then
        spec_l01Num v_.2.1 fun (r : Bool) =>
          bif r then
            k0 (sEq v_.2.2 eS)
          else
            k0 false
      else
        bif (v_.1 == 3) then
          bif (v_.2.1 == 0) then
            k0 (decide ((nI (ByteArray.size v_.2.2)) ≤ 30))
          else
            k0 false
        else
          k0 false
noncomputable def s_spec_ValOk : Sig Unit := ⟨[.look y2 true], [false], fun vals ext k => av vals y2 fun v_ vals => nl vals <| nl ext <| spec_ValOk v_ (fun (r0 : Bool) => k [⟨.bool, false, r0, []⟩] [] [])⟩
theorem E_spec_ValOk (v_ : Int × Int × ByteArray) (a_v_ : Bool) (t_v_ : List Tag) (k : List TVal → List TVal → List TVal → Res) : funC g_spec_ValOk [] .o false Try.f247 [.look y2 true] [false] [⟨y2, a_v_, v_, t_v_⟩] [] k = spec_ValOk v_ (fun (r0 : Bool) => k [⟨.bool, false, r0, []⟩] [] []) := by kernel_rfl
theorem S_spec_ValOk : Sound Try.prog 247 s_spec_ValOk := sound_of (Γ := g_spec_ValOk) (X := []) (ht := .o) (fz := false) (c := c_spec_ValOk) follows tysOk (fns_cons S_spec_l01Num fns_nil) trivial Try.func247 (by kernel_rfl) (by kernel_rfl) (by decide) (by
  intro vals ext k r h
  obtain ⟨v_, a_v_, t_v_, vals, rfl, h1⟩ := av_some h
  obtain ⟨rfl, h2⟩ := nl_some h1
  obtain ⟨rfl, h3⟩ := nl_some h2
  exact (E_spec_ValOk v_ a_v_ t_v_ k).trans h3)

/-! ### 240 loop.example/g00462/spec.ValLess -/
noncomputable def c_spec_ValLess : Code := (Try.f240.body).getD .skip
noncomputable def g_spec_ValLess : Env Unit := ⟨tys, [(247, s_spec_ValOk)], 0⟩
noncomputable def spec_ValLess (a : Int × Int × ByteArray) (b : Int × Int × ByteArray) (k0 : Bool → Res) : Res :=
  spec_ValOk a fun (r : Bool) =>
    bif !r then
      k0 false
    else
      spec_ValOk b fun (r1 : Bool) =>
        bif !r1 then
          k0 false
        else
          bif (a.1 != b.1) then
            k0 (decide (a.1 < b.1))
          else
            bif decide (a.2.1 < b.2.1) then
              k0 true
            else
              bif (a.2.1 == b.2.1) then
                k0 (sLt a.2.2 b.2.2)
              else
                k0 false
noncomputable def s_spec_ValLess : Sig Unit := ⟨[.look y2 true, .look y2 true], [false], fun vals ext k => av vals y2 fun a vals => av vals y2 fun b vals => nl vals <| nl ext <| spec_ValLess a b (fun (r0 : Bool) => k [⟨.bool, false, r0, []⟩] [] [])⟩
theorem E_spec_ValLess (a : Int × Int × ByteArray) (a_a : Bool) (t_a : List Tag) (b : Int × Int × ByteArray) (a_b : Bool) (t_b : List Tag) (k : List TVal → List TVal → List TVal → Res) : funC g_spec_ValLess [] .o false Try.f240 [.look y2 true, .look y2 true] [false] [⟨y2, a_a, a, t_a⟩, ⟨y2, a_b, b, t_b⟩] [] k = spec_ValLess a b (fun (r0 : Bool) => k [⟨.bool, false, r0, []⟩] [] []) := by kernel_rfl
theorem S_spec_ValLess : Sound Try.prog 240 s_spec_ValLess := sound_of (Γ := g_spec_ValLess) (X := []) (ht := .o) (fz := false) (c := c_spec_ValLess) follows tysOk (fns_cons S_spec_ValOk fns_nil) trivial Try.func240 (by kernel_rfl) (by kernel_rfl) (by decide) (by
  intro vals ext k r h
  obtain ⟨a, a_a, t_a, vals, rfl, h1⟩ := av_some h
  obtain ⟨b, a_b, t_b, vals, rfl, h2⟩ := av_some h1
  obtain ⟨rfl, h3⟩ := nl_some h2
  obtain ⟨rfl, h4⟩ := nl_some h3
  exact (E_spec_ValLess a a_a t_a b a_b t_b k).trans h4)

/-! ### 153 loop.example/g00462/impl.within -/
noncomputable def c_impl_within : Code := (Try.f153.body).getD .skip
noncomputable def g_impl_within : Env Unit := ⟨tys, [], 0⟩
noncomputable def impl_within (x : Int) (lo : Int) (hi : Int) (k0 : Bool → Res) : Res :=
  bif decide (x ≥ lo) then
    k0 (decide (x ≤ hi))
  else
    k0 false
noncomputable def s_impl_within : Sig Unit := ⟨[.look (.int .i64) false, .look (.int .i64) false, .look (.int .i64) false], [false], fun vals ext k => av vals (.int .i64) fun x vals => av vals (.int .i64) fun lo vals => av vals (.int .i64) fun hi vals => nl vals <| nl ext <| impl_within x lo hi (fun (r0 : Bool) => k [⟨.bool, false, r0, []⟩] [] [])⟩
theorem E_impl_within (x : Int) (a_x : Bool) (t_x : List Tag) (lo : Int) (a_lo : Bool) (t_lo : List Tag) (hi : Int) (a_hi : Bool) (t_hi : List Tag) (k : List TVal → List TVal → List TVal → Res) : funC g_impl_within [] .o false Try.f153 [.look (.int .i64) false, .look (.int .i64) false, .look (.int .i64) false] [false] [⟨(.int .i64), a_x, x, t_x⟩, ⟨(.int .i64), a_lo, lo, t_lo⟩, ⟨(.int .i64), a_hi, hi, t_hi⟩] [] k = impl_within x lo hi (fun (r0 : Bool) => k [⟨.bool, false, r0, []⟩] [] []) := by kernel_rfl
theorem S_impl_within : Sound Try.prog 153 s_impl_within := sound_of (Γ := g_impl_within) (X := []) (ht := .o) (fz := false) (c := c_impl_within) follows tysOk fns_nil trivial Try.func153 (by kernel_rfl) (by kernel_rfl) (by decide) (by
  intro vals ext k r h
  obtain ⟨x, a_x, t_x, vals, rfl, h1⟩ := av_some h
  obtain ⟨lo, a_lo, t_lo, vals, rfl, h2⟩ := av_some h1
  obtain ⟨hi, a_hi, t_hi, vals, rfl, h3⟩ := av_some h2
  obtain ⟨rfl, h4⟩ := nl_some h3
  obtain ⟨rfl, h5⟩ := nl_some h4
  exact (E_impl_within x a_x t_x lo a_lo t_lo hi a_hi t_hi k).trans h5)

/-! ### 73 loop.example/g00462/impl.WordOk -/
noncomputable def c_impl_WordOk : Code := (Try.f73.body).getD .skip
noncomputable def g_impl_WordOk : Env Unit := ⟨tys, [(153, s_impl_within)], 0⟩
noncomputable def impl_WordOk_l0_r (s : ByteArray) (i : Int) (rec : Int → Res) (k0 : Unit → Res) (k1 : Unit → Res) : Res :=
  bif decide (i < (nI (ByteArray.size s))) then
    bif inb i (ByteArray.size s) then
      bif decide ((bt s i) < 97) then
        k1 ()
      else
        bif inb i (ByteArray.size s) then
          bif decide ((bt s i) > 122) then
            k1 ()
          else
            rec (wi64 (i + 1))
        else none
    else none
  else
    k0 ()
noncomputable def impl_WordOk_l0_s (s : ByteArray) : Int → (Int → Res) → ((Unit → Res) × (Unit → Res)) → Res := fun v rec q => impl_WordOk_l0_r s v (fun i => rec (i)) q.1 q.2
noncomputable def impl_WordOk_l0 (s : ByteArray) (n : Nat) (i : Int) (k0 : Unit → Res) (k1 : Unit → Res) : Res := iter (impl_WordOk_l0_s s) n (i) (k0, k1)
noncomputable def ximpl_WordOk_l0 : Node Unit := fun σ k => rdN σ 23 <| rdV σ 0 .str false [] fun s => rdV σ 3 (.int .i64) false [] fun i => impl_WordOk_l0 s FUEL i (fun (_ : Unit) => k (.exit 0) (mkS 23 23 [(0, .val ⟨.str, false, s, []⟩)] [])) (fun (_ : Unit) => k .ret (mkS 23 23 [(2, .val ⟨.bool, false, false, []⟩)] []))
theorem eimpl_WordOk_l0 (s : ByteArray) (n : Nat) (v : Int) (k : Kont Unit) : loopC (codeC g_impl_WordOk [] .o (Code.pl (Code.pl (Code.pr (Code.pl (Code.pr c_impl_WordOk)))))) (fun σ => σ.forget [0, 3] []) (cutC ([], []) [(0, [0], [])] ([2], [])) n (mkS 23 23 [(0, .val ⟨.str, false, s, []⟩), (3, .val ⟨(.int .i64), false, v, []⟩)] []) k = iter (impl_WordOk_l0_s s) n v ((fun (k : Kont Unit) => (((fun (_ : Unit) => k (.exit 0) (mkS 23 23 [(0, .val ⟨.str, false, s, []⟩)] [])), (fun (_ : Unit) => k .ret (mkS 23 23 [(2, .val ⟨.bool, false, false, []⟩)] []))) : (Unit → Res) × (Unit → Res))) k) := loop_eq (fun v : Int => (mkS 23 23 [(0, .val ⟨.str, false, s, []⟩), (3, .val ⟨(.int .i64), false, v, []⟩)] [])) (impl_WordOk_l0_s s) (fun (k : Kont Unit) => (((fun (_ : Unit) => k (.exit 0) (mkS 23 23 [(0, .val ⟨.str, false, s, []⟩)] [])), (fun (_ : Unit) => k .ret (mkS 23 23 [(2, .val ⟨.bool, false, false, []⟩)] []))) : (Unit → Res) × (Unit → Res))) (fun v rec k => by kernel_rfl) n v k
theorem oimpl_WordOk_l0 {W0 : Base} {M : Nat → Prop} (hnp : W0.np ≤ 0) : CodeOk Try.prog W0 M (Code.pl (Code.pr (Code.pl (Code.pr c_impl_WordOk)))) ximpl_WordOk_l0 := show CodeOk Try.prog W0 M (Code.loop (Code.pl (Code.pl (Code.pr (Code.pl (Code.pr c_impl_WordOk)))))) ximpl_WordOk_l0 from loop_ok (code_sound follows tysOk (calls_ok (fns_cons S_impl_within fns_nil)) hnp [] (Code.pl (Code.pl (Code.pr (Code.pl (Code.pr c_impl_WordOk))))) .o trivial) (ks := [0, 3]) (bs := []) (fX := (cutC ([], []) [(0, [0], [])] ([2], []))) (cutC_le _ _ _) FUEL (by
  intro σ k r h
  obtain ⟨hn, h1⟩ := rdN_some h
  obtain ⟨s, hs0, h2⟩ := rdV_some h1
  obtain ⟨i, hs3, h3⟩ := rdV_some h2
  refine ⟨_, ?_, (eimpl_WordOk_l0 s FUEL (i) k).trans h3⟩
  exact mkS_le hn ⟨hs0, hs3, trivial⟩ trivial)
noncomputable def impl_WordOk (s : ByteArray) (k0 : Bool → Res) : Res :=
  impl_WordOk_l0 s FUEL 0
    (fun (_ : Unit) =>
      impl_within (nI (ByteArray.size s)) 1 8 fun (r : Bool) =>
        k0 r)
    (fun (_ : Unit) =>
      k0 false)
noncomputable def s_impl_WordOk : Sig Unit := ⟨[.look .str false], [false], fun vals ext k => av vals .str fun s vals => nl vals <| nl ext <| impl_WordOk s (fun (r0 : Bool) => k [⟨.bool, false, r0, []⟩] [] [])⟩
theorem E_impl_WordOk (s : ByteArray) (a_s : Bool) (t_s : List Tag) (k : List TVal → List TVal → List TVal → Res) : funC g_impl_WordOk [ximpl_WordOk_l0] (.t .o (.t (.t .o (.t (.x 0) .o)) .o)) false Try.f73 [.look .str false] [false] [⟨.str, a_s, s, t_s⟩] [] k = impl_WordOk s (fun (r0 : Bool) => k [⟨.bool, false, r0, []⟩] [] []) := by kernel_rfl
theorem S_impl_WordOk : Sound Try.prog 73 s_impl_WordOk := sound_of (Γ := g_impl_WordOk) (X := [ximpl_WordOk_l0]) (ht := (.t .o (.t (.t .o (.t (.x 0) .o)) .o))) (fz := false) (c := c_impl_WordOk) follows tysOk (fns_cons S_impl_within fns_nil) (OrOk.mk trivial ((OrOk.mk ((OrOk.mk trivial ((OrOk.mk (OrOk.x_mk (fun W0 M hnp => oimpl_WordOk_l0 (W0 := W0) (M := M) hnp)) trivial)))) trivial))) Try.func73 (by kernel_rfl) (by kernel_rfl) (by decide) (by
  intro vals ext k r h
  obtain ⟨s, a_s, t_s, vals, rfl, h1⟩ := av_some h
  obtain ⟨rfl, h2⟩ := nl_some h1
  obtain ⟨rfl, h3⟩ := nl_some h2
  exact (E_impl_WordOk s a_s t_s k).trans h3)

/-! ### 250 loop.example/g00462/impl.ValOk -/
noncomputable def c_impl_ValOk : Code := (Try.f250.body).getD .skip
noncomputable def g_impl_ValOk : Env Unit := ⟨tys, [(153, s_impl_within)], 0⟩
noncomputable def impl_ValOk (v_ : Int × Int × ByteArray) (k0 : Bool → Res) : Res :=
  bif (v_.1 == 0) then
    k0 ((v_.1 == 0) && ((v_.2.1 == 0) && (sEq v_.2.2 eS)))
  else
    bif (v_.1 == 1) then
      impl_within v_.2.1 0 1 fun (r : Bool) =>
        bif r then
          k0 (sEq v_.2.2 eS)
        else
          k0 false
    else
      bif (v_.1 == 2) then
        impl_within v_.2.1 (-1099511627775) 1099511627775 fun (r1 : Bool) =>
          bif r1 then
            k0 (sEq v_.2.2 eS)
          else
            k0 false
      else
        bif (v_.1 == 3) then
          bif (v_.2.1 == 0) then
            k0 (decide ((nI (ByteArray.size v_.2.2)) ≤ 30))
          else
            k0 false
        else
          k0 false
noncomputable def s_impl_ValOk : Sig Unit := ⟨[.look y2 true], [false], fun vals ext k => av vals y2 fun v_ vals => nl vals <| nl ext <| impl_ValOk v_ (fun (r0 : Bool) => k [⟨.bool, false, r0, []⟩] [] [])⟩
theorem E_impl_ValOk (v_ : Int × Int × ByteArray) (a_v_ : Bool) (t_v_ : List Tag) (k : List TVal → List TVal → List TVal → Res) : funC g_impl_ValOk [] .o false Try.f250 [.look y2 true] [false] [⟨y2, a_v_, v_, t_v_⟩] [] k = impl_ValOk v_ (fun (r0 : Bool) => k [⟨.bool, false, r0, []⟩] [] []) := by kernel_rfl
theorem S_impl_ValOk : Sound Try.prog 250 s_impl_ValOk := sound_of (Γ := g_impl_ValOk) (X := []) (ht := .o) (fz := false) (c := c_impl_ValOk) follows tysOk (fns_cons S_impl_within fns_nil) trivial Try.func250 (by kernel_rfl) (by kernel_rfl) (by decide) (by
  intro vals ext k r h
  obtain ⟨v_, a_v_, t_v_, vals, rfl, h1⟩ := av_some h
  obtain ⟨rfl, h2⟩ := nl_some h1
  obtain ⟨rfl, h3⟩ := nl_some h2
  exact (E_impl_ValOk v_ a_v_ t_v_ k).trans h3)

/-! ### 244 loop.example/g00462/impl.ValLess -/
noncomputable def c_impl_ValLess : Code := (Try.f244.body).getD .skip
noncomputable def g_impl_ValLess : Env Unit := ⟨tys, [(250, s_impl_ValOk)], 0⟩
noncomputable def impl_ValLess (a : Int × Int × ByteArray) (b : Int × Int × ByteArray) (k0 : Bool → Res) : Res :=
  impl_ValOk a fun (r : Bool) =>
    bif !r then
      k0 false
    else
      impl_ValOk b fun (r1 : Bool) =>
        bif !r1 then
          k0 false
        else
          bif (a.1 != b.1) then
            k0 (decide (a.1 < b.1))
          else
            bif (a.2.1 != b.2.1) then
              k0 (decide (a.2.1 < b.2.1))
            else
              k0 (sLt a.2.2 b.2.2)
noncomputable def s_impl_ValLess : Sig Unit := ⟨[.look y2 true, .look y2 true], [false], fun vals ext k => av vals y2 fun a vals => av vals y2 fun b vals => nl vals <| nl ext <| impl_ValLess a b (fun (r0 : Bool) => k [⟨.bool, false, r0, []⟩] [] [])⟩
theorem E_impl_ValLess (a : Int × Int × ByteArray) (a_a : Bool) (t_a : List Tag) (b : Int × Int × ByteArray) (a_b : Bool) (t_b : List Tag) (k : List TVal → List TVal → List TVal → Res) : funC g_impl_ValLess [] .o false Try.f244 [.look y2 true, .look y2 true] [false] [⟨y2, a_a, a, t_a⟩, ⟨y2, a_b, b, t_b⟩] [] k = impl_ValLess a b (fun (r0 : Bool) => k [⟨.bool, false, r0, []⟩] [] []) := by kernel_rfl
theorem S_impl_ValLess : Sound Try.prog 244 s_impl_ValLess := sound_of (Γ := g_impl_ValLess) (X := []) (ht := .o) (fz := false) (c := c_impl_ValLess) follows tysOk (fns_cons S_impl_ValOk fns_nil) trivial Try.func244 (by kernel_rfl) (by kernel_rfl) (by decide) (by
  intro vals ext k r h
  obtain ⟨a, a_a, t_a, vals, rfl, h1⟩ := av_some h
  obtain ⟨b, a_b, t_b, vals, rfl, h2⟩ := av_some h1
  obtain ⟨rfl, h3⟩ := nl_some h2
  obtain ⟨rfl, h4⟩ := nl_some h3
  exact (E_impl_ValLess a a_a t_a b a_b t_b k).trans h4)
end Go.PI.G
