/-
  Printed: what the functions compute. No conditions.
-/
import Derived.Test.YtcapkiofiipamaaGR0
set_option linter.unusedVariables false
set_option maxRecDepth 100000
namespace Go.PI.G
open Go Go.PI Go.Proofs

/-! ### 112 loop.example/g00462/laws.markText -/
noncomputable def c_laws_markText : Code := (Try.f112.body).getD .skip
noncomputable def g_laws_markText : Env Unit := ⟨tys, [], 0⟩
noncomputable def laws_markText_l0_r (k_ : Int) (out : ByteArray) (rec : Int → ByteArray → Res) (k0 : ByteArray → Res) : Res :=
  bif decide (k_ > 0) then
    bif lim ((ByteArray.size (ofBytes [wu8 (wi64 (48 + (Int.tmod k_ 10)))])) + (ByteArray.size out)) then
      rec (wi64 (Int.tdiv k_ 10)) ((ofBytes [wu8 (wi64 (48 + (Int.tmod k_ 10)))]) ++ out)
    else none
  else
    k0 out
noncomputable def laws_markText_l0_s : (Int × ByteArray) → (Int × ByteArray → Res) → ((ByteArray → Res)) → Res := fun v rec q => laws_markText_l0_r v.1 v.2 (fun k_ out => rec (k_, out)) q
noncomputable def laws_markText_l0 (n : Nat) (k_ : Int) (out : ByteArray) (k0 : ByteArray → Res) : Res := iter (laws_markText_l0_s) n (k_, out) (k0)
noncomputable def xlaws_markText_l0 : Node Unit := fun σ k => rdN σ 20 <| rdV σ 0 (.int .i64) false [] fun k_ => rdV σ 3 .str false [] fun out => laws_markText_l0 FUEL k_ out (fun (out1 : ByteArray) => k (.exit 0) (mkS 20 20 [(3, .val ⟨.str, false, out1, []⟩)] []))
theorem elaws_markText_l0  (n : Nat) (v : Int × ByteArray) (k : Kont Unit) : loopC (codeC g_laws_markText [] .o (Code.pl (Code.pl (Code.pl (Code.pr (Code.pr (Code.pr c_laws_markText))))))) (fun σ => σ.forget [0, 3] []) (cutC ([], []) [(0, [3], [])] ([], [])) n (mkS 20 20 [(0, .val ⟨(.int .i64), false, v.1, []⟩), (3, .val ⟨.str, false, v.2, []⟩)] []) k = iter (laws_markText_l0_s) n v ((fun (k : Kont Unit) => (((fun (out1 : ByteArray) => k (.exit 0) (mkS 20 20 [(3, .val ⟨.str, false, out1, []⟩)] []))) : (ByteArray → Res))) k) := loop_eq (fun v : Int × ByteArray => (mkS 20 20 [(0, .val ⟨(.int .i64), false, v.1, []⟩), (3, .val ⟨.str, false, v.2, []⟩)] [])) (laws_markText_l0_s) (fun (k : Kont Unit) => (((fun (out1 : ByteArray) => k (.exit 0) (mkS 20 20 [(3, .val ⟨.str, false, out1, []⟩)] []))) : (ByteArray → Res))) (fun v rec k => by kernel_rfl) n v k
theorem olaws_markText_l0 {W0 : Base} {M : Nat → Prop} (hnp : W0.np ≤ 0) : CodeOk Try.prog W0 M (Code.pl (Code.pl (Code.pr (Code.pr (Code.pr c_laws_markText))))) xlaws_markText_l0 := show CodeOk Try.prog W0 M (Code.loop (Code.pl (Code.pl (Code.pl (Code.pr (Code.pr (Code.pr c_laws_markText))))))) xlaws_markText_l0 from loop_ok (code_sound follows tysOk (calls_ok fns_nil) hnp [] (Code.pl (Code.pl (Code.pl (Code.pr (Code.pr (Code.pr c_laws_markText)))))) .o trivial) (ks := [0, 3]) (bs := []) (fX := (cutC ([], []) [(0, [3], [])] ([], []))) (cutC_le _ _ _) FUEL (by
  intro σ k r h
  obtain ⟨hn, h1⟩ := rdN_some h
  obtain ⟨k_, hs0, h2⟩ := rdV_some h1
  obtain ⟨out, hs3, h3⟩ := rdV_some h2
  refine ⟨_, ?_, (elaws_markText_l0  FUEL (k_, out) k).trans h3⟩
  exact mkS_le hn ⟨hs0, hs3, trivial⟩ trivial)
noncomputable def laws_markText (k_ : Int) (k0 : ByteArray → Res) : Res :=
  bif decide (k_ ≤ 0) then
    k0 z_m0
  else
    laws_markText_l0 FUEL k_ eS fun (out : ByteArray) =>
      bif lim (1 + (ByteArray.size out)) then
        k0 (z_m ++ out)
      else none
noncomputable def s_laws_markText : Sig Unit := ⟨[.look (.int .i64) false], [false], fun vals ext k => av vals (.int .i64) fun k_ vals => nl vals <| nl ext <| laws_markText k_ (fun (r0 : ByteArray) => k [⟨.str, false, r0, []⟩] [] [])⟩
theorem E_laws_markText (k_ : Int) (a_k_ : Bool) (t_k_ : List Tag) (k : List TVal → List TVal → List TVal → Res) : funC g_laws_markText [xlaws_markText_l0] (.t .o (.t .o (.t .o (.t (.t (.x 0) .o) .o)))) false Try.f112 [.look (.int .i64) false] [false] [⟨(.int .i64), a_k_, k_, t_k_⟩] [] k = laws_markText k_ (fun (r0 : ByteArray) => k [⟨.str, false, r0, []⟩] [] []) := by kernel_rfl
theorem S_laws_markText : Sound Try.prog 112 s_laws_markText := sound_of (Γ := g_laws_markText) (X := [xlaws_markText_l0]) (ht := (.t .o (.t .o (.t .o (.t (.t (.x 0) .o) .o))))) (fz := false) (c := c_laws_markText) follows tysOk fns_nil (OrOk.mk trivial ((OrOk.mk trivial ((OrOk.mk trivial ((OrOk.mk ((OrOk.mk (OrOk.x_mk (fun W0 M hnp => olaws_markText_l0 (W0 := W0) (M := M) hnp)) trivial)) trivial))))))) Try.func112 (by kernel_rfl) (by kernel_rfl) (by decide) (by
  intro vals ext k r h
  obtain ⟨k_, a_k_, t_k_, vals, rfl, h1⟩ := av_some h
  obtain ⟨rfl, h2⟩ := nl_some h1
  obtain ⟨rfl, h3⟩ := nl_some h2
  exact (E_laws_markText k_ a_k_ t_k_ k).trans h3)
end Go.PI.G
