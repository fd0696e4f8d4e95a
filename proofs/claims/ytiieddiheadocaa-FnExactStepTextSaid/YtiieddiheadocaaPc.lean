/-
  Plain interpretation of the program's code over typed values, and that it tells what the machine does (part 3). No conditions.
-/
import Derived.Test.YtiieddiheadocaaPb
import Derived.KernelRfl
import Derived.WalkKit
import Derived.ProofKit
import Derived.OpenShut
import Derived.Below
import Derived.Carry
import Derived.WideShapes
import Derived.ShutString
import Derived.ChangeOld
set_option linter.unusedVariables false
set_option linter.unusedSimpArgs false
namespace Go.PI

section
variable {W0 : Base} {M : Nat → Prop} {σ : State} {a : Act} {w w' : World} {G : Ghost} {xs : List Nat} {P : Program}
variable {R : Type} {r : R}

theorem ArgC.up {G' : Ghost} (hu : Up G G') : (ms : List Mode) → (ys : List Value) → (vs : List TVal) → (fs : List (List Nat)) → (ls : List (Nat × Value)) → ArgC w G ms ys vs fs ls → ArgC w G' ms ys vs fs ls
  | [], ys, vs, fs, ls, h => by cases ys <;> cases vs <;> cases fs <;> cases ls <;> exact h
  | .borrow τ ag :: ms, ys, vs, fs, ls, h => by
    cases ys <;> cases vs <;> cases fs <;> first | exact h.elim | skip
    obtain ⟨h1, h2, h3, h4⟩ := h
    exact ⟨h1, h2, hu.lift h3, ArgC.up hu ms _ _ _ _ h4⟩
  | .consume τ ag :: ms, ys, vs, fs, ls, h => by
    cases ys <;> cases vs <;> cases fs <;> first | exact h.elim | skip
    obtain ⟨h2, h3, h4⟩ := h
    exact ⟨h2, hu.lift h3, ArgC.up hu ms _ _ _ _ h4⟩
  | .eat τ ag :: ms, ys, vs, fs, ls, h => by
    cases ys <;> cases vs <;> cases fs <;> first | exact h.elim | skip
    obtain ⟨h2, h3, h4⟩ := h
    exact ⟨h2, hu.lift h3, ArgC.up hu ms _ _ _ _ h4⟩
  | .inout τ ag :: ms, ys, vs, fs, ls, h => by cases ys <;> cases vs <;> cases fs <;> exact h.elim
  | .look τ ag :: ms, ys, vs, fs, ls, h => by cases ys <;> cases vs <;> cases fs <;> first | exact h.elim | (cases ls <;> exact h.elim)
  | .rptr τ :: ms, ys, vs, fs, ls, h => by cases ys <;> cases vs <;> cases fs <;> first | exact h.elim | (cases ls <;> exact h.elim)
  | .rclos g τs :: ms, ys, vs, fs, ls, h => by cases ys <;> cases vs <;> cases fs <;> first | exact h.elim | (cases ls <;> exact h.elim)
  | .ptr τ :: ms, ys, vs, fs, ls, h => by
    cases ys <;> cases ls <;> first | (cases vs <;> cases fs <;> exact h.elim) | skip
    rename_i y ys l ls
    have h' : y = l.2 ∧ ArgC w G ms ys vs fs ls := by cases vs <;> cases fs <;> exact h
    have := ArgC.up hu ms _ _ _ _ h'.2
    cases vs <;> cases fs <;> exact ⟨h'.1, this⟩
  | .clos g τs :: ms, ys, vs, fs, ls, h => by
    cases ys <;> first | (cases vs <;> cases fs <;> cases ls <;> exact h.elim) | skip
    rename_i y ys
    have h' : (τs.length ≤ ls.length ∧ y = .func (.func g) #[] ((ls.take τs.length).map (·.2)).toArray) ∧ ArgC w G ms ys vs fs (ls.drop τs.length) := by cases vs <;> cases fs <;> cases ls <;> exact h
    have := ArgC.up hu ms _ _ _ _ h'.2
    cases vs <;> cases fs <;> cases ls <;> exact ⟨h'.1, this⟩

def _root_.Go.PI.Mode.reads : Mode → Bool
  | .borrow .. => true
  | .clos .. => true
  | _ => false

theorem argsC_rel : (ms : List Mode) → (os : List Operand) → (σ : State) → (A : Args) → (k : Args → State → Option R) → (G : Ghost) → (xs : List Nat) → argsC ms os σ A k = some r → Inv W0 M σ a w G xs →
    ∃ (vs : List TVal) (fps : List (List Nat)) (ls : List (Nat × Value)) (A' : Args) (σ' : State) (G' : Ghost), k A' σ' = some r ∧ A'.vals = A.vals ++ vs ∧ A'.lent = A.lent ++ ls.map (·.1) ∧
      (A'.writes = false → A.writes = false ∧ fps.flatten = [] ∧ ls = [] ∧ ms.all Mode.reads = true) ∧ Inv W0 M σ' a w G' (fps.flatten ++ xs) ∧ Up G G' ∧ (∀ p, σ'.ct p = σ.ct p) ∧ σ'.slots.length = σ.slots.length ∧ ArgC w G' ms (os.map a.eval) vs fps ls ∧
      ∀ q ∈ ls, PtrRel σ G a w ⟨true, q.1, []⟩ q.2
  | [], [], σ, A, k, G, xs, h, I => ⟨[], [], [], A, σ, G, h, by simp, by simp, fun h => ⟨h, rfl, rfl, rfl⟩, by simpa using I, Up.refl _, fun _ => rfl, rfl, trivial, by simp⟩
  | [], _ :: _, σ, A, k, G, xs, h, I => by simp [argsC] at h
  | .borrow τ ag :: ms, [], σ, A, k, G, xs, h, I => by simp [argsC] at h
  | .consume τ ag :: ms, [], σ, A, k, G, xs, h, I => by simp [argsC] at h
  | .eat τ ag :: ms, [], σ, A, k, G, xs, h, I => by simp [argsC] at h
  | .inout τ ag :: ms, [], σ, A, k, G, xs, h, I => by simp [argsC] at h
  | .look τ ag :: ms, [], σ, A, k, G, xs, h, I => by simp [argsC] at h
  | .rptr τ :: ms, [], σ, A, k, G, xs, h, I => by simp [argsC] at h
  | .rclos g τs :: ms, [], σ, A, k, G, xs, h, I => by simp [argsC] at h
  | .ptr τ :: ms, [], σ, A, k, G, xs, h, I => by simp [argsC] at h
  | .clos g τs :: ms, [], σ, A, k, G, xs, h, I => by simp [argsC] at h
  | .inout τ ag :: ms, _ :: _, σ, A, k, G, xs, h, I => by simp [argsC] at h
  | .look τ ag :: ms, _ :: _, σ, A, k, G, xs, h, I => by simp [argsC] at h
  | .rptr τ :: ms, _ :: _, σ, A, k, G, xs, h, I => by simp [argsC] at h
  | .rclos g τs :: ms, _ :: _, σ, A, k, G, xs, h, I => by simp [argsC] at h
  | .borrow τ ag :: ms, o :: os, σ, A, k, G, xs, h, I => by
    simp only [argsC] at h
    split at h
    · rename_i t u hso
      split at h
      · rename_i hc
        obtain ⟨rfl, hsl⟩ := slotOf_some hso
        obtain ⟨G1, I1, hu1, hct1, hsh, hR⟩ := freeze_slot I hsl
        obtain ⟨vs, fps, ls, A', σ', G', h1, h2, h3, h4, h5, h6, h7, h8, h9, h10⟩ := argsC_rel ms os _ _ k G1 xs h I1
        refine ⟨u.freeze :: vs, [] :: fps, ls, A', σ', G', h1, by simp [h2], h3, fun hw => by simpa [Mode.reads] using h4 hw, by simpa using h5, hu1.trans h6, fun p => (h7 p).trans (hct1 p), h8.trans (setN_length _ _ _), ⟨rfl, ?_, h6.lift hR, h9⟩, fun q hq => (h10 q hq).less' hct1 hu1.ad⟩
        rw [← hc.2]; exact hsh
      · cases h
    · split at h
      · rename_i v hl
        split at h
        · rename_i hc
          obtain ⟨hR, hsh⟩ := lookAs_rel I hl
          obtain ⟨vs, fps, ls, A', σ', G', h1, h2, h3, h4, h5, h6, h7, h8, h9, h10⟩ := argsC_rel ms os _ _ k G xs h I
          refine ⟨v :: vs, [] :: fps, ls, A', σ', G', h1, by simp [h2], h3, fun hw => by simpa [Mode.reads] using h4 hw, by simpa using h5, h6, h7, h8, ⟨rfl, ?_, h6.lift hR, h9⟩, h10⟩
          rw [← hc.2]; exact hsh
        · cases h
      · cases h
  | .consume τ ag :: ms, o :: os, σ, A, k, G, xs, h, I => by
    simp only [argsC] at h
    split at h
    · rename_i v σ1 htk
      split at h
      · rename_i hc
        simp only [Bool.and_eq_true, beq_iff_eq] at hc
        obtain ⟨fp, G1, I1, hs1, _, hR, hsh⟩ := take_rel I htk
        obtain ⟨vs, fps, ls, A', σ', G', h1, h2, h3, h4, h5, h6, h7, h8, h9, h10⟩ := argsC_rel ms os _ _ k G1 _ h I1
        refine ⟨v :: vs, fp :: fps, ls, A', σ', G', h1, by simp [h2], h3, fun hw => (by have := (h4 hw).1; cases this), ?_, hs1.up.trans h6, fun p => (h7 p).trans (take_ct htk p), ?_, ⟨?_, h6.lift hR, h9⟩, fun q hq => (h10 q hq).less' (take_ct htk) hs1.ad⟩
        · refine h5.perm (List.perm_iff_count.2 fun z => ?_)
          simp only [List.flatten_cons, List.count_append]
          omega
        · rw [h8, ← I1.len, I.len]
        · rw [← hc.2]; exact hsh
      · cases h
    · cases h
  | .eat τ ag :: ms, o :: os, σ, A, k, G, xs, h, I => by
    simp only [argsC] at h
    split at h
    · rename_i v σ1 htk
      split at h
      · rename_i hc
        simp only [Bool.and_eq_true, beq_iff_eq] at hc
        obtain ⟨fp, G1, I1, hs1, _, hR, hsh⟩ := take_rel I htk
        obtain ⟨vs, fps, ls, A', σ', G', h1, h2, h3, h4, h5, h6, h7, h8, h9, h10⟩ := argsC_rel ms os _ _ k G1 _ h I1
        refine ⟨v :: vs, fp :: fps, ls, A', σ', G', h1, by simp [h2], h3, fun hw => (by have := (h4 hw).1; cases this), ?_, hs1.up.trans h6, fun p => (h7 p).trans (take_ct htk p), ?_, ⟨?_, h6.lift hR, h9⟩, fun q hq => (h10 q hq).less' (take_ct htk) hs1.ad⟩
        · refine h5.perm (List.perm_iff_count.2 fun z => ?_)
          simp only [List.flatten_cons, List.count_append]
          omega
        · rw [h8, ← I1.len, I.len]
        · rw [← hc.2]; exact hsh
      · cases h
    · cases h
  | .ptr τ :: ms, o :: os, σ, A, k, G, xs, h, I => by
    simp only [argsC] at h
    split at h
    · rename_i p hpk
      split at h
      · rename_i hw
        have hp := peek_rel I o
        rw [hpk] at hp
        obtain ⟨_, _, _, hpr⟩ := hp (by simp)
        obtain ⟨bx, root, path⟩ := p
        simp only [Place.whole, Bool.and_eq_true, List.isEmpty_iff] at hw
        obtain ⟨rfl, rfl⟩ := hw
        obtain ⟨vs, fps, ls, A', σ', G', h1, h2, h3, h4, h5, h6, h7, h8, h9, h10⟩ := argsC_rel ms os _ _ k G xs h I
        refine ⟨vs, fps, (root, a.eval o) :: ls, A', σ', G', h1, h2, by simp [h3], fun hw => (by have := (h4 hw).1; cases this), h5, h6, h7, h8, ?_, fun q hq => ?_⟩
        · have : a.eval o = (root, a.eval o).2 ∧ ArgC w G' ms (os.map a.eval) vs fps ls := ⟨rfl, h9⟩
          cases vs <;> cases fps <;> exact this
        · rcases List.mem_cons.1 hq with rfl | hq
          · exact hpr
          · exact h10 q hq
      · cases h
    · cases h
  | .clos g τs :: ms, o :: os, σ, A, k, G, xs, h, I => by
    simp only [argsC] at h
    split at h
    · rename_i g' ps hpk
      split at h
      · rename_i hw
        simp only [Bool.and_eq_true, beq_iff_eq, List.all_eq_true] at hw
        obtain ⟨⟨rfl, hlen⟩, hwh⟩ := hw
        have hp := peek_rel I o
        rw [hpk] at hp
        obtain ⟨_, us, hv, husz, hus⟩ := hp (by simp)
        obtain ⟨vs, fps, ls, A', σ', G', h1, h2, h3, h4, h5, h6, h7, h8, h9, h10⟩ := argsC_rel ms os _ _ k G xs h I
        let l0 : List (Nat × Value) := (ps.map (·.root)).zip us.toList
        have hl0 : l0.length = τs.length := by simp [l0, husz, hlen]
        have hl1 : l0.map (·.1) = ps.map (·.root) := by
          simp only [l0]
          rw [List.map_fst_zip (by simp [husz])]
        have hl2 : l0.map (·.2) = us.toList := by
          simp only [l0]
          rw [List.map_snd_zip (by simp [husz])]
        refine ⟨vs, fps, l0 ++ ls, A', σ', G', h1, h2, by simp only [h3, List.map_append, hl1, List.append_assoc], fun hw => ?_, h5, h6, h7, h8, ?_, fun q hq => ?_⟩
        · obtain ⟨q1, q2, q3, q4⟩ := h4 hw
          simp only [Bool.or_eq_false_iff, Bool.not_eq_false', List.isEmpty_iff] at q1
          refine ⟨q1.1, q2, ?_, by simp only [List.all_cons, Mode.reads, Bool.true_and]; exact q4⟩
          rw [q3, List.append_nil]
          simp [l0, q1.2]
        · have hx : (τs.length ≤ (l0 ++ ls).length ∧ a.eval o = .func (.func g') #[] (((l0 ++ ls).take τs.length).map (·.2)).toArray) ∧ ArgC w G' ms (os.map a.eval) vs fps ((l0 ++ ls).drop τs.length) := by
            rw [← hl0, List.take_left', List.drop_left']
            · exact ⟨⟨by simp, by rw [hl2, hv]⟩, h9⟩
            · rfl
            · rfl
          generalize l0 ++ ls = L at hx
          cases vs <;> cases fps <;> cases L <;> exact hx
        · rcases List.mem_append.1 hq with hq | hq
          · obtain ⟨i, hi, rfl⟩ := List.mem_iff_getElem.1 hq
            have hips : i < ps.length := by rw [hlen, ← hl0]; exact hi
            obtain ⟨q1, q2, q3⟩ := hus i hips
            have hw := hwh ps[i] (List.getElem_mem _)
            simp only [Place.whole, Bool.and_eq_true, List.isEmpty_iff] at hw
            have hq1 : l0[i].1 = ps[i].root := by simp [l0]
            have hq2 : l0[i].2 = us.getD i undef := by
              have : i < us.size := by rw [husz]; exact hips
              simp [l0, this]
            rw [hq1, hq2]
            have : ps[i] = ⟨true, ps[i].root, []⟩ := by
              have e1 := hw.1
              have e2 := hw.2
              cases hpi : ps[i] with
              | mk b r p => rw [hpi] at e1 e2; simp only at e1 e2; subst e1; subst e2; rfl
            rw [this] at q3
            exact q3
          · exact h10 q hq
      · cases h
    · cases h
end
end Go.PI
namespace Go.PI

section
variable {W0 : Base} {M : Nat → Prop} {σ : State} {a : Act} {w w' : World} {G : Ghost} {xs : List Nat} {P : Program}

def LentPtr (G : Ghost) (ls : List (Nat × Value)) : Prop := ∀ q ∈ ls, q.2 = .pointer (some ⟨G.ad q.1, 0, none⟩)

theorem lent_map {ls : List (Nat × Value)} (h : LentPtr G ls) : ls.map (·.2) = (ls.map fun q => G.ad q.1).map fun l => Value.pointer (some ⟨l, 0, none⟩) := by
  rw [List.map_map]
  exact List.map_congr_left fun q hq => h q hq

theorem args_noN (I : Inv W0 M σ a w G xs) : (ms : List Mode) → (ys : List Value) → (vs : List TVal) → (fs : List (List Nat)) → (ls : List (Nat × Value)) → ArgC w G ms ys vs fs ls → (∀ v ∈ vs, v.noN = true) → LentPtr G ls →
    ArgsRel w G.F G.St ms vs ys fs (ls.map fun q => G.ad q.1)
  | [], ys, vs, fs, ls, h, _, _ => by cases ys <;> cases vs <;> cases fs <;> cases ls <;> first | trivial | exact h.elim
  | .borrow τ ag :: ms, ys, vs, fs, ls, h, hn, hl => by
    cases ys <;> cases vs <;> cases fs <;> first | exact h.elim | skip
    rename_i y ys v vs f fs
    obtain ⟨h1, h2, h3, h4⟩ := h
    refine ⟨h1, h2, ?_, args_noN I ms _ _ _ _ h4 (fun u hu => hn u (List.mem_cons_of_mem _ hu)) hl⟩
    exact (h3.narrow (Al' := G.St) (TVal.noN_iff.1 (hn v (by simp))) (by simp)).toS (fun _ h => h) (fun _ h => h)
  | .consume τ ag :: ms, ys, vs, fs, ls, h, hn, hl => by
    cases ys <;> cases vs <;> cases fs <;> first | exact h.elim | skip
    rename_i y ys v vs f fs
    obtain ⟨h2, h3, h4⟩ := h
    exact ⟨h2, h3.narrow (TVal.noN_iff.1 (hn v (by simp))) fun b hb => hb, args_noN I ms _ _ _ _ h4 (fun u hu => hn u (List.mem_cons_of_mem _ hu)) hl⟩
  | .eat τ ag :: ms, ys, vs, fs, ls, h, hn, hl => by
    cases ys <;> cases vs <;> cases fs <;> first | exact h.elim | skip
    rename_i y ys v vs f fs
    obtain ⟨h2, h3, h4⟩ := h
    exact ⟨h2, h3.narrow (TVal.noN_iff.1 (hn v (by simp))) fun b hb => hb, args_noN I ms _ _ _ _ h4 (fun u hu => hn u (List.mem_cons_of_mem _ hu)) hl⟩
  | .inout τ ag :: ms, ys, vs, fs, ls, h, _, _ => by cases ys <;> cases vs <;> cases fs <;> exact h.elim
  | .look τ ag :: ms, ys, vs, fs, ls, h, _, _ => by cases ys <;> cases vs <;> cases fs <;> first | exact h.elim | (cases ls <;> exact h.elim)
  | .rptr τ :: ms, ys, vs, fs, ls, h, _, _ => by cases ys <;> cases vs <;> cases fs <;> first | exact h.elim | (cases ls <;> exact h.elim)
  | .rclos g τs :: ms, ys, vs, fs, ls, h, _, _ => by cases ys <;> cases vs <;> cases fs <;> first | exact h.elim | (cases ls <;> exact h.elim)
  | .ptr τ :: ms, ys, vs, fs, ls, h, hn, hl => by
    cases ys <;> cases ls <;> first | (cases vs <;> cases fs <;> exact h.elim) | skip
    rename_i y ys l ls
    have h' : y = l.2 ∧ ArgC w G ms ys vs fs ls := by cases vs <;> cases fs <;> exact h
    have h2 := args_noN I ms _ _ _ _ h'.2 hn (fun q hq => hl q (List.mem_cons_of_mem _ hq))
    have h1 : y = .pointer (some ⟨G.ad l.1, 0, none⟩) := h'.1.trans (hl l (by simp))
    cases vs <;> cases fs <;> exact ⟨h1, h2⟩
  | .clos g τs :: ms, ys, vs, fs, ls, h, hn, hl => by
    cases ys <;> first | (cases vs <;> cases fs <;> cases ls <;> exact h.elim) | skip
    rename_i y ys
    have h' : (τs.length ≤ ls.length ∧ y = .func (.func g) #[] ((ls.take τs.length).map (·.2)).toArray) ∧ ArgC w G ms ys vs fs (ls.drop τs.length) := by cases vs <;> cases fs <;> cases ls <;> exact h
    obtain ⟨⟨q1, q2⟩, q3⟩ := h'
    have h2 := args_noN I ms _ _ _ _ q3 hn (fun q hq => hl q (List.mem_of_mem_drop hq))
    rw [lent_map (fun q hq => hl q (List.mem_of_mem_take hq)), List.map_take] at q2
    have hx : (τs.length ≤ (ls.map fun q => G.ad q.1).length ∧ y = .func (.func g) #[] (((ls.map fun q => G.ad q.1).take τs.length).map fun l => Value.pointer (some ⟨l, 0, none⟩)).toArray) ∧ ArgsRel w G.F G.St ms vs ys fs ((ls.map fun q => G.ad q.1).drop τs.length) := by
      refine ⟨⟨by simpa using q1, q2⟩, ?_⟩
      rw [← List.map_drop]; exact h2
    generalize (ls.map fun q => G.ad q.1) = L at hx
    cases vs <;> cases fs <;> cases L <;> exact hx

theorem args_reads (I : Inv W0 M σ a w G xs) : (ms : List Mode) → (ys : List Value) → (vs : List TVal) → (fs : List (List Nat)) → (ls : List (Nat × Value)) → ArgC w G ms ys vs fs ls → ms.all Mode.reads = true → LentPtr G ls →
    ArgsRel w G.F G.Al ms vs ys fs (ls.map fun q => G.ad q.1)
  | [], ys, vs, fs, ls, h, _, _ => by cases ys <;> cases vs <;> cases fs <;> cases ls <;> first | trivial | exact h.elim
  | .borrow τ ag :: ms, ys, vs, fs, ls, h, hr, hl => by
    cases ys <;> cases vs <;> cases fs <;> first | exact h.elim | skip
    rename_i y ys v vs f fs
    obtain ⟨h1, h2, h3, h4⟩ := h
    exact ⟨h1, h2, h3.toS (fun _ h => h) (Ghost.St_Al I), args_reads I ms _ _ _ _ h4 (by simpa [Mode.reads] using hr) hl⟩
  | .consume τ ag :: ms, ys, vs, fs, ls, h, hr, hl => by simp [Mode.reads] at hr
  | .eat τ ag :: ms, ys, vs, fs, ls, h, hr, hl => by simp [Mode.reads] at hr
  | .inout τ ag :: ms, ys, vs, fs, ls, h, hr, _ => by simp [Mode.reads] at hr
  | .look τ ag :: ms, ys, vs, fs, ls, h, hr, _ => by simp [Mode.reads] at hr
  | .rptr τ :: ms, ys, vs, fs, ls, h, hr, _ => by simp [Mode.reads] at hr
  | .rclos g τs :: ms, ys, vs, fs, ls, h, hr, _ => by simp [Mode.reads] at hr
  | .ptr τ :: ms, ys, vs, fs, ls, h, hr, hl => by simp [Mode.reads] at hr
  | .clos g τs :: ms, ys, vs, fs, ls, h, hr, hl => by
    cases ys <;> first | (cases vs <;> cases fs <;> cases ls <;> exact h.elim) | skip
    rename_i y ys
    have h' : (τs.length ≤ ls.length ∧ y = .func (.func g) #[] ((ls.take τs.length).map (·.2)).toArray) ∧ ArgC w G ms ys vs fs (ls.drop τs.length) := by cases vs <;> cases fs <;> cases ls <;> exact h
    obtain ⟨⟨q1, q2⟩, q3⟩ := h'
    have h2 := args_reads I ms _ _ _ _ q3 (by simpa [Mode.reads] using hr) (fun q hq => hl q (List.mem_of_mem_drop hq))
    rw [lent_map (fun q hq => hl q (List.mem_of_mem_take hq)), List.map_take] at q2
    have hx : (τs.length ≤ (ls.map fun q => G.ad q.1).length ∧ y = .func (.func g) #[] (((ls.map fun q => G.ad q.1).take τs.length).map fun l => Value.pointer (some ⟨l, 0, none⟩)).toArray) ∧ ArgsRel w G.F G.Al ms vs ys fs ((ls.map fun q => G.ad q.1).drop τs.length) := by
      refine ⟨⟨by simpa using q1, q2⟩, ?_⟩
      rw [← List.map_drop]; exact h2
    generalize (ls.map fun q => G.ad q.1) = L at hx
    cases vs <;> cases fs <;> cases L <;> exact hx
end
end Go.PI
namespace Go.PI

section
variable {W0 : Base} {M : Nat → Prop} {σ : State} {a : Act} {w w' : World} {G : Ghost} {P : Program}

theorem after_call {gs ads R ks : List Nat} (I : Inv W0 M σ a w G (gs ++ ks)) (hads : ∀ b ∈ ads, ∃ i, G.who b = some (.a i) ∧ σ.boxAt i = none) (hN : σ.noN ∨ gs ++ ads = [])
    {Sc St' : Nat → Prop} {F' : Nat → Nat} (hc1 : ∀ b, G.St b → Sc b) (hc2 : ∀ b, Sc b → G.Al b)
    (hE : Ext (· ∈ gs ++ ads) w w') (hF : ∀ b, b < w.heap.size → b ∉ gs ++ ads → F' b = G.F b) (hS1 : ∀ b, Sc b → St' b) (hS2 : ∀ b, St' b → (Sc b ∨ w.heap.size ≤ b ∨ b ∈ gs ++ ads) ∧ b < w'.heap.size)
    (hnd : (R ++ ads).Nodup) (hR : ∀ b ∈ R ++ ads, (w.heap.size ≤ b ∨ b ∈ gs ++ ads) ∧ b < w'.heap.size ∧ ¬ St' b) :
    ∃ G', Inv W0 M σ a w' G' (R ++ ks) ∧ G'.F = F' ∧ G'.ad = G.ad ∧ (∀ b, G.St b → G'.St b) ∧ (∀ b, St' b → G'.Al b) ∧ ((∀ b, Sc b → G.St b) → ∀ b, St' b → G'.St b) ∧ (∀ b ∈ R, G'.Al b) ∧ (∀ b ∈ ads, G'.who b = G.who b) ∧ (gs ++ ads = [] → Calmer w G w' G') ∧ (ads = [] → BCalmer w G w' G') ∧ (∀ b, b < w.heap.size → G.Al b → G'.Al b) ∧ ∀ b z, G.who b = some z → z ≠ .x → G'.who b = some z := by
  classical
  let New : Nat → Prop := fun b => w.heap.size ≤ b ∨ b ∈ gs
  let G' : Ghost := { F := F', St := fun b => G.St b ∨ (New b ∧ St' b), who := fun b => if b ∈ R then some .x else if b ∈ gs then (if St' b then none else some .x) else if w.heap.size ≤ b then none else G.who b, fs := G.fs, fb := G.fb, ad := G.ad }
  have hgx : ∀ b ∈ gs, G.who b = some .x := fun b hb => I.whoX b (List.mem_append_left _ hb)
  have hkx : ∀ b ∈ ks, G.who b = some .x := fun b hb => I.whoX b (List.mem_append_right _ hb)
  have hkg : ∀ b ∈ ks, b ∉ gs := fun b hb hg => (List.nodup_append.1 I.nodX).2.2 b hg b hb rfl
  have hwlt : ∀ b z, G.who b = some z → b < w.heap.size := fun b z h => (I.lt b z h).1
  have hdis : ∀ b ∈ ads, b ∉ R := fun b hb hr => (List.nodup_append.1 hnd).2.2 b hr b hb rfl
  have hadg : ∀ b ∈ ads, b ∉ gs := fun b hb hg => by
    obtain ⟨i, h, _⟩ := hads b hb
    rw [hgx b hg] at h; cases h
  have hmem : ∀ b, b ∈ gs ++ ads ↔ b ∈ gs ∨ b ∈ ads := fun b => List.mem_append
  have hwx : ∀ b z, G.who b = some z → z ≠ .x → b ∉ gs := fun b z h hz hg => by rw [hgx b hg] at h; cases h; exact hz rfl
  -- a block with an owner keeps it
  have hkeepw : ∀ b z, G.who b = some z → z ≠ .x → G'.who b = some z := by
    intro b z h hz
    have h1 := hwx b z h hz
    have h2 := hwlt b z h
    have h3 : b ∉ R := by
      intro hr
      rcases (hR b (List.mem_append_left _ hr)).1 with h4 | h4
      · omega
      · rcases (hmem b).1 h4 with h5 | h5
        · exact h1 h5
        · exact hdis b h5 hr
    show (if b ∈ R then some .x else if b ∈ gs then (if St' b then none else some .x) else if w.heap.size ≤ b then none else G.who b) = some z
    rw [if_neg h3, if_neg h1, if_neg (by omega)]; exact h
  have hnone : ∀ b, G.who b = none → b < w.heap.size → G'.who b = none := by
    intro b h hlt
    have h1 : b ∉ gs := fun hg => by rw [hgx b hg] at h; cases h
    have h3 : b ∉ R := by
      intro hr
      rcases (hR b (List.mem_append_left _ hr)).1 with h4 | h4
      · omega
      · rcases (hmem b).1 h4 with h5 | h5
        · exact h1 h5
        · exact hdis b h5 hr
    show (if b ∈ R then some .x else if b ∈ gs then (if St' b then none else some .x) else if w.heap.size ≤ b then none else G.who b) = none
    rw [if_neg h3, if_neg h1, if_neg (by omega)]; exact h
  have hRx : ∀ b ∈ R, G'.who b = some .x := fun b hb => if_pos hb
  have hw : ∀ b, G'.who b = (if b ∈ R then some .x else if b ∈ gs then (if St' b then none else some .x) else if w.heap.size ≤ b then none else G.who b) := fun _ => rfl
  have hgw : ∀ b ∈ gs, G'.who b = some .x ∨ (G'.who b = none ∧ St' b) := by
    intro b hb
    by_cases hr : b ∈ R
    · exact .inl (hRx b hr)
    · by_cases hs : St' b
      · exact .inr ⟨by rw [hw, if_neg hr, if_pos hb, if_pos hs], hs⟩
      · exact .inl (by rw [hw, if_neg hr, if_pos hb, if_neg hs])
  have hnotR : ∀ b, St' b → b ∉ R := fun b hb hr => (hR b (List.mem_append_left _ hr)).2.2 hb
  have hstn : ∀ b, New b → St' b → G'.who b = none := by
    intro b hn hs
    by_cases hg : b ∈ gs
    · rw [hw, if_neg (hnotR b hs), if_pos hg, if_pos hs]
    · rcases hn with h | h
      · rw [hw, if_neg (hnotR b hs), if_neg hg, if_pos h]
      · exact absurd h hg
  have hAl : ∀ b, b < w.heap.size → G.Al b → G'.Al b := by
    intro b hlt hb
    cases hz : G.who b with
    | none => exact ⟨fun i h => (by rw [hnone b hz hlt] at h; cases h), fun _ => .inl (hb.2 hz)⟩
    | some z =>
      by_cases hzx : z = .x
      · subst hzx
        by_cases hg : b ∈ gs
        · rcases hgw b hg with h | ⟨h, hs⟩
          · exact ⟨fun i h' => (by rw [h] at h'; cases h'), fun h' => (by rw [h] at h'; cases h')⟩
          · exact ⟨fun i h' => (by rw [h] at h'; cases h'), fun _ => .inr ⟨.inr hg, hs⟩⟩
        · have : G'.who b = some .x := by
            by_cases hr : b ∈ R
            · exact hRx b hr
            · rw [hw, if_neg hr, if_neg hg, if_neg (by omega)]; exact hz
          exact ⟨fun i h' => (by rw [this] at h'; cases h'), fun h' => (by rw [this] at h'; cases h')⟩
      · have := hkeepw b z hz hzx
        exact ⟨fun i h' => (by rw [this] at h'; cases h'; exact hb.1 i hz), fun h' => (by rw [this] at h'; cases h')⟩
  have hkb : ∀ b, b < w.heap.size → b ∉ gs ++ ads → KeepB w G.F w' F' b ∧ F' b = G.F b := fun b hb hm =>
    ⟨KeepB.of_block (hE.block b hb hm) (by rw [hF b hb hm]; exact Nat.le_refl _), hF b hb hm⟩
  have hStm : ∀ b, G.St b → b ∉ gs ++ ads := by
    intro b hb hm
    rcases (hmem b).1 hm with h | h
    · have := (I.st b hb).1; rw [hgx b h] at this; cases this
    · obtain ⟨i, h1, _⟩ := hads b h; have := (I.st b hb).1; rw [h1] at this; cases this
  have hAlm : gs ++ ads = [] → ∀ b, b < w.heap.size → KeepB w G.F w' F' b := fun h0 b hb => (hkb b hb (by rw [h0]; simp)).1
  have hboxm : ∀ i v, σ.boxAt i = some v → G.ad i ∉ gs ++ ads := by
    intro i v hv hm
    have h1 := (I.box i v hv).2
    rcases (hmem _).1 hm with h | h
    · rw [hgx _ h] at h1; cases h1
    · obtain ⟨j, h2, h3⟩ := hads _ h
      rw [h1] at h2; cases h2
      rw [hv] at h3; cases h3
  have hS : Same σ w G w' G' := ⟨rfl, rfl, rfl, hkeepw, hAl, fun b h => .inl h, fun b h => (hkb b (I.st b h).2 (hStm b h)).1, fun b z h h1 h2 => hkb b (hwlt b z h) (fun hm => by
      rcases (hmem b).1 hm with h3 | h3
      · exact hwx b z h h2 h3
      · obtain ⟨i, h4, _⟩ := hads b h3; rw [h] at h4; cases h4; exact h1 i rfl), fun i v h => hE.block _ (hwlt _ _ (I.box i v h).2) (hboxm i v h), hN.imp id fun h0 b hb _ => hAlm h0 b hb⟩
  have hkR : ∀ b ∈ ks, b ∉ R := by
    intro b hb hr
    have hlt := hwlt b _ (hkx b hb)
    rcases (hR b (List.mem_append_left _ hr)).1 with h4 | h4
    · omega
    · rcases (hmem b).1 h4 with h5 | h5
      · exact hkg b hb h5
      · exact hdis b h5 hr
  have hkw : ∀ b ∈ ks, G'.who b = some .x := fun b hb => by
    rw [hw, if_neg (hkR b hb), if_neg (hkg b hb), if_neg (by have := hwlt b _ (hkx b hb); omega)]
    exact hkx b hb
  refine ⟨G', ?_, rfl, rfl, fun b h => .inl h, fun b hb => ?_, fun hsc b hb => ?_, fun b hb => ⟨fun i h => (by rw [hRx b hb] at h; cases h), fun h => (by rw [hRx b hb] at h; cases h)⟩, fun b hb => ?_, fun h0 => ⟨fun w2 hcalm => ?_, fun w2 hcalm i b hb => ?_⟩, fun h0 w2 hcalm i b hb => ?_, hAl, hkeepw⟩
  · refine I.world hS (fun b hb => ?_) (fun b z hb => ?_) ?_ (fun b hb => by
      rcases List.mem_append.1 hb with hb | hb
      · exact hRx b hb
      · exact hkw b hb) (List.nodup_append.2 ⟨(List.nodup_append.1 hnd).1, (List.nodup_append.1 I.nodX).2.1, fun x hx y hy hxy => by subst hxy; exact hkR x hy hx⟩) ⟨fun b hb hM => ?_, fun b hb => .inl (I.org.St b hb), fun b hb => ?_⟩
    · rcases hb with hb | ⟨hn, hs⟩
      · exact ⟨hnone b (I.st b hb).1 (I.st b hb).2, by have := (I.st b hb).2; have := hE.size; omega⟩
      · exact ⟨hstn b hn hs, (hS2 b hs).2⟩
    · by_cases hr : b ∈ R
      · obtain ⟨h1, h2, _⟩ := hR b (List.mem_append_left _ hr)
        refine ⟨h2, ?_⟩
        rcases h1 with h1 | h1
        · exact .inl (by have := I.ext.size; omega)
        · rcases (hmem b).1 h1 with h | h
          · exact (I.lt b _ (hgx b h)).2
          · obtain ⟨i, h4, _⟩ := hads b h; exact (I.lt b _ h4).2
      · by_cases hg : b ∈ gs
        · have := I.lt b _ (hgx b hg)
          exact ⟨by have := hE.size; omega, this.2⟩
        · have hb' : (if w.heap.size ≤ b then none else G.who b) = some z := by
            have h5 : G'.who b = (if w.heap.size ≤ b then none else G.who b) := by
              show (if b ∈ R then some .x else if b ∈ gs then (if St' b then none else some .x) else if w.heap.size ≤ b then none else G.who b) = _
              rw [if_neg hr, if_neg hg]
            rw [← h5]; exact hb
          split at hb'
          · cases hb'
          · have := I.lt b z hb'
            exact ⟨by have := hE.size; omega, this.2⟩
    · refine ⟨hE.os.trans I.ext.os, hE.tape.trans I.ext.tape, hE.output.trans I.ext.output, by have := I.ext.size; have := hE.size; omega, fun b hb hM => ?_⟩
      rw [hE.block b (by have := I.ext.size; omega) (fun hm => ?_)]
      · exact I.ext.block b hb hM
      · have hz : ∃ z, G.who b = some z := by
          rcases (hmem b).1 hm with h | h
          · exact ⟨_, hgx b h⟩
          · obtain ⟨i, h4, _⟩ := hads b h; exact ⟨_, h4⟩
        obtain ⟨z, hz⟩ := hz
        rcases (I.lt b z hz).2 with h | h
        · omega
        · exact hM h
    · have hbw : b < w.heap.size := by have := I.ext.size; omega
      show F' b = _
      rw [hF b hbw (fun hm => ?_)]
      · exact I.org.F b hb hM
      · have hz : ∃ z, G.who b = some z := by
          rcases (hmem b).1 hm with h | h
          · exact ⟨_, hgx b h⟩
          · obtain ⟨i, h4, _⟩ := hads b h; exact ⟨_, h4⟩
        obtain ⟨z, hz⟩ := hz
        rcases (I.lt b z hz).2 with h | h
        · omega
        · exact hM h
    · rcases hb with hb | ⟨hn, _⟩
      · exact I.org.St' b hb
      · rcases hn with h | h
        · exact .inr (.inl (by have := I.ext.size; omega))
        · exact .inr (I.lt b _ (hgx b h)).2
  · obtain ⟨h1, h2⟩ := hS2 b hb
    by_cases hn : New b
    · exact ⟨fun i h => (by rw [hstn b hn hb] at h; cases h), fun _ => .inr ⟨hn, hb⟩⟩
    · have hlt : b < w.heap.size := by
        rcases Nat.lt_or_ge b w.heap.size with h | h
        · exact h
        · exact absurd (.inl h) hn
      rcases h1 with h1 | h1 | h1
      · exact hAl b hlt (hc2 b h1)
      · exact absurd (.inl h1) hn
      · rcases (hmem b).1 h1 with h | h
        · exact absurd (.inr h) hn
        · exact absurd hb (hR b (List.mem_append_right _ h)).2.2
  · obtain ⟨h1, h2⟩ := hS2 b hb
    rcases h1 with h1 | h1 | h1
    · exact .inl (hsc b h1)
    · exact .inr ⟨.inl h1, hb⟩
    · rcases (hmem b).1 h1 with h | h
      · exact .inr ⟨.inr h, hb⟩
      · exact absurd hb (hR b (List.mem_append_right _ h)).2.2
  · obtain ⟨i, h4, _⟩ := hads b hb
    rw [hkeepw b _ h4 (by simp), h4]
  · refine ⟨fun b hb ha o n cs hn h1 => ?_, fun i b hb => ?_⟩
    · have hk := hAlm h0 b hb
      exact hcalm.1 b (by have := hE.size; omega) (hAl b hb ha) o n cs (Nat.le_trans hn hk.1) (hk.2.1 o n cs hn h1)
    · rw [hcalm.2 i b (hkeepw b _ hb (by simp))]
      exact hE.block b (hwlt b _ hb) (by rw [h0]; simp)
  · rw [hcalm i b (hkeepw b _ hb (by simp))]
    exact hE.block b (hwlt b _ hb) (by rw [h0]; simp)
  · rw [hcalm i b (hkeepw b _ hb (by simp))]
    exact hE.block b (hwlt b _ hb) (by rw [h0, List.append_nil]; exact hwx b _ hb (by simp))
end
end Go.PI
namespace Go.PI

def State.lend (σ : State) : List Nat → State
  | [] => σ
  | r :: rs => ((σ.loosen true r).putBox r none).lend rs

theorem lend_slot : (rs : List Nat) → (σ : State) → (i : Nat) → (σ.lend rs).slot i = σ.slot i ∨ (σ.lend rs).slot i = .dead
  | [], σ, i => .inl rfl
  | r :: rs, σ, i => by
    have h1 := lend_slot rs ((σ.loosen true r).putBox r none) i
    have h2 : ((σ.loosen true r).putBox r none).slot i = σ.slot i ∨ ((σ.loosen true r).putBox r none).slot i = .dead := by
      rw [putBox_slot, loosen_slot]; exact TV.loosen_or _ _ _
    rcases h1 with h1 | h1
    · rcases h2 with h2 | h2
      · exact .inl (h1.trans h2)
      · exact .inr (h1.trans h2)
    · exact .inr h1
theorem lend_len : (rs : List Nat) → (σ : State) → (σ.lend rs).slots.length = σ.slots.length ∧ (σ.lend rs).boxes.length = σ.boxes.length
  | [], σ => ⟨rfl, rfl⟩
  | r :: rs, σ => by
    have := lend_len rs ((σ.loosen true r).putBox r none)
    refine ⟨this.1.trans ?_, this.2.trans ?_⟩
    · simp [State.putBox, State.loosen]
    · simp [State.putBox, State.loosen, setN_length]
theorem lend_box_other : (rs : List Nat) → (σ : State) → (i : Nat) → i ∉ rs → (σ.lend rs).boxAt i = σ.boxAt i
  | [], σ, i, h => rfl
  | r :: rs, σ, i, h => by
    simp only [List.mem_cons, not_or] at h
    have h1 := lend_box_other rs ((σ.loosen true r).putBox r none) i h.2
    refine h1.trans ?_
    rw [putBox_box, if_neg (by rintro ⟨h2, _⟩; exact h.1 h2.symm)]
    rfl
theorem lend_box_none : (rs : List Nat) → (σ : State) → (i : Nat) → i ∈ rs ∨ σ.boxAt i = none → (σ.lend rs).boxAt i = none
  | [], σ, i, h => by rcases h with h | h; · cases h
                      · exact h
  | r :: rs, σ, i, h => by
    refine lend_box_none rs ((σ.loosen true r).putBox r none) i ?_
    by_cases hr : i = r
    · right
      subst hr
      rw [putBox_box]
      split
      · rfl
      · rename_i hc
        have : ¬ i < σ.boxes.length := fun hh => hc ⟨rfl, by simpa [State.loosen] using hh⟩
        exact getN_ge _ _ (by simpa [State.loosen] using Nat.le_of_not_lt this)
    · rcases h with h | h
      · left
        rcases List.mem_cons.1 h with h | h
        · exact absurd h hr
        · exact h
      · right
        rw [putBox_box, if_neg (by rintro ⟨h2, _⟩; exact hr h2.symm)]
        exact h

section
variable {W0 : Base} {M : Nat → Prop} {a : Act} {w : World}

theorem lend_rel : (rs : List Nat) → (σ : State) → (G : Ghost) → (xs : List Nat) → (ext : List TVal) → rs.Nodup → σ.boxesAt rs = some ext → Inv W0 M σ a w G xs →
    ∃ (efps : List (List Nat)) (G' : Ghost), Inv W0 M (σ.lend rs) a w G' (efps.flatten ++ xs) ∧ Sim G G' ∧ efps.length = rs.length ∧
      ∀ (j : Nat) (v : TVal), ext[j]? = some v → (∃ c T, w.heap[G.ad (rs.getD j 0)]? = some (.cells c T (0, 0)) ∧ Rp w G.F G.St G.Al v.τ v.tg c.toList v.x (efps.getD j [])) ∧ G.who (G.ad (rs.getD j 0)) = some (.a (rs.getD j 0)) ∧
        ∀ i, i < σ.slots.length → PtrAt (rs.getD j 0) ((σ.lend rs).slot i) (a.tmps.getD i undef) (PtrFix (G.ad (rs.getD j 0)) v.τ)
  | [], σ, G, xs, ext, hn, h, I => by
    simp only [State.boxesAt, Option.some.injEq] at h
    subst h
    exact ⟨[], G, I, Sim.refl _, rfl, fun j v hj => by simp at hj⟩
  | r :: rs, σ, G, xs, ext, hn, h, I => by
    simp only [State.boxesAt] at h
    split at h
    · rename_i v l hv hl
      cases h
      obtain ⟨hr, hn'⟩ := List.nodup_cons.1 hn
      obtain ⟨G1, I1, hs1, hw, hblk, hptr⟩ := I.takeBox hv
      have hl1 : ((σ.loosen true r).putBox r none).boxesAt rs = some l := by
        have : ∀ (rs : List Nat) (l : List TVal), r ∉ rs → σ.boxesAt rs = some l → ((σ.loosen true r).putBox r none).boxesAt rs = some l := by
          intro rs
          induction rs with
          | nil => intro l _ h; exact h
          | cons q rs ih =>
            intro l hq h
            simp only [List.mem_cons, not_or] at hq
            simp only [State.boxesAt] at h ⊢
            rw [putBox_box, if_neg (by rintro ⟨h2, _⟩; exact hq.1 h2)]
            split at h
            · rename_i u l' hu hl'
              cases h
              rw [ih l' hq.2 hl']
              have : (σ.loosen true r).boxAt q = some u := hu
              rw [this]
            · cases h
        exact this rs l hr hl
      obtain ⟨efps, G2, I2, hs2, hlen, hrest⟩ := lend_rel rs _ G1 _ l hn' hl1 I1
      refine ⟨G.fb r :: efps, G2, ?_, hs1.trans hs2, by simp [hlen], fun j u hj => ?_⟩
      · refine I2.perm (List.perm_iff_count.2 fun z => ?_)
        simp only [List.flatten_cons, List.count_append]
        omega
      · cases j with
        | zero =>
          simp only [List.getElem?_cons_zero, Option.some.injEq] at hj
          subst hj
          refine ⟨hblk, hw, fun i hi => ?_⟩
          have := hptr i hi
          refine this.or_dead ?_
          have h3 := lend_slot rs ((σ.loosen true r).putBox r none) i
          exact h3
        | succ j =>
          obtain ⟨q1, q2, q3⟩ := hrest j u (by simpa using hj)
          simp only [List.getD_cons_succ]
          rw [hs1.ad, hs1.F, hs1.St, hs1.Al] at q1
          rw [hs1.ad] at q2
          refine ⟨q1, (hs1.bx _ _).1 q2, fun i hi => ?_⟩
          have := q3 i (by simpa [State.putBox, State.loosen] using hi)
          rw [hs1.ad] at this
          exact this
    · cases h
end
end Go.PI
namespace Go.PI

theorem setN_comm {α : Type} : (l : List α) → (i j : Nat) → (a b : α) → i ≠ j → setN (setN l i a) j b = setN (setN l j b) i a
  | [], _, _, _, _, _ => rfl
  | _ :: _, 0, 0, _, _, h => absurd rfl h
  | _ :: _, 0, _ + 1, _, _, _ => rfl
  | _ :: _, _ + 1, 0, _, _, _ => rfl
  | x :: l, i + 1, j + 1, a, b, h => by
    simp only [setN]
    rw [setN_comm l i j a b (fun hh => h (by rw [hh]))]

def State.lay (σ : State) : List Nat → List TVal → State
  | r :: rs, v :: vs => (σ.putBox r (some v)).lay rs vs
  | _, _ => σ

theorem lay_slots : (rs : List Nat) → (vs : List TVal) → (σ : State) → (σ.lay rs vs).slots = σ.slots
  | [], vs, σ => by cases vs <;> rfl
  | r :: rs, [], σ => rfl
  | r :: rs, v :: vs, σ => lay_slots rs vs (σ.putBox r (some v))

theorem putBoxes_slots : (rs : List Nat) → (vs : List TVal) → (σ σ' : State) → rs.length = vs.length → σ.slots = σ'.slots → (σ.putBoxes rs vs).slots = (σ'.lend rs).slots
  | [], vs, σ, σ', h, hs => by cases vs <;> exact hs
  | r :: rs, [], σ, σ', h, hs => by simp at h
  | r :: rs, v :: vs, σ, σ', h, hs => putBoxes_slots rs vs _ _ (by simpa using h) (by simp only [State.putBox, State.loosen, hs])

theorem lend_set : (rs : List Nat) → (σ : State) → (r : Nat) → (v : TVal) → r ∉ rs → (σ.lend rs).putBox r (some v) = (σ.putBox r (some v)).lend rs
  | [], σ, r, v, h => rfl
  | q :: rs, σ, r, v, h => by
    simp only [List.mem_cons, not_or] at h
    simp only [State.lend]
    rw [lend_set rs _ r v h.2]
    congr 1
    simp only [State.putBox, State.loosen]
    rw [setN_comm _ _ _ _ _ (Ne.symm h.1)]

theorem lay_lend : (rs : List Nat) → (vs : List TVal) → (σ : State) → rs.Nodup → rs.length = vs.length → (σ.lend rs).lay rs vs = σ.putBoxes rs vs
  | [], vs, σ, hn, h => by cases vs <;> rfl
  | r :: rs, [], σ, hn, h => by simp at h
  | r :: rs, v :: vs, σ, hn, h => by
    obtain ⟨hr, hn'⟩ := List.nodup_cons.1 hn
    show (((σ.loosen true r).putBox r none).lend rs |>.putBox r (some v)).lay rs vs = ((σ.loosen true r).putBox r (some v)).putBoxes rs vs
    rw [lend_set rs _ r v hr]
    have : ((σ.loosen true r).putBox r none).putBox r (some v) = (σ.loosen true r).putBox r (some v) := by simp only [State.putBox, setN_setN]
    rw [this]
    exact lay_lend rs vs _ hn' (by simpa using h)

section
variable {W0 : Base} {M : Nat → Prop} {a : Act} {w : World}

theorem lay_rel : (rs : List Nat) → (ext : List TVal) → (efps : List (List Nat)) → (σ : State) → (G : Ghost) → (ys : List Nat) → rs.Nodup → rs.length = ext.length → efps.length = ext.length → Inv W0 M σ a w G (efps.flatten ++ ys) →
    (∀ (j : Nat) (v : TVal), ext[j]? = some v → (∃ c T, w.heap[G.ad (rs.getD j 0)]? = some (.cells c T (0, 0)) ∧ Rp w G.F G.St G.Al v.τ v.tg c.toList v.x (efps.getD j [])) ∧ G.who (G.ad (rs.getD j 0)) = some (.a (rs.getD j 0)) ∧ rs.getD j 0 < σ.boxes.length ∧
        ∀ i, i < σ.slots.length → PtrAt (rs.getD j 0) (σ.slot i) (a.tmps.getD i undef) (PtrFix (G.ad (rs.getD j 0)) v.τ)) →
    ∃ G', Inv W0 M (σ.lay rs ext) a w G' ys ∧ G'.F = G.F ∧ G'.St = G.St ∧ G'.Al = G.Al ∧ G'.ad = G.ad ∧ ∀ b k, G'.who b = some (.a k) ↔ G.who b = some (.a k)
  | [], ext, efps, σ, G, ys, hn, h1, h2, I, hb => by
    have : ext = [] := by simpa using h1.symm
    subst this
    have : efps = [] := by simpa using h2
    subst this
    exact ⟨G, by simpa [State.lay] using I, rfl, rfl, rfl, rfl, fun _ _ => Iff.rfl⟩
  | r :: rs, [], efps, σ, G, ys, hn, h1, h2, I, hb => by simp at h1
  | r :: rs, v :: ext, [], σ, G, ys, hn, h1, h2, I, hb => by simp at h2
  | r :: rs, v :: ext, f :: efps, σ, G, ys, hn, h1, h2, I, hb => by
    obtain ⟨hr, hn'⟩ := List.nodup_cons.1 hn
    obtain ⟨⟨c, T, hc, hR⟩, hw, hlt, hptr⟩ := hb 0 v rfl
    simp only [List.getD_cons_zero] at hc hR hw hlt hptr
    have I' : Inv W0 M σ a w G (f ++ (efps.flatten ++ ys)) := by simpa [List.append_assoc] using I
    obtain ⟨G1, I1, gF, gS, gA, gb, gad⟩ := I'.addBox (i := r) (g := G.ad r) (c := c) (T := T) (v := v) hlt hc hw hR hptr (.inr rfl)
    have gad' : G1.ad = G.ad := by rw [gad]; funext j; split <;> simp_all
    obtain ⟨G2, I2, q1, q2, q3, q4, q5⟩ := lay_rel rs ext efps _ G1 ys hn' (by simpa using h1) (by simpa using h2) I1 (fun j u hj => by
      obtain ⟨p1, p2, p3, p4⟩ := hb (j + 1) u (by simpa using hj)
      simp only [List.getD_cons_succ] at p1 p2 p3 p4
      rw [gad', gF, gS, gA]
      refine ⟨p1, (gb _ _).2 p2, by simpa [State.putBox, setN_length] using p3, fun i hi => ?_⟩
      rw [putBox_slot]
      exact p4 i hi)
    exact ⟨G2, I2, q1.trans gF, q2.trans gS, q3.trans gA, q4.trans gad', fun b k => (q5 b k).trans (gb b k)⟩
end
end Go.PI
namespace Go.PI

section
variable {W0 : Base} {M : Nat → Prop} {σ : State} {a : Act} {w : World} {G : Ghost} {P : Program}

theorem callFunc_enter {f : FuncId} {fn : Func} {c : Code} (hf : P.funcs[f]? = some fn) (hname : (fn.name == "runtime.NumGoroutine") = false) (hb : fn.body = some c) (args : Array Value) (w : World) :
    (callFunc f args).run P w = .ok (.enter f args) w := by
  have h1 : fn.name ≠ "runtime.NumGoroutine" := by simpa using hname
  simp [callFunc, hf, h1, hb]

theorem run_call {o : Oper} {c : Call} {f : Operand} {g : FuncId} {us : Array Value} {fn : Func} {cd : Code} (ho : o.op = .call c) (hcal : c.callee = .value f) (hv : a.eval f = .func (.func g) #[] us)
    (hf : P.funcs[g]? = some fn) (hname : (fn.name == "runtime.NumGoroutine") = false) (hb : fn.body = some cd) : (execOp a.eval o).run P w = .ok (.enter g (c.args.map a.eval ++ us)) w := by
  rw [exec_with ho]
  simp only [execOp, resolve, hcal, hv, Deferred.ofValue, Sem.run_bind, Sem.run_pure, Result.andThen_ok, invoke, callFunc_enter hf hname hb]
  simp

theorem tup_rel : (rs : List TVal) → (vs : List Value) → (fs : List (List Nat)) → rs ≠ [] → OutRel w G rs vs fs → Rp w G.F G.St G.Al (tupOf rs).τ (tupOf rs).tg (vs.flatMap vCells) (tupOf rs).x fs.flatten ∧ TupShape (tupOf rs).τ (rs.map (·.ag)) vs
  | [], vs, fs, h, _ => absurd rfl h
  | [r], vs, fs, _, h => by
    cases vs <;> cases fs <;> first | exact h.elim | skip
    rename_i v vs f fs
    obtain ⟨⟨h1, h2⟩, h3⟩ := h
    cases vs <;> cases fs <;> first | exact h3.elim | skip
    refine ⟨by simpa [tupOf] using h2, ?_⟩
    show TupShape r.τ [r.ag] [v]
    cases hτ : r.τ <;> exact ⟨h1, by rw [h2.len.1, hτ]⟩
  | r :: q :: rs, vs, fs, _, h => by
    cases vs <;> cases fs <;> first | exact h.elim | skip
    rename_i v vs f fs
    obtain ⟨⟨h1, h2⟩, h3⟩ := h
    obtain ⟨i1, i2⟩ := tup_rel (q :: rs) vs fs (by simp) h3
    refine ⟨?_, ?_⟩
    · simp only [List.flatMap_cons, List.flatten_cons]
      exact Rp.pair_mk h2 i1
    · cases vs with
      | nil => cases fs <;> exact h3.elim
      | cons u vs => exact ⟨h1, h2.len.1, i2⟩

theorem OutRel.shapes : (rs : List TVal) → (vs : List Value) → (fs : List (List Nat)) → OutRel w G rs vs fs → vs.length = rs.length ∧ ∀ v ∈ vs, vCells v = v.cells.toList
  | [], vs, fs, h => by cases vs <;> cases fs <;> first | exact ⟨rfl, by simp⟩ | exact h.elim
  | r :: rs, vs, fs, h => by
    cases vs <;> cases fs <;> first | exact h.elim | skip
    obtain ⟨⟨h1, _⟩, h3⟩ := h
    obtain ⟨i1, i2⟩ := OutRel.shapes rs _ _ h3
    refine ⟨by simp [i1], fun v hv => ?_⟩
    rcases List.mem_cons.1 hv with rfl | hv
    · exact h1.cells
    · exact i2 v hv

def retTV : List TVal → TV
  | [] => .dead
  | [r] => .val r
  | rs => .tup (tupOf rs) (rs.map (·.ag))

theorem ret_rel (rs : List TVal) (vs : List Value) (fs : List (List Nat)) (h : OutRel w G rs vs fs) : SlotRel σ G a w (retTV rs) (retVal vs) fs.flatten := by
  obtain ⟨hlen, hsh⟩ := h.shapes
  match rs, vs, fs, h with
  | [], [], [], h => rfl
  | [r], [v], [f], h =>
    refine ⟨h.1.1, ?_⟩
    have := h.1.2
    rw [show [f].flatten = f by simp]
    exact this
  | r :: q :: rs, v :: u :: vs, f :: e :: fs, h =>
    obtain ⟨i1, i2⟩ := tup_rel (r :: q :: rs) (v :: u :: vs) (f :: e :: fs) (by simp) h
    refine ⟨⟨(v :: u :: vs).toArray, rfl, by simpa using i2⟩, ?_⟩
    have hc : vCells (retVal (v :: u :: vs)) = (v :: u :: vs).flatMap vCells := by
      simp only [retVal, vCells]
      generalize (v :: u :: vs) = L at hsh
      induction L with
      | nil => rfl
      | cons y L ih =>
        have h1 := hsh y (by simp)
        have h2 := ih (fun z hz => hsh z (List.mem_cons_of_mem _ hz))
        simp only [List.flatMap_cons] at h2 ⊢
        rw [h2, h1]
    rw [hc]
    exact i1
end
end Go.PI
namespace Go.PI

section
variable {W0 : Base} {M : Nat → Prop} {σ : State} {a : Act} {w w' : World} {G : Ghost} {P : Program}

theorem back_true : (l : List TVal) → l.map (TVal.back true) = l
  | [] => rfl
  | v :: l => by
    rw [List.map_cons, back_true l]
    congr 1
    obtain ⟨τ, ag, x, tg⟩ := v
    simp only [TVal.back]
    congr 1
    induction tg with
    | nil => rfl
    | cons t tg ih => rw [List.map_cons, ih]; cases t <;> rfl

theorem res_stable {F : Nat → Nat} {St : Nat → Prop} {G' : Ghost} (hF : G'.F = F) (hS : ∀ b, St b → G'.St b) : (rs : List TVal) → (vs : List Value) → (fs : List (List Nat)) → ResRel w F St rs vs fs → (∀ b ∈ fs.flatten, G'.Al b) → OutRel w G' rs vs fs
  | [], vs, fs, h, _ => by cases vs <;> cases fs <;> first | trivial | exact h.elim
  | r :: rs, vs, fs, h, hA => by
    cases vs <;> cases fs <;> first | exact h.elim | skip
    rename_i v vs f fs
    obtain ⟨⟨h1, h2, h3⟩, h4⟩ := h
    refine ⟨⟨h1, ?_⟩, res_stable hF hS rs vs fs h4 fun b hb => hA b (by simp [hb])⟩
    rw [hF]
    exact (h3.narrow (Al' := G'.Al) (TVal.noN_iff.1 h2) fun b hb => hA b (by simp [hb])).pres hS (fun _ _ h => h) (fun b _ => KeepB.refl _ _ _) (fun b _ => ⟨KeepB.refl _ _ _, rfl⟩) (.inr fun b _ _ => KeepB.refl _ _ _)

theorem res_unstable {F : Nat → Nat} {St : Nat → Prop} {G' : Ghost} (hF : G'.F = F) (hS : ∀ b, St b → G'.Al b) : (rs : List TVal) → (vs : List Value) → (fs : List (List Nat)) → ResRel w F St rs vs fs → (∀ b ∈ fs.flatten, G'.Al b) → OutRel w G' (rs.map (TVal.back false)) vs fs
  | [], vs, fs, h, _ => by cases vs <;> cases fs <;> first | trivial | exact h.elim
  | r :: rs, vs, fs, h, hA => by
    cases vs <;> cases fs <;> first | exact h.elim | skip
    rename_i v vs f fs
    obtain ⟨⟨h1, h2, h3⟩, h4⟩ := h
    refine ⟨⟨h1, ?_⟩, res_unstable hF hS rs vs fs h4 fun b hb => hA b (by simp [hb])⟩
    rw [hF]
    exact h3.unstable hS (fun b hb => hA b (by simp [show b ∈ f from hb]))
end
end Go.PI
namespace Go.PI

section
variable {w : World} {G : Ghost}

theorem ArgC.ptrs : (ms : List Mode) → (ls : List (Nat × Value)) → ms.all Mode.isPtr = true → ms.length = ls.length → ArgC w G ms (ls.map (·.2)) [] [] ls
  | [], [], _, _ => trivial
  | [], _ :: _, _, h => by simp at h
  | _ :: _, [], _, h => by simp at h
  | m :: ms, l :: ls, h, hl => by
    cases m with
    | ptr τ => exact ⟨rfl, ArgC.ptrs ms ls (by simpa [Mode.isPtr] using h) (by simpa using hl)⟩
    | _ => simp [Mode.isPtr] at h

theorem ArgC.append_ptr {ms' : List Mode} {ls' : List (Nat × Value)} (h' : ms'.all Mode.isPtr = true) (hl' : ms'.length = ls'.length) : (ms : List Mode) → (ys : List Value) → (vs : List TVal) → (fs : List (List Nat)) → (ls : List (Nat × Value)) → ArgC w G ms ys vs fs ls →
    ArgC w G (ms ++ ms') (ys ++ ls'.map (·.2)) vs fs (ls ++ ls')
  | [], ys, vs, fs, ls, h => by
    cases ys <;> cases vs <;> cases fs <;> cases ls <;> first | exact ArgC.ptrs ms' ls' h' hl' | exact h.elim
  | .borrow τ ag :: ms, ys, vs, fs, ls, h => by
    cases ys <;> cases vs <;> cases fs <;> first | exact h.elim | skip
    obtain ⟨h1, h2, h3, h4⟩ := h
    exact ⟨h1, h2, h3, ArgC.append_ptr h' hl' ms _ _ _ _ h4⟩
  | .consume τ ag :: ms, ys, vs, fs, ls, h => by
    cases ys <;> cases vs <;> cases fs <;> first | exact h.elim | skip
    obtain ⟨h2, h3, h4⟩ := h
    exact ⟨h2, h3, ArgC.append_ptr h' hl' ms _ _ _ _ h4⟩
  | .eat τ ag :: ms, ys, vs, fs, ls, h => by
    cases ys <;> cases vs <;> cases fs <;> first | exact h.elim | skip
    obtain ⟨h2, h3, h4⟩ := h
    exact ⟨h2, h3, ArgC.append_ptr h' hl' ms _ _ _ _ h4⟩
  | .inout τ ag :: ms, ys, vs, fs, ls, h => by cases ys <;> cases vs <;> cases fs <;> exact h.elim
  | .look τ ag :: ms, ys, vs, fs, ls, h => by cases ys <;> cases vs <;> cases fs <;> first | exact h.elim | (cases ls <;> exact h.elim)
  | .rptr τ :: ms, ys, vs, fs, ls, h => by cases ys <;> cases vs <;> cases fs <;> first | exact h.elim | (cases ls <;> exact h.elim)
  | .rclos g τs :: ms, ys, vs, fs, ls, h => by cases ys <;> cases vs <;> cases fs <;> first | exact h.elim | (cases ls <;> exact h.elim)
  | .ptr τ :: ms, ys, vs, fs, ls, h => by
    cases ys <;> cases ls <;> first | (cases vs <;> cases fs <;> exact h.elim) | skip
    rename_i y ys l ls
    have h2 : y = l.2 ∧ ArgC w G ms ys vs fs ls := by cases vs <;> cases fs <;> exact h
    have h3 := ArgC.append_ptr h' hl' ms _ _ _ _ h2.2
    cases vs <;> cases fs <;> exact ⟨h2.1, h3⟩
  | .clos g τs :: ms, ys, vs, fs, ls, h => by
    cases ys <;> first | (cases vs <;> cases fs <;> cases ls <;> exact h.elim) | skip
    rename_i y ys
    have h2 : (τs.length ≤ ls.length ∧ y = .func (.func g) #[] ((ls.take τs.length).map (·.2)).toArray) ∧ ArgC w G ms ys vs fs (ls.drop τs.length) := by cases vs <;> cases fs <;> cases ls <;> exact h
    have h3 := ArgC.append_ptr h' hl' ms _ _ _ _ h2.2
    have hx : (τs.length ≤ (ls ++ ls').length ∧ y = .func (.func g) #[] (((ls ++ ls').take τs.length).map (·.2)).toArray) ∧ ArgC w G (ms ++ ms') (ys ++ ls'.map (·.2)) vs fs ((ls ++ ls').drop τs.length) := by
      rw [List.take_append_of_le_length h2.1.1, List.drop_append_of_le_length h2.1.1]
      exact ⟨⟨by simp; omega, h2.1.2⟩, h3⟩
    generalize ls ++ ls' = L at hx
    cases vs <;> cases fs <;> cases L <;> exact hx
end
end Go.PI
namespace Go.PI

section
variable {W0 : Base} {M : Nat → Prop} {σ : State} {a : Act} {w w' : World} {G : Ghost} {P : Program} {R : Type} {Γ : Env R} {r : R}

theorem boxesAt_live : (rs : List Nat) → (l : List TVal) → σ.boxesAt rs = some l → ∀ q ∈ rs, ∃ v, σ.boxAt q = some v
  | [], l, h => by simp
  | x :: rs, l, h => by
    simp only [State.boxesAt] at h
    split at h
    · rename_i v l' hv hl'
      intro q hq
      rcases List.mem_cons.1 hq with rfl | hq
      · exact ⟨v, hv⟩
      · exact boxesAt_live rs l' hl' q hq
    · cases h

theorem whole_ptr {xs : List Nat} (I : Inv W0 M σ a w G xs) {q : Nat} {u : Value} {v : TVal} (h : PtrRel σ G a w ⟨true, q, []⟩ u) (hv : σ.boxAt q = some v) : u = .pointer (some ⟨G.ad q, 0, none⟩) := by
  rcases h with h | ⟨cs, b, ⟨τ, l, b', h3, h4, h5⟩, h6⟩
  · rw [ct_box, hv] at h; cases h
  · obtain ⟨⟨c, T, hc, _⟩, _⟩ := I.box q v hv
    simp only [rootLoc, hc, Option.some.injEq, Prod.mk.injEq] at h4
    obtain ⟨rfl, rfl⟩ := h4
    rw [locP_nil] at h5
    simp only [Option.some.injEq, Prod.mk.injEq] at h5
    obtain ⟨_, rfl⟩ := h5
    exact h6

theorem ArgC.noIo : (ms : List Mode) → (ys : List Value) → (vs : List TVal) → (fs : List (List Nat)) → (ls : List (Nat × Value)) → ArgC w G ms ys vs fs ls → ioArgs ms ys = []
  | [], ys, vs, fs, ls, h => by cases ys <;> rfl
  | .borrow τ ag :: ms, ys, vs, fs, ls, h => by
    cases ys <;> cases vs <;> cases fs <;> first | exact h.elim | skip
    exact ArgC.noIo ms _ _ _ _ h.2.2.2
  | .consume τ ag :: ms, ys, vs, fs, ls, h => by
    cases ys <;> cases vs <;> cases fs <;> first | exact h.elim | skip
    exact ArgC.noIo ms _ _ _ _ h.2.2
  | .eat τ ag :: ms, ys, vs, fs, ls, h => by
    cases ys <;> cases vs <;> cases fs <;> first | exact h.elim | skip
    exact ArgC.noIo ms _ _ _ _ h.2.2
  | .inout τ ag :: ms, ys, vs, fs, ls, h => by cases ys <;> cases vs <;> cases fs <;> exact h.elim
  | .look τ ag :: ms, ys, vs, fs, ls, h => by cases ys <;> cases vs <;> cases fs <;> first | exact h.elim | (cases ls <;> exact h.elim)
  | .rptr τ :: ms, ys, vs, fs, ls, h => by cases ys <;> cases vs <;> cases fs <;> first | exact h.elim | (cases ls <;> exact h.elim)
  | .rclos g τs :: ms, ys, vs, fs, ls, h => by cases ys <;> cases vs <;> cases fs <;> first | exact h.elim | (cases ls <;> exact h.elim)
  | .ptr τ :: ms, ys, vs, fs, ls, h => by
    cases ys <;> cases ls <;> first | (cases vs <;> cases fs <;> exact h.elim) | skip
    rename_i y ys l ls
    have h' : y = l.2 ∧ ArgC w G ms ys vs fs ls := by cases vs <;> cases fs <;> exact h
    exact ArgC.noIo ms _ _ _ _ h'.2
  | .clos g τs :: ms, ys, vs, fs, ls, h => by
    cases ys <;> first | (cases vs <;> cases fs <;> cases ls <;> exact h.elim) | skip
    rename_i y ys
    have h' : (τs.length ≤ ls.length ∧ y = .func (.func g) #[] ((ls.take τs.length).map (·.2)).toArray) ∧ ArgC w G ms ys vs fs (ls.drop τs.length) := by cases vs <;> cases fs <;> cases ls <;> exact h
    exact ArgC.noIo ms _ _ _ _ h'.2

theorem nodupB_iff : (l : List Nat) → nodupB l = true → l.Nodup
  | [], _ => List.nodup_nil
  | x :: l, h => by
    simp only [nodupB, Bool.and_eq_true, Bool.not_eq_true', List.contains_eq_mem, decide_eq_false_iff_not] at h
    exact List.nodup_cons.2 ⟨h.1, nodupB_iff l h.2⟩
end
end Go.PI
namespace Go.PI

section
variable {W0 : Base} {M : Nat → Prop} {σ : State} {a : Act} {w w' : World} {G : Ghost} {P : Program} {R : Type} {Γ : Env R} {r : R}

theorem boxesAt_kill : (rs : List Nat) → (l : List TVal) → σ.boxesAt rs = some l → (∀ v ∈ l, v.noN = true) → σ.kill.boxesAt rs = some l
  | [], l, h, _ => h
  | x :: rs, l, h, hn => by
    simp only [State.boxesAt] at h ⊢
    split at h
    · rename_i v l' hv hl'
      cases h
      rw [kill_box, hv, boxesAt_kill rs l' hl' fun u hu => hn u (List.mem_cons_of_mem _ hu)]
      simp [killBox, hn v (by simp)]
    · cases h

theorem getD_map_ad (ls : List (Nat × Value)) (j : Nat) (h : j < ls.length) : (ls.map fun q => G.ad q.1).getD j 0 = G.ad ((ls.map (·.1)).getD j 0) := by
  rw [List.getD_eq_getElem?_getD, List.getD_eq_getElem?_getD, List.getElem?_map, List.getElem?_map, List.getElem?_eq_getElem h]; rfl

theorem sameTys_get : (us vs : List TVal) → sameTys us vs = true → us.length = vs.length ∧ ∀ (j : Nat) (u v : TVal), us[j]? = some u → vs[j]? = some v → u.τ = v.τ
  | [], [], _ => ⟨rfl, fun j u v h => by simp at h⟩
  | [], _ :: _, h => by cases h
  | _ :: _, [], h => by cases h
  | u :: us, v :: vs, h => by
    simp only [sameTys, Bool.and_eq_true, decide_eq_true_eq] at h
    obtain ⟨i1, i2⟩ := sameTys_get us vs h.2
    refine ⟨by simp [i1], fun j x y hx hy => ?_⟩
    cases j with
    | zero => simp only [List.getElem?_cons_zero, Option.some.injEq] at hx hy; subst hx; subst hy; exact h.1
    | succ j => exact i2 j x y (by simpa using hx) (by simpa using hy)

theorem call_writes {g : FuncId} {sig : Sig R} (hs : Sound P g sig) {vals : List TVal} {fps : List (List Nat)} {ls : List (Nat × Value)} {args : List Value} {ext : List TVal}
    {kk : List TVal → List TVal → List TVal → Option R} (I : Inv W0 M σ a w G fps.flatten) (hargs : ArgC w G sig.modes args vals fps ls) (hn : ∀ v ∈ vals, v.noN = true) (hptr : LentPtr G ls) (hnd : (ls.map (·.1)).Nodup)
    (hext : σ.boxesAt (ls.map (·.1)) = some ext) (hexn : ∀ v ∈ ext, v.noN = true) (hrun : sig.run vals ext kk = some r) :
    Calls P g args.toArray w fun e w' => ∃ v res ext' G' fs, e = .returned v ∧ kk res [] ext' = some r ∧ Inv W0 M (σ.kill.putBoxes (ls.map (·.1)) ext') a w' G' (fs.flatten ++ []) ∧ (∃ vs, v = retVal vs ∧ OutRel w' G' res vs fs) ∧ (ls = [] → BCalmer w G w' G') := by
  obtain ⟨fs0, I1, _⟩ := I.kill
  obtain ⟨efps, G2, I2, hs2, hel, hbx⟩ := lend_rel (ls.map (·.1)) σ.kill _ _ ext hnd (boxesAt_kill _ _ hext hexn) I1
  have hsim : Sim G G2 := (Sim.fs G fs0).trans hs2
  have hextl : ext.length = ls.length := by have := (boxesAt_get _ _ hext).1; simpa using this
  have hel' : efps.length = ls.length := by simpa using hel
  let ads : List Nat := ls.map fun q => G.ad q.1
  have hadsl : ads.length = ls.length := by simp [ads]
  have hA := args_noN I sig.modes args vals fps ls hargs hn hptr
  have hlive : ∀ j, j < ls.length → ∃ v, ext[j]? = some v := fun j hj => ⟨ext[j], List.getElem?_eq_getElem (by omega)⟩
  have hB : BoxesRel w G.F G.St ext ads efps := boxes_mk ext ads efps (by omega) (by omega) fun j v hj => by
    have hjl : j < ls.length := by rw [← hextl]; exact (List.getElem?_eq_some_iff.1 hj).1
    obtain ⟨⟨c, T, hc, hR⟩, _, _⟩ := hbx j v hj
    refine ⟨c, T, by rw [getD_map_ad ls j hjl]; exact hc, ?_⟩
    exact hR.narrow (TVal.noN_iff.1 (hexn v (List.mem_of_getElem? hj))) fun b hb => hb
  have hadw : ∀ b ∈ ads, ∃ j, j < ls.length ∧ b = G.ad ((ls.map (·.1)).getD j 0) ∧ G2.who b = some (.a ((ls.map (·.1)).getD j 0)) := by
    intro b hb
    obtain ⟨j, hj, rfl⟩ := List.mem_iff_getElem.1 hb
    have hjl : j < ls.length := by omega
    obtain ⟨v, hv⟩ := hlive j hjl
    obtain ⟨_, h2, _⟩ := hbx j v hv
    have he : ads[j] = G.ad ((ls.map (·.1)).getD j 0) := by
      rw [← getD_map_ad ls j hjl, List.getD_eq_getElem?_getD, List.getElem?_eq_getElem hj]; rfl
    exact ⟨j, hjl, he, by rw [he]; exact (hs2.bx _ _).2 h2⟩
  have hgx : ∀ b ∈ efps.flatten ++ fps.flatten, G2.who b = some .x := I2.whoX
  have hadn : ads.Nodup := by
    refine List.pairwise_iff_getElem.2 fun i j hi hj hij heq => ?_
    obtain ⟨v, hv⟩ := hlive i (by omega)
    obtain ⟨u, hu⟩ := hlive j (by omega)
    have h1 := (hbx i v hv).2.1
    have h2 := (hbx j u hu).2.1
    have e1 : ads[i] = G.ad ((ls.map (·.1)).getD i 0) := by rw [← getD_map_ad ls i (by omega), List.getD_eq_getElem?_getD, List.getElem?_eq_getElem hi]; rfl
    have e2 : ads[j] = G.ad ((ls.map (·.1)).getD j 0) := by rw [← getD_map_ad ls j (by omega), List.getD_eq_getElem?_getD, List.getElem?_eq_getElem hj]; rfl
    have h1 : G.who (G.ad ((ls.map (·.1)).getD i 0)) = some (.a ((ls.map (·.1)).getD i 0)) := h1
    have h2 : G.who (G.ad ((ls.map (·.1)).getD j 0)) = some (.a ((ls.map (·.1)).getD j 0)) := h2
    rw [← e1, heq, e2, h2] at h1
    simp only [Option.some.injEq, Who.a.injEq] at h1
    have hil : i < (ls.map (·.1)).length := by simp; omega
    have hjl : j < (ls.map (·.1)).length := by simp; omega
    rw [List.getD_eq_getElem?_getD, List.getD_eq_getElem?_getD, List.getElem?_eq_getElem hil, List.getElem?_eq_getElem hjl] at h1
    exact List.pairwise_iff_getElem.1 hnd i j hil hjl hij (by simpa using h1.symm)
  have hnda : (fps.flatten ++ (efps.flatten ++ ads)).Nodup := by
    have h0 := I2.nodX
    have h1 := (List.nodup_append.1 h0)
    refine List.nodup_append.2 ⟨h1.2.1, List.nodup_append.2 ⟨h1.1, hadn, fun b hb b' hb' hbb => ?_⟩, fun b hb b' hb' hbb => ?_⟩
    · subst hbb
      obtain ⟨j, _, _, h5⟩ := hadw b hb'
      rw [hgx b (List.mem_append_left _ hb)] at h5; cases h5
    · subst hbb
      rcases List.mem_append.1 hb' with hb' | hb'
      · exact h1.2.2 b hb' b hb rfl
      · obtain ⟨j, _, _, h5⟩ := hadw b hb'
        rw [hgx b (List.mem_append_right _ hb)] at h5; cases h5
  have hwz : ∀ b ∈ fps.flatten ++ (efps.flatten ++ ads), ∃ z, G2.who b = some z := by
    intro b hb
    rcases List.mem_append.1 hb with hb | hb
    · exact ⟨_, hgx b (List.mem_append_right _ hb)⟩
    · rcases List.mem_append.1 hb with hb | hb
      · exact ⟨_, hgx b (List.mem_append_left _ hb)⟩
      · obtain ⟨j, _, _, h5⟩ := hadw b hb; exact ⟨_, h5⟩
  have hSt : ∀ b, G.St b → b < w.heap.size ∧ b ∉ fps.flatten ++ (efps.flatten ++ ads) := fun b hb => by
    have h2 := I2.st b (by rw [hsim.St]; exact hb)
    refine ⟨h2.2, fun hm => ?_⟩
    obtain ⟨z, hz⟩ := hwz b hm
    rw [h2.1] at hz; cases hz
  refine (hs.2 vals ext kk r hrun w G.F G.St args ads fps efps hA hB hnda hSt fun b hb => ?_).mono fun e w' => ?_
  · obtain ⟨z, hz⟩ := hwz b hb; exact (I2.lt b z hz).1
  · rintro ⟨v, res, ios, ext', rfl, hk, ⟨hty, _, _⟩, hexn', F', St', vs, rfps, efps', ⟨rfl, hil, _⟩, hres, hbox, hE, hF, hS1, hS2, hndr, hR⟩
    rw [ArgC.noIo _ _ _ _ _ hargs] at hil hres
    have hios : ios = [] := List.length_eq_zero_iff.1 hil
    subst hios
    rw [List.append_nil, List.append_nil] at hres
    have hassoc : fps.flatten ++ (efps.flatten ++ ads) = (fps.flatten ++ efps.flatten) ++ ads := by rw [List.append_assoc]
    have I3 : Inv W0 M (σ.kill.lend (ls.map (·.1))) a w G2 (fps.flatten ++ efps.flatten) := I2.perm List.perm_append_comm
    rw [hassoc] at hE hF hS2 hR
    rw [← List.append_assoc] at hndr hR
    obtain ⟨ht1, ht2⟩ := sameTys_get ext ext' hty
    obtain ⟨hb1, hb2, hb3⟩ := boxes_get ext' ads efps' hbox
    obtain ⟨G4, I4, gF, gad, gS, gA, gSs, gR, gads, _, gB, _⟩ := after_call (R := rfps.flatten ++ efps'.flatten) (ads := ads) (ks := []) (F' := F') (St' := St') (by rw [List.append_nil]; exact I3) (fun b hb => by
        obtain ⟨j, hj, _, h5⟩ := hadw b hb
        refine ⟨_, h5, lend_box_none _ _ _ (.inl ?_)⟩
        have hjl : j < (ls.map (·.1)).length := by simpa using hj
        rw [List.getD_eq_getElem?_getD, List.getElem?_eq_getElem hjl]
        exact List.getElem_mem _) (.inl (noN_of_slots (kill_noN σ) (fun i => lend_slot _ _ i) fun i => by
        by_cases hi : i ∈ ls.map (·.1)
        · exact .inr (lend_box_none _ _ _ (.inl hi))
        · exact .inl (lend_box_other _ _ _ hi)))
      (Sc := G2.St) (fun _ h => h) (Ghost.St_Al I3) hE (fun b hb hm => by rw [hF b hb hm, hsim.F]) (fun b hb => hS1 b (by rw [← hsim.St]; exact hb)) (fun b hb => by have := hS2 b hb; rw [← hsim.St] at this; exact this) hndr hR
    have I4' : Inv W0 M (σ.kill.lend (ls.map (·.1))) a w' G4 (efps'.flatten ++ rfps.flatten) := by rw [List.append_nil] at I4; exact I4.perm List.perm_append_comm
    have had4 : G4.ad = G.ad := gad.trans hsim.ad
    have hlb := lend_len (ls.map (·.1)) σ.kill
    obtain ⟨G5, I5, q1, q2, q3, q4, q5⟩ := lay_rel (ls.map (·.1)) ext' efps' _ G4 rfps.flatten hnd (by simp; omega) (by omega) I4' (fun j u hj => by
      have hjl' : j < ext'.length := (List.getElem?_eq_some_iff.1 hj).1
      have hjl : j < ls.length := by omega
      obtain ⟨v, hv⟩ := hlive j hjl
      obtain ⟨_, p2, p3⟩ := hbx j v hv
      obtain ⟨c, T, hc, hR'⟩ := hb3 j u hj
      rw [had4]
      rw [getD_map_ad ls j hjl] at hc
      have hτ := ht2 j v u hv hj
      have hmem : G.ad ((ls.map (·.1)).getD j 0) ∈ ads := by
        rw [← getD_map_ad ls j hjl, List.getD_eq_getElem?_getD, List.getElem?_eq_getElem (show j < ads.length by omega)]; exact List.getElem_mem _
      refine ⟨⟨c, T, hc, ?_⟩, ?_, ?_, fun i hi => ?_⟩
      · rw [gF]
        have hun : u.noN = true := by rw [List.all_eq_true] at hexn'; exact hexn' u (List.mem_of_getElem? hj)
        exact (hR'.narrow (Al' := G4.Al) (TVal.noN_iff.1 hun) fun b hb => gR b (List.mem_append_right _ (getD_flatten hb))).pres (gSs fun _ h => h) (fun _ _ h => h) (fun b _ => KeepB.refl _ _ _) (fun b _ => ⟨KeepB.refl _ _ _, rfl⟩) (.inr fun b _ _ => KeepB.refl _ _ _)
      · rw [gads _ hmem]
        exact (hs2.bx _ _).2 p2
      · rw [hlb.2]
        have hb0 := (boxesAt_get _ _ (boxesAt_kill _ _ hext hexn)).2 j v hv
        exact boxAt_lt hb0
      · have := p3 i (by rw [← hlb.1]; exact hi)
        rw [← hτ]
        exact this)
    rw [lay_lend _ _ _ hnd (by simp; omega)] at I5
    refine ⟨_, res, ext', G5, rfps, rfl, hk, by simpa using I5, ⟨vs, rfl, res_stable (q1.trans gF) (fun b hb => by rw [q2]; exact gSs (fun _ h => h) b hb) res vs rfps hres fun b hb => by rw [q3]; exact gR b (List.mem_append_left _ hb)⟩, fun hl w2 hc i b hb => ?_⟩
    exact gB (by simp [ads, hl]) w2 (fun i b hb => hc i b ((q5 _ _).2 hb)) i b ((hsim.bx _ _).2 hb)
end
end Go.PI
namespace Go.PI

section
variable {W0 : Base} {M : Nat → Prop} {σ : State} {a : Act} {w w' : World} {G : Ghost} {xs : List Nat} {P : Program} {R : Type} {Γ : Env R} {r : R}

theorem Rp.leafless {F F' : Nat → Nat} {St Al St' Al' : Nat → Prop} {τ : Ty} {tg : List Tag} {cs : List Value} {x : El τ} {fp : List Nat} (h : Rp w F St Al τ tg cs x fp) (hl : leaves τ = 0) : tg = [] ∧ fp = [] ∧ Rp w' F' St' Al' τ [] cs x [] := by
  have h0 : tg = [] := List.length_eq_zero_iff.1 (by rw [h.len.2, hl])
  subst h0
  have h1 := h.fp_nil (by simp)
  subst h1
  exact ⟨rfl, rfl, h.presO (by simp) (by simp)⟩

theorem looks_rel (I : Inv W0 M σ a w G xs) {F : Nat → Nat} {St : Nat → Prop} : (ms : List Mode) → (os : List Operand) → (vs : List TVal) → looksC ms os σ = some vs →
    ArgsRel w F St ms vs (os.map a.eval) (vs.map fun _ => []) [] ∧ ioArgs ms (os.map a.eval) = [] ∧ ioTys ms = []
  | [], [], vs, h => by
    simp only [looksC, Option.some.injEq] at h
    subst h
    exact ⟨trivial, rfl, rfl⟩
  | [], _ :: _, vs, h => by simp [looksC] at h
  | .borrow τ ag :: ms, [], vs, h => by simp [looksC] at h
  | .borrow τ ag :: ms, o :: os, vs, h => by
    simp only [looksC] at h
    split at h
    · rename_i v hv
      split at h
      · rename_i hc
        simp only [Bool.and_eq_true, decide_eq_true_eq, beq_iff_eq] at hc
        obtain ⟨l, hl, rfl⟩ := Option.map_eq_some_iff.1 h
        obtain ⟨i1, i2, i3⟩ := looks_rel I ms os l hl
        obtain ⟨h1, h2⟩ := look_rel I hv
        have h3 : leaves v.τ = 0 := by rw [hc.1.1]; exact hc.2
        refine ⟨⟨rfl, by rw [← hc.1.2]; exact h2, ?_, i1⟩, i2, i3⟩
        rw [h3]
        exact (h1.leafless (w' := w) (F' := F) (St' := St) (Al' := St) h3).2.2
      · cases h
    · cases h
  | .consume τ ag :: ms, os, vs, h => by cases os <;> simp [looksC] at h
  | .eat τ ag :: ms, os, vs, h => by cases os <;> simp [looksC] at h
  | .inout τ ag :: ms, os, vs, h => by cases os <;> simp [looksC] at h
  | .look τ ag :: ms, os, vs, h => by cases os <;> simp [looksC] at h
  | .rptr τ :: ms, os, vs, h => by cases os <;> simp [looksC] at h
  | .rclos g τs :: ms, os, vs, h => by cases os <;> simp [looksC] at h
  | .ptr τ :: ms, os, vs, h => by cases os <;> simp [looksC] at h
  | .clos g τs :: ms, os, vs, h => by cases os <;> simp [looksC] at h

theorem patch_same {b o : Nat} {cs : List Value} (h : cellsAt w b o cs.length = some cs) (z : Nat) : (patchW w b o cs).heap[z]? = w.heap[z]? := by
  by_cases hz : z = b
  · subst hz
    unfold cellsAt at h
    split at h
    · rename_i c T fr hb
      split at h
      · rename_i hle
        have hcs : (c.toList.drop o).take cs.length = cs := by simpa using h
        simp only [patchW]
        rw [Array.getElem?_modify, hb]
        simp only [if_true, Option.map_some, Option.some.injEq]
        have : splice c.toList o cs = c.toList := by
          have := splice_self (cs := c.toList) (o := o) (n := cs.length) (by simpa using hle)
          rw [hcs] at this
          exact this
        rw [this]
      · cases h
    · cases h
  · exact patchW_other hz

theorem BoxesRel.nils {F : Nat → Nat} {St : Nat → Prop} {ext : List TVal} {efps : List (List Nat)} (h : BoxesRel w F St ext [] efps) : ext = [] ∧ efps = [] := by
  cases ext <;> cases efps <;> first | exact ⟨rfl, rfl⟩ | exact h.elim

theorem io_core {g : FuncId} {sig : Sig R} (hs : Sound P g sig) {fpi fpo : List Nat} (I : Inv W0 M σ a w G (fpi ++ fpo)) (hN : σ.noN) {vals : List TVal} {fps : List (List Nat)} {args : List Value}
    {kk : List TVal → List TVal → List TVal → Option R} (hA : ArgsRel w G.F G.St sig.modes vals args fps []) (hf : fps.flatten = fpi) (hrun : sig.run vals [] kk = some r) :
    Calls P g args.toArray w fun e w' => ∃ vs res ios G' fs, e = .returned (retVal vs) ∧ kk res ios [] = some r ∧ (ios.map (·.τ) = ioTys sig.modes ∧ ios.all TVal.allO = true) ∧ (ios.length = (ioArgs sig.modes args).length ∧ vs.length = res.length) ∧
      Inv W0 M σ a w' G' (fs.flatten ++ fpo) ∧ OutRel w' G' (res ++ ios) (vs ++ ioArgs sig.modes args) fs ∧ G'.ad = G.ad ∧ (∀ b z, G.who b = some z → z ≠ .x → G'.who b = some z) ∧
      (∀ b, b < w.heap.size → b ∉ fpi → G'.F b = G.F b ∧ w'.heap[b]? = w.heap[b]?) ∧ ∀ b, b < w.heap.size → G.Al b → G'.Al b := by
  have hxx : ∀ b ∈ fpi, G.who b = some .x := fun b hb => I.whoX b (List.mem_append_left _ hb)
  have hnd : fpi.Nodup := (List.nodup_append.1 I.nodX).1
  refine (hs.2 vals [] kk r hrun w G.F G.St args [] fps [] hA trivial (by simpa [hf] using hnd) (fun b hb => ?_) (fun b hb => ?_)).mono fun e w' => ?_
  · have h1 := I.st b hb
    refine ⟨h1.2, fun hm => ?_⟩
    have hm : b ∈ fpi := by simpa [hf] using hm
    rw [hxx b hm] at h1; cases h1.1
  · have hb : b ∈ fpi := by simpa [hf] using hb
    exact (I.lt b _ (hxx b hb)).1
  · rintro ⟨v, res, ios, ext', rfl, hk, ⟨hty, hit, hio⟩, hexn, F', St', vs, rfps, efps', ⟨rfl, hil, hvl⟩, hres, hbox, hE, hF, hS1, hS2, hndr, hR⟩
    obtain ⟨rfl, rfl⟩ := BoxesRel.nils hbox
    simp only [hf, List.flatten_nil, List.append_nil, List.nil_append] at hE hF hS2 hndr hR
    obtain ⟨G4, I4, gF, gad, gS, gA, gSs, gR, gads, gC, _, gAl, gW⟩ := after_call (R := rfps.flatten) (ads := []) (gs := fpi) (ks := fpo) (F' := F') (St' := St') I (by simp) (.inl hN) (Sc := G.St) (fun _ h => h) (Ghost.St_Al I) (by simpa using hE)
      (fun b hb hm => hF b hb (by simpa using hm)) hS1 (fun b hb => by simpa using hS2 b hb) (by simpa using hndr) (fun b hb => by simpa using hR b (by simpa using hb))
    refine ⟨vs, res, ios, G4, rfps, rfl, hk, ⟨hit, hio⟩, ⟨hil, hvl⟩, I4, res_stable gF (gSs fun _ h => h) _ _ rfps hres gR, gad, gW, fun b hb hm => ⟨by rw [gF, hF b hb hm], hE.block b hb hm⟩, gAl⟩

theorem outRel_split : (us : List TVal) → (vs : List Value) → (fs : List (List Nat)) → {us' : List TVal} → {vs' : List Value} → vs.length = us.length → OutRel w G (us ++ us') (vs ++ vs') fs → ∃ f1 f2, fs = f1 ++ f2 ∧ OutRel w G us vs f1 ∧ OutRel w G us' vs' f2
  | [], [], fs, us', vs', _, h => ⟨[], fs, rfl, trivial, h⟩
  | [], _ :: _, fs, us', vs', h, _ => by simp at h
  | _ :: _, [], fs, us', vs', h, _ => by simp at h
  | u :: us, v :: vs, [], us', vs', hl, h => h.elim
  | u :: us, v :: vs, f :: fs, us', vs', hl, h => by
    obtain ⟨h1, h2⟩ := h
    obtain ⟨f1, f2, rfl, h3, h4⟩ := outRel_split us vs fs (by simpa using hl) h2
    exact ⟨f :: f1, f2, rfl, ⟨h1, h3⟩, h4⟩

theorem call_io {g : FuncId} {sig : Sig R} (hs : Sound P g sig) (I : Inv W0 M σ a w G []) {τ : Ty} {ag : Bool} {ms : List Mode} {o : Operand} {os : List Operand} (hm : sig.modes = .inout τ ag :: ms)
    {k : TV → State → Option R} (h : callIo sig τ ag ms o os σ k = some r) :
    Calls P g ((o :: os).map a.eval).toArray w fun e w' => ∃ res σ' G' fs vs, e = .returned (retVal vs) ∧ k (retTV res) σ' = some r ∧ Inv W0 M σ' a w' G' (fs.flatten ++ []) ∧ OutRel w' G' res vs fs := by
  unfold callIo at h
  split at h
  · rename_i p ag' hp
    split at h
    · rename_i c u vs hc hu hlk
      split at h
      · rename_i hcond
        simp only [Bool.and_eq_true, decide_eq_true_eq, beq_iff_eq, Bool.or_eq_true] at hcond
        obtain ⟨⟨⟨⟨hτ, hag⟩, hcO⟩, huO⟩, hwh⟩ := hcond
        subst hτ
        subst hag
        have hpr := peek_rel I o (by rw [hp]; intro v ags hh; cases hh)
        rw [hp] at hpr
        obtain ⟨_, hpr⟩ := hpr
        have hpl : ∃ cs base, PlaceAt σ G a w p cs base ∧ vCells (a.eval o) = cs ∧ Shaped ag' (a.eval o) := by
          rcases hpr with h1 | h1
          · rw [State.ct, hc] at h1; cases h1
          · exact h1
        obtain ⟨cs, base, hplace, hcs, hsh⟩ := hpl
        obtain ⟨τc, l, bs, hct, hrl, hloc⟩ := id hplace
        have : τc = c.τ := by rw [State.ct, hc] at hct; simpa using hct.symm
        subst this
        obtain ⟨l', bs', fpc, hrl', hRc, hwc⟩ := content_root I hc
        rw [hrl] at hrl'
        cases hrl'
        obtain ⟨c', hc', hgp⟩ := getAt_content hu
        rw [hc] at hc'
        cases hc'
        have hfpw : ∀ z ∈ fpc, G.who z = some (if p.box then .c p.root else .s p.root) := by
          intro z hz
          rcases hwc with ⟨hb, _, rfl, _⟩ | ⟨hb, _, rfl, _⟩
          · rw [hb]; exact I.whoC _ z hz
          · rw [hb]; exact I.whoS _ z hz
        have hnod : fpc.Nodup := by
          rcases hwc with ⟨_, _, rfl, _⟩ | ⟨_, _, rfl, _⟩
          · exact I.nodC _
          · exact I.nodS _
        obtain ⟨fpo, fpi, L⟩ := Rp.lens (base := bs) hRc (allO_iff.1 hcO) hnod (fun z hz hm => by
          rcases hwc with ⟨hb, hbx, _, hbs⟩ | ⟨_, _, _, hbs, _⟩
          · rw [hbs] at hz; cases hz
            have h1 := hfpw _ hm
            rw [(I.box _ _ hbx).2, hb] at h1
            cases h1
          · rw [hbs] at hz; cases hz) hloc hgp
        have hltc : ∀ z ∈ fpc, z < w.heap.size := fun z hz => (I.lt z _ (hfpw z hz)).1
        -- the root is held
        have hold : ∃ G2, Inv W0 M (σ.hold p).kill a w G2 (fpi ++ fpo) ∧ Sim G G2 ∧ (∀ z ∈ fpc, G2.Al z) := by
          have : ∃ G1, Inv W0 M (σ.hold p) a w G1 (fpc ++ []) ∧ Sim G G1 := by
            obtain ⟨bx, root, path⟩ := p
            rcases hwc with ⟨hb, hbx, rfl, _⟩ | ⟨hb, hlt, rfl, _, hsl⟩
            · simp only at hb hbx
              subst hb
              obtain ⟨G1, I1, h1, _⟩ := I.takeBox hbx
              exact ⟨G1, I1, h1⟩
            · simp only at hb hsl
              subst hb
              have hv : σ.slot root = .val c := by
                rcases hsl with h1 | ⟨ags, h1⟩
                · exact h1
                · rcases hwh with h2 | h2
                  · cases h2
                  · simp only at h2; rw [h1] at h2; cases h2
              obtain ⟨G1, I1, h1, _⟩ := I.takeSlot hv
              exact ⟨G1, I1, h1⟩
          obtain ⟨G1, I1, h1⟩ := this
          obtain ⟨fs, I2, _⟩ := I1.kill
          have I3 := I2.perm (ys := fpi ++ fpo) (by
            rw [List.append_nil]
            exact L.perm.trans List.perm_append_comm)
          have hx : ∀ z ∈ fpc, ({ G1 with fs := fs } : Ghost).Al z := fun z hz => by
            have := I2.whoX z (by simpa using hz)
            exact ⟨fun i h => (by rw [this] at h; cases h), fun h => (by rw [this] at h; cases h)⟩
          exact ⟨_, I3, h1.trans (Sim.fs _ fs), hx⟩
        obtain ⟨G2, I2, hsim, hAl2⟩ := hold
        have hnoN : (σ.hold p).kill.noN := kill_noN _
        obtain ⟨hl1, hl2, hl3⟩ := looks_rel I (F := G2.F) (St := G2.St) ms os vs hlk
        have hvsf : (vs.map fun _ => ([] : List Nat)).flatten = [] := by
          clear hlk hl1 h
          induction vs with
          | nil => rfl
          | cons v vs ih => simp
        have hA : ArgsRel w G2.F G2.St sig.modes ({ u with ag := ag' } :: vs) ((o :: os).map a.eval) (fpi :: vs.map fun _ => []) [] := by
          rw [hm]
          refine ⟨⟨hsh, rfl⟩, ?_, hl1⟩
          have h1 : Rp w G2.F G2.St G2.Al u.τ u.tg cs u.x fpi := by rw [hsim.F, hsim.St, hsim.Al]; exact L.part
          rw [hcs]
          exact h1.narrow (fun t ht => by rw [L.tags t ht]; rfl) fun b hb => hb
        refine (io_core hs I2 hnoN hA (by simp [hvsf]) h).mono fun e w' => ?_
        rintro ⟨vs', res, ios, G', fs, rfl, hk, ⟨hit, hio⟩, ⟨hil, hvl⟩, I', hout, gad, gW, gF, gAl⟩
        split at hk
        · rename_i u'
          split at hk
          · rename_i rr hset
            rw [hm] at hout hit
            simp only [List.map_cons, ioArgs, hl2] at hout
            simp only [List.map_cons, List.map_nil, ioTys, hl3, List.cons.injEq, and_true] at hit
            obtain ⟨f1, f2, rfl, ho1, ho2⟩ := outRel_split res vs' fs hvl hout
            obtain ⟨fpv, rfl, hsv, hRv⟩ : ∃ fpv, f2 = [fpv] ∧ Shaped u'.ag (a.eval o) ∧ Rp w' G'.F G'.St G'.Al u'.τ u'.tg (vCells (a.eval o)) u'.x fpv := by
              cases f2 with
              | nil => exact ho2.elim
              | cons f f2 =>
                obtain ⟨h1, h2⟩ := ho2
                cases f2 with
                | nil => exact ⟨f, rfl, h1⟩
                | cons _ _ => exact h2.elim
            rw [hcs] at hRv
            have hu'O : u'.allO = true := by simpa using hio
            have hdisj : ∀ z ∈ fpo, z ∉ fpi := fun z hz hi => by
              have h1 := (L.perm.nodup_iff).1 hnod
              exact (List.nodup_append.1 h1).2.2 z hz z hi rfl
            have hsubo : ∀ z ∈ fpo, z ∈ fpc := fun z hz => L.perm.symm.subset (List.mem_append_left _ hz)
            have hput : ∀ z ∈ fpo, Put w G.F G.Al w' G'.F G'.Al base cs z := by
              intro z hz
              have hzc := hsubo z hz
              obtain ⟨q1, q2⟩ := gF z (hltc z hzc) (hdisj z hz)
              refine ⟨by rw [q1, hsim.F], fun _ => gAl z (hltc z hzc) (hAl2 z hzc), ?_⟩
              rw [q2]
              cases hbase : base with
              | none => rfl
              | some y =>
                obtain ⟨b, o'⟩ := y
                rw [hbase] at hplace
                have := place_cells I hplace (w2 := w) ⟨fun _ _ _ _ _ _ _ h => h, fun _ _ _ => rfl⟩
                exact (patch_same this z).symm
            obtain ⟨fpn, hpn, htg, hRn⟩ := L.put w' G'.F G'.St G'.Al u' cs fpv rr.1 rr.2 hset hit (allO_iff.1 hu'O) hRv hput
            have hRn' : Rp w' G'.F G'.St G'.Al c.τ rr.2 l rr.1 fpn := by
              split at hRn
              · rename_i hflat
                obtain ⟨τf, hτf⟩ := tyAt_of_getP hflat hgp
                obtain ⟨h1, h2⟩ := locP_flat (w := w) (base := bs) hτf hRc.len.1
                rw [hloc] at h1
                simp only [Option.some.injEq, Prod.mk.injEq] at h1
                rw [h1.1, splice_self (by rw [hRc.len.1]; exact h2)] at hRn
                exact hRn
              · exact hRn
            have I3 : Inv W0 M (σ.hold p).kill a w' G' (fpn ++ f1.flatten) := I'.perm (by
              refine List.perm_iff_count.2 fun z => ?_
              have h1 := (List.perm_iff_count.1 hpn) z
              simp only [List.flatten_append, List.flatten_cons, List.flatten_nil, List.append_nil, List.count_append] at h1 ⊢
              omega)
            have hfin : ∃ G5, Inv W0 M ((σ.hold p).kill.refill p ⟨c.τ, c.ag, rr.1, rr.2⟩) a w' G5 f1.flatten ∧ Sim G' G5 := by
              obtain ⟨bx, root, path⟩ := p
              rcases hwc with ⟨hb, hbx, hfb, hbs⟩ | ⟨hb, hlt, hfb, hbs, hsl⟩
              · simp only at hb hbx hfb hbs
                subst hb
                obtain ⟨_, _, _, hwho, ⟨cc, T, hcc, _⟩, hptr⟩ := I.takeBox hbx
                have hnf : G.ad root ∉ fpi := fun hmm => by
                  have h1 := hfpw _ (L.perm.symm.subset (List.mem_append_right _ hmm))
                  rw [hwho] at h1; cases h1
                have hadl := (I.lt _ _ hwho).1
                have hcc' : w'.heap[G.ad root]? = some (.cells cc T (0, 0)) := by rw [(gF _ hadl hnf).2]; exact hcc
                have hlcc : l = cc.toList := by
                  simp only [rootLoc, hcc, Option.some.injEq, Prod.mk.injEq] at hrl
                  exact hrl.1.symm
                obtain ⟨fs3, I4, _⟩ := I3.loosen true root
                have hR4 : Rp w' G'.F G'.St G'.Al c.τ rr.2 cc.toList rr.1 fpn := by rw [← hlcc]; exact hRn'
                have had : G'.ad root = G.ad root := by rw [gad, hsim.ad]
                have hw2 : G2.who (G.ad root) = some (.a root) := (hsim.bx _ _).2 hwho
                obtain ⟨G5, I5, e1, e2, e3, e4, e5⟩ := Inv.addBox I4 (i := root) (g := G.ad root) (c := cc) (T := T) (v := ⟨c.τ, c.ag, rr.1, rr.2⟩) (by
                  have := boxAt_lt hbx
                  simpa [State.hold, State.kill, State.putBox, State.loosen, setN_length] using this) hcc' (gW _ _ hw2 (by simp)) hR4 (fun j hj => by
                  have hj' : j < σ.slots.length := by simpa [State.hold, State.kill, State.putBox, State.loosen] using hj
                  refine (hptr j hj').or_dead ?_
                  rw [loosen_slot, kill_slot]
                  have h0 : (σ.hold ⟨true, root, path⟩).slot j = (σ.loosen true root).slot j := rfl
                  rw [h0]
                  rcases TV.kill_or ((σ.loosen true root).slot j) with h | h
                  · rw [h]; exact TV.loosen_or _ _ _
                  · rw [h]; exact .inr rfl) (.inr had)
                refine ⟨G5, I5, e1, e2, ?_, e3, e4⟩
                rw [e5]
                funext j
                split
                · rename_i h; subst h; exact had.symm
                · rfl
              · simp only at hb hlt hfb hbs hsl
                subst hb
                have hll : l = vCells (a.tmps.getD root undef) := by
                  simp only [rootLoc, Option.some.injEq, Prod.mk.injEq] at hrl
                  exact hrl.1.symm
                have hv : σ.slot root = .val c := by
                  rcases hsl with h1 | ⟨ags, h1⟩
                  · exact h1
                  · rcases hwh with h2 | h2
                    · cases h2
                    · simp only at h2; rw [h1] at h2; cases h2
                have hsh3 : Shaped c.ag (a.tmps.getD root undef) := by
                  have := I.slot root hlt
                  rw [hv] at this
                  exact this.1
                rw [hll] at hRn'
                obtain ⟨G5, I5, hs5⟩ := I3.put (i := root) (tv := .val ⟨c.τ, c.ag, rr.1, rr.2⟩) (v := a.tmps.getD root undef) ⟨hsh3, hRn'⟩ (fun hi => I.pin root hi) (.inr rfl)
                have hact : a.put (some root) (a.tmps.getD root undef) = a := by
                  have hlt : root < a.tmps.size := by rw [I.len]; exact hlt
                  simp only [Act.put]
                  have : a.tmps.setIfInBounds root (a.tmps.getD root undef) = a.tmps := by
                    apply Array.ext
                    · simp
                    · intro i h1 h2
                      simp only [Array.getElem_setIfInBounds h2]
                      split
                      · rename_i h; subst h; rfl
                      · rfl
                  rw [this]
                rw [hact] at I5
                exact ⟨G5, I5, hs5⟩
            obtain ⟨G5, I5, hs5⟩ := hfin
            refine ⟨res, _, G5, f1, vs', rfl, ?_, by simpa using I5, OutRel.sim hs5 _ _ _ ho1⟩
            rw [← hk]
            match res with
            | [] => rfl
            | [_] => rfl
            | _ :: _ :: _ => rfl
          · cases hk
        · cases hk
      · cases h
    · cases h
  · cases h
end
end Go.PI
namespace Go.PI

section
variable {W0 : Base} {M : Nat → Prop} {σ : State} {a : Act} {w w' : World} {G : Ghost} {xs : List Nat} {P : Program} {R : Type} {Γ : Env R} {r : R}

def topF (w : World) (F : Nat → Nat) (b : Nat) : Nat := match w.heap[b]? with | some (.cells c _ _) => max (F b) c.size | _ => F b
theorem topF_le (w : World) (F : Nat → Nat) (b : Nat) : F b ≤ topF w F b := by
  unfold topF
  split
  · exact Nat.le_max_left _ _
  · exact Nat.le_refl _
theorem cells_topF {F : Nat → Nat} {b o n : Nat} {cs : List Value} (h : cellsAt w b o n = some cs) : o + n ≤ topF w F b := by
  unfold cellsAt at h
  unfold topF
  split at h
  · rename_i c T fr hb
    split at h
    · rw [hb]; simp only []
      exact Nat.le_trans (by assumption) (Nat.le_max_right _ _)
    · cases h
  · cases h
def Old (w : World) (b : Nat) : Prop := b < w.heap.size

theorem Inv.Al_old (I : Inv W0 M σ a w G xs) : ∀ b, G.Al b → Old w b := fun b hb => by
  cases hz : G.who b with
  | none => exact (I.st b (hb.2 hz)).2
  | some z => exact (I.lt b z hz).1

theorem Rp.whole (I : Inv W0 M σ a w G xs) {τ : Ty} {tg : List Tag} {cs : List Value} {x : El τ} {fp : List Nat} (h : Rp w G.F G.St G.Al τ tg cs x fp) :
    Rp w (topF w G.F) (Old w) (Old w) τ (List.replicate (leaves τ) .S) cs x [] := by
  have h1 : Rp w G.F (Old w) (Old w) τ (List.replicate (leaves τ) .S) cs x [] := h.toS I.Al_old fun b hb => (I.st b hb).2
  exact h1.pres (fun _ h => h) (fun _ _ h => h) (fun b _ => KeepB.of_block rfl (topF_le _ _ _)) (by simp) (.inl fun t ht => by rw [(List.mem_replicate.1 ht).2]; rfl)

theorem ptrVal_rel (I : Inv W0 M σ a w G xs) {o : Operand} {v : TVal} (h : σ.ptrVal o = some v) : SPtr w (topF w G.F) (Old w) (Old w) v.τ v.x (a.eval o) := by
  unfold State.ptrVal at h
  have hp := peek_rel I o
  have hpl : ∀ {p : Place} {u : TVal} {z : Value}, PtrRel σ G a w p z → σ.getAt p = some u → SPtr w (topF w G.F) (Old w) (Old w) u.τ u.x z := by
    intro p u z hr hg
    obtain ⟨cs, b, hpl, rfl⟩ := hr.some hg
    obtain ⟨fp, hrp⟩ := place_rp I hg hpl
    have hc := place_cells I hpl (w2 := w) ⟨fun _ _ _ _ _ _ _ h => h, fun _ _ _ => rfl⟩
    rw [hrp.len.1] at hc
    exact ⟨b.1, b.2, cs, rfl, hc, cellsAt_lt hc, cells_topF hc, hrp.whole I⟩
  split at h
  · rename_i p hpk
    rw [hpk] at hp
    exact hpl (hp (by simp)).2.2.2 h
  · rename_i p hpk
    rw [hpk] at hp
    exact hpl (hp (by simp)).2 h
  · rename_i u t hpk
    cases h
    rw [hpk] at hp
    obtain ⟨_, _, b, o', cs, q1, q2, q3, q4, q5, q6⟩ := hp (by simp)
    exact ⟨b, o', cs, q1, q2, cellsAt_lt q2, cells_topF q2, q6.whole I⟩
  · cases h

theorem placesVal_rel (I : Inv W0 M σ a w G xs) : (ps : List Place) → (us : List Value) → (vs : List TVal) → σ.placesVal ps = some vs → us.length = ps.length → (∀ i (h : i < ps.length), PtrRel σ G a w ps[i] (us.getD i undef)) →
    vs.length = ps.length ∧ SPs w (topF w G.F) (Old w) (Old w) (vs.map (·.τ)) (joinV vs).τ (joinV vs).x us ∧ ∀ i (h : i < vs.length), SPtr w (topF w G.F) (Old w) (Old w) vs[i].τ vs[i].x (us.getD i undef)
  | [], us, vs, h, hl, _ => by
    simp only [State.placesVal, Option.some.injEq] at h
    subst h
    exact ⟨rfl, List.length_eq_zero_iff.1 hl, fun i h => by simp at h⟩
  | p :: ps, [], vs, h, hl, _ => by simp at hl
  | p :: ps, u :: us, vs, h, hl, hp => by
    simp only [State.placesVal] at h
    split at h
    · rename_i v l hv hl'
      cases h
      obtain ⟨i1, i2, i3⟩ := placesVal_rel I ps us l hl' (by simpa using hl) fun i hi => hp (i + 1) (by simpa using hi)
      have h0 : SPtr w (topF w G.F) (Old w) (Old w) v.τ v.x u := by
        obtain ⟨cs, b, hpl, hz⟩ := (hp 0 (by simp)).some hv
        obtain ⟨fp, hrp⟩ := place_rp I hv hpl
        have hc := place_cells I hpl (w2 := w) ⟨fun _ _ _ _ _ _ _ h => h, fun _ _ _ => rfl⟩
        rw [hrp.len.1] at hc
        exact ⟨b.1, b.2, cs, hz, hc, cellsAt_lt hc, cells_topF hc, hrp.whole I⟩
      refine ⟨by simp [i1], ?_, fun i hi => ?_⟩
      · cases l with
        | nil =>
          have : us = [] := by
            have h1 : ps.length = 0 := by simpa using i1.symm
            exact List.length_eq_zero_iff.1 (by simp only [List.length_cons] at hl; omega)
          subst this
          exact ⟨rfl, u, rfl, h0⟩
        | cons v2 l => exact ⟨rfl, u, us, rfl, h0, i2⟩
      · cases i with
        | zero => exact h0
        | succ i => exact i3 i (by simpa using hi)
    · cases h

theorem argsR_rel (I : Inv W0 M σ a w G xs) : (ms : List Mode) → (os : List Operand) → (vs : List TVal) → argsR ms os σ = some vs →
    ArgsRel w (topF w G.F) (Old w) ms vs (os.map a.eval) (vs.map fun _ => []) [] ∧ ms.length = os.length
  | [], [], vs, h => by
    simp only [argsR, Option.some.injEq] at h
    subst h
    exact ⟨trivial, rfl⟩
  | [], _ :: _, vs, h => by simp [argsR] at h
  | .look τ ag :: ms, [], vs, h => by simp [argsR] at h
  | .look τ ag :: ms, o :: os, vs, h => by
    simp only [argsR] at h
    split at h
    · rename_i v hv
      split at h
      · rename_i hc
        obtain ⟨l, hl, rfl⟩ := Option.map_eq_some_iff.1 h
        obtain ⟨i1, i2⟩ := argsR_rel I ms os l hl
        obtain ⟨q1, q2⟩ := lookAs_rel I hv
        exact ⟨⟨rfl, by rw [← hc.2]; exact q2, q1.whole I, i1⟩, by simp [i2]⟩
      · cases h
    · cases h
  | .rptr τ :: ms, [], vs, h => by simp [argsR] at h
  | .rptr τ :: ms, o :: os, vs, h => by
    simp only [argsR] at h
    split at h
    · rename_i v hv
      split at h
      · obtain ⟨l, hl, rfl⟩ := Option.map_eq_some_iff.1 h
        obtain ⟨i1, i2⟩ := argsR_rel I ms os l hl
        exact ⟨⟨rfl, ptrVal_rel I hv, i1⟩, by simp [i2]⟩
      · cases h
    · cases h
  | .rclos f τs :: ms, [], vs, h => by simp [argsR] at h
  | .rclos f τs :: ms, o :: os, vs, h => by
    simp only [argsR] at h
    have hp := peek_rel I o
    split at h
    · rename_i g ps hpk
      rw [hpk] at hp
      obtain ⟨_, us, q1, q2, q3⟩ := hp (by simp)
      split at h
      · rename_i vs' hvs
        split at h
        · rename_i hc
          simp only [Bool.and_eq_true, beq_iff_eq, decide_eq_true_eq] at hc
          obtain ⟨rfl, hτs⟩ := hc
          obtain ⟨l, hl, rfl⟩ := Option.map_eq_some_iff.1 h
          obtain ⟨i1, i2⟩ := argsR_rel I ms os l hl
          obtain ⟨_, j2, _⟩ := placesVal_rel I ps us.toList vs' hvs (by simpa using q2) fun i hi => by
            have := (q3 i hi).2.2
            rwa [Array.getD_eq_getD_getElem?, ← Array.getElem?_toList, ← List.getD_eq_getElem?_getD] at this
          rw [hτs] at j2
          exact ⟨⟨rfl, ⟨us, q1, j2⟩, i1⟩, by simp [i2]⟩
        · cases h
      · cases h
    · rename_i g τs' v hpk
      rw [hpk] at hp
      obtain ⟨_, us, q1, q2⟩ := hp (by simp)
      split at h
      · rename_i hc
        simp only [Bool.and_eq_true, beq_iff_eq, decide_eq_true_eq] at hc
        obtain ⟨rfl, rfl⟩ := hc
        obtain ⟨l, hl, rfl⟩ := Option.map_eq_some_iff.1 h
        obtain ⟨i1, i2⟩ := argsR_rel I ms os l hl
        refine ⟨⟨rfl, ⟨us, q1, ?_⟩, i1⟩, by simp [i2]⟩
        have hup : SPs w G.F (Old w) (Old w) τs' v.τ v.x us.toList := SPs.pres (fun b hb => (I.st b hb).2) (fun b _ hb => I.Al_old b hb) (fun b _ => KeepB.refl _ _ _) _ _ _ _ q2
        exact SPs.pres (fun _ h => h) (fun _ _ h => h) (fun b _ => KeepB.of_block rfl (topF_le _ _ _)) _ _ _ _ hup
      · cases h
    · cases h
  | .borrow τ ag :: ms, os, vs, h => by cases os <;> simp [argsR] at h
  | .consume τ ag :: ms, os, vs, h => by cases os <;> simp [argsR] at h
  | .eat τ ag :: ms, os, vs, h => by cases os <;> simp [argsR] at h
  | .inout τ ag :: ms, os, vs, h => by cases os <;> simp [argsR] at h
  | .ptr τ :: ms, os, vs, h => by cases os <;> simp [argsR] at h
  | .clos g τs :: ms, os, vs, h => by cases os <;> simp [argsR] at h

theorem argsR_caps {F : Nat → Nat} {St : Nat → Prop} : (ms' : List Mode) → (cvs : List TVal) → (us : List Value) → capsOk ms' cvs = true → us.length = cvs.length → (∀ i (h : i < cvs.length), SPtr w F St St cvs[i].τ cvs[i].x (us.getD i undef)) →
    ArgsRel w F St ms' cvs us (cvs.map fun _ => []) []
  | [], [], us, _, hl, _ => by
    have : us = [] := List.length_eq_zero_iff.1 hl
    subst this
    trivial
  | [], _ :: _, _, h, _, _ => by simp [capsOk] at h
  | .rptr τ :: ms', [], _, h, _, _ => by simp [capsOk] at h
  | .rptr τ :: ms', v :: cvs, [], h, hl, _ => by simp at hl
  | .rptr τ :: ms', v :: cvs, u :: us, h, hl, hp => by
    simp only [capsOk, Bool.and_eq_true] at h
    exact ⟨rfl, hp 0 (by simp), argsR_caps ms' cvs us h.2 (by simpa using hl) fun i hi => hp (i + 1) (by simpa using hi)⟩
  | .borrow τ ag :: ms, vs, _, h, _, _ => by cases vs <;> simp [capsOk] at h
  | .consume τ ag :: ms, vs, _, h, _, _ => by cases vs <;> simp [capsOk] at h
  | .eat τ ag :: ms, vs, _, h, _, _ => by cases vs <;> simp [capsOk] at h
  | .inout τ ag :: ms, vs, _, h, _, _ => by cases vs <;> simp [capsOk] at h
  | .ptr τ :: ms, vs, _, h, _, _ => by cases vs <;> simp [capsOk] at h
  | .clos g τs :: ms, vs, _, h, _, _ => by cases vs <;> simp [capsOk] at h
  | .look τ ag :: ms, vs, _, h, _, _ => by cases vs <;> simp [capsOk] at h
  | .rclos g τs :: ms, vs, _, h, _, _ => by cases vs <;> simp [capsOk] at h

theorem argsRel_append {F : Nat → Nat} {St : Nat → Prop} {ms' : List Mode} {vs' : List TVal} {xs' : List Value} {fs' : List (List Nat)} (h' : ArgsRel w F St ms' vs' xs' fs' []) :
    (ms : List Mode) → (vs : List TVal) → (xs : List Value) → (fs : List (List Nat)) → ms.all Mode.isLook = true → ArgsRel w F St ms vs xs fs [] → ArgsRel w F St (ms ++ ms') (vs ++ vs') (xs ++ xs') (fs ++ fs') []
  | [], vs, xs, fs, _, h => by
    cases vs <;> cases xs <;> cases fs <;> first | exact h' | exact h.elim
  | .look τ ag :: ms, vs, xs, fs, hk, h => by
    cases vs <;> cases xs <;> cases fs <;> first | exact h.elim | skip
    obtain ⟨h1, h2, h3, h4⟩ := h
    exact ⟨h1, h2, h3, argsRel_append h' ms _ _ _ (by simpa [Mode.isLook] using hk) h4⟩
  | .rptr τ :: ms, vs, xs, fs, hk, h => by
    cases vs <;> cases xs <;> cases fs <;> first | exact h.elim | skip
    obtain ⟨h1, h2, h4⟩ := h
    exact ⟨h1, h2, argsRel_append h' ms _ _ _ (by simpa [Mode.isLook] using hk) h4⟩
  | .rclos g τs :: ms, vs, xs, fs, hk, h => by
    cases vs <;> cases xs <;> cases fs <;> first | exact h.elim | skip
    obtain ⟨h1, h2, h4⟩ := h
    exact ⟨h1, h2, argsRel_append h' ms _ _ _ (by simpa [Mode.isLook] using hk) h4⟩
  | .borrow τ ag :: ms, _, _, _, h, _ => by simp [Mode.isLook] at h
  | .consume τ ag :: ms, _, _, _, h, _ => by simp [Mode.isLook] at h
  | .eat τ ag :: ms, _, _, _, h, _ => by simp [Mode.isLook] at h
  | .inout τ ag :: ms, _, _, _, h, _ => by simp [Mode.isLook] at h
  | .ptr τ :: ms, _, _, _, h, _ => by simp [Mode.isLook] at h
  | .clos g τs :: ms, _, _, _, h, _ => by simp [Mode.isLook] at h

theorem ioArgs_look : (ms : List Mode) → (xs : List Value) → ms.all Mode.isLook = true → ioArgs ms xs = []
  | [], xs, _ => by cases xs <;> rfl
  | .look τ ag :: ms, xs, h => by
    cases xs with
    | nil => rfl
    | cons x xs => exact ioArgs_look ms xs (by simpa [Mode.isLook] using h)
  | .rptr τ :: ms, xs, h => by
    cases xs with
    | nil => rfl
    | cons x xs => exact ioArgs_look ms xs (by simpa [Mode.isLook] using h)
  | .rclos g τs :: ms, xs, h => by
    cases xs with
    | nil => rfl
    | cons x xs => exact ioArgs_look ms xs (by simpa [Mode.isLook] using h)
  | .borrow τ ag :: ms, _, h => by simp [Mode.isLook] at h
  | .consume τ ag :: ms, _, h => by simp [Mode.isLook] at h
  | .eat τ ag :: ms, _, h => by simp [Mode.isLook] at h
  | .inout τ ag :: ms, _, h => by simp [Mode.isLook] at h
  | .ptr τ :: ms, _, h => by simp [Mode.isLook] at h
  | .clos g τs :: ms, _, h => by simp [Mode.isLook] at h

theorem nils_flatten (l : List TVal) : (l.map fun _ => ([] : List Nat)).flatten = [] := by
  induction l with
  | nil => rfl
  | cons v l ih => simp

theorem res_leafless {F : Nat → Nat} {St : Nat → Prop} {G' : Ghost} : (rs : List TVal) → (vs : List Value) → (fs : List (List Nat)) → ResRel w' F St rs vs fs → (∀ v ∈ rs, leaves v.τ = 0) → fs.flatten = [] ∧ OutRel w' G' rs vs fs
  | [], vs, fs, h, _ => by cases vs <;> cases fs <;> first | exact ⟨rfl, trivial⟩ | exact h.elim
  | u :: rs, vs, fs, h, hl => by
    cases vs <;> cases fs <;> first | exact h.elim | skip
    obtain ⟨⟨h1, _, h2⟩, h3⟩ := h
    obtain ⟨i1, i2⟩ := res_leafless rs _ _ h3 fun v hv => hl v (List.mem_cons_of_mem _ hv)
    obtain ⟨q1, q2, q3⟩ := h2.leafless (F' := G'.F) (St' := G'.St) (Al' := G'.Al) (hl u (by simp))
    subst q2
    exact ⟨by simpa using i1, ⟨h1, by rw [q1]; exact q3⟩, i2⟩

theorem Inv.newer (I : Inv W0 M σ a w G []) {F' : Nat → Nat} (hE : Ext (· ∈ ([] : List Nat)) w w') :
    ∃ G', Inv W0 M σ a w' G' [] ∧ Calmer w G w' G' := by
  let G' : Ghost := { G with F := fun b => if b < w.heap.size then G.F b else F' b }
  have hk : ∀ b, b < w.heap.size → KeepB w G.F w' G'.F b ∧ G'.F b = G.F b := by
    intro b hb
    have h1 : G'.F b = G.F b := if_pos hb
    exact ⟨KeepB.of_block (hE.block b hb (by simp)) (by rw [h1]; exact Nat.le_refl _), h1⟩
  have hlt : ∀ b z, G.who b = some z → b < w.heap.size := fun b z h => (I.lt b z h).1
  have hS : Same σ w G w' G' := ⟨rfl, rfl, rfl, fun _ _ h _ => h, fun _ _ h => h, fun _ h => h, fun b h => (hk b (I.st b h).2).1, fun b z h _ _ => hk b (hlt b z h), fun i v h => hE.block _ (hlt _ _ (I.box i v h).2) (by simp), .inr fun b hb _ => (hk b hb).1⟩
  refine ⟨G', I.world hS (fun b hb => ⟨(I.st b hb).1, by have := (I.st b hb).2; have := hE.size; omega⟩) (fun b z hb => ⟨by have := hlt b z hb; have := hE.size; omega, (I.lt b z hb).2⟩) ?_ (fun b hb => by cases hb) List.nodup_nil ⟨fun b hb hM => ?_, I.org.St, I.org.St'⟩, ⟨fun w2 hc => ⟨fun b hb ha o n cs hn h1 => ?_, fun i b hb => ?_⟩, fun w2 hc i b hb => ?_⟩⟩
  · refine ⟨hE.os.trans I.ext.os, hE.tape.trans I.ext.tape, hE.output.trans I.ext.output, by have := I.ext.size; have := hE.size; omega, fun b hb hM => ?_⟩
    rw [hE.block b (by have := I.ext.size; omega) (by simp)]
    exact I.ext.block b hb hM
  · rw [(hk b (by have := I.ext.size; omega)).2]
    exact I.org.F b hb hM
  · refine hc.1 b (by have := hE.size; omega) ha o n cs (by rw [(hk b hb).2]; exact hn) ?_
    rw [cellsAt_congr (hE.block b hb (by simp))]; exact h1
  · rw [hc.2 i b hb]
    exact hE.block b (hlt b _ hb) (by simp)
  · rw [hc i b hb]
    exact hE.block b (hlt b _ hb) (by simp)

theorem call_look {g : FuncId} {sig : Sig R} (hs : Sound P g sig) (I : Inv W0 M σ a w G []) (hm : sig.modes.all Mode.isLook = true) {os : List Operand} {cvs : List TVal} {us : List Value} (hul : us.length = cvs.length)
    (hus : ∀ i (h : i < cvs.length), SPtr w (topF w G.F) (Old w) (Old w) cvs[i].τ cvs[i].x (us.getD i undef)) {k : TV → State → Option R} (h : callR sig os cvs σ k = some r) :
    Calls P g (os.map a.eval ++ us).toArray w fun e w' => ∃ res G' fs vs, e = .returned (retVal vs) ∧ k (retTV res) σ = some r ∧ Inv W0 M σ a w' G' (fs.flatten ++ []) ∧ OutRel w' G' res vs fs ∧ Calmer w G w' G' := by
  unfold callR at h
  split at h
  · rename_i vals hvals
    split at h
    · rename_i hcap
      obtain ⟨q1, q2⟩ := argsR_rel I _ _ _ hvals
      have q3 := argsR_caps (w := w) (F := topF w G.F) (St := Old w) _ _ us hcap hul hus
      have hlook : (sig.modes.take os.length).all Mode.isLook = true := List.all_eq_true.2 fun m hmm => List.all_eq_true.1 hm m (List.mem_of_mem_take hmm)
      have hA := argsRel_append q3 _ _ _ _ hlook q1
      rw [List.take_append_drop, ← List.map_append] at hA
      have hfl : ((vals ++ cvs).map fun _ => ([] : List Nat)).flatten = [] := nils_flatten _
      generalize ((vals ++ cvs).map fun _ => ([] : List Nat)) = fps at hA hfl
      refine (hs.2 _ [] _ r h w (topF w G.F) (Old w) _ [] _ [] hA trivial (by simp [hfl]) (fun b hb => ⟨hb, by simp [hfl]⟩) (by simp [hfl])).mono fun e w' => ?_
      rintro ⟨v, res, ios, ext', rfl, hk, ⟨hty, _, _⟩, hexn, F', St', vs, rfps, efps', ⟨rfl, hil, hvl⟩, hres, hbox, hE, hF, hS1, hS2, hndr, hR⟩
      rw [ioArgs_look _ _ hm] at hil hres
      have hios : ios = [] := List.length_eq_zero_iff.1 hil
      subst hios
      rw [List.append_nil, List.append_nil] at hres
      obtain ⟨rfl, rfl⟩ := BoxesRel.nils hbox
      simp only [hfl, List.flatten_nil, List.append_nil] at hE
      simp only [List.isEmpty_nil, Bool.true_and] at hk
      rw [ite_some] at hk
      obtain ⟨hlf, hk⟩ := hk
      obtain ⟨G', I', hC⟩ := I.newer (F' := F') hE
      obtain ⟨e1, e2⟩ := res_leafless (G' := G') res vs rfps hres fun v hv => by
        have := List.all_eq_true.1 hlf v hv
        simpa using this
      refine ⟨res, G', rfps, vs, rfl, ?_, by rw [e1]; exact I', e2, hC⟩
      match res, hk with
      | [], hk => exact hk
      | [_], hk => exact hk
      | _ :: _ :: _, hk => exact hk
    · cases h
  · cases h

theorem splitV_rel {F : Nat → Nat} {St Al : Nat → Prop} : (τs : List Ty) → (τ : Ty) → (x : El τ) → (us : List Value) → (vs : List TVal) → splitV τs τ x = some vs → SPs w F St Al τs τ x us →
    us.length = vs.length ∧ ∀ i (h : i < vs.length), SPtr w F St Al vs[i].τ vs[i].x (us.getD i undef)
  | [], _, _, us, vs, h, hs => by
    simp only [splitV, Option.some.injEq] at h
    subst h
    have : us = [] := hs
    subst this
    exact ⟨rfl, fun i h => by simp at h⟩
  | [τ'], τ, x, us, vs, h, hs => by
    simp only [splitV] at h
    split at h
    · cases h
      obtain ⟨_, u, rfl, h2⟩ := hs
      refine ⟨rfl, fun i hi => ?_⟩
      cases i with
      | zero => exact h2
      | succ i => simp at hi
    · cases h
  | τ' :: τ'' :: τs, .pair a b, x, us, vs, h, hs => by
    simp only [splitV] at h
    split at h
    · obtain ⟨l, hl, rfl⟩ := Option.map_eq_some_iff.1 h
      obtain ⟨_, u, us', rfl, h2, h3⟩ := hs
      obtain ⟨i1, i2⟩ := splitV_rel (τ'' :: τs) b x.2 us' l hl h3
      refine ⟨by simp [i1], fun i hi => ?_⟩
      cases i with
      | zero => exact h2
      | succ i => exact i2 i (by simpa using hi)
    · cases h
  | _ :: _ :: _, .int _, _, _, _, _, h => h.elim
  | _ :: _ :: _, .bool, _, _, _, _, h => h.elim
  | _ :: _ :: _, .str, _, _, _, _, h => h.elim
  | _ :: _ :: _, .unit, _, _, _, _, h => h.elim
  | _ :: _ :: _, .slice _, _, _, _, _, h => h.elim
end
end Go.PI
namespace Go.PI

theorem nil_rp {w : World} {F : Nat → Nat} {St Al : Nat → Prop} : {τ : Ty} → {tg : List Tag} → {cs : List Value} → {x : El τ} → {fp : List Nat} → Rp w F St Al τ tg cs x fp → nilB τ x = true → Rp w F St Al τ (List.replicate (leaves τ) .S) cs x []
  | .int _, _, _, _, _, h, _ => ⟨h.1, rfl, rfl⟩
  | .bool, _, _, _, _, h, _ => ⟨h.1, rfl, rfl⟩
  | .str, _, _, _, _, h, _ => ⟨h.1, rfl, rfl⟩
  | .unit, _, _, _, _, h, _ => ⟨h.1, rfl, rfl⟩
  | .slice e, _, _, x, _, h, hn => by
    obtain ⟨t, a, cap, rfl, rfl, hlc, _⟩ := h
    have hx : x = ([] : List (El e)) := List.isEmpty_iff.1 hn
    exact ⟨.S, a, cap, rfl, rfl, hlc, .inr (.inr ⟨rfl, rfl, .inl hx⟩)⟩
  | .pair a b, _, _, _, _, h, hn => by
    obtain ⟨t1, t2, c1, c2, f1, f2, rfl, rfl, rfl, h1, h2⟩ := h
    simp only [nilB, Bool.and_eq_true] at hn
    exact ⟨_, _, c1, c2, [], [], by simp [leaves], rfl, rfl, nil_rp h1 hn.1, nil_rp h2 hn.2⟩

section
variable {W0 : Base} {M : Nat → Prop} {σ : State} {a : Act} {w : World} {G : Ghost} {xs : List Nat}

theorem renil_box (σ : State) (i : Nat) : σ.renil.boxAt i = nilBox (σ.boxAt i) := getN_map _ rfl _ _
theorem Sim.fb (G : Ghost) (fb : Nat → List Nat) : Sim G { G with fb := fb } := ⟨rfl, rfl, rfl, rfl, fun _ _ => Iff.rfl⟩
theorem nilBox_some {b : Option TVal} {v : TVal} (h : nilBox b = some v) : ∃ u, b = some u ∧ (v = u ∨ (nilB u.τ u.x = true ∧ v = { u with tg := u.tg.map fun _ => .S })) := by
  cases b with
  | none => cases h
  | some u =>
    simp only [nilBox] at h
    cases hn : u.noN
    · cases hb : nilB u.τ u.x
      · rw [hn, hb] at h; cases h; exact ⟨_, rfl, .inl rfl⟩
      · rw [hn, hb] at h; cases h; exact ⟨_, rfl, .inr ⟨hb, rfl⟩⟩
    · rw [hn] at h; cases h; exact ⟨_, rfl, .inl rfl⟩
theorem renil_ct (σ : State) (p : Place) : σ.renil.ct p = σ.ct p := by
  obtain ⟨box, root, path⟩ := p
  cases box with
  | true =>
    simp only [State.ct, State.content]
    rw [renil_box]
    cases σ.boxAt root with
    | none => rfl
    | some u =>
      simp only [nilBox]
      cases u.noN
      · cases nilB u.τ u.x <;> rfl
      · rfl
  | false => rfl
theorem Inv.renil (I : Inv W0 M σ a w G xs) : ∃ fb, Inv W0 M σ.renil a w { G with fb := fb } xs := by
  classical
  have hL : Less σ σ.renil := fun p => .inl (renil_ct σ p)
  refine ⟨fun i => if σ.renil.boxAt i = σ.boxAt i then G.fb i else [], ⟨I.defers, I.len, fun i hi => ?_, fun i v hv => ?_, I.whoS, fun i b hm => ?_, I.whoX, I.nodS, fun i => ?_, I.nodX, I.st, I.lt, I.ext, I.adx, ⟨I.org.F, I.org.St, I.org.St'⟩, I.pin⟩⟩
  · have h : SlotRel σ G a w (σ.slot i) (a.tmps.getD i undef) (G.fs i) := I.slot i hi
    exact SlotRel.ghost rfl rfl (fun _ => rfl) rfl (h.less hL)
  · by_cases he : σ.renil.boxAt i = σ.boxAt i
    · have h : (∃ c T, w.heap[G.ad i]? = some (.cells c T (0, 0)) ∧ Rp w G.F G.St G.Al v.τ v.tg c.toList v.x (G.fb i)) ∧ G.who (G.ad i) = some (.a i) := I.box i v (he ▸ hv)
      simp only [he, if_true]
      exact h
    · rw [renil_box] at hv
      obtain ⟨u, hu, h⟩ := nilBox_some hv
      rcases h with rfl | ⟨hn, rfl⟩
      · exact absurd (by rw [renil_box, hv, hu]) he
      · obtain ⟨⟨c, T, hc, hR⟩, hw⟩ := I.box i u hu
        simp only [he, if_false]
        refine ⟨⟨c, T, hc, ?_⟩, hw⟩
        have := nil_rp hR hn
        have e : (u.tg.map fun _ => Tag.S) = List.replicate (leaves u.τ) .S := by
          rw [← hR.len.2, List.map_const']
        rw [e]
        exact this
  · simp only [] at hm
    split at hm
    · exact I.whoC i b hm
    · simp at hm
  · simp only []
    split
    · exact I.nodC i
    · simp
theorem boxesAt_renil : (rs : List Nat) → (l : List TVal) → σ.boxesAt rs = some l → (∀ v ∈ l, v.noN = true) → σ.renil.boxesAt rs = some l
  | [], l, h, _ => h
  | x :: rs, l, h, hn => by
    simp only [State.boxesAt] at h ⊢
    split at h
    · rename_i v l' hv hl'
      cases h
      rw [renil_box, hv, boxesAt_renil rs l' hl' fun u hu => hn u (List.mem_cons_of_mem _ hu)]
      simp [nilBox, hn v (by simp)]
    · cases h
end
end Go.PI
namespace Go.PI

section
variable {W0 : Base} {M : Nat → Prop} {σ : State} {a : Act} {w w' : World} {G : Ghost} {P : Program} {R : Type} {Γ : Env R} {r : R}

theorem argsC_borrow : (ms : List Mode) → (os : List Operand) → (σ : State) → (A : Args) → (k : Args → State → Option R) → ms.all Mode.isBorrow = true → argsC ms os σ A k = some r →
    argsC ms os σ A (fun A' σ' => if A'.writes = A.writes then k A' σ' else none) = some r
  | [], [], σ, A, k, _, h => by simpa [argsC] using h
  | [], _ :: _, σ, A, k, _, h => by simp [argsC] at h
  | .borrow τ ag :: ms, [], σ, A, k, _, h => by simp [argsC] at h
  | .borrow τ ag :: ms, o :: os, σ, A, k, hb, h => by
    simp only [argsC] at h ⊢
    have hb' : ms.all Mode.isBorrow = true := by simpa [Mode.isBorrow] using hb
    split at h
    · split at h
      · rename_i hc
        rw [if_pos hc]
        exact argsC_borrow ms os _ _ k hb' h
      · cases h
    · split at h
      · split at h
        · rename_i hc
          rw [if_pos hc]
          exact argsC_borrow ms os _ _ k hb' h
        · cases h
      · cases h
  | .consume τ ag :: ms, os, σ, A, k, hb, h => by simp [Mode.isBorrow] at hb
  | .eat τ ag :: ms, os, σ, A, k, hb, h => by simp [Mode.isBorrow] at hb
  | .inout τ ag :: ms, os, σ, A, k, hb, h => by simp [Mode.isBorrow] at hb
  | .look τ ag :: ms, os, σ, A, k, hb, h => by simp [Mode.isBorrow] at hb
  | .rptr τ :: ms, os, σ, A, k, hb, h => by simp [Mode.isBorrow] at hb
  | .rclos g τs :: ms, os, σ, A, k, hb, h => by simp [Mode.isBorrow] at hb
  | .ptr τ :: ms, os, σ, A, k, hb, h => by simp [Mode.isBorrow] at hb
  | .clos f τs :: ms, os, σ, A, k, hb, h => by simp [Mode.isBorrow] at hb

theorem argsC_half : (ms : List Mode) → (os : List Operand) → (σ : State) → (A : Args) → (k : Args → State → Option R) → ms.all Mode.noLend = true → argsC ms os σ A k = some r →
    argsC ms os σ A (fun A' σ' => if A'.lent = A.lent then k A' σ' else none) = some r
  | [], [], σ, A, k, _, h => by simpa [argsC] using h
  | [], _ :: _, σ, A, k, _, h => by simp [argsC] at h
  | .borrow τ ag :: ms, [], σ, A, k, _, h => by simp [argsC] at h
  | .borrow τ ag :: ms, o :: os, σ, A, k, hb, h => by
    simp only [argsC] at h ⊢
    have hb' : ms.all Mode.noLend = true := by simpa [Mode.noLend] using hb
    split at h
    · split at h
      · rename_i hc
        rw [if_pos hc]
        exact argsC_half ms os _ _ k hb' h
      · cases h
    · split at h
      · split at h
        · rename_i hc
          rw [if_pos hc]
          exact argsC_half ms os _ _ k hb' h
        · cases h
      · cases h
  | .consume τ ag :: ms, [], σ, A, k, hb, h => by simp [argsC] at h
  | .consume τ ag :: ms, o :: os, σ, A, k, hb, h => by
    simp only [argsC] at h ⊢
    have hb' : ms.all Mode.noLend = true := by simpa [Mode.noLend] using hb
    split at h
    · split at h
      · rename_i hc
        rw [if_pos hc]
        exact argsC_half ms os _ _ k hb' h
      · cases h
    · cases h
  | .eat τ ag :: ms, [], σ, A, k, hb, h => by simp [argsC] at h
  | .eat τ ag :: ms, o :: os, σ, A, k, hb, h => by
    simp only [argsC] at h ⊢
    have hb' : ms.all Mode.noLend = true := by simpa [Mode.noLend] using hb
    split at h
    · split at h
      · rename_i hc
        rw [if_pos hc]
        exact argsC_half ms os _ _ k hb' h
      · cases h
    · cases h
  | .inout τ ag :: ms, os, σ, A, k, hb, h => by simp [Mode.noLend] at hb
  | .look τ ag :: ms, os, σ, A, k, hb, h => by simp [Mode.noLend] at hb
  | .rptr τ :: ms, os, σ, A, k, hb, h => by simp [Mode.noLend] at hb
  | .rclos g τs :: ms, os, σ, A, k, hb, h => by simp [Mode.noLend] at hb
  | .ptr τ :: ms, os, σ, A, k, hb, h => by simp [Mode.noLend] at hb
  | .clos f τs :: ms, os, σ, A, k, hb, h => by simp [Mode.noLend] at hb

theorem call_reads {g : FuncId} {sig : Sig R} (hs : Sound P g sig) {vals : List TVal} {fps : List (List Nat)} {args : List Value}
    {kk : List TVal → List TVal → List TVal → Option R} (I : Inv W0 M σ a w G []) (hargs : ArgC w G sig.modes args vals fps []) (hf0 : fps.flatten = []) (hrd : sig.modes.all Mode.reads = true)
    (hrun : sig.run vals [] kk = some r) :
    Calls P g args.toArray w fun e w' => ∃ v res G' fs, e = .returned v ∧ kk res [] [] = some r ∧ Inv W0 M σ a w' G' (fs.flatten ++ []) ∧ Calmer w G w' G' ∧
      ∃ vs, v = retVal vs ∧ OutRel w' G' (res.map (TVal.back (vals.all TVal.noN))) vs fs := by
  have hlt : ∀ b, G.Al b → b < w.heap.size := fun b hb => by
    cases hz : G.who b with
    | none => exact (I.st b (hb.2 hz)).2
    | some z => exact (I.lt b z hz).1
  have main : ∀ (Sc : Nat → Prop), (∀ b, G.St b → Sc b) → (∀ b, Sc b → G.Al b) → ArgsRel w G.F Sc sig.modes vals args fps [] →
      Calls P g args.toArray w fun e w' => ∃ v res G' fs F' St' vs, e = .returned v ∧ kk res [] [] = some r ∧ Inv W0 M σ a w' G' (fs.flatten ++ []) ∧ Calmer w G w' G' ∧
        v = retVal vs ∧ ResRel w' F' St' res vs fs ∧ G'.F = F' ∧ (∀ b, St' b → G'.Al b) ∧ ((∀ b, Sc b → G.St b) → ∀ b, St' b → G'.St b) ∧ (∀ b ∈ fs.flatten, G'.Al b) := by
    intro Sc hc1 hc2 hA
    refine (hs.2 vals [] kk r hrun w G.F Sc args [] fps [] hA trivial (by simp [hf0]) (fun b hb => ⟨hlt b (hc2 b hb), by simp [hf0]⟩) (by simp [hf0])).mono fun e w' => ?_
    rintro ⟨v, res, ios, ext', rfl, hk, ⟨hty, _, _⟩, hexn, F', St', vs, rfps, efps', ⟨rfl, hil, _⟩, hres, hbox, hE, hF, hS1, hS2, hndr, hR⟩
    rw [ArgC.noIo _ _ _ _ _ hargs] at hil hres
    have hios : ios = [] := List.length_eq_zero_iff.1 hil
    subst hios
    rw [List.append_nil, List.append_nil] at hres
    obtain ⟨rfl, rfl⟩ := BoxesRel.nils hbox
    simp only [hf0, List.flatten_nil, List.append_nil, List.nil_append] at hE hF hS2 hndr hR
    obtain ⟨G4, I4, gF, gad, gS, gA, gSs, gR, gads, gC, _⟩ := after_call (R := rfps.flatten) (ads := []) (gs := []) (ks := []) I (by simp) (.inr rfl) (Sc := Sc) hc1 hc2 (by simpa using hE) (fun b hb hm => hF b hb (by simp)) hS1
      (fun b hb => by simpa using hS2 b hb) (by simpa using hndr) (fun b hb => by simpa using hR b (by simpa using hb))
    exact ⟨_, res, G4, rfps, F', St', vs, rfl, hk, by simpa using I4, gC rfl, rfl, hres, gF, gA, gSs, gR⟩
  by_cases hn : vals.all TVal.noN = true
  · refine (main G.St (fun _ h => h) (Ghost.St_Al I) ?_).mono fun e w' => ?_
    · exact args_noN I _ _ _ _ [] hargs (by simpa [List.all_eq_true] using hn) (by intro q hq; cases hq)
    · rintro ⟨v, res, G', fs, F', St', vs, he, hk, I', hC, hv, hres, gF, gA, gS, gR⟩
      refine ⟨v, res, G', fs, he, hk, I', hC, vs, hv, ?_⟩
      rw [hn, back_true]
      exact res_stable gF (gS fun _ h => h) res vs fs hres gR
  · refine (main G.Al (Ghost.St_Al I) (fun _ h => h) ?_).mono fun e w' => ?_
    · exact args_reads I _ _ _ _ [] hargs hrd (by intro q hq; cases hq)
    · rintro ⟨v, res, G', fs, F', St', vs, he, hk, I', hC, hv, hres, gF, gA, gS, gR⟩
      refine ⟨v, res, G', fs, he, hk, I', hC, vs, hv, ?_⟩
      have : vals.all TVal.noN = false := by simpa using hn
      rw [this]
      exact res_unstable gF gA res vs fs hres gR

theorem zip_fst {α β : Type} (l : List α) (m : List β) (h : l.length = m.length) : (l.zip m).map (·.1) = l := List.map_fst_zip (by omega)
theorem zip_snd {α β : Type} (l : List α) (m : List β) (h : l.length = m.length) : (l.zip m).map (·.2) = m := List.map_snd_zip (by omega)

theorem ret_case (res : List TVal) (k : TV → State → Option R) (σ4 : State) : (match res with
    | [] => k .dead σ4
    | [r] => k (.val r) σ4
    | rs => k (.tup (tupOf rs) (rs.map (·.ag))) σ4) = k (retTV res) σ4 := by
  match res with
  | [] => rfl
  | [r] => rfl
  | _ :: _ :: _ => rfl

theorem calls_ok (hS : ∀ g sig, assoc Γ.fns g = some sig → Sound P g sig) : CallsOk P Γ := by
  intro W0 M σ a w G o c f k r K Q I hop hcal h hK
  rw [hop] at h
  simp only [hardC, hcal] at h
  split at h
  · rename_i g ps hpk
    split at h
    · rename_i sig hsig
      have hs := hS g sig hsig
      obtain ⟨fn, cd, hf1, hf2, hf3⟩ := hs.1
      have hpe := peek_rel I f (by rw [hpk]; intro v ags hh; cases hh)
      rw [hpk] at hpe
      obtain ⟨_, us, hev, husz, hus⟩ := hpe
      have hrunc := run_call (P := P) (a := a) (w := w) hop hcal hev hf1 hf2 hf3
      split at h
      · rename_i hlook
        simp only [Bool.and_eq_true] at hlook
        split at h
        · rename_i cvs hcv
          obtain ⟨j1, _, j3⟩ := placesVal_rel I ps us.toList cvs hcv (by simpa using husz) (fun i hi => by
            have := (hus i hi).2.2
            rwa [Array.getD_eq_getD_getElem?, ← Array.getElem?_toList, ← List.getD_eq_getElem?_getD] at this)
          have hargs : (c.args.map a.eval ++ us) = (c.args.toList.map a.eval ++ us.toList).toArray := by
            apply Array.ext'
            simp
          unfold Oper.wp
          rw [hrunc, hargs, Oper.upon_enter]
          refine (call_look hs I hlook.1 (by rw [j1]; simpa using husz) j3 h).mono fun e w' => ?_
          rintro ⟨res, G', fs, vs, rfl, hk, I', ho, hC⟩
          exact hK _ _ _ _ _ _ hk I' (ret_rel _ vs fs ho) hC.all
        · cases h
      rename_i hnl
      have hnl' : (sig.modes.all Mode.isSee && !sig.modes.isEmpty) = false := by
        cases hx : (sig.modes.all Mode.isSee && !sig.modes.isEmpty) with
        | false => rfl
        | true =>
          rw [Bool.and_eq_true] at hx
          refine absurd ?_ hnl
          rw [Bool.and_eq_true]
          refine ⟨List.all_eq_true.2 fun m hm => ?_, hx.2⟩
          have := List.all_eq_true.1 hx.1 m hm
          cases m <;> first | rfl | cases this
      have hcases : (∃ τ ag ms o1 os, sig.modes = .inout τ ag :: ms ∧ c.args.toList = o1 :: os ∧ ps = [] ∧ callIo sig τ ag ms o1 os σ k = some r) ∨ callC sig c.args.toList ps σ k = some r := by
        clear husz hus hpk
        split at h
        · rename_i τ ag ms o1 os e1 e2
          exact .inl ⟨τ, ag, ms, o1, os, e1, e2, rfl, h⟩
        · exact .inr h
      clear h
      rcases hcases with ⟨τ, ag, ms, o1, os, e1, e2, rfl, h⟩ | h
      · have hnt : ¬ tameB Γ o.op = true := by
          intro ht
          rw [hop] at ht
          simp only [tameB, hcal] at ht
          cases f with
          | func fg =>
            simp only [State.peek, TV.clos.injEq] at hpk
            obtain ⟨rfl, _⟩ := hpk
            simp only [hsig, hnl', Bool.or_false] at ht
            rw [e1] at ht
            simp [Mode.isBorrow] at ht
          | _ => simp at ht
        have hnh : ¬ halfB Γ o.op = true := by
          intro ht
          rw [hop] at ht
          simp only [halfB, hcal] at ht
          cases f with
          | func fg =>
            simp only [State.peek, TV.clos.injEq] at hpk
            obtain ⟨rfl, _⟩ := hpk
            simp only [hsig, hnl', Bool.or_false] at ht
            rw [e1] at ht
            simp [Mode.noLend] at ht
          | _ => simp at ht
        have hus0 : us = #[] := Array.eq_empty_of_size_eq_zero (by rw [husz]; rfl)
        have hargs : (c.args.map a.eval ++ us) = ((o1 :: os).map a.eval).toArray := by
          apply Array.ext'
          rw [hus0]
          simp [e2]
        unfold Oper.wp
        rw [hrunc, hargs, Oper.upon_enter]
        refine (call_io hs I e1 h).mono fun e w' => ?_
        rintro ⟨res, σ', G', fs, vs, rfl, hk, I', ho⟩
        exact hK _ _ _ _ _ _ hk I' (ret_rel _ vs fs ho) ⟨fun ht => absurd ht hnt, fun ht => absurd ht hnh⟩
      unfold callC at h
      split at h
      · rename_i hc
        simp only [Bool.and_eq_true, beq_iff_eq] at hc
        obtain ⟨⟨hl', hip⟩, hwh⟩ := hc
        -- whether it is all borrow
        have htame : tameB Γ o.op = true → sig.modes.all Mode.isBorrow = true ∧ ps = [] := by
          intro ht
          rw [hop] at ht
          simp only [tameB, hcal] at ht
          cases f with
          | func fg =>
            simp only [State.peek, TV.clos.injEq] at hpk
            obtain ⟨rfl, rfl⟩ := hpk
            simp only [hsig, hnl', Bool.or_false] at ht
            exact ⟨ht, rfl⟩
          | _ => simp at ht
        have hhalf : halfB Γ o.op = true → sig.modes.all Mode.noLend = true ∧ ps = [] := by
          intro ht
          rw [hop] at ht
          simp only [halfB, hcal] at ht
          cases f with
          | func fg =>
            simp only [State.peek, TV.clos.injEq] at hpk
            obtain ⟨rfl, rfl⟩ := hpk
            simp only [hsig, hnl', Bool.or_false] at ht
            exact ⟨ht, rfl⟩
          | _ => simp at ht
        let kk : Args → State → Option R := fun A σ1 =>
          let lent := A.lent ++ ps.map (·.root)
          if nodupB lent && (!A.writes || A.vals.all fun v => v.noN) then
            match σ1.boxesAt lent with
            | some ext => if ext.all TVal.noN then sig.run A.vals ext fun res ios ext' =>
                let stable := A.writes || A.vals.all TVal.noN
                let σ2 := if A.writes then σ1.renil.kill else σ1
                let σ4 := σ2.putBoxes lent ext'
                if ios.isEmpty then
                  (match res.map (TVal.back stable) with
                   | [] => k .dead σ4
                   | [r] => k (.val r) σ4
                   | rs => k (.tup (tupOf rs) (rs.map (·.ag))) σ4) else none
              else none
            | none => none
          else none
        have h : argsC (sig.modes.take c.args.toList.length) c.args.toList σ ⟨[], [], !ps.isEmpty⟩ kk = some r := h
        have h : argsC (sig.modes.take c.args.toList.length) c.args.toList σ ⟨[], [], !ps.isEmpty⟩ (fun A σ1 => if tameB Γ o.op = true → A.writes = false then kk A σ1 else none) = some r := by
          by_cases ht : tameB Γ o.op = true
          · obtain ⟨hb1, hb2⟩ := htame ht
            have := argsC_borrow _ _ _ _ _ (List.all_eq_true.2 fun m hm => List.all_eq_true.1 hb1 m (List.mem_of_mem_take hm)) h
            subst hb2
            simpa [ht] using this
          · simpa [ht] using h
        have h : argsC (sig.modes.take c.args.toList.length) c.args.toList σ ⟨[], [], !ps.isEmpty⟩ (fun A σ1 => if halfB Γ o.op = true → A.lent = [] then (if tameB Γ o.op = true → A.writes = false then kk A σ1 else none) else none) = some r := by
          by_cases ht : halfB Γ o.op = true
          · obtain ⟨hb1, hb2⟩ := hhalf ht
            have := argsC_half _ _ _ _ _ (List.all_eq_true.2 fun m hm => List.all_eq_true.1 hb1 m (List.mem_of_mem_take hm)) h
            subst hb2
            simpa [ht] using this
          · simpa [ht] using h
        obtain ⟨vs, fps, ls, A, σ1, G1, h1, h2, h3, h4, I1, hup, hct, hlen, hAr, hpt⟩ := argsC_rel _ _ _ _ _ _ _ h I
        split at h1
        rotate_left
        · cases h1
        rename_i hhw
        split at h1
        · rename_i htw
          have h2 : A.vals = vs := by simpa using h2
          have h3 : A.lent = ls.map (·.1) := by simpa using h3
          let ls' : List (Nat × Value) := (ps.map (·.root)).zip us.toList
          have hl1 : ls'.map (·.1) = ps.map (·.root) := zip_fst _ _ (by simp [husz])
          have hl2 : ls'.map (·.2) = us.toList := zip_snd _ _ (by simp [husz])
          have hll : ls'.length = ps.length := by simp [ls', husz]
          have hAr' := ArgC.append_ptr hip (by rw [hl', hll]) _ _ _ _ _ hAr
          rw [List.take_append_drop, hl2] at hAr'
          have hlent : A.lent ++ ps.map (·.root) = (ls ++ ls').map (·.1) := by rw [h3, List.map_append, hl1]
          have hpt' : ∀ q ∈ ls ++ ls', PtrRel σ G a w ⟨true, q.1, []⟩ q.2 := by
            intro q hq
            rcases List.mem_append.1 hq with hq | hq
            · exact hpt q hq
            · obtain ⟨i, hi, rfl⟩ := List.mem_iff_getElem.1 hq
              have hips : i < ps.length := by omega
              obtain ⟨q1, q2, q3⟩ := hus i hips
              have hw := List.all_eq_true.1 hwh ps[i] (List.getElem_mem _)
              simp only [Place.whole, Bool.and_eq_true, List.isEmpty_iff] at hw
              have hq1 : ls'[i].1 = ps[i].root := by simp [ls']
              have hq2 : ls'[i].2 = us.getD i undef := by
                have : i < us.size := by rw [husz]; exact hips
                simp [ls', this]
              rw [hq1, hq2]
              have : ps[i] = ⟨true, ps[i].root, []⟩ := by
                have e1 := hw.1
                have e2 := hw.2
                cases hpi : ps[i] with
                | mk b r p => rw [hpi] at e1 e2; simp only at e1 e2; subst e1; subst e2; rfl
              rw [this] at q3
              exact q3
          have hargs : (c.args.map a.eval ++ us) = (c.args.toList.map a.eval ++ us.toList).toArray := by
            apply Array.ext'
            simp
          simp only [kk] at h1
          rw [hlent, h2] at h1
          split at h1
          · rename_i hcc
            simp only [Bool.and_eq_true, Bool.or_eq_true, Bool.not_eq_true'] at hcc
            obtain ⟨hnd, hwn⟩ := hcc
            split at h1
            · rename_i ext hext
              split at h1
              · rename_i hexn
                have hlp : LentPtr G1 (ls ++ ls') := by
                  intro q hq
                  have hq1 : q.1 ∈ (ls ++ ls').map (·.1) := List.mem_map_of_mem hq
                  obtain ⟨v, hv⟩ := boxesAt_live _ _ hext q.1 hq1
                  exact whole_ptr I1 ((hpt' q hq).sim hct hup.ad) hv
                unfold Oper.wp
                rw [hrunc, hargs, Oper.upon_enter]
                cases hwr : A.writes with
                | true =>
                  have hnt : ¬ tameB Γ o.op = true := fun ht => by
                    have := htw ht
                    rw [hwr] at this; cases this
                  rw [hwr] at h1 hwn
                  simp only [Bool.true_eq_false, false_or, Bool.true_or, if_true] at h1 hwn
                  have I1' : Inv W0 M σ1 a w G1 fps.flatten := by simpa using I1
                  obtain ⟨fb, I2⟩ := I1'.renil
                  have hsb := Sim.fb G1 fb
                  refine (call_writes hs I2 (ArgC.up hsb.up _ _ _ _ _ hAr') (by simpa [List.all_eq_true] using hwn) (fun q hq => hlp q hq) (nodupB_iff _ hnd) (boxesAt_renil _ _ hext (by simpa [List.all_eq_true] using hexn)) (by simpa [List.all_eq_true] using hexn) h1).mono fun e w' => ?_
                  rintro ⟨v, res, ext', G', fs, rfl, hk, I', ⟨vs', rfl, hout⟩, hBc⟩
                  simp only [List.isEmpty_nil, if_true] at hk
                  rw [ret_case, back_true] at hk
                  refine hK _ _ _ _ _ _ hk I' (ret_rel res vs' fs hout) ⟨fun ht => absurd ht hnt, fun ht => ?_⟩
                  have hl0 : ls ++ ls' = [] := by
                    have e1 := hhw ht
                    rw [h3] at e1
                    have e2 : ls' = [] := by
                      have := (hhalf ht).2
                      subst this
                      simpa using hll
                    rw [e2, List.append_nil]
                    exact List.map_eq_nil_iff.1 e1
                  exact fun w2 hc2 => (hup.trans hsb.up).calmer.b w2 (hBc hl0 w2 hc2)
                | false =>
                  rw [hwr] at h1
                  simp only [Bool.false_or, Bool.false_eq_true, if_false] at h1
                  obtain ⟨p1, p2, p3, p4⟩ := h4 hwr
                  have hps : ps = [] := by simpa using p1
                  subst hps
                  subst p3
                  have hls' : ls' = [] := by simpa using hll
                  rw [hls'] at hAr' h1 hext
                  simp only [List.append_nil, List.map_nil, State.boxesAt, Option.some.injEq] at hAr' hext h1
                  subst hext
                  have hmod : sig.modes.all Mode.reads = true := by
                    have hd : sig.modes.drop c.args.toList.length = [] := List.length_eq_zero_iff.1 (by simpa using hl')
                    rw [← List.take_append_drop c.args.toList.length sig.modes, hd, List.append_nil]
                    exact p4
                  have I1' : Inv W0 M σ1 a w G1 [] := by simpa [p2] using I1
                  refine (call_reads hs I1' hAr' p2 hmod h1).mono fun e w' => ?_
                  rintro ⟨v, res, G', fs, rfl, hk, I', hC, vs', rfl, hout⟩
                  simp only [List.isEmpty_nil, if_true] at hk
                  rw [ret_case] at hk
                  have hpb : σ1.putBoxes [] [] = σ1 := rfl
                  rw [hpb] at hk
                  exact hK _ _ _ _ _ _ hk I' (ret_rel _ vs' fs hout) ⟨fun _ => hup.calmer.trans hC, fun _ => (hup.calmer.trans hC).b⟩
              · cases h1
            · cases h1
          · cases h1
        · cases h1
      · cases h
    · cases h
  · rename_i g τs u hpk
    split at h
    · rename_i sig cvs hsig hsv
      split at h
      · rename_i hlook
        simp only [Bool.and_eq_true] at hlook
        have hs := hS g sig hsig
        obtain ⟨fn, cd, hf1, hf2, hf3⟩ := hs.1
        have hpe := peek_rel I f (by rw [hpk]; intro v ags hh; cases hh)
        rw [hpk] at hpe
        obtain ⟨_, us, hev, hsp⟩ := hpe
        have hrunc := run_call (P := P) (a := a) (w := w) hop hcal hev hf1 hf2 hf3
        have hup : SPs w G.F (Old w) (Old w) τs u.τ u.x us.toList := SPs.pres (fun b hb => (I.st b hb).2) (fun b _ hb => I.Al_old b hb) (fun b _ => KeepB.refl _ _ _) _ _ _ _ hsp
        have hup2 : SPs w (topF w G.F) (Old w) (Old w) τs u.τ u.x us.toList := SPs.pres (fun _ h => h) (fun _ _ h => h) (fun b _ => KeepB.of_block rfl (topF_le _ _ _)) _ _ _ _ hup
        obtain ⟨j1, j3⟩ := splitV_rel _ _ _ _ _ hsv hup2
        have hargs : (c.args.map a.eval ++ us) = (c.args.toList.map a.eval ++ us.toList).toArray := by
          apply Array.ext'
          simp
        unfold Oper.wp
        rw [hrunc, hargs, Oper.upon_enter]
        refine (call_look hs I hlook.1 j1 j3 h).mono fun e w' => ?_
        rintro ⟨res, G', fs, vs, rfl, hk, I', ho, hC⟩
        exact hK _ _ _ _ _ _ hk I' (ret_rel _ vs fs ho) hC.all
      · cases h
    · cases h
  · cases h

end
end Go.PI
namespace Go.PI

def StLe (σ' σ : State) : Prop := σ'.slots.length = σ.slots.length ∧ (∀ i, σ'.slot i = σ.slot i ∨ σ'.slot i = .dead) ∧ ∀ i, σ'.boxAt i = σ.boxAt i ∨ σ'.boxAt i = none

theorem StLe.refl (σ : State) : StLe σ σ := ⟨rfl, fun _ => .inl rfl, fun _ => .inl rfl⟩
theorem forget_le (σ : State) (ks bs : List Nat) : StLe (σ.forget ks bs) σ :=
  ⟨keepSlots_len _ _ _, fun i => getN_keepSlots ks σ.slots 0 i, fun i => getN_keepBoxes bs σ.boxes 0 i⟩

def cutC (n : List Nat × List Nat) (x : List (Nat × List Nat × List Nat)) (r : List Nat × List Nat) : Ex → State → State
  | .normal, σ => σ.forget n.1 n.2
  | .exit j, σ => match assoc x j with
    | some q => σ.forget q.1 q.2
    | none => σ
  | .ret, σ => σ.forget r.1 r.2

theorem cutC_le (n : List Nat × List Nat) (x : List (Nat × List Nat × List Nat)) (r : List Nat × List Nat) (e : Ex) (σ : State) : StLe (cutC n x r e σ) σ := by
  cases e with
  | normal => exact forget_le _ _ _
  | ret => exact forget_le _ _ _
  | exit j =>
    unfold cutC
    simp only []
    split
    · exact forget_le _ _ _
    · exact StLe.refl _

def fillS : Nat → Nat → List (Nat × TV) → List TV
  | 0, _, _ => []
  | n + 1, i, [] => .dead :: fillS n (i + 1) []
  | n + 1, i, (j, v) :: l => bif i == j then v :: fillS n (i + 1) l else .dead :: fillS n (i + 1) ((j, v) :: l)
def fillB : Nat → Nat → List (Nat × TVal) → List (Option TVal)
  | 0, _, _ => []
  | n + 1, i, [] => none :: fillB n (i + 1) []
  | n + 1, i, (j, v) :: l => bif i == j then some v :: fillB n (i + 1) l else none :: fillB n (i + 1) ((j, v) :: l)
def mkS (n m : Nat) (ss : List (Nat × TV)) (bs : List (Nat × TVal)) : State := ⟨fillS n 0 ss, fillB m 0 bs⟩

theorem fillS_len : (n i : Nat) → (l : List (Nat × TV)) → (fillS n i l).length = n
  | 0, _, _ => by simp [fillS]
  | n + 1, i, [] => by simp [fillS, fillS_len n]
  | n + 1, i, (j, v) :: l => by
    unfold fillS
    cases i == j <;> simp [fillS_len n]
theorem fillS_get : (n i : Nat) → (l : List (Nat × TV)) → (q : Nat) → getN .dead (fillS n i l) q = .dead ∨ (i + q, getN .dead (fillS n i l) q) ∈ l
  | 0, _, _, _ => .inl rfl
  | n + 1, i, [], 0 => .inl rfl
  | n + 1, i, [], q + 1 => by
    have := fillS_get n (i + 1) [] q
    rcases this with h | h
    · exact .inl h
    · cases h
  | n + 1, i, (j, v) :: l, 0 => by
    unfold fillS
    cases h : i == j with
    | true => right; simp at h; subst h; simp [getN]
    | false => left; rfl
  | n + 1, i, (j, v) :: l, q + 1 => by
    unfold fillS
    cases h : i == j with
    | true =>
      rcases fillS_get n (i + 1) l q with h2 | h2
      · exact .inl h2
      · right
        rw [show i + (q + 1) = i + 1 + q by omega]
        exact List.mem_cons_of_mem _ h2
    | false =>
      rcases fillS_get n (i + 1) ((j, v) :: l) q with h2 | h2
      · exact .inl h2
      · right
        rw [show i + (q + 1) = i + 1 + q by omega]
        exact h2
theorem fillB_get : (n i : Nat) → (l : List (Nat × TVal)) → (q : Nat) → getN none (fillB n i l) q = none ∨ ∃ v, getN none (fillB n i l) q = some v ∧ (i + q, v) ∈ l
  | 0, _, _, _ => .inl rfl
  | n + 1, i, [], 0 => .inl rfl
  | n + 1, i, [], q + 1 => by
    rcases fillB_get n (i + 1) [] q with h | ⟨v, _, h⟩
    · exact .inl h
    · cases h
  | n + 1, i, (j, v) :: l, 0 => by
    unfold fillB
    cases h : i == j with
    | true => right; simp at h; subst h; exact ⟨v, by simp [getN]⟩
    | false => left; rfl
  | n + 1, i, (j, v) :: l, q + 1 => by
    unfold fillB
    cases h : i == j with
    | true =>
      rcases fillB_get n (i + 1) l q with h2 | ⟨u, h1, h2⟩
      · exact .inl h2
      · right
        refine ⟨u, h1, ?_⟩
        rw [show i + (q + 1) = i + 1 + q by omega]
        exact List.mem_cons_of_mem _ h2
    | false =>
      rcases fillB_get n (i + 1) ((j, v) :: l) q with h2 | ⟨u, h1, h2⟩
      · exact .inl h2
      · right
        refine ⟨u, h1, ?_⟩
        rw [show i + (q + 1) = i + 1 + q by omega]
        exact h2

def SlotsAt (σ : State) : List (Nat × TV) → Prop
  | [] => True
  | (i, v) :: l => σ.slot i = v ∧ SlotsAt σ l
def BoxesAt (σ : State) : List (Nat × TVal) → Prop
  | [] => True
  | (i, v) :: l => σ.boxAt i = some v ∧ BoxesAt σ l
theorem SlotsAt.mem {σ : State} : {l : List (Nat × TV)} → SlotsAt σ l → {i : Nat} → {v : TV} → (i, v) ∈ l → σ.slot i = v
  | (j, u) :: l, h, i, v, hm => by
    rcases List.mem_cons.1 hm with hm | hm
    · cases hm; exact h.1
    · exact SlotsAt.mem h.2 hm
theorem BoxesAt.mem {σ : State} : {l : List (Nat × TVal)} → BoxesAt σ l → {i : Nat} → {v : TVal} → (i, v) ∈ l → σ.boxAt i = some v
  | (j, u) :: l, h, i, v, hm => by
    rcases List.mem_cons.1 hm with hm | hm
    · cases hm; exact h.1
    · exact BoxesAt.mem h.2 hm

theorem mkS_le {σ : State} {n m : Nat} {ss : List (Nat × TV)} {bs : List (Nat × TVal)} (hn : σ.slots.length = n) (hs : SlotsAt σ ss) (hb : BoxesAt σ bs) : StLe (mkS n m ss bs) σ := by
  refine ⟨(fillS_len _ _ _).trans hn.symm, fun i => ?_, fun i => ?_⟩
  · rcases fillS_get n 0 ss i with h | h
    · exact .inr h
    · rw [Nat.zero_add] at h
      exact .inl (hs.mem h).symm
  · rcases fillB_get m 0 bs i with h | ⟨v, h1, h⟩
    · exact .inr h
    · rw [Nat.zero_add] at h
      exact .inl (h1.trans (hb.mem h).symm)

section
variable {R : Type} {r : R}

def rdN (σ : State) (n : Nat) (f : Option R) : Option R := if σ.slots.length = n then f else none
def asV (v : TVal) (τ : Ty) (ag : Bool) (tg : List Tag) (f : El τ → Option R) : Option R :=
  if v.ag = ag ∧ v.tg = tg then (if h : v.τ = τ then f (h ▸ v.x) else none) else none
def rdV (σ : State) (i : Nat) (τ : Ty) (ag : Bool) (tg : List Tag) (f : El τ → Option R) : Option R :=
  match σ.slot i with
  | .val v => asV v τ ag tg f
  | _ => none
def rdU (σ : State) (i : Nat) (τ : Ty) (ag : Bool) (tg : List Tag) (ags : List Bool) (f : El τ → Option R) : Option R :=
  match σ.slot i with
  | .tup v l => if l = ags then asV v τ ag tg f else none
  | _ => none
def rdE (σ : State) (i : Nat) (τ : Ty) (ag : Bool) (tg : List Tag) (t : Tag) (f : El τ → Option R) : Option R :=
  match σ.slot i with
  | .eptr v s => if s = t then asV v τ ag tg f else none
  | _ => none
def rdC (σ : State) (i : Nat) (f : FuncId) (τs : List Ty) (τ : Ty) (tg : List Tag) (k : El τ → Option R) : Option R :=
  match σ.slot i with
  | .sclos g τs' v => if g = f ∧ τs' = τs then asV v τ false tg k else none
  | _ => none
def argB (v : TVal) (τ : Ty) (tg : List Tag) (f : Bool → El τ → Option R) : Option R :=
  if v.tg = tg then (if h : v.τ = τ then f v.ag (h ▸ v.x) else none) else none
def argV (v : TVal) (τ : Ty) (f : El τ → Option R) : Option R := if h : v.τ = τ then f (h ▸ v.x) else none
def rdB (σ : State) (i : Nat) (τ : Ty) (tg : List Tag) (f : Bool → El τ → Option R) : Option R :=
  match σ.boxAt i with
  | some v => argB v τ tg f
  | none => none
def TV.same : TV → TV → Bool
  | .nil, .nil => true
  | .ref p a, .ref q b => decide (p = q ∧ a = b)
  | .ptr p, .ptr q => decide (p = q)
  | .eref p, .eref q => decide (p = q)
  | .clos f ps, .clos g qs => decide (f = g ∧ ps = qs)
  | _, _ => false
def rdT (σ : State) (i : Nat) (p : TV) (f : Option R) : Option R := bif (σ.slot i).same p then f else none

theorem rdN_some {σ : State} {n : Nat} {f : Option R} (h : rdN σ n f = some r) : σ.slots.length = n ∧ f = some r := by
  unfold rdN at h
  split at h
  · rename_i hn; exact ⟨hn, h⟩
  · cases h
theorem asV_some {v : TVal} {τ : Ty} {ag : Bool} {tg : List Tag} {f : El τ → Option R} (h : asV v τ ag tg f = some r) : ∃ x, v = ⟨τ, ag, x, tg⟩ ∧ f x = some r := by
  unfold asV at h
  split at h
  · rename_i hc
    split at h
    · rename_i hτ
      obtain ⟨τ', ag', x, tg'⟩ := v
      obtain ⟨h1, h2⟩ := hc
      simp only at hτ h1 h2
      subst hτ; subst h1; subst h2
      exact ⟨x, rfl, h⟩
    · cases h
  · cases h
theorem rdV_some {σ : State} {i : Nat} {τ : Ty} {ag : Bool} {tg : List Tag} {f : El τ → Option R} (h : rdV σ i τ ag tg f = some r) : ∃ x, σ.slot i = .val ⟨τ, ag, x, tg⟩ ∧ f x = some r := by
  unfold rdV at h
  split at h
  · rename_i v hv
    obtain ⟨x, rfl, hf⟩ := asV_some h
    exact ⟨x, hv, hf⟩
  · cases h
theorem rdU_some {σ : State} {i : Nat} {τ : Ty} {ag : Bool} {tg : List Tag} {ags : List Bool} {f : El τ → Option R} (h : rdU σ i τ ag tg ags f = some r) : ∃ x, σ.slot i = .tup ⟨τ, ag, x, tg⟩ ags ∧ f x = some r := by
  unfold rdU at h
  split at h
  · rename_i v l hv
    split at h
    · rename_i hl
      subst hl
      obtain ⟨x, rfl, hf⟩ := asV_some h
      exact ⟨x, hv, hf⟩
    · cases h
  · cases h
theorem rdE_some {σ : State} {i : Nat} {τ : Ty} {ag : Bool} {tg : List Tag} {t : Tag} {f : El τ → Option R} (h : rdE σ i τ ag tg t f = some r) : ∃ x, σ.slot i = .eptr ⟨τ, ag, x, tg⟩ t ∧ f x = some r := by
  unfold rdE at h
  split at h
  · rename_i v l hv
    split at h
    · rename_i hl
      subst hl
      obtain ⟨x, rfl, hf⟩ := asV_some h
      exact ⟨x, hv, hf⟩
    · cases h
  · cases h
theorem rdC_some {σ : State} {i : Nat} {f : FuncId} {τs : List Ty} {τ : Ty} {tg : List Tag} {k : El τ → Option R} (h : rdC σ i f τs τ tg k = some r) : ∃ x, σ.slot i = .sclos f τs ⟨τ, false, x, tg⟩ ∧ k x = some r := by
  unfold rdC at h
  split at h
  · rename_i g τs' v hv
    split at h
    · rename_i hl
      obtain ⟨rfl, rfl⟩ := hl
      obtain ⟨x, rfl, hf⟩ := asV_some h
      exact ⟨x, hv, hf⟩
    · cases h
  · cases h
theorem argB_some {v : TVal} {τ : Ty} {tg : List Tag} {f : Bool → El τ → Option R} (h : argB v τ tg f = some r) : ∃ a x, v = ⟨τ, a, x, tg⟩ ∧ f a x = some r := by
  unfold argB at h
  split at h
  · rename_i hc
    split at h
    · rename_i hτ
      obtain ⟨τ', ag', x, tg'⟩ := v
      simp only at hτ hc
      subst hτ; subst hc
      exact ⟨ag', x, rfl, h⟩
    · cases h
  · cases h
theorem argV_some {v : TVal} {τ : Ty} {f : El τ → Option R} (h : argV v τ f = some r) : ∃ a x t, v = ⟨τ, a, x, t⟩ ∧ f x = some r := by
  unfold argV at h
  split at h
  · rename_i hτ
    obtain ⟨τ', ag', x, tg'⟩ := v
    simp only at hτ
    subst hτ
    exact ⟨ag', x, tg', rfl, h⟩
  · cases h
theorem rdB_some {σ : State} {i : Nat} {τ : Ty} {tg : List Tag} {f : Bool → El τ → Option R} (h : rdB σ i τ tg f = some r) : ∃ a x, σ.boxAt i = some ⟨τ, a, x, tg⟩ ∧ f a x = some r := by
  unfold rdB at h
  split at h
  · rename_i v hv
    obtain ⟨a, x, rfl, hf⟩ := argB_some h
    exact ⟨a, x, hv, hf⟩
  · cases h
theorem rdT_some {σ : State} {i : Nat} {p : TV} {f : Option R} (h : rdT σ i p f = some r) : σ.slot i = p ∧ f = some r := by
  unfold rdT at h
  rw [cond_eq_ite] at h
  split at h
  · rename_i hc
    refine ⟨?_, h⟩
    cases hs : σ.slot i <;> cases p <;> rw [hs] at hc <;> simp only [TV.same, decide_eq_true_eq, Bool.false_eq_true] at hc <;> simp [hc]
  · cases h
end

section
variable {P : Program} {R : Type} {r : R} {W0 : Base} {M : Nat → Prop}

theorem StLe.inv {σ σ' : State} {a : Act} {w : World} {G : Ghost} {xs : List Nat} (h : StLe σ' σ) (I : Inv W0 M σ a w G xs) : ∃ G', Inv W0 M σ' a w G' xs := by
  obtain ⟨fs, I', _⟩ := I.drop (σ' := σ') h.1 h.2.1 h.2.2
  exact ⟨_, I'⟩

theorem node_ok {c : Code} {run : Node R} (hc : CodeOk P W0 M c run) {fg : Ex → State → State} (hfg : ∀ e σ, StLe (fg e σ) σ) {x : Node R}
    (h : ∀ σ k r, x σ k = some r → ∃ σ', StLe σ' σ ∧ run σ' (fun e σ'' => k e (fg e σ'')) = some r) : CodeOk P W0 M c x := by
  intro σ a w G k r Q hQ I hr hk
  obtain ⟨σ', hle, hrun⟩ := h σ k r hr
  obtain ⟨G', I'⟩ := hle.inv I
  refine hc σ' a w G' _ r Q hQ I' hrun fun e σ'' a' w' G'' he I'' => ?_
  obtain ⟨G3, I3⟩ := (hfg e σ'').inv I''
  exact hk e _ a' w' G3 he I3

theorem loop_ok {c : Code} {run : Node R} (hc : CodeOk P W0 M c run) {ks bs : List Nat} {fX : Ex → State → State} (hfX : ∀ e σ, StLe (fX e σ) σ) (n : Nat) {x : Node R}
    (h : ∀ σ k r, x σ k = some r → ∃ σ', StLe σ' σ ∧ loopC run (fun σ => σ.forget ks bs) fX n σ' k = some r) : CodeOk P W0 M (.loop c) x := by
  have h1 : CodeOk P W0 M (.loop c) (loopC run (fun σ => σ.forget ks bs) fX n) := loop_sound hc (fun σ a w G I => (forget_le σ ks bs).inv I) (fun e σ a w G I => (hfX e σ).inv I) n
  intro σ a w G k r Q hQ I hr hk
  obtain ⟨σ', hle, hrun⟩ := h σ k r hr
  obtain ⟨G', I'⟩ := hle.inv I
  exact h1 σ' a w G' k r Q hQ I' hrun hk

def iter {V K : Type} (step : V → (V → Option R) → K → Option R) : Nat → V → K → Option R
  | 0, _, _ => none
  | n + 1, v, q => step v (fun v' => iter step n v' q) q

theorem loop_eq {V K : Type} (st : V → State) (step : V → (V → Option R) → K → Option R) (mk : Kont R → K) {body : Node R} {fN : State → State} {fX : Ex → State → State}
    (h : ∀ (v : V) (rec : State → Option R) (k : Kont R), body (st v) (fun e σ' => match e with | .normal => rec (fN σ') | e => k e (fX e σ')) = step v (fun v' => rec (st v')) (mk k)) :
    (n : Nat) → (v : V) → (k : Kont R) → loopC body fN fX n (st v) k = iter step n v (mk k)
  | 0, v, k => rfl
  | n + 1, v, k => by
    have h1 := h v (fun σ => loopC body fN fX n σ k) k
    simp only [loop_eq st step mk h n] at h1
    exact h1

noncomputable def FUEL : Nat := Classical.choose (⟨4611686018427387904, rfl⟩ : ∃ n : Nat, n = 4611686018427387904)
theorem FUEL_eq : FUEL = 4611686018427387904 := Classical.choose_spec (⟨4611686018427387904, rfl⟩ : ∃ n : Nat, n = 4611686018427387904)

theorem sound_of [Subsingleton R] {Γ : Env R} (hm : P.follows .mixedOrders = true) (hT : TysOk P Γ.tys) (hS : ∀ g sig, assoc Γ.fns g = some sig → Sound P g sig) {f : FuncId} {fn : Func} {c : Code} {X : List (Node R)} {ht : HT} {fz : Bool} {modes : List Mode} {ags : List Bool}
    (hO : OrOk P Γ.np X ht c) (hf : P.funcs[f]? = some fn) (hname : (fn.name == "runtime.NumGoroutine") = false) (hb : fn.body = some c) (hn : modes.length ≤ fn.ntmps)
    {run : List TVal → List TVal → (List TVal → List TVal → List TVal → Option R) → Option R}
    (h : ∀ vals ext k r, run vals ext k = some r → funC Γ X ht fz fn modes ags vals ext k = some r) : Sound P f (⟨modes, ags, run⟩ : Sig R) := by
  have h0 := fun_sound (Γ := Γ) (X := X) (ht := ht) (fz := fz) (modes := modes) (ags := ags) hm hT (calls_ok hS) hO hf hname hb hn
  exact ⟨h0.1, fun vals ext k r hr => h0.2 vals ext k r (h vals ext k r hr)⟩
end
end Go.PI
namespace Go.PI

abbrev Res := Option Unit
def wi64 (n : Int) : Int := IntKind.i64.wrap n
def wu8 (n : Int) : Int := IntKind.u8.wrap n
def wi32 (n : Int) : Int := IntKind.i32.wrap n
def wu32 (n : Int) : Int := IntKind.u32.wrap n
def wu64 (n : Int) : Int := IntKind.u64.wrap n
def nI (n : Nat) : Int := (n : Int)
def eS : ByteArray := ⟨#[]⟩
def sEq (a b : ByteArray) : Bool := a.toList == b.toList
def sNe (a b : ByteArray) : Bool := !(a.toList == b.toList)
def sLt (a b : ByteArray) : Bool := Op.bytesLess a.toList b.toList
def sLe (a b : ByteArray) : Bool := Op.bytesLess a.toList b.toList || a.toList == b.toList
def sGt (a b : ByteArray) : Bool := !(Op.bytesLess a.toList b.toList || a.toList == b.toList)
def sGe (a b : ByteArray) : Bool := !(Op.bytesLess a.toList b.toList)
def nth {α : Type} (z : α) (l : List α) (i : Int) : α := l.getD i.toNat z
def upd {α : Type} (l : List α) (i : Int) (v : α) : List α := l.set i.toNat v
def repl {α : Type} (n : Int) (z : α) : List α := List.replicate n.toNat z
def cutS (s : ByteArray) (i j : Int) : ByteArray := s.extract i.toNat j.toNat
def mkOk (m c : Int) : Bool := decide (0 ≤ m ∧ m ≤ c ∧ c ≤ (LIM : Int))
def shlI (k : IntKind) (m n : Int) : Int := k.wrap (m * 2 ^ min n.toNat k.bits)
def shrI (k : IntKind) (m n : Int) : Int := Int.fdiv m (2 ^ min n.toNat k.bits)
def andI (k : IntKind) (a b : Int) : Int := k.wrap ((BitVec.ofInt k.bits a &&& BitVec.ofInt k.bits b).toNat)
def orI (k : IntKind) (a b : Int) : Int := k.wrap ((BitVec.ofInt k.bits a ||| BitVec.ofInt k.bits b).toNat)
def xorI (k : IntKind) (a b : Int) : Int := k.wrap ((BitVec.ofInt k.bits a ^^^ BitVec.ofInt k.bits b).toNat)

section
variable {R : Type} {r : R}
def av (l : List TVal) (τ : Ty) (f : El τ → List TVal → Option R) : Option R := match l with | v :: l => argV v τ fun x => f x l | [] => none
def ab (l : List TVal) (τ : Ty) (tg : List Tag) (f : Bool → El τ → List TVal → Option R) : Option R := match l with | v :: l => argB v τ tg fun a x => f a x l | [] => none
def ao (l : List TVal) (τ : Ty) (tg : List Tag) (f : El τ → List TVal → Option R) : Option R := match l with | v :: l => argB v τ tg fun _ x => f x l | [] => none
def nl (l : List TVal) (f : Option R) : Option R := match l with | [] => f | _ :: _ => none
theorem av_some {l : List TVal} {τ : Ty} {f : El τ → List TVal → Option R} (h : av l τ f = some r) : ∃ x a t l', l = ⟨τ, a, x, t⟩ :: l' ∧ f x l' = some r := by
  cases l with
  | nil => cases h
  | cons v l =>
    have h : argV v τ (fun x => f x l) = some r := h
    obtain ⟨a, x, t, rfl, h2⟩ := argV_some h
    exact ⟨x, a, t, l, rfl, h2⟩
theorem ab_some {l : List TVal} {τ : Ty} {tg : List Tag} {f : Bool → El τ → List TVal → Option R} (h : ab l τ tg f = some r) : ∃ a x l', l = ⟨τ, a, x, tg⟩ :: l' ∧ f a x l' = some r := by
  cases l with
  | nil => cases h
  | cons v l =>
    have h : argB v τ tg (fun a x => f a x l) = some r := h
    obtain ⟨a, x, rfl, h2⟩ := argB_some h
    exact ⟨a, x, l, rfl, h2⟩
theorem ao_some {l : List TVal} {τ : Ty} {tg : List Tag} {f : El τ → List TVal → Option R} (h : ao l τ tg f = some r) : ∃ a x l', l = ⟨τ, a, x, tg⟩ :: l' ∧ f x l' = some r := by
  cases l with
  | nil => cases h
  | cons v l =>
    have h : argB v τ tg (fun _ x => f x l) = some r := h
    obtain ⟨a, x, rfl, h2⟩ := argB_some h
    exact ⟨a, x, l, rfl, h2⟩
theorem nl_some {l : List TVal} {f : Option R} (h : nl l f = some r) : l = [] ∧ f = some r := by
  cases l with
  | nil => exact ⟨rfl, h⟩
  | cons v l => cases h

theorem OrOk.mk {P : Program} {np : Nat} {X : List (Node R)} {a b : HT} {c : Code} (h1 : OrOk P np X a c.pl) (h2 : OrOk P np X b c.pr) : OrOk P np X (.t a b) c := ⟨h1, h2⟩
theorem OrOk.x_mk {P : Program} {np : Nat} {X : List (Node R)} {i : Nat} {c : Code} (h : ∀ (W0 : Base) (M : Nat → Prop), W0.np ≤ np → CodeOk P W0 M c (getN (fun _ _ => none) X i)) : OrOk P np X (.x i) c := h
theorem fns_nil {P : Program} : ∀ (g : Nat) (sig : Sig R), assoc [] g = some sig → Sound P g sig := fun _ _ h => by cases h
theorem fns_cons {P : Program} {g : Nat} {s : Sig R} {l : List (FuncId × Sig R)} (h : Sound P g s) (hl : ∀ (g : Nat) (sig : Sig R), assoc l g = some sig → Sound P g sig) :
    ∀ (g' : Nat) (sig : Sig R), assoc ((g, s) :: l) g' = some sig → Sound P g' sig := by
  intro g' sig hh
  simp only [assoc] at hh
  split at hh
  · rename_i he
    simp at he
    subst he
    cases hh
    exact h
  · exact hl g' sig hh
end

def recN {T : Type} (bot : T) (b : T → T) : Nat → T
  | 0 => bot
  | n + 1 => b (recN bot b n)
theorem recN_ind {T : Type} {C : T → Prop} {bot : T} {b : T → T} (h0 : C bot) (h : ∀ t, C t → C (b t)) : ∀ n, C (recN bot b n)
  | 0 => h0
  | n + 1 => h _ (recN_ind h0 h n)
theorem sound_none {R : Type} {P : Program} {f : FuncId} {fn : Func} {c : Code} {sig : Sig R} (hf : P.funcs[f]? = some fn) (hname : (fn.name == "runtime.NumGoroutine") = false) (hb : fn.body = some c)
    (h : ∀ vals ext k r, sig.run vals ext k = some r → False) : Sound P f sig :=
  ⟨⟨fn, c, hf, hname, hb⟩, fun vals ext k r hr => (h vals ext k r hr).elim⟩

theorem both_self (x : Res) : both x x = x := by cases x <;> rfl
end Go.PI
namespace Go.PI

def Wf : (τ : Ty) → El τ → Prop
  | .int k, n => (Lit.int k n).wf = true
  | .bool, _ => True
  | .str, s => ByteArray.size s ≤ maxLen
  | .unit, _ => True
  | .slice e, l => List.length (α := El e) l ≤ maxLen ∧ ∀ x ∈ (l : List (El e)), Wf e x
  | .pair a b, x => Wf a x.1 ∧ Wf b x.2

theorem mapM_some_get {α β : Type} {f : α → Option β} : (l : List α) → (ys : List β) → l.mapM f = some ys → ys.length = l.length ∧ ∀ (k : Nat) (h : k < l.length), ∃ y, f l[k] = some y ∧ ys[k]? = some y
  | [], ys, h => by
    simp only [List.mapM_nil, Option.pure_def, Option.some.injEq] at h
    subst h
    exact ⟨rfl, fun k h => absurd h (by simp)⟩
  | a :: l, ys, h => by
    rw [List.mapM_cons] at h
    cases hf : f a with
    | none => rw [hf] at h; simp at h
    | some y =>
      rw [hf] at h
      cases hl : l.mapM f with
      | none => rw [hl] at h; simp at h
      | some zs =>
        rw [hl] at h
        simp at h
        subst h
        obtain ⟨h1, h2⟩ := mapM_some_get l zs hl
        refine ⟨by simp [h1], fun k hk => ?_⟩
        cases k with
        | zero => exact ⟨y, hf, rfl⟩
        | succ k => exact h2 k (by simpa using hk)

def blkEnd (w : World) (b : Nat) : Nat := match w.heap[b]? with | some (.cells c _ _) => c.size | _ => 0

theorem cells_at {w : World} {a : Addr} {n : Nat} {l : List Value} (h : w.cells? 0 a n = some l) (hn : n ≠ 0) :
    ∃ b o, a = ⟨b, o, none⟩ ∧ cellsAt w b o n = some l ∧ o + n ≤ blkEnd w b ∧ b < w.heap.size := by
  obtain ⟨b, o, sp⟩ := a
  unfold World.cells? at h
  rw [if_pos (Nat.zero_le _)] at h
  obtain ⟨hlen, hget⟩ := mapM_some_get _ _ h
  simp only [List.length_range] at hlen hget
  obtain ⟨v0, hv0, _⟩ := hget 0 (by omega)
  have hx : w.cell? ⟨b, o, sp⟩ = some v0 := by simpa [Addr.add] using hv0
  have hb : sp = none ∧ ∃ c T fr, w.heap[b]? = some (.cells c T fr) := by
    unfold World.cell? at hx
    cases hb : w.heap[b]? with
    | none => simp [hb] at hx
    | some ob =>
      cases ob with
      | cells c T fr =>
        cases sp with
        | none => exact ⟨rfl, c, T, fr, rfl⟩
        | some x => simp [hb] at hx
      | _ => simp [hb] at hx
  obtain ⟨rfl, hb⟩ := hb
  obtain ⟨c, T, fr, hc⟩ := hb
  have hcell : ∀ k, k < n → c[o + k]? = l[k]? := by
    intro k hk
    obtain ⟨v, hv, hl⟩ := hget k hk
    rw [hl]
    simp only [List.getElem_range] at hv
    have : w.cell? (Addr.add ⟨b, o, none⟩ k) = c[o + k]? := by
      unfold Addr.add
      by_cases h0 : k = 0
      · subst h0; simp [World.cell?, hc]
      · simp [h0, World.cell?, hc]
    rw [this] at hv
    exact hv
  have hsz : o + n ≤ c.size := by
    have h1 := hcell (n - 1) (by omega)
    have h2 : (n - 1) < l.length := by omega
    rw [List.getElem?_eq_getElem h2] at h1
    have := (Array.getElem?_eq_some_iff.1 h1).1
    omega
  refine ⟨b, o, rfl, ?_, by unfold blkEnd; rw [hc]; exact hsz, (Array.getElem?_eq_some_iff.1 hc).1⟩
  unfold cellsAt
  rw [hc]
  simp only []
  rw [if_pos hsz]
  congr 1
  refine List.ext_getElem? fun k => ?_
  by_cases hk : k < n
  · rw [List.getElem?_take_of_lt hk, List.getElem?_drop, Array.getElem?_toList, hcell k hk]
  · rw [List.getElem?_eq_none (by simp; omega), List.getElem?_eq_none (by omega)]

section
variable {P : Program} {tys : List (TypeId × Ty × List TypeId)}

theorem TyF.cells {t : TypeId} {τ : Ty} {l : List TypeId} (h : TyF P tys t τ l) : P.cellsOf t = size τ := by
  obtain ⟨i, z, h1, h2, _⟩ := h.info
  unfold Program.cellsOf
  rw [h1]
  simp [h2]

theorem tyAt_fst {τ τf : Ty} (h : tyAt τ [.fst] = some τf) : ∃ b, τ = .pair τf b := by
  cases τ with
  | pair a b => simp only [tyAt, Option.some.injEq] at h; subst h; exact ⟨b, rfl⟩
  | _ => simp [tyAt] at h
theorem tyAt_snd {τ τf : Ty} {p : List Step} (h : tyAt τ (.snd :: p) = some τf) : ∃ a b, τ = .pair a b ∧ tyAt b p = some τf := by
  cases τ with
  | pair a b => exact ⟨a, b, rfl, by simpa [tyAt] using h⟩
  | _ => simp [tyAt] at h

theorem TyF.pos {t : TypeId} {τ : Ty} {l : List TypeId} (h : TyF P tys t τ l) : size τ ≠ 0 := by
  by_cases hl : l = []
  · obtain ⟨_, _, _, _, h5, h6⟩ := h.und hl
    cases τ with
    | unit => exact absurd rfl h5
    | pair a b => exact absurd rfl (h6 a b)
    | _ => simp [size]
  · obtain ⟨fs, _, _, h3, _⟩ := h.str hl
    obtain ⟨f, τf, lf, _, _, _, h4, _, h5, _⟩ := (h3 0 (List.length_pos_iff.2 hl)).out
    match hn : l.length with
    | 0 => exact absurd (List.length_eq_zero_iff.1 hn) hl
    | 1 =>
      rw [hn] at h4
      simp only [fieldPath, tyAt] at h4
      cases τ <;> simp only [tyAt, Option.some.injEq] at h4 <;> subst h4 <;> exact h5
    | n + 2 =>
      rw [hn] at h4
      simp only [fieldPath] at h4
      obtain ⟨b, rfl⟩ := tyAt_fst h4
      simp only [size]
      omega

theorem drop_drop_take {cs : List Value} {a o n : Nat} : ((cs.drop a).drop o).take n = (cs.drop (a + o)).take n := by rw [List.drop_drop]

theorem fields_rp {w : World} {F : Nat → Nat} {St Al : Nat → Prop} : (n : Nat) → (τ : Ty) → (cs : List Value) → n ≠ 0 → cs.length = size τ →
    (∀ i, i < n → ∃ τf, tyAt τ (fieldPath n i) = some τf ∧ ∃ x : El τf, Rp w F St Al τf (List.replicate (leaves τf) .S) ((cs.drop (offP τ (fieldPath n i))).take (size τf)) x [] ∧ Wf τf x) →
    ∃ x : El τ, Rp w F St Al τ (List.replicate (leaves τ) .S) cs x [] ∧ Wf τ x
  | 0, τ, cs, h, _, _ => absurd rfl h
  | 1, τ, cs, _, hl, h => by
    obtain ⟨τf, h1, x, h2, h3⟩ := h 0 (by omega)
    have hoff : offP τ (fieldPath 1 0) = 0 := by cases τ <;> rfl
    have hτ : τf = τ := by
      simp only [fieldPath] at h1
      cases τ <;> simp only [tyAt, Option.some.injEq] at h1 <;> exact h1.symm
    subst hτ
    rw [hoff, List.drop_zero, List.take_of_length_le (by omega)] at h2
    exact ⟨x, h2, h3⟩
  | n + 2, τ, cs, _, hl, h => by
    obtain ⟨τf, h1, x, h2, h3⟩ := h 0 (by omega)
    simp only [fieldPath] at h1
    obtain ⟨b, rfl⟩ := tyAt_fst h1
    have hoff : offP (.pair τf b) (fieldPath (n + 2) 0) = 0 := by simp only [fieldPath]; cases τf <;> rfl
    rw [hoff, List.drop_zero] at h2
    simp only [size] at hl
    obtain ⟨y, h4, h5⟩ := fields_rp (n + 1) b (cs.drop (size τf)) (by omega) (by rw [List.length_drop]; omega) fun i hi => by
      obtain ⟨τg, g1, z, g2, g3⟩ := h (i + 1) (by omega)
      simp only [fieldPath] at g1
      obtain ⟨a', b', he, g4⟩ := tyAt_snd g1
      cases he
      refine ⟨τg, g4, z, ?_, g3⟩
      have : offP (.pair τf b) (fieldPath (n + 2) (i + 1)) = size τf + offP b (fieldPath (n + 1) i) := by simp only [fieldPath, offP]
      rw [this] at g2
      rw [List.drop_drop]
      exact g2
    refine ⟨(x, y), ⟨_, _, _, _, [], [], ?_, (List.take_append_drop (size τf) cs).symm, rfl, h2, h4⟩, h3, h5⟩
    simp only [leaves, List.replicate_append_replicate]

theorem open_rel (hT : TysOk P tys) {H : Type} {enc : TypeId × Value → H} {w : World} {Al : Nat → Prop} : (fuel : Nat) → (t : TypeId) → (τ : Ty) → (l : List TypeId) → (cs : List Value) → (d : DataW H × List MemPlace) →
    assoc tys t = some (τ, l) → DataW.trod enc P w 0 (fun _ => true) true fuel t cs = some d → ∃ x : El τ, Rp w (blkEnd w) (· < w.heap.size) Al τ (List.replicate (leaves τ) .S) cs x [] ∧ Wf τ x
  | 0, t, τ, l, cs, d, ha, h => by cases h
  | fuel + 1, t, τ, l, cs, d, ha, h => by
    have hF := hT t τ l ha
    by_cases hl : l = []
    · obtain ⟨u1, u2, u3, u4, u5, u6⟩ := hF.und hl
      cases τ with
      | unit => exact absurd rfl u5
      | pair a b => exact absurd rfl (u6 a b)
      | int k =>
        have hu := u1 k rfl
        simp only [DataW.trod, hu] at h
        split at h <;> first | (cases h; done) | skip
        all_goals (first | (rename_i heq; cases heq; done) | skip)
        rename_i k0 k' n heq
        cases heq
        split at h
        · rename_i hc
          obtain ⟨rfl, hw⟩ := hc
          exact ⟨n, ⟨rfl, rfl, rfl⟩, hw⟩
        · cases h
      | bool =>
        have hu := u2 rfl
        simp only [DataW.trod, hu] at h
        split at h <;> first | (cases h; done) | skip
        all_goals (first | (rename_i heq; cases heq; done) | skip)
        rename_i b heq
        exact ⟨b, ⟨rfl, rfl, rfl⟩, trivial⟩
      | str =>
        have hu := u3 rfl
        simp only [DataW.trod, hu] at h
        split at h <;> first | (cases h; done) | skip
        all_goals (first | (rename_i heq; cases heq; done) | skip)
        rename_i s heq
        split at h
        · rename_i hs
          exact ⟨s, ⟨rfl, rfl, rfl⟩, hs⟩
        · cases h
      | slice e =>
        obtain ⟨et, hu, he, _⟩ := u4 e rfl
        have hae : ∃ le, assoc tys et = some (e, le) := by
          unfold tyOf at he
          cases hx : assoc tys et with
          | none => rw [hx] at he; cases he
          | some p => rw [hx] at he; simp at he; exact ⟨p.2, by rw [← he]⟩
        obtain ⟨le, hae⟩ := hae
        have hFe := hT et e le hae
        simp only [DataW.trod, hu] at h
        split at h <;> first | (cases h; done) | skip
        all_goals (first | (rename_i heq; cases heq; done) | skip)
        · rename_i e0 heq
          exact ⟨[], ⟨.S, none, 0, rfl, rfl, Nat.le_refl _, .inr (.inr ⟨rfl, rfl, .inl rfl⟩)⟩, Nat.zero_le _, by simp⟩
        · rename_i e0 a len cap heq
          cases heq
          split at h
          · rename_i hc
            obtain ⟨_, hlc, hcm⟩ := hc
            cases hm : (List.range len).mapM fun i => (w.cells? 0 (a.add (i * P.cellsOf et)) (P.cellsOf et)).bind (DataW.trod enc P w 0 (fun _ => true) true fuel et) with
            | none => rw [hm] at h; cases h
            | some ys =>
              obtain ⟨hyl, hget⟩ := mapM_some_get _ _ hm
              simp only [List.length_range, List.getElem_range] at hget hyl
              rw [hFe.cells] at hget
              have hpos := hFe.pos
              have hx : ∀ k : Fin len, ∃ x : El e, (∃ b o, a = ⟨b, o, none⟩ ∧ b < w.heap.size ∧ o + k.1 * size e + size e ≤ blkEnd w b ∧ ∃ cs', cellsAt w b (o + k.1 * size e) (size e) = some cs' ∧ Rp w (blkEnd w) (· < w.heap.size) Al e (List.replicate (leaves e) .S) cs' x []) ∧ Wf e x := by
                intro k
                obtain ⟨y, hy, _⟩ := hget k.1 k.2
                cases hcs : w.cells? 0 (a.add (k.1 * size e)) (size e) with
                | none => rw [hcs] at hy; cases hy
                | some cs' =>
                  rw [hcs] at hy
                  have hy : DataW.trod enc P w 0 (fun _ => true) true fuel et cs' = some y := hy
                  obtain ⟨x, hx1, hx2⟩ := open_rel hT fuel et e le cs' y hae hy
                  obtain ⟨b, o, ha1, ha2, ha3, ha4⟩ := cells_at hcs hpos
                  -- the row begins where its first element does
                  obtain ⟨y0, hy0, _⟩ := hget 0 (by have := k.2; omega)
                  cases hcs0 : w.cells? 0 (a.add (0 * size e)) (size e) with
                  | none => rw [hcs0] at hy0; cases hy0
                  | some cs0 =>
                    obtain ⟨b0, o0, hb1, _, _, _⟩ := cells_at hcs0 hpos
                    rw [Nat.zero_mul] at hb1
                    have hb1 : a = ⟨b0, o0, none⟩ := by simpa [Addr.add] using hb1
                    subst hb1
                    have : b = b0 ∧ o = o0 + k.1 * size e := by
                      unfold Addr.add at ha1
                      split at ha1
                      · rename_i hz; cases ha1; exact ⟨rfl, by omega⟩
                      · cases ha1; exact ⟨rfl, rfl⟩
                    obtain ⟨rfl, rfl⟩ := this
                    exact ⟨x, ⟨b, o0, rfl, ha4, ha3, cs', ha2, hx1⟩, hx2⟩
              let xs : List (El e) := List.ofFn fun k : Fin len => Classical.choose (hx k)
              have hxl : xs.length = len := by simp [xs]
              have hxg : ∀ (k : Nat) (h : k < xs.length), (∃ b o, a = ⟨b, o, none⟩ ∧ b < w.heap.size ∧ o + k * size e + size e ≤ blkEnd w b ∧ ∃ cs', cellsAt w b (o + k * size e) (size e) = some cs' ∧ Rp w (blkEnd w) (· < w.heap.size) Al e (List.replicate (leaves e) .S) cs' xs[k] []) ∧ Wf e xs[k] := by
                intro k hk
                have := Classical.choose_spec (hx ⟨k, by omega⟩)
                simpa [xs] using this
              refine ⟨xs, ⟨.S, some a, cap, rfl, by rw [hxl], by rw [hxl]; exact hlc, .inr (.inr ⟨rfl, rfl, ?_⟩)⟩, by show xs.length ≤ _; omega, ?_⟩
              · by_cases h0 : len = 0
                · left; exact List.length_eq_zero_iff.1 (by omega)
                · right
                  obtain ⟨⟨b, o, rfl, hb, hend, _⟩, _⟩ := hxg (len - 1) (by omega)
                  refine ⟨b, o, rfl, hb, ?_, fun k hk => ?_⟩
                  · rw [hxl]
                    have : o + (len - 1) * size e + size e = o + len * size e := by
                      have : len = (len - 1) + 1 := by omega
                      rw [this, Nat.add_mul]; simp; omega
                    omega
                  · obtain ⟨⟨b', o', he', _, _, cs', h1, h2⟩, _⟩ := hxg k hk
                    cases he'
                    exact ⟨cs', h1, h2⟩
              · intro x hx
                obtain ⟨k, hk, rfl⟩ := List.mem_iff_getElem.1 hx
                exact (hxg k hk).2
          · cases h
    · obtain ⟨fs, hu, hfl, hfs, _⟩ := hF.str hl
      simp only [DataW.trod, hu] at h
      split at h
      · rename_i hlen
        rw [hF.cells] at hlen
        cases hm : fs.toList.mapM fun f => DataW.trod enc P w 0 (fun _ => true) true fuel f.type ((cs.drop f.offset).take (P.cellsOf f.type)) with
        | none => rw [hm] at h; cases h
        | some ys =>
          obtain ⟨_, hget⟩ := mapM_some_get _ _ hm
          refine fields_rp l.length τ cs (by simpa using hl) hlen fun i hi => ?_
          obtain ⟨f, τf, lf, h1, h2, h3, h4, h5, _, _⟩ := (hfs i hi).out
          have hif : i < fs.toList.length := by simp; omega
          obtain ⟨y, hy, _⟩ := hget i hif
          have hfi : fs.toList[i] = f := by
            have : fs.toList[i]? = some f := by rw [Array.getElem?_toList]; exact h1
            rw [List.getElem?_eq_getElem hif] at this
            simpa using this
          rw [hfi] at hy
          have hFf := hT f.type τf lf h5
          rw [hFf.cells, h3] at hy
          obtain ⟨x, hx1, hx2⟩ := open_rel hT fuel f.type τf lf _ y h5 hy
          exact ⟨τf, h4, x, hx1, hx2⟩
      · cases h
end
end Go.PI
namespace Go.PI
open Go.ChangeShapes Go.WideShapes Go.ChangeAt Go.RowKit

def modesOf (tys : List (TypeId × Ty × List TypeId)) : List TypeId → Option (List Mode)
  | [] => some []
  | t :: ts => match assoc tys t, modesOf tys ts with | some (τ, l), some ms => some (.borrow τ (!l.isEmpty) :: ms) | _, _ => none

def Vals : List Mode → List TVal → Prop
  | [], [] => True
  | .borrow τ ag :: ms, v :: vs => (∃ x t, v = ⟨τ, ag, x, t⟩ ∧ Wf τ x) ∧ Vals ms vs
  | _, _ => False

theorem Vals.none {vals : List TVal} (h : Vals [] vals) : vals = [] := by
  cases vals with
  | nil => rfl
  | cons v vs => exact h.elim
theorem Vals.one {τ : Ty} {ag : Bool} {ms : List Mode} {vals : List TVal} (h : Vals (.borrow τ ag :: ms) vals) : ∃ x t vs, vals = ⟨τ, ag, x, t⟩ :: vs ∧ Wf τ x ∧ Vals ms vs := by
  cases vals with
  | nil => exact h.elim
  | cons v vs =>
    obtain ⟨⟨x, t, rfl, w⟩, h⟩ := h
    exact ⟨x, t, vs, rfl, w, h⟩

section
variable {P : Program} {tys : List (TypeId × Ty × List TypeId)} {H : Type} {enc : TypeId × Value → H} {W : World} {base : Nat}

theorem shaped_of {t : TypeId} {τ : Ty} {l : List TypeId} {v : Value} (h : TyF P tys t τ l) (hv : Value.okWide P W .any base t v) : Shaped (!l.isEmpty) v := by
  by_cases hl : l = []
  · subst hl
    obtain ⟨u1, u2, u3, u4, u5, u6⟩ := h.und rfl
    show one v = true
    cases τ with
    | unit => exact absurd rfl u5
    | pair a b => exact absurd rfl (u6 a b)
    | int k => obtain ⟨n, rfl⟩ := okWide_int (u1 k rfl) hv; rfl
    | bool => obtain ⟨n, rfl⟩ := okWide_bool (u2 rfl) hv; rfl
    | str => obtain ⟨n, rfl⟩ := okWide_string (u3 rfl) hv; rfl
    | slice e => obtain ⟨et, hu, _⟩ := u4 e rfl; obtain ⟨a, n, c, rfl⟩ := okWide_slice hu hv; rfl
  · obtain ⟨fs, hu, _⟩ := h.str hl
    obtain ⟨cs, rfl, _⟩ := okWide_struct hu hv
    have : (!l.isEmpty) = true := by cases l <;> simp_all
    rw [this]
    exact ⟨cs, rfl⟩

theorem open_args (hT : TysOk P tys) : (ts : List TypeId) → (vs : List Value) → (ds : List (DataW H)) → (p : List MemPlace) → (ms : List Mode) → DataW.TrodAll enc P W 0 (fun _ => true) true ts vs ds p →
    (∀ (j : Nat) t v, ts[j]? = some t → vs[j]? = some v → Value.okWide P W .any base t v) → modesOf tys ts = some ms →
    ds.length = ts.length ∧ ∃ vals : List TVal, Vals ms vals ∧ ArgsRel W (blkEnd W) (· < W.heap.size) ms vals vs (vals.map fun _ => []) []
  | [], vs, ds, p, ms, h, _, hm => by
    obtain ⟨rfl, rfl, rfl⟩ := trodAll_nil h
    simp only [modesOf, Option.some.injEq] at hm
    subst hm
    exact ⟨rfl, [], trivial, trivial⟩
  | t :: ts, vs, ds, p, ms, h, hv, hm => by
    obtain ⟨v, vs1, d, ds1, a, b, rfl, rfl, rfl, h1, h2⟩ := trodAll_cons h
    simp only [modesOf] at hm
    split at hm
    · rename_i τ l ms' ha hms
      cases hm
      obtain ⟨hlen, vals, q1, q2⟩ := open_args hT ts vs1 ds1 b ms' h2 (fun j t v ht hv' => hv (j + 1) t v (by simpa using ht) (by simpa using hv')) hms
      obtain ⟨fuel, hf⟩ := h1
      obtain ⟨x, hx, hw⟩ := open_rel hT (Al := (· < W.heap.size)) fuel t τ l _ _ ha hf
      have hsh := shaped_of (hT t τ l ha) (hv 0 t v rfl rfl)
      refine ⟨by simp [hlen], ⟨τ, !l.isEmpty, x, List.replicate (leaves τ) .S⟩ :: vals, ⟨⟨x, _, rfl, hw⟩, q1⟩, rfl, hsh, ?_, q2⟩
      rw [hsh.cells]
      exact hx
    · cases hm

def kTrue : List TVal → List TVal → List TVal → Option Unit
  | [⟨.bool, false, true, _⟩], _, _ => some ()
  | _, _, _ => none

theorem kTrue_some {res ios ext : List TVal} (h : kTrue res ios ext = some ()) : ∃ tg, res = [⟨.bool, false, true, tg⟩] := by
  unfold kTrue at h
  split at h
  · exact ⟨_, rfl⟩
  · cases h

theorem modesOf_io : (ts : List TypeId) → (ms : List Mode) → (xs : List Value) → modesOf tys ts = some ms → ioArgs ms xs = []
  | [], ms, xs, h => by
    simp only [modesOf, Option.some.injEq] at h
    subst h
    cases xs <;> rfl
  | t :: ts, ms, xs, h => by
    simp only [modesOf] at h
    split at h
    · rename_i hx
      cases h
      cases xs with
      | nil => rfl
      | cons x xs => exact modesOf_io ts _ xs hx
    · cases h

theorem law_calls (hT : TysOk P tys) {f : FuncId} {sig : Sig Unit} (hs : Sound P f sig) {ts : List TypeId} {args : Array Value} {ds : List (DataW H)} {p : List MemPlace} (hm : modesOf tys ts = some sig.modes)
    (hpure : ∀ vals, Vals sig.modes vals → sig.run vals [] kTrue = some ()) (h : DataW.TrodAll enc P W 0 (fun _ => true) true ts args.toList ds p)
    (hv : ∀ (j : Nat) t v, ts[j]? = some t → args[j]? = some v → Value.okWide P W .any base t v) :
    Calls P f args W fun e W' => e = .returned (.bool true) ∧ Below W.heap.size W W' := by
  obtain ⟨_, vals, hvals, hA⟩ := open_args hT ts args.toList ds p _ h (fun j t v ht hv' => hv j t v ht (by rwa [Array.getElem?_toList] at hv')) hm
  have hfl : (vals.map fun _ => ([] : List Nat)).flatten = [] := by induction vals <;> simp_all
  have hc := hs.2 vals [] kTrue () (hpure vals hvals) W (blkEnd W) (· < W.heap.size) args.toList [] (vals.map fun _ => []) [] hA trivial (by rw [hfl]; simp) (fun b hb => ⟨hb, by rw [hfl]; simp⟩) (by rw [hfl]; simp)
  have : args.toList.toArray = args := by simp
  rw [this] at hc
  refine hc.mono fun e W' => ?_
  rintro ⟨v, res, ios, ext', rfl, hk, hty, hexn, F', St', vs, fps, efps, ⟨rfl, hil, _⟩, hres, hbox, hE, _⟩
  obtain ⟨tg, rfl⟩ := kTrue_some hk
  have hio := modesOf_io ts _ args.toList hm
  rw [hio] at hil hres
  have hi0 : ios = [] := List.length_eq_zero_iff.1 hil
  subst hi0
  rw [List.append_nil, List.append_nil] at hres
  have hE' : Below W.heap.size W W' := ⟨hE.os, hE.tape, hE.output, hE.size, fun b hb => hE.block b hb (by rw [hfl]; simp)⟩
  refine ⟨?_, hE'⟩
  cases vs with
  | nil => exact hres.elim
  | cons v vs =>
    cases fps with
    | nil => exact hres.elim
    | cons f fps =>
      obtain ⟨⟨h1, _, h3⟩, h4⟩ := hres
      have : v = .bool true := val_bool h1 h3
      subst this
      cases vs with
      | nil => rfl
      | cons u vs => cases fps <;> exact h4.elim

theorem below_all {W' : World} (hl : laidOutB P = true) (hb : Below W.heap.size W W') : (ts : List TypeId) → (vs : List Value) → (ds : List (DataW H)) → (p : List MemPlace) → ts.all (fun t => P.readableRec t && decide (t < P.types.size)) = true →
    DataW.TrodAll enc P W 0 (fun _ => true) true ts vs ds p → DataW.TrodAll enc P W' 0 (fun b => decide (b < W.heap.size)) true ts vs ds p
  | [], vs, ds, p, _, h => by
    obtain ⟨rfl, rfl, rfl⟩ := trodAll_nil h
    exact trodAll_mk0
  | t :: ts, vs, ds, p, ht, h => by
    obtain ⟨v, vs1, d, ds1, a, b, rfl, rfl, rfl, h1, h2⟩ := trodAll_cons h
    simp only [List.all_cons, Bool.and_eq_true, decide_eq_true_eq] at ht
    refine trodAll_cons_mk ?_ (below_all hl hb ts vs1 ds1 b ht.2 h2)
    refine Below.trod hl ht.1.1 ht.1.2 h1 hb fun x hx => ?_
    obtain ⟨m, hm⟩ := h1
    exact DataW.trod_lt m _ _ _ hm x hx

theorem law_contract (hT : TysOk P tys) (hl : laidOutB P = true) {f : FuncId} {fn : Func} {sig : Sig Unit} (hs : Sound P f sig) {s : ChangeSpec} (hvars : s.vars = []) {tb : TypeId} (hrt : fn.resultTypes = #[tb]) (hbool : P.underlying tb = some .bool)
    (hm : modesOf tys fn.params.toList = some sig.modes) (hread : fn.params.toList.all (fun t => P.readableRec t && decide (t < P.types.size)) = true)
    (hfn : ∀ ds : List (DataW H), ds.length = fn.params.toList.length → s.fn H ds = { results := [.lit (.bool true)], args := ds })
    (hpure : ∀ vals, Vals sig.modes vals → sig.run vals [] kTrue = some ()) {args : Array Value} {ds gs : List (DataW H)} {before : List MemPlace}
    (hval : ∀ (j : Nat) t v, fn.params[j]? = some t → args[j]? = some v → Value.okWide P W .any base t v) (hW : DataW.Whole enc P fn.params.toList s.vars false W args.toList ds gs before) :
    Calls P f args W fun e W' => ∃ v, e = .returned v ∧ s.post enc P fn false true false false W args v W' := by
  have hW' := hW
  obtain ⟨p, q, hA, hV, rfl, hfz, hnd⟩ := hW
  rw [hvars] at hV
  obtain ⟨rfl, rfl⟩ := trodVars_none hV
  have hlen : ds.length = fn.params.toList.length := (open_args hT _ _ _ _ _ hA (fun j t v ht hv' => hval j t v (by rwa [Array.getElem?_toList] at ht) (by rwa [Array.getElem?_toList] at hv')) hm).1
  refine (law_calls hT hs hm hpure hA fun j t v ht hv' => hval j t v (by rwa [Array.getElem?_toList] at ht) hv').mono fun e W' => ?_
  rintro ⟨rfl, bel⟩
  have hf := hfn ds hlen
  refine ⟨_, rfl, ds, [], _, [], p, [], hW', ?_, ?_, ?_, bel.frame _, fun h => by cases h⟩
  · rw [List.append_nil, hf, hrt]
    exact trodAll_mk1 (shut_bool hbool _)
  · rw [List.append_nil, hf]
    exact below_all hl bel _ _ _ _ hread hA
  · rw [hvars, List.append_nil, hf]
    exact rfl
end
end Go.PI
namespace Go.PI

theorem wi64_of {n : Int} (h1 : -9223372036854775808 ≤ n) (h2 : n < 9223372036854775808) : wi64 n = n := by
  unfold wi64 IntKind.wrap
  simp only [IntKind.bits, IntKind.signed, Bool.true_and]
  by_cases h : n % 2 ^ 64 ≥ 2 ^ (64 - 1)
  · rw [if_pos (by simpa using h)]; omega
  · rw [if_neg (by simpa using h)]; omega

theorem inb_of {i : Int} {n : Nat} (h1 : 0 ≤ i) (h2 : i < (n : Int)) : inb i n = true := by
  unfold inb; exact decide_eq_true ⟨h1, h2⟩
theorem lim_of {n : Nat} (h : n ≤ LIM) : lim n = true := decide_eq_true h
theorem mkOk_of {n : Nat} (h : n ≤ LIM) : mkOk (nI n) (nI n) = true := by
  unfold mkOk nI; exact decide_eq_true ⟨by omega, by omega, by omega⟩
theorem dec_lt_t {a b : Int} (h : a < b) : decide (a < b) = true := decide_eq_true h
theorem dec_lt_f {a b : Int} (h : ¬ a < b) : decide (a < b) = false := decide_eq_false h
theorem nth_nat {α : Type} (z : α) (l : List α) (i : Nat) (h : i < l.length) : nth z l (i : Int) = l[i] := by
  unfold nth; simp [h]
theorem upd_nat {α : Type} (l : List α) (i : Nat) (v : α) : upd l (i : Int) v = l.set i v := by unfold upd; simp

theorem iter_count {V K : Type} {step : V → (V → Res) → K → Res} (st : Nat → V) (N : Nat) (q : K) (fin : Res)
    (hs : ∀ i, i < N → ∀ rec, step (st i) rec q = rec (st (i + 1))) (he : ∀ rec, step (st N) rec q = fin) (n : Nat) (hn : N < n) : iter step n (st 0) q = fin := by
  have : ∀ d i n, i + d = N → d < n → iter step n (st i) q = fin := by
    intro d
    induction d with
    | zero =>
      intro i n hi hn
      obtain ⟨n, rfl⟩ : ∃ m, n = m + 1 := ⟨n - 1, by omega⟩
      have : i = N := by omega
      subst this
      exact he _
    | succ d ih =>
      intro i n hi hn
      obtain ⟨n, rfl⟩ : ∃ m, n = m + 1 := ⟨n - 1, by omega⟩
      show step (st i) _ q = fin
      rw [hs i (by omega)]
      exact ih (i + 1) n (by omega) (by omega)
  exact this N 0 n (by omega) (by omega)

theorem FUEL_lt {n : Nat} (h : n < 4611686018427387904) : n < FUEL := by rw [FUEL_eq]; exact h

def fillAt {α β : Type} (a : List α) (f : α → β) (z : β) (i : Nat) : List β := (a.take i).map f ++ List.replicate (a.length - i) z
theorem fillAt_len {α β : Type} (a : List α) (f : α → β) (z : β) (i : Nat) (h : i ≤ a.length) : (fillAt a f z i).length = a.length := by
  unfold fillAt; simp; omega
theorem fillAt_end {α β : Type} (a : List α) (f : α → β) (z : β) : fillAt a f z a.length = a.map f := by
  unfold fillAt; simp
theorem fillAt_zero {α β : Type} (a : List α) (f : α → β) (z : β) : fillAt a f z 0 = List.replicate a.length z := by
  unfold fillAt; simp
theorem fillAt_set {α β : Type} (a : List α) (f : α → β) (z : β) (i : Nat) (h : i < a.length) : (fillAt a f z i).set i (f a[i]) = fillAt a f z (i + 1) := by
  unfold fillAt
  rw [List.set_append_right _ _ (by simp; omega)]
  have h1 : a.length - i = (a.length - (i + 1)) + 1 := by omega
  have h2 : i - ((a.take i).map f).length = 0 := by simp; omega
  rw [h2, h1, List.replicate_succ, List.set_cons_zero, List.take_succ_eq_append_getElem h, List.map_append, List.append_assoc]
  rfl

theorem nI_lt {n : Nat} {i : Nat} (h : i < n) : decide ((i : Int) < nI n) = true := decide_eq_true (by unfold nI; omega)
theorem nI_ge {n : Nat} : decide ((n : Int) < nI n) = false := decide_eq_false (by unfold nI; omega)

theorem to_loop {α β : Type} (z : β) (a : List α) (f : α → β) {step : (List β × Int) → (List β × Int → Res) → (List β → Res) → Res} (q : List β → Res) (hlen : a.length ≤ LIM)
    (hs : ∀ (out : List β) (i : Nat) rec, (hi : i < a.length) → out.length = a.length → step (out, (i : Int)) rec q = rec (out.set i (f a[i]), (i : Int) + 1))
    (he : ∀ out rec, step (out, (a.length : Int)) rec q = q out) : iter step FUEL (repl (nI a.length) z, 0) q = q (a.map f) := by
  have h0 : repl (nI a.length) z = fillAt a f z 0 := by rw [fillAt_zero]; unfold repl nI; simp
  rw [h0]
  refine iter_count (fun i => (fillAt a f z i, (i : Int))) a.length q _ (fun i hi rec => ?_) (fun rec => ?_) FUEL (FUEL_lt (by unfold LIM at hlen; omega))
  · rw [hs _ i rec hi (fillAt_len _ _ _ _ (by omega)), fillAt_set a f z i hi]; rfl
  · rw [he, fillAt_end]

def szR (left : Int) (n : Nat) : Int := if (n : Int) ≤ left then left - n else -1
theorem szR_pos {left : Int} {n : Nat} (h : (n : Int) ≤ left) : szR left n = left - n := if_pos h
theorem szR_neg {left : Int} {n : Nat} (h : ¬ (n : Int) ≤ left) : szR left n = -1 := if_neg h

theorem szR_step {left : Int} {a b : Nat} (h : (a : Int) ≤ left) : szR left (a + b) = szR (left - a) b := by
  unfold szR
  by_cases hc : ((b : Nat) : Int) ≤ left - a
  · rw [if_pos hc, if_pos (show ((a + b : Nat) : Int) ≤ left by omega)]; omega
  · rw [if_neg hc, if_neg (show ¬ ((a + b : Nat) : Int) ≤ left by omega)]
theorem szR_stop {left : Int} {a b : Nat} (h : ¬ (a : Int) ≤ left) : szR left (a + b) = -1 := if_neg (show ¬ ((a + b : Nat) : Int) ≤ left by omega)
theorem szR_le {left : Int} {n : Nat} (h : 0 ≤ left) : szR left n ≤ left := by unfold szR; split <;> omega

theorem sz_loop {α : Type} (b : α → Nat) (a : List α) {step : (Int × Int) → (Int × Int → Res) → ((Int → Res) × (Unit → Res)) → Res} (q : (Int → Res) × (Unit → Res)) (hlen : a.length ≤ 1048576)
    (hs : ∀ (left : Int) (i : Nat) rec, (hi : i < a.length) → 0 ≤ left → left ≤ 1048576 → step (left, (i : Int)) rec q = if (b a[i] : Int) ≤ left then rec (left - b a[i], (i : Int) + 1) else q.2 ())
    (he : ∀ left rec, step (left, (a.length : Int)) rec q = q.1 left) (left : Int) (h0 : 0 ≤ left) (h1 : left ≤ 1048576) :
    iter step FUEL (left, 0) q = if (((a.map b).sum : Nat) : Int) ≤ left then q.1 (left - ((a.map b).sum : Nat)) else q.2 () := by
  have key : ∀ (d i n : Nat) (left : Int), i + d = a.length → d < n → 0 ≤ left → left ≤ 1048576 →
      iter step n (left, (i : Int)) q = if ((((a.drop i).map b).sum : Nat) : Int) ≤ left then q.1 (left - (((a.drop i).map b).sum : Nat)) else q.2 () := by
    intro d
    induction d with
    | zero =>
      intro i n left hi hn h0 h1
      obtain ⟨n, rfl⟩ : ∃ m, n = m + 1 := ⟨n - 1, by omega⟩
      have : i = a.length := by omega
      subst this
      show step _ _ q = _
      rw [he]
      simp [h0]
    | succ d ih =>
      intro i n left hi hn h0 h1
      obtain ⟨n, rfl⟩ : ∃ m, n = m + 1 := ⟨n - 1, by omega⟩
      have hlt : i < a.length := by omega
      show step _ _ q = _
      rw [hs left i _ hlt h0 h1, List.drop_eq_getElem_cons hlt, List.map_cons, List.sum_cons]
      by_cases hb : (b a[i] : Int) ≤ left
      · rw [if_pos hb]
        have := ih (i + 1) n (left - b a[i]) (by omega) (by omega) (by omega) (by omega)
        rw [show ((i : Int) + 1) = ((i + 1 : Nat) : Int) by omega, this]
        by_cases hc : ((((a.drop (i + 1)).map b).sum : Nat) : Int) ≤ left - b a[i]
        · have hc2 : ((b a[i] + ((a.drop (i + 1)).map b).sum : Nat) : Int) ≤ left := by omega
          rw [if_pos hc, if_pos hc2]
          have : left - (b a[i] : Int) - ((((a.drop (i + 1)).map b).sum : Nat) : Int) = left - ((b a[i] + ((a.drop (i + 1)).map b).sum : Nat) : Int) := by omega
          rw [this]
        · have hc2 : ¬ ((b a[i] + ((a.drop (i + 1)).map b).sum : Nat) : Int) ≤ left := by omega
          rw [if_neg hc, if_neg hc2]
      · have hc2 : ¬ ((b a[i] + ((a.drop (i + 1)).map b).sum : Nat) : Int) ≤ left := by omega
        rw [if_neg hb, if_neg hc2]
  have := key a.length 0 FUEL left (by omega) (FUEL_lt (by omega)) h0 h1
  simpa using this

theorem eq_loop {α : Type} (a : List α) {step : Int → (Int → Res) → ((Unit → Res) × (Unit → Res)) → Res} (q : (Unit → Res) × (Unit → Res)) (hlen : a.length ≤ LIM)
    (hs : ∀ (i : Nat) rec, (hi : i < a.length) → step (i : Int) rec q = rec ((i : Int) + 1)) (he : ∀ rec, step (a.length : Int) rec q = q.1 ()) : iter step FUEL (0 : Int) q = q.1 () :=
  iter_count (fun i => (i : Int)) a.length q _ (fun i hi rec => by rw [hs i rec hi]; rfl) he FUEL (FUEL_lt (by unfold LIM at hlen; omega))
end Go.PI
namespace Go.PI

theorem le_sum {α : Type} (b : α → Nat) : (l : List α) → ∀ x ∈ l, b x ≤ (l.map b).sum
  | y :: l, x, h => by
    rcases List.mem_cons.1 h with rfl | h
    · simp
    · have := le_sum b l x h
      simp; omega

def apps {α β : Type} (g : Int → α → List β) : Nat → List α → List β
  | _, [] => []
  | j, x :: l => g j x ++ apps g (j + 1) l

theorem apps_sum {α β : Type} (g : Int → α → List β) (b : α → Nat) (b' : β → Nat) (h : ∀ i x, ((g i x).map b').sum ≤ b x) : (j : Nat) → (l : List α) → ((apps g j l).map b').sum ≤ (l.map b).sum
  | _, [] => Nat.le_refl _
  | j, x :: l => by
    have := apps_sum g b b' h (j + 1) l
    have := h j x
    simp only [apps, List.map_append, List.sum_append, List.map_cons, List.sum_cons]
    omega
theorem apps_len {α β : Type} (g : Int → α → List β) (h : ∀ i x, (g i x).length ≤ 1) : (j : Nat) → (l : List α) → (apps g j l).length ≤ l.length
  | _, [] => Nat.le_refl _
  | j, x :: l => by
    have := apps_len g h (j + 1) l
    have := h j x
    simp only [apps, List.length_append, List.length_cons]
    omega

theorem app_loop {α β : Type} (a : List α) (g : Int → α → List β) {V K : Type} (st : Int → List β → V) {step : V → (V → Res) → K → Res} (q : K) (fin : List β → Res) (hlen : a.length ≤ LIM) (hg : ∀ i x, (g i x).length ≤ 1)
    (hs : ∀ (out : List β) (i : Nat) rec, (hi : i < a.length) → out.length ≤ i → step (st i out) rec q = rec (st (i + 1) (out ++ g i a[i])))
    (he : ∀ out rec, step (st (a.length : Int) out) rec q = fin out) : iter step FUEL (st 0 []) q = fin (apps g 0 a) := by
  have key : ∀ (d i n : Nat) (out : List β), i + d = a.length → d < n → out.length ≤ i → iter step n (st i out) q = fin (out ++ apps g i (a.drop i)) := by
    intro d
    induction d with
    | zero =>
      intro i n out hi hn ho
      obtain ⟨n, rfl⟩ : ∃ m, n = m + 1 := ⟨n - 1, by omega⟩
      have : i = a.length := by omega
      subst this
      show step _ _ q = _
      rw [he]
      simp [apps]
    | succ d ih =>
      intro i n out hi hn ho
      obtain ⟨n, rfl⟩ : ∃ m, n = m + 1 := ⟨n - 1, by omega⟩
      have hlt : i < a.length := by omega
      show step _ _ q = _
      rw [hs out i _ hlt ho, List.drop_eq_getElem_cons hlt]
      have := ih (i + 1) n (out ++ g i a[i]) (by omega) (by omega) (by have := hg i a[i]; simp; omega)
      rw [show ((i : Int) + 1) = ((i + 1 : Nat) : Int) by omega, this]
      simp [apps, List.append_assoc]
  have := key a.length 0 FUEL [] (by omega) (FUEL_lt (by unfold LIM at hlen; omega)) (by simp)
  simpa using this

def mkL {α : Type} (w : α → Nat) (mk : α → Int → α) : List α → Int → List α
  | [], _ => []
  | x :: l, k => mk x k :: mkL w mk l (k + w x)
theorem mkL_len {α : Type} (w : α → Nat) (mk : α → Int → α) : (l : List α) → (k : Int) → (mkL w mk l k).length = l.length
  | [], _ => rfl
  | x :: l, k => by simp [mkL, mkL_len w mk l]
theorem mkL_append {α : Type} (w : α → Nat) (mk : α → Int → α) : (l m : List α) → (k : Int) → mkL w mk (l ++ m) k = mkL w mk l k ++ mkL w mk m (k + ((l.map w).sum : Nat))
  | [], m, k => by simp [mkL]
  | x :: l, m, k => by
    simp only [List.cons_append, mkL, List.map_cons, List.sum_cons]
    rw [mkL_append w mk l m]
    congr 3
    omega
theorem mkL_sum {α : Type} (w : α → Nat) (mk : α → Int → α) (b : α → Nat) (h : ∀ x k, b (mk x k) = b x) : (l : List α) → (k : Int) → ((mkL w mk l k).map b).sum = (l.map b).sum
  | [], _ => rfl
  | x :: l, k => by simp only [mkL, List.map_cons, List.sum_cons, h, mkL_sum w mk b h l]

theorem sum_take {α : Type} (w : α → Nat) (a : List α) (i : Nat) (h : i < a.length) : ((a.take (i + 1)).map w).sum = ((a.take i).map w).sum + w a[i] := by
  rw [List.take_succ_eq_append_getElem h, List.map_append, List.sum_append, List.map_cons, List.map_nil, List.sum_cons, List.sum_nil, Nat.add_zero]
theorem sum_take_le {α : Type} (w : α → Nat) (a : List α) (i : Nat) : ((a.take i).map w).sum ≤ (a.map w).sum := by
  have : (a.map w).sum = ((a.take i).map w).sum + ((a.drop i).map w).sum := by
    rw [← List.sum_append, ← List.map_append, List.take_append_drop]
  omega

theorem mark_loop {α : Type} (w : α → Nat) (mk : α → Int → α) (a : List α) (k : Int) {V K : Type} (st : List α → Int → Int → V) {step : V → (V → Res) → K → Res} (q : K) (fin : List α → Int → Res)
    (hlen : a.length ≤ LIM)
    (hs : ∀ (l : List α) (i : Nat) rec, (hi : i < a.length) → l.length = a.length → (hl : i < l.length) → l[i] = a[i] → step (st l (k + (((a.take i).map w).sum : Nat)) i) rec q = rec (st (l.set i (mk a[i] (k + (((a.take i).map w).sum : Nat)))) (k + (((a.take i).map w).sum : Nat) + w a[i]) (i + 1)))
    (he : ∀ l k rec, l.length = a.length → step (st l k (a.length : Int)) rec q = fin l k) : iter step FUEL (st a k 0) q = fin (mkL w mk a k) (k + ((a.map w).sum : Nat)) := by
  have := iter_count (step := step) (fun i => st (mkL w mk (a.take i) k ++ a.drop i) (k + (((a.take i).map w).sum : Nat)) i) a.length q (fin (mkL w mk a k) (k + ((a.map w).sum : Nat))) (fun i hi rec => by
    have hlm : (mkL w mk (a.take i) k).length = i := by rw [mkL_len]; simp; omega
    have hl : (mkL w mk (a.take i) k ++ a.drop i).length = a.length := by simp [hlm]; omega
    rw [hs _ i rec hi hl (by omega) (by rw [List.getElem_append_right (by omega)]; simp [hlm])]
    have h1 : (mkL w mk (a.take i) k ++ a.drop i).set i (mk a[i] (k + (((a.take i).map w).sum : Nat))) = mkL w mk (a.take (i + 1)) k ++ a.drop (i + 1) := by
      rw [List.set_append_right _ _ (by omega), hlm, Nat.sub_self, List.drop_eq_getElem_cons hi, List.set_cons_zero, List.take_succ_eq_append_getElem hi, mkL_append]
      simp [mkL]
    rw [h1, sum_take w a i hi]
    have h2 : k + (((a.take i).map w).sum : Nat) + (w a[i] : Int) = k + ((((a.take i).map w).sum + w a[i] : Nat) : Int) := by omega
    rw [h2]
    rfl) (fun rec => by
    rw [he _ _ _ (by simp [mkL_len])]
    simp) FUEL (FUEL_lt (by unfold LIM at hlen; omega))
  simpa [mkL] using this

theorem mkL_get {α : Type} (w : α → Nat) (mk : α → Int → α) (a : List α) (k : Int) (i : Nat) (h : i < a.length) (h' : i < (mkL w mk a k).length) : (mkL w mk a k)[i] = mk a[i] (k + (((a.take i).map w).sum : Nat)) := by
  induction a generalizing k i with
  | nil => simp at h
  | cons x l ih =>
    cases i with
    | zero => simp [mkL]
    | succ i =>
      simp only [mkL, List.getElem_cons_succ, List.take_succ_cons, List.map_cons, List.sum_cons]
      rw [ih _ _ (by simpa using h)]
      congr 1
      omega

theorem held_loop {α : Type} (w : α → Nat) (a : List α) (k : Int) {V K : Type} (st : Int → Int → V) {step : V → (V → Res) → K → Res} (q : K) (fin : Int → Res) (hlen : a.length ≤ LIM)
    (hs : ∀ (i : Nat) rec, (hi : i < a.length) → step (st (k + (((a.take i).map w).sum : Nat)) i) rec q = rec (st (k + (((a.take i).map w).sum : Nat) + w a[i]) (i + 1)))
    (he : ∀ k rec, step (st k (a.length : Int)) rec q = fin k) : iter step FUEL (st k 0) q = fin (k + ((a.map w).sum : Nat)) := by
  have := iter_count (step := step) (fun i => st (k + (((a.take i).map w).sum : Nat)) i) a.length q (fin (k + ((a.map w).sum : Nat))) (fun i hi rec => by
    rw [hs i rec hi, sum_take w a i hi]
    have h2 : k + (((a.take i).map w).sum : Nat) + (w a[i] : Int) = k + ((((a.take i).map w).sum + w a[i] : Nat) : Int) := by omega
    rw [h2]
    rfl) (fun rec => by
    rw [he]
    simp) FUEL (FUEL_lt (by unfold LIM at hlen; omega))
  simpa using this

theorem scan_loop {V K : Type} (N : Nat) (st : Int → V) (bad : Nat → Bool) {step : V → (V → Res) → K → Res} (q : K) (fin : Res) (ex : Nat → Res) (hN : N ≤ LIM)
    (hs : ∀ (i : Nat) rec, i < N → step (st i) rec q = bif bad i then ex i else rec (st ((i : Int) + 1))) (he : ∀ rec, step (st (N : Int)) rec q = fin) :
    iter step FUEL (st 0) q = match (List.range N).find? bad with | none => fin | some i => ex i := by
  have key : ∀ (d i n : Nat), i + d = N → d < n → iter step n (st i) q = match (List.range' i d).find? bad with | none => fin | some i => ex i := by
    intro d
    induction d with
    | zero =>
      intro i n hi hn
      obtain ⟨n, rfl⟩ : ∃ m, n = m + 1 := ⟨n - 1, by omega⟩
      have : i = N := by omega
      subst this
      show step _ _ q = _
      rw [he]
      rfl
    | succ d ih =>
      intro i n hi hn
      obtain ⟨n, rfl⟩ : ∃ m, n = m + 1 := ⟨n - 1, by omega⟩
      show step _ _ q = _
      rw [hs i _ (by omega), List.range'_succ, List.find?_cons]
      cases bad i with
      | true => rfl
      | false =>
        have := ih (i + 1) n (by omega) (by omega)
        rw [show ((i : Int) + 1) = ((i + 1 : Nat) : Int) by omega, cond_false]
        exact this
  have := key N 0 FUEL (by omega) (FUEL_lt (by unfold LIM at hN; omega))
  rw [List.range_eq_range']
  exact this

theorem find_const {bad : Nat → Bool} {l : List Nat} {a b : Res} : (match l.find? bad with | none => a | some _ => b) = bif l.any bad then b else a := by
  induction l with
  | nil => rfl
  | cons x l ih =>
    rw [List.find?_cons, List.any_cons]
    cases bad x with
    | true => rfl
    | false => exact ih
theorem find_bool {bad : Nat → Bool} {l : List Nat} {k : Bool → Res} {u v : Bool} : (bif l.any bad then k u else k v) = k (bif l.any bad then u else v) := by
  cases l.any bad <;> rfl
theorem sEq_comm (a b : ByteArray) : sEq a b = sEq b a := by
  unfold sEq; exact BEq.comm
theorem sEq_self (a : ByteArray) : sEq a a = true := by unfold sEq; simp
theorem sNe_self (a : ByteArray) : sNe a a = false := by unfold sNe; simp

theorem bne_f {α : Type} [BEq α] [LawfulBEq α] (n : α) : (n != n) = false := by simp
def foldN {A : Type} (f : Nat → A → A) : Nat → Nat → A → A
  | _, 0, a => a
  | i, d + 1, a => foldN f (i + 1) d (f i a)

theorem fold_loop {A V K : Type} (N : Nat) (st : Int → A → V) (f : Nat → A → A) (p : Nat → A → Prop) {step : V → (V → Res) → K → Res} (q : K) (fin : A → Res) (a0 : A) (hN : N ≤ LIM) (h0 : p 0 a0)
    (hp : ∀ (i : Nat) a, i < N → p i a → p (i + 1) (f i a)) (hs : ∀ (i : Nat) a rec, i < N → p i a → step (st i a) rec q = rec (st ((i : Int) + 1) (f i a)))
    (he : ∀ a rec, p N a → step (st (N : Int) a) rec q = fin a) : iter step FUEL (st 0 a0) q = fin (foldN f 0 N a0) ∧ p N (foldN f 0 N a0) := by
  have key : ∀ (d i n : Nat) (a : A), i + d = N → d < n → p i a → iter step n (st i a) q = fin (foldN f i d a) ∧ p N (foldN f i d a) := by
    intro d
    induction d with
    | zero =>
      intro i n a hi hn ha
      obtain ⟨n, rfl⟩ : ∃ m, n = m + 1 := ⟨n - 1, by omega⟩
      have : i = N := by omega
      subst this
      exact ⟨he a _ ha, ha⟩
    | succ d ih =>
      intro i n a hi hn ha
      obtain ⟨n, rfl⟩ : ∃ m, n = m + 1 := ⟨n - 1, by omega⟩
      have := ih (i + 1) n (f i a) (by omega) (by omega) (hp i a (by omega) ha)
      refine ⟨?_, this.2⟩
      show step _ _ q = _
      rw [hs i a _ (by omega) ha, show ((i : Int) + 1) = ((i + 1 : Nat) : Int) by omega]
      exact this.1
  exact key N 0 FUEL a0 (by omega) (FUEL_lt (by unfold LIM at hN; omega)) h0

theorem iter_succ {V K : Type} (step : V → (V → Res) → K → Res) (m : Nat) (v : V) (q : K) : iter step (m + 1) v q = step v (fun v' => iter step m v' q) q := rfl
end Go.PI
namespace Go.PI

def walkL {α A E : Type} (f : Nat → A → α → Except E A) : Nat → List α → A → Except E A
  | _, [], a => .ok a
  | i, x :: l, a => match f i a x with
    | .ok a' => walkL f (i + 1) l a'
    | .error e => .error e

theorem walk_loop {α A E V K : Type} (l : List α) (st : Int → A → V) (f : Nat → A → α → Except E A) (p : Nat → A → Prop) {step : V → (V → Res) → K → Res} (q : K) (fin : A → Res) (ex : E → Res) (a0 : A) (hN : l.length ≤ LIM) (h0 : p 0 a0)
    (hp : ∀ (i : Nat) a a', (hi : i < l.length) → p i a → f i a l[i] = .ok a' → p (i + 1) a')
    (hs : ∀ (i : Nat) a rec, (hi : i < l.length) → p i a → step (st i a) rec q = match f i a l[i] with | .ok a' => rec (st ((i : Int) + 1) a') | .error e => ex e)
    (he : ∀ a rec, p l.length a → step (st (l.length : Int) a) rec q = fin a) : iter step FUEL (st 0 a0) q = match walkL f 0 l a0 with | .ok a => fin a | .error e => ex e := by
  have key : ∀ (d i n : Nat) (a : A), i + d = l.length → d < n → p i a → iter step n (st i a) q = match walkL f i (l.drop i) a with | .ok a => fin a | .error e => ex e := by
    intro d
    induction d with
    | zero =>
      intro i n a hi hn ha
      obtain ⟨n, rfl⟩ : ∃ m, n = m + 1 := ⟨n - 1, by omega⟩
      have : i = l.length := by omega
      subst this
      rw [List.drop_length]
      exact he a _ ha
    | succ d ih =>
      intro i n a hi hn ha
      obtain ⟨n, rfl⟩ : ∃ m, n = m + 1 := ⟨n - 1, by omega⟩
      have hlt : i < l.length := by omega
      show step _ _ q = _
      rw [hs i a _ hlt ha, List.drop_eq_getElem_cons hlt]
      simp only [walkL]
      cases hf : f i a l[i] with
      | error e => rfl
      | ok a' =>
        have := ih (i + 1) n a' (by omega) (by omega) (hp i a a' hlt ha hf)
        rw [show ((i : Int) + 1) = ((i + 1 : Nat) : Int) by omega]
        exact this
  have := key l.length 0 FUEL a0 (by omega) (FUEL_lt (by unfold LIM at hN; omega)) h0
  simpa using this

theorem walkL_inv {α A E : Type} {f : Nat → A → α → Except E A} (p : Nat → A → Prop) : (l : List α) → (i : Nat) → (a b : A) → p i a → (∀ (j : Nat) x a a', x ∈ l → p j a → f j a x = .ok a' → p (j + 1) a') → walkL f i l a = .ok b → p (i + l.length) b
  | [], i, a, b, h0, _, h => by
    simp only [walkL, Except.ok.injEq] at h
    subst h; exact h0
  | x :: l, i, a, b, h0, hp, h => by
    simp only [walkL] at h
    split at h
    · rename_i a' hf
      have := walkL_inv p l (i + 1) a' b (hp i x a a' (by simp) h0 hf) (fun j y a a' hy => hp j y a a' (List.mem_cons_of_mem _ hy)) h
      rw [List.length_cons]
      rw [show i + (l.length + 1) = i + 1 + l.length by omega]
      exact this
    · cases h

theorem foldl_loop {α A V K : Type} (l : List α) (st : Int → A → V) (f : A → α → A) (p : Nat → A → Prop) {step : V → (V → Res) → K → Res} (q : K) (fin : A → Res) (a0 : A) (hN : l.length ≤ LIM) (h0 : p 0 a0)
    (hp : ∀ (i : Nat) a, (hi : i < l.length) → p i a → p (i + 1) (f a l[i]))
    (hs : ∀ (i : Nat) a rec, (hi : i < l.length) → p i a → step (st i a) rec q = rec (st ((i : Int) + 1) (f a l[i])))
    (he : ∀ a rec, p l.length a → step (st (l.length : Int) a) rec q = fin a) : iter step FUEL (st 0 a0) q = fin (l.foldl f a0) := by
  have h := walk_loop l st (fun _ a x => (.ok (f a x) : Except Empty A)) p q fin (fun e => e.elim) a0 hN h0 (fun i a a' hi ha h => by cases h; exact hp i a hi ha) (fun i a rec hi ha => hs i a rec hi ha) he
  rw [h]
  have : ∀ (l : List α) (i : Nat) (a : A), walkL (fun _ a x => (.ok (f a x) : Except Empty A)) i l a = .ok (l.foldl f a) := by
    intro l
    induction l with
    | nil => intro i a; rfl
    | cons x l ih => intro i a; simp only [walkL, List.foldl_cons]; exact ih _ _
  rw [this]

theorem flat_loop {α β V K : Type} (l : List α) (st : Int → List β → V) (g : α → List β) (B : Nat) (pre : List β) {step : V → (V → Res) → K → Res} (q : K) (fin : List β → Res) (hN : l.length ≤ LIM)
    (hg : ∀ (i : Nat) (hi : i < l.length), (pre ++ (l.take i).flatMap g).length ≤ B → (pre ++ (l.take (i + 1)).flatMap g).length ≤ B) (h0 : pre.length ≤ B)
    (hs : ∀ (i : Nat) (out : List β) rec, (hi : i < l.length) → out = pre ++ (l.take i).flatMap g → out.length ≤ B → step (st i out) rec q = rec (st ((i : Int) + 1) (out ++ g l[i])))
    (he : ∀ out rec, step (st (l.length : Int) out) rec q = fin out) : iter step FUEL (st 0 pre) q = fin (pre ++ l.flatMap g) := by
  have ht : ∀ (i : Nat) (hi : i < l.length), (l.take (i + 1)).flatMap g = (l.take i).flatMap g ++ g l[i] := fun i hi => by
    rw [List.take_succ_eq_append_getElem hi, List.flatMap_append, List.flatMap_cons, List.flatMap_nil, List.append_nil]
  have := foldl_loop l st (fun out x => out ++ g x) (fun i out => out = pre ++ (l.take i).flatMap g ∧ out.length ≤ B) q fin pre hN ⟨by simp, h0⟩
    (fun i a hi ha => by
      have h1 : a ++ g l[i] = pre ++ (l.take (i + 1)).flatMap g := by rw [ht i hi, ← List.append_assoc, ← ha.1]
      exact ⟨h1, by rw [h1]; exact hg i hi (by rw [← ha.1]; exact ha.2)⟩)
    (fun i a rec hi ha => hs i a rec hi ha.1 ha.2) (fun a rec _ => he a rec)
  rw [this]
  congr 1
  have : ∀ (l : List α) (acc : List β), l.foldl (fun out x => out ++ g x) acc = acc ++ l.flatMap g := by
    intro l
    induction l with
    | nil => intro acc; simp
    | cons x l ih => intro acc; simp [ih, List.append_assoc]
  rw [this]

theorem any_loop {α V K : Type} (l : List α) (st : Int → V) (bad : α → Bool) {step : V → (V → Res) → K → Res} (q : K) (fin ex : Res) (hN : l.length ≤ LIM)
    (hs : ∀ (i : Nat) rec, (hi : i < l.length) → step (st i) rec q = bif bad l[i] then ex else rec (st ((i : Int) + 1))) (he : ∀ rec, step (st (l.length : Int)) rec q = fin) :
    iter step FUEL (st 0) q = bif l.any bad then ex else fin := by
  have h := walk_loop l (fun i (_ : Unit) => st i) (fun _ _ x => if bad x then .error () else (.ok () : Except Unit Unit)) (fun _ _ => True) q (fun _ => fin) (fun _ => ex) () hN trivial (fun _ _ _ _ _ _ => trivial)
    (fun i a rec hi _ => by
      rw [hs i rec hi]
      cases bad l[i] <;> rfl) (fun a rec _ => he rec)
  rw [h]
  have : ∀ (l : List α) (i : Nat), walkL (fun _ _ x => if bad x then .error () else (.ok () : Except Unit Unit)) i l () = bif l.any bad then .error () else .ok () := by
    intro l
    induction l with
    | nil => intro i; rfl
    | cons x l ih =>
      intro i
      simp only [walkL, List.any_cons]
      cases bad x with
      | true => rfl
      | false => exact ih _
  rw [this]
  cases l.any bad <;> rfl

def anyI {α : Type} (bad : Nat → α → Bool) : Nat → List α → Bool
  | _, [] => false
  | i, x :: l => bad i x || anyI bad (i + 1) l
theorem anyI_loop {α V K : Type} (l : List α) (st : Int → V) (bad : Nat → α → Bool) {step : V → (V → Res) → K → Res} (q : K) (fin ex : Res) (hN : l.length ≤ LIM)
    (hs : ∀ (i : Nat) rec, (hi : i < l.length) → step (st i) rec q = bif bad i l[i] then ex else rec (st ((i : Int) + 1))) (he : ∀ rec, step (st (l.length : Int)) rec q = fin) :
    iter step FUEL (st 0) q = bif anyI bad 0 l then ex else fin := by
  have h := walk_loop l (fun i (_ : Unit) => st i) (fun i _ x => if bad i x then .error () else (.ok () : Except Unit Unit)) (fun _ _ => True) q (fun _ => fin) (fun _ => ex) () hN trivial (fun _ _ _ _ _ _ => trivial)
    (fun i a rec hi _ => by
      rw [hs i rec hi]
      cases bad i l[i] <;> rfl) (fun a rec _ => he rec)
  rw [h]
  have : ∀ (l : List α) (i : Nat), walkL (fun i _ x => if bad i x then .error () else (.ok () : Except Unit Unit)) i l () = bif anyI bad i l then .error () else .ok () := by
    intro l
    induction l with
    | nil => intro i; rfl
    | cons x l ih =>
      intro i
      simp only [walkL, anyI]
      cases bad i x with
      | true => rfl
      | false => exact ih _
  rw [this]
  cases anyI bad 0 l <;> rfl

def idxI {α : Type} (p : α → Bool) (l : List α) : Int := match l.findIdx? p with | some i => (i : Int) | none => -1
theorem find_loop {α V K : Type} (l : List α) (st : Int → V) (p : α → Bool) {step : V → (V → Res) → K → Res} (q : K) (k : Int → Res) (hN : l.length ≤ LIM)
    (hs : ∀ (i : Nat) rec, (hi : i < l.length) → step (st i) rec q = bif p l[i] then k i else rec (st ((i : Int) + 1))) (he : ∀ rec, step (st (l.length : Int)) rec q = k (-1)) :
    iter step FUEL (st 0) q = k (idxI p l) := by
  have h := walk_loop l (fun i (_ : Unit) => st i) (fun i _ x => if p x then .error i else (.ok () : Except Nat Unit)) (fun _ _ => True) q (fun _ => k (-1)) (fun i => k i) () hN trivial (fun _ _ _ _ _ _ => trivial)
    (fun i a rec hi _ => by
      rw [hs i rec hi]
      cases p l[i] <;> rfl) (fun a rec _ => he rec)
  rw [h]
  have : ∀ (l : List α) (i : Nat), walkL (fun i _ x => if p x then .error i else (.ok () : Except Nat Unit)) i l () = match l.findIdx? p with | some j => .error (i + j) | none => .ok () := by
    intro l
    induction l with
    | nil => intro i; rfl
    | cons x l ih =>
      intro i
      simp only [walkL, List.findIdx?_cons]
      cases hx : p x with
      | true => rfl
      | false =>
        simp only [Bool.false_eq_true, if_false]
        rw [ih]
        cases l.findIdx? p with
        | none => rfl
        | some j => simp only [Option.map_some]; congr 1; omega
  rw [this]
  unfold idxI
  cases l.findIdx? p with
  | none => rfl
  | some j => simp
end Go.PI
