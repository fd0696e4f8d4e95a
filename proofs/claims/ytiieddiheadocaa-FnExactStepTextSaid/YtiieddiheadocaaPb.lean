/-
  Plain interpretation of the program's code over typed values, and that it tells what the machine does (part 2). No conditions.
-/
import Derived.Test.YtiieddiheadocaaPa
import Derived.Laws.StructEq
import Derived.Laws.IdiomStrings
import Derived.Laws.MakeOwn
import Derived.Great.BuildSlice
import Derived.Laws.AppendOwn
import Derived.Lib.AppendStr
import Derived.OrdersHeld
import Derived.Deep.LoopGhost
import Derived.Scope
set_option linter.unusedVariables false
set_option linter.unusedSimpArgs false
namespace Go.PI

theorem tyAt_fst' {τ τf : Ty} (h : tyAt τ [.fst] = some τf) : ∃ b, τ = .pair τf b := by
  cases τ with
  | pair a b => simp only [tyAt, Option.some.injEq] at h; subst h; exact ⟨b, rfl⟩
  | _ => simp [tyAt] at h
theorem tyAt_snd' {τ τf : Ty} {p : List Step} (h : tyAt τ (.snd :: p) = some τf) : ∃ a b, τ = .pair a b ∧ tyAt b p = some τf := by
  cases τ with
  | pair a b => exact ⟨a, b, rfl, by simpa [tyAt] using h⟩
  | _ => simp [tyAt] at h

section
variable {W0 : Base} {M : Nat → Prop} {σ : State} {a : Act} {w : World} {G : Ghost} {xs : List Nat} {P : Program} {tys : List (TypeId × Ty × List TypeId)} {o : Oper} {g : Bool} {tv : TV}
variable {F : Nat → Nat} {St Al : Nat → Prop}

theorem eqOk_assoc {n : Nat} {t : TypeId} (h : eqOk tys n t = true) : ∃ m τ l, n = m + 1 ∧ assoc tys t = some (τ, l) ∧ ((l = [] ∧ ((∃ k, τ = .int k) ∨ τ = .bool ∨ τ = .str)) ∨ (l ≠ [] ∧ ∀ x ∈ l, eqOk tys m x = true)) := by
  cases n with
  | zero => cases h
  | succ m =>
    simp only [eqOk] at h
    split at h
    · rename_i k ha; exact ⟨m, _, _, rfl, ha, .inl ⟨rfl, .inl ⟨k, rfl⟩⟩⟩
    · rename_i ha; exact ⟨m, _, _, rfl, ha, .inl ⟨rfl, .inr (.inl rfl)⟩⟩
    · rename_i ha; exact ⟨m, _, _, rfl, ha, .inl ⟨rfl, .inr (.inr rfl)⟩⟩
    · rename_i τ b l ha
      simp only [Bool.and_eq_true, List.all_eq_true] at h
      refine ⟨m, _, _, rfl, ha, .inr ⟨by simp, fun x hx => ?_⟩⟩
      rcases List.mem_cons.1 hx with rfl | hx
      · exact h.1
      · exact h.2 x hx
    · cases h

theorem eqGuard_no (hT : TysOk P tys) : (n d : Nat) → (t : TypeId) → n ≤ d → eqOk tys n t = true → P.eqGuardType d t = false
  | 0, d, t, _, h => by cases h
  | n + 1, d, t, hd, h => by
    obtain ⟨m, τ, l, hm, ha, hk⟩ := eqOk_assoc h
    obtain rfl : m = n := by omega
    obtain ⟨d, rfl⟩ : ∃ e, d = e + 1 := ⟨d - 1, by omega⟩
    have hF := hT t τ l ha
    rcases hk with ⟨rfl, hk⟩ | ⟨hl, hk⟩
    · obtain ⟨u1, u2, u3, _⟩ := hF.und rfl
      rcases hk with ⟨k, rfl⟩ | rfl | rfl
      · simp only [Program.eqGuardType, u1 k rfl]
      · simp only [Program.eqGuardType, u2 rfl]
      · simp only [Program.eqGuardType, u3 rfl]
    · obtain ⟨fs, hu, hfl, hfs, _⟩ := hF.str hl
      simp only [Program.eqGuardType, hu]
      rw [Array.any_eq_false]
      intro i hi
      obtain ⟨f, τf, lf, h1, h2, _⟩ := (hfs i (by omega)).out
      have hf : fs[i] = f := by rw [Array.getElem?_eq_getElem hi] at h1; simpa using h1
      rw [hf, h2]
      have hx : eqOk tys m (l.getD i 0) = true := hk _ (by rw [List.getD_eq_getElem?_getD, List.getElem?_eq_getElem (by omega)]; exact List.getElem_mem _)
      rw [eqGuard_no hT m d _ (by omega) hx]
      simp

def EqT (P : Program) (tys : List (TypeId × Ty × List TypeId)) (w : World) (F : Nat → Nat) (St Al : Nat → Prop) (d : Nat) (t : TypeId) : Prop :=
  ∀ τ l, assoc tys t = some (τ, l) → ∀ (cs1 cs2 : List Value) (x y : El τ) (tg1 tg2 : List Tag), Rp w F St Al τ tg1 cs1 x [] → Rp w F St Al τ tg2 cs2 y [] → ∀ b, eqEl τ x y = some b → ∀ w2,
    (Op.equalIn d t (gathered (!l.isEmpty) cs1) (gathered (!l.isEmpty) cs2)).run P w2 = .ok b w2

theorem pair_nil {a b : Ty} {tg : List Tag} {cs : List Value} {x : El (.pair a b)} (h : Rp w F St Al (.pair a b) tg cs x []) : ∃ t1 t2 c1 c2, cs = c1 ++ c2 ∧ Rp w F St Al a t1 c1 x.1 [] ∧ Rp w F St Al b t2 c2 x.2 [] := by
  obtain ⟨t1, t2, c1, c2, f1, f2, _, rfl, hf, h1, h2⟩ := h
  have := List.append_eq_nil_iff.1 hf.symm
  rw [this.1] at h1
  rw [this.2] at h2
  exact ⟨t1, t2, c1, c2, rfl, h1, h2⟩

theorem eq_fields (hT : TysOk P tys) (d : Nat) (cs1 cs2 : Array Value) (w2 : World) : (m : Nat) → (fl : List Field) → (τ : Ty) → (off : Nat) → m ≠ 0 → fl.length = m →
    (∀ i, i < m → ∃ f τf lf, fl[i]? = some f ∧ f.offset = off + offP τ (fieldPath m i) ∧ tyAt τ (fieldPath m i) = some τf ∧ assoc tys f.type = some (τf, lf) ∧ f.name ≠ "_" ∧ EqT P tys w F St Al d f.type) →
    ∀ (x y : El τ) (tg1 tg2 : List Tag), Rp w F St Al τ tg1 (cs1.toList.drop off) x [] → Rp w F St Al τ tg2 (cs2.toList.drop off) y [] → ∀ b, eqEl τ x y = some b → (Op.eqFields d cs1 cs2 fl).run P w2 = .ok b w2
  | 0, fl, τ, off, h, _, _, x, y, tg1, tg2, h1, h2, b, hb => absurd rfl h
  | 1, fl, τ, off, _, hl, hf, x, y, tg1, tg2, h1, h2, b, hb => by
    obtain ⟨f, τf, lf, g1, g2, g3, g4, g5, g6⟩ := hf 0 (by omega)
    obtain ⟨f', rfl⟩ := List.length_eq_one_iff.1 hl
    simp only [List.getElem?_cons_zero, Option.some.injEq] at g1
    subst g1
    simp only [fieldPath, tyAt_nil, Option.some.injEq, offP_nil, Nat.add_zero] at g2 g3
    subst g3
    have s1 := h1.len.1
    have s2 := h2.len.1
    simp only [List.length_drop, Array.length_toList] at s1 s2
    have hpos := (hT _ _ _ g4)
    have e1 := run_part hT g4 (cs := cs1) (off := off)
    have e2 := run_part hT g4 (cs := cs2) (off := off)
    by_cases hz : size τ = 0
    · obtain ⟨i, z, q1, q2, q3, q4, _⟩ := hpos.info
      -- nothing is of no size
      exfalso
      by_cases hlf : lf = []
      · obtain ⟨_, _, _, _, u5, u6⟩ := hpos.und hlf
        cases τ with
        | unit => exact u5 rfl
        | pair a b => exact u6 a b rfl
        | _ => simp [size] at hz
      · obtain ⟨fs, _, _, q5, _⟩ := hpos.str hlf
        obtain ⟨f2, τ2, l2, _, _, _, q6, _, q7, _⟩ := (q5 0 (List.length_pos_iff.2 hlf)).out
        match hn : lf.length with
        | 0 => exact absurd (List.length_eq_zero_iff.1 hn) hlf
        | 1 =>
          rw [hn] at q6
          simp only [fieldPath, tyAt_nil, Option.some.injEq] at q6
          subst q6
          exact q7 hz
        | n + 2 =>
          rw [hn] at q6
          simp only [fieldPath] at q6
          obtain ⟨b, rfl⟩ := tyAt_fst' q6
          simp only [size] at hz
          omega
    · have e1 := e1 (by omega) w2
      have e2 := e2 (by omega) w2
      rw [List.take_of_length_le (by simp; omega)] at e1 e2
      have e3 := g6 τ lf g4 _ _ x y tg1 tg2 h1 h2 b hb w2
      simp only [Op.eqFields, g5, ne_eq, not_false_eq_true, if_true, Sem.run_bind, g2, e1, e2, e3, Result.andThen_ok]
      cases b <;> simp
  | m + 2, fl, τ, off, _, hl, hf, x, y, tg1, tg2, h1, h2, b, hb => by
    obtain ⟨f, τf, lf, g1, g2, g3, g4, g5, g6⟩ := hf 0 (by omega)
    cases fl with
    | nil => simp at hl
    | cons f' fl =>
      simp only [List.getElem?_cons_zero, Option.some.injEq] at g1
      subst g1
      simp only [fieldPath] at g2 g3
      obtain ⟨τb, rfl⟩ := tyAt_fst' g3
      have h0 : offP (.pair τf τb) [.fst] = 0 := by cases τf <;> rfl
      rw [h0, Nat.add_zero] at g2
      obtain ⟨ta1, tb1, ca1, cb1, k1, r1, r2⟩ := pair_nil h1
      obtain ⟨ta2, tb2, ca2, cb2, k2, r3, r4⟩ := pair_nil h2
      simp only [eqEl] at hb
      split at hb
      · rename_i p q hp hq
        cases hb
        have s1 := r1.len.1
        have s2 := r3.len.1
        have l1 : (cs1.toList.drop off).length = ca1.length + cb1.length := by rw [k1, List.length_append]
        have l2 : (cs2.toList.drop off).length = ca2.length + cb2.length := by rw [k2, List.length_append]
        simp only [List.length_drop, Array.length_toList] at l1 l2
        by_cases hz : size τf = 0
        · -- nothing is of no size
          exfalso
          have hpos := (hT _ _ _ g4)
          by_cases hlf : lf = []
          · obtain ⟨_, _, _, _, u5, u6⟩ := hpos.und hlf
            cases τf with
            | unit => exact u5 rfl
            | pair a b => exact u6 a b rfl
            | _ => simp [size] at hz
          · obtain ⟨fs, _, _, q5, _⟩ := hpos.str hlf
            obtain ⟨f2, τ2, l2, _, _, _, q6, _, q7, _⟩ := (q5 0 (List.length_pos_iff.2 hlf)).out
            match hn : lf.length with
            | 0 => exact absurd (List.length_eq_zero_iff.1 hn) hlf
            | 1 =>
              rw [hn] at q6
              simp only [fieldPath, tyAt_nil, Option.some.injEq] at q6
              subst q6
              exact q7 hz
            | n + 2 =>
              rw [hn] at q6
              simp only [fieldPath] at q6
              obtain ⟨b, rfl⟩ := tyAt_fst' q6
              simp only [size] at hz
              omega
        have e1 := run_part hT g4 (cs := cs1) (off := off) (by omega) w2
        have e2 := run_part hT g4 (cs := cs2) (off := off) (by omega) w2
        rw [k1, List.take_left' s1] at e1
        rw [k2, List.take_left' s2] at e2
        have e3 := g6 τf lf g4 _ _ x.1 y.1 ta1 ta2 r1 r3 p hp w2
        have d1 : cs1.toList.drop (off + size τf) = cb1 := by rw [← List.drop_drop, k1, List.drop_left' s1]
        have d2 : cs2.toList.drop (off + size τf) = cb2 := by rw [← List.drop_drop, k2, List.drop_left' s2]
        have e4 := eq_fields hT d cs1 cs2 w2 (m + 1) fl τb (off + size τf) (by omega) (by simpa using hl) (fun i hi => by
          obtain ⟨f, τg, lg, q1, q2, q3, q4, q5, q6⟩ := hf (i + 1) (by omega)
          simp only [fieldPath] at q2 q3
          obtain ⟨a', b', he, q3'⟩ := tyAt_snd' q3
          cases he
          refine ⟨f, τg, lg, by simpa using q1, ?_, q3', q4, q5, q6⟩
          have : offP (.pair τf τb) (.snd :: fieldPath (m + 1) i) = size τf + offP τb (fieldPath (m + 1) i) := rfl
          rw [q2, this]; omega) x.2 y.2 tb1 tb2 (by rw [d1]; exact r2) (by rw [d2]; exact r4) q hq
        simp only [Op.eqFields, g5, ne_eq, not_false_eq_true, if_true, Sem.run_bind, g2, e1, e2, e3, Result.andThen_ok]
        cases p
        · simp
        · simpa using e4
      · cases hb

theorem eq_types (hT : TysOk P tys) : (n d : Nat) → (t : TypeId) → n ≤ d → eqOk tys n t = true → EqT P tys w F St Al d t
  | 0, d, t, _, h => by cases h
  | n + 1, d, t, hd, h => by
    obtain ⟨m, τ, l, hm, ha, hk⟩ := eqOk_assoc h
    obtain rfl : m = n := by omega
    obtain ⟨d, rfl⟩ : ∃ e, d = e + 1 := ⟨d - 1, by omega⟩
    have hF := hT t τ l ha
    intro τ' l' ha' cs1 cs2 x y tg1 tg2 h1 h2 b hb w2
    rw [ha] at ha'
    cases ha'
    rcases hk with ⟨rfl, hk⟩ | ⟨hl, hk⟩
    · obtain ⟨u1, u2, u3, _⟩ := hF.und rfl
      rcases hk with ⟨k, rfl⟩ | rfl | rfl
      · obtain ⟨rfl, _, _⟩ := h1
        obtain ⟨rfl, _, _⟩ := h2
        simp only [eqEl, Option.some.injEq] at hb
        subst hb
        show (Op.equalIn (d + 1) t (.int k x) (.int k y)).run P w2 = _
        simp only [Op.equalIn, Sem.run_bind, run_underlying (u1 k rfl), Result.andThen_ok, if_true, Sem.run_pure]
      · obtain ⟨rfl, _, _⟩ := h1
        obtain ⟨rfl, _, _⟩ := h2
        simp only [eqEl, Option.some.injEq] at hb
        subst hb
        show (Op.equalIn (d + 1) t (.bool x) (.bool y)).run P w2 = _
        simp only [Op.equalIn, Sem.run_bind, run_underlying (u2 rfl), Result.andThen_ok, Sem.run_pure]
      · obtain ⟨rfl, _, _⟩ := h1
        obtain ⟨rfl, _, _⟩ := h2
        simp only [eqEl, Option.some.injEq] at hb
        subst hb
        show (Op.equalIn (d + 1) t (.string x) (.string y)).run P w2 = _
        simp only [Op.equalIn, Sem.run_bind, run_underlying (u3 rfl), Result.andThen_ok, Sem.run_pure]
        rw [beq_toListBytes]
    · obtain ⟨fs, hu, hfl, hfs, hst⟩ := hF.str hl
      have hie : (!l.isEmpty) = true := by cases l <;> simp_all
      rw [hie]
      have hfo : P.fieldsOf t = fs := by simp [Program.fieldsOf, hu]
      show (Op.equalIn (d + 1) t (.agg cs1.toArray) (.agg cs2.toArray)).run P w2 = _
      rw [run_equalIn_struct w2 d t _ _ (by rw [hfo]; exact hu) hst, hfo]
      refine eq_fields hT d _ _ w2 l.length fs.toList τ 0 (by simpa using hl) (by simpa using hfl) (fun i hi => ?_) x y tg1 tg2 (by simpa using h1) (by simpa using h2) b hb
      obtain ⟨f, τf, lf, q1, q2, q3, q4, q5, _, q7⟩ := (hfs i hi).out
      refine ⟨f, τf, lf, by rw [Array.getElem?_toList]; exact q1, by rw [q3]; omega, q4, q5, q7, ?_⟩
      have hx : eqOk tys m f.type = true := by
        rw [q2]
        exact hk _ (by rw [List.getD_eq_getElem?_getD, List.getElem?_eq_getElem hi]; exact List.getElem_mem _)
      exact eq_types hT m d f.type (by omega) hx

theorem soft_eqV (hT : TysOk P tys) (I : Inv W0 M σ a w G xs) {op : BinOp} {t ty : TypeId} {x y : Operand} (ho : o.op = .binOp op t x y ty) {u v : TVal} (hu : σ.look x = some u) (hv : σ.look y = some v) (hua : u.ag = true) (hva : v.ag = true)
    {r : Bool × TVal} (hr : eqV tys t op u v = some r) : SoftAll P σ a w G o (.val r.2) := by
  unfold eqV at hr
  split at hr
  · rename_i hc
    simp only [Bool.and_eq_true, decide_eq_true_eq] at hc
    obtain ⟨⟨hok, hag⟩, hty⟩ := hc
    obtain ⟨l, hta, hl⟩ := tyOf_assoc hty
    rw [hag] at hl
    obtain ⟨hR1, hs1⟩ := look_rel I hu
    obtain ⟨hR2, hs2⟩ := look_rel I hv
    obtain ⟨τ, ag, p, tg⟩ := u
    obtain ⟨τ', ag', q, tg'⟩ := v
    simp only at hua hva hs1 hs2 hR1 hR2 hta
    subst hua; subst hva
    obtain ⟨c1, e1⟩ := hs1
    obtain ⟨c2, e2⟩ := hs2
    split at hr
    · rename_i hτ
      simp only at hτ
      subst hτ
      have v1 : vCells (a.eval x) = c1.toList := by rw [e1]; rfl
      have v2 : vCells (a.eval y) = c2.toList := by rw [e2]; rfl
      rw [v1] at hR1
      rw [v2] at hR2
      have hguard : ∀ w2 : World, (eqGuard op t x y (.agg c1) (.agg c2)).run P w2 = .ok () w2 := by
        intro w2
        have h0 := eqGuard_no hT 20 P.depth t (by unfold Program.depth Made.depth; omega) hok
        cases op <;> simp [eqGuard, h0, Sem.run_bind, run_program]
      have heq : ∀ b, eqEl τ' p q = some b → ∀ w2, (Op.equal t (.agg c1) (.agg c2)).run P w2 = .ok b w2 := by
        intro b hb w2
        have := eq_types (w := w) (F := G.F) (St := G.St) (Al := G.Al) hT 20 Op.maxDepth t (by unfold Op.maxDepth; omega) hok _ _ hta _ _ p q tg tg' hR1 hR2 b hb w2
        rw [← hl] at this
        exact this
      split at hr
      · rename_i b hb
        split at hr
        · cases hr
          refine ⟨.bool b, scal_rel rfl ⟨rfl, rfl, rfl⟩, fun w2 => ?_⟩
          rw [exec_with ho]
          simp only [execOp, e1, e2, Sem.run_bind, hguard w2, Result.andThen_ok, binOp, heq b hb w2, Sem.run_pure]
        · cases hr
          refine ⟨.bool (!b), scal_rel rfl ⟨rfl, rfl, rfl⟩, fun w2 => ?_⟩
          rw [exec_with ho]
          simp only [execOp, e1, e2, Sem.run_bind, hguard w2, Result.andThen_ok, binOp, heq b hb w2, Sem.run_pure]
        · cases hr
      · cases hr
    · cases hr
  · cases hr

theorem soft_bin (hT : TysOk P tys) (I : Inv W0 M σ a w G xs) {op : BinOp} {t ty : TypeId} {x y : Operand} (ho : o.op = .binOp op t x y ty) (h : softV tys σ o.op = some (g, tv)) (hg : g = true) : SoftAll P σ a w G o tv := by
  rw [ho] at h
  simp only [softV] at h
  split at h
  · rename_i u v hu hv
    obtain ⟨r, hr, he⟩ := Option.map_eq_some_iff.1 h
    simp only [Prod.mk.injEq] at he
    obtain ⟨hr1, rfl⟩ := he
    rw [hg] at hr1
    split at hr
    · rename_i hag
      simp only [Bool.and_eq_true] at hag
      exact soft_eqV hT I ho hu hv hag.1 hag.2 hr
    · exact soft_binV hT I ho hu hv hr hr1
  · cases h

theorem soft_rel (hT : TysOk P tys) (I : Inv W0 M σ a w G xs) (h : softV tys σ o.op = some (g, tv)) (hg : g = true) : SoftOk P σ a w G o tv := by
  cases hop : o.op with
  | move x => exact (soft_move I hop h).ok
  | unOp op t x => exact (soft_unOp I hop h).ok
  | binOp op t x y ty => exact (soft_bin hT I hop h hg).ok
  | convert s t x => exact soft_convert hT I hop h
  | nilCheck x => exact (soft_nilCheck I hop h).ok
  | makeFunc f fst cs => exact (soft_makeFunc I hop h).ok
  | load t x => exact soft_load hT I hop h
  | slice t x lo hi mx => exact (soft_slice hT I hop h hg).ok
  | fieldAddr t x i => exact (soft_fieldAddr hT I hop h).ok
  | field t x i => exact (soft_field hT I hop h).ok
  | indexAddr t x i => exact (soft_indexAddr hT I hop h hg).ok
  | index t x i => exact (soft_index hT I hop h hg).ok
  | extract x i => exact (soft_extract I hop h).ok
  | call c => exact (soft_len hT I hop h).ok
  | _ => rw [hop] at h; simp [softV] at h
end
end Go.PI
namespace Go.PI

structure Calmer (w : World) (G : Ghost) (w' : World) (G' : Ghost) : Prop where
  a : ∀ w2, Calm w' G' w2 → Calm w G w2
  b : ∀ w2, BCalm w' G' w2 → BCalm w G w2
def BCalmer (w : World) (G : Ghost) (w' : World) (G' : Ghost) : Prop := ∀ w2, BCalm w' G' w2 → BCalm w G w2

theorem Calmer.refl (w : World) (G : Ghost) : Calmer w G w G := ⟨fun _ h => h, fun _ h => h⟩
theorem Calmer.trans {w1 w2 w3 : World} {G1 G2 G3 : Ghost} (h : Calmer w1 G1 w2 G2) (k : Calmer w2 G2 w3 G3) : Calmer w1 G1 w3 G3 := ⟨fun w hc => h.a w (k.a w hc), fun w hc => h.b w (k.b w hc)⟩
theorem Sim.calmer {w : World} {G G' : Ghost} (h : Sim G G') : Calmer w G w G' := ⟨fun w2 hc =>
  ⟨fun b hb ha o n cs hn h1 => hc.1 b hb (by rw [h.Al]; exact ha) o n cs (by rw [h.F]; exact hn) h1, fun i b hb => hc.2 i b ((h.bx b i).2 hb)⟩, fun w2 hc i b hb => hc i b ((h.bx b i).2 hb)⟩

structure Pushed (w w' : World) (o : Obj) : Prop where
  heap : w'.heap = w.heap.push o
  os : w'.os = w.os
  tape : w'.tape = w.tape
  output : w'.output = w.output

theorem Pushed.old {w w' : World} {o : Obj} (h : Pushed w w' o) {b : Nat} (hb : b < w.heap.size) : w'.heap[b]? = w.heap[b]? := by
  rw [h.heap, Array.getElem?_push_lt hb, Array.getElem?_eq_getElem hb]
theorem Pushed.new {w w' : World} {o : Obj} (h : Pushed w w' o) : w'.heap[w.heap.size]? = some o := by
  rw [h.heap]; simp
theorem Pushed.size {w w' : World} {o : Obj} (h : Pushed w w' o) : w'.heap.size = w.heap.size + 1 := by rw [h.heap]; simp
theorem Pushed.alloc (w : World) (o : Obj) : Pushed w (w.alloc o) o := ⟨rfl, rfl, rfl, rfl⟩
theorem Pushed.drew (w : World) (o : Obj) : Pushed w (w.drew.alloc o) o := ⟨rfl, rfl, rfl, rfl⟩

def Ghost.grow (G : Ghost) (g : Nat) (z : Who) (n : Nat) : Ghost :=
  { G with F := fun b => if b = g then n else G.F b, who := fun b => if b = g then some z else G.who b }

section
variable {W0 : Base} {M : Nat → Prop} {σ : State} {a : Act} {w w' : World} {G : Ghost} {xs : List Nat}

theorem Inv.grow (I : Inv W0 M σ a w G xs) {o : Obj} (hp : Pushed w w' o) {z : Who} (n : Nat) {ys : List Nat} (hz : (z = .x ∧ ys = [w.heap.size]) ∨ ((∃ i, z = .a i) ∧ ys = [])) :
    Inv W0 M σ a w' (G.grow w.heap.size z n) (ys ++ xs) ∧ Calmer w G w' (G.grow w.heap.size z n) ∧
      ∀ (τ : Ty) (tg : List Tag) (cs : List Value) (x : El τ) (fp : List Nat), Rp w G.F G.St G.Al τ tg cs x fp →
        Rp w' (G.grow w.heap.size z n).F (G.grow w.heap.size z n).St (G.grow w.heap.size z n).Al τ tg cs x fp := by
  have hk : ∀ b, b < w.heap.size → KeepB w G.F w' (G.grow w.heap.size z n).F b ∧ (G.grow w.heap.size z n).F b = G.F b := by
    intro b hb
    have : (G.grow w.heap.size z n).F b = G.F b := by
      show (if b = w.heap.size then n else G.F b) = _
      rw [if_neg (by omega)]
    exact ⟨KeepB.of_block (hp.old hb) (by rw [this]; exact Nat.le_refl _), this⟩
  have hwho : ∀ b, b < w.heap.size → (G.grow w.heap.size z n).who b = G.who b := fun b hb => if_neg (by omega)
  have hlt : ∀ b z, G.who b = some z → b < w.heap.size := fun b z h => (I.lt b z h).1
  have hne : ∀ b z', G.who b = some z' → (G.grow w.heap.size z n).who b = some z' := fun b z' h => by rw [hwho b (hlt b z' h)]; exact h
  have hS : Same σ w G w' (G.grow w.heap.size z n) :=
    ⟨rfl, rfl, rfl, fun b z' h _ => hne b z' h, fun b hb h => ⟨fun i => by rw [hwho b hb]; exact h.1 i, fun hn => h.2 (by rw [← hwho b hb]; exact hn)⟩, fun b h => h, fun b h => (hk b (I.st b h).2).1, fun b z h _ _ => hk b (hlt b z h), fun i v h => hp.old (hlt _ _ (I.box i v h).2), .inr fun b hb _ => (hk b hb).1⟩
  have hg : (G.grow w.heap.size z n).who w.heap.size = some z := if_pos rfl
  refine ⟨?_, ?_, ?_⟩
  · refine I.world hS (fun b hb => ⟨?_, ?_⟩) (fun b z' hb => ?_) ?_ (fun b hb => ?_) ?_ ⟨fun b hb hM => by rw [(hk b (by have := I.ext.size; omega)).2]; exact I.org.F b hb hM, I.org.St, I.org.St'⟩
    · rw [hwho b (I.st b hb).2]; exact (I.st b hb).1
    · rw [hp.size]; have := (I.st b hb).2; omega
    · by_cases hbg : b = w.heap.size
      · subst hbg
        exact ⟨by rw [hp.size]; omega, .inl I.ext.size⟩
      · have : G.who b = some z' := by
          have h1 : (G.grow w.heap.size z n).who b = G.who b := if_neg hbg
          rw [← h1]; exact hb
        obtain ⟨h1, h2⟩ := I.lt b z' this
        exact ⟨by rw [hp.size]; omega, h2⟩
    · refine ⟨hp.os.trans I.ext.os, hp.tape.trans I.ext.tape, hp.output.trans I.ext.output, by rw [hp.size]; have := I.ext.size; omega, fun b hb hM => ?_⟩
      rw [hp.old (by have := I.ext.size; omega)]; exact I.ext.block b hb hM
    · rcases List.mem_append.1 hb with hb | hb
      · rcases hz with ⟨rfl, rfl⟩ | ⟨_, rfl⟩
        · rw [List.mem_singleton.1 hb]; exact hg
        · cases hb
      · exact hne b _ (I.whoX b hb)
    · rcases hz with ⟨rfl, rfl⟩ | ⟨_, rfl⟩
      · refine List.nodup_cons.2 ⟨fun hm => ?_, I.nodX⟩
        have := hlt _ _ (I.whoX _ hm)
        omega
      · exact I.nodX
  · refine ⟨fun w2 hc => ⟨fun b hb ha o n' cs hn h1 => ?_, fun i b hb => ?_⟩, fun w2 hc i b hb => ?_⟩
    · refine hc.1 b (by rw [hp.size]; omega) (hS.Al b hb ha) o n' cs (by rw [(hk b hb).2]; exact hn) ?_
      rw [cellsAt_congr (hp.old hb)]; exact h1
    · rw [hc.2 i b (hne b _ hb)]
      exact hp.old (hlt b _ hb)
    · rw [hc i b (hne b _ hb)]
      exact hp.old (hlt b _ hb)
  · intro τ tg cs x fp h
    exact h.pres hS.St hS.Al hS.S (fun b hb => hk b (h.lt b hb)) (.inr fun b hb _ => (hk b hb).1)
end
end Go.PI
namespace Go.PI

def PtrAt (i : Nat) (tv : TV) (v : Value) (Q : Place → Value → Prop) : Prop :=
  match tv with
  | .ref p _ => ¬ (p.box = true ∧ p.root = i)
  | .eref p => ¬ (p.box = true ∧ p.root = i)
  | .ptr p => p.root = i → Q p v
  | .clos f ps => ∀ k (h : k < ps.length), ps[k].root = i → ∀ vs : Array Value, v = .func (.func f) #[] vs → Q ps[k] (vs.getD k undef)
  | _ => True

theorem PtrAt.mono {i : Nat} {tv : TV} {v : Value} {Q Q' : Place → Value → Prop} (h : PtrAt i tv v Q) (hq : ∀ p v, p.root = i → Q p v → Q' p v) : PtrAt i tv v Q' := by
  cases tv with
  | ptr p => exact fun hr => hq _ _ hr (h hr)
  | clos f ps => exact fun k hk hr vs hv => hq _ _ hr (h k hk hr vs hv)
  | _ => exact h

theorem PtrAt.or_dead {i : Nat} {tv tv' : TV} {v : Value} {Q : Place → Value → Prop} (h : PtrAt i tv v Q) (ht : tv' = tv ∨ tv' = .dead) : PtrAt i tv' v Q := by
  rcases ht with rfl | rfl
  · exact h
  · trivial

def PtrFix (g : Nat) (τ : Ty) (p : Place) (u : Value) : Prop :=
  p.box = true ∧ flatB p.path = true ∧ ∃ off, u = .pointer (some ⟨g, off, none⟩) ∧ ∀ (w : World) (l : List Value), ∃ cs, locP w τ l (some (g, 0)) p.path = some (cs, some (g, off))

theorem locP_shape : {path : List Step} → {w w' : World} → {τ : Ty} → {l l' : List Value} → {base : Option (Nat × Nat)} → {cs : List Value} → {b : Option (Nat × Nat)} → flatB path = true →
    locP w τ l base path = some (cs, b) → ∃ cs', locP w' τ l' base path = some (cs', b)
  | [], w, w', τ, l, l', base, cs, b, _, h => by
    rw [locP_nil] at h ⊢
    cases h
    exact ⟨_, rfl⟩
  | .fst :: p, w, w', .pair a c, l, l', base, cs, b, hf, h => locP_shape (path := p) (τ := a) (w := w) (w' := w') (l := l.take (size a)) (l' := l'.take (size a)) hf h
  | .snd :: p, w, w', .pair a c, l, l', base, cs, b, hf, h => locP_shape (path := p) (τ := c) (w := w) (w' := w') (l := l.drop (size a)) (l' := l'.drop (size a)) hf h
  | .idx _ :: _, _, _, _, _, _, _, _, _, hf, _ => by simp [flatB] at hf
  | .fst :: _, _, _, .int _, _, _, _, _, _, _, h => by simp [locP] at h
  | .fst :: _, _, _, .bool, _, _, _, _, _, _, h => by simp [locP] at h
  | .fst :: _, _, _, .str, _, _, _, _, _, _, h => by simp [locP] at h
  | .fst :: _, _, _, .unit, _, _, _, _, _, _, h => by simp [locP] at h
  | .fst :: _, _, _, .slice _, _, _, _, _, _, _, h => by simp [locP] at h
  | .snd :: _, _, _, .int _, _, _, _, _, _, _, h => by simp [locP] at h
  | .snd :: _, _, _, .bool, _, _, _, _, _, _, h => by simp [locP] at h
  | .snd :: _, _, _, .str, _, _, _, _, _, _, h => by simp [locP] at h
  | .snd :: _, _, _, .unit, _, _, _, _, _, _, h => by simp [locP] at h
  | .snd :: _, _, _, .slice _, _, _, _, _, _, _, h => by simp [locP] at h

section
variable {W0 : Base} {M : Nat → Prop} {σ : State} {a : Act} {w w' : World} {G : Ghost} {xs : List Nat}

theorem boxAt_lt {i : Nat} {v : TVal} (h : σ.boxAt i = some v) : i < σ.boxes.length := by
  rcases Nat.lt_or_ge i σ.boxes.length with h1 | h1
  · exact h1
  · rw [show σ.boxAt i = none from getN_ge _ _ h1] at h; cases h

theorem putBox_box (i : Nat) (v : Option TVal) (j : Nat) : (σ.putBox i v).boxAt j = if i = j ∧ i < σ.boxes.length then v else σ.boxAt j := getN_setN _ _ _ _
theorem putBox_slot (i : Nat) (v : Option TVal) (j : Nat) : (σ.putBox i v).slot j = σ.slot j := rfl

theorem ptrFix_of {i : Nat} {v : TVal} {p : Place} {u : Value} (I : Inv W0 M σ a w G xs) (hb : σ.boxAt i = some v) (hbx : p.box = true) (hf : flatB p.path = true) (hr : p.root = i) (h : PtrRel σ G a w p u) : PtrFix (G.ad i) v.τ p u := by
  obtain ⟨bx, r, path⟩ := p
  simp only at hbx hr hf
  subst hbx
  subst hr
  rcases h with h | ⟨cs, b, ⟨τ, l, b', h3, h4, h5⟩, h6⟩
  · rw [ct_box, hb] at h; cases h
  · rw [ct_box, hb] at h3
    cases h3
    obtain ⟨⟨c, T, hh, _⟩, _⟩ := I.box r v hb
    simp only [rootLoc, hh, Option.some.injEq, Prod.mk.injEq] at h4
    obtain ⟨rfl, rfl⟩ := h4
    have hoff : ∃ off, b = (G.ad r, off) := by
      have : ∀ {path : List Step} {τ : Ty} {l : List Value} {base : Nat × Nat} {cs : List Value} {b : Nat × Nat}, flatB path = true → locP w τ l (some base) path = some (cs, some b) → b.1 = base.1 := by
        intro path
        induction path with
        | nil => intro τ l base cs b _ h; rw [locP_nil] at h; cases h; rfl
        | cons s path ih =>
          intro τ l base cs b hf h
          cases s with
          | idx i => simp [flatB] at hf
          | fst => cases τ <;> first | (exact ih (by simpa [flatB] using hf) h) | (simp [locP] at h)
          | snd => cases τ <;> first | (have := ih (by simpa [flatB] using hf) h; exact this) | (simp [locP] at h)
      have := this hf h5
      exact ⟨b.2, Prod.ext this rfl⟩
    obtain ⟨off, rfl⟩ := hoff
    exact ⟨rfl, hf, off, h6, fun w l => locP_shape hf h5⟩

theorem Inv.ptrFix (I : Inv W0 M σ a w G xs) {i : Nat} {v : TVal} (hb : σ.boxAt i = some v) (j : Nat) (hj : j < σ.slots.length) :
    PtrAt i (TV.loosen true i (σ.slot j)) (a.tmps.getD j undef) (PtrFix (G.ad i) v.τ) := by
  have h := I.slot j hj
  cases hs : σ.slot j with
  | ref p ag =>
    simp only [TV.loosen]
    split
    · trivial
    · rename_i hc; simpa [PtrAt] using hc
  | eref p =>
    simp only [TV.loosen]
    split
    · trivial
    · rename_i hc; simpa [PtrAt] using hc
  | ptr p =>
    rw [hs] at h
    exact fun hr => ptrFix_of I hb h.2.1 h.2.2.1 hr h.2.2.2
  | clos f ps =>
    rw [hs] at h
    obtain ⟨_, vs, hv, _, hk⟩ := h
    intro k hkl hr vs' hv'
    rw [hv] at hv'
    cases hv'
    exact ptrFix_of I hb (hk k hkl).1 (hk k hkl).2.1 hr (hk k hkl).2.2
  | _ => trivial

theorem PtrFix.rel {σ' : State} {a' : Act} {G' : Ghost} {g : Nat} {τ : Ty} {p : Place} {u : Value} (h : PtrFix g τ p u) {v : TVal} (hb : σ'.boxAt p.root = some v) (hτ : v.τ = τ) (had : G'.ad p.root = g)
    {c : Array Value} {T : TypeId} {fr : Nat × Nat} (hh : w'.heap[g]? = some (.cells c T fr)) : PtrRel σ' G' a' w' p u := by
  obtain ⟨hbx, hf, off, hu, hl⟩ := h
  obtain ⟨cs, hcs⟩ := hl w' c.toList
  obtain ⟨bx, r, path⟩ := p
  simp only at hbx hb had hcs
  subst hbx
  refine .inr ⟨cs, (g, off), ⟨τ, c.toList, some (g, 0), ?_, ?_, hcs⟩, hu⟩
  · rw [ct_box, hb, ← hτ]; rfl
  · simp only [rootLoc, had, hh]

theorem Inv.addBox {fv : List Nat} (I : Inv W0 M σ a w G (fv ++ xs)) {i g : Nat} {c : Array Value} {T : TypeId} {v : TVal} (hi : i < σ.boxes.length) (hb : w.heap[g]? = some (.cells c T (0, 0)))
    (hw : G.who g = some (.a i)) (hR : Rp w G.F G.St G.Al v.τ v.tg c.toList v.x fv)
    (hs : ∀ j, j < σ.slots.length → PtrAt i (σ.slot j) (a.tmps.getD j undef) (fun p u => PtrFix g v.τ p u)) (hadx : i < σ.slots.length ∨ G.ad i = g) :
    ∃ G', Inv W0 M (σ.putBox i (some v)) a w G' xs ∧ G'.F = G.F ∧ G'.St = G.St ∧ G'.Al = G.Al ∧ (∀ b k, G'.who b = some (.a k) ↔ G.who b = some (.a k)) ∧ G'.ad = fun j => if j = i then g else G.ad j := by
  classical
  let G' : Ghost := ⟨G.F, G.St, (fun b => if b ∈ fv then some (.c i) else G.who b), G.fs, (fun j => if j = i then fv else G.fb j), fun j => if j = i then g else G.ad j⟩
  have hfv : ∀ b ∈ fv, G.who b = some .x := fun b hb => I.whoX b (List.mem_append_left _ hb)
  have hbx : ∀ b k, G'.who b = some (.a k) ↔ G.who b = some (.a k) := by
    intro b k
    show (if b ∈ fv then some (Who.c i) else G.who b) = some (.a k) ↔ _
    by_cases hb : b ∈ fv
    · rw [hfv b hb]; simp [hb]
    · simp [hb]
  have hA : G'.Al = G.Al := by
    funext b
    apply propext
    show ((∀ k, (if b ∈ fv then some (Who.c i) else G.who b) ≠ some (.a k)) ∧ ((if b ∈ fv then some (Who.c i) else G.who b) = none → G.St b)) ↔ _
    by_cases hb : b ∈ fv
    · simp only [hb, if_true]
      have := hfv b hb
      constructor
      · intro _; exact ⟨fun k => (by rw [this]; simp), fun h => (by rw [this] at h; cases h)⟩
      · intro _; exact ⟨fun k => (by simp), fun h => (by cases h)⟩
    · simp only [hb, if_false]; rfl
  have hct : ∀ p : Place, ¬ (p.box = true ∧ p.root = i) → (σ.putBox i (some v)).ct p = σ.ct p ∧ rootLoc G' a w p = rootLoc G a w p := by
    rintro ⟨bx, r, path⟩ hp
    cases bx with
    | false => exact ⟨rfl, rfl⟩
    | true =>
      have hri : r ≠ i := fun h => hp ⟨rfl, h⟩
      refine ⟨?_, ?_⟩
      · rw [ct_box, ct_box, putBox_box, if_neg (by rintro ⟨h, _⟩; exact hri h.symm)]
      · simp only [rootLoc]
        rw [show G'.ad r = G.ad r from if_neg hri]
  have hmove : ∀ {p : Place} {u : Value}, p.root ≠ i → PtrRel σ G a w p u → PtrRel (σ.putBox i (some v)) G' a w p u := by
    intro p u hr h
    obtain ⟨h1, h2⟩ := hct p (fun h => hr h.2)
    rcases h with h | ⟨cs, b, ⟨τ, l, b', h3, h4, h5⟩, h6⟩
    · exact .inl (h1.trans h)
    · exact .inr ⟨cs, b, ⟨τ, l, b', h1.trans h3, h2.trans h4, h5⟩, h6⟩
  have hself : (σ.putBox i (some v)).boxAt i = some v := by rw [putBox_box]; simp [hi]
  have hfix : ∀ {p : Place} {u : Value}, p.root = i → PtrFix g v.τ p u → PtrRel (σ.putBox i (some v)) G' a w p u := by
    intro p u hr h
    exact h.rel (v := v) (by rw [hr]; exact hself) rfl (show (if p.root = i then g else G.ad p.root) = g by rw [if_pos hr]) hb
  refine ⟨G', ⟨I.defers, I.len, fun j hj => ?_, fun j u hu => ?_, fun j b hb => ?_, fun j b hb => ?_, fun b hb => ?_, I.nodS, fun j => ?_, (List.nodup_append.1 I.nodX).2.1, fun b hb => ?_, fun b z hb => ?_, I.ext, fun j hj => ?_, ⟨I.org.F, I.org.St, I.org.St'⟩, I.pin⟩, rfl, rfl, hA, hbx, rfl⟩
  · have h := I.slot j hj
    have hq := hs j hj
    rw [putBox_slot]
    cases ht : σ.slot j with
    | ptr p =>
      rw [ht] at h hq
      refine ⟨h.1, h.2.1, h.2.2.1, ?_⟩
      by_cases hr : p.root = i
      · exact hfix hr (hq hr)
      · exact hmove hr h.2.2.2
    | clos f ps =>
      rw [ht] at h hq
      obtain ⟨h1, vs, h2, h3, h4⟩ := h
      refine ⟨h1, vs, h2, h3, fun k hk => ⟨(h4 k hk).1, (h4 k hk).2.1, ?_⟩⟩
      by_cases hr : ps[k].root = i
      · exact hfix hr (hq k hk hr vs h2)
      · exact hmove hr (h4 k hk).2.2
    | ref p ag =>
      rw [ht] at h hq
      exact SlotRel.move (fun q hq' => .inr (hct q (by rw [List.mem_singleton.1 hq']; exact hq))) rfl rfl hA h
    | eref p =>
      rw [ht] at h hq
      exact SlotRel.move (fun q hq' => .inr (hct q (by rw [List.mem_singleton.1 hq']; exact hq))) rfl rfl hA h
    | tref t' ags =>
      rw [ht] at h
      exact SlotRel.move (fun q hq' => .inr (hct q (by rw [List.mem_singleton.1 hq']; rintro ⟨hb, _⟩; cases hb))) rfl rfl hA h
    | dead => rw [ht] at h; exact SlotRel.move (G := G) (fun q hq' => absurd hq' (by simp [TV.places])) rfl rfl hA h
    | un => rw [ht] at h; exact SlotRel.move (G := G) (fun q hq' => absurd hq' (by simp [TV.places])) rfl rfl hA h
    | nil => rw [ht] at h; exact SlotRel.move (G := G) (fun q hq' => absurd hq' (by simp [TV.places])) rfl rfl hA h
    | val u => rw [ht] at h; exact SlotRel.move (G := G) (fun q hq' => absurd hq' (by simp [TV.places])) rfl rfl hA h
    | tup u ags => rw [ht] at h; exact SlotRel.move (G := G) (fun q hq' => absurd hq' (by simp [TV.places])) rfl rfl hA h
    | eptr u t => rw [ht] at h; exact SlotRel.move (G := G) (fun q hq' => absurd hq' (by simp [TV.places])) rfl rfl hA h
    | sclos f τs u => rw [ht] at h; exact SlotRel.move (G := G) (fun q hq' => absurd hq' (by simp [TV.places])) rfl rfl hA h
    | sptr r τr p => rw [ht] at h; exact SlotRel.move (G := G) (fun q hq' => absurd hq' (by simp [TV.places])) rfl rfl hA h
  · rw [putBox_box] at hu
    split at hu
    · rename_i hc
      obtain ⟨rfl, _⟩ := hc
      cases hu
      refine ⟨⟨c, T, ?_, ?_⟩, ?_⟩
      · rw [show G'.ad i = g from if_pos rfl]; exact hb
      · rw [show G'.fb i = fv from if_pos rfl, hA]; exact hR
      · rw [show G'.ad i = g from if_pos rfl]; exact (hbx _ _).2 hw
    · rename_i hc
      have hji : j ≠ i := fun h => hc ⟨h.symm, hi⟩
      obtain ⟨⟨c', T', h1, h2⟩, h3⟩ := I.box j u hu
      refine ⟨⟨c', T', ?_, ?_⟩, ?_⟩
      · rw [show G'.ad j = G.ad j from if_neg hji]; exact h1
      · rw [show G'.fb j = G.fb j from if_neg hji, hA]; exact h2
      · rw [show G'.ad j = G.ad j from if_neg hji]; exact (hbx _ _).2 h3
  · have h := I.whoS j b hb
    show (if b ∈ fv then some (Who.c i) else G.who b) = _
    rw [if_neg (fun hm => by rw [hfv b hm] at h; cases h)]
    exact h
  · show (if b ∈ fv then some (Who.c i) else G.who b) = _
    by_cases hji : j = i
    · subst hji
      have : b ∈ fv := by simpa [G'] using hb
      rw [if_pos this]
    · have hb : b ∈ G.fb j := by simpa [G', hji] using hb
      have h := I.whoC j b hb
      rw [if_neg (fun hm => by rw [hfv b hm] at h; cases h)]
      exact h
  · have h := I.whoX b (List.mem_append_right _ hb)
    show (if b ∈ fv then some (Who.c i) else G.who b) = _
    rw [if_neg]
    · exact h
    · intro hm
      exact (List.nodup_append.1 I.nodX).2.2 b hm b hb rfl
  · show (if j = i then fv else G.fb j).Nodup
    split
    · exact (List.nodup_append.1 I.nodX).1
    · exact I.nodC j
  · have h := I.st b hb
    refine ⟨?_, h.2⟩
    show (if b ∈ fv then some (Who.c i) else G.who b) = none
    rw [if_neg (fun hm => by rw [hfv b hm] at h; cases h.1)]
    exact h.1
  · change (if b ∈ fv then some (Who.c i) else G.who b) = some z at hb
    split at hb
    · rename_i hm
      exact I.lt b _ (hfv b hm)
    · exact I.lt b z hb
  · have hj : σ.slots.length ≤ j := hj
    show (if j = i then g else G.ad j) = _
    split
    · rename_i h
      subst h
      rcases hadx with h | h
      · omega
      · rw [← h]; exact I.adx _ hj
    · exact I.adx j hj
end
end Go.PI
namespace Go.PI

theorem setN_setN {α : Type} : ∀ (l : List α) (i : Nat) (u v : α), setN (setN l i u) i v = setN l i v
  | [], _, _, _ => rfl
  | _ :: _, 0, _, _ => rfl
  | _ :: l, i + 1, u, v => by simp only [setN]; rw [setN_setN l i u v]

theorem setN_self {α : Type} {d : α} : ∀ (l : List α) (i : Nat), i < l.length → setN l i (getN d l i) = l
  | [], _, h => by simp at h
  | _ :: _, 0, _ => rfl
  | _ :: l, i + 1, h => by simp only [setN, getN]; rw [setN_self l i (by simpa using h)]

section
variable {W0 : Base} {M : Nat → Prop} {σ : State} {a : Act} {w w' : World} {G : Ghost} {xs : List Nat}

theorem Inv.takeBox (I : Inv W0 M σ a w G xs) {i : Nat} {v : TVal} (hb : σ.boxAt i = some v) :
    ∃ G', Inv W0 M ((σ.loosen true i).putBox i none) a w G' (G.fb i ++ xs) ∧ Sim G G' ∧ G.who (G.ad i) = some (.a i) ∧
      (∃ c T, w.heap[G.ad i]? = some (.cells c T (0, 0)) ∧ Rp w G.F G.St G.Al v.τ v.tg c.toList v.x (G.fb i)) ∧
      ∀ j, j < σ.slots.length → PtrAt i ((σ.loosen true i).slot j) (a.tmps.getD j undef) (PtrFix (G.ad i) v.τ) := by
  obtain ⟨⟨c, T, hc, hR⟩, hw⟩ := I.box i v hb
  obtain ⟨fs, I1, _⟩ := I.loosen true i
  have hcon : (σ.loosen true i).content ⟨true, i, []⟩ = some v := hb
  obtain ⟨G2, I2, hs2⟩ := I1.recontent (p := ⟨true, i, []⟩) (c' := ⟨v.τ, v.ag, v.x, v.tg.map Tag.alias⟩) hcon rfl rfl (l := c.toList) (b := some (G.ad i, 0)) (f' := []) (fi := G.fb i)
    (by simp [rootLoc, hc]) (by exact hR.alias (Ghost.St_Al I)) (by simp [Ghost.fpOf])
  have hst : ((σ.loosen true i).setContent ⟨true, i, []⟩ ⟨v.τ, v.ag, v.x, v.tg.map Tag.alias⟩).putBox i none = (σ.loosen true i).putBox i none := by
    simp only [State.setContent, State.putBox, setN_setN]
  obtain ⟨fs3, I3, _⟩ := I2.drop (σ' := (σ.loosen true i).putBox i none) (by simp [State.setContent, State.putBox]) (fun j => .inl rfl) (fun j => by
    rw [← hst, putBox_box]
    split
    · exact .inr rfl
    · exact .inl rfl)
  refine ⟨_, I3, ((Sim.fs G fs).trans hs2).trans (Sim.fs _ fs3), hw, ⟨c, T, hc, hR⟩, fun j hj => ?_⟩
  rw [loosen_slot]
  exact I.ptrFix hb j hj


theorem empty_slot (i j : Nat) : (σ.empty i).slot j = if i = j ∧ i < σ.slots.length then .dead else (σ.loosen false i).slot j := by
  unfold State.empty State.put State.slot
  simp only []
  rw [getN_setN]
  simp [State.loosen]

theorem Inv.takeSlot (I : Inv W0 M σ a w G xs) {i : Nat} {v : TVal} (hb : σ.slot i = .val v) :
    ∃ G', Inv W0 M (σ.empty i) a w G' (G.fs i ++ xs) ∧ Sim G G' ∧ Shaped v.ag (a.tmps.getD i undef) ∧ Rp w G.F G.St G.Al v.τ v.tg (vCells (a.tmps.getD i undef)) v.x (G.fs i) := by
  have hi := slot_lt (σ := σ) (i := i) (by rw [hb]; simp)
  have hS := I.slot i hi
  rw [hb] at hS
  obtain ⟨hsh, hR⟩ := hS
  have hcon : σ.content ⟨false, i, []⟩ = some v := by simp [State.content, hb]
  obtain ⟨G2, I2, hs2⟩ := I.recontent (p := ⟨false, i, []⟩) (c' := ⟨v.τ, v.ag, v.x, v.tg.map Tag.alias⟩) hcon rfl rfl (l := vCells (a.tmps.getD i undef)) (b := none) (f' := []) (fi := G.fs i)
    rfl (by exact hR.alias (Ghost.St_Al I)) (by simp [Ghost.fpOf])
  have hsl : ∀ j, (σ.setContent ⟨false, i, []⟩ ⟨v.τ, v.ag, v.x, v.tg.map Tag.alias⟩).slot j = if i = j then .val ⟨v.τ, v.ag, v.x, v.tg.map Tag.alias⟩ else σ.slot j := by
    intro j
    simp only [State.setContent, hb]
    show getN .dead (setN σ.slots i _) j = _
    rw [getN_setN]
    by_cases h : i = j <;> simp [h, hi, State.slot]
    intro h2; omega
  obtain ⟨fs1, I3, _⟩ := I2.loosen false i
  obtain ⟨fs3, I4, _⟩ := I3.drop (σ' := σ.empty i) (by simp [State.setContent, State.empty, State.put, State.loosen, hb, setN_length]) (fun j => by
    rw [empty_slot, loosen_slot, loosen_slot, hsl]
    by_cases h : i = j
    · simp [h, hi]; right; intro hh; omega
    · simp [h]) (fun j => by
    left
    show σ.boxAt j = _
    simp only [State.setContent, hb]
    rfl)
  exact ⟨_, I4, (hs2.trans (Sim.fs _ fs1)).trans (Sim.fs _ fs3), hsh, hR⟩

structure Wrote (w w' : World) (g : Nat) : Prop where
  size : w'.heap.size = w.heap.size
  old : ∀ b, b ≠ g → w'.heap[b]? = w.heap[b]?
  os : w'.os = w.os
  tape : w'.tape = w.tape
  output : w'.output = w.output

theorem Inv.patch (I : Inv W0 M σ a w G xs) {g : Nat} {z : Who} (hg : G.who g = some z) (hz : z = .x ∨ ∃ i, z = .a i ∧ σ.boxAt i = none) (hp : Wrote w w' g) (n : Nat)
    (hN : σ.noN ∨ (∃ i, z = .a i) ∨ KeepB w G.F w' (fun b => if b = g then n else G.F b) g) :
    let G' : Ghost := { G with F := fun b => if b = g then n else G.F b }
    Inv W0 M σ a w' G' xs ∧ ((∀ i, z ≠ .a i) → KeepB w G.F w' G'.F g → Calmer w G w' G') ∧
      ∀ (τ : Ty) (tg : List Tag) (cs : List Value) (x : El τ) (fp : List Nat), Rp w G.F G.St G.Al τ tg cs x fp → g ∉ fp → ((∀ t ∈ tg, t.isN = false) ∨ (∃ i, z = .a i) ∨ KeepB w G.F w' G'.F g) → Rp w' G'.F G'.St G'.Al τ tg cs x fp := by
  intro G'
  have hk : ∀ b, b ≠ g → KeepB w G.F w' G'.F b ∧ G'.F b = G.F b := by
    intro b hb
    have : G'.F b = G.F b := if_neg hb
    exact ⟨KeepB.of_block (hp.old b hb) (by rw [this]; exact Nat.le_refl _), this⟩
  have hA : G'.Al = G.Al := rfl
  have hSg : ∀ b, G.St b → b ≠ g := fun b hb h => by rw [h] at hb; rw [(I.st g hb).1] at hg; cases hg
  have hAl : ∀ b, G.Al b → (∃ i, z = .a i) → b ≠ g := fun b hb ⟨i, hi⟩ h => by rw [h] at hb; exact hb.1 i (by rw [hg, hi])
  have hN' : ∀ {b}, ((∃ i, z = .a i) ∨ KeepB w G.F w' G'.F g) → G.Al b → KeepB w G.F w' G'.F b := by
    intro b h hb
    by_cases hbg : b = g
    · rcases h with h | h
      · exact absurd hbg (hAl b hb h)
      · rw [hbg]; exact h
    · exact (hk b hbg).1
  have hS : Same σ w G w' G' :=
    ⟨rfl, rfl, rfl, fun _ _ h _ => h, fun _ _ h => h, fun b h => h, fun b h => (hk b (hSg b h)).1, fun b z' h h1 h2 => hk b (fun hbg => by
        rw [hbg, hg] at h; cases h
        rcases hz with rfl | ⟨i, rfl, _⟩
        · exact h2 rfl
        · exact h1 i rfl), fun i v h => hp.old _ (fun hbg => by
        have hw := (I.box i v h).2
        rw [hbg, hg] at hw
        cases hw
        rcases hz with hz | ⟨j, hz, hj⟩
        · cases hz
        · cases hz; rw [hj] at h; cases h), hN.imp id fun h b _ hb => hN' h hb⟩
  refine ⟨?_, ?_, ?_⟩
  · refine I.world hS (fun b hb => ⟨(I.st b hb).1, by rw [hp.size]; exact (I.st b hb).2⟩) (fun b z' hb => by rw [hp.size]; exact I.lt b z' hb) ?_ I.whoX I.nodX ⟨fun b hb hM => ?_, I.org.St, I.org.St'⟩
    rotate_left
    · by_cases hbg : b = g
      · rcases (I.lt g z hg).2 with h | h
        · rw [hbg] at hb; omega
        · exact absurd (hbg ▸ h) hM
      · rw [(hk b hbg).2]; exact I.org.F b hb hM
    refine ⟨hp.os.trans I.ext.os, hp.tape.trans I.ext.tape, hp.output.trans I.ext.output, by rw [hp.size]; exact I.ext.size, fun b hb hM => ?_⟩
    rw [hp.old b (fun hbg => ?_)]
    · exact I.ext.block b hb hM
    · rcases (I.lt g z hg).2 with h | h
      · rw [hbg] at hb; omega
      · exact hM (hbg ▸ h)
  · intro hz' hK
    refine ⟨fun w2 hc => ⟨fun b hb ha o n' cs hn h1 => ?_, fun i b hb => ?_⟩, fun w2 hc i b hb => ?_⟩
    · have hkb := hN' (.inr hK) ha
      refine hc.1 b (by rw [hp.size]; exact hb) ha o n' cs (Nat.le_trans hn hkb.1) (hkb.2.1 o n' cs hn h1)
    · rw [hc.2 i b hb]
      exact hp.old b (fun hbg => by rw [hbg, hg] at hb; cases hb; exact hz' i rfl)
    · rw [hc i b hb]
      exact hp.old b (fun hbg => by rw [hbg, hg] at hb; cases hb; exact hz' i rfl)
  · intro τ tg cs x fp h hgf hn
    refine h.pres hS.St (fun b _ h => h) hS.S (fun b hb => hk b (fun hbg => hgf (hbg ▸ hb))) ?_
    exact hn.imp id fun h b _ hb => hN' h hb
end
end Go.PI
namespace Go.PI

section
variable {W0 : Base} {M : Nat → Prop} {σ : State} {a : Act} {w w' : World} {G : Ghost} {xs : List Nat} {P : Program} {tys : List (TypeId × Ty × List TypeId)}

theorem Inv.freeze {fv : List Nat} (I : Inv W0 M σ a w G (fv ++ xs)) :
    ∃ G', Inv W0 M σ a w G' xs ∧ G'.F = G.F ∧ G'.ad = G.ad ∧ G'.Al = G.Al ∧ (∀ b k, G'.who b = some (.a k) ↔ G.who b = some (.a k)) ∧ (∀ b, G'.St b ↔ G.St b ∨ b ∈ fv) ∧
      (∀ (τ : Ty) (tg : List Tag) (cs : List Value) (x : El τ) (fp : List Nat), Rp w G.F G.St G.Al τ tg cs x fp → Rp w G'.F G'.St G'.Al τ tg cs x fp) := by
  classical
  let G' : Ghost := { G with St := fun b => G.St b ∨ b ∈ fv, who := fun b => if b ∈ fv then none else G.who b }
  have hfv : ∀ b ∈ fv, G.who b = some .x := fun b hb => I.whoX b (List.mem_append_left _ hb)
  have hbx : ∀ b k, G'.who b = some (.a k) ↔ G.who b = some (.a k) := by
    intro b k
    show (if b ∈ fv then none else G.who b) = some (.a k) ↔ _
    by_cases hb : b ∈ fv
    · rw [hfv b hb]; simp [hb]
    · simp [hb]
  have hne : ∀ b z, G.who b = some z → z ≠ .x → G'.who b = some z := by
    intro b z h hz
    show (if b ∈ fv then none else G.who b) = some z
    rw [if_neg (fun hm => by rw [hfv b hm] at h; cases h; exact hz rfl)]
    exact h
  have hA : G'.Al = G.Al := by
    funext b
    apply propext
    show ((∀ k, (if b ∈ fv then none else G.who b) ≠ some (.a k)) ∧ ((if b ∈ fv then none else G.who b) = none → (G.St b ∨ b ∈ fv))) ↔ _
    by_cases hb : b ∈ fv
    · simp only [hb, if_true]
      have := hfv b hb
      constructor
      · intro _; exact ⟨fun k => (by rw [this]; simp), fun h => (by rw [this] at h; cases h)⟩
      · intro _; exact ⟨fun k => (by simp), fun h => (by simp)⟩
    · simp only [hb, if_false, or_false]; rfl
  have hS : Same σ w G w G' := ⟨rfl, rfl, rfl, hne, fun b _ h => by rw [hA]; exact h, fun b h => .inl h, fun b h => KeepB.refl _ _ _, fun b z h _ _ => ⟨KeepB.refl _ _ _, rfl⟩, fun _ _ _ => rfl, .inr fun b _ _ => KeepB.refl _ _ _⟩
  refine ⟨G', ?_, rfl, rfl, hA, hbx, fun b => Iff.rfl, fun τ tg cs x fp h => h.pres hS.St hS.Al hS.S (fun b _ => ⟨KeepB.refl _ _ _, rfl⟩) (.inr fun b _ _ => KeepB.refl _ _ _)⟩
  refine I.world hS (fun b hb => ?_) (fun b z hb => ?_) I.ext (fun b hb => ?_) (List.nodup_append.1 I.nodX).2.1 ⟨I.org.F, fun b hb => .inl (I.org.St b hb), fun b hb => hb.elim (I.org.St' b) fun h => .inr (I.lt b _ (hfv b h)).2⟩
  · rcases hb with hb | hb
    · have := I.st b hb
      refine ⟨?_, this.2⟩
      show (if b ∈ fv then none else G.who b) = none
      split
      · rfl
      · exact this.1
    · exact ⟨if_pos hb, (I.lt b _ (hfv b hb)).1⟩
  · change (if b ∈ fv then none else G.who b) = some z at hb
    split at hb
    · cases hb
    · exact I.lt b z hb
  · show (if b ∈ fv then none else G.who b) = _
    rw [if_neg (fun hm => (List.nodup_append.1 I.nodX).2.2 b hm b hb rfl)]
    exact I.whoX b (List.mem_append_right _ hb)

def HardOk (P : Program) (W0 : Base) (M : Nat → Prop) (o : Oper) (a : Act) (w : World) (G : Ghost) (xs : List Nat) (σ' : State) (tv : TV) (tame : Bool) : Prop :=
  ∃ v w' G' fp n, (execOp a.eval o).run P w = .ok n w' ∧ (n = .value v ∨ (n = .skip ∧ v = undef)) ∧ Inv W0 M σ' a w' G' (fp ++ xs) ∧ SlotRel σ' G' a w' tv v fp ∧ (tame = true → Calmer w G w' G')

section
variable {R : Type} {Γ : Env R} {d : Option Nat} {type : TypeId} {o : Oper} {k : TV → State → Option R} {r : R}

theorem hard_assign (I : Inv W0 M σ a w G xs) {x : Operand} (ho : o.op = .assign x) (h : hardC Γ d type σ k o.op = some r) : ∃ tv σ', k tv σ' = some r ∧ HardOk P W0 M o a w G xs σ' tv true := by
  rw [ho] at h
  simp only [hardC] at h
  have hrun : (execOp a.eval o).run P w = .ok (.value (a.eval x)) w := by rw [exec_with ho]; rfl
  have hp := peek_rel I x
  have hsame : ∀ tv, σ.peek x = tv → (∀ v ags, tv ≠ .tup v ags) → k tv σ = some r → ∃ tv σ', k tv σ' = some r ∧ HardOk P W0 M o a w G xs σ' tv true := by
    intro tv htv hnt hk
    rw [htv] at hp
    exact ⟨tv, σ, hk, a.eval x, w, G, [], _, hrun, .inl rfl, I, hp hnt, fun _ => Calmer.refl _ _⟩
  split at h
  · rename_i v hpk; exact hsame _ hpk (by simp) h
  · rename_i p ag hpk
    split at h
    · rename_i u hu
      split at h
      · rename_i v σ' ht
        obtain ⟨fp, G', I', hs, hτ, hR, hsh⟩ := take_rel I ht
        exact ⟨_, _, h, a.eval x, w, G', fp, _, hrun, .inl rfl, I', ⟨hsh, hR⟩, fun _ => hs.calmer⟩
      · cases h
    · cases h
  · rename_i hpk
    split at h
    · rename_i e ht
      refine ⟨_, _, h, a.eval x, w, G, [], _, hrun, .inl rfl, I, ?_, fun _ => Calmer.refl _ _⟩
      rw [hpk] at hp
      obtain ⟨hv, _⟩ := hp (by simp)
      rw [hv]
      exact ⟨rfl, .O, none, 0, rfl, rfl, Nat.le_refl _, .inl ⟨rfl, rfl, rfl, rfl, rfl⟩⟩
    · cases h
  · cases h
  · cases h
  · cases h
  · rename_i h1 h2 h3 h4 h0 h5
    exact hsame _ rfl (fun v ags hh => h5 v ags hh) h

theorem unpointed (i : Nat) (tv : TV) (v : Value) (Q : Place → Value → Prop) : PtrAt i (TV.unpoint i (TV.loosen true i tv)) v Q := by
  cases tv with
  | ref p ag =>
    simp only [TV.loosen]
    split
    · trivial
    · rename_i hc; simpa [PtrAt, TV.unpoint] using hc
  | eref p =>
    simp only [TV.loosen]
    split
    · trivial
    · rename_i hc; simpa [PtrAt, TV.unpoint] using hc
  | ptr p =>
    simp only [TV.loosen, TV.unpoint]
    split
    · trivial
    · rename_i hc
      intro hr
      simp [hr] at hc
  | clos f ps =>
    simp only [TV.loosen, TV.unpoint]
    split
    · trivial
    · rename_i hc
      intro k hk hr
      exact absurd (List.any_eq_true.2 ⟨ps[k], List.getElem_mem _, by simp [hr]⟩) hc
  | _ => trivial

theorem newBox_rel {fv : List Nat} (I : Inv W0 M σ a w G (fv ++ xs)) {i : Nat} (hin : i < σ.slots.length) {v : TVal} {t : TypeId} {c : Array Value} (hR : Rp w G.F G.St G.Al v.τ v.tg c.toList v.x fv) (hp : Pushed w w' (.cells c t (0, 0))) :
    ∃ G', Inv W0 M (((σ.loosen true i).unpoint i).putBox i (some v)) a w' G' xs ∧ Calmer w G w' G' ∧
      SlotRel (((σ.loosen true i).unpoint i).putBox i (some v)) G' a w' (.ptr ⟨true, i, []⟩) (.pointer (some ⟨w.heap.size, 0, none⟩)) [] := by
  obtain ⟨fs1, I1, _⟩ := I.loosen true i
  obtain ⟨fs2, I2, _⟩ := I1.unpoint i
  obtain ⟨I3, hcalm, hlift⟩ := I2.grow hp (z := .a i) 0 (ys := []) (.inr ⟨⟨i, rfl⟩, rfl⟩)
  have hcalm : Calmer w G w' (Ghost.grow { G with fs := fs2 } w.heap.size (.a i) 0) := ((Sim.fs G fs2).calmer).trans hcalm
  have hR' := hlift _ _ _ _ _ hR
  by_cases hi : i < σ.boxes.length
  · obtain ⟨G', I4, gF, gS, gA, gb, gad⟩ := Inv.addBox (fv := fv) (xs := xs) (i := i) (g := w.heap.size) (v := v) I3 (by simpa [State.loosen, State.unpoint] using hi) hp.new (if_pos rfl) hR' (fun j hj => by
      rw [unpoint_slot, loosen_slot]
      exact unpointed _ _ _ _) (.inl (by simpa [State.loosen, State.unpoint] using hin))
    refine ⟨G', I4, hcalm.trans ?_, ⟨rfl, rfl, rfl, .inr ⟨c.toList, (w.heap.size, 0), ⟨v.τ, c.toList, some (w.heap.size, 0), ?_, ?_, locP_nil _ _ _ _⟩, rfl⟩⟩⟩
    · exact ⟨fun w2 hc => ⟨fun b hb ha => (by have := hc.1 b hb (by rw [gA]; exact ha); rw [gF] at this; exact this), fun j b hb => hc.2 j b ((gb b j).2 hb)⟩, fun w2 hc j b hb => hc j b ((gb b j).2 hb)⟩
    · rw [ct_box, putBox_box]
      simp [State.loosen, State.unpoint, hi]
    · simp only [rootLoc, gad, if_true, hp.new]
  · have he : ((σ.loosen true i).unpoint i).putBox i (some v) = (σ.loosen true i).unpoint i := by
      unfold State.putBox
      rw [setN_ge]
      simp [State.loosen, State.unpoint]; omega
    rw [he]
    refine ⟨_, I3.sub (fun b hb => by simp [hb]) (List.nodup_append.1 I.nodX).2.1, hcalm, ⟨rfl, rfl, rfl, .inl ?_⟩⟩
    rw [ct_box]
    have : ((σ.loosen true i).unpoint i).boxAt i = none := getN_ge _ _ (by simp [State.loosen, State.unpoint]; omega)
    rw [this]; rfl

theorem hard_alloc (hT : TysOk P Γ.tys) (I : Inv W0 M σ a w G xs) {t : TypeId} (ho : o.op = .alloc t) (h : hardC Γ d type σ k o.op = some r) : ∃ tv σ', k tv σ' = some r ∧ HardOk P W0 M o a w G xs σ' tv true := by
  rw [ho] at h
  simp only [hardC] at h
  split at h
  · rename_i i τ ht
    split at h
    case isFalse => cases h
    rename_i hin
    obtain ⟨l, hta, _⟩ := tyOf_assoc ht
    obtain ⟨inf, z, hi, hs, _, _, hz, hzc, _⟩ := (hT _ _ _ hta).info
    have hrun : (execOp a.eval o).run P w = .ok (.value (.pointer (some ⟨w.heap.size, 0, none⟩))) (w.alloc (.cells z.cells t)) := by
      rw [exec_with ho]
      simp [execOp, Instr.alloc, zeroValue, typeInfo, hi, hz, newVar, newRow]
    have hR : Rp w G.F G.St G.Al τ (List.replicate (leaves τ) .O) z.cells.toList (zero τ) [] := by rw [hzc]; exact zero_rp τ
    obtain ⟨G', I', hc, hsl⟩ := newBox_rel (fv := []) (i := i) (v := ⟨τ, false, zero τ, List.replicate (leaves τ) .O⟩) (by simpa using I) hin hR (Pushed.alloc w _)
    exact ⟨_, _, h, _, _, G', [], _, hrun, .inl rfl, by simpa using I', hsl, fun _ => hc⟩
  · cases h

theorem pinOf_some {np : Nat} {x : Operand} {τ : Ty} {i : Nat} (h : pinOf np σ x τ = some i) : x = .tmp i ∧ ∃ u, σ.slot i = .val u ∧ u.τ = τ := by
  unfold pinOf at h
  split at h
  · split at h
    · rename_i u hs
      split at h
      · rename_i hc
        simp only [Bool.and_eq_true, decide_eq_true_eq] at hc
        cases h
        exact ⟨rfl, u, hs, hc.1.2⟩
      · cases h
    · cases h
  · cases h

theorem hard_box (I : Inv W0 M σ a w G xs) {t : TypeId} {x : Operand} (ho : o.op = .box t x) (h : hardC Γ d type σ k o.op = some r) : ∃ tv σ', k tv σ' = some r ∧ HardOk P W0 M o a w G xs σ' tv true := by
  rw [ho] at h
  simp only [hardC] at h
  split at h
  · rename_i i τ ht
    have hrun : (execOp a.eval o).run P w = .ok (.value (.pointer (some ⟨w.heap.size, 0, none⟩))) (w.alloc (.cells (a.eval x).cells t)) := by
      rw [exec_with ho]
      simp [execOp, Instr.box, newVar, newRow]
    split at h
    · rename_i p hpin
      obtain ⟨rfl, u, hsl, rfl⟩ := pinOf_some hpin
      have hs := I.slot p (slot_lt (by rw [hsl]; simp))
      rw [hsl] at hs
      obtain ⟨hsh, hR⟩ := hs
      have hev : a.eval (.tmp p) = a.tmps.getD p undef := rfl
      have hlen := hR.len.1
      have hp := Pushed.alloc w (.cells (a.eval (.tmp p)).cells t (0, 0))
      obtain ⟨I3, hc3, _⟩ := I.grow hp (z := .x) (size u.τ) (ys := [w.heap.size]) (.inl ⟨rfl, rfl⟩)
      obtain ⟨G4, I4, gF, gad, gA, gb, gS, _⟩ := I3.freeze
      refine ⟨_, _, h, _, _, G4, [], _, hrun, .inl rfl, by simpa using I4, ⟨rfl, rfl, w.heap.size, 0, u.τ, rfl, tyAt_nil _, hlen, ?_, (gS _).2 (.inr (by simp)), ?_⟩, fun _ => hc3.trans ?_⟩
      · unfold cellsAt
        rw [hp.new]
        simp only []
        have hcells : (a.eval (.tmp p)).cells.toList = vCells (a.tmps.getD p undef) := by rw [hsh.cells, hev]
        have hsz : (a.eval (.tmp p)).cells.size = size u.τ := by
          rw [← hlen, ← hcells]; simp
        rw [if_pos (by omega), hcells, offP_nil]
      · rw [gF]
        show 0 + size u.τ ≤ (if w.heap.size = w.heap.size then size u.τ else G.F w.heap.size)
        rw [if_pos rfl]; omega
      · exact ⟨fun w2 hc => ⟨fun b hb ha => (by have := hc.1 b hb (by rw [gA]; exact ha); rw [gF] at this; exact this), fun j b hb => hc.2 j b ((gb b j).2 hb)⟩, fun w2 hc j b hb => hc j b ((gb b j).2 hb)⟩
    · split at h
      · rename_i v σ' htk
        split at h
        case isFalse => cases h
        rename_i hin
        obtain ⟨fp, G1, I1, hs, hτ, hR, hsh⟩ := take_rel I htk
        rw [hsh.cells] at hR
        obtain ⟨G', I', hc, hsl⟩ := newBox_rel (i := i) (v := v) I1 hin hR (Pushed.alloc w _)
        exact ⟨_, _, h, _, _, G', [], _, hrun, .inl rfl, by simpa using I', hsl, fun _ => hs.calmer.trans hc⟩
      · cases h
  · cases h
end
end
end Go.PI
namespace Go.PI

theorem chunk : (css : List (List Value)) → (s k : Nat) → (rest : List Value) → (hs : ∀ c ∈ css, c.length = s) → (hk : k < css.length) → ((css.flatten ++ rest).drop (k * s)).take s = css[k]
  | [], s, k, rest, hs, hk => by simp at hk
  | c :: css, s, 0, rest, hs, hk => by
    have := hs c (by simp)
    simp [← this]
  | c :: css, s, k + 1, rest, hs, hk => by
    have hc := hs c (by simp)
    simp only [List.flatten_cons, List.append_assoc, List.getElem_cons_succ]
    rw [Nat.add_mul, Nat.one_mul, Nat.add_comm, ← hc, List.drop_length_add_append, hc]
    exact chunk css s k rest (fun c' h => hs c' (List.mem_cons_of_mem _ h)) (by simpa using hk)

theorem flatten_len : (css : List (List Value)) → (s : Nat) → (hs : ∀ c ∈ css, c.length = s) → css.flatten.length = css.length * s
  | [], s, hs => by simp
  | c :: css, s, hs => by
    simp only [List.flatten_cons, List.length_append, List.length_cons, flatten_len css s (fun c' h => hs c' (List.mem_cons_of_mem _ h)), hs c (by simp)]
    rw [Nat.add_mul, Nat.one_mul, Nat.add_comm]

section
variable {W0 : Base} {M : Nat → Prop} {σ : State} {a : Act} {w w' : World} {G : Ghost} {xs : List Nat} {P : Program} {tys : List (TypeId × Ty × List TypeId)}

theorem newRow_rel {e : Ty} {fps : List (List Nat)} (I : Inv W0 M σ a w G (fps.flatten ++ xs)) {C : Array Value} {T : TypeId} {fr : Nat × Nat} (hp : Pushed w w' (.cells C T fr)) (hth : Thaw C fr) {t : Tag} (ht : t.own = true)
    {x : List (El e)} {css : List (List Value)} {rest : List Value} {cap : Nat} (hC : C.toList = css.flatten ++ rest) (hcl : css.length = x.length) (hfl : fps.length = x.length) (hcap : x.length ≤ cap) (hfit : cap * size e ≤ C.size)
    (hel : ∀ k (h : k < x.length), Rp w G.F G.St G.Al e (List.replicate (leaves e) t.inner) (css.getD k []) (x.get ⟨k, h⟩) (fps.getD k [])) :
    ∃ G', Inv W0 M σ a w' G' ((w.heap.size :: fps.flatten) ++ xs) ∧ Calmer w G w' G' ∧ Rp w' G'.F G'.St G'.Al (.slice e) [t] [.slice (some ⟨w.heap.size, 0, none⟩) x.length cap] x (w.heap.size :: fps.flatten) ∧ G'.St = G.St := by
  obtain ⟨I1, hc, hl⟩ := I.grow hp (z := .x) (x.length * size e) (ys := [w.heap.size]) (.inl ⟨rfl, rfl⟩)
  have hlen : ∀ c ∈ css, c.length = size e := by
    intro c hc
    obtain ⟨k, hk, rfl⟩ := List.mem_iff_getElem.1 hc
    have := (hel k (by omega)).len.1
    rw [List.getD_eq_getElem?_getD, List.getElem?_eq_getElem hk] at this
    exact this
  refine ⟨_, I1, hc, ?_, rfl⟩
  refine ⟨t, some ⟨w.heap.size, 0, none⟩, cap, rfl, rfl, hcap, .inr (.inl ⟨ht, w.heap.size, 0, fps, rfl, ?_, rfl, hfl, ⟨C, T, fr, hp.new, by omega, hth⟩, ?_, fun k hk => ?_⟩)⟩
  · exact ⟨fun i h => (by rw [show (G.grow w.heap.size .x (x.length * size e)).who w.heap.size = some .x from if_pos rfl] at h; cases h), fun h => (by rw [show (G.grow w.heap.size .x (x.length * size e)).who w.heap.size = some .x from if_pos rfl] at h; cases h)⟩
  · show (if w.heap.size = w.heap.size then x.length * size e else _) = _
    rw [if_pos rfl, Nat.zero_add]
  · have hkc : k < css.length := by rw [hcl]; exact hk
    refine ⟨css[k], ?_, ?_⟩
    · unfold cellsAt
      rw [hp.new]
      simp only []
      have hb : (k + 1) * size e ≤ cap * size e := Nat.mul_le_mul_right _ (by have : k < x.length := hk; omega)
      rw [Nat.add_mul, Nat.one_mul] at hb
      rw [if_pos (by omega), hC, Nat.zero_add, chunk css (size e) k rest hlen hkc]
    · have := hl _ _ _ _ _ (hel k hk)
      rw [List.getD_eq_getElem?_getD, List.getElem?_eq_getElem hkc] at this
      exact this

theorem made_chunks (z : List Value) : (n : Nat) → (madeCells z.toArray (n * z.length)).toList = (List.replicate n z).flatten
  | 0 => by simp [madeCells]
  | n + 1 => by
    have ih := made_chunks z n
    have hz : (List.range z.length).map (fun i => z.toArray[(n * z.length + i) % z.toArray.size]!) = z := by
      apply List.ext_getElem
      · simp
      · intro i h1 h2
        simp only [List.getElem_map, List.getElem_range, List.size_toArray]
        rw [Nat.mul_add_mod_self_right, Nat.mod_eq_of_lt (by simpa using h1)]
        have : i < z.length := by simpa using h1
        simp [this]
    rw [List.replicate_succ', List.flatten_append, ← ih]
    simp only [madeCells, Array.toList_map, Array.toList_range, List.flatten_cons, List.flatten_nil, List.append_nil]
    rw [Nat.add_mul, Nat.one_mul, List.range_add, List.map_append, List.map_map]
    congr 1

theorem rep_getD {α : Type} (n k : Nat) (a d : α) (h : k < n) : (List.replicate n a).getD k d = a := by simp [List.getD_eq_getElem?_getD, h]
theorem rep_nil_getD {α : Type} (n k : Nat) : (List.replicate n ([] : List α)).getD k [] = [] := by
  rcases Nat.lt_or_ge k n with h | h
  · exact rep_getD _ _ _ _ h
  · simp [List.getD_eq_getElem?_getD, h]
theorem rep_nil_flatten {α : Type} (n : Nat) : (List.replicate n ([] : List α)).flatten = [] := by induction n with
  | zero => rfl
  | succ n ih => simp [List.replicate_succ, ih]

section
variable {R : Type} {Γ : Env R} {d : Option Nat} {type : TypeId} {o : Oper} {k : TV → State → Option R} {r : R}

theorem hard_makeSlice (hT : TysOk P Γ.tys) (I : Inv W0 M σ a w G xs) {t : TypeId} {n c : Operand} (ho : o.op = .makeSlice t n c) (h : hardC Γ d type σ k o.op = some r) : ∃ tv σ', k tv σ' = some r ∧ HardOk P W0 M o a w G xs σ' tv true := by
  rw [ho] at h
  simp only [hardC] at h
  split at h
  · cases h
  rename_i hag
  split at h
  · rename_i e m tg1 m' tg2 ht hn hm
    rw [cond_eq_ite] at h
    split at h
    · rename_i hc
      simp only [decide_eq_true_eq] at hc
      obtain ⟨h0, h1, h2⟩ := hc
      have h0 : @LE.le Int Int.instLEInt 0 m := h0
      have h1 : @LE.le Int Int.instLEInt m m' := h1
      have h2 : @LE.le Int Int.instLEInt m' 2147483648 := h2
      obtain ⟨et, le, hu, hea, _⟩ := und_slice hT ht (by simpa using hag)
      obtain ⟨inf, z, hi, hs, hby, _, hz, hzc, _⟩ := (hT et _ _ hea).info
      have hzl : z.cells.toList.length = size e := by rw [hzc]; exact (zero_rp (w := w) (F := G.F) (St := G.St) (Al := G.Al) e).len.1
      have hv1 := look_int I hn
      have hv2 := look_int I hm
      have hrun : (execOp a.eval o).run P w = .ok (.value (.slice (some ⟨w.heap.size, 0, none⟩) m.toNat m'.toNat)) (w.alloc (.cells (madeCells z.cells (m'.toNat * size e)) et)) := by
        rw [exec_with ho]
        simp only [execOp, hv1, hv2, Sem.run_bind, run_make w t et inf z hu hi hz .i64 .i64 m m' h0 h1 (by
          have : (inf.bytes : Int) * m' ≤ 65536 * m' := Int.mul_le_mul_of_nonneg_right (by omega) (by omega)
          omega) (by omega), hs, Result.andThen_ok, Sem.run_pure]
      have hmade := made_chunks z.cells.toList m'.toNat
      rw [hzl] at hmade
      have hmm : m'.toNat = m.toNat + (m'.toNat - m.toNat) := by omega
      rw [hmm, ← List.replicate_append_replicate, List.flatten_append, ← hmm] at hmade
      obtain ⟨G', I', hcalm, hR, _⟩ := newRow_rel (e := e) (fps := List.replicate m.toNat []) (xs := xs) (by rw [rep_nil_flatten]; exact I) (Pushed.alloc w (.cells (madeCells z.cells (m'.toNat * size e)) et (0, 0))) (fun j hj hh => by simp at hh) (t := .O) rfl
        (x := List.replicate m.toNat (zero e)) (css := List.replicate m.toNat z.cells.toList) (cap := m'.toNat) hmade (by simp) (by simp) (by simp; omega) (by rw [size_madeCells]; exact Nat.le_refl _) (fun k hk => by
          have hk' : k < m.toNat := by simpa using hk
          rw [rep_getD _ _ _ _ hk', rep_nil_getD, hzc]
          have : (List.replicate m.toNat (zero e)).get ⟨k, hk⟩ = zero e := by simp
          rw [this]
          exact zero_rp e)
      rw [rep_nil_flatten] at I' hR
      refine ⟨_, _, h, _, _, G', _, _, hrun, .inl rfl, I', ⟨rfl, ?_⟩, fun _ => hcalm⟩
      rw [one_cells rfl]
      rw [List.length_replicate] at hR
      exact hR
    · cases h
  · cases h
end
end
end Go.PI
namespace Go.PI

section
variable {W0 : Base} {M : Nat → Prop} {σ : State} {a : Act} {w w' : World} {G : Ghost} {xs : List Nat} {P : Program} {tys : List (TypeId × Ty × List TypeId)}
variable {R : Type} {Γ : Env R} {d : Option Nat} {type : TypeId} {o : Oper} {k : TV → State → Option R} {r : R}

theorem map_one_flatten (l : List UInt8) : (l.map fun b => [Value.int .u8 (b.toNat : Int)]).flatten = l.map fun b => Value.int .u8 (b.toNat : Int) := by
  induction l with
  | nil => rfl
  | cons b l ih => simp [ih]

theorem hard_convert (hT : TysOk P Γ.tys) (I : Inv W0 M σ a w G xs) {s t : TypeId} {x : Operand} (ho : o.op = .convert s t x) (h : hardC Γ d type σ k o.op = some r) : ∃ tv σ', k tv σ' = some r ∧ HardOk P W0 M o a w G xs σ' tv true := by
  rw [ho] at h
  simp only [hardC] at h
  split at h
  · cases h
  rename_i hag
  simp only [Bool.or_eq_true, not_or, Bool.not_eq_true] at hag
  split at h
  · rename_i b tg hs ht hl
    rw [cond_eq_ite] at h
    split at h
    · have hv := look_str I hl
      obtain ⟨et, le, hu, hea, hpl⟩ := und_slice hT ht hag.2
      have hle : le = [] := hpl rfl
      subst hle
      have hue := ((hT et _ _ hea).und rfl).1 .u8 rfl
      have hrun : (execOp a.eval o).run P w = .ok (.value (.slice (some ⟨w.heap.size, 0, none⟩) (ByteArray.size b) (grownCap w (ByteArray.size b) 0 et)))
          (w.drew.alloc (.cells (bytesRow b (grownCap w (ByteArray.size b) 0 et)) et ((bytesRow b (grownCap w (ByteArray.size b) 0 et)).size, (bytesRow b (grownCap w (ByteArray.size b) 0 et)).size + 1))) := by
        rw [exec_with ho]
        simp only [execOp, hv, Sem.run_bind, run_bytes_of_string w s t et b (und_str hT hs hag.1) hu hue, Result.andThen_ok, Sem.run_pure]
      have hge := grownCap_ge w b.size 0 et
      have hsz : (bytesRow b (grownCap w b.size 0 et)).size = grownCap w b.size 0 et := by
        have : b.data.size = b.size := rfl
        simp [bytesRow]; omega
      have hbl : (toBytes b).length = b.size := by simp [toBytes]
      obtain ⟨G', I', hcalm, hR, _⟩ := newRow_rel (e := .int .u8) (fps := List.replicate b.size []) (xs := xs) (by rw [rep_nil_flatten]; exact I) (Pushed.drew w (.cells (bytesRow b (grownCap w b.size 0 et)) et ((bytesRow b (grownCap w b.size 0 et)).size, (bytesRow b (grownCap w b.size 0 et)).size + 1)))
        (fun j hj hh => by have := hh.1; simp only at this; omega) (t := .O) rfl
        (x := toBytes b) (css := b.data.toList.map fun b => [Value.int .u8 (b.toNat : Int)]) (rest := List.replicate (grownCap w b.size 0 et - b.size) (.int .u8 0)) (cap := grownCap w b.size 0 et) (by
          rw [map_one_flatten]; simp [bytesRow]) (by simp [toBytes]) (by rw [hbl]; simp) (by rw [hbl]; exact hge) (by rw [hsz]; simp [size]) (fun k hk => by
          have hk' : k < b.data.toList.length := by rw [hbl] at hk; simpa using hk
          rw [rep_nil_getD]
          refine ⟨?_, rfl, rfl⟩
          rw [List.getD_eq_getElem?_getD, List.getElem?_map, List.getElem?_eq_getElem hk']
          simp [toBytes])
      rw [rep_nil_flatten] at I' hR
      refine ⟨_, _, h, _, _, G', _, _, hrun, .inl rfl, I', ⟨rfl, ?_⟩, fun _ => hcalm⟩
      rw [one_cells rfl]
      rw [hbl] at hR
      exact hR
    · cases h
  · cases h

theorem fold_splice : (vs : List Value) → (off j : Nat) → (cells : Array Value) → off + j + vs.length ≤ cells.size →
    ((vs.zipIdx j).foldl (fun (cs : Array Value) (x : Value × Nat) => cs.setIfInBounds (off + x.2) x.1) cells).toList = splice cells.toList (off + j) vs
  | [], off, j, cells, h => by simp [splice]
  | v :: vs, off, j, cells, h => by
    simp only [List.length_cons] at h
    simp only [List.zipIdx_cons, List.foldl_cons]
    rw [fold_splice vs off (j + 1) _ (by simp; omega)]
    have hj : off + j < cells.toList.length := by simp; omega
    simp only [splice, Array.toList_setIfInBounds, List.length_cons]
    have h1 : (cells.toList.set (off + j) v).take (off + (j + 1)) = cells.toList.take (off + j) ++ [v] := by
      rw [show off + (j + 1) = (off + j) + 1 by omega, List.take_add_one, List.take_set, List.set_eq_of_length_le (by simp; omega), List.getElem?_set_self hj]
      rfl
    have h2 : (cells.toList.set (off + j) v).drop (off + (j + 1) + vs.length) = cells.toList.drop (off + j + (vs.length + 1)) := by
      rw [show off + (j + 1) + vs.length = off + j + (vs.length + 1) by omega, List.drop_set_of_lt (by omega)]
    rw [h1, h2]
    simp

theorem fill_step {place : Nat → Option (Nat × Nat)} {cells : Array Value} {i : Nat} {v : Value} {rest : List (Nat × Value)} {off size : Nat} (hp : place i = some (off, size)) (hv : v.cells.size = size) (hb : off + size ≤ cells.size) :
    ∃ cells' : Array Value, Instr.fill place cells ((i, v) :: rest) = Instr.fill place cells' rest ∧ cells'.toList = splice cells.toList off v.cells.toList ∧ cells'.size = cells.size := by
  refine ⟨v.cells.zipIdx.foldl (fun cs (c, j) => cs.setIfInBounds (off + j) c) cells, ?_, ?_, ?_⟩
  · simp only [Instr.fill, hp]
    rw [if_neg]
    simp [hv]; omega
  · have := fold_splice v.cells.toList off 0 cells (by simp; omega)
    rw [Nat.add_zero] at this
    rw [← this, ← Array.foldl_toList, Array.toList_zipIdx]
  · have hl : (v.cells.zipIdx.foldl (fun cs (c, j) => cs.setIfInBounds (off + j) c) cells).toList.length = cells.toList.length := by
      have := fold_splice v.cells.toList off 0 cells (by simp; omega)
      rw [Nat.add_zero] at this
      rw [← Array.foldl_toList, Array.toList_zipIdx, this, splice_length]
      simp; omega
    simpa using hl

theorem tyAt_of_getP : {q : List Step} → {τ : Ty} → {x : El τ} → {tg : List Tag} → {u : TVal} → flatB q = true → getP τ x tg q = some u → ∃ τf, tyAt τ q = some τf
  | [], τ, _, _, _, _, _ => ⟨τ, tyAt_nil τ⟩
  | .fst :: p, .pair a b, x, tg, u, hf, h => tyAt_of_getP (q := p) (τ := a) hf h
  | .snd :: p, .pair a b, x, tg, u, hf, h => tyAt_of_getP (q := p) (τ := b) hf h
  | .idx _ :: _, _, _, _, _, hf, _ => by simp [flatB] at hf
  | .fst :: _, .int _, _, _, _, _, h => by simp [getP] at h
  | .fst :: _, .bool, _, _, _, _, h => by simp [getP] at h
  | .fst :: _, .str, _, _, _, _, h => by simp [getP] at h
  | .fst :: _, .unit, _, _, _, _, h => by simp [getP] at h
  | .fst :: _, .slice _, _, _, _, _, h => by simp [getP] at h
  | .snd :: _, .int _, _, _, _, _, h => by simp [getP] at h
  | .snd :: _, .bool, _, _, _, _, h => by simp [getP] at h
  | .snd :: _, .str, _, _, _, _, h => by simp [getP] at h
  | .snd :: _, .unit, _, _, _, _, h => by simp [getP] at h
  | .snd :: _, .slice _, _, _, _, _, h => by simp [getP] at h

theorem fill_rel {n : Nat} {place : Nat → Option (Nat × Nat)} {τ : Ty} (hpl : ∀ i τf, tyAt τ (fieldPath n i) = some τf → i < n → place i = some (offP τ (fieldPath n i), size τf)) :
    (ps : List (Nat × Operand)) → (hin : ∀ p ∈ ps, p.1 < n) → (v : TVal) → (hv : v.τ = τ) → (σ : State) → (G : Ghost) → (fp : List Nat) → (cells : Array Value) → (kk : TVal → State → Option R) → (I : Inv W0 M σ a w G (fp ++ xs)) →
    (hR : Rp w G.F G.St G.Al v.τ v.tg cells.toList v.x fp) → (h : fillC n ps v σ kk = some r) →
    ∃ v' σ' G' fp' cells', kk v' σ' = some r ∧ Instr.fill place cells (ps.map fun p => (p.1, a.eval p.2)) = some cells' ∧ v'.τ = τ ∧ v'.ag = v.ag ∧ Inv W0 M σ' a w G' (fp' ++ xs) ∧ Sim G G' ∧ Rp w G'.F G'.St G'.Al v'.τ v'.tg cells'.toList v'.x fp'
  | [], hin, v, hv, σ, G, fp, cells, kk, I, hR, h => ⟨v, σ, G, fp, cells, h, rfl, hv, rfl, I, Sim.refl _, hR⟩
  | (i, op) :: ps, hin, v, hv, σ, G, fp, cells, kk, I, hR, h => by
    simp only [fillC] at h
    split at h
    · rename_i u hu
      split at h
      · rename_i y σ1 htk
        split at h
        · rename_i rr hset
          obtain ⟨fpy, G1, I1, hs, hτ, hRy, hsh⟩ := take_rel I htk
          have hR1 : Rp w G1.F G1.St G1.Al v.τ v.tg cells.toList v.x fp := by rw [hs.F, hs.St, hs.Al]; exact hR
          have hff := flat_fieldPath n i
          obtain ⟨τf, hta⟩ : ∃ τf, tyAt v.τ (fieldPath n i) = some τf := tyAt_of_getP hff hu
          obtain ⟨u', hu', hut⟩ := getP_tyAt (x := v.x) (tg := v.tg) hta
          rw [hu] at hu'
          cases hu'
          obtain ⟨hlc, hle⟩ := locP_flat (w := w) (cs := cells.toList) (base := (none : Option (Nat × Nat))) hta hR1.len.1
          obtain ⟨f1, fi, f2, e1, e2, e3, e4, e5⟩ := Rp.flatLens hff hR1 hlc hu
          rw [hsh.cells] at hRy
          have hnew := e5 y _ fpy rr.1 rr.2 hset hτ hRy
          have hysz : (a.eval op).cells.size = size τf := by
            have := hRy.len.1
            rw [hτ, hut] at this
            simpa using this
          have hcsz : cells.size = size v.τ := by have := hR1.len.1; simpa using this
          obtain ⟨cells1, hf1, hf2, hf3⟩ := fill_step (place := place) (cells := cells) (i := i) (v := a.eval op) (rest := ps.map fun p => (p.1, a.eval p.2)) (hpl i τf (by rw [← hv]; exact hta) (hin (i, op) (by simp))) hysz (by rw [← hv, hcsz]; exact hle)
          have hf2' : cells1.toList = splice cells.toList (offP v.τ (fieldPath n i)) (a.eval op).cells.toList := by rw [hf2, hv]
          rw [← hf2'] at hnew
          have hnod : (fpy ++ (fp ++ xs)).Nodup := I1.nodX
          have hsub : ∀ b ∈ f1 ++ fpy ++ f2 ++ xs, b ∈ fpy ++ (fp ++ xs) := by
            rw [e1]; intro b hb; simp only [List.mem_append] at hb ⊢; rcases hb with ((hb | hb) | hb) | hb <;> simp [hb]
          have hnd : (f1 ++ fpy ++ f2 ++ xs).Nodup := by
            have hp : ((f1 ++ fpy ++ f2 ++ xs) ++ fi).Perm (fpy ++ (fp ++ xs)) := by
              rw [e1]
              refine List.perm_iff_count.2 fun z => ?_
              simp only [List.count_append]
              omega
            exact (List.nodup_append.1 (hp.nodup_iff.2 hnod)).1
          obtain ⟨v', σ', G', fp', cells', h1, h2, h3, h4, h5, h6, h7⟩ := fill_rel hpl ps (fun p hp => hin p (List.mem_cons_of_mem _ hp)) ⟨v.τ, v.ag, rr.1, rr.2⟩ hv σ1 G1 (f1 ++ fpy ++ f2) cells1 kk (I1.sub hsub hnd) hnew h
          exact ⟨v', σ', G', fp', cells', h1, by rw [List.map_cons, hf1]; exact h2, h3, h4, h5, hs.trans h6, h7⟩
        · cases h
      · cases h
    · cases h
end
end Go.PI
namespace Go.PI

theorem mapM_get {α β : Type} (f : α → Option β) : (l : List α) → (∀ x ∈ l, ∃ y, f x = some y) → ∃ r : List β, l.mapM f = some r ∧ ∀ i : Nat, r[i]? = l[i]?.bind f
  | [], _ => ⟨[], rfl, fun i => rfl⟩
  | x :: l, h => by
    obtain ⟨y, hy⟩ := h x (by simp)
    obtain ⟨r, hr, hi⟩ := mapM_get f l fun z hz => h z (List.mem_cons_of_mem _ hz)
    refine ⟨y :: r, by simp [List.mapM_cons, hy, hr], fun i => ?_⟩
    cases i with
    | zero => simp [hy]
    | succ i => simpa using hi i

section
variable {W0 : Base} {M : Nat → Prop} {σ : State} {a : Act} {w w' : World} {G : Ghost} {xs : List Nat} {P : Program} {tys : List (TypeId × Ty × List TypeId)}
variable {R : Type} {Γ : Env R} {d : Option Nat} {type : TypeId} {o : Oper} {k : TV → State → Option R} {r : R}

theorem hard_build (hT : TysOk P Γ.tys) (I : Inv W0 M σ a w G xs) {t : TypeId} {ps : Array (Nat × Operand)} (ho : o.op = .build t ps) (h : hardC Γ d type σ k o.op = some r) : ∃ tv σ', k tv σ' = some r ∧ HardOk P W0 M o a w G xs σ' tv true := by
  rw [ho] at h
  simp only [hardC] at h
  split at h
  · rename_i τ l hta
    split at h
    · cases h
    rename_i hc
    simp only [Bool.or_eq_true, not_or, Bool.not_eq_true, Bool.not_eq_false', List.all_eq_true, decide_eq_true_eq] at hc
    obtain ⟨hl, hps⟩ := hc
    have hl' : l ≠ [] := by rintro rfl; simp at hl
    obtain ⟨inf, z, hi, hs, _, _, hz, hzc, _⟩ := (hT _ _ _ hta).info
    obtain ⟨fs, hu, hlen, hf, _⟩ := (hT _ _ _ hta).str hl'
    have hfl : ∀ f ∈ fs.toList, ∃ y, (fun f : Field => (P.info? f.type).map fun i => (f.offset, i.size)) f = some y := by
      intro f hf'
      obtain ⟨i, hi', rfl⟩ := List.mem_iff_getElem.1 hf'
      obtain ⟨f', τf, lf, h1, h2, h3, h4, h5, h6, _⟩ := (hf i (by rw [← hlen]; simpa using hi')).out
      obtain ⟨inf', z', h7, h8, _⟩ := (hT _ _ _ h5).info
      have : fs.toList[i] = f' := by
        have : fs[i]? = some fs.toList[i] := by rw [← Array.getElem?_toList]; simp
        rw [this] at h1; cases h1; rfl
      rw [this]
      exact ⟨_, by simp only [h7]; rfl⟩
    obtain ⟨places, hpl, hpi⟩ := mapM_get _ _ hfl
    have hplace : ∀ i τf, tyAt τ (fieldPath l.length i) = some τf → i < l.length → places.toArray[i]? = some (offP τ (fieldPath l.length i), size τf) := by
      intro i τf hta' hil
      obtain ⟨f', τf', lf, h1, h2, h3, h4, h5, h6, _⟩ := (hf i hil).out
      rw [hta'] at h4; cases h4
      obtain ⟨inf', z', h7, h8, _⟩ := (hT _ _ _ h5).info
      have := hpi i
      have h1' : fs.toList[i]? = some f' := by rw [Array.getElem?_toList]; exact h1
      rw [h1'] at this
      simp only [Option.bind_some, h7, Option.map_some] at this
      rw [List.getElem?_toArray, this, h3, h8]
    obtain ⟨v', σ', G', fp', cells', h1, h2, h3, h4, h5, h6, h7⟩ := fill_rel (place := (places.toArray[·]?)) hplace ps.toList hps ⟨τ, true, zero τ, List.replicate (leaves τ) .O⟩ rfl σ G [] z.cells _ (by simpa using I) (by rw [hzc]; exact zero_rp τ) h
    have hb : P.built t (ps.map fun (i, x) => (i, a.eval x)).toList = some cells' := by
      unfold Program.built
      simp only [hi, hu, hz, hpl]
      rw [Array.toList_map]
      exact h2
    refine ⟨_, _, h1, .agg cells', w, G', fp', _, ?_, .inl rfl, h5, ⟨?_, ?_⟩, fun _ => h6.calmer⟩
    · rw [exec_with ho]
      simp only [execOp, Sem.run_bind, run_build w t _ cells' hb, Result.andThen_ok, Sem.run_pure]
    · rw [h4]; exact ⟨_, rfl⟩
    · exact h7
  · cases h

def TagLe (t0 t : Tag) : Prop := t0.over.inner = .N ∨ (t0.over.inner = .S ∧ t.isN = false) ∨ (t0 = .O ∧ t = .O)

theorem TagLe.meet_left {t1 t2 t : Tag} (h : TagLe t1 t) : TagLe (t1.meet t2) t := by
  cases t1 <;> cases t2 <;> cases t <;> simp_all [TagLe, Tag.meet, Tag.over, Tag.inner, Tag.isN]
theorem TagLe.meet_right {t1 t2 t : Tag} (h : TagLe t2 t) : TagLe (t1.meet t2) t := by
  cases t1 <;> cases t2 <;> cases t <;> simp_all [TagLe, Tag.meet, Tag.over, Tag.inner, Tag.isN]
theorem TagLe.self (t : Tag) : TagLe t t := by
  cases t <;> simp [TagLe, Tag.over, Tag.inner, Tag.isN]

theorem innerTag_le {v : TVal} : ∀ t ∈ v.tg, TagLe (innerTag v) t := by
  unfold innerTag
  generalize v.tg = l
  induction l with
  | nil => intro t h; simp at h
  | cons s l ih =>
    intro t h
    simp only [List.foldr_cons]
    rcases List.mem_cons.1 h with rfl | h
    · exact (TagLe.self _).meet_left
    · exact (ih t h).meet_right

theorem TagLe.weak {t0 t : Tag} {St : Nat → Prop} {fp : List Nat} (h : TagLe t0 t) (hO : t0 ≠ .O) (hfp : t0.over.inner = .S → ∀ b ∈ fp, St b) : Tag.weak St fp t t0.over.inner := by
  rcases h with h | ⟨h, h2⟩ | ⟨h, _⟩
  · rw [h]; cases t <;> simp [Tag.weak]
  · rw [h]
    have := hfp h
    cases t <;> simp_all [Tag.weak, Tag.isN]
  · exact absurd h hO
end
end Go.PI
namespace Go.PI

structure Elem (e : Ty) where
  x : El e
  tg : List Tag
  cs : List Value
  fp : List Nat

section
variable {W0 : Base} {M : Nat → Prop} {σ : State} {a : Act} {w w' : World} {G : Ghost} {xs : List Nat} {P : Program} {tys : List (TypeId × Ty × List TypeId)}
variable {R : Type} {Γ : Env R} {d : Option Nat} {type : TypeId} {o : Oper} {k : TV → State → Option R} {r : R}

def Elem.Ok {e : Ty} (w : World) (G : Ghost) (t0 : Tag) (u : Elem e) : Prop := Rp w G.F G.St G.Al e u.tg u.cs u.x u.fp ∧ ∀ t ∈ u.tg, TagLe t0 t

theorem Inv.perm {ys : List Nat} (I : Inv W0 M σ a w G xs) (h : xs.Perm ys) : Inv W0 M σ a w G ys :=
  I.sub (fun b hb => h.symm.subset hb) (h.nodup_iff.1 I.nodX)

theorem uniform {e : Ty} {t0 : Tag} {us : List (Elem e)} (I : Inv W0 M σ a w G ((us.map (·.fp)).flatten ++ xs)) (h : ∀ u ∈ us, u.Ok w G t0) :
    ∃ (G' : Ghost) (fps : List (List Nat)), Inv W0 M σ a w G' (fps.flatten ++ xs) ∧ Calmer w G w G' ∧ G'.F = G.F ∧ fps.length = us.length ∧ (∀ b, G.St b → G'.St b) ∧ G'.Al = G.Al ∧
      (∀ k (hk : k < us.length), Rp w G'.F G'.St G'.Al e (List.replicate (leaves e) t0.over.inner) us[k].cs us[k].x (fps.getD k [])) ∧
      (∀ (τ : Ty) (tg : List Tag) (cs : List Value) (x : El τ) (fp : List Nat), Rp w G.F G.St G.Al τ tg cs x fp → Rp w G'.F G'.St G'.Al τ tg cs x fp) ∧ (∀ b ∈ fps.flatten, b ∈ (us.map (·.fp)).flatten) := by
  by_cases hO : t0 = .O
  · subst hO
    refine ⟨G, us.map (·.fp), I, Calmer.refl _ _, rfl, by simp, fun _ h => h, rfl, fun k hk => ?_, fun _ _ _ _ _ h => h, fun _ h => h⟩
    obtain ⟨h1, h2⟩ := h us[k] (List.getElem_mem _)
    have : us[k].tg = List.replicate (leaves e) .O := by
      rw [List.eq_replicate_iff]
      refine ⟨h1.len.2, fun t ht => ?_⟩
      rcases h2 t ht with h3 | ⟨h3, _⟩ | ⟨_, h3⟩
      · simp [Tag.over, Tag.inner] at h3
      · simp [Tag.over, Tag.inner] at h3
      · exact h3
    rw [this] at h1
    rw [List.getD_eq_getElem?_getD, List.getElem?_map, List.getElem?_eq_getElem hk]
    exact h1
  · have hnil : ∀ k, (List.replicate us.length ([] : List Nat)).getD k [] = [] := fun k => rep_nil_getD _ _
    have hweak : ∀ {St' : Nat → Prop}, (∀ b, G.St b → St' b) → (t0.over.inner = .S → ∀ b ∈ (us.map (·.fp)).flatten, St' b) → ∀ k (hk : k < us.length), Rp w G.F St' G.Al e (List.replicate (leaves e) t0.over.inner) us[k].cs us[k].x [] := by
      intro St' hSt hfz k hk
      obtain ⟨h1, h2⟩ := h us[k] (List.getElem_mem _)
      refine h1.weaken hSt (Ghost.St_Al I) (by simp [h1.len.2]) fun i hi hi' => ?_
      rw [List.getElem_replicate]
      exact (h2 _ (List.getElem_mem _)).weak hO fun hS b hb => hfz hS b (List.mem_flatten.2 ⟨_, List.mem_map.2 ⟨us[k], List.getElem_mem _, rfl⟩, hb⟩)
    by_cases hS : t0.over.inner = .S
    · obtain ⟨G', I', gF, gad, gA, gb, gS, hl⟩ := I.freeze
      refine ⟨G', List.replicate us.length [], by rw [rep_nil_flatten]; exact I', ?_, gF, by simp, fun b hb => (gS b).2 (.inl hb), gA, fun k hk => ?_, hl, fun b hb => by rw [rep_nil_flatten] at hb; cases hb⟩
      · exact ⟨fun w2 hc => ⟨fun b hb ha o n cs hn h1 => hc.1 b hb (by rw [gA]; exact ha) o n cs (by rw [gF]; exact hn) h1, fun i b hb => hc.2 i b ((gb b i).2 hb)⟩, fun w2 hc i b hb => hc i b ((gb b i).2 hb)⟩
      · rw [hnil, gF, gA]
        exact hweak (fun b hb => (gS b).2 (.inl hb)) (fun _ b hb => (gS b).2 (.inr hb)) k hk
    · refine ⟨G, List.replicate us.length [], by rw [rep_nil_flatten]; exact I.sub (fun b hb => List.mem_append_right _ hb) (List.nodup_append.1 I.nodX).2.1, Calmer.refl _ _, rfl, by simp, fun _ h => h, rfl, fun k hk => ?_, fun _ _ _ _ _ h => h, fun b hb => by rw [rep_nil_flatten] at hb; cases hb⟩
      rw [hnil]
      exact hweak (fun _ h => h) (fun h => absurd h hS) k hk

theorem rowC_rel {e : Ty} : (ps : List (Nat × Operand)) → (i : Nat) → (acc : List (El e)) → (t : Tag) → (σ : State) → (G : Ghost) → (us : List (Elem e)) → (kk : List (El e) → Tag → State → Option R) → (hlen : us.length = i) → (hacc : acc.reverse = us.map (·.x)) →
    (I : Inv W0 M σ a w G ((us.map (·.fp)).flatten ++ xs)) → (hok : ∀ u ∈ us, u.Ok w G t) → (h : rowC e ps i acc t σ kk = some r) →
    ∃ (vs : List (Elem e)) (t' : Tag) (σ' : State) (G' : Ghost), kk ((us ++ vs).map (·.x)) t' σ' = some r ∧ vs.length = ps.length ∧ (ps.map fun p => (p.1, a.eval p.2)) = (((ps.map fun p => a.eval p.2).zipIdx i).map fun x => (x.2, x.1)) ∧
      (ps.map fun p => (a.eval p.2).cells.toList) = vs.map (·.cs) ∧ Inv W0 M σ' a w G' (((us ++ vs).map (·.fp)).flatten ++ xs) ∧ Sim G G' ∧ (∀ u ∈ us ++ vs, u.Ok w G' t')
  | [], i, acc, t, σ, G, us, kk, hlen, hacc, I, hok, h => by
    simp only [rowC] at h
    rw [hacc] at h
    exact ⟨[], t, σ, G, by simpa using h, rfl, rfl, rfl, by simpa using I, Sim.refl _, by simpa using hok⟩
  | (j, op) :: ps, i, acc, t, σ, G, us, kk, hlen, hacc, I, hok, h => by
    simp only [rowC] at h
    split at h
    · rename_i hij
      have hij : i = j := by simpa using hij
      subst hij
      split at h
      · rename_i v σ1 htk
        split at h
        · rename_i x hx
          obtain ⟨fp, G1, I1, hs, hτ, hR, hsh⟩ := take_rel I htk
          obtain ⟨vτ, vag, vx, vtg⟩ := v
          simp only at hτ
          subst hτ
          have hxe : vx = x := by simpa [castEl] using hx
          subst hxe
          rw [hsh.cells] at hR
          have hIp : Inv W0 M σ1 a w G1 (((us ++ [(⟨vx, vtg, (a.eval op).cells.toList, fp⟩ : Elem vτ)]).map (·.fp)).flatten ++ xs) := by
            refine I1.perm (List.perm_iff_count.2 fun z => ?_)
            simp only [List.map_append, List.flatten_append, List.map_cons, List.map_nil, List.flatten_cons, List.flatten_nil, List.append_nil, List.count_append]
            omega
          obtain ⟨vs, t', σ', G', h1, h2, h3, h4, h5, h6, h7⟩ := rowC_rel ps (i + 1) (vx :: acc) (t.meet (innerTag ⟨vτ, vag, vx, vtg⟩)) σ1 G1 (us ++ [⟨vx, vtg, (a.eval op).cells.toList, fp⟩]) kk (by simp [hlen]) (by simp [hacc]) hIp (fun u hu => by
            rcases List.mem_append.1 hu with hu | hu
            · obtain ⟨q1, q2⟩ := hok u hu
              exact ⟨by rw [hs.F, hs.St, hs.Al]; exact q1, fun t ht => (q2 t ht).meet_left⟩
            · rw [List.mem_singleton.1 hu]
              exact ⟨hR, fun t ht => (innerTag_le t ht).meet_right⟩) h
          refine ⟨⟨vx, vtg, (a.eval op).cells.toList, fp⟩ :: vs, t', σ', G', by simpa using h1, by simp [h2], ?_, by simp [h4], by simpa using h5, hs.trans h6, by simpa using h7⟩
          simp only [List.map_cons, List.zipIdx_cons]
          rw [h3]
        · cases h
      · cases h
    · cases h
end
end Go.PI
namespace Go.PI

section
variable {W0 : Base} {M : Nat → Prop} {σ : State} {a : Act} {w w' : World} {G : Ghost} {xs : List Nat} {P : Program} {tys : List (TypeId × Ty × List TypeId)}
variable {R : Type} {Γ : Env R} {d : Option Nat} {type : TypeId} {o : Oper} {k : TV → State → Option R} {r : R}

theorem size_pos (hT : TysOk P tys) {t : TypeId} {τ : Ty} {l : List TypeId} (h : assoc tys t = some (τ, l)) : 0 < size τ := by
  cases l with
  | nil => rw [size_nostruct hT h]; omega
  | cons c l =>
    obtain ⟨fs, hu, hlen, hf, _⟩ := (hT _ _ _ h).str (by simp)
    obtain ⟨f', τf, lf, h1, h2, h3, h4, h5, h6, _⟩ := (hf 0 (by simp)).out
    have := (locP_flat (w := default) (cs := List.replicate (size τ) undef) (base := none) h4 (by simp)).2
    omega

theorem hard_buildSlice (hT : TysOk P Γ.tys) (I : Inv W0 M σ a w G xs) {t : TypeId} {n : Nat} {ps : Array (Nat × Operand)} (ho : o.op = .buildSlice t n ps) (h : hardC Γ d type σ k o.op = some r) : ∃ tv σ', k tv σ' = some r ∧ HardOk P W0 M o a w G xs σ' tv true := by
  rw [ho] at h
  simp only [hardC] at h
  split at h
  · rename_i e ht
    split at h
    · rename_i hc
      simp only [Bool.and_eq_true, beq_iff_eq, Bool.not_eq_true', decide_eq_true_eq] at hc
      obtain ⟨⟨hn, hag⟩, hlim⟩ := hc
      subst hn
      obtain ⟨et, le, hu, hea, _⟩ := und_slice hT ht hag
      obtain ⟨inf, z, hi, hs, _, _, hz, hzc, _⟩ := (hT et _ _ hea).info
      have hpos := size_pos hT hea
      obtain ⟨vs, t', σ', G1, h1, h2, h3, h4, I1, hsim, hok⟩ := rowC_rel (a := a) (w := w) ps.toList 0 [] .O σ G [] _ rfl rfl (by simpa using I) (by simp) h
      simp only [List.nil_append] at h1 I1 hok
      obtain ⟨G2, fps, I2, hcalm, gF, hfl, gS, gA, hel, hlift, _⟩ := uniform I1 hok
      have hsz : ∀ u ∈ vs, u.cs.length = size e := fun u hu => (hok u hu).1.len.1
      have hvz : ∀ v ∈ ps.toList.map (fun p => a.eval p.2), v.cells.size = size e := by
        intro v hv
        obtain ⟨p, hp, rfl⟩ := List.mem_map.1 hv
        have : (a.eval p.2).cells.toList ∈ vs.map (·.cs) := by rw [← h4]; exact List.mem_map.2 ⟨p, hp, rfl⟩
        obtain ⟨u, hu, he⟩ := List.mem_map.1 this
        have := hsz u hu
        rw [he] at this
        simpa using this
      have hC : ((ps.toList.map fun p => a.eval p.2).flatMap fun v => v.cells.toList) = (vs.map (·.cs)).flatten := by
        rw [← h4, List.flatMap_def, List.map_map]; rfl
      have hsize : ((ps.toList.map fun p => a.eval p.2).flatMap fun v => v.cells.toList).length = ps.size * size e := by
        rw [hC, flatten_len _ (size e) (by intro c hc; obtain ⟨u, hu, rfl⟩ := List.mem_map.1 hc; exact hsz u hu)]
        simp [h2]
      have hfill : ∀ C : Array Value, C.size = ps.size * inf.size → Instr.fill (fun i => some (i * inf.size, inf.size)) C (ps.map fun (i, x) => (i, a.eval x)).toList = some ((ps.toList.map fun p => a.eval p.2).flatMap fun v => v.cells.toList).toArray := by
        intro C hCs
        have := Great.fill_whole (s := inf.size) (by rw [hs]; exact hpos) (ps.toList.map fun p => a.eval p.2) C (by rw [hs]; exact hvz) (by rw [hCs]; simp)
        rw [Array.toList_map]
        rw [← h3] at this
        exact this
      have hrun : (execOp a.eval o).run P w = .ok (.value (.slice (some ⟨w.heap.size, 0, none⟩) ps.size ps.size)) (w.alloc (.cells ((ps.toList.map fun p => a.eval p.2).flatMap fun v => v.cells.toList).toArray et)) := by
        rw [exec_with ho]
        simp only [execOp, Sem.run_bind]
        by_cases h0 : ps.size = 0
        · have hps : ps = #[] := by simpa using h0
          subst hps
          simp [Instr.buildSlice, run_underlying hu, sizeOf, typeInfo, hi, newRow, Instr.fill, Array.range_zero']
        · have h00 : ¬ ps.size * inf.size = 0 := by
            have := Nat.mul_ne_zero h0 (show inf.size ≠ 0 by omega); exact this
          rw [run_buildSlice w t et ps.size _ _ inf z hu hi hz (by rw [hs]; omega) h00 (hfill _ (by simp))]
          rfl
      obtain ⟨G3, I3, hcalm3, hR, _⟩ := newRow_rel (e := e) (fps := fps) (xs := xs) I2 (Pushed.alloc w (.cells ((ps.toList.map fun p => a.eval p.2).flatMap fun v => v.cells.toList).toArray et (0, 0))) (fun j hj hh => by simp at hh) (t := t'.over) (by cases t' <;> rfl)
        (x := vs.map (·.x)) (css := vs.map (·.cs)) (rest := []) (cap := ps.size) (by simp [hC]) (by simp) (by simp [hfl]) (by simp [h2]) (by simp only [List.size_toArray]; exact Nat.le_of_eq hsize.symm) (fun k hk => by
          have hk' : k < vs.length := by simpa using hk
          have := hel k hk'
          rw [List.getD_eq_getElem?_getD (l := vs.map (·.cs)), List.getElem?_map, List.getElem?_eq_getElem hk']
          simpa using this)
      refine ⟨_, _, h1, _, _, G3, _, _, hrun, .inl rfl, I3, ⟨rfl, ?_⟩, fun _ => (hsim.calmer.trans hcalm).trans hcalm3⟩
      rw [one_cells rfl]
      have hlv : (vs.map (·.x)).length = ps.size := by simp [h2]
      rw [hlv] at hR
      exact hR
    · cases h
  · cases h
end
end Go.PI
namespace Go.PI

theorem one_cell' {v : Value} (h : one v = true) : v.oneCell' = true := by cases v <;> simp_all [one, Value.oneCell']

theorem setP_get : {q : List Step} → {τ : Ty} → {x : El τ} → {tg : List Tag} → {v : TVal} → {r : El τ × List Tag} → setP τ x tg q v = some r → ∃ u, getP τ x tg q = some u ∧ u.τ = v.τ
  | [], τ, x, tg, v, r, h => by
    refine ⟨_, getP_nil, ?_⟩
    have : v.τ = τ := by
      cases τ <;> (simp only [setP] at h; split at h <;> first | assumption | cases h)
    exact this.symm
  | .fst :: p, .pair a b, x, tg, v, r, h => by
    simp only [setP] at h
    obtain ⟨_, h', _⟩ := Option.map_eq_some_iff.1 h
    exact setP_get (q := p) (τ := a) h'
  | .snd :: p, .pair a b, x, tg, v, r, h => by
    simp only [setP] at h
    obtain ⟨_, h', _⟩ := Option.map_eq_some_iff.1 h
    exact setP_get (q := p) (τ := b) h'
  | .idx i :: p, .slice e, x, tg, v, r, h => by
    simp only [setP] at h
    obtain ⟨_, h', _⟩ := Option.map_eq_some_iff.1 h
    exact setP_get (q := p) (τ := e) h'
  | .idx _ :: _, .int _, _, _, _, _, h => by simp [setP] at h
  | .idx _ :: _, .bool, _, _, _, _, h => by simp [setP] at h
  | .idx _ :: _, .str, _, _, _, _, h => by simp [setP] at h
  | .idx _ :: _, .unit, _, _, _, _, h => by simp [setP] at h
  | .idx _ :: _, .pair _ _, _, _, _, _, h => by simp [setP] at h
  | .fst :: _, .int _, _, _, _, _, h => by simp [setP] at h
  | .fst :: _, .bool, _, _, _, _, h => by simp [setP] at h
  | .fst :: _, .str, _, _, _, _, h => by simp [setP] at h
  | .fst :: _, .unit, _, _, _, _, h => by simp [setP] at h
  | .fst :: _, .slice _, _, _, _, _, h => by simp [setP] at h
  | .snd :: _, .int _, _, _, _, _, h => by simp [setP] at h
  | .snd :: _, .bool, _, _, _, _, h => by simp [setP] at h
  | .snd :: _, .str, _, _, _, _, h => by simp [setP] at h
  | .snd :: _, .unit, _, _, _, _, h => by simp [setP] at h
  | .snd :: _, .slice _, _, _, _, _, h => by simp [setP] at h

section
variable {W0 : Base} {M : Nat → Prop} {σ : State} {a : Act} {w w' : World} {G : Ghost} {xs : List Nat} {P : Program} {tys : List (TypeId × Ty × List TypeId)}
variable {R : Type} {Γ : Env R} {d : Option Nat} {type : TypeId} {o : Oper} {k : TV → State → Option R} {r : R}

theorem setContent_ct {p : Place} {c c' : TVal} (hc : σ.content p = some c) (hτ : c'.τ = c.τ) (q : Place) : (σ.setContent p c').ct q = σ.ct q := by
  obtain ⟨bx, r, path⟩ := p
  obtain ⟨bq, rq, pq⟩ := q
  cases bx with
  | true =>
    simp only [State.content] at hc
    cases bq with
    | true =>
      rw [ct_box, ct_box]
      simp only [State.setContent, State.boxAt] at *
      rw [getN_setN]
      split
      · rename_i h; obtain ⟨rfl, _⟩ := h; rw [hc]; simp [hτ]
      · rfl
    | false => rfl
  | false =>
    cases bq with
    | true =>
      rw [ct_box, ct_box]
      simp only [State.setContent]
      split <;> rfl
    | false =>
      rw [ct_slot, ct_slot, setContent_slot hc]
      by_cases h3 : r = rq ∧ r < σ.slots.length
      · rw [if_pos h3]
        obtain ⟨rfl, h4⟩ := h3
        simp only [State.content] at hc
        split at hc
        · rename_i v hv; cases hc; simp [hv, hτ]
        · rename_i v ags hv; cases hc; simp [hv, hτ]
        · cases hc
      · rw [if_neg h3]

theorem take_ct {x : Operand} {τ : Ty} {v : TVal} {σ' : State} (h : σ.take x τ = some (v, σ')) (q : Place) : σ'.ct q = σ.ct q := by
  unfold State.take at h
  split at h
  · split at h
    · cases h; rfl
    · cases h
  · split at h
    · cases h; rfl
    · cases h
  · split at h
    · split at h
      · split at h
        · obtain ⟨σ2, hset, he⟩ := Option.map_eq_some_iff.1 h
          cases he
          unfold State.setAt at hset
          obtain ⟨c, hc, h2⟩ := Option.bind_eq_some_iff.1 hset
          obtain ⟨r, hr, rfl⟩ := Option.map_eq_some_iff.1 h2
          exact setContent_ct (c' := ⟨c.τ, c.ag, r.1, r.2⟩) hc rfl q
        · cases h; rfl
      · cases h
    · cases h
  · cases h

theorem PtrRel.sim {σ' : State} {G' : Ghost} (hct : ∀ q, σ'.ct q = σ.ct q) (had : G'.ad = G.ad) {p : Place} {u : Value} (h : PtrRel σ G a w p u) : PtrRel σ' G' a w p u := by
  rcases h with h | ⟨cs, b, ⟨τ, l, b', h3, h4, h5⟩, h6⟩
  · exact .inl ((hct p).trans h)
  · exact .inr ⟨cs, b, ⟨τ, l, b', (hct p).trans h3, by unfold rootLoc at h4 ⊢; rw [had]; exact h4, h5⟩, h6⟩

theorem run_storeThaw (P : Program) (g o : Nat) (t : TypeId) (fz : Nat × Nat) : ∀ (vs : List Value) (i : Nat) (cur : Array Value) (w : World), w.heap[g]? = some (.cells cur t fz) → Thaw cur fz → o + i + vs.length ≤ cur.size → (∀ v ∈ vs, one v = true) →
    (storeCells ⟨g, o, none⟩ vs i).run P w = .ok () (w.setRow g (splice cur.toList (o + i) vs).toArray)
  | [], i, cur, w, hg, _, _, _ => by
    simp only [storeCells, splice, List.append_nil, List.length_nil, Nat.add_zero, List.take_append_drop, Array.toArray_toList]
    rw [setRow_self w g cur t fz hg]
    rfl
  | v :: rest, i, cur, w, hg, hfz, hl, h1 => by
    simp only [List.length_cons] at hl
    have hi : o + i < cur.size := by omega
    have hadd : (⟨g, o, none⟩ : Addr).add i = ⟨g, o + i, none⟩ := by unfold Addr.add; split <;> simp_all
    have hcell : w.cell? ⟨g, o + i, none⟩ = some cur[o + i] := by simp [World.cell?, hg, hi]
    have hfro : w.frozen? ⟨g, o + i, none⟩ = false := by
      have := hfz (o + i) hi
      obtain ⟨lo, hi'⟩ := fz
      simp only [World.frozen?, hg, Bool.and_eq_false_iff, decide_eq_false_iff_not]
      simp only at this
      by_cases hlo : lo ≤ o + i
      · exact .inr fun hh => this ⟨hlo, hh⟩
      · exact .inl hlo
    have hst : (store ((⟨g, o, none⟩ : Addr).add i) v).run P w = .ok () (w.setRow g (cur.setIfInBounds (o + i) v)) := by
      rw [hadd, run_store P w _ v _ (one_cell' (h1 v (by simp))), hcell]
      simp [hfro, setCell_eq_setRow w g (o + i) cur t fz v hg]
    have ih := run_storeThaw P g o t fz rest (i + 1) (cur.setIfInBounds (o + i) v) (w.setRow g (cur.setIfInBounds (o + i) v)) (setRow_heap w g cur _ t _ hg) (fun j hj => hfz j (by simpa using hj)) (by simp; omega) (fun x hx => h1 x (by simp [hx]))
    simp only [storeCells, Sem.run_bind, hst, Result.andThen_ok, ih, setRow_setRow]
    congr 3
    have hj : o + i < cur.toList.length := by simpa using hi
    simp only [splice, Array.toList_setIfInBounds, List.length_cons]
    have h1 : (cur.toList.set (o + i) v).take (o + (i + 1)) = cur.toList.take (o + i) ++ [v] := by
      rw [show o + (i + 1) = (o + i) + 1 by omega, List.take_add_one, List.take_set, List.set_eq_of_length_le (by simp; omega), List.getElem?_set_self hj]
      rfl
    have h2 : (cur.toList.set (o + i) v).drop (o + (i + 1) + rest.length) = cur.toList.drop (o + i + (rest.length + 1)) := by
      rw [show o + (i + 1) + rest.length = o + i + (rest.length + 1) by omega, List.drop_set_of_lt (by omega)]
    rw [h1, h2]
    simp

theorem run_storeAt (hT : TysOk P tys) {t : TypeId} {τ : Ty} {l : List TypeId} (ht : assoc tys t = some (τ, l)) {g off : Nat} {T : TypeId} {fz : Nat × Nat} {cur : Array Value} {v : Value} (hg : w.heap[g]? = some (.cells cur T fz))
    (hfz : Thaw cur fz) (hv : v.cells.size = size τ) (hb : off + size τ ≤ cur.size) (h1 : ∀ c ∈ v.cells.toList, one c = true) :
    (Instr.storeAt t (.pointer (some ⟨g, off, none⟩)) v).run P w = .ok () (w.setRow g (splice cur.toList off v.cells.toList).toArray) := by
  obtain ⟨inf, z, hi, hs, _⟩ := (hT _ _ _ ht).info
  have := run_storeThaw P g off T fz v.cells.toList 0 cur w hg hfz (by simp; omega) h1
  rw [Nat.add_zero] at this
  simp only [Instr.storeAt, Instr.sureAddr, Sem.run_bind, Sem.run_pure, Result.andThen_ok, storeVar, sizeOf, typeInfo, run_program, hi, hs, hv]
  simp [this]

theorem Wrote.setRow (w : World) (g : Nat) (C : Array Value) : Wrote w (w.setRow g C) g :=
  ⟨setRow_size _ _ _, fun b hb => setRow_other _ _ _ _ hb, rfl, rfl, rfl⟩

theorem hard_store_ptr (hT : TysOk P Γ.tys) (I : Inv W0 M σ a w G xs) {t : TypeId} {y x : Operand} (ho : o.op = .store t y x) {τ : Ty} {p : Place} (ht : tyOf Γ.tys t = some τ) (hp : σ.peek y = .ptr p)
    {v : TVal} {σ1 σ2 : State} (htk : σ.take x τ = some (v, σ1)) (hset : (σ1.loosen true p.root).setAt p v = some σ2) : HardOk P W0 M o a w G xs σ2 .dead false := by
  have hpr := peek_rel I y
  rw [hp] at hpr
  obtain ⟨_, hbx, hfl, hpr⟩ := hpr (by simp)
  obtain ⟨fp, G1, I1, hs, hτ, hR, hsh⟩ := take_rel I htk
  rw [hsh.cells] at hR
  unfold State.setAt at hset
  obtain ⟨c, hc, h2⟩ := Option.bind_eq_some_iff.1 hset
  obtain ⟨rr, hrr, rfl⟩ := Option.map_eq_some_iff.1 h2
  obtain ⟨bx, root, path⟩ := p
  simp only at hbx hfl hc hrr
  subst hbx
  have hb1 : σ1.boxAt root = some c := hc
  have hpr1 := hpr.sim (σ' := σ1) (G' := G1) (fun q => take_ct htk q) hs.ad
  have hfix := ptrFix_of I1 hb1 rfl hfl rfl hpr1
  obtain ⟨_, _, off, hval, hloc⟩ := hfix
  obtain ⟨G2, I2, hs2, hwho, ⟨cc, T, hcc, hRc⟩, hptr⟩ := I1.takeBox hb1
  obtain ⟨u, hu, hut⟩ := setP_get hrr
  obtain ⟨cs, hcs⟩ := hloc w cc.toList
  simp only at hcs
  obtain ⟨f1, fi, f2, e1, e2, e3, e4, e5⟩ := Rp.flatLens hfl hRc hcs hu
  have hoff : off = offP c.τ path := by
    simp only [Option.map_some, Option.some.injEq, Prod.mk.injEq] at e3
    rw [e3.2]; omega
  have hnew := e5 v _ fp rr.1 rr.2 hrr hut.symm hR
  rw [← hoff] at hnew
  have hsz := getP_size hfl hu
  have hccl : cc.size = size c.τ := by have := hRc.len.1; simpa using this
  obtain ⟨l, hta, _⟩ := tyOf_assoc ht
  have hvsz : (a.eval x).cells.size = size τ := by have := hR.len.1; rw [hτ] at this; simpa using this
  have huτ : size u.τ = size τ := by rw [hut, hτ]
  have hrun : (execOp a.eval o).run P w = .ok .skip (w.setRow (G1.ad root) (splice cc.toList off (a.eval x).cells.toList).toArray) := by
    rw [exec_with ho]
    have hst := run_storeAt (off := off) hT hta hcc (fun j hj hh => by simp at hh) hvsz (by rw [hccl]; omega) hR.ones
    simp only [execOp, hval, Sem.run_bind, hst, Result.andThen_ok, Sem.run_pure]
  have hwho2 : G2.who (G1.ad root) = some (.a root) := (hs2.bx _ _).2 hwho
  have hnone : ((σ1.loosen true root).putBox root none).boxAt root = none := by
    rw [putBox_box]; split
    · rfl
    · rename_i hh; exact absurd ⟨rfl, boxAt_lt hb1⟩ hh
  obtain ⟨I3, _, hl3⟩ := I2.patch hwho2 (.inr ⟨root, rfl, hnone⟩) (Wrote.setRow w (G1.ad root) (splice cc.toList off (a.eval x).cells.toList).toArray) (G2.F (G1.ad root)) (.inr (.inl ⟨root, rfl⟩))
  have hgf : G1.ad root ∉ f1 ++ fp ++ f2 := by
    intro hm
    have : G2.who (G1.ad root) = some .x := by
      refine I2.whoX _ ?_
      rw [e1]
      simp only [List.mem_append] at hm ⊢
      rcases hm with (hm | hm) | hm <;> simp [hm]
    rw [hwho2] at this; cases this
  have hnew2 : Rp w G2.F G2.St G2.Al c.τ rr.2 (splice cc.toList off (a.eval x).cells.toList) rr.1 (f1 ++ fp ++ f2) := by
    rw [hs2.F, hs2.St, hs2.Al]; exact hnew
  have hnew3 := hl3 _ _ _ _ _ hnew2 hgf (.inr (.inl ⟨root, rfl⟩))
  have hI3 := I3.sub (ys := (f1 ++ fp ++ f2) ++ xs) (by
      intro b hb
      rw [e1]
      simp only [List.mem_append] at hb ⊢
      rcases hb with ((hb | hb) | hb) | hb <;> simp [hb]) (by
      have hp : (((f1 ++ fp ++ f2) ++ xs) ++ fi).Perm (G1.fb root ++ (fp ++ xs)) := by
        rw [e1]
        refine List.perm_iff_count.2 fun z => ?_
        simp only [List.count_append]
        omega
      exact (List.nodup_append.1 (hp.nodup_iff.2 I2.nodX)).1)
  obtain ⟨G4, I4, _⟩ := hI3.addBox (i := root) (g := G1.ad root) (c := (splice cc.toList off (a.eval x).cells.toList).toArray) (T := T) (v := ⟨c.τ, c.ag, rr.1, rr.2⟩) (by
      simp only [State.putBox, setN_length]; exact boxAt_lt hb1) (setRow_heap w _ _ _ _ _ hcc) hwho2 hnew3 (fun j hj => by
      rw [putBox_slot]; exact hptr j (by simpa [State.putBox, State.loosen] using hj)) (.inr (by rw [← hs2.ad]))
  have hst : ((σ1.loosen true root).putBox root none).putBox root (some ⟨c.τ, c.ag, rr.1, rr.2⟩) = (σ1.loosen true root).setContent ⟨true, root, path⟩ ⟨c.τ, c.ag, rr.1, rr.2⟩ := by
    simp only [State.putBox, State.setContent, setN_setN]
  rw [hst] at I4
  exact ⟨undef, _, G4, [], _, hrun, .inr ⟨rfl, rfl⟩, by simpa using I4, rfl, fun h => by cases h⟩
end
end Go.PI
namespace Go.PI

theorem slots_ext : (l l' : List TV) → l.length = l'.length → (∀ j, getN .dead l j = getN .dead l' j) → l = l'
  | [], [], _, _ => rfl
  | [], _ :: _, h, _ => by simp at h
  | _ :: _, [], h, _ => by simp at h
  | x :: l, y :: l', h, hj => by
    have h0 := hj 0
    simp only [getN] at h0
    rw [h0, slots_ext l l' (by simpa using h) fun j => hj (j + 1)]

theorem State.ext' {σ σ' : State} (h1 : σ.slots.length = σ'.slots.length) (h2 : ∀ j, σ.slot j = σ'.slot j) (h3 : σ.boxes = σ'.boxes) : σ = σ' := by
  cases σ; cases σ'
  simp only at h1 h3
  subst h3
  congr
  exact slots_ext _ _ h1 h2

theorem TV.loosen_idem (b : Bool) (r : Nat) (tv : TV) : TV.loosen b r (TV.kill (TV.loosen b r tv)) = TV.kill (TV.loosen b r tv) := by
  have hd : TV.loosen b r .dead = .dead := rfl
  cases tv with
  | ref p ag =>
    have hk : TV.kill (.ref p ag) = .ref p ag := rfl
    by_cases h : (p.box == b && p.root == r) = true
    · have h1 : TV.loosen b r (.ref p ag) = .dead := if_pos h
      rw [h1]; rfl
    · have h1 : TV.loosen b r (.ref p ag) = .ref p ag := if_neg h
      rw [h1, hk, h1]
  | eref p =>
    have hk : TV.kill (.eref p) = .eref p := rfl
    by_cases h : (p.box == b && p.root == r) = true
    · have h1 : TV.loosen b r (.eref p) = .dead := if_pos h
      rw [h1]; rfl
    · have h1 : TV.loosen b r (.eref p) = .eref p := if_neg h
      rw [h1, hk, h1]
  | tref t ags =>
    have hk : TV.kill (.tref t ags) = .tref t ags := rfl
    by_cases h : (!b && t == r) = true
    · have h1 : TV.loosen b r (.tref t ags) = .dead := if_pos h
      rw [h1]; rfl
    · have h1 : TV.loosen b r (.tref t ags) = .tref t ags := if_neg h
      rw [h1, hk, h1]
  | val v =>
    have h1 : TV.loosen b r (.val v) = .val v := rfl
    rw [h1]
    rcases TV.kill_or (.val v) with h | h <;> rw [h] <;> rfl
  | tup v ags =>
    have h1 : TV.loosen b r (.tup v ags) = .tup v ags := rfl
    rw [h1]
    rcases TV.kill_or (.tup v ags) with h | h <;> rw [h] <;> rfl
  | eptr v t =>
    have h1 : TV.loosen b r (.eptr v t) = .eptr v t := rfl
    rw [h1]
    rcases TV.kill_or (.eptr v t) with h | h <;> rw [h] <;> rfl
  | _ => rfl

theorem put_slot (σ : State) (i : Nat) (tv : TV) (j : Nat) : (σ.put i tv).slot j = if i = j ∧ i < σ.slots.length then tv else (σ.loosen false i).slot j := by
  unfold State.put State.slot
  simp only []
  rw [getN_setN]
  simp [State.loosen]
theorem put_len (σ : State) (i : Nat) (tv : TV) : (σ.put i tv).slots.length = σ.slots.length := by simp [State.put, State.loosen, setN_length]

section
variable {W0 : Base} {M : Nat → Prop} {σ : State} {a : Act} {w w' : World} {G : Ghost} {xs : List Nat} {P : Program} {tys : List (TypeId × Ty × List TypeId)}
variable {R : Type} {Γ : Env R} {d : Option Nat} {type : TypeId} {o : Oper} {k : TV → State → Option R} {r : R}

theorem allO_iff {v : TVal} : v.allO = true ↔ ∀ t ∈ v.tg, t = .O := by
  unfold TVal.allO
  rw [List.all_eq_true]
  constructor
  · intro h t ht; have := h t ht; cases t <;> simp_all [Tag.isO]
  · intro h t ht; rw [h t ht]; rfl

theorem noN_of_slots {σ' : State} (h : σ.noN) (hs : ∀ i, σ'.slot i = σ.slot i ∨ σ'.slot i = .dead) (hb : ∀ i, σ'.boxAt i = σ.boxAt i ∨ σ'.boxAt i = none) : σ'.noN := by
  refine ⟨fun i => ?_, fun i v hv => ?_⟩
  · rcases hs i with h1 | h1
    · rw [h1]; exact h.1 i
    · rw [h1]; rfl
  · rcases hb i with h1 | h1
    · rw [h1] at hv; exact h.2 i v hv
    · rw [h1] at hv; cases hv

theorem hard_store_row (hT : TysOk P Γ.tys) (I : Inv W0 M σ a w G xs) {t : TypeId} {y x : Operand} (ho : o.op = .store t y x) {τ : Ty} {p : Place} (ht : tyOf Γ.tys t = some τ) (hp : σ.peek y = .eref p)
    {v : TVal} {σ1 σ2 : State} (htk : σ.take x τ = some (v, σ1)) (hvO : v.allO = true) (hnf : flatB p.path = false) (hval : p.box = false → ∃ c, σ1.slot p.root = .val c) {c : TVal} (hc1 : σ1.content p = some c) (hcO : c.allO = true)
    (hset : (σ1.loosen p.box p.root).kill.setAt p v = some σ2) : HardOk P W0 M o a w G xs σ2 .dead false := by
  have hpr := peek_rel I y
  rw [hp] at hpr
  obtain ⟨_, hpr⟩ := hpr (by simp)
  obtain ⟨fp, G1, I1, hs, hτ, hR, hsh⟩ := take_rel I htk
  rw [hsh.cells] at hR
  have hpr1 := hpr.sim (σ' := σ1) (G' := G1) (fun q => take_ct htk q) hs.ad
  -- the pointer's place
  have hpl1 : ∃ cs b, PlaceAt σ1 G1 a w p cs (some b) ∧ a.eval y = .pointer (some ⟨b.1, b.2, none⟩) := by
    rcases hpr1 with h | h
    · rw [State.ct, hc1] at h; cases h
    · exact h
  obtain ⟨cs, ⟨b', o'⟩, ⟨τc, l, bs, hct, hrl, hloc⟩, hptrv⟩ := hpl1
  have hτc : τc = c.τ := by rw [State.ct, hc1] at hct; simpa using hct.symm
  subst hτc
  simp only at hptrv
  obtain ⟨l', bs', fpc, hrl', hRc, hwc⟩ := content_root I1 hc1
  rw [hrl] at hrl'
  cases hrl'
  -- the new content
  have hcN : c.noN = true := by
    rw [TVal.noN_iff]; intro t ht; rw [allO_iff.1 hcO t ht]; rfl
  have hck : (σ1.loosen p.box p.root).kill.content p = some c := by
    obtain ⟨bx, r, path⟩ := p
    cases bx with
    | true =>
      simp only [State.content] at hc1 ⊢
      rw [kill_box]
      show killBox (σ1.boxAt r) = some c
      rw [hc1]; simp [killBox, hcN]
    | false =>
      simp only [State.content] at hc1 ⊢
      obtain ⟨c', hc'⟩ := hval rfl
      simp only at hc'
      rw [hc'] at hc1
      cases hc1
      rw [kill_slot, loosen_slot, hc']
      simp [TV.loosen, TV.kill, hcN]
  unfold State.setAt at hset
  rw [hck] at hset
  simp only [Option.bind_some] at hset
  obtain ⟨rr, hrr, rfl⟩ := Option.map_eq_some_iff.1 hset
  obtain ⟨u, hu, hut⟩ := setP_get hrr
  have hfpw : ∀ z ∈ fpc, G1.who z = some (if p.box then .c p.root else .s p.root) := by
    intro z hz
    rcases hwc with ⟨hb, _, rfl, _⟩ | ⟨hb, _, rfl, _⟩
    · rw [hb]; exact I1.whoC _ z hz
    · rw [hb]; exact I1.whoS _ z hz
  have hnod : fpc.Nodup := by
    rcases hwc with ⟨_, _, rfl, _⟩ | ⟨_, _, rfl, _⟩
    · exact I1.nodC _
    · exact I1.nodS _
  obtain ⟨fpo, fpi, L⟩ := Rp.lens (base := bs) hRc (allO_iff.1 hcO) hnod (fun z hz hm => by
    rcases hwc with ⟨hb, hbx, _, hbs⟩ | ⟨_, _, _, hbs, _⟩
    · rw [hbs] at hz; cases hz
      have h1 := hfpw _ hm
      rw [(I1.box _ _ hbx).2, hb] at h1
      cases h1
    · rw [hbs] at hz; cases hz) hloc hu
  obtain ⟨b2, o2, m, hb2, hbo, hom, hrow⟩ := L.deep hnf
  simp only [Option.some.injEq, Prod.mk.injEq] at hb2
  obtain ⟨rfl, rfl⟩ := hb2
  obtain ⟨C, T, fr, hC, hmC, hth⟩ := hrow
  obtain ⟨lt, hta, _⟩ := tyOf_assoc ht
  have hvsz : (a.eval x).cells.size = size τ := by have := hR.len.1; rw [hτ] at this; simpa using this
  have huτ : size u.τ = size τ := by rw [hut, hτ]
  have hrun : (execOp a.eval o).run P w = .ok .skip (w.setRow b' (splice C.toList o' (a.eval x).cells.toList).toArray) := by
    rw [exec_with ho]
    have hst := run_storeAt (off := o') hT hta hC hth hvsz (by omega) hR.ones
    simp only [execOp, hptrv, Sem.run_bind, hst, Result.andThen_ok, Sem.run_pure]
  have hb'c : b' ∈ fpc := L.perm.symm.subset (List.mem_append_left _ hbo)
  -- the blocks that the part's memory must keep
  have hput : ∀ (G2 : Ghost) (F' : Nat → Nat), G2.F = G1.F → G2.Al = G1.Al → F' = G2.F → ∀ z ∈ fpo, Put w G1.F G1.Al (w.setRow b' (splice C.toList o' (a.eval x).cells.toList).toArray) F' G2.Al (some (b', o')) (a.eval x).cells.toList z := by
    intro G2 F' h1 h2 h3 z hz
    refine ⟨by rw [h3, h1], fun h => by rw [h2]; exact h, ?_⟩
    by_cases hzb : z = b'
    · subst hzb
      rw [setRow_heap w _ _ _ _ _ hC]
      simp only [patchO, patchW]
      rw [Array.getElem?_modify]
      simp [hC]
    · rw [setRow_other _ _ _ _ hzb]
      exact (patchW_other hzb).symm
  obtain ⟨fs1, Ia, _⟩ := I1.loosen p.box p.root
  obtain ⟨fs2, Ib, hkeep⟩ := Ia.kill
  have hsim2 : Sim G1 { { G1 with fs := fs1 } with fs := fs2 } := (Sim.fs G1 fs1).trans (Sim.fs _ fs2)
  obtain ⟨bx, root, path⟩ := p
  have hvN : (∀ t ∈ v.tg, t.isN = false) := fun t ht => by rw [allO_iff.1 hvO t ht]; rfl
  cases bx with
  | true =>
    have hbk : (σ1.loosen true root).kill.boxAt root = some c := hck
    obtain ⟨G3, I3, hs3, hwho, ⟨cc, T3, hcc, hRc3⟩, hptr⟩ := Ib.takeBox hbk
    have hidem : (σ1.loosen true root).kill.loosen true root = (σ1.loosen true root).kill := by
      refine State.ext' (by simp [State.loosen, State.kill]) (fun j => ?_) rfl
      rw [loosen_slot, kill_slot, loosen_slot, TV.loosen_idem]
    rw [hidem] at I3
    have hfpc : fpc = G1.fb root := by
      rcases hwc with ⟨_, _, h, _⟩ | ⟨h, _⟩
      · exact h
      · cases h
    have hfb : ({ { G1 with fs := fs1 } with fs := fs2 } : Ghost).fb root = fpc := hfpc.symm
    rw [hfb] at I3 hRc3
    have hwb : G3.who b' = some .x := I3.whoX _ (List.mem_append_left _ hb'c)
    have hnoN : ((σ1.loosen true root).kill.putBox root none).noN := noN_of_slots (kill_noN _) (fun _ => .inl rfl) fun i => by
      rw [putBox_box]; split
      · exact .inr rfl
      · exact .inl rfl
    obtain ⟨I4, _, hl4⟩ := I3.patch hwb (.inl rfl) (Wrote.setRow w b' (splice C.toList o' (a.eval x).cells.toList).toArray) (G3.F b') (.inl hnoN)
    have hF4 : (fun z => if z = b' then G3.F b' else G3.F z) = G3.F := by funext z; split <;> simp_all
    have hs13 := hsim2.trans hs3
    have hR3 : Rp w G3.F G3.St G3.Al v.τ v.tg (a.eval x).cells.toList v.x fp := by rw [hs13.F, hs13.St, hs13.Al]; exact hR
    have hb'fp : b' ∉ fp := fun hm => by
      have := (List.nodup_append.1 I3.nodX).2.2 b' hb'c b' (List.mem_append_left _ hm) rfl
      exact this
    have hR4 := hl4 _ _ _ _ _ hR3 hb'fp (.inl hvN)
    obtain ⟨fpn, hpn, htg', hRn⟩ := L.put _ _ _ _ v _ fp rr.1 rr.2 hrr hut.symm (allO_iff.1 hvO) hR4 (hput G3 _ hs13.F hs13.Al hF4)
    simp only [hnf] at hRn
    have hadne : G1.ad root ≠ b' := fun h => by
      rw [← h] at hwb
      have h2 := (hs13.bx (G1.ad root) root).2 ((I1.box _ _ (show σ1.boxAt root = some c from hc1)).2)
      rw [hwb] at h2; cases h2
    have hcc' : (w.setRow b' (splice C.toList o' (a.eval x).cells.toList).toArray).heap[G1.ad root]? = some (.cells cc T3 (0, 0)) := by
      rw [setRow_other _ _ _ _ hadne]; exact hcc
    have hlcc : l = cc.toList := by
      have hcc2 : w.heap[G1.ad root]? = some (.cells cc T3 (0, 0)) := hcc
      simp only [rootLoc, hcc2, Option.some.injEq, Prod.mk.injEq] at hrl
      exact hrl.1.symm
    have hI4 := I4.sub (ys := fpn ++ xs) (by
      intro z hz
      simp only [List.mem_append] at hz ⊢
      rcases hz with hz | hz
      · have := hpn.subset hz
        simp only [List.mem_append] at this
        rcases this with h | h
        · exact .inl (L.perm.symm.subset (List.mem_append_left _ h))
        · exact .inr (.inl h)
      · exact .inr (.inr hz)) (by
      have hp : ((fpn ++ xs) ++ fpi).Perm (fpc ++ (fp ++ xs)) := by
        refine List.perm_iff_count.2 fun z => ?_
        have h1 := (List.perm_iff_count.1 hpn) z
        have h2 := (List.perm_iff_count.1 L.perm) z
        simp only [List.count_append] at h1 h2 ⊢
        omega
      exact (List.nodup_append.1 (hp.nodup_iff.2 I3.nodX)).1)
    obtain ⟨G5, I5, _⟩ := hI4.addBox (i := root) (g := G1.ad root) (c := cc) (T := T3) (v := ⟨c.τ, c.ag, rr.1, rr.2⟩) (by
      simp only [State.putBox, setN_length]; exact boxAt_lt hbk) hcc' ((hs3.bx _ _).2 hwho) (by rw [← hlcc]; exact hRn) (fun j hj => by
      rw [putBox_slot]
      have := hptr j (by simpa [State.putBox, State.loosen, State.kill] using hj)
      rw [hidem] at this
      exact this) (.inr (by rw [← hs13.ad]))
    have hst : ((σ1.loosen true root).kill.putBox root none).putBox root (some ⟨c.τ, c.ag, rr.1, rr.2⟩) = (σ1.loosen true root).kill.setContent ⟨true, root, path⟩ ⟨c.τ, c.ag, rr.1, rr.2⟩ := by
      simp only [State.putBox, State.setContent, setN_setN]
    rw [hst] at I5
    exact ⟨undef, _, G5, [], _, hrun, .inr ⟨rfl, rfl⟩, by simpa using I5, rfl, fun h => by cases h⟩
  | false =>
    obtain ⟨c', hc'⟩ := hval rfl
    simp only at hc'
    have : c' = c := by simp only [State.content, hc'] at hc1; simpa using hc1
    subst this
    have hsk : (σ1.loosen false root).kill.slot root = .val c' := by
      rw [kill_slot, loosen_slot, hc']
      simp [TV.loosen, TV.kill, hcN]
    have hri := slot_lt (σ := σ1) (i := root) (by rw [hc']; simp)
    obtain ⟨G3, I3, hs3, hsh3, hRc3⟩ := Ib.takeSlot hsk
    have hfs1 : fs2 root = fpc := by
      rw [hkeep root (by rw [hsk, loosen_slot, hc']; rfl)]
      have hfsk : fs1 root = G1.fs root := by
        have := I1.loosen false root
        exact ‹∀ i, (σ1.loosen false root).slot i = σ1.slot i → fs1 i = G1.fs i› root (by rw [loosen_slot, hc']; rfl)
      rcases hwc with ⟨h, _⟩ | ⟨_, _, h, _⟩
      · cases h
      · rw [h]; exact hfsk
    have hfb : ({ { G1 with fs := fs1 } with fs := fs2 } : Ghost).fs root = fpc := hfs1
    rw [hfb] at I3 hRc3
    have hwb : G3.who b' = some .x := I3.whoX _ (List.mem_append_left _ hb'c)
    have hnoN : ((σ1.loosen false root).kill.empty root).noN := noN_of_slots (kill_noN _) (fun i => by
      rw [empty_slot]
      split
      · exact .inr rfl
      · rw [loosen_slot]; exact TV.loosen_or _ _ _) fun i => .inl rfl
    obtain ⟨I4, _, hl4⟩ := I3.patch hwb (.inl rfl) (Wrote.setRow w b' (splice C.toList o' (a.eval x).cells.toList).toArray) (G3.F b') (.inl hnoN)
    have hF4 : (fun z => if z = b' then G3.F b' else G3.F z) = G3.F := by funext z; split <;> simp_all
    have hs13 := hsim2.trans hs3
    have hR3 : Rp w G3.F G3.St G3.Al v.τ v.tg (a.eval x).cells.toList v.x fp := by rw [hs13.F, hs13.St, hs13.Al]; exact hR
    have hb'fp : b' ∉ fp := fun hm => by
      have := (List.nodup_append.1 I3.nodX).2.2 b' hb'c b' (List.mem_append_left _ hm) rfl
      exact this
    have hR4 := hl4 _ _ _ _ _ hR3 hb'fp (.inl hvN)
    obtain ⟨fpn, hpn, htg', hRn⟩ := L.put _ _ _ _ v _ fp rr.1 rr.2 hrr hut.symm (allO_iff.1 hvO) hR4 (hput G3 _ hs13.F hs13.Al hF4)
    simp only [hnf] at hRn
    have hI4 := I4.sub (ys := fpn ++ xs) (by
      intro z hz
      simp only [List.mem_append] at hz ⊢
      rcases hz with hz | hz
      · have := hpn.subset hz
        simp only [List.mem_append] at this
        rcases this with h | h
        · exact .inl (L.perm.symm.subset (List.mem_append_left _ h))
        · exact .inr (.inl h)
      · exact .inr (.inr hz)) (by
      have hp : ((fpn ++ xs) ++ fpi).Perm (fpc ++ (fp ++ xs)) := by
        refine List.perm_iff_count.2 fun z => ?_
        have h1 := (List.perm_iff_count.1 hpn) z
        have h2 := (List.perm_iff_count.1 L.perm) z
        simp only [List.count_append] at h1 h2 ⊢
        omega
      exact (List.nodup_append.1 (hp.nodup_iff.2 I3.nodX)).1)
    have hll : l = vCells (a.tmps.getD root undef) := by
      simp only [rootLoc, Option.some.injEq, Prod.mk.injEq] at hrl
      exact hrl.1.symm
    rw [hll] at hRn
    obtain ⟨G5, I5, _⟩ := hI4.put (i := root) (tv := .val ⟨c'.τ, c'.ag, rr.1, rr.2⟩) (v := a.tmps.getD root undef) ⟨hsh3, hRn⟩ (fun hi => I.pin root hi) (.inr rfl)
    have hact : a.put (some root) (a.tmps.getD root undef) = a := by
      have hlt : root < a.tmps.size := by rw [I1.len]; exact hri
      simp only [Act.put]
      have : a.tmps.setIfInBounds root (a.tmps.getD root undef) = a.tmps := by
        apply Array.ext
        · simp
        · intro i h1 h2
          simp only [Array.getElem_setIfInBounds h2]
          split
          · rename_i h; subst h; rfl
          · rfl
      rw [this]
    rw [hact] at I5
    have hst : ((σ1.loosen false root).kill.empty root).put root (.val ⟨c'.τ, c'.ag, rr.1, rr.2⟩) = (σ1.loosen false root).kill.setContent ⟨false, root, path⟩ ⟨c'.τ, c'.ag, rr.1, rr.2⟩ := by
      refine State.ext' ?_ (fun j => ?_) ?_
      · rw [put_len, setContent_len]; exact put_len _ _ _
      · rw [put_slot, setContent_slot hck, hsk]
        have hlen : ((σ1.loosen false root).kill.empty root).slots.length = σ1.slots.length := by
          rw [State.empty, put_len]; simp [State.loosen, State.kill]
        have hlen2 : (σ1.loosen false root).kill.slots.length = σ1.slots.length := by simp [State.loosen, State.kill]
        rw [hlen, hlen2]
        by_cases hj : root = j
        · subst hj; simp [hri]
        · simp only [hj, false_and, if_false]
          rw [loosen_slot, empty_slot]
          simp only [hj, false_and, if_false]
          rw [loosen_slot, kill_slot, loosen_slot, TV.loosen_idem, TV.loosen_idem]
      · simp only [State.setContent, hsk]; rfl
    rw [hst] at I5
    exact ⟨undef, _, G5, [], _, hrun, .inr ⟨rfl, rfl⟩, by simpa using I5, rfl, fun h => by cases h⟩

theorem hard_store (hT : TysOk P Γ.tys) (I : Inv W0 M σ a w G xs) {t : TypeId} {y x : Operand} (ho : o.op = .store t y x) (h : hardC Γ d type σ k o.op = some r) : ∃ tv σ', k tv σ' = some r ∧ HardOk P W0 M o a w G xs σ' tv false := by
  rw [ho] at h
  simp only [hardC] at h
  split at h
  · rename_i τ p ht hp
    split at h
    · rename_i v σ1 htk
      split at h
      · rename_i σ2 hset
        exact ⟨_, _, h, hard_store_ptr hT I ho ht hp htk hset⟩
      · cases h
    · cases h
  · rename_i τ p ht hp
    split at h
    · rename_i v σ1 htk
      split at h
      · rename_i hc
        simp only [Bool.and_eq_true, Bool.not_eq_true', Bool.or_eq_true] at hc
        obtain ⟨⟨hvO, hnf⟩, hval⟩ := hc
        split at h
        · rename_i c hc1
          split at h
          · rename_i hcO
            split at h
            · rename_i σ2 hset
              refine ⟨_, _, h, hard_store_row hT I ho ht hp htk hvO hnf (fun hb => ?_) hc1 hcO hset⟩
              rcases hval with hv | hv
              · rw [hb] at hv; cases hv
              · cases hsl : σ1.slot p.root with
                | val c' => exact ⟨c', rfl⟩
                | _ => rw [hsl] at hv; cases hv
            · cases h
          · cases h
        · cases h
      · cases h
    · cases h
  · cases h
end
end Go.PI
namespace Go.PI

section
variable {P : Program} {w : World}

def AppTy (P : Program) (tx : TypeId) : Prop := (∃ e, P.underlying tx = some (.slice e)) ∨ P.underlying tx = some .string

theorem append_nothing (t tx ty e : TypeId) (i : TypeInfo) (ht : P.underlying t = some (.slice e)) (hx : AppTy P tx) (hi : P.info? e = some i)
    (base : Option Addr) (sLen sCap : Nat) (hc : sLen ≤ sCap) (X : Value) (hl : Builtin.lenOf X = pure 0) (hf : (Builtin.firstCells i.size 0 X).run P w = .ok #[] w) :
    (Builtin.append_ #[t, tx] ty #[.slice base sLen sCap, X]).run P w = .ok (.slice base sLen sCap) w := by
  rcases hx with ⟨e2, hx⟩ | hx
  all_goals
    cases base with
    | none => simp [Builtin.append_, run_underlying ht, run_underlying hx, sizeOf, typeInfo, hi, hl, hc, hf]
    | some a => simp [Builtin.append_, run_underlying ht, run_underlying hx, sizeOf, typeInfo, hi, hl, hc, hf, storeCells]

theorem append_room (t tx ty e : TypeId) (i : TypeInfo) (ht : P.underlying t = some (.slice e)) (hx : AppTy P tx) (hi : P.info? e = some i)
    (g o sLen sCap : Nat) (cur : Array Value) (T : TypeId) (fz : Nat × Nat) (hg : w.heap[g]? = some (.cells cur T fz)) (hfz : Thaw cur fz)
    (m : Nat) (X : Value) (hX : Builtin.lenOf X = pure m) (news : List Value) (hl : news.length = m * i.size) (hnews : (Builtin.firstCells i.size m X).run P w = .ok news.toArray w) (h1 : ∀ u ∈ news, one u = true)
    (hroom : sLen + m ≤ sCap) (hfit : o + sLen * i.size + news.length ≤ cur.size) :
    (Builtin.append_ #[t, tx] ty #[.slice (some ⟨g, o, none⟩) sLen sCap, X]).run P w =
      .ok (.slice (some ⟨g, o, none⟩) (sLen + m) sCap) (w.setRow g (splice cur.toList (o + sLen * i.size) news).toArray) := by
  have hst := run_storeThaw P g (o + sLen * i.size) T fz news 0 cur w hg hfz (by simpa using hfit) h1
  rw [Nat.add_zero] at hst
  rcases hx with ⟨e2, hx⟩ | hx <;>
    simp [Builtin.append_, run_underlying ht, run_underlying hx, sizeOf, typeInfo, hi, hX, hroom, hnews, add_add, hst]

theorem append_nil (t tx ty e : TypeId) (i : TypeInfo) (z : Value) (ht : P.underlying t = some (.slice e)) (hx : AppTy P tx) (hi : P.info? e = some i) (hz : i.zero = some z)
    (n : Nat) (X : Value) (hX : Builtin.lenOf X = pure n) (news : List Value) (hnews : (Builtin.firstCells i.size n X).run P w.drew = .ok news.toArray w.drew)
    (h0 : 0 < n) (h63 : (n : Int) ≤ 9223372036854775807) (h48 : n * i.bytes ≤ 281474976710656) :
    (Builtin.append_ #[t, tx] ty #[.slice none 0 0, X]).run P w =
      .ok (.slice (some ⟨w.heap.size, 0, none⟩) n (grownCap w n 0 e)) (w.drew.alloc (.cells (news.toArray ++ Builtin.zeroCells z.cells (grownCap w n 0 e - n)) e)) := by
  have hn : n ≠ 0 := by omega
  have h63' : ¬ (9223372036854775807 < (n : Int)) := by omega
  have h48' : ¬ (281474976710656 < Builtin.nextslicecap n 0 * i.bytes) := by rw [nextslicecap_zero h0]; omega
  rcases hx with ⟨e2, hx⟩ | hx <;>
    simp [Builtin.append_, run_underlying ht, run_underlying hx, sizeOf, typeInfo, zeroValue, hi, hz, hX, hn, h63', h48', Question.forced, run_firstCells_none, hnews, newRow, grownCap]

theorem append_grow (t tx ty e : TypeId) (i : TypeInfo) (z : Value) (ht : P.underlying t = some (.slice e)) (hx : AppTy P tx) (hi : P.info? e = some i) (hz : i.zero = some z)
    (b : Addr) (sLen sCap : Nat) (olds : List Value) (hlo : olds.length = sLen * i.size) (holds : ∀ j v, olds[j]? = some v → w.cell? (b.add j) = some v)
    (n : Nat) (X : Value) (hX : Builtin.lenOf X = pure n) (news : List Value) (hnews : (Builtin.firstCells i.size n X).run P w.drew = .ok news.toArray w.drew)
    (hg : sCap < sLen + n) (h63 : ((sLen + n : Nat) : Int) ≤ 9223372036854775807) (hfit : Builtin.nextslicecap (sLen + n) sCap * i.bytes ≤ 281474976710656) :
    (Builtin.append_ #[t, tx] ty #[.slice (some b) sLen sCap, X]).run P w =
      .ok (.slice (some ⟨w.heap.size, 0, none⟩) (sLen + n) (grownCap w (sLen + n) sCap e))
        (w.drew.alloc (.cells (olds.toArray ++ news.toArray ++ Builtin.zeroCells z.cells (grownCap w (sLen + n) sCap e - (sLen + n))) e)) := by
  have hn : ¬ (sLen + n ≤ sCap) := by omega
  have h63' : ¬ (9223372036854775807 < ((sLen : Int) + (n : Int))) := by omega
  have h48' : ¬ (281474976710656 < Builtin.nextslicecap (sLen + n) sCap * i.bytes) := by omega
  have hfo := run_firstCells_some (P := P) w.drew i.size sLen b sLen sCap olds hlo (by simpa using holds)
  rcases hx with ⟨e2, hx⟩ | hx
  all_goals
    simp [Builtin.append_, run_underlying ht, run_underlying hx, sizeOf, typeInfo, zeroValue, hi, hz, hX, hn, h63', h48', Question.forced, hnews, hfo, newRow, grownCap]
    congr 2
    apply Array.ext'
    simp [List.append_assoc]
end

theorem cellsAt_append {w : World} {b o n m : Nat} {c d : List Value} (h1 : cellsAt w b o n = some c) (h2 : cellsAt w b (o + n) m = some d) : cellsAt w b o (n + m) = some (c ++ d) := by
  unfold cellsAt at *
  split at h1
  · rename_i C T fr hb
    rw [hb] at h2
    simp only [] at h2 ⊢
    split at h1
    · split at h2
      · cases h1; cases h2
        rw [if_pos (by omega), ← List.drop_drop, ← List.take_add]
      · cases h2
    · cases h1
  · cases h1

theorem cells_concat {w : World} {b s : Nat} : (css : List (List Value)) → (o : Nat) → 0 < css.length → (∀ k (h : k < css.length), cellsAt w b (o + k * s) s = some css[k]) → cellsAt w b o (css.length * s) = some css.flatten
  | [], o, h, _ => by simp at h
  | [c], o, h, hk => by
    have := hk 0 (by simp)
    simpa using this
  | c :: d :: css, o, h, hk => by
    have h0 := hk 0 (by simp)
    have ih := cells_concat (w := w) (b := b) (s := s) (d :: css) (o + s) (by simp) (fun k hkl => by
      have := hk (k + 1) (by simpa using hkl)
      rw [Nat.add_mul, Nat.one_mul] at this
      rw [show o + s + k * s = o + (k * s + s) by omega]
      simpa using this)
    simp only [Nat.zero_mul, Nat.add_zero, List.getElem_cons_zero] at h0
    have := cellsAt_append h0 ih
    simp only [List.length_cons, List.flatten_cons] at this ⊢
    rw [show (css.length + 1 + 1) * s = s + (css.length + 1) * s by rw [Nat.add_mul (css.length + 1)]; omega]
    exact this
end Go.PI
namespace Go.PI

section
variable {W0 : Base} {M : Nat → Prop} {σ : State} {a : Act} {w w' : World} {G : Ghost} {xs : List Nat} {P : Program} {tys : List (TypeId × Ty × List TypeId)}
variable {R : Type} {Γ : Env R} {d : Option Nat} {type : TypeId} {o : Oper} {k : TV → State → Option R} {r : R}

theorem rowElems {e : Ty} {b o : Nat} {x : List (El e)} {t : Tag} {fps : List (List Nat)} (hfl : fps.length = x.length)
    (hel : ∀ k (h : k < x.length), ∃ cs', cellsAt w b (o + k * size e) (size e) = some cs' ∧ Rp w G.F G.St G.Al e (List.replicate (leaves e) t) cs' (x.get ⟨k, h⟩) (fps.getD k [])) :
    ∃ us : List (Elem e), us.map (·.x) = x ∧ us.map (·.fp) = fps ∧ (∀ u ∈ us, u.tg = List.replicate (leaves e) t ∧ Rp w G.F G.St G.Al e u.tg u.cs u.x u.fp) ∧
      ∀ k (h : k < us.length), cellsAt w b (o + k * size e) (size e) = some us[k].cs := by
  classical
  let f : Fin x.length → Elem e := fun k => ⟨x.get k, List.replicate (leaves e) t, Classical.choose (hel k.1 k.2), fps.getD k.1 []⟩
  refine ⟨List.ofFn f, ?_, ?_, ?_, ?_⟩
  · apply List.ext_getElem
    · simp
    · intro i h1 h2; simp [f]
  · apply List.ext_getElem
    · simp [hfl]
    · intro i h1 h2
      simp only [List.getElem_map, List.getElem_ofFn, f]
      rw [List.getD_eq_getElem?_getD, List.getElem?_eq_getElem h2]; rfl
  · intro u hu
    obtain ⟨k, hk, rfl⟩ := List.mem_iff_getElem.1 hu
    simp only [List.getElem_ofFn, f]
    exact ⟨trivial, (Classical.choose_spec (hel k (by simpa using hk))).2⟩
  · intro k hk
    simp only [List.getElem_ofFn, f]
    exact (Classical.choose_spec (hel k (by simpa using hk))).1

theorem sliceElems {e : Ty} {t : Tag} {ad : Option Addr} {n cap : Nat} {x : List (El e)} {fp : List Nat} (h : Rp w G.F G.St G.Al (.slice e) [t] [.slice ad n cap] x fp) :
    ∃ (us : List (Elem e)) (pre : List Nat), n = x.length ∧ us.map (·.x) = x ∧ fp = pre ++ (us.map (·.fp)).flatten ∧ (∀ u ∈ us, u.tg = List.replicate (leaves e) t.inner ∧ Rp w G.F G.St G.Al e u.tg u.cs u.x u.fp) ∧
      (us = [] ∨ ∃ b o, ad = some ⟨b, o, none⟩ ∧ ∀ k (h : k < us.length), cellsAt w b (o + k * size e) (size e) = some us[k].cs) := by
  obtain ⟨t', ad', cap', ht, hc, hl, h⟩ := h
  simp only [List.cons.injEq, and_true, Value.slice.injEq] at ht hc
  subst ht
  obtain ⟨rfl, rfl, rfl⟩ := hc
  rcases h with ⟨_, _, hx, _, rfl⟩ | ⟨_, b, o, fps, rfl, _, rfl, hfl, _, _, hel⟩ | ⟨_, rfl, hx⟩
  · exact ⟨[], [], rfl, by simpa using hx.symm, rfl, by simp, .inl rfl⟩
  · obtain ⟨us, h1, h2, h3, h4⟩ := rowElems hfl hel
    exact ⟨us, [b], rfl, h1, by rw [h2]; rfl, h3, .inr ⟨b, o, rfl, h4⟩⟩
  · rcases hx with hx | ⟨b, o, rfl, _, _, hel⟩
    · exact ⟨[], [], rfl, by simpa using hx.symm, rfl, by simp, .inl rfl⟩
    · obtain ⟨us, h1, h2, h3, h4⟩ := rowElems (G := G) (x := x) (fps := List.replicate (List.length (α := El e) x) []) (by simp) (fun k h => by rw [rep_nil_getD]; exact hel k h)
      exact ⟨us, [], rfl, h1, by rw [h2, rep_nil_flatten]; rfl, h3, .inr ⟨b, o, rfl, h4⟩⟩

theorem setRow_patch {b o : Nat} {C : Array Value} {T : TypeId} {fr : Nat × Nat} {l : List Value} (h : w.heap[b]? = some (.cells C T fr)) (z : Nat) : (w.setRow b (splice C.toList o l).toArray).heap[z]? = (patchW w b o l).heap[z]? := by
  by_cases hz : z = b
  · subst hz
    rw [setRow_heap w _ _ _ _ _ h]
    simp only [patchW]
    rw [Array.getElem?_modify]
    simp [h]
  · rw [setRow_other _ _ _ _ hz, patchW_other hz]

theorem rowOf {e : Ty} {t : Tag} (ht : t.own = true) {b o cap : Nat} {us : List (Elem e)} {fps : List (List Nat)} {F : Nat → Nat} {St Al : Nat → Prop} (hal : Al b) (hfl : fps.length = us.length) (hcap : us.length ≤ cap) (hrow : Row w b (o + cap * size e)) (hF : F b = o + us.length * size e)
    (hc : ∀ k (h : k < us.length), cellsAt w b (o + k * size e) (size e) = some us[k].cs) (hel : ∀ k (h : k < us.length), Rp w F St Al e (List.replicate (leaves e) t.inner) us[k].cs us[k].x (fps.getD k [])) :
    Rp w F St Al (.slice e) [t] [.slice (some ⟨b, o, none⟩) us.length cap] (us.map (·.x)) (b :: fps.flatten) := by
  have hlen : (us.map (·.x)).length = us.length := by simp
  refine ⟨t, some ⟨b, o, none⟩, cap, rfl, by rw [hlen], by rw [hlen]; exact hcap, .inr (.inl ⟨ht, b, o, fps, rfl, hal, rfl, by rw [hlen]; exact hfl, hrow, by rw [hlen]; exact hF, fun k hk => ?_⟩)⟩
  have hk' : k < us.length := by simpa using hk
  refine ⟨us[k].cs, hc k hk', ?_⟩
  have : List.get (α := El e) (us.map (·.x)) ⟨k, hk⟩ = us[k].x := by simp
  rw [this]
  exact hel k hk'

theorem cells_of {e : Ty} {w : World} {b o s : Nat} {us : List (Elem e)} (hn : 0 < us.length) (hc : ∀ k (h : k < us.length), cellsAt w b (o + k * s) s = some us[k].cs) :
    cellsAt w b o (us.length * s) = some (us.map (·.cs)).flatten := by
  have := cells_concat (us.map (·.cs)) o (by simpa using hn) (w := w) (b := b) (s := s) (fun k hk => by
    rw [List.getElem_map]; exact hc k (by simpa using hk))
  simpa using this

theorem whoX_al (I : Inv W0 M σ a w G xs) {b : Nat} (hb : b ∈ xs) : G.Al b :=
  ⟨fun i h => (by rw [I.whoX b hb] at h; cases h), fun h => (by rw [I.whoX b hb] at h; cases h)⟩
end
end Go.PI
namespace Go.PI

section
variable {W0 : Base} {M : Nat → Prop} {σ : State} {a : Act} {w w' : World} {G : Ghost} {xs : List Nat} {P : Program} {tys : List (TypeId × Ty × List TypeId)}
variable {R : Type} {Γ : Env R} {d : Option Nat} {type : TypeId} {o : Oper} {k : TV → State → Option R} {r : R}

theorem zeroCells_size (z : Array Value) (n : Nat) : (Builtin.zeroCells z n).size = n * z.size := by simp [Builtin.zeroCells]

theorem append_new {e : Ty} {us : List (Elem e)} {fps : List (List Nat)} {t : Tag} (ht : t.own = true) (I : Inv W0 M σ a w G (fps.flatten ++ xs)) (hfl : fps.length = us.length)
    (hel : ∀ k (h : k < us.length), Rp w G.F G.St G.Al e (List.replicate (leaves e) t.inner) us[k].cs us[k].x (fps.getD k [])) {cap : Nat} (hcap : us.length ≤ cap) {z : Array Value} (hz : z.size = size e) {C : Array Value} {et : TypeId}
    (hC : C = (us.map (·.cs)).flatten.toArray ++ Builtin.zeroCells z (cap - us.length)) :
    ∃ G', Inv W0 M σ a (w.drew.alloc (.cells C et)) G' ((w.heap.size :: fps.flatten) ++ xs) ∧ Calmer w G (w.drew.alloc (.cells C et)) G' ∧
      Rp (w.drew.alloc (.cells C et)) G'.F G'.St G'.Al (.slice e) [t] [.slice (some ⟨w.heap.size, 0, none⟩) us.length cap] (us.map (·.x)) (w.heap.size :: fps.flatten) := by
  have hcl : ∀ c ∈ us.map (·.cs), c.length = size e := by
    intro c hc
    obtain ⟨k, hk, rfl⟩ := List.mem_iff_getElem.1 hc
    rw [List.getElem_map]
    exact (hel k (by simpa using hk)).len.1
  have hfc := flatten_len _ _ hcl
  obtain ⟨G', h1, h2, h3, _⟩ := newRow_rel (e := e) (fps := fps) (xs := xs) I (Pushed.drew w (.cells C et (0, 0))) (fun j hj hh => by simp at hh) (t := t) ht (x := us.map (·.x)) (css := us.map (·.cs)) (rest := (Builtin.zeroCells z (cap - us.length)).toList) (cap := cap)
    (by rw [hC]; simp) (by simp) (by simp [hfl]) (by simpa using hcap) (by
      rw [hC, Array.size_append, zeroCells_size, hz]
      simp only [List.size_toArray]
      rw [hfc, List.length_map, ← Nat.add_mul]
      exact Nat.mul_le_mul_right _ (by omega)) (fun k hk => by
      have hk' : k < us.length := by simpa using hk
      have := hel k hk'
      rw [List.getD_eq_getElem?_getD (l := us.map (·.cs)), List.getElem?_map, List.getElem?_eq_getElem hk']
      simpa using this)
  exact ⟨G', h1, h2, by simpa using h3⟩

theorem append_src (hT : TysOk P tys) {e : Ty} {sT xT ty et : TypeId} {le : List TypeId} (hu : P.underlying sT = some (.slice et)) (hux : AppTy P xT) (hea : assoc tys et = some (e, le))
    {fp1 fp2 : List Nat} (I : Inv W0 M σ a w G (fp2 ++ (fp1 ++ xs))) {t t' : Tag} (ht : t.own = true) {ad : Option Addr} {n cap n' : Nat} {X : Value} {l m : List (El e)}
    (hR1 : Rp w G.F G.St G.Al (.slice e) [t] [.slice ad n cap] l fp1) (hlim : lim (l.length + m.length) = true)
    {t0 : Tag} (ht0 : t0 = if leaves e == 0 then .O else t.inner.meet t'.inner)
    {vs : List (Elem e)} {pre2 : List Nat} (hn' : n' = m.length) (hvx : vs.map (·.x) = m) (hfp2 : fp2 = pre2 ++ (vs.map (·.fp)).flatten) (hvok : ∀ u ∈ vs, u.tg = List.replicate (leaves e) t'.inner ∧ Rp w G.F G.St G.Al e u.tg u.cs u.x u.fp)
    (hX : Builtin.lenOf X = pure n') (hfc : ∀ (w2 : World), w2.heap = w.heap → (Builtin.firstCells (size e) n' X).run P w2 = .ok ((vs.map (·.cs)).flatten).toArray w2) :
    ∃ v w' G' fp, (Builtin.append_ #[sT, xT] ty #[.slice ad n cap, X]).run P w = .ok v w' ∧ Inv W0 M σ a w' G' (fp ++ xs) ∧ Shaped false v ∧ Rp w' G'.F G'.St G'.Al (.slice e) [t0.over] (vCells v) (l ++ m) fp ∧ Calmer w G w' G' := by
  obtain ⟨inf, z, hi, hs, hby, _, hz, hzc, _⟩ := (hT et _ _ hea).info
  have hzl : z.cells.size = size e := by
    have : z.cells.toList.length = size e := by rw [hzc]; exact (zero_rp (w := w) (F := G.F) (St := G.St) (Al := G.Al) e).len.1
    simpa using this
  have hlim' : l.length + m.length ≤ 2147483648 := of_decide_eq_true hlim
  have hover : t0.over.own = true := by cases t0 <;> rfl
  have hle1 : ∀ s ∈ List.replicate (leaves e) t.inner, TagLe t0 s := by
    intro s hs'
    obtain ⟨hne, rfl⟩ := List.mem_replicate.1 hs'
    rw [ht0, if_neg (by simpa using hne)]
    exact (TagLe.self _).meet_left
  have hle2 : ∀ s ∈ List.replicate (leaves e) t'.inner, TagLe t0 s := by
    intro s hs'
    obtain ⟨hne, rfl⟩ := List.mem_replicate.1 hs'
    rw [ht0, if_neg (by simpa using hne)]
    exact (TagLe.self _).meet_right
  have hvl : vs.length = m.length := by rw [← hvx]; simp
  obtain ⟨tt, ad1, cap1, htt, hcc, hlc, hcase⟩ := hR1
  simp only [List.cons.injEq, and_true, Value.slice.injEq] at htt hcc
  subst htt
  obtain ⟨rfl, rfl, rfl⟩ := hcc
  have hbytes : ∀ k : Nat, k ≤ 4294967296 → k * inf.bytes ≤ 281474976710656 := by
    intro k hk
    calc k * inf.bytes ≤ 4294967296 * 65536 := Nat.mul_le_mul hk hby
      _ = 281474976710656 := rfl
  have hnl : ((vs.map (·.cs)).flatten).length = n' * inf.size := by
    have : ∀ c ∈ vs.map (·.cs), c.length = size e := by
      intro c hc
      obtain ⟨u, hu, rfl⟩ := List.mem_map.1 hc
      exact (hvok u hu).2.len.1
    have h2 : ∀ (L : List (List Value)), (∀ c ∈ L, c.length = size e) → L.flatten.length = L.length * size e := by
      intro L
      induction L with
      | nil => intro _; simp
      | cons c L ih =>
        intro hL
        rw [List.flatten_cons, List.length_append, ih fun c hc => hL c (List.mem_cons_of_mem _ hc), hL c (by simp), List.length_cons, Nat.add_mul]
        omega
    rw [h2 _ this, List.length_map, hs, hvl, hn']
  have hfc0 : (Builtin.firstCells inf.size n' X).run P w = .ok ((vs.map (·.cs)).flatten).toArray w := by rw [hs]; exact hfc w rfl
  have hfc1 : (Builtin.firstCells inf.size n' X).run P w.drew = .ok ((vs.map (·.cs)).flatten).toArray w.drew := by rw [hs]; exact hfc w.drew rfl
  have hvlen : ∀ c ∈ vs.map (·.cs), c.length = size e := by
    intro c hc
    obtain ⟨u, hu, rfl⟩ := List.mem_map.1 hc
    exact (hvok u hu).2.len.1
  rcases hcase with ⟨_, rfl, hl0, rfl, rfl⟩ | ⟨_, b, off, fps, rfl, hal, rfl, hfl, hrow, hF, hel⟩ | ⟨ho, _⟩
  · -- nothing yet
    have hl0 : l = [] := hl0
    subst hl0
    simp only [List.append_nil, List.nil_append] at I
    have I1 : Inv W0 M σ a w G ((vs.map (·.fp)).flatten ++ xs) := by
      refine I.sub (fun b hb => by rw [hfp2]; simp only [List.mem_append] at hb ⊢; rcases hb with h | h <;> simp [h]) ?_
      have := I.nodX
      rw [hfp2, List.append_assoc] at this
      exact (List.nodup_append.1 this).2.1
    obtain ⟨G2, fps', I2, hc2, gF, hfl', gS, gA, hel', _, _⟩ := uniform (t0 := t0) I1 (fun u hu => ⟨(hvok u hu).2, by rw [(hvok u hu).1]; exact hle2⟩)
    by_cases hm : vs = []
    · subst hm
      have hm0 : m = [] := by simpa using hvx.symm
      subst hm0
      have : n' = 0 := hn'
      subst this
      refine ⟨.slice none 0 0, w, G2, [], append_nothing sT xT ty et inf hu hux hi none 0 0 (Nat.le_refl _) X hX (by simpa using hfc0), ?_, rfl, ?_, hc2⟩
      · exact I2.sub (fun b hb => List.mem_append_right _ hb) (List.nodup_append.1 I2.nodX).2.1
      · exact ⟨t0.over, none, 0, rfl, rfl, Nat.le_refl _, .inl ⟨hover, rfl, rfl, rfl, rfl⟩⟩
    · have hpos : 0 < vs.length := (List.length_pos_iff.2 hm)
      have hn0 : 0 < n' := by rw [hn', ← hvl]; exact hpos
      have hn31 : n' ≤ 2147483648 := by rw [hn']; simpa using hlim'
      have hrun := append_nil (P := P) (w := w) sT xT ty et inf z hu hux hi hz n' X hX _ hfc1 hn0 (by omega) (hbytes n' (by omega))
      have hge := grownCap_ge w n' 0 et
      have hvn : vs.length = n' := by rw [hvl, hn']
      obtain ⟨G3, I3, hc3, hR3⟩ := append_new (us := vs) (fps := fps') hover I2 hfl' hel' (cap := grownCap w n' 0 et) (by omega) hzl (et := et) (by rw [hvn])
      refine ⟨_, _, G3, _, hrun, I3, rfl, ?_, hc2.trans hc3⟩
      rw [one_cells rfl]
      rw [hvx, hvn] at hR3
      simpa using hR3
  · -- a row
    obtain ⟨us, hux', hufp, huok, huc⟩ := rowElems (w := w) (G := G) (b := b) (o := off) hfl hel
    have hul : us.length = l.length := by rw [← hux']; simp
    have I1 : Inv W0 M σ a w G ((((us ++ vs).map (·.fp)).flatten) ++ (b :: xs)) := by
      refine I.sub (fun z hz => ?_) ?_
      · rw [hfp2]
        simp only [List.map_append, List.flatten_append, hufp, List.mem_append, List.mem_cons] at hz ⊢
        rcases hz with (h | h) | h | h <;> simp [h]
      · have hp : ((((us ++ vs).map (·.fp)).flatten ++ (b :: xs)) ++ pre2).Perm (fp2 ++ ((b :: fps.flatten) ++ xs)) := by
          rw [hfp2]
          refine List.perm_iff_count.2 fun z => ?_
          simp only [List.map_append, List.flatten_append, hufp, List.count_append, List.count_cons]
          omega
        exact (List.nodup_append.1 (hp.nodup_iff.2 I.nodX)).1
    obtain ⟨G2, fps', I2, hc2, gF, hfl', gS, gA, hel', _, hsub⟩ := uniform (t0 := t0) I1 (fun u hu => by
      rcases List.mem_append.1 hu with h | h
      · exact ⟨(huok u h).2, by rw [(huok u h).1]; exact hle1⟩
      · exact ⟨(hvok u h).2, by rw [(hvok u h).1]; exact hle2⟩)
    have hbG2 : G2.who b = some .x := I2.whoX b (by simp)
    have halb : G2.Al b := by rw [gA]; exact hal
    have hnodb : b ∉ fps'.flatten := fun hm => (List.nodup_append.1 I2.nodX).2.2 b hm b (by simp) rfl
    have hp2 : (fps'.flatten ++ (b :: xs)).Perm ((b :: fps'.flatten) ++ xs) := by
      refine List.perm_iff_count.2 fun z => ?_
      simp only [List.count_append, List.count_cons]
      omega
    obtain ⟨C, T, fr, hC, hCs, hth⟩ := hrow
    by_cases hm : vs = []
    · subst hm
      have hm0 : m = [] := by simpa using hvx.symm
      subst hm0
      have : n' = 0 := hn'
      subst this
      simp only [List.append_nil] at I1 hel' hfl' hsub ⊢
      refine ⟨_, w, G2, b :: fps'.flatten, append_nothing sT xT ty et inf hu hux hi (some ⟨b, off, none⟩) l.length cap hlc X hX (by simpa using hfc0), I2.perm hp2, rfl, ?_, hc2⟩
      rw [one_cells rfl]
      have := rowOf (w := w) (F := G2.F) (St := G2.St) (Al := G2.Al) hover halb (hfl'.trans (by simp)) (cap := cap) (by rw [hul]; exact hlc) ⟨C, T, fr, hC, hCs, hth⟩ (by rw [gF, hul]; exact hF) huc hel'
      rw [hux', hul] at this
      exact this
    · have hpos : 0 < vs.length := (List.length_pos_iff.2 hm)
      have hvn : vs.length = n' := by rw [hvl, hn']
      have hone : ∀ c ∈ (vs.map (·.cs)).flatten, one c = true := by
        intro c hc
        obtain ⟨cs, hcs, hc⟩ := List.mem_flatten.1 hc
        obtain ⟨u, hu, rfl⟩ := List.mem_map.1 hcs
        exact (hvok u hu).2.ones c hc
      by_cases hroom : l.length + n' ≤ cap
      · -- there is room
        have hfit : off + l.length * size e + n' * size e ≤ off + cap * size e := by
          have : (l.length + n') * size e ≤ cap * size e := Nat.mul_le_mul_right _ hroom
          rw [Nat.add_mul] at this; omega
        have hrun := append_room (P := P) (w := w) sT xT ty et inf hu hux hi b off l.length cap C T fr hC hth n' X hX _ hnl hfc0 hone hroom (by rw [hnl, hs]; omega)
        rw [hs] at hrun hnl
        have hpat := setRow_patch (w := w) (o := off + l.length * size e) (l := (vs.map (·.cs)).flatten) hC
        have hrow' : Row w b (off + cap * size e) := ⟨C, T, fr, hC, hCs, hth⟩
        have hlr : ∃ mm, off + l.length * size e + ((vs.map (·.cs)).flatten).length ≤ mm ∧ Row w b mm := ⟨_, by rw [hnl]; exact hfit, hrow'⟩
        have hFb : G2.F b = off + l.length * size e := by rw [gF]; exact hF
        have hK : KeepB w G2.F (w.setRow b (splice C.toList (off + l.length * size e) ((vs.map (·.cs)).flatten)).toArray) (fun z => if z = b then off + (l.length + n') * size e else G2.F z) b := by
          refine ⟨?_, fun o2 n2 cs hn2 hcs => ?_, fun n2 hr => ?_⟩
          · simp only [if_true]; rw [hFb, Nat.add_mul]; omega
          · rw [cellsAt_congr (hpat b)]
            exact cellsAt_patch_out hlr (.inl (by omega)) hcs
          · rw [Row_congr (hpat b)]
            exact Row_patch (by rw [hnl]; exact hfit) hrow' hr
        obtain ⟨I3, hc3, hl3⟩ := I2.patch hbG2 (.inl rfl) (Wrote.setRow w b _) (off + (l.length + n') * size e) (.inr (.inr hK))
        refine ⟨_, _, _, b :: fps'.flatten, hrun, I3.perm hp2, rfl, ?_, hc2.trans (hc3 (by simp) hK)⟩
        rw [one_cells rfl]
        have hall : (us ++ vs).length = l.length + n' := by simp [hul, hvn]
        have hxx : (us ++ vs).map (·.x) = l ++ m := by rw [List.map_append, hux', hvx]
        have key := rowOf (us := us ++ vs) (fps := fps') (cap := cap) (o := off) (b := b) (t := t0.over) (w := w.setRow b (splice C.toList (off + l.length * size e) ((vs.map (·.cs)).flatten)).toArray) (F := fun z => if z = b then off + (l.length + n') * size e else G2.F z) (St := G2.St) (Al := G2.Al) hover halb hfl' (by omega) ?_ ?_ (fun k hk => ?_) (fun k hk => ?_)
        · rw [hxx, hall] at key; exact key
        · rw [Row_congr (hpat b)]
          exact Row_patch (by rw [hnl]; exact hfit) hrow' hrow'
        · rw [hall]; simp
        · rw [cellsAt_congr (hpat b)]
          by_cases hkl : k < us.length
          · rw [List.getElem_append_left hkl]
            have hb1 : (k + 1) * size e ≤ l.length * size e := Nat.mul_le_mul_right _ (by omega)
            rw [Nat.add_mul, Nat.one_mul] at hb1
            exact cellsAt_patch_out hlr (.inl (by omega)) (huc k hkl)
          · obtain ⟨i, rfl⟩ : ∃ i, k = us.length + i := ⟨k - us.length, by omega⟩
            have hi' : i < vs.length := by simpa using hk
            rw [List.getElem_append_right (by omega)]
            obtain ⟨cz, hcz⟩ := hrow'.cells (o := off + l.length * size e) (m := n' * size e) hfit
            have hin := cellsAt_patch_in (o' := off + l.length * size e) (l := (vs.map (·.cs)).flatten) (Nat.le_refl _) (by rw [hnl]; exact Nat.le_refl _) hcz
            rw [Nat.sub_self, splice_nil_all (by rw [hnl, cellsAt_len hcz])] at hin
            have hb1 : (i + 1) * size e ≤ n' * size e := Nat.mul_le_mul_right _ (by omega)
            rw [Nat.add_mul, Nat.one_mul] at hb1
            have hsb := cellsAt_sub hin (i := i * size e) (m := size e) hb1
            have hck := chunk (vs.map (·.cs)) (size e) i [] hvlen (by simpa using hi')
            rw [List.append_nil] at hck
            rw [hck, List.getElem_map] at hsb
            rw [show off + (us.length + i) * size e = off + l.length * size e + i * size e by rw [hul, Nat.add_mul]; omega, hsb]
            simp
        · refine hl3 _ _ _ _ _ (hel' k hk) (fun hm' => hnodb ?_) (.inr (.inr hK))
          refine List.mem_flatten.2 ⟨_, ?_, hm'⟩
          rw [List.getD_eq_getElem?_getD, List.getElem?_eq_getElem (by omega)]
          exact List.getElem_mem _
      · -- a new row
        have holds : (us.map (·.cs)).flatten.length = l.length * inf.size ∧ ∀ j v, ((us.map (·.cs)).flatten)[j]? = some v → w.cell? ((⟨b, off, none⟩ : Addr).add j) = some v := by
          by_cases hu0 : us = []
          · subst hu0
            have : l.length = 0 := by rw [← hul]; rfl
            rw [this]
            exact ⟨by simp, by simp⟩
          · have hc := cells_of (List.length_pos_iff.2 hu0) huc
            exact ⟨by rw [cellsAt_len hc, hs, hul], fun j v hj => cellsAt_cell hc j v hj⟩
        have hnc2 : Builtin.nextslicecap (l.length + n') cap * inf.bytes ≤ 281474976710656 := by
          refine hbytes _ ?_
          have := nextslicecap_le (need := l.length + n') (old := cap) (by omega)
          rw [hn'] at this ⊢
          omega
        have hrun := append_grow (P := P) (w := w) sT xT ty et inf z hu hux hi hz ⟨b, off, none⟩ l.length cap _ holds.1 holds.2 n' X hX _ hfc1 (by omega) (by rw [hn']; omega) hnc2
        have hge := grownCap_ge w (l.length + n') cap et
        have hall : (us ++ vs).length = l.length + n' := by simp [hul, hvn]
        have I2' : Inv W0 M σ a w G2 (fps'.flatten ++ xs) := I2.sub (fun z hz => by simp only [List.mem_append, List.mem_cons] at hz ⊢; rcases hz with h | h <;> simp [h]) (by
          have := hp2.nodup_iff.1 I2.nodX
          exact (List.nodup_cons.1 this).2)
        obtain ⟨G3, I3, hc3, hR3⟩ := append_new (us := us ++ vs) (fps := fps') hover I2' hfl' hel' (cap := grownCap w (l.length + n') cap et) (by omega) hzl (et := et) (by rw [hall])
        refine ⟨_, _, G3, w.heap.size :: fps'.flatten, hrun, ?_, rfl, ?_, ?_⟩
        · have : ((us ++ vs).map (·.cs)).flatten.toArray = (us.map (·.cs)).flatten.toArray ++ (vs.map (·.cs)).flatten.toArray := by simp
          rw [this] at I3
          exact I3
        · have : ((us ++ vs).map (·.cs)).flatten.toArray = (us.map (·.cs)).flatten.toArray ++ (vs.map (·.cs)).flatten.toArray := by simp
          rw [this, List.map_append, hux', hvx, hall] at hR3
          rw [one_cells rfl]
          exact hR3
        · have : ((us ++ vs).map (·.cs)).flatten.toArray = (us.map (·.cs)).flatten.toArray ++ (vs.map (·.cs)).flatten.toArray := by simp
          rw [this] at hc3
          exact hc2.trans hc3
  · rw [ht] at ho; cases ho

theorem append_rel (hT : TysOk P tys) {e : Ty} {sT xT ty et et2 : TypeId} {le : List TypeId} (hu : P.underlying sT = some (.slice et)) (hux : P.underlying xT = some (.slice et2)) (hea : assoc tys et = some (e, le))
    {fp1 fp2 : List Nat} (I : Inv W0 M σ a w G (fp2 ++ (fp1 ++ xs))) {t t' : Tag} (ht : t.own = true) {ad ad' : Option Addr} {n cap n' cap' : Nat} {l m : List (El e)}
    (hR1 : Rp w G.F G.St G.Al (.slice e) [t] [.slice ad n cap] l fp1) (hR2 : Rp w G.F G.St G.Al (.slice e) [t'] [.slice ad' n' cap'] m fp2) (hlim : lim (l.length + m.length) = true)
    {t0 : Tag} (ht0 : t0 = if leaves e == 0 then .O else t.inner.meet t'.inner) :
    ∃ v w' G' fp, (Builtin.append_ #[sT, xT] ty #[.slice ad n cap, .slice ad' n' cap']).run P w = .ok v w' ∧ Inv W0 M σ a w' G' (fp ++ xs) ∧ Shaped false v ∧ Rp w' G'.F G'.St G'.Al (.slice e) [t0.over] (vCells v) (l ++ m) fp ∧ Calmer w G w' G' := by
  obtain ⟨vs, pre2, hn', hvx, hfp2, hvok, hvad⟩ := sliceElems hR2
  have hvl : vs.length = m.length := by rw [← hvx]; simp
  refine append_src hT hu (.inl ⟨et2, hux⟩) hea I ht hR1 hlim ht0 hn' hvx hfp2 hvok rfl fun w2 hw2 => ?_
  have hcw : ∀ b o n, cellsAt w2 b o n = cellsAt w b o n := fun b o n => by unfold cellsAt; rw [hw2]
  rcases hvad with rfl | ⟨b', o', rfl, hvc⟩
  · have : n' = 0 := by rw [hn', ← hvl]; rfl
    subst this
    cases ad' with
    | none => exact run_firstCells_none _ _ _ _ _
    | some b => exact run_firstCells_some (P := P) w2 (size e) 0 b 0 cap' [] (by simp) (by simp)
  · by_cases h0 : vs = []
    · subst h0
      have : n' = 0 := by rw [hn', ← hvl]; rfl
      subst this
      exact run_firstCells_some (P := P) w2 (size e) 0 _ 0 cap' [] (by simp) (by simp)
    · have hc := cells_of (w := w2) (List.length_pos_iff.2 h0) (fun k hk => by rw [hcw]; exact hvc k hk)
      exact run_firstCells_some (P := P) w2 (size e) n' _ n' cap' _ (by rw [cellsAt_len hc, hn', hvl]) (fun j v hj => cellsAt_cell hc j v hj)

theorem append_str (hT : TysOk P tys) {sT xT ty et : TypeId} {le : List TypeId} (hu : P.underlying sT = some (.slice et)) (hux : P.underlying xT = some .string) (hea : assoc tys et = some (.int .u8, le))
    {fp1 : List Nat} (I : Inv W0 M σ a w G (fp1 ++ xs)) {t : Tag} (ht : t.own = true) {ad : Option Addr} {n cap : Nat} {l : List Int} {s : ByteArray}
    (hR1 : Rp w G.F G.St G.Al (.slice (.int .u8)) [t] [.slice ad n cap] l fp1) (hlim : lim (l.length + s.size) = true) :
    ∃ v w' G' fp, (Builtin.append_ #[sT, xT] ty #[.slice ad n cap, .string s]).run P w = .ok v w' ∧ Inv W0 M σ a w' G' (fp ++ xs) ∧ Shaped false v ∧ Rp w' G'.F G'.St G'.Al (.slice (.int .u8)) [.O] (vCells v) (l ++ toBytes s) fp ∧ Calmer w G w' G' := by
  let vs : List (Elem (.int .u8)) := s.data.toList.map fun b => ⟨(b.toNat : Int), [], [.int .u8 b.toNat], []⟩
  have hlen : (toBytes s).length = s.size := by simp [toBytes]
  have hflat : (vs.map (·.fp)).flatten = [] := by
    simp only [vs, List.map_map]
    generalize s.data.toList = L
    induction L with
    | nil => rfl
    | cons b L ih => simp
  have hcs : ((vs.map (·.cs)).flatten).toArray = (Go.Lib.strCells s).toArray := by
    simp only [vs, Go.Lib.strCells, List.map_map]
    generalize s.data.toList = L
    congr 1
    induction L with
    | nil => rfl
    | cons b L ih => simpa using ih
  exact append_src (e := .int .u8) (t' := .O) (t0 := .O) (m := toBytes s) (vs := vs) (pre2 := []) (fp2 := []) hT hu (.inr hux) hea (by simpa using I) ht hR1 (by rw [hlen]; exact hlim) rfl hlen.symm (by simp [vs, toBytes]) (by rw [hflat]; rfl)
    (fun u hu => by
      obtain ⟨b, _, rfl⟩ := List.mem_map.1 hu
      exact ⟨rfl, rfl, rfl, rfl⟩) rfl (fun w2 _ => by rw [hcs]; exact Go.Lib.run_firstCells_string w2 1 s)
end
end Go.PI
namespace Go.PI

section
variable {W0 : Base} {M : Nat → Prop} {σ : State} {a : Act} {w w' : World} {G : Ghost} {xs : List Nat} {P : Program} {tys : List (TypeId × Ty × List TypeId)}
variable {R : Type} {Γ : Env R} {d : Option Nat} {type : TypeId} {o : Oper} {k : TV → State → Option R} {r : R}

theorem castEl_some {e : Ty} {v : TVal} {x : El e} (h : castEl e v = some x) : ∃ ag tg, v = ⟨e, ag, x, tg⟩ := by
  obtain ⟨τ, ag, y, tg⟩ := v
  unfold castEl at h
  split at h
  · rename_i hh
    simp only at hh
    subst hh
    cases h
    exact ⟨ag, tg, rfl⟩
  · cases h

theorem hard_append (hT : TysOk P Γ.tys) (I : Inv W0 M σ a w G xs) {c : Call} (ho : o.op = .call c) (hcal : c.callee = .builtin .append) (h : hardC Γ d type σ k o.op = some r) : ∃ tv σ', k tv σ' = some r ∧ HardOk P W0 M o a w G xs σ' tv true := by
  rw [ho] at h
  simp only [hardC, hcal] at h
  split at h
  · rename_i s x sT xT hargs htys
    have ha : c.args = #[s, x] := by cases hca : c.args; rw [hca] at hargs; simp at hargs; rw [hargs]
    have hty : c.argTypes = #[sT, xT] := by cases hca : c.argTypes; rw [hca] at htys; simp at htys; rw [htys]
    unfold appendC at h
    split at h
    · rename_i e hsT
      split at h
      · rename_i v σ1 htk1
        split at h
        · rename_i l t hl htg
          split at h
          · rename_i hc
            simp only [Bool.and_eq_true, Bool.not_eq_true'] at hc
            obtain ⟨⟨hown, hvag⟩, hsag⟩ := hc
            split at h
            · rename_i e' hxT
              split at h
              · rename_i u σ2 htk2
                split at h
                · rename_i m t' hm htg'
                  split at h
                  · cases h
                  rename_i hc2
                  simp only [Bool.or_eq_true, not_or, Bool.not_eq_true] at hc2
                  rw [cond_eq_ite] at h
                  split at h
                  · rename_i hlim
                    obtain ⟨ag1, tg1, rfl⟩ := castEl_some hl
                    obtain ⟨ag2, tg2, rfl⟩ := castEl_some hm
                    simp only at htg htg' hvag hc2
                    subst htg; subst htg'; subst hvag
                    obtain ⟨hu2, hxag⟩ := hc2
                    subst hu2
                    obtain ⟨fp1, G1, I1, hs1, _, hR1, hsh1⟩ := take_rel I htk1
                    obtain ⟨fp2, G2, I2, hs2, _, hR2, hsh2⟩ := take_rel I1 htk2
                    have hR1 : Rp w G2.F G2.St G2.Al (.slice e) [t] (vCells (a.eval s)) l fp1 := by rw [hs2.F, hs2.St, hs2.Al]; exact hR1
                    have hR2 : Rp w G2.F G2.St G2.Al (.slice e) [t'] (vCells (a.eval x)) m fp2 := hR2
                    have hsh1 : Shaped false (a.eval s) := hsh1
                    have hsh2 : Shaped false (a.eval x) := hsh2
                    obtain ⟨ad, cap, hv1, _⟩ := val_slice hsh1 hR1
                    obtain ⟨ad', cap', hv2, _⟩ := val_slice hsh2 hR2
                    rw [hv1, one_cells rfl] at hR1
                    rw [hv2, one_cells rfl] at hR2
                    obtain ⟨et, le, hu, hea, _⟩ := und_slice hT hsT hsag
                    obtain ⟨et2, le2, hux, _, _⟩ := und_slice hT hxT hxag
                    obtain ⟨vv, w', G', fp, hrun, I', hsh, hR, hcalm⟩ := append_rel (ty := o.type) hT hu hux hea I2 hown hR1 hR2 hlim rfl
                    refine ⟨_, _, h, vv, w', G', fp, _, ?_, .inl rfl, I', ⟨hsh, hR⟩, fun _ => (hs1.trans hs2).calmer.trans hcalm⟩
                    rw [exec_with ho]
                    simp only [execOp, resolve, hcal, ha, hty, Sem.run_bind, Sem.run_pure, Result.andThen_ok, invoke, builtin]
                    simp only [List.map_toArray, List.map_cons, List.map_nil, hv1, hv2]
                    rw [hrun]
                    rfl
                  · cases h
                · cases h
              · cases h
            · rename_i hxT
              split at h
              · rename_i b tg' hlk
                split at h
                · cases h
                rename_i hxag
                simp only [Bool.not_eq_true] at hxag
                split at h
                · rename_i m hm
                  obtain ⟨ag2, tg2, hm⟩ := castEl_some hm
                  simp only [TVal.mk.injEq, Ty.slice.injEq] at hm
                  obtain ⟨he, _, hmx, _⟩ := hm
                  subst he
                  have hmx : m = toBytes b := (eq_of_heq hmx).symm
                  subst hmx
                  rw [cond_eq_ite] at h
                  split at h
                  · rename_i hlim
                    obtain ⟨ag1, tg1, rfl⟩ := castEl_some hl
                    simp only at htg hvag
                    subst htg; subst hvag
                    obtain ⟨fp1, G1, I1, hs1, _, hR1, hsh1⟩ := take_rel I htk1
                    have hsh1 : Shaped false (a.eval s) := hsh1
                    obtain ⟨ad, cap, hv1, _⟩ := val_slice hsh1 hR1
                    have hv2 := look_str I1 hlk
                    rw [hv1, one_cells rfl] at hR1
                    obtain ⟨et, le, hu, hea, _⟩ := und_slice hT hsT hsag
                    have hux := und_str hT hxT hxag
                    obtain ⟨vv, w', G', fp, hrun, I', hsh, hR, hcalm⟩ := append_str (ty := o.type) hT hu hux hea I1 hown hR1 hlim
                    refine ⟨_, _, h, vv, w', G', fp, _, ?_, .inl rfl, I', ⟨hsh, hR⟩, fun _ => hs1.calmer.trans hcalm⟩
                    rw [exec_with ho]
                    simp only [execOp, resolve, hcal, ha, hty, Sem.run_bind, Sem.run_pure, Result.andThen_ok, invoke, builtin]
                    simp only [List.map_toArray, List.map_cons, List.map_nil, hv1, hv2]
                    rw [hrun]
                    rfl
                  · cases h
                · cases h
              · cases h
            · cases h
          · cases h
        · cases h
      · cases h
    · cases h
  · cases h
end
end Go.PI
namespace Go.PI

section
variable {W0 : Base} {M : Nat → Prop} {σ : State} {a : Act} {w w' : World} {G : Ghost} {xs : List Nat} {P : Program} {tys : List (TypeId × Ty × List TypeId)} {o : Oper} {g : Bool} {tv : TV}

def SoftB (P : Program) (σ : State) (a : Act) (w : World) (G : Ghost) (o : Oper) (tv : TV) : Prop :=
  ∃ v, SlotRel σ G a w tv v [] ∧ ∀ w2, BCalm w G w2 → (execOp a.eval o).run P w2 = .ok (.value v) w2
theorem SoftAll.b (h : SoftAll P σ a w G o tv) : SoftB P σ a w G o tv := by
  obtain ⟨v, h1, h2⟩ := h
  exact ⟨v, h1, fun w2 _ => h2 w2⟩

theorem box_cells (I : Inv W0 M σ a w G xs) {p : Place} {u : TVal} {cs : List Value} {b : Nat × Nat} (hb : p.box = true) (hf : flatB p.path = true) (hu : σ.getAt p = some u) (hp : PlaceAt σ G a w p cs (some b)) {w2 : World} (hc : BCalm w G w2) :
    cellsAt w2 b.1 b.2 cs.length = some cs := by
  have h0 := place_cells I hp (w2 := w) ⟨fun _ _ _ _ _ _ _ h => h, fun _ _ _ => rfl⟩
  obtain ⟨τ, l, bs, hct, hr, hl⟩ := hp
  obtain ⟨c, hcn, rfl⟩ := Option.map_eq_some_iff.1 hct
  obtain ⟨l', b', fp, hr', hrp, hw⟩ := content_root I hcn
  rw [hr] at hr'
  cases hr'
  obtain ⟨c', hc', hgp⟩ := getAt_content hu
  rw [hcn] at hc'
  cases hc'
  obtain ⟨τf, hτf⟩ := tyAt_of_getP hf hgp
  obtain ⟨h1, h2⟩ := locP_flat (w := w) (base := bs) hτf hrp.len.1
  rw [hl] at h1
  simp only [Option.some.injEq, Prod.mk.injEq] at h1
  rcases hw with ⟨_, hbx, _, hbe⟩ | ⟨hb', _⟩
  · rw [hbe] at h1
    simp only [Option.map_some, Option.some.injEq] at h1
    have hblk : b.1 = G.ad p.root := by rw [h1.2]
    rw [cellsAt_congr (hc _ _ (by rw [hblk]; exact (I.box _ _ hbx).2))]
    exact h0
  · rw [hb] at hb'; cases hb'

theorem soft_loadB (hT : TysOk P tys) (I : Inv W0 M σ a w G xs) {t : TypeId} {x : Operand} (ho : o.op = .load t x) (h : softV tys σ o.op = some (g, tv)) (hbs : bsoft σ o.op = true) : SoftB P σ a w G o tv := by
  rw [ho] at h hbs
  simp only [softV] at h
  simp only [bsoft] at hbs
  have hpk := peek_rel I x
  split at h
  · rename_i τ p hτ hp
    rw [hp] at hpk
    have hpk := hpk (by simp)
    split at h
    · rename_i u hu
      split at h
      · rename_i hut
        obtain ⟨tv', hrt, he⟩ := Option.map_eq_some_iff.1 h
        simp only [Prod.mk.injEq] at he
        obtain ⟨rfl, rfl⟩ := he
        obtain ⟨⟨τ', l⟩, hta, hτe⟩ := Option.map_eq_some_iff.1 hτ
        simp only at hτe; subst hτe
        obtain ⟨cs, b, hpl, hv⟩ := hpk.2.2.2.some hu
        obtain ⟨hlen, hone⟩ := place_len I hu hpl
        have hag : agOf tys t = !l.isEmpty := by simp [agOf, hta]
        have hgo := gathered_ok (ag := agOf tys t) hone (fun hf => by
          rw [hlen, hut]
          rw [hag] at hf
          have hl : l = [] := by simpa using hf
          obtain ⟨_, _, _, _, h5, h6⟩ := (hT t τ' l hta).und hl
          cases τ' <;> first | rfl | (exact absurd rfl h5) | (exact absurd rfl (h6 _ _)))
        refine ⟨gathered (agOf tys t) cs, refTo_rel I hrt hpl hgo.1 hgo.2, fun w2 hc => ?_⟩
        have hcell := box_cells I hpk.2.1 hpk.2.2.1 hu hpl hc
        rw [hlen, hut] at hcell
        have := run_loadVar (w := w2) hT hta hcell
        rw [exec_with ho]
        simp only [execOp, hv, Instr.loadAt, Instr.sureAddr, Sem.run_bind, Sem.run_pure, Result.andThen_ok, this, hag]
      · cases h
    · cases h
  · rename_i τ p hτ hp
    rw [hp] at hbs; cases hbs
  · rename_i τ v t hτ hp
    rw [hp] at hbs; cases hbs
  · rename_i hp
    rw [hp] at hbs; cases hbs
  · cases h

theorem soft_convertB (hT : TysOk P tys) (I : Inv W0 M σ a w G xs) {s t : TypeId} {x : Operand} (ho : o.op = .convert s t x) (h : softV tys σ o.op = some (g, tv)) (hbs : bsoft σ o.op = true) : SoftB P σ a w G o tv := by
  rw [ho] at h hbs
  simp only [bsoft] at hbs
  split at hbs
  · rename_i k0 ag0 n0 tg0 hpk
    have hlk : σ.look x = some ⟨.int k0, ag0, n0, tg0⟩ := by simp only [State.look, hpk]
    simp only [softV, hlk] at h
    split at h
    · cases h
    rename_i hag
    simp only [Bool.or_eq_true, not_or, Bool.not_eq_true] at hag
    split at h
    · rename_i k j k2 n _ hs ht hl
      simp only [Option.some.injEq, Prod.mk.injEq] at h
      obtain ⟨rfl, rfl⟩ := h
      have hv := look_int I (hlk.trans hl)
      refine ⟨.int j (j.wrap n), scal_rel rfl ⟨rfl, rfl, rfl⟩, fun w2 _ => ?_⟩
      rw [exec_with ho]
      simp [execOp, hv, convert, run_underlying (und_int hT hs hag.1), run_underlying (und_int hT ht hag.2), Conv.intToInt]
    · rename_i hl; cases hl
    · rename_i hl; cases hl
    · cases h
  · cases hbs

theorem soft_relB (hT : TysOk P tys) (I : Inv W0 M σ a w G xs) (h : softV tys σ o.op = some (g, tv)) (hg : g = true) (hbs : bsoft σ o.op = true) : SoftB P σ a w G o tv := by
  cases hop : o.op with
  | move x => exact (soft_move I hop h).b
  | unOp op t x => exact (soft_unOp I hop h).b
  | binOp op t x y ty => exact (soft_bin hT I hop h hg).b
  | convert s t x => exact soft_convertB hT I hop h hbs
  | nilCheck x => exact (soft_nilCheck I hop h).b
  | makeFunc f fst cs => exact (soft_makeFunc I hop h).b
  | load t x => exact soft_loadB hT I hop h hbs
  | slice t x lo hi mx => exact (soft_slice hT I hop h hg).b
  | fieldAddr t x i => exact (soft_fieldAddr hT I hop h).b
  | field t x i => exact (soft_field hT I hop h).b
  | indexAddr t x i => exact (soft_indexAddr hT I hop h hg).b
  | index t x i => exact (soft_index hT I hop h hg).b
  | extract x i => exact (soft_extract I hop h).b
  | call c => exact (soft_len hT I hop h).b
  | _ => rw [hop] at h; simp [softV] at h
end
end Go.PI
namespace Go.PI

section
variable {W0 : Base} {M : Nat → Prop} {σ : State} {a : Act} {w w' : World} {G : Ghost} {xs : List Nat} {P : Program} {tys : List (TypeId × Ty × List TypeId)}
variable {R : Type} {Γ : Env R} {d : Option Nat} {type : TypeId} {o : Oper} {r : R} {ops : Array Oper} {Q : Exit → Act → World → Prop} {K : Act → World → Prop}

def CalmFor (Γ : Env R) (op : Op) (w : World) (G : Ghost) (w' : World) (G' : Ghost) : Prop := (tameB Γ op = true → Calmer w G w' G') ∧ (halfB Γ op = true → BCalmer w G w' G')
theorem Calmer.all {op : Op} {w w' : World} {G G' : Ghost} (h : Calmer w G w' G') : CalmFor Γ op w G w' G' := ⟨fun _ => h, fun _ => h.b⟩
theorem CalmFor.after {op : Op} {w w' w2 : World} {G G' G2 : Ghost} (h : Calmer w G w' G') (k : CalmFor Γ op w' G' w2 G2) : CalmFor Γ op w G w2 G2 := ⟨fun ht => h.trans (k.1 ht), fun ht => fun u hu => h.b u (k.2 ht u hu)⟩
theorem CalmFor.before {op : Op} {w w' w2 : World} {G G' G2 : Ghost} (k : CalmFor Γ op w G w' G') (h : Calmer w' G' w2 G2) : CalmFor Γ op w G w2 G2 := ⟨fun ht => (k.1 ht).trans h, fun ht => fun u hu => k.2 ht u (h.b u hu)⟩

def CallsOk (P : Program) (Γ : Env R) : Prop :=
  ∀ (W0 : Base) (M : Nat → Prop) (σ : State) (a : Act) (w : World) (G : Ghost) (o : Oper) (c : Call) (f : Operand) (k : TV → State → Option R) (r : R) (K : Act → World → Prop) (Q : Exit → Act → World → Prop),
    Inv W0 M σ a w G [] → o.op = .call c → c.callee = .value f → hardC Γ o.dst o.type σ k o.op = some r →
    (∀ tv σ' v w' G' fp, k tv σ' = some r → Inv W0 M σ' a w' G' (fp ++ []) → SlotRel σ' G' a w' tv v fp → CalmFor Γ o.op w G w' G' → K (a.put o.dst v) w') → o.wp P a w K Q

theorem HardOk.wp {tame : Bool} {σ' : State} {tv : TV} (h : HardOk P W0 M o a w G [] σ' tv tame) (hK : ∀ v w' G' fp, Inv W0 M σ' a w' G' (fp ++ []) → SlotRel σ' G' a w' tv v fp → (tame = true → Calmer w G w' G') → K (a.put o.dst v) w') : o.wp P a w K Q := by
  obtain ⟨v, w', G', fp, n, hrun, hn, I', hs, hc⟩ := h
  unfold Oper.wp
  rw [hrun]
  rcases hn with rfl | ⟨rfl, rfl⟩
  · rw [Oper.upon_value]; exact hK v w' G' fp I' hs hc
  · rw [Oper.upon_skip]; exact hK undef w' G' fp I' hs hc

theorem hard_sound (hT : TysOk P Γ.tys) (hcalls : CallsOk P Γ) (I : Inv W0 M σ a w G []) {k : TV → State → Option R} (h : hardC Γ o.dst o.type σ k o.op = some r)
    (hK : ∀ tv σ' v w' G' fp, k tv σ' = some r → Inv W0 M σ' a w' G' (fp ++ []) → SlotRel σ' G' a w' tv v fp → CalmFor Γ o.op w G w' G' → K (a.put o.dst v) w') : o.wp P a w K Q := by
  have use : ∀ {tame : Bool}, (tameB Γ o.op = true ∨ halfB Γ o.op = true → tame = true) → (∃ tv σ', k tv σ' = some r ∧ HardOk P W0 M o a w G [] σ' tv tame) → o.wp P a w K Q := by
    rintro tame ht ⟨tv, σ', hk, hh⟩
    exact hh.wp fun v w' G' fp I' hs hc => hK tv σ' v w' G' fp hk I' hs ⟨fun h => hc (ht (.inl h)), fun h => (hc (ht (.inr h))).b⟩
  cases hop : o.op with
  | assign x => exact use (fun _ => rfl) (hard_assign I hop h)
  | alloc t => exact use (fun _ => rfl) (hard_alloc hT I hop h)
  | box t x => exact use (fun _ => rfl) (hard_box I hop h)
  | build t ps => exact use (fun _ => rfl) (hard_build hT I hop h)
  | buildSlice t n ps => exact use (fun _ => rfl) (hard_buildSlice hT I hop h)
  | store t y x => exact use (fun ht => by rw [hop] at ht; rcases ht with ht | ht <;> cases ht) (hard_store hT I hop h)
  | convert s t x => exact use (fun _ => rfl) (hard_convert hT I hop h)
  | makeSlice t n c => exact use (fun _ => rfl) (hard_makeSlice hT I hop h)
  | call c =>
    cases hcal : c.callee with
    | builtin b =>
      cases b with
      | append => exact use (fun _ => rfl) (hard_append hT I hop hcal h)
      | _ => rw [hop] at h; simp [hardC, hcal] at h
    | value f => exact hcalls W0 M σ a w G o c f k r K Q I hop hcal h hK
    | invoke a b => rw [hop] at h; simp [hardC, hcal] at h
  | _ => rw [hop] at h; simp [hardC] at h

theorem opC_sound (hT : TysOk P Γ.tys) (hcalls : CallsOk P Γ) (I : Inv W0 M σ a w G []) {k : TV → State → Option R} (h : opC Γ o.dst o.type σ k o.op = some r)
    (hK : ∀ tv σ' v w' G' fp, k tv σ' = some r → Inv W0 M σ' a w' G' (fp ++ []) → SlotRel σ' G' a w' tv v fp → CalmFor Γ o.op w G w' G' → K (a.put o.dst v) w') : o.wp P a w K Q := by
  unfold opC at h
  split at h
  · rename_i g tv hs
    rw [cond_eq_ite] at h
    split at h
    · rename_i hg
      obtain ⟨v, hsl, hrun⟩ := soft_rel hT I hs hg
      unfold Oper.wp
      rw [hrun w ⟨fun _ _ _ _ _ _ _ h => h, fun _ _ _ => rfl⟩, Oper.upon_value]
      exact hK tv σ v w G [] h I hsl (Calmer.refl _ _).all
    · cases h
  · exact hard_sound hT hcalls I h hK

theorem okDst_pin {n np : Nat} {d : Option Nat} {A : Nat → Prop} (hnp : n ≤ np) (hd : okDst np d = true) : ∀ i, d = some i → i < n → A i := by
  intro i hi hlt
  subst hi
  simp only [okDst, decide_eq_true_eq] at hd
  omega

theorem oneC_sound (hT : TysOk P Γ.tys) (hcalls : CallsOk P Γ) (hnp : W0.np ≤ Γ.np) (hd : okDst Γ.np o.dst = true) (I : Inv W0 M σ a w G []) {k : State → Option R} (h : oneC Γ o σ k = some r)
    (hK : ∀ σ' a' w' G', k σ' = some r → Inv W0 M σ' a' w' G' [] → CalmFor Γ o.op w G w' G' → K a' w') : o.wp P a w K Q := by
  have hmove : ∀ {x : Operand} {g : Bool} {tv : TV} {v : Value}, softV Γ.tys σ (.move x) = some (g, tv) → (execOp a.eval o).run P w = .ok (.value (a.eval x)) w → k (σ.puto o.dst tv) = some r → o.wp P a w K Q := by
    intro x g tv v hs hrun hk
    have hs' : softV Γ.tys σ ({ o with op := .move x } : Oper).op = some (g, tv) := hs
    obtain ⟨v, hsl, hr⟩ := soft_move (P := P) (o := { o with op := .move x }) I rfl hs'
    have hr := hr w
    have hv : v = a.eval x := by
      have h2 : (execOp a.eval { o with op := .move x }).run P w = .ok (.value (a.eval x)) w := rfl
      rw [h2] at hr
      simpa using hr.symm
    subst hv
    unfold Oper.wp
    rw [hrun, Oper.upon_value]
    obtain ⟨G', I', hsim⟩ := Inv.puto (fp := []) (xs := []) I (d := o.dst) hsl (okDst_pin hnp hd)
    exact hK _ _ _ _ hk I' hsim.calmer.all
  unfold oneC at h
  split at h
  · rename_i c x y hop
    split at h
    · rename_i t tg hl
      have hb := look_bool I hl
      rw [cond_eq_ite] at h
      split at h
      · rename_i ht
        have ht : t = true := ht
        split at h
        · rename_i g tv hs
          refine hmove (v := undef) hs ?_ h
          rw [exec_with hop]
          simp only [execOp, hb, asBool, Sem.run_bind, Sem.run_pure, Result.andThen_ok]
          rw [ht]; rfl
        · cases h
      · rename_i ht
        have ht : t = false := by simpa using ht
        split at h
        · rename_i g tv hs
          refine hmove (v := undef) hs ?_ h
          rw [exec_with hop]
          simp only [execOp, hb, asBool, Sem.run_bind, Sem.run_pure, Result.andThen_ok]
          rw [ht]; rfl
        · cases h
    · cases h
  · refine opC_sound hT hcalls I h fun tv σ' v w' G' fp hk I' hsl hc => ?_
    obtain ⟨G2, I2, hsim⟩ := Inv.puto (xs := []) I' (d := o.dst) hsl (okDst_pin hnp hd)
    exact hK _ _ _ _ hk I2 (hc.before hsim.calmer)

theorem know_rel (I : Inv W0 M σ a w G xs) {g : Nat} {b : Bool} {tg : List Tag} (h : σ.slot g = .val ⟨.bool, false, b, tg⟩) : ∃ G', Inv W0 M (σ.know g b) a w G' xs ∧ Sim G G' ∧ a.tmps.getD g undef = .bool b := by
  have hcon : σ.content ⟨false, g, []⟩ = some ⟨.bool, false, b, tg⟩ := by simp [State.content, h]
  have hS := I.slot g (slot_lt (by rw [h]; simp))
  rw [h] at hS
  have hv := val_bool hS.1 hS.2
  have hR : Rp w G.F G.St G.Al .bool [] (vCells (a.tmps.getD g undef)) b [] := by
    obtain ⟨h1, _, _⟩ := hS.2
    exact ⟨h1, rfl, rfl⟩
  have hfs : G.fs g = [] := hS.2.2.2
  obtain ⟨G', I', hs⟩ := I.recontent (p := ⟨false, g, []⟩) (c' := scal .bool b) hcon rfl rfl (l := vCells (a.tmps.getD g undef)) (b := none) (f' := []) (fi := []) rfl hR (by simp [Ghost.fpOf, hfs])
  have : σ.setContent ⟨false, g, []⟩ (scal .bool b) = σ.know g b := by
    simp only [State.setContent, h, State.know]
  rw [this] at I'
  exact ⟨G', I', hs, hv⟩

theorem ite_some {A : Type} {c : Bool} {x : Option A} {r : A} : ((if c = true then x else none) = some r) = (c = true ∧ x = some r) := by
  cases c <;> simp

theorem un_unwanted (I : Inv W0 M σ a w G xs) {j g : Nat} {want : Bool} (hsl : σ.slot g = .un) (hg : o.guard = some (j, want)) (hdst : (ops.toList[j]?).bind (·.dst) = some g) : Region.wanted o (yielded ops a.tmps) = false := by
  have hlt : g < a.tmps.size := by rw [I.len]; exact slot_lt (by rw [hsl]; simp)
  have hs := I.slot g (by rw [← I.len]; exact hlt)
  rw [hsl] at hs
  have hget : a.tmps[g]? = some undef := by
    rw [Array.getElem?_eq_getElem hlt]
    have := hs.1
    rw [Array.getD_eq_getD_getElem?, Array.getElem?_eq_getElem hlt] at this
    simpa using this
  have hd : (ops[j]?).bind (·.dst) = some g := by
    rw [← hdst, Array.getElem?_toList]
  simp only [Region.wanted, hg, yielded, hd, Option.bind_some, hget]
  cases want <;> rfl

theorem guardC_sound (hT : TysOk P Γ.tys) (hcalls : CallsOk P Γ) (hnp : W0.np ≤ Γ.np) (I : Inv W0 M σ a w G []) {k : State → Option R} {i : Nat} (ho : ops[i]? = some o) (h : guardC Γ ops.toList o σ k = some r)
    (hK : ∀ σ' a' w' G', k σ' = some r → Inv W0 M σ' a' w' G' [] → CalmFor Γ o.op w G w' G' → K a' w') : wpOp P ops Q i K a w := by
  unfold wpOp
  rw [ho]
  simp only []
  unfold guardC at h
  rw [ite_some] at h
  obtain ⟨hd, h⟩ := h
  split at h
  · rename_i hg
    have : Region.wanted o (yielded ops a.tmps) = true := by simp [Region.wanted, hg]
    rw [if_pos this]
    exact .inl (oneC_sound hT hcalls hnp hd I h hK)
  · rename_i j want hg
    split at h
    · rename_i g hdst
      split at h
      · rename_i b tg hsl
        have hb : ∀ {bb : Bool}, b = bb → ∃ G', Inv W0 M (σ.know g bb) a w G' [] ∧ Sim G G' ∧ Region.wanted o (yielded ops a.tmps) = (bb == want) := by
          rintro bb rfl
          obtain ⟨G', I', hs, hv⟩ := know_rel I hsl
          refine ⟨G', I', hs, ?_⟩
          have hlt : g < a.tmps.size := by rw [I.len]; exact slot_lt (by rw [hsl]; simp)
          have hget : a.tmps[g]? = some (.bool b) := by
            rw [Array.getElem?_eq_getElem hlt]
            rw [Array.getD_eq_getD_getElem?, Array.getElem?_eq_getElem hlt] at hv
            simpa using hv
          have hd : (ops[j]?).bind (·.dst) = some g := by
            rw [← hdst, Array.getElem?_toList]
          simp only [Region.wanted, hg, yielded, hd, Option.bind_some, hget]
          cases b <;> cases want <;> rfl
        have hno : ∀ {bb : Bool} {σ2 : State}, b = bb → (bb == want) = false → k ((σ.know g bb).puto o.dst .un) = some r → (if Region.wanted o (yielded ops a.tmps) = true then o.wp P a w K Q ∨ (o.asks P a w ∧ LetsOut Q) else K (a.put o.dst undef) w) := by
          intro bb σ2 hbb hw hk
          obtain ⟨G', I', hs, hwant⟩ := hb hbb
          rw [hwant, hw]
          simp only [Bool.false_eq_true, if_false]
          obtain ⟨G2, I2, hs2⟩ := Inv.puto (fp := []) (xs := []) I' (d := o.dst) (tv := .un) (v := undef) ⟨rfl, rfl⟩ (okDst_pin hnp hd)
          exact hK _ _ _ _ hk I2 (hs.trans hs2).calmer.all
        have hyes : ∀ {bb : Bool}, b = bb → (bb == want) = true → oneC Γ o (σ.know g bb) k = some r → (if Region.wanted o (yielded ops a.tmps) = true then o.wp P a w K Q ∨ (o.asks P a w ∧ LetsOut Q) else K (a.put o.dst undef) w) := by
          intro bb hbb hw hk
          obtain ⟨G', I', hs, hwant⟩ := hb hbb
          rw [hwant, hw]
          simp only [if_true]
          exact .inl (oneC_sound hT hcalls hnp hd I' hk fun σ' a' w' G'' hk' I'' hc => hK _ _ _ _ hk' I'' (hc.after hs.calmer))
        rw [cond_eq_ite] at h
        split at h
        · rename_i hbt
          split at h
          · rename_i hw; exact hyes (bb := true) hbt (by rw [hw]; rfl) h
          · rename_i hw; exact hno (σ2 := σ) (bb := true) hbt (by simp at hw; rw [hw]; rfl) h
        · rename_i hbt
          have hbf : b = false := by simpa using hbt
          split at h
          · rename_i hw; exact hno (σ2 := σ) (bb := false) hbf (by rw [hw]; rfl) h
          · rename_i hw; exact hyes (bb := false) hbf (by simp at hw; rw [hw]; rfl) h
      · rename_i hsl
        rw [if_neg (by rw [un_unwanted I hsl hg hdst]; simp)]
        obtain ⟨G2, I2, hs2⟩ := Inv.puto (fp := []) (xs := []) I (d := o.dst) (tv := .un) (v := undef) ⟨rfl, rfl⟩ (okDst_pin hnp hd)
        exact hK _ _ _ _ h I2 hs2.calmer.all
      · cases h
    · cases h

theorem runC_sound (hT : TysOk P Γ.tys) (hcalls : CallsOk P Γ) (hnp : W0.np ≤ Γ.np) :
    (l : List Nat) → (σ : State) → (a : Act) → (w : World) → (G : Ghost) → (k : State → Option R) → Inv W0 M σ a w G [] → runC Γ ops.toList l σ k = some r →
    (∀ σ' a' w' G', k σ' = some r → Inv W0 M σ' a' w' G' [] → Q .normal a' w') → wpOps P ops Q l a w
  | [], σ, a, w, G, k, I, h, hK => hK σ a w G h I
  | i :: l, σ, a, w, G, k, I, h, hK => by
    rw [wpOps_cons]
    simp only [runC] at h
    split at h
    · rename_i o ho
      have ho' : ops[i]? = some o := by rw [← Array.getElem?_toList]; exact ho
      exact guardC_sound hT hcalls hnp I ho' h fun σ' a' w' G' hk I' _ => runC_sound hT hcalls hnp l σ' a' w' G' k I' hk hK
    · cases h
end
end Go.PI
namespace Go.PI

section
variable {P : Program} {ops : Array Oper} {Q : Exit → Act → World → Prop} {tame : Bool → Nat → Bool}

def wpT (P : Program) (ops : Array Oper) (Q : Exit → Act → World → Prop) (tame : Bool → Nat → Bool) : Nat → Array Bool → Act → (Bool → World → Prop) → World → Prop
  | 0, listed, a, S, w => Region.ready .any ops listed = [] ∧ Q .normal a w
  | n + 1, listed, a, S, w =>
    (Region.ready .any ops listed = [] → Q .normal a w) ∧
    ∀ i ∈ Region.ready .any ops listed, wpOp P ops Q i (fun a' w' => ∃ S' : Bool → World → Prop, (∀ l, S' l w') ∧ (∀ l, tame l i = true → ∀ u, S' l u → S l u) ∧ wpT P ops Q tame n (listed.setIfInBounds i true) a' S' w') a w

theorem wpT_any : (n : Nat) → (listed : Array Bool) → (a : Act) → (S : Bool → World → Prop) → (w : World) → wpT P ops Q tame n listed a S w → wpAny P .any ops Q n listed a w
  | 0, _, _, _, _, h => h
  | n + 1, _, _, _, _, h => ⟨h.1, fun i hi => wpOp_mono (fun a' w' ⟨S', _, _, h'⟩ => wpT_any n _ a' S' w' h') (h.2 i hi)⟩

theorem yieldsIf_less {S S' : World → Prop} {o : Oper} {v : Value} {a : Act} (h : YieldsIf P ops S o v a) (hs : ∀ w, S' w → S w) : YieldsIf P ops S' o v a :=
  h.imp (fun ⟨h1, h2⟩ => ⟨h1, fun w hw => h2 w (hs w hw)⟩) id

theorem wpT_first {l : Bool} {i : Nat} {oi : Oper} {v : Value} (hi : ops[i]? = some oi) (hsel : ∀ (j : Nat) (o : Oper) cs b, ops[j]? = some o → o.op ≠ .select cs b)
    (hQ : ∀ c a w, Q (.panic c) (a.put oi.dst v) w → Q (.panic c) a w) :
    ∀ (fuel : Nat) (listed : Array Bool) (a : Act) (S : Bool → World → Prop) (w : World),
      (∀ j oj, ops[j]? = some oj → j ≠ i → listed.getD j true = false → (∀ e ∈ oj.after, Region.binds .any e = true → e.on ≠ i) → oi.apart ops oj = true ∧ tame l j = true) →
      i ∈ Region.ready .any ops listed → YieldsIf P ops (S l) oi v a → (∀ l, S l w) →
      wpT P ops Q tame fuel (listed.setIfInBounds i true) (a.put oi.dst v) S w → wpT P ops Q tame (fuel + 1) listed a S w := by
  intro fuel
  induction fuel with
  | zero =>
    intro listed a S w _ hr hy hS H
    refine ⟨fun h => (by rw [h] at hr; cases hr), fun j hj => ?_⟩
    by_cases hji : j = i
    · subst hji; exact hy.wpOp hi (hS l) ⟨S, hS, fun _ _ _ h => h, H⟩
    · have := ready_mono hj hji
      rw [H.1] at this
      cases this
  | succ fuel ih =>
    intro listed a S w hfree hr hy hS H
    refine ⟨fun h => (by rw [h] at hr; cases hr), fun j hj => ?_⟩
    by_cases hji : j = i
    · subst hji; exact hy.wpOp hi (hS l) ⟨S, hS, fun _ _ _ h => h, H⟩
    · have h1 := H.2 j (ready_mono hj hji)
      obtain ⟨hjun, oj, hoj, hall⟩ := mem_ready.1 hj
      have hnot : ∀ e ∈ oj.after, Region.binds .any e = true → e.on ≠ i := fun e he hb heq => by
        have h1 := hall e he hb
        have h0 := (mem_ready.1 hr).1
        rw [heq] at h1
        rcases Nat.lt_or_ge i listed.size with h' | h'
        · simp [h'] at h0 h1; rw [h0] at h1; cases h1
        · simp [Array.getElem?_eq_none h'] at h1
      obtain ⟨hap, htj⟩ := hfree j oj hoj hji hjun hnot
      have h2 := wpOp_putIf hoj hap (fun cs b => hsel i oi cs b hi) (fun cs b => hsel j oj cs b hoj) hQ hy h1
      have hfree' : ∀ k ok, ops[k]? = some ok → k ≠ i → (listed.setIfInBounds j true).getD k true = false →
          (∀ e ∈ ok.after, Region.binds .any e = true → e.on ≠ i) → oi.apart ops ok = true ∧ tame l k = true := fun k ok hk hki hun hno => by
        refine hfree k ok hk hki ?_ hno
        by_cases hjk : j = k
        · subst hjk; exact hjun
        · rw [getD_set_ne true hjk] at hun; exact hun
      refine wpOp_mono (fun a' w' h3 => ?_) h2
      obtain ⟨hy', S', hS', hsub, h4⟩ := h3
      refine ⟨S', hS', hsub, ih (listed.setIfInBounds j true) a' S' w' hfree' (ready_mono hr (Ne.symm hji)) (yieldsIf_less hy' (hsub l htj)) hS' ?_⟩
      rw [Array.setIfInBounds_comm _ _ hji]
      exact h4
end

section
variable {W0 : Base} {M : Nat → Prop} {σ : State} {a : Act} {w w' : World} {G : Ghost} {xs : List Nat} {P : Program} {tys : List (TypeId × Ty × List TypeId)}
variable {R : Type} {Γ : Env R} {d : Option Nat} {type : TypeId} {o : Oper} {r : R} {ops : Array Oper} {Q : Exit → Act → World → Prop} {K : Act → World → Prop}

theorem soft_not_hard {op : Op} (h : softB Γ.tys op = true) {k : TV → State → Option R} (hs : softV Γ.tys σ op = none) : hardC Γ d type σ k op = none := by
  cases op <;> simp only [softB] at h <;> try (first | (cases h; done) | (simp only [hardC]; done))
  case convert s t x =>
    simp only [hardC]
    split
    · rfl
    · split
      · rename_i ht _
        rw [ht] at h; cases h
      · rfl
  case call c =>
    simp only [hardC]
    split at h
    · rename_i hc; simp [hc]
    · rename_i hc; simp [hc]
    · rename_i hc; simp [hc]
    · cases h

def CalmL (l : Bool) (w : World) (G : Ghost) (w2 : World) : Prop := match l with
  | false => Calm w G w2
  | true => BCalm w G w2
theorem CalmL.refl (l : Bool) (w : World) (G : Ghost) : CalmL l w G w := by
  cases l
  · exact ⟨fun _ _ _ _ _ _ _ h => h, fun _ _ _ => rfl⟩
  · exact fun _ _ _ => rfl
theorem CalmL.sim {l : Bool} {w w2 : World} {G G1 : Ghost} (hs1 : Sim G G1) (hc : CalmL l w G w2) : CalmL l w G1 w2 := by
  cases l
  · exact ⟨fun b hb ha o n cs hn h1 => hc.1 b hb (by rw [← hs1.Al]; exact ha) o n cs (by rw [← hs1.F]; exact hn) h1, fun i b hb => hc.2 i b ((hs1.bx b i).1 hb)⟩
  · exact fun i b hb => hc i b ((hs1.bx b i).1 hb)
theorem CalmL.of_sim {l : Bool} {w w2 : World} {G G1 : Ghost} (hs1 : Sim G G1) (hc : CalmL l w G1 w2) : CalmL l w G w2 := by
  cases l
  · exact hs1.calmer.a _ hc
  · exact hs1.calmer.b _ hc
theorem peek_const (σ : State) {σ' : State} {v : Value} : σ'.peek (.const v) = σ.peek (.const v) := by
  cases v with
  | slice a n c => cases a <;> cases n <;> cases c <;> rfl
  | _ => rfl
theorem bsoft_know {σ : State} {g : Nat} {b b' : Bool} {tg : List Tag} {op : Op} (hsl : σ.slot g = .val ⟨.bool, false, b, tg⟩) (h : bsoft σ op = true) : bsoft (σ.know g b') op = true := by
  cases op <;> first | rfl | exact h | skip
  case convert s t x =>
    simp only [bsoft] at h ⊢
    cases x with
    | tmp t =>
      by_cases ht : t = g
      · subst ht
        simp only [State.peek, hsl] at h
        by_cases htg : (TVal.anyOwn ⟨.bool, false, b, tg⟩) = true
        · rw [if_pos htg] at h; cases h
        · rw [if_neg htg] at h; cases h
      · have : (σ.know g b').slot t = σ.slot t := by
          show getN .dead (setN σ.slots g _) t = _
          rw [getN_setN, if_neg (fun h => ht h.1.symm)]
          rfl
        simp only [State.peek] at h ⊢
        rw [this]
        exact h
    | const v => rw [peek_const σ]; exact h
    | _ => exact h
  case load t x =>
    simp only [bsoft] at h ⊢
    cases x with
    | tmp t =>
      by_cases ht : t = g
      · subst ht
        simp only [State.peek, hsl] at h
        by_cases htg : (TVal.anyOwn ⟨.bool, false, b, tg⟩) = true
        · rw [if_pos htg] at h; cases h
        · rw [if_neg htg] at h; cases h
      · have : (σ.know g b').slot t = σ.slot t := by
          show getN .dead (setN σ.slots g _) t = _
          rw [getN_setN, if_neg (fun h => ht h.1.symm)]
          rfl
        simp only [State.peek] at h ⊢
        rw [this]
        exact h
    | const v => rw [peek_const σ]; exact h
    | _ => exact h

theorem soft_yields {l : Bool} (hT : TysOk P Γ.tys) (hnp : W0.np ≤ Γ.np) (I : Inv W0 M σ a w G []) {k : State → Option R} {i : Nat} (ho : ops[i]? = some o) (hsoft : softOrPick Γ.tys o.op = true) (hlv : l = true → bsoft σ o.op = true) (h : guardC Γ ops.toList o σ k = some r) :
    ∃ v σ' G', YieldsIf P ops (CalmL l w G) o v a ∧ k σ' = some r ∧ Inv W0 M σ' (a.put o.dst v) w G' [] ∧ Sim G G' := by
  unfold guardC at h
  rw [ite_some] at h
  obtain ⟨hd, h⟩ := h
  have one : ∀ {σ1 : State} {G1 : Ghost}, (l = true → bsoft σ1 o.op = true) → Inv W0 M σ1 a w G1 [] → Sim G G1 → oneC Γ o σ1 k = some r →
      ∃ v σ' G', (∀ w2, CalmL l w G w2 → (execOp a.eval o).run P w2 = .ok (.value v) w2) ∧ k σ' = some r ∧ Inv W0 M σ' (a.put o.dst v) w G' [] ∧ Sim G G' := by
    intro σ1 G1 hlv I1 hs1 h1
    have hcalm : ∀ w2, CalmL l w G w2 → CalmL l w G1 w2 := fun w2 hc => hc.sim hs1
    have fin : ∀ {tv : TV} {v : Value}, SlotRel σ1 G1 a w tv v [] → (∀ w2, CalmL l w G1 w2 → (execOp a.eval o).run P w2 = .ok (.value v) w2) → k (σ1.puto o.dst tv) = some r →
        ∃ v σ' G', (∀ w2, CalmL l w G w2 → (execOp a.eval o).run P w2 = .ok (.value v) w2) ∧ k σ' = some r ∧ Inv W0 M σ' (a.put o.dst v) w G' [] ∧ Sim G G' := by
      intro tv v hsl hrun hk
      obtain ⟨G2, I2, hs2⟩ := Inv.puto (fp := []) (xs := []) I1 (d := o.dst) hsl (okDst_pin hnp hd)
      exact ⟨v, _, G2, fun w2 hc => hrun w2 (hcalm w2 hc), hk, I2, hs1.trans hs2⟩
    unfold oneC at h1
    split at h1
    · rename_i c x y hop
      have hmv : ∀ {z : Operand} {g : Bool} {tv : TV}, softV Γ.tys σ1 (.move z) = some (g, tv) → SlotRel σ1 G1 a w tv (a.eval z) [] := by
        intro z g tv hs
        obtain ⟨v, hsl, hr⟩ := soft_move (P := P) (o := { o with op := .move z }) I1 rfl (show softV Γ.tys σ1 ({ o with op := .move z } : Oper).op = some (g, tv) from hs)
        have hr := hr w
        have h2 : (execOp a.eval { o with op := .move z }).run P w = .ok (.value (a.eval z)) w := rfl
        rw [h2] at hr
        have : a.eval z = v := by simpa using hr
        rw [this]; exact hsl
      split at h1
      · rename_i t tg hl
        have hb := look_bool I1 hl
        rw [cond_eq_ite] at h1
        split at h1
        · rename_i ht
          have ht : t = true := ht
          split at h1
          · rename_i g tv hs
            refine fin (hmv hs) (fun w2 _ => ?_) h1
            rw [exec_with hop]
            simp only [execOp, hb, asBool, Sem.run_bind, Sem.run_pure, Result.andThen_ok]
            rw [ht]; rfl
          · cases h1
        · rename_i ht
          have ht : t = false := by simpa using ht
          split at h1
          · rename_i g tv hs
            refine fin (hmv hs) (fun w2 _ => ?_) h1
            rw [exec_with hop]
            simp only [execOp, hb, asBool, Sem.run_bind, Sem.run_pure, Result.andThen_ok]
            rw [ht]; rfl
          · cases h1
      · cases h1
    · rename_i hnp
      have hsb : softB Γ.tys o.op = true := by
        cases hop : o.op with
        | pick c x y => exact absurd hop (hnp c x y)
        | _ => rw [hop] at hsoft; exact hsoft
      unfold opC at h1
      split at h1
      · rename_i g tv hs
        rw [cond_eq_ite] at h1
        split at h1
        · rename_i hg
          have hboth : ∃ v, SlotRel σ1 G1 a w tv v [] ∧ ∀ w2, CalmL l w G1 w2 → (execOp a.eval o).run P w2 = .ok (.value v) w2 := by
            cases l
            · exact soft_rel hT I1 hs hg
            · exact soft_relB hT I1 hs hg (hlv rfl)
          obtain ⟨v, hsl, hrun⟩ := hboth
          exact fin hsl hrun h1
        · cases h1
      · rename_i hs
        rw [soft_not_hard hsb hs] at h1
        cases h1
  split at h
  · rename_i hg
    have hw : Region.wanted o (yielded ops a.tmps) = true := by simp [Region.wanted, hg]
    obtain ⟨v, σ', G', h1, h2, h3, h4⟩ := one hlv I (Sim.refl _) h
    exact ⟨v, σ', G', .inl ⟨hw, h1⟩, h2, h3, h4⟩
  · rename_i j want hg
    split at h
    · rename_i g hdst
      split at h
      · rename_i b tg hsl
        obtain ⟨G1, I1, hs1, hv⟩ := know_rel I hsl
        have hwant : Region.wanted o (yielded ops a.tmps) = (b == want) := by
          have hlt : g < a.tmps.size := by rw [I.len]; exact slot_lt (by rw [hsl]; simp)
          have hget : a.tmps[g]? = some (.bool b) := by
            rw [Array.getElem?_eq_getElem hlt]
            rw [Array.getD_eq_getD_getElem?, Array.getElem?_eq_getElem hlt] at hv
            simpa using hv
          have hd : (ops[j]?).bind (·.dst) = some g := by rw [← hdst, Array.getElem?_toList]
          simp only [Region.wanted, hg, yielded, hd, Option.bind_some, hget]
          cases b <;> cases want <;> rfl
        have hyes : (b == want) = true → oneC Γ o (σ.know g b) k = some r → ∃ v σ' G', YieldsIf P ops (CalmL l w G) o v a ∧ k σ' = some r ∧ Inv W0 M σ' (a.put o.dst v) w G' [] ∧ Sim G G' := by
          intro hw hk
          obtain ⟨v, σ', G', h1, h2, h3, h4⟩ := one (fun hl => bsoft_know hsl (hlv hl)) I1 hs1 hk
          exact ⟨v, σ', G', .inl ⟨by rw [hwant]; exact hw, h1⟩, h2, h3, h4⟩
        have hno : (b == want) = false → k ((σ.know g b).puto o.dst .un) = some r → ∃ v σ' G', YieldsIf P ops (CalmL l w G) o v a ∧ k σ' = some r ∧ Inv W0 M σ' (a.put o.dst v) w G' [] ∧ Sim G G' := by
          intro hw hk
          obtain ⟨G2, I2, hs2⟩ := Inv.puto (fp := []) (xs := []) I1 (d := o.dst) (tv := .un) (v := undef) ⟨rfl, rfl⟩ (okDst_pin hnp hd)
          exact ⟨undef, _, G2, .inr ⟨by rw [hwant]; exact hw, rfl⟩, hk, I2, hs1.trans hs2⟩
        rw [cond_eq_ite] at h
        split at h
        · rename_i hbt
          have hbt : b = true := hbt
          subst hbt
          split at h
          · rename_i hw; exact hyes (by rw [hw]; rfl) h
          · rename_i hw; exact hno (by simp at hw; rw [hw]; rfl) h
        · rename_i hbt
          have hbf : b = false := by simpa using hbt
          subst hbf
          split at h
          · rename_i hw; exact hno (by rw [hw]; rfl) h
          · rename_i hw; exact hyes (by simp at hw; rw [hw]; rfl) h
      · rename_i hsl
        obtain ⟨G2, I2, hs2⟩ := Inv.puto (fp := []) (xs := []) I (d := o.dst) (tv := .un) (v := undef) ⟨rfl, rfl⟩ (okDst_pin hnp hd)
        exact ⟨undef, _, G2, .inr ⟨un_unwanted I hsl hg hdst, rfl⟩, h, I2, hs2⟩
      · cases h
    · cases h

def tameL (Γ : Env R) (ops : Array Oper) (l : Bool) (i : Nat) : Bool := match ops[i]? with | some o => (match l with | false => tameB Γ o.op | true => halfB Γ o.op) | none => true

theorem soft_tame {op : Op} (h : softOrPick Γ.tys op = true) : tameB Γ op = true := by
  cases op <;> simp only [softOrPick, softB] at h <;> try (first | rfl | (cases h; done))
  case call c =>
    simp only [tameB]
    split at h <;> first | (rename_i hc; rw [hc]) | cases h

theorem both_some {x y : Option R} (h : both x y = some r) : (∃ r', x = some r') ∧ y = some r := by
  unfold both at h
  split at h
  · exact ⟨⟨_, rfl⟩, h⟩
  · cases h

theorem alt_sound [Subsingleton R] {f : Nat → Option Plan} {k : State → Option R} : (l : List Nat) → (p : Plan) → altC f l = some p → l ≠ [] → runP Γ ops.toList p σ k = some r →
    ∀ j ∈ l, ∃ q, f j = some q ∧ runP Γ ops.toList (.go j q) σ k = some r
  | [], p, h, hne, _ => absurd rfl hne
  | [i], p, h, _, hr => by
    obtain ⟨q, hq, rfl⟩ := Option.map_eq_some_iff.1 h
    intro j hj
    have : j = i := by simpa using hj
    subst this
    exact ⟨q, hq, hr⟩
  | i :: i2 :: l, p, h, _, hr => by
    simp only [altC] at h
    split at h
    · rename_i p1 q1 hp1 hq1
      cases h
      simp only [runP] at hr
      split at hr
      · rename_i o ho
        obtain ⟨⟨r', h1⟩, h2⟩ := both_some hr
        have hrr : r' = r := Subsingleton.elim _ _
        rw [hrr] at h1
        intro j hj
        rcases List.mem_cons.1 hj with rfl | hj
        · refine ⟨p1, hp1, ?_⟩
          simp only [runP, ho]
          exact h1
        · exact alt_sound (i2 :: l) q1 hq1 (by simp) h2 j hj
      · cases hr
    · cases h

theorem plan_sound [Subsingleton R] (hT : TysOk P Γ.tys) (hcalls : CallsOk P Γ) (hnp : W0.np ≤ Γ.np) (hsel : Region.noSelect ops = true) (hQ : ∀ c d v a w, Q (.panic c) (Act.put a d v) w → Q (.panic c) a w) :
    (n : Nat) → (listed : Array Bool) → (l : Plan) → (σ : State) → (a : Act) → (w : World) → (G : Ghost) → (k : State → Option R) → planC Γ ops n listed = some l → Inv W0 M σ a w G [] → runP Γ ops.toList l σ k = some r →
    (∀ σ' a' w' G', k σ' = some r → Inv W0 M σ' a' w' G' [] → Q .normal a' w') → wpT P ops Q (tameL Γ ops) n listed a (fun l => CalmL l w G) w
  | 0, listed, l, σ, a, w, G, k, hp, I, h, hK => by
    simp only [planC] at hp
    split at hp
    · rename_i hr
      cases hp
      exact ⟨by simpa using hr, hK σ a w G h I⟩
    · cases hp
  | n + 1, listed, l, σ, a, w, G, k, hp, I, h, hK => by
    have first : ∀ {lv : Bool} {i : Nat} {l' : Plan} {o : Oper}, ops[i]? = some o → softOrPick Γ.tys o.op = true → Region.free .any ops listed i = true →
        (∀ j oj, ops[j]? = some oj → j ≠ i → listed.getD j true = false → oj.after.any (fun e => Region.binds .any e && e.on == i) = true ∨ tameL Γ ops lv j = true) → (lv = true → bsoft σ o.op = true) →
        i ∈ Region.ready .any ops listed → planC Γ ops n (listed.setIfInBounds i true) = some l' → guardC Γ ops.toList o σ (fun σ' => runP Γ ops.toList l' σ' k) = some r →
        wpT P ops Q (tameL Γ ops) (n + 1) listed a (fun l => CalmL l w G) w := by
      intro lv i l' o hoi hsoft hfree hall hlv hmem hl' h
      obtain ⟨v, σ', G', hy, hk, I', hs⟩ := soft_yields (l := lv) hT hnp I hoi hsoft hlv h
      have ih := plan_sound hT hcalls hnp hsel hQ n _ l' σ' _ w G' k hl' I' hk hK
      have hS : ∀ {m : Nat} {ls : Array Bool} {b : Act}, wpT P ops Q (tameL Γ ops) m ls b (fun l => CalmL l w G') w → wpT P ops Q (tameL Γ ops) m ls b (fun l => CalmL l w G) w := by
        intro m ls b hh
        cases m with
        | zero => exact hh
        | succ m => exact ⟨hh.1, fun i hi => wpOp_mono (fun a' w' ⟨S', q1, q2, q3⟩ => ⟨S', q1, fun l ht u hu => CalmL.of_sim hs (q2 l ht u hu), q3⟩) (hh.2 i hi)⟩
      refine wpT_first (l := lv) hoi (Region.noSelect_spec hsel) (fun c a w => hQ c _ _ a w) n listed a (fun l => CalmL l w G) w (fun j oj hoj hne hun hno => ?_) hmem hy (fun _ => CalmL.refl _ _ _) (hS ih)
      refine ⟨Region.free_spec hoi hfree j oj hoj hne hun hno, ?_⟩
      rcases hall j oj hoj hne hun with h1 | h1
      · obtain ⟨e, he, hb⟩ := Array.any_eq_true'.1 h1
        simp only [Bool.and_eq_true, beq_iff_eq] at hb
        exact absurd hb.2 (hno e he hb.1)
      · exact h1
    simp only [planC] at hp
    split at hp
    · rename_i i hfind
      obtain ⟨l', hl', rfl⟩ := Option.map_eq_some_iff.1 hp
      have hmem := List.mem_of_find?_eq_some hfind
      have hprop := List.find?_some hfind
      simp only [runP] at h
      cases hoi : ops[i]? with
      | none => rw [hoi] at hprop; cases hprop
      | some o =>
        rw [hoi] at hprop
        simp only [Bool.and_eq_true] at hprop
        obtain ⟨⟨hsoft, hfree⟩, hall⟩ := hprop
        have ho' : ops.toList[i]? = some o := by rw [Array.getElem?_toList]; exact hoi
        rw [ho'] at h
        simp only [] at h
        refine first (lv := false) hoi hsoft hfree (fun j oj hoj hne hun => ?_) (fun h => by cases h) hmem hl' h
        rw [List.all_eq_true] at hall
        have := hall j (by simpa using (Array.getElem?_eq_some_iff.1 hoj).1)
        simp only [hoj, Bool.or_eq_true, beq_iff_eq, hne, false_or, hun, Bool.false_eq_true] at this
        exact this.imp id fun h1 => by simp only [tameL, hoj]; exact h1
    · split at hp
      · rename_i i hfind
        obtain ⟨l', hl', rfl⟩ := Option.map_eq_some_iff.1 hp
        have hmem := List.mem_of_find?_eq_some hfind
        have hprop := List.find?_some hfind
        simp only [runP] at h
        cases hoi : ops[i]? with
        | none => rw [hoi] at hprop; cases hprop
        | some o =>
          rw [hoi] at hprop
          simp only [Bool.and_eq_true] at hprop
          obtain ⟨⟨hsoft, hfree⟩, hall⟩ := hprop
          have ho' : ops.toList[i]? = some o := by rw [Array.getElem?_toList]; exact hoi
          rw [ho'] at h
          simp only [] at h
          rw [cond_eq_ite, ite_some] at h
          obtain ⟨hbs, h⟩ := h
          refine first (lv := true) hoi hsoft hfree (fun j oj hoj hne hun => ?_) (fun _ => hbs) hmem hl' h
          rw [List.all_eq_true] at hall
          have := hall j (by simpa using (Array.getElem?_eq_some_iff.1 hoj).1)
          simp only [hoj, Bool.or_eq_true, beq_iff_eq, hne, false_or, hun, Bool.false_eq_true] at this
          exact this.imp id fun h1 => by simp only [tameL, hoj]; exact h1
      · by_cases hne : Region.ready .any ops listed = []
        · rw [hne] at hp
          simp only [altC, Option.some.injEq] at hp
          subst hp
          refine ⟨fun _ => hK σ a w G h I, fun j hj => ?_⟩
          rw [hne] at hj; cases hj
        · refine ⟨fun h0 => absurd h0 hne, fun j hj => ?_⟩
          obtain ⟨q, hq, hr⟩ := alt_sound _ _ hp hne h j hj
          simp only [runP] at hr
          split at hr
          · rename_i o ho
            have hoi : ops[j]? = some o := by rw [← Array.getElem?_toList]; exact ho
            refine guardC_sound hT hcalls hnp I hoi hr fun σ' a' w' G' hk I' hc => ?_
            refine ⟨fun l => CalmL l w' G', fun _ => CalmL.refl _ _ _, fun l ht u hu => ?_, plan_sound hT hcalls hnp hsel hQ n _ q σ' a' w' G' k hq I' hk hK⟩
            cases l
            · exact (hc.1 (by simpa only [tameL, hoi] using ht)).a u hu
            · exact hc.2 (by simpa only [tameL, hoi] using ht) u hu
          · cases hr

theorem Inv.drawn (I : Inv W0 M σ a w G xs) (n : Nat) : Inv W0 M σ a { w with drawn := n } G xs :=
  I.world (w' := { w with drawn := n }) (G' := G) ⟨rfl, rfl, rfl, fun _ _ h _ => h, fun _ _ h => h, fun _ h => h, fun b _ => KeepB.of_block rfl (Nat.le_refl _), fun b _ _ _ _ => ⟨KeepB.of_block rfl (Nat.le_refl _), rfl⟩, fun _ _ _ => rfl, .inr fun b _ _ => KeepB.of_block rfl (Nat.le_refl _)⟩
    I.st I.lt ⟨I.ext.os, I.ext.tape, I.ext.output, I.ext.size, I.ext.block⟩ I.whoX I.nodX I.org
end
end Go.PI
namespace Go.PI

def Ex.out : Ex → Exit
  | .normal => .normal
  | .exit id => .exit id
  | .ret => .ret

theorem getN_keepSlots (ks : List Nat) : (l : List TV) → (i j : Nat) → getN .dead (keepSlots ks i l) j = getN .dead l j ∨ getN .dead (keepSlots ks i l) j = .dead
  | [], _, _ => .inl rfl
  | tv :: l, i, 0 => by
    simp only [keepSlots, getN]
    split
    · exact .inl rfl
    · exact .inr rfl
  | tv :: l, i, j + 1 => getN_keepSlots ks l (i + 1) j
theorem keepSlots_len (ks : List Nat) : (l : List TV) → (i : Nat) → (keepSlots ks i l).length = l.length
  | [], _ => rfl
  | tv :: l, i => by simp only [keepSlots, List.length_cons, keepSlots_len ks l (i + 1)]
theorem getN_keepBoxes (ks : List Nat) : (l : List (Option TVal)) → (i j : Nat) → getN none (keepBoxes ks i l) j = getN none l j ∨ getN none (keepBoxes ks i l) j = none
  | [], _, _ => .inl rfl
  | tv :: l, i, 0 => by
    simp only [keepBoxes, getN]
    split
    · exact .inl rfl
    · exact .inr rfl
  | tv :: l, i, j + 1 => getN_keepBoxes ks l (i + 1) j

section
variable {W0 : Base} {M : Nat → Prop} {σ : State} {a : Act} {w w' : World} {G : Ghost} {xs : List Nat} {P : Program} {tys : List (TypeId × Ty × List TypeId)}
variable {R : Type} {Γ : Env R} {r : R}

theorem Inv.forget (I : Inv W0 M σ a w G xs) (ks bs : List Nat) : ∃ G', Inv W0 M (σ.forget ks bs) a w G' xs := by
  obtain ⟨fs, I', _⟩ := I.drop (σ' := σ.forget ks bs) (keepSlots_len _ _ _) (fun i => getN_keepSlots ks σ.slots 0 i) (fun i => getN_keepBoxes bs σ.boxes 0 i)
  exact ⟨_, I'⟩

def CodeOk (P : Program) (W0 : Base) (M : Nat → Prop) (c : Code) (run : State → (Ex → State → Option R) → Option R) : Prop :=
  ∀ (σ : State) (a : Act) (w : World) (G : Ghost) (k : Ex → State → Option R) (r : R) (Q : Exit → Act → World → Prop), (∀ c a w, ¬ Q (.panic c) a w) → Inv W0 M σ a w G [] → run σ k = some r →
    (∀ e σ' a' w' G', k e σ' = some r → Inv W0 M σ' a' w' G' [] → Q e.out a' w') → c.wp P Q a w

theorem loop_sound {c : Code} {body : Node R} (hc : CodeOk P W0 M c body) {fN : State → State} {fX : Ex → State → State}
    (hN : ∀ σ a w G, Inv W0 M σ a w G [] → ∃ G', Inv W0 M (fN σ) a w G' []) (hX : ∀ e σ a w G, Inv W0 M σ a w G [] → ∃ G', Inv W0 M (fX e σ) a w G' []) (fuel : Nat) : CodeOk P W0 M (.loop c) (loopC body fN fX fuel) := by
  intro σ a w G k r Q hQ I hr hk
  refine wp_loop_ghost (fun n a w => ∃ σ G, Inv W0 M σ a w G [] ∧ loopC body fN fX n σ k = some r) fuel ⟨σ, G, I, hr⟩ ?_
  rintro n a w ⟨σ, G, I, hr⟩
  cases n with
  | zero => cases hr
  | succ n =>
    refine hc σ a w G _ r _ ?_ I hr ?_
    · intro ch a w h; exact hQ ch a w h
    · intro e σ' a' w' G' he I'
      cases e with
      | normal =>
        obtain ⟨G2, I2⟩ := hN _ _ _ _ I'
        exact ⟨n, Nat.lt_succ_self n, _, G2, I2, he⟩
      | exit id =>
        obtain ⟨G2, I2⟩ := hX _ _ _ _ _ I'
        exact hk (.exit id) _ _ _ _ he I2
      | ret =>
        obtain ⟨G2, I2⟩ := hX _ _ _ _ _ I'
        exact hk .ret _ _ _ _ he I2

def _root_.Go.Code.pl : Code → Code
  | .seq a _ => a
  | .cond _ a _ => a
  | .block _ c => c
  | .scope c => c
  | .loop c => c
  | c => c
def _root_.Go.Code.pr : Code → Code
  | .seq _ b => b
  | .cond _ _ b => b
  | c => c

def OrOk (P : Program) (np : Nat) (X : List (Node R)) : HT → Code → Prop
  | .o, _ => True
  | .x i, c => ∀ (W0 : Base) (M : Nat → Prop), W0.np ≤ np → CodeOk P W0 M c (getN (fun _ _ => none) X i)
  | .t a b, c => OrOk P np X a c.pl ∧ OrOk P np X b c.pr

theorem OrOk.pl {np : Nat} {X : List (Node R)} {h : HT} {c : Code} (hx : ∀ i, h ≠ .x i) (H : OrOk P np X h c) : OrOk P np X h.l c.pl := by
  cases h with
  | o => trivial
  | x i => exact absurd rfl (hx i)
  | t a b => exact H.1
theorem OrOk.pr {np : Nat} {X : List (Node R)} {h : HT} {c : Code} (hx : ∀ i, h ≠ .x i) (H : OrOk P np X h c) : OrOk P np X h.r c.pr := by
  cases h with
  | o => trivial
  | x i => exact absurd rfl (hx i)
  | t a b => exact H.2

theorem codeC_x (X : List (Node R)) (i : Nat) (c : Code) : codeC Γ X (.x i) c = fun σ k => getN (fun _ _ => none) X i σ k := by
  cases c <;> rfl

theorem code_sound [Subsingleton R] (hm : P.follows .mixedOrders = true) (hT : TysOk P Γ.tys) (hcalls : CallsOk P Γ) (hnp : W0.np ≤ Γ.np) (X : List (Node R)) : (c : Code) → (ht : HT) → OrOk P Γ.np X ht c → CodeOk P W0 M c (codeC Γ X ht c) := by
  intro c
  induction c with
  | skip =>
    intro ht H
    by_cases hx : ∃ i, ht = .x i
    · obtain ⟨i, rfl⟩ := hx; rw [codeC_x]; exact H W0 M hnp
    · intro σ a w G k r Q hQ I h hk
      replace h : k .normal σ = some r := by cases ht <;> first | exact h | exact absurd ⟨_, rfl⟩ hx
      exact wp_skip (hk .normal σ a w G h I)
  | region id ops draw =>
    intro ht H
    by_cases hx : ∃ i, ht = .x i
    · obtain ⟨i, rfl⟩ := hx; rw [codeC_x]; exact H W0 M hnp
    · intro σ a w G k r Q hQ I h hk
      replace h : (if draw then
          (match (if Region.noSelect ops then planC Γ ops ops.size (Array.replicate ops.size false) else none) with
           | some l => runP Γ ops.toList l σ fun σ' => k .normal σ'
           | none => none)
        else runC Γ ops.toList (List.range ops.size) σ fun σ' => k .normal σ') = some r := by cases ht <;> first | exact h | exact absurd ⟨_, rfl⟩ hx
      cases draw with
      | false =>
        simp only [Bool.false_eq_true, if_false] at h
        exact wp_region (runC_sound hT hcalls hnp _ σ a w G _ I h fun σ' a' w' G' hk' I' => hk .normal σ' a' w' G' hk' I')
      | true =>
        simp only [if_true] at h
        split at h
        · rename_i l hl
          split at hl
          · rename_i hsel
            have I1 := I.drawn (w.drawn + 1)
            refine wp_region_any hm (wpT_any _ _ _ _ _ (plan_sound hT hcalls hnp hsel (fun c d v a w h => absurd h (hQ c _ w)) _ _ l σ a { w with drawn := w.drawn + 1 } G _ hl I1 h fun σ' a' w' G' hk' I' => hk .normal σ' a' w' G' hk' I'))
          · cases hl
        · cases h
  | seq x y ihx ihy =>
    intro ht H
    by_cases hx : ∃ i, ht = .x i
    · obtain ⟨i, rfl⟩ := hx; rw [codeC_x]; exact H W0 M hnp
    · have hx' : ∀ i, ht ≠ .x i := fun i hi => hx ⟨i, hi⟩
      intro σ a w G k r Q hQ I h hk
      replace h : (codeC Γ X ht.l x σ fun e σ' => match e with
        | .normal => codeC Γ X ht.r y σ' k
        | e => k e σ') = some r := by cases ht <;> first | exact h | exact absurd ⟨_, rfl⟩ hx
      refine wp_seq (ihx ht.l (H.pl hx') σ a w G _ r _ (fun c a w hh => hQ c a w hh) I h fun e σ' a' w' G' he I' => ?_)
      cases e with
      | normal => exact ihy ht.r (H.pr hx') σ' a' w' G' k r Q hQ I' he hk
      | exit id => exact hk (.exit id) σ' a' w' G' he I'
      | ret => exact hk .ret σ' a' w' G' he I'
  | cond o x y ihx ihy =>
    intro ht H
    by_cases hx : ∃ i, ht = .x i
    · obtain ⟨i, rfl⟩ := hx; rw [codeC_x]; exact H W0 M hnp
    · have hx' : ∀ i, ht ≠ .x i := fun i hi => hx ⟨i, hi⟩
      intro σ a w G k r Q hQ I h hk
      cases o with
      | tmp t =>
        replace h : (match σ.slot t with
          | .val ⟨.bool, false, x0, _⟩ => bif x0 then codeC Γ X ht.l x (σ.know t true) k else codeC Γ X ht.r y (σ.know t false) k
          | _ => none) = some r := by cases ht <;> first | exact h | exact absurd ⟨_, rfl⟩ hx
        split at h
        · rename_i b tg hsl
          obtain ⟨G', I', _, hv⟩ := know_rel I hsl
          have hev : a.eval (.tmp t) = .bool b := hv
          rw [cond_eq_ite] at h
          split at h
          · rename_i hb
            have hb : b = true := hb
            subst hb
            exact wp_cond_true hev (ihx ht.l (H.pl hx') _ a w G' k r Q hQ I' h hk)
          · rename_i hb
            have hb : b = false := by simpa using hb
            subst hb
            exact wp_cond_false hev (ihy ht.r (H.pr hx') _ a w G' k r Q hQ I' h hk)
        · cases h
      | _ => cases ht <;> first | exact absurd ⟨_, rfl⟩ hx | simp [codeC] at h
  | block id c ih =>
    intro ht H
    by_cases hx : ∃ i, ht = .x i
    · obtain ⟨i, rfl⟩ := hx; rw [codeC_x]; exact H W0 M hnp
    · have hx' : ∀ i, ht ≠ .x i := fun i hi => hx ⟨i, hi⟩
      intro σ a w G k r Q hQ I h hk
      replace h : (codeC Γ X ht.l c σ fun e σ' => match e with
        | .exit j => if j == id then k .normal σ' else k (.exit j) σ'
        | e => k e σ') = some r := by cases ht <;> first | exact h | exact absurd ⟨_, rfl⟩ hx
      refine wp_block (ih ht.l (H.pl hx') σ a w G _ r _ (fun c a w hh => hQ c a w hh) I h fun e σ' a' w' G' he I' => ?_)
      cases e with
      | normal => exact hk .normal σ' a' w' G' he I'
      | exit j =>
        show if j = id then Q .normal a' w' else Q (.exit j) a' w'
        simp only [] at he
        split at he
        · rename_i hj
          rw [if_pos (by simpa using hj)]
          exact hk .normal σ' a' w' G' he I'
        · rename_i hj
          rw [if_neg (by simpa using hj)]
          exact hk (.exit j) σ' a' w' G' he I'
      | ret => exact hk .ret σ' a' w' G' he I'
  | loop c ih =>
    intro ht H
    by_cases hx : ∃ i, ht = .x i
    · obtain ⟨i, rfl⟩ := hx; rw [codeC_x]; exact H W0 M hnp
    · intro σ a w G k r Q hQ I h hk
      cases ht <;> first | exact absurd ⟨_, rfl⟩ hx | simp [codeC] at h
  | exit id =>
    intro ht H
    by_cases hx : ∃ i, ht = .x i
    · obtain ⟨i, rfl⟩ := hx; rw [codeC_x]; exact H W0 M hnp
    · intro σ a w G k r Q hQ I h hk
      replace h : k (.exit id) σ = some r := by cases ht <;> first | exact h | exact absurd ⟨_, rfl⟩ hx
      exact wp_exit (hk (.exit id) σ a w G h I)
  | scope c ih =>
    intro ht H
    by_cases hx : ∃ i, ht = .x i
    · obtain ⟨i, rfl⟩ := hx; rw [codeC_x]; exact H W0 M hnp
    · have hx' : ∀ i, ht ≠ .x i := fun i hi => hx ⟨i, hi⟩
      intro σ a w G k r Q hQ I h hk
      replace h : codeC Γ X ht.l c σ k = some r := by cases ht <;> first | exact h | exact absurd ⟨_, rfl⟩ hx
      refine wp_scope_straight (ih ht.l (H.pl hx') σ a w G k r _ (fun c a w hh => hQ c a w hh) I h fun e σ' a' w' G' he I' => ?_)
      have := hk e σ' a' w' G' he I'
      cases e <;> exact this
  | ret =>
    intro ht H
    by_cases hx : ∃ i, ht = .x i
    · obtain ⟨i, rfl⟩ := hx; rw [codeC_x]; exact H W0 M hnp
    · intro σ a w G k r Q hQ I h hk
      replace h : k .ret σ = some r := by cases ht <;> first | exact h | exact absurd ⟨_, rfl⟩ hx
      exact wp_ret (hk .ret σ a w G h I)
  | rangeFunc f ps x y _ _ =>
    intro ht H
    by_cases hx : ∃ i, ht = .x i
    · obtain ⟨i, rfl⟩ := hx; rw [codeC_x]; exact H W0 M hnp
    · intro σ a w G k r Q hQ I h hk
      cases ht <;> first | exact absurd ⟨_, rfl⟩ hx | simp [codeC] at h
  | label l =>
    intro ht H
    by_cases hx : ∃ i, ht = .x i
    · obtain ⟨i, rfl⟩ := hx; rw [codeC_x]; exact H W0 M hnp
    · intro σ a w G k r Q hQ I h hk
      cases ht <;> first | exact absurd ⟨_, rfl⟩ hx | simp [codeC] at h
  | goto l =>
    intro ht H
    by_cases hx : ∃ i, ht = .x i
    · obtain ⟨i, rfl⟩ := hx; rw [codeC_x]; exact H W0 M hnp
    · intro σ a w G k r Q hQ I h hk
      cases ht <;> first | exact absurd ⟨_, rfl⟩ hx | simp [codeC] at h
  | refuse s =>
    intro ht H
    by_cases hx : ∃ i, ht = .x i
    · obtain ⟨i, rfl⟩ := hx; rw [codeC_x]; exact H W0 M hnp
    · intro σ a w G k r Q hQ I h hk
      cases ht <;> first | exact absurd ⟨_, rfl⟩ hx | simp [codeC] at h
end
end Go.PI
namespace Go.PI

def ArgsRel (w : World) (F : Nat → Nat) (St : Nat → Prop) : List Mode → List TVal → List Value → List (List Nat) → List Nat → Prop
  | [], [], [], [], [] => True
  | .borrow τ ag :: ms, v :: vs, x :: xs, f :: fs, ls => f = [] ∧ Shaped ag x ∧ Rp w F St St v.τ (List.replicate (leaves v.τ) .S) (vCells x) v.x [] ∧ ArgsRel w F St ms vs xs fs ls
  | .consume τ ag :: ms, v :: vs, x :: xs, f :: fs, ls => Shaped ag x ∧ Rp w F St (· ∈ f) v.τ v.tg (vCells x) v.x f ∧ ArgsRel w F St ms vs xs fs ls
  | .eat τ ag :: ms, v :: vs, x :: xs, f :: fs, ls => Shaped ag x ∧ Rp w F St (· ∈ f) v.τ v.tg (vCells x) v.x f ∧ ArgsRel w F St ms vs xs fs ls
  | .inout τ ag :: ms, v :: vs, x :: xs, f :: fs, ls => (Shaped ag x ∧ v.τ = τ) ∧ Rp w F St (· ∈ f) v.τ v.tg (vCells x) v.x f ∧ ArgsRel w F St ms vs xs fs ls
  | .look τ ag :: ms, v :: vs, x :: xs, f :: fs, ls => f = [] ∧ Shaped ag x ∧ Rp w F St St v.τ (List.replicate (leaves v.τ) .S) (vCells x) v.x [] ∧ ArgsRel w F St ms vs xs fs ls
  | .rptr τ :: ms, v :: vs, x :: xs, f :: fs, ls => f = [] ∧ SPtr w F St St v.τ v.x x ∧ ArgsRel w F St ms vs xs fs ls
  | .rclos g τs :: ms, v :: vs, x :: xs, f :: fs, ls => f = [] ∧ (∃ us : Array Value, x = .func (.func g) #[] us ∧ SPs w F St St τs v.τ v.x us.toList) ∧ ArgsRel w F St ms vs xs fs ls
  | .ptr τ :: ms, vs, x :: xs, fs, l :: ls => x = .pointer (some ⟨l, 0, none⟩) ∧ ArgsRel w F St ms vs xs fs ls
  | .clos g τs :: ms, vs, x :: xs, fs, ls => (τs.length ≤ ls.length ∧ x = .func (.func g) #[] ((ls.take τs.length).map fun l => Value.pointer (some ⟨l, 0, none⟩)).toArray) ∧ ArgsRel w F St ms vs xs fs (ls.drop τs.length)
  | _, _, _, _, _ => False

def BoxesRel (w : World) (F : Nat → Nat) (St : Nat → Prop) : List TVal → List Nat → List (List Nat) → Prop
  | [], [], [] => True
  | v :: vs, l :: ls, f :: fs => (∃ c T, w.heap[l]? = some (.cells c T (0, 0)) ∧ Rp w F St (· ∈ f) v.τ v.tg c.toList v.x f) ∧ BoxesRel w F St vs ls fs
  | _, _, _ => False

def ResRel (w : World) (F : Nat → Nat) (St : Nat → Prop) : List TVal → List Value → List (List Nat) → Prop
  | [], [], [] => True
  | v :: vs, x :: xs, f :: fs => (Shaped v.ag x ∧ v.noN = true ∧ Rp w F St (· ∈ f) v.τ v.tg (vCells x) v.x f) ∧ ResRel w F St vs xs fs
  | _, _, _ => False

def ioArgs : List Mode → List Value → List Value
  | .inout .. :: ms, x :: xs => x :: ioArgs ms xs
  | _ :: ms, _ :: xs => ioArgs ms xs
  | _, _ => []

def retVal (vs : List Value) : Value := match vs with | [v] => v | vs => .tuple vs.toArray

structure RetOk (w : World) (F : Nat → Nat) (St : Nat → Prop) (ms ads : List Nat) (res ios : List TVal) (xs : List Value) (ext' : List TVal) (v : Value) (w' : World) : Prop where
  out : ∃ F' St' vs fps efps, (v = retVal vs ∧ ios.length = xs.length ∧ vs.length = res.length) ∧ ResRel w' F' St' (res ++ ios) (vs ++ xs) fps ∧ BoxesRel w' F' St' ext' ads efps ∧ Ext (· ∈ ms) w w' ∧
    (∀ b, b < w.heap.size → b ∉ ms → F' b = F b) ∧ (∀ b, St b → St' b) ∧ (∀ b, St' b → (St b ∨ w.heap.size ≤ b ∨ b ∈ ms) ∧ b < w'.heap.size) ∧
    (fps.flatten ++ (efps.flatten ++ ads)).Nodup ∧ ∀ b ∈ fps.flatten ++ (efps.flatten ++ ads), (w.heap.size ≤ b ∨ b ∈ ms) ∧ b < w'.heap.size ∧ ¬ St' b

def Sound {R : Type} (P : Program) (f : FuncId) (sig : Sig R) : Prop :=
  (∃ fn c, P.funcs[f]? = some fn ∧ (fn.name == "runtime.NumGoroutine") = false ∧ fn.body = some c) ∧
  ∀ (vals ext : List TVal) (k : List TVal → List TVal → List TVal → Option R) (r : R), sig.run vals ext k = some r →
    ∀ (w : World) (F : Nat → Nat) (St : Nat → Prop) (args : List Value) (ads : List Nat) (fps efps : List (List Nat)),
      ArgsRel w F St sig.modes vals args fps ads → BoxesRel w F St ext ads efps → (fps.flatten ++ (efps.flatten ++ ads)).Nodup → (∀ b, St b → b < w.heap.size ∧ b ∉ fps.flatten ++ (efps.flatten ++ ads)) → (∀ b ∈ fps.flatten ++ (efps.flatten ++ ads), b < w.heap.size) →
      Calls P f args.toArray w fun e w' => ∃ v res ios ext', e = .returned v ∧ k res ios ext' = some r ∧ (sameTys ext ext' = true ∧ (ios.map (·.τ)) = ioTys sig.modes ∧ ios.all TVal.allO = true) ∧ ext'.all TVal.noN = true ∧ RetOk w F St (fps.flatten ++ (efps.flatten ++ ads)) ads res ios (ioArgs sig.modes args) ext' v w'


def idxIn : List (List Nat) → Nat → Option Nat
  | [], _ => none
  | f :: l, b => if b ∈ f then some 0 else (idxIn l b).map (· + 1)

theorem idxIn_some : (l : List (List Nat)) → (b i : Nat) → idxIn l b = some i → b ∈ l.getD i []
  | [], b, i, h => by cases h
  | f :: l, b, i, h => by
    simp only [idxIn] at h
    split at h
    · cases h; simpa
    · obtain ⟨j, hj, rfl⟩ := Option.map_eq_some_iff.1 h
      simpa using idxIn_some l b j hj

theorem getD_flatten {l : List (List Nat)} {i b : Nat} (h : b ∈ l.getD i []) : b ∈ l.flatten := by
  rw [List.getD_eq_getElem?_getD] at h
  cases hi : l[i]? with
  | none => rw [hi] at h; simp at h
  | some f =>
    rw [hi] at h
    exact List.mem_flatten.2 ⟨f, List.mem_of_getElem? hi, h⟩

theorem idxIn_of : (l : List (List Nat)) → (b i : Nat) → l.flatten.Nodup → b ∈ l.getD i [] → idxIn l b = some i
  | [], b, i, _, h => by simp at h
  | f :: l, b, 0, hn, h => by
    have : b ∈ f := by simpa using h
    simp [idxIn, this]
  | f :: l, b, i + 1, hn, h => by
    have h : b ∈ l.getD i [] := by simpa using h
    simp only [List.flatten_cons] at hn
    have : b ∉ f := fun hf => (List.nodup_append.1 hn).2.2 b hf b (getD_flatten h) rfl
    simp only [idxIn, this, if_false]
    rw [idxIn_of l b i (List.nodup_append.1 hn).2.1 h]
    rfl

theorem idxIn_none : (l : List (List Nat)) → (b : Nat) → b ∉ l.flatten → idxIn l b = none
  | [], b, h => rfl
  | f :: l, b, h => by
    simp only [List.flatten_cons, List.mem_append, not_or] at h
    simp only [idxIn, h.1, if_false]
    rw [idxIn_none l b h.2]; rfl

theorem idxIn_mem {l : List (List Nat)} {b : Nat} (h : idxIn l b = none) : b ∉ l.flatten := by
  intro hm
  obtain ⟨f, hf, hb⟩ := List.mem_flatten.1 hm
  revert h
  induction l with
  | nil => simp at hf
  | cons g l ih =>
    intro h
    simp only [idxIn] at h
    split at h
    · cases h
    · rename_i hbg
      rcases List.mem_cons.1 hf with rfl | hf
      · exact hbg hb
      · have hn : idxIn l b = none := by cases hx : idxIn l b with
          | none => rfl
          | some j => rw [hx] at h; cases h
        exact ih (List.mem_flatten.2 ⟨f, hf, hb⟩) hf hn

def slotFps : List Mode → List (List Nat) → List (List Nat)
  | .borrow .. :: ms, f :: fs => f :: slotFps ms fs
  | .consume .. :: ms, f :: fs => f :: slotFps ms fs
  | .eat .. :: ms, f :: fs => f :: slotFps ms fs
  | .inout .. :: ms, f :: fs => f :: slotFps ms fs
  | .look .. :: ms, f :: fs => f :: slotFps ms fs
  | .rptr _ :: ms, f :: fs => f :: slotFps ms fs
  | .rclos .. :: ms, f :: fs => f :: slotFps ms fs
  | .ptr _ :: ms, fs => [] :: slotFps ms fs
  | .clos .. :: ms, fs => [] :: slotFps ms fs
  | _, _ => []

theorem slotFps_flatten {w : World} {F : Nat → Nat} {St : Nat → Prop} : (ms : List Mode) → (vs : List TVal) → (xs : List Value) → (fs : List (List Nat)) → (ls : List Nat) → ArgsRel w F St ms vs xs fs ls → (slotFps ms fs).flatten = fs.flatten
  | [], vs, xs, fs, ls, h => by
    cases vs <;> cases xs <;> cases fs <;> cases ls <;> first | rfl | exact h.elim
  | .borrow τ ag :: ms, vs, xs, fs, ls, h => by
    cases vs <;> cases xs <;> cases fs <;> first | exact h.elim | skip
    obtain ⟨_, _, _, h⟩ := h
    simp [slotFps, slotFps_flatten ms _ _ _ _ h]
  | .look τ ag :: ms, vs, xs, fs, ls, h => by
    cases vs <;> cases xs <;> cases fs <;> first | exact h.elim | skip
    obtain ⟨_, _, _, h⟩ := h
    simp [slotFps, slotFps_flatten ms _ _ _ _ h]
  | .rptr τ :: ms, vs, xs, fs, ls, h => by
    cases vs <;> cases xs <;> cases fs <;> first | exact h.elim | skip
    obtain ⟨_, _, h⟩ := h
    simp [slotFps, slotFps_flatten ms _ _ _ _ h]
  | .rclos g τs :: ms, vs, xs, fs, ls, h => by
    cases vs <;> cases xs <;> cases fs <;> first | exact h.elim | skip
    obtain ⟨_, _, h⟩ := h
    simp [slotFps, slotFps_flatten ms _ _ _ _ h]
  | .consume τ ag :: ms, vs, xs, fs, ls, h => by
    cases vs <;> cases xs <;> cases fs <;> first | exact h.elim | skip
    obtain ⟨_, _, h⟩ := h
    simp [slotFps, slotFps_flatten ms _ _ _ _ h]
  | .eat τ ag :: ms, vs, xs, fs, ls, h => by
    cases vs <;> cases xs <;> cases fs <;> first | exact h.elim | skip
    obtain ⟨_, _, h⟩ := h
    simp [slotFps, slotFps_flatten ms _ _ _ _ h]
  | .inout τ ag :: ms, vs, xs, fs, ls, h => by
    cases vs <;> cases xs <;> cases fs <;> first | exact h.elim | skip
    obtain ⟨_, _, h⟩ := h
    simp [slotFps, slotFps_flatten ms _ _ _ _ h]
  | .ptr τ :: ms, vs, xs, fs, ls, h => by
    cases xs <;> cases ls <;> first | (cases vs <;> cases fs <;> exact h.elim) | skip
    rename_i x xs l ls
    have h' : x = .pointer (some ⟨l, 0, none⟩) ∧ ArgsRel w F St ms vs xs fs ls := by cases vs <;> cases fs <;> exact h
    simp [slotFps, slotFps_flatten ms _ _ _ _ h'.2]
  | .clos g τs :: ms, vs, xs, fs, ls, h => by
    cases xs <;> first | (cases vs <;> cases fs <;> cases ls <;> exact h.elim) | skip
    rename_i x xs
    have h' : (τs.length ≤ ls.length ∧ x = .func (.func g) #[] ((ls.take τs.length).map fun l => Value.pointer (some ⟨l, 0, none⟩)).toArray) ∧ ArgsRel w F St ms vs xs fs (ls.drop τs.length) := by
      cases vs <;> cases fs <;> cases ls <;> exact h
    simp [slotFps, slotFps_flatten ms _ _ _ _ h'.2]
end Go.PI
namespace Go.PI

section
variable {σ0 : State} {a0 : Act} {w : World} {G0 : Ghost} {F : Nat → Nat} {St : Nat → Prop} {n : Nat}

theorem start_rel (hF : G0.F = F) (hS : G0.St = St) (hal : ∀ b, St b → G0.Al b) : (ms : List Mode) → (vs : List TVal) → (xs : List Value) → (fs : List (List Nat)) → (ls : List Nat) → (j : Nat) → ArgsRel w F St ms vs xs fs ls →
    (∀ b ∈ fs.flatten, G0.Al b) → (∀ m (h : m < ls.length), PtrRel σ0 G0 a0 w ⟨true, n + (j + m), []⟩ (.pointer (some ⟨ls[m], 0, none⟩))) →
    (startSlots n ms vs j).length = ms.length ∧ xs.length = ms.length ∧ ∀ i, i < ms.length → SlotRel σ0 G0 a0 w (getN .dead (startSlots n ms vs j) i) (xs.getD i undef) ((slotFps ms fs).getD i [])
  | [], vs, xs, fs, ls, j, h, hf, hp => by
    cases vs <;> cases xs <;> cases fs <;> cases ls <;> first | exact ⟨rfl, rfl, fun i hi => absurd hi (by simp)⟩ | exact h.elim
  | .borrow τ ag :: ms, vs, xs, fs, ls, j, h, hf, hp => by
    cases vs <;> cases xs <;> cases fs <;> first | exact h.elim | skip
    obtain ⟨h1, h2, h3, h4⟩ := h
    obtain ⟨i1, i2, i3⟩ := start_rel hF hS hal ms _ _ _ ls j h4 (fun b hb => hf b (by simp [hb])) hp
    refine ⟨by simp [startSlots, i1], by simp [i2], fun i hi => ?_⟩
    cases i with
    | zero =>
      simp only [startSlots, getN, slotFps, List.getD_cons_zero]
      rw [h1]
      refine ⟨h2, ?_⟩
      rw [hF, hS]
      exact h3.pres (fun _ h => h) (fun b _ h => hal b h) (fun b _ => KeepB.refl _ _ _) (by simp) (.inr fun b _ _ => KeepB.refl _ _ _)
    | succ i => exact i3 i (by simpa using hi)
  | .look τ ag :: ms, vs, xs, fs, ls, j, h, hf, hp => by
    cases vs <;> cases xs <;> cases fs <;> first | exact h.elim | skip
    obtain ⟨h1, h2, h3, h4⟩ := h
    obtain ⟨i1, i2, i3⟩ := start_rel hF hS hal ms _ _ _ ls j h4 (fun b hb => hf b (by simp [hb])) hp
    refine ⟨by simp [startSlots, i1], by simp [i2], fun i hi => ?_⟩
    cases i with
    | zero =>
      simp only [startSlots, getN, slotFps, List.getD_cons_zero]
      rw [h1]
      refine ⟨h2, ?_⟩
      rw [hF, hS]
      exact h3.pres (fun _ h => h) (fun b _ h => hal b h) (fun b _ => KeepB.refl _ _ _) (by simp) (.inr fun b _ _ => KeepB.refl _ _ _)
    | succ i => exact i3 i (by simpa using hi)
  | .rptr τ :: ms, vs, xs, fs, ls, j, h, hf, hp => by
    cases vs <;> cases xs <;> cases fs <;> first | exact h.elim | skip
    rename_i v vs x xs f fs
    obtain ⟨h1, h2, h4⟩ := h
    obtain ⟨i1, i2, i3⟩ := start_rel hF hS hal ms _ _ _ ls j h4 (fun b hb => hf b (by simp [hb])) hp
    refine ⟨by simp [startSlots, i1], by simp [i2], fun i hi => ?_⟩
    cases i with
    | zero =>
      simp only [startSlots, getN, slotFps, List.getD_cons_zero]
      have h3 : SPtr w G0.F G0.St G0.Al v.τ v.x x := by
        rw [hF, hS]
        exact h2.pres (fun _ h => h) (fun b _ h => hal b h) fun b _ => KeepB.refl _ _ _
      obtain ⟨b, o, cs, q1, q2, q3, q4, q5⟩ := h3
      exact ⟨h1, rfl, b, o, cs, q1, q2, q3, q4, fun _ t' ht => by rw [(List.mem_replicate.1 ht).2]; rfl, q5⟩
    | succ i => exact i3 i (by simpa using hi)
  | .rclos g τs :: ms, vs, xs, fs, ls, j, h, hf, hp => by
    cases vs <;> cases xs <;> cases fs <;> first | exact h.elim | skip
    obtain ⟨h1, ⟨us, h2, h3⟩, h4⟩ := h
    obtain ⟨i1, i2, i3⟩ := start_rel hF hS hal ms _ _ _ ls j h4 (fun b hb => hf b (by simp [hb])) hp
    refine ⟨by simp [startSlots, i1], by simp [i2], fun i hi => ?_⟩
    cases i with
    | zero =>
      simp only [startSlots, getN, slotFps, List.getD_cons_zero]
      refine ⟨h1, us, h2, ?_⟩
      rw [hF, hS]
      exact SPs.pres (fun _ h => h) (fun b _ h => hal b h) (fun b _ => KeepB.refl _ _ _) _ _ _ _ h3
    | succ i => exact i3 i (by simpa using hi)
  | .consume τ ag :: ms, vs, xs, fs, ls, j, h, hf, hp => by
    cases vs <;> cases xs <;> cases fs <;> first | exact h.elim | skip
    rename_i v vs x xs f fs
    obtain ⟨h2, h3, h4⟩ := h
    obtain ⟨i1, i2, i3⟩ := start_rel hF hS hal ms _ _ _ ls j h4 (fun b hb => hf b (by simp [hb])) hp
    refine ⟨by simp [startSlots, i1], by simp [i2], fun i hi => ?_⟩
    cases i with
    | zero =>
      refine ⟨h2, ?_⟩
      rw [hF, hS]
      exact h3.pres (fun _ h => h) (fun b _ h => hf b (by simp [show b ∈ f from h])) (fun b _ => KeepB.refl _ _ _) (fun b _ => ⟨KeepB.refl _ _ _, rfl⟩) (.inr fun b _ _ => KeepB.refl _ _ _)
    | succ i => exact i3 i (by simpa using hi)
  | .eat τ ag :: ms, vs, xs, fs, ls, j, h, hf, hp => by
    cases vs <;> cases xs <;> cases fs <;> first | exact h.elim | skip
    rename_i v vs x xs f fs
    obtain ⟨h2, h3, h4⟩ := h
    obtain ⟨i1, i2, i3⟩ := start_rel hF hS hal ms _ _ _ ls j h4 (fun b hb => hf b (by simp [hb])) hp
    refine ⟨by simp [startSlots, i1], by simp [i2], fun i hi => ?_⟩
    cases i with
    | zero =>
      refine ⟨h2, ?_⟩
      rw [hF, hS]
      exact h3.pres (fun _ h => h) (fun b _ h => hf b (by simp [show b ∈ f from h])) (fun b _ => KeepB.refl _ _ _) (fun b _ => ⟨KeepB.refl _ _ _, rfl⟩) (.inr fun b _ _ => KeepB.refl _ _ _)
    | succ i => exact i3 i (by simpa using hi)
  | .inout τ ag :: ms, vs, xs, fs, ls, j, h, hf, hp => by
    cases vs <;> cases xs <;> cases fs <;> first | exact h.elim | skip
    rename_i v vs x xs f fs
    obtain ⟨h2, h3, h4⟩ := h
    obtain ⟨i1, i2, i3⟩ := start_rel hF hS hal ms _ _ _ ls j h4 (fun b hb => hf b (by simp [hb])) hp
    refine ⟨by simp [startSlots, i1], by simp [i2], fun i hi => ?_⟩
    cases i with
    | zero =>
      refine ⟨h2.1, ?_⟩
      rw [hF, hS]
      exact h3.pres (fun _ h => h) (fun b _ h => hf b (by simp [show b ∈ f from h])) (fun b _ => KeepB.refl _ _ _) (fun b _ => ⟨KeepB.refl _ _ _, rfl⟩) (.inr fun b _ _ => KeepB.refl _ _ _)
    | succ i => exact i3 i (by simpa using hi)
  | .ptr τ :: ms, vs, xs, fs, ls, j, h, hf, hp => by
    cases xs <;> cases ls <;> first | (cases vs <;> cases fs <;> exact h.elim) | skip
    rename_i x xs l ls
    have h' : x = .pointer (some ⟨l, 0, none⟩) ∧ ArgsRel w F St ms vs xs fs ls := by cases vs <;> cases fs <;> exact h
    obtain ⟨i1, i2, i3⟩ := start_rel hF hS hal ms vs xs fs ls (j + 1) h'.2 hf (fun m hm => by
      have := hp (m + 1) (by simpa using hm)
      rw [show n + (j + 1 + m) = n + (j + (m + 1)) by omega]
      simpa using this)
    have hst : startSlots n (.ptr τ :: ms) vs j = .ptr ⟨true, n + j, []⟩ :: startSlots n ms vs (j + 1) := by cases vs <;> rfl
    rw [hst]
    refine ⟨by simp [i1], by simp [i2], fun i hi => ?_⟩
    cases i with
    | zero =>
      have := hp 0 (by simp)
      simp only [Nat.add_zero, List.getElem_cons_zero] at this
      refine ⟨by simp [slotFps], rfl, rfl, ?_⟩
      rw [List.getD_cons_zero, h'.1]
      exact this
    | succ i => simpa [slotFps, getN] using i3 i (by simpa using hi)
  | .clos g τs :: ms, vs, xs, fs, ls, j, h, hf, hp => by
    cases xs <;> first | (cases vs <;> cases fs <;> cases ls <;> exact h.elim) | skip
    rename_i x xs
    have h' : (τs.length ≤ ls.length ∧ x = .func (.func g) #[] ((ls.take τs.length).map fun l => Value.pointer (some ⟨l, 0, none⟩)).toArray) ∧ ArgsRel w F St ms vs xs fs (ls.drop τs.length) := by
      cases vs <;> cases fs <;> cases ls <;> exact h
    obtain ⟨⟨hlen, hx⟩, hrest⟩ := h'
    obtain ⟨i1, i2, i3⟩ := start_rel hF hS hal ms vs xs fs (ls.drop τs.length) (j + τs.length) hrest hf (fun m hm => by
      have hm' : τs.length + m < ls.length := by simp at hm; omega
      have := hp (τs.length + m) hm'
      rw [show n + (j + τs.length + m) = n + (j + (τs.length + m)) by omega]
      simpa using this)
    have hst : startSlots n (.clos g τs :: ms) vs j = .clos g ((List.range τs.length).map fun i => ⟨true, n + j + i, []⟩) :: startSlots n ms vs (j + τs.length) := by cases vs <;> rfl
    rw [hst]
    refine ⟨by simp [i1], by simp [i2], fun i hi => ?_⟩
    cases i with
    | zero =>
      refine ⟨by simp [slotFps], ((ls.take τs.length).map fun l => Value.pointer (some ⟨l, 0, none⟩)).toArray, by rw [List.getD_cons_zero, hx], by simp; omega, fun i hi' => ?_⟩
      have hi'' : i < τs.length := by simpa using hi'
      refine ⟨by simp, by simp [flatB], ?_⟩
      have := hp i (by omega)
      have hget : (((ls.take τs.length).map fun l => Value.pointer (some ⟨l, 0, none⟩)).toArray).getD i undef = .pointer (some ⟨ls[i]'(by omega), 0, none⟩) := by
        rw [Array.getD_eq_getD_getElem?, List.getElem?_toArray, List.getElem?_map, List.getElem?_take_of_lt hi'', List.getElem?_eq_getElem (show i < ls.length by omega)]
        rfl
      rw [hget]
      simpa [Nat.add_assoc] using this
    | succ i => simpa [slotFps, getN] using i3 i (by simpa using hi)

theorem boxes_get : (ext : List TVal) → (ads : List Nat) → (efps : List (List Nat)) → BoxesRel w F St ext ads efps →
    ads.length = ext.length ∧ efps.length = ext.length ∧ ∀ j v, ext[j]? = some v → ∃ c T, w.heap[ads.getD j 0]? = some (.cells c T (0, 0)) ∧ Rp w F St (· ∈ efps.getD j []) v.τ v.tg c.toList v.x (efps.getD j [])
  | [], ads, efps, h => by
    cases ads <;> cases efps <;> first | exact ⟨rfl, rfl, fun j v hj => by simp at hj⟩ | exact h.elim
  | v :: ext, ads, efps, h => by
    cases ads <;> cases efps <;> first | exact h.elim | skip
    obtain ⟨h1, h2⟩ := h
    obtain ⟨i1, i2, i3⟩ := boxes_get ext _ _ h2
    refine ⟨by simp [i1], by simp [i2], fun j u hj => ?_⟩
    cases j with
    | zero => simp only [List.getElem?_cons_zero, Option.some.injEq] at hj; subst hj; exact h1
    | succ j => exact i3 j u (by simpa using hj)

theorem getN_padTo {α : Type} (d : α) : (n : Nat) → (l : List α) → (i : Nat) → getN d (padTo d n l) i = if i < n then getN d l i else d
  | 0, l, i => by simp [padTo, getN]
  | n + 1, [], 0 => rfl
  | n + 1, [], i + 1 => by
    have := getN_padTo d n [] i
    simp only [padTo, getN] at this ⊢
    rw [this]; split <;> simp
  | n + 1, a :: l, 0 => by simp [padTo, getN]
  | n + 1, a :: l, i + 1 => by
    have := getN_padTo d n l i
    simp only [padTo, getN]
    rw [this]
    simp only [Nat.add_lt_add_iff_right]
theorem padTo_len {α : Type} (d : α) : (n : Nat) → (l : List α) → (padTo d n l).length = n
  | 0, _ => rfl
  | n + 1, [] => by simp [padTo, padTo_len d n []]
  | n + 1, a :: l => by simp [padTo, padTo_len d n l]
theorem getN_append {α : Type} (d : α) : (l m : List α) → (i : Nat) → getN d (l ++ m) i = if i < l.length then getN d l i else getN d m (i - l.length)
  | [], m, i => by simp
  | a :: l, m, 0 => rfl
  | a :: l, m, i + 1 => by
    simp only [List.cons_append, getN, List.length_cons, Nat.add_lt_add_iff_right, Nat.add_sub_add_right]
    exact getN_append d l m i
theorem getN_eq {α : Type} (d : α) : (l : List α) → (i : Nat) → getN d l i = (l[i]?).getD d
  | [], i => by simp [getN]
  | a :: l, 0 => rfl
  | a :: l, i + 1 => by simp only [getN, List.getElem?_cons_succ]; exact getN_eq d l i
end
end Go.PI
namespace Go.PI

def ghost0 (n : Nat) (modes : List Mode) (F : Nat → Nat) (St : Nat → Prop) (fps efps : List (List Nat)) (ads : List Nat) : Ghost where
  F := F
  St := St
  who b := match idxIn (slotFps modes fps) b with
    | some i => some (.s i)
    | none => match idxIn efps b with
      | some j => some (.c (n + j))
      | none => match idxIn (ads.map fun l => [l]) b with
        | some j => some (.a (n + j))
        | none => none
  fs i := if i < modes.length then (slotFps modes fps).getD i [] else []
  fb i := if n ≤ i then efps.getD (i - n) [] else []
  ad i := if n ≤ i then ads.getD (i - n) 0 else 0

def base0 (w : World) (F : Nat → Nat) (St : Nat → Prop) (n : Nat) (ads : List Nat) (np : Nat) (args : List Value) : Base := { w with ad0 := fun i => if n ≤ i then ads.getD (i - n) 0 else 0, F0 := F, St0 := St, np := np, arg := fun i => args.getD i undef }

theorem singles_flatten (l : List Nat) : (l.map fun x => [x]).flatten = l := by induction l with
  | nil => rfl
  | cons a l ih => simp [ih]

theorem singles_getD (l : List Nat) (j : Nat) (h : j < l.length) : (l.map fun x => [x]).getD j [] = [l.getD j 0] := by
  rw [List.getD_eq_getElem?_getD, List.getElem?_map, List.getD_eq_getElem?_getD, List.getElem?_eq_getElem h]; rfl

theorem nodup_part : {l : List (List Nat)} → {f : List Nat} → l.flatten.Nodup → f ∈ l → f.Nodup
  | [], f, _, h => by cases h
  | g :: l, f, hn, h => by
    simp only [List.flatten_cons] at hn
    rcases List.mem_cons.1 h with rfl | h
    · exact (List.nodup_append.1 hn).1
    · exact nodup_part (List.nodup_append.1 hn).2.1 h

section
variable {w : World} {F : Nat → Nat} {St : Nat → Prop} {n : Nat} {modes : List Mode} {vals ext : List TVal} {args : List Value} {ads : List Nat} {fps efps : List (List Nat)}

theorem start_arg (args : List Value) (m i : Nat) : (args.toArray ++ Array.replicate m undef).getD i undef = args.getD i undef := by
  rw [Array.getD_eq_getD_getElem?, List.getD_eq_getElem?_getD]
  by_cases h : i < args.length
  · rw [Array.getElem?_append_left (by simpa using h), List.getElem?_toArray]
  · rw [Array.getElem?_append_right (by simp; omega), List.getElem?_eq_none (by omega)]
    simp only [Array.getElem?_replicate]
    split <;> rfl

theorem start_inv {np : Nat} (hn : modes.length ≤ n) (hA : ArgsRel w F St modes vals args fps ads) (hB : BoxesRel w F St ext ads efps) (hnd : (fps.flatten ++ (efps.flatten ++ ads)).Nodup)
    (hSt : ∀ b, St b → b < w.heap.size ∧ b ∉ fps.flatten ++ (efps.flatten ++ ads)) (hlt : ∀ b ∈ fps.flatten ++ (efps.flatten ++ ads), b < w.heap.size) :
    args.length = modes.length ∧ Inv (base0 w F St n ads np args) (· ∈ fps.flatten ++ (efps.flatten ++ ads)) (start n modes vals ext) { tmps := args.toArray ++ Array.replicate (n - args.length) undef, defers := [] } w (ghost0 n modes F St fps efps ads) [] := by
  have hsf := slotFps_flatten modes vals args fps ads hA
  obtain ⟨ha1, ha2, hbx⟩ := boxes_get ext ads efps hB
  have hd1 : fps.flatten.Nodup := (List.nodup_append.1 hnd).1
  have hd2 : (efps.flatten ++ ads).Nodup := (List.nodup_append.1 hnd).2.1
  have hd3 : efps.flatten.Nodup := (List.nodup_append.1 hd2).1
  have hd4 : ads.Nodup := (List.nodup_append.1 hd2).2.1
  have hx12 : ∀ b, b ∈ efps.flatten ++ ads → b ∉ fps.flatten := fun b hb hb' => (List.nodup_append.1 hnd).2.2 b hb' b hb rfl
  have hx23 : ∀ b, b ∈ ads → b ∉ efps.flatten := fun b hb hb' => (List.nodup_append.1 hd2).2.2 b hb' b hb rfl
  let G0 := ghost0 n modes F St fps efps ads
  have hwS : ∀ i b, b ∈ (slotFps modes fps).getD i [] → G0.who b = some (.s i) := by
    intro i b hb
    have := idxIn_of _ b i (by rw [hsf]; exact hd1) hb
    simp only [G0, ghost0, this]
  have hwC : ∀ j b, b ∈ efps.getD j [] → G0.who b = some (.c (n + j)) := by
    intro j b hb
    have h1 := idxIn_none (slotFps modes fps) b (by rw [hsf]; exact hx12 b (List.mem_append_left _ (getD_flatten hb)))
    have h2 := idxIn_of _ b j hd3 hb
    simp only [G0, ghost0, h1, h2]
  have hwA : ∀ j, j < ads.length → G0.who (ads.getD j 0) = some (.a (n + j)) := by
    intro j hj
    have hm : ads.getD j 0 ∈ ads := by rw [List.getD_eq_getElem?_getD, List.getElem?_eq_getElem hj]; exact List.getElem_mem _
    have h1 := idxIn_none (slotFps modes fps) (ads.getD j 0) (by rw [hsf]; exact hx12 _ (List.mem_append_right _ hm))
    have h2 := idxIn_none efps (ads.getD j 0) (hx23 _ hm)
    have h3 := idxIn_of (ads.map fun l => [l]) (ads.getD j 0) j (by rw [singles_flatten]; exact hd4) (by rw [singles_getD _ _ hj]; simp)
    simp only [G0, ghost0, h1, h2, h3]
  have hwn : ∀ b, b ∉ fps.flatten ++ (efps.flatten ++ ads) → G0.who b = none := by
    intro b hb
    simp only [List.mem_append, not_or] at hb
    have h1 := idxIn_none (slotFps modes fps) b (by rw [hsf]; exact hb.1)
    have h2 := idxIn_none efps b hb.2.1
    have h3 := idxIn_none (ads.map fun l => [l]) b (by rw [singles_flatten]; exact hb.2.2)
    simp only [G0, ghost0, h1, h2, h3]
  have hwm : ∀ b z, G0.who b = some z → b ∈ fps.flatten ++ (efps.flatten ++ ads) := by
    intro b z hb
    by_cases hm : b ∈ fps.flatten ++ (efps.flatten ++ ads)
    · exact hm
    · rw [hwn b hm] at hb; cases hb
  have hal : ∀ b, St b → G0.Al b := fun b hb => ⟨fun i h => (by rw [hwn b (hSt b hb).2] at h; cases h), fun _ => hb⟩
  have half : ∀ b ∈ fps.flatten, G0.Al b := by
    intro b hb
    obtain ⟨f, hf, hbf⟩ := List.mem_flatten.1 (by rw [hsf]; exact hb : b ∈ (slotFps modes fps).flatten)
    obtain ⟨i, hi, rfl⟩ := List.mem_iff_getElem.1 hf
    have := hwS i b (by rw [List.getD_eq_getElem?_getD, List.getElem?_eq_getElem hi]; exact hbf)
    exact ⟨fun i h => (by rw [this] at h; cases h), fun h => (by rw [this] at h; cases h)⟩
  have hale : ∀ j b, b ∈ efps.getD j [] → G0.Al b := fun j b hb => ⟨fun i h => (by rw [hwC j b hb] at h; cases h), fun h => (by rw [hwC j b hb] at h; cases h)⟩
  have hbox : ∀ i v, (start n modes vals ext).boxAt i = some v → n ≤ i ∧ ext[i - n]? = some v := by
    intro i v hv
    have hv : getN none (padTo none n [] ++ ext.map some) i = some v := hv
    rw [getN_append, padTo_len] at hv
    split at hv
    · rw [getN_padTo] at hv; split at hv <;> cases hv
    · rename_i hi
      refine ⟨by omega, ?_⟩
      rw [getN_eq, List.getElem?_map] at hv
      cases hx : ext[i - n]? with
      | none => rw [hx] at hv; cases hv
      | some u => rw [hx] at hv; simpa using hv
  have hboxm : ∀ m (h : m < ads.length), ∃ v, (start n modes vals ext).boxAt (n + m) = some v ∧ ext[m]? = some v := by
    intro m hm
    have hme : m < ext.length := by omega
    refine ⟨ext[m], ?_, List.getElem?_eq_getElem hme⟩
    show getN none (padTo none n [] ++ ext.map some) (n + m) = _
    rw [getN_append, padTo_len, if_neg (by omega), getN_eq, Nat.add_sub_cancel_left, List.getElem?_map, List.getElem?_eq_getElem hme]
    rfl
  let a0 : Act := { tmps := args.toArray ++ Array.replicate (n - args.length) undef, defers := [] }
  obtain ⟨hl1, hl2, hsl⟩ := start_rel (σ0 := start n modes vals ext) (a0 := a0) (G0 := G0) (n := n) rfl rfl hal modes vals args fps ads 0 hA half (fun m hm => by
    obtain ⟨v, hv, hve⟩ := hboxm m hm
    obtain ⟨c, T, hc, hR⟩ := hbx m v hve
    have had : G0.ad (n + m) = ads.getD m 0 := by simp [G0, ghost0]
    have hgd : ads.getD m 0 = ads[m] := by rw [List.getD_eq_getElem?_getD, List.getElem?_eq_getElem hm]; rfl
    refine .inr ⟨c.toList, (ads[m], 0), ⟨v.τ, c.toList, some (ads[m], 0), ?_, ?_, locP_nil _ _ _ _⟩, rfl⟩
    · rw [Nat.zero_add, ct_box, hv]; rfl
    · simp only [rootLoc, Nat.zero_add, had, hc]
      rw [hgd])
  refine ⟨hl2, ⟨rfl, ?_, fun i hi => ?_, fun i v hv => ?_, fun i b hb => ?_, fun i b hb => ?_, fun b hb => (by cases hb), fun i => ?_, fun i => ?_, List.nodup_nil, fun b hb => ⟨hwn b (hSt b hb).2, (hSt b hb).1⟩, fun b z hb => ⟨hlt b (hwm b z hb), .inr (hwm b z hb)⟩, ?_, fun i _ => rfl, ⟨fun _ _ _ => rfl, fun _ h => h, fun _ h => .inl h⟩, fun i _ => start_arg args _ i⟩⟩
  · simp [start, padTo_len]; omega
  · have hin : i < n := by simpa [start, padTo_len] using hi
    have hslot : (start n modes vals ext).slot i = getN .dead (startSlots n modes vals 0) i := by
      show getN .dead (padTo .dead n (startSlots n modes vals 0)) i = _
      rw [getN_padTo, if_pos hin]
    rw [hslot]
    by_cases him : i < modes.length
    · have hget : a0.tmps.getD i undef = args.getD i undef := by
        have : i < args.length := by omega
        simp only [a0]
        rw [Array.getD_eq_getD_getElem?, Array.getElem?_append_left (by simpa using this), List.getD_eq_getElem?_getD, List.getElem?_toArray]
      show SlotRel _ _ a0 w _ (a0.tmps.getD i undef) _
      rw [hget]
      simp only [ghost0, him, if_true]
      exact hsl i him
    · rw [getN_ge _ _ (by omega)]
      simp only [ghost0, him, if_false]
      rfl
  · obtain ⟨hni, hve⟩ := hbox i v hv
    obtain ⟨c, T, hc, hR⟩ := hbx (i - n) v hve
    have hle : i - n < ads.length := by
      have := (List.getElem?_eq_some_iff.1 hve).1; omega
    have had : G0.ad i = ads.getD (i - n) 0 := if_pos hni
    have hfb : G0.fb i = efps.getD (i - n) [] := if_pos hni
    refine ⟨⟨c, T, by rw [show (ghost0 n modes F St fps efps ads).ad i = ads.getD (i - n) 0 from had]; exact hc, ?_⟩, ?_⟩
    · rw [show (ghost0 n modes F St fps efps ads).fb i = efps.getD (i - n) [] from hfb]
      exact hR.pres (fun _ h => h) (fun b _ h => hale (i - n) b h) (fun b _ => KeepB.refl _ _ _) (fun b _ => ⟨KeepB.refl _ _ _, rfl⟩) (.inr fun b _ _ => KeepB.refl _ _ _)
    · rw [show (ghost0 n modes F St fps efps ads).ad i = ads.getD (i - n) 0 from had]
      have := hwA (i - n) hle
      rw [show n + (i - n) = i by omega] at this
      exact this
  · simp only [ghost0] at hb
    split at hb
    · exact hwS i b hb
    · cases hb
  · simp only [ghost0] at hb
    split at hb
    · have := hwC (i - n) b hb
      rw [show n + (i - n) = i by omega] at this
      exact this
    · cases hb
  · simp only [ghost0]
    split
    · rename_i hi
      have hll : (slotFps modes fps).flatten.Nodup := by rw [hsf]; exact hd1
      rw [List.getD_eq_getElem?_getD]
      cases hx : (slotFps modes fps)[i]? with
      | none => simp
      | some f => exact nodup_part hll (List.mem_of_getElem? hx)
    · exact List.nodup_nil
  · simp only [ghost0]
    split
    · rw [List.getD_eq_getElem?_getD]
      cases hx : efps[i - n]? with
      | none => simp
      | some f => exact nodup_part hd3 (List.mem_of_getElem? hx)
    · exact List.nodup_nil
  · exact Ext.refl _ w
end
end Go.PI
namespace Go.PI

def OutRel (w : World) (G : Ghost) : List TVal → List Value → List (List Nat) → Prop
  | [], [], [] => True
  | v :: vs, x :: xs, f :: fs => (Shaped v.ag x ∧ Rp w G.F G.St G.Al v.τ v.tg (vCells x) v.x f) ∧ OutRel w G vs xs fs
  | _, _, _ => False

theorem OutRel.sim {w : World} {G G' : Ghost} (hs : Sim G G') : (vs : List TVal) → (xs : List Value) → (fs : List (List Nat)) → OutRel w G vs xs fs → OutRel w G' vs xs fs
  | [], xs, fs, h => by cases xs <;> cases fs <;> exact h
  | v :: vs, xs, fs, h => by
    cases xs <;> cases fs <;> first | exact h.elim | skip
    obtain ⟨⟨h1, h2⟩, h3⟩ := h
    exact ⟨⟨h1, by rw [hs.F, hs.St, hs.Al]; exact h2⟩, OutRel.sim hs vs _ _ h3⟩

section
variable {W0 : Base} {M : Nat → Prop} {σ : State} {a : Act} {w w' : World} {G : Ghost} {xs : List Nat} {P : Program} {tys : List (TypeId × Ty × List TypeId)}

theorem takeAt_rel (I : Inv W0 M σ a w G xs) {p : Place} {u : TVal} {cs : List Value} {base : Option (Nat × Nat)} (hg : σ.getAt p = some u) (hpl : PlaceAt σ G a w p cs base) (hf : flatB p.path = true) {σ' : State} (hset : σ.setAt p u.alias = some σ') :
    ∃ fi G', Inv W0 M σ' a w G' (fi ++ xs) ∧ Sim G G' ∧ Rp w G'.F G'.St G'.Al u.τ u.tg cs u.x fi := by
  obtain ⟨c, hc, hgp⟩ := getAt_content hg
  unfold State.setAt at hset
  rw [hc] at hset
  simp only [Option.bind_some, Option.map_eq_some_iff] at hset
  obtain ⟨⟨x', tg'⟩, hsp, rfl⟩ := hset
  obtain ⟨τc, l, b, hct, hrl, hl⟩ := hpl
  obtain ⟨l', b', fpc, hr', hrp, hw⟩ := content_root I hc
  rw [hrl] at hr'
  cases hr'
  have : τc = c.τ := by rw [State.ct, hc] at hct; simpa using hct.symm
  subst this
  obtain ⟨f1, fi, f2, e1, e2, e3, e4, e5⟩ := Rp.flatLens hf hrp hl hgp
  obtain ⟨fg, hrg, _⟩ := hrp.get hl hgp
  have hlen : cs.take (size u.τ) = cs := by rw [← hrg.len.1]; simp
  have hnew := e5 u.alias (cs.take (size u.τ)) [] x' tg' hsp rfl (by rw [hlen]; exact hrg.alias (Ghost.St_Al I))
  have hsz := getP_size hf hgp
  rw [e4, splice_self (by rw [hrp.len.1]; exact hsz)] at hnew
  have hfp : G.fpOf p = f1 ++ fi ++ f2 := by
    rw [← e1]
    rcases hw with ⟨hb, _, rfl, _⟩ | ⟨hb, _, rfl, _⟩ <;> simp [Ghost.fpOf, hb]
  obtain ⟨G', I', hsim⟩ := I.recontent (c' := ⟨c.τ, c.ag, x', tg'⟩) hc rfl rfl hrl hnew (fi := fi) (by
    rw [hfp]
    simp only [List.append_nil]
    rw [List.append_assoc, List.append_assoc]
    exact List.Perm.append_left _ List.perm_append_comm)
  refine ⟨fi, G', I', hsim, ?_⟩
  rw [hsim.F, hsim.St, hsim.Al]
  rw [hlen] at e2
  exact e2

def readRes (tmps : Array Value) : ResultVar → Sem Value
  | .tmp t => pure (tmps.getD t undef)
  | .cell a t => do loadVar t (← asAddr (tmps.getD a undef))

theorem resultC_rel (hT : TysOk P tys) : (rs : List ResultVar) → (ags : List Bool) → (σ : State) → (acc : List TVal) → (G : Ghost) → (xs : List Nat) → (res : List TVal) → (σ' : State) → resultC tys rs ags σ acc = some (res, σ') → Inv W0 M σ a w G xs →
    ∃ us vs fps G', res = acc.reverse ++ us ∧ (rs.mapM (readRes a.tmps)).run P w = .ok vs w ∧ Inv W0 M σ' a w G' (fps.flatten ++ xs) ∧ Sim G G' ∧ OutRel w G' us vs fps
  | [], ags, σ, acc, G, xs, res, σ', h, I => by
    simp only [resultC, Option.some.injEq, Prod.mk.injEq] at h
    obtain ⟨rfl, rfl⟩ := h
    exact ⟨[], [], [], G, by simp, by simp, by simpa using I, Sim.refl _, trivial⟩
  | .tmp t :: rs, ags, σ, acc, G, xs, res, σ', h, I => by
    cases ags with
    | nil => simp [resultC] at h
    | cons ag ags =>
    simp only [resultC] at h
    split at h
    · rename_i v hl
      split at h
      · rename_i hag
        split at h
        · rename_i u σ1 htk
          obtain ⟨fp, G1, I1, hs1, hτ, hR, hsh⟩ := take_rel I htk
          obtain ⟨us, vs, fps, G', h1, h2, h3, h4, h5⟩ := resultC_rel hT rs ags σ1 (u :: acc) G1 _ res σ' h I1
          refine ⟨u :: us, a.eval (.tmp t) :: vs, fp :: fps, G', by simpa using h1, ?_, ?_, hs1.trans h4, ⟨⟨hsh, by rw [h4.F, h4.St, h4.Al]; exact hR⟩, h5⟩⟩
          · simp only [List.mapM_cons, Sem.run_bind, readRes, Sem.run_pure, Result.andThen_ok, h2]
            rfl
          · refine h3.perm (List.perm_iff_count.2 fun z => ?_)
            simp only [List.flatten_cons, List.count_append]
            omega
        · cases h
      · cases h
    · cases h
  | .cell c ty :: rs, ags, σ, acc, G, xs, res, σ', h, I => by
    cases ags with
    | nil => simp [resultC] at h
    | cons ag ags =>
    simp only [resultC] at h
    split at h
    · rename_i τ p hty hsl
      split at h
      · rename_i v hg
        split at h
        · rename_i hc
          obtain ⟨hvτ, hag, hfl⟩ := hc
          split at h
          · rename_i σ1 hset
            have hS := I.slot c (slot_lt (by rw [hsl]; simp))
            rw [hsl] at hS
            obtain ⟨cs, b, hpl, hv⟩ := hS.2.2.2.some hg
            obtain ⟨hlen, hone⟩ := place_len I hg hpl
            have hcell := place_cells I hpl (w2 := w) ⟨fun _ _ _ _ _ _ _ h => h, fun _ _ _ => rfl⟩
            obtain ⟨l, hta, hag'⟩ := tyOf_assoc hty
            rw [hlen, hvτ] at hcell
            have hload := run_loadVar hT hta hcell
            have hgo := gathered_ok (ag := !l.isEmpty) hone (fun hf => by
              rw [hlen, hvτ]
              have hl : l = [] := by simpa using hf
              rw [hl] at hta
              exact size_nostruct hT hta)
            obtain ⟨fi, G1, I1, hs1, hR⟩ := takeAt_rel I hg hpl hfl hset
            obtain ⟨us, vs, fps, G', h1, h2, h3, h4, h5⟩ := resultC_rel hT rs ags σ1 (_ :: acc) G1 _ res σ' h I1
            refine ⟨{ v with ag := ag } :: us, gathered (!l.isEmpty) cs :: vs, fi :: fps, G', by simpa using h1, ?_, ?_, hs1.trans h4, ⟨⟨?_, ?_⟩, h5⟩⟩
            · simp only [List.mapM_cons, Sem.run_bind, readRes, hv, asAddr, Sem.run_pure, Result.andThen_ok, hload, h2]
            · refine h3.perm (List.perm_iff_count.2 fun z => ?_)
              simp only [List.flatten_cons, List.count_append]
              omega
            · rw [← hag, hag']; exact hgo.2
            · rw [hgo.1, h4.F, h4.St, h4.Al]; exact hR
          · cases h
        · cases h
      · cases h
    · cases h

theorem run_results {fn : Func} {tmps : Array Value} {vs : List Value} (h : (fn.results.toList.mapM (readRes tmps)).run P w = .ok vs w) : (results fn tmps).run P w = .ok (retVal vs) w := by
  have hf : ∀ (g : ResultVar → Sem Value), (∀ x, g x = readRes tmps x) → fn.results.mapM g = fn.results.mapM (readRes tmps) := fun g hg => by rw [funext hg]
  unfold results
  rw [hf]
  case a => intro x; cases x <;> rfl
  rw [Array.mapM_eq_mapM_toList]
  simp only [Sem.run_bind, Sem.run_map, h, Result.andThen_ok, Sem.run_pure]
  cases vs with
  | nil => rfl
  | cons v vs => cases vs with
    | nil => rfl
    | cons u vs => simp [retVal]

theorem OutRel.append : (us : List TVal) → (vs : List Value) → (fs : List (List Nat)) → OutRel w G us vs fs → ∀ {us' : List TVal} {vs' : List Value} {fs' : List (List Nat)}, OutRel w G us' vs' fs' → OutRel w G (us ++ us') (vs ++ vs') (fs ++ fs')
  | [], vs, fs, h, us', vs', fs', h' => by cases vs <;> cases fs <;> first | exact h' | exact h.elim
  | u :: us, vs, fs, h, us', vs', fs', h' => by
    cases vs <;> cases fs <;> first | exact h.elim | skip
    exact ⟨h.1, OutRel.append us _ _ h.2 h'⟩
theorem OutRel.lens : (us : List TVal) → (vs : List Value) → (fs : List (List Nat)) → OutRel w G us vs fs → vs.length = us.length
  | [], vs, fs, h => by cases vs <;> cases fs <;> first | rfl | exact h.elim
  | u :: us, vs, fs, h => by
    cases vs <;> cases fs <;> first | exact h.elim | skip
    simp [OutRel.lens us _ _ h.2]

theorem ioC_rel (np : Nat) (hnp : W0.np = np) : (ms : List Mode) → (i : Nat) → (σ : State) → (G : Ghost) → (xs : List Nat) → (ios : List TVal) → (σ' : State) → (args : List Value) → ioC np ms i σ = some (ios, σ') → Inv W0 M σ a w G xs →
    (∀ j, args.getD j undef = W0.arg (i + j)) → args.length = ms.length →
    ∃ fps G', Inv W0 M σ' a w G' (fps.flatten ++ xs) ∧ Sim G G' ∧ OutRel w G' ios (ioArgs ms args) fps ∧ ios.map (·.τ) = ioTys ms ∧ ios.all TVal.allO = true ∧ ios.length = (ioArgs ms args).length
  | [], i, σ, G, xs, ios, σ', args, h, I, _, hl => by
    simp only [ioC, Option.some.injEq, Prod.mk.injEq] at h
    obtain ⟨rfl, rfl⟩ := h
    have : ioArgs [] args = [] := by cases args <;> rfl
    rw [this]
    exact ⟨[], G, by simpa using I, Sim.refl _, trivial, rfl, rfl, rfl⟩
  | m :: ms, i, σ, G, xs, ios, σ', [], h, I, _, hl => by simp at hl
  | m :: ms, i, σ, G, xs, ios, σ', x :: args, h, I, hargs, hl => by
    have hrest : ∀ j, args.getD j undef = W0.arg (i + 1 + j) := fun j => by
      have := hargs (j + 1)
      rw [show i + 1 + j = i + (j + 1) by omega]
      simpa using this
    have hl' : args.length = ms.length := by simpa using hl
    by_cases hm : ∃ τ ag, m = .inout τ ag
    · obtain ⟨τ, ag, rfl⟩ := hm
      simp only [ioC] at h
      split at h
      · rename_i u σ1 htk
        split at h
        · rename_i hc
          simp only [Bool.and_eq_true, decide_eq_true_eq, beq_iff_eq] at hc
          obtain ⟨r, hr, he⟩ := Option.map_eq_some_iff.1 h
          simp only [Prod.mk.injEq] at he
          obtain ⟨rfl, rfl⟩ := he
          obtain ⟨fp, G1, I1, hs1, hτ, hR, hsh⟩ := take_rel I htk
          obtain ⟨fps, G2, I2, hs2, ho, ht, hO, hln⟩ := ioC_rel np hnp ms (i + 1) σ1 G1 _ r.1 r.2 args hr I1 hrest hl'
          have hx : a.eval (.tmp i) = x := by
            have h1 := I.pin i (by rw [hnp]; exact hc.1.1)
            have h2 := hargs 0
            simp only [List.getD_cons_zero, Nat.add_zero] at h2
            exact h1.trans h2.symm
          rw [hx] at hR hsh
          refine ⟨fp :: fps, G2, ?_, hs1.trans hs2, ⟨⟨hsh, by rw [hs2.F, hs2.St, hs2.Al]; exact hR⟩, ho⟩, ?_, ?_, ?_⟩
          · refine I2.perm (List.perm_iff_count.2 fun z => ?_)
            simp only [List.flatten_cons, List.count_append]
            omega
          · simp only [List.map_cons, ioTys, ht, hτ]
          · simp only [List.all_cons, hO, hc.1.2, Bool.and_self]
          · simp only [List.length_cons, ioArgs, hln]
        · cases h
      · cases h
    · have e1 : ioC np (m :: ms) i σ = ioC np ms (i + 1) σ := by cases m <;> first | rfl | exact absurd ⟨_, _, rfl⟩ hm
      have e2 : ioArgs (m :: ms) (x :: args) = ioArgs ms args := by cases m <;> first | rfl | exact absurd ⟨_, _, rfl⟩ hm
      have e3 : ioTys (m :: ms) = ioTys ms := by cases m <;> first | rfl | exact absurd ⟨_, _, rfl⟩ hm
      rw [e1] at h
      rw [e2, e3]
      exact ioC_rel np hnp ms (i + 1) σ G xs ios σ' args h I hrest hl'
end
end Go.PI
namespace Go.PI

section
variable {w : World} {F : Nat → Nat} {St Al : Nat → Prop}

theorem Rp.narrow {Al' : Nat → Prop} : {τ : Ty} → {tg : List Tag} → {cs : List Value} → {x : El τ} → {fp : List Nat} → Rp w F St Al τ tg cs x fp → (∀ t ∈ tg, t.isN = false) → (∀ b ∈ fp, Al' b) → Rp w F St Al' τ tg cs x fp
  | .int _, _, _, _, _, h, _, _ => h
  | .bool, _, _, _, _, h, _, _ => h
  | .str, _, _, _, _, h, _, _ => h
  | .unit, _, _, _, _, h, _, _ => h
  | .pair a b, _, _, _, _, h, hN, hf => by
    obtain ⟨t1, t2, c1, c2, f1, f2, rfl, rfl, rfl, h1, h2⟩ := h
    exact ⟨t1, t2, c1, c2, f1, f2, rfl, rfl, rfl, Rp.narrow h1 (fun t ht => hN t (List.mem_append_left _ ht)) (fun b hb => hf b (List.mem_append_left _ hb)), Rp.narrow h2 (fun t ht => hN t (List.mem_append_right _ ht)) (fun b hb => hf b (List.mem_append_right _ hb))⟩
  | .slice e, _, _, _, _, h, hN, hf => by
    obtain ⟨t, a, cap, rfl, rfl, hl, h⟩ := h
    have ht := hN t (by simp)
    have hin : ∀ t' ∈ List.replicate (leaves e) t.inner, t'.isN = false := by
      intro t' ht'
      obtain ⟨_, rfl⟩ := List.mem_replicate.1 ht'
      cases t <;> simp_all [Tag.isN, Tag.inner]
    refine ⟨t, a, cap, rfl, rfl, hl, ?_⟩
    rcases h with h | ⟨ho, b, o, fps, rfl, hal, rfl, hfl, hr, hF, hel⟩ | ⟨ho, rfl, hx⟩
    · exact .inl h
    · refine .inr (.inl ⟨ho, b, o, fps, rfl, hf b (by simp), rfl, hfl, hr, hF, fun k hk => ?_⟩)
      obtain ⟨cs', h1, h2⟩ := hel k hk
      exact ⟨cs', h1, Rp.narrow h2 hin fun c hc => hf c (List.mem_cons_of_mem _ (getD_flatten hc))⟩
    · refine .inr (.inr ⟨ho, rfl, hx.imp id ?_⟩)
      rintro ⟨b, o, rfl, htb, hF, hel⟩
      refine ⟨b, o, rfl, ?_, hF, fun k hk => ?_⟩
      · cases t <;> simp_all [Tag.isN, Tag.own, tagB]
      · obtain ⟨cs', h1, h2⟩ := hel k hk
        exact ⟨cs', h1, Rp.narrow h2 hin (by simp)⟩

theorem Rp.toS {St' Al' : Nat → Prop} (hA : ∀ b, Al b → St' b) (hS : ∀ b, St b → St' b) : {τ : Ty} → {tg : List Tag} → {cs : List Value} → {x : El τ} → {fp : List Nat} → Rp w F St Al τ tg cs x fp → Rp w F St' Al' τ (List.replicate (leaves τ) .S) cs x []
  | .int _, _, _, _, _, h => by obtain ⟨h1, _, _⟩ := h; exact ⟨h1, rfl, rfl⟩
  | .bool, _, _, _, _, h => by obtain ⟨h1, _, _⟩ := h; exact ⟨h1, rfl, rfl⟩
  | .str, _, _, _, _, h => by obtain ⟨h1, _, _⟩ := h; exact ⟨h1, rfl, rfl⟩
  | .unit, _, _, _, _, h => by obtain ⟨h1, _, _⟩ := h; exact ⟨h1, rfl, rfl⟩
  | .pair a b, _, _, _, _, h => by
    obtain ⟨t1, t2, c1, c2, f1, f2, rfl, rfl, rfl, h1, h2⟩ := h
    exact ⟨_, _, c1, c2, [], [], by rw [leaves, List.replicate_append_replicate], rfl, rfl, Rp.toS hA hS h1, Rp.toS hA hS h2⟩
  | .slice e, _, _, _, _, h => by
    obtain ⟨t, a, cap, rfl, rfl, hl, h⟩ := h
    refine ⟨.S, a, cap, rfl, rfl, hl, .inr (.inr ⟨rfl, rfl, ?_⟩)⟩
    rcases h with ⟨_, _, hx, _⟩ | ⟨ho, b, o, fps, rfl, hal, rfl, hfl, hr, hF, hel⟩ | ⟨ho, rfl, hx⟩
    · exact .inl hx
    · refine .inr ⟨b, o, rfl, hA b hal, by omega, fun k hk => ?_⟩
      obtain ⟨cs', h1, h2⟩ := hel k hk
      exact ⟨cs', h1, Rp.toS hA hS h2⟩
    · refine hx.imp id ?_
      rintro ⟨b, o, rfl, htb, hF, hel⟩
      refine ⟨b, o, rfl, ?_, hF, fun k hk => ?_⟩
      · cases t with
        | S => exact hS b htb
        | N => exact hA b htb
        | _ => cases ho
      · obtain ⟨cs', h1, h2⟩ := hel k hk
        exact ⟨cs', h1, Rp.toS hA hS h2⟩

theorem Rp.unstable {St' Al' : Nat → Prop} (hS : ∀ b, St b → Al' b) (hA : ∀ b, Al b → Al' b) : {τ : Ty} → {tg : List Tag} → {cs : List Value} → {x : El τ} → {fp : List Nat} → Rp w F St Al τ tg cs x fp → Rp w F St' Al' τ (tg.map (Tag.back false)) cs x fp
  | .int _, _, _, _, _, h => by obtain ⟨h1, rfl, h3⟩ := h; exact ⟨h1, rfl, h3⟩
  | .bool, _, _, _, _, h => by obtain ⟨h1, rfl, h3⟩ := h; exact ⟨h1, rfl, h3⟩
  | .str, _, _, _, _, h => by obtain ⟨h1, rfl, h3⟩ := h; exact ⟨h1, rfl, h3⟩
  | .unit, _, _, _, _, h => by obtain ⟨h1, rfl, h3⟩ := h; exact ⟨h1, rfl, h3⟩
  | .pair a b, _, _, _, _, h => by
    obtain ⟨t1, t2, c1, c2, f1, f2, rfl, rfl, rfl, h1, h2⟩ := h
    exact ⟨_, _, c1, c2, f1, f2, by rw [List.map_append], rfl, rfl, Rp.unstable hS hA h1, Rp.unstable hS hA h2⟩
  | .slice e, _, _, _, _, h => by
    obtain ⟨t, a, cap, rfl, rfl, hl, h⟩ := h
    have hin : (List.replicate (leaves e) t.inner).map (Tag.back false) = List.replicate (leaves e) (Tag.back false t).inner := by
      rw [List.map_replicate]; cases t <;> rfl
    refine ⟨Tag.back false t, a, cap, rfl, rfl, hl, ?_⟩
    rcases h with ⟨ho, h⟩ | ⟨ho, b, o, fps, rfl, hal, rfl, hfl, hr, hF, hel⟩ | ⟨ho, rfl, hx⟩
    · exact .inl ⟨(by cases t <;> first | rfl | cases ho), h⟩
    · refine .inr (.inl ⟨(by cases t <;> first | rfl | cases ho), b, o, fps, rfl, hA b hal, rfl, hfl, hr, hF, fun k hk => ?_⟩)
      obtain ⟨cs', h1, h2⟩ := hel k hk
      exact ⟨cs', h1, by rw [← hin]; exact Rp.unstable hS hA h2⟩
    · refine .inr (.inr ⟨(by cases t <;> first | rfl | cases ho), rfl, hx.imp id ?_⟩)
      rintro ⟨b, o, rfl, htb, hF, hel⟩
      refine ⟨b, o, rfl, ?_, hF, fun k hk => ?_⟩
      · cases t with
        | S => exact hS b htb
        | N => exact hA b htb
        | _ => cases ho
      · obtain ⟨cs', h1, h2⟩ := hel k hk
        exact ⟨cs', h1, by rw [← hin]; exact Rp.unstable hS hA h2⟩
end
end Go.PI
namespace Go.PI

section
variable {W0 : Base} {M : Nat → Prop} {σ : State} {a : Act} {w w' : World} {G : Ghost} {xs : List Nat} {P : Program} {tys : List (TypeId × Ty × List TypeId)}

theorem OutRel.narrow : (vs : List TVal) → (ys : List Value) → (fs : List (List Nat)) → OutRel w G vs ys fs → (∀ v ∈ vs, v.noN = true) → ResRel w G.F G.St vs ys fs
  | [], ys, fs, h, _ => by cases ys <;> cases fs <;> exact h
  | v :: vs, ys, fs, h, hn => by
    cases ys <;> cases fs <;> first | exact h.elim | skip
    obtain ⟨⟨h1, h2⟩, h3⟩ := h
    exact ⟨⟨h1, hn v (by simp), h2.narrow (TVal.noN_iff.1 (hn v (by simp))) fun b hb => hb⟩, OutRel.narrow vs _ _ h3 fun u hu => hn u (List.mem_cons_of_mem _ hu)⟩

theorem OutRel.toS {St' : Nat → Prop} (hA : ∀ b, G.Al b → St' b) (hS : ∀ b, G.St b → St' b) : (vs : List TVal) → (ys : List Value) → (fs : List (List Nat)) → OutRel w G vs ys fs →
    ResRel w G.F St' (vs.map fun v => { v with tg := v.tg.map fun _ => Tag.S }) ys (List.replicate vs.length [])
  | [], ys, fs, h => by cases ys <;> cases fs <;> first | exact h.elim | trivial
  | v :: vs, ys, fs, h => by
    cases ys <;> cases fs <;> first | exact h.elim | skip
    obtain ⟨⟨h1, h2⟩, h3⟩ := h
    refine ⟨⟨h1, ?_, ?_⟩, OutRel.toS hA hS vs _ _ h3⟩
    · rw [TVal.noN_iff]
      intro t ht
      obtain ⟨_, _, rfl⟩ := List.mem_map.1 ht
      rfl
    · have : v.tg.map (fun _ => Tag.S) = List.replicate (leaves v.τ) .S := by rw [List.map_const', h2.len.2]
      show Rp w G.F St' _ v.τ (v.tg.map fun _ => Tag.S) _ v.x []
      rw [this]
      exact h2.toS hA hS

theorem boxesAt_get {σ : State} : (rs : List Nat) → (l : List TVal) → σ.boxesAt rs = some l → l.length = rs.length ∧ ∀ (j : Nat) (v : TVal), l[j]? = some v → σ.boxAt (rs.getD j 0) = some v
  | [], l, h => by
    simp only [State.boxesAt, Option.some.injEq] at h
    subst h
    exact ⟨rfl, fun j v hj => by simp at hj⟩
  | r :: rs, l, h => by
    simp only [State.boxesAt] at h
    split at h
    · rename_i v l' hv hl'
      cases h
      obtain ⟨h1, h2⟩ := boxesAt_get rs l' hl'
      refine ⟨by simp [h1], fun j u hj => ?_⟩
      cases j with
      | zero => simp only [List.getElem?_cons_zero, Option.some.injEq] at hj; subst hj; simpa using hv
      | succ j => simpa using h2 j u (by simpa using hj)
    · cases h

theorem boxes_mk {F : Nat → Nat} {St : Nat → Prop} : (ext : List TVal) → (ads : List Nat) → (efps : List (List Nat)) → ads.length = ext.length → efps.length = ext.length →
    (∀ (j : Nat) (v : TVal), ext[j]? = some v → ∃ c T, w.heap[ads.getD j 0]? = some (.cells c T (0, 0)) ∧ Rp w F St (· ∈ efps.getD j []) v.τ v.tg c.toList v.x (efps.getD j [])) → BoxesRel w F St ext ads efps
  | [], ads, efps, h1, h2, h => by
    cases ads <;> cases efps <;> first | trivial | simp at h1 | simp at h2
  | v :: ext, ads, efps, h1, h2, h => by
    cases ads with
    | nil => simp at h1
    | cons l ads =>
    cases efps with
    | nil => simp at h2
    | cons f efps =>
    exact ⟨h 0 v rfl, boxes_mk ext ads efps (by simpa using h1) (by simpa using h2) fun j u hj => h (j + 1) u (by simpa using hj)⟩

theorem range_getD (n m j : Nat) (h : j < m) : ((List.range m).map (n + ·)).getD j 0 = n + j := by
  rw [List.getD_eq_getElem?_getD, List.getElem?_map, List.getElem?_range h]; rfl
end
end Go.PI
namespace Go.PI

section
variable {P : Program} {R : Type} {Γ : Env R}

theorem fun_sound [Subsingleton R] (hm : P.follows .mixedOrders = true) (hT : TysOk P Γ.tys) (hcalls : CallsOk P Γ) {f : FuncId} {fn : Func} {c : Code} {X : List (Node R)} {ht : HT} {fz : Bool} {modes : List Mode} {ags : List Bool}
    (hO : OrOk P Γ.np X ht c) (hf : P.funcs[f]? = some fn) (hname : (fn.name == "runtime.NumGoroutine") = false) (hb : fn.body = some c) (hn : modes.length ≤ fn.ntmps) :
    Sound P f (⟨modes, ags, funC Γ X ht fz fn modes ags⟩ : Sig R) := by
  refine ⟨⟨fn, c, hf, hname, hb⟩, fun vals ext k r hrun w F St args ads fps efps hA hB hnd hSt hlt => ?_⟩
  have hrun : funC Γ X ht fz fn modes ags vals ext k = some r := hrun
  unfold funC at hrun
  rw [hb] at hrun
  simp only [] at hrun
  obtain ⟨hal, I0⟩ := start_inv (vals := vals) (np := Γ.np) hn hA hB hnd hSt hlt
  refine calls_of_wp hf hb ?_
  have hsz : args.toArray.size = args.length := by simp
  rw [hsz]
  obtain ⟨ha1, ha2, _⟩ := boxes_get ext ads efps hB
  refine code_sound hm hT hcalls (Nat.le_refl _) X c ht hO _ _ w _ _ r _ ?_ I0 hrun ?_
  · rintro ch a' w' ⟨_, v, res, ios, ext', h, _⟩
    cases h
  · intro e σ' a' w' G' he I'
    have main : (match resultC Γ.tys fn.results.toList ags σ' [] with
      | some (res, σ1) => (match ioC Γ.np modes 0 σ1 with
        | some (ios, σ') => (match σ'.boxesAt ((List.range ext.length).map (fn.ntmps + ·)) with
          | some ext' => if decide (σ'.slots.length = fn.ntmps) && sameTys ext ext' && ext'.all TVal.noN && ((!fz && res.all TVal.noN) || (ios.isEmpty && ext'.all fun v => v.tg.all fun t => !t.own)) then k (frozenAll fz res) ios ext' else none
          | none => none)
        | none => none)
      | none => none) = some r → a'.defers = [] ∧ ∃ v, (results fn a'.tmps).run P w' = .ok v w' ∧ ∃ v' res ios ext', Ending.returned v = .returned v' ∧ k res ios ext' = some r ∧ (sameTys ext ext' = true ∧ ios.map (·.τ) = ioTys modes ∧ ios.all TVal.allO = true) ∧ ext'.all TVal.noN = true ∧ RetOk w F St (fps.flatten ++ (efps.flatten ++ ads)) ads res ios (ioArgs modes args) ext' v' w' := by
      intro h
      refine ⟨I'.defers, ?_⟩
      split at h
      · rename_i res σ1 hres
        split at h
        · rename_i ios σ2 hio
          split at h
          case h_2 => cases h
          rename_i ext' hext
          split at h
          · rename_i hc
            simp only [Bool.and_eq_true, decide_eq_true_eq] at hc
            obtain ⟨⟨⟨hlen, hty⟩, hexN⟩, hor⟩ := hc
            obtain ⟨us0, vs0, fps0, G20, h1, h2, I20, hs20, hout0⟩ := resultC_rel hT _ _ _ _ _ _ _ _ hres I'
            have hus : us0 = res := by simpa using h1.symm
            subst hus
            obtain ⟨ifps, G2, I21, hs21, hio1, hio2, hio3, hio4⟩ := ioC_rel Γ.np rfl modes 0 σ1 G20 _ ios σ2 args hio I20 (fun j => by rw [Nat.zero_add]; rfl) hal
            have hs2 := hs20.trans hs21
            have hout00 := OutRel.sim hs21 _ _ _ hout0
            have hout : OutRel w' G2 (us0 ++ ios) (vs0 ++ ioArgs modes args) (fps0 ++ ifps) := OutRel.append _ _ _ hout00 hio1
            have hvl := OutRel.lens _ _ _ hout00
            have I2 : Inv (base0 w F St fn.ntmps ads Γ.np args) (· ∈ fps.flatten ++ (efps.flatten ++ ads)) σ2 a' w' G2 ((fps0 ++ ifps).flatten ++ []) := by
              refine I21.perm (List.perm_iff_count.2 fun z => ?_)
              simp only [List.flatten_append, List.count_append]
              omega
            have hion : ∀ v ∈ ios, v.noN = true := fun v hv => by
              have := List.all_eq_true.1 hio3 v hv
              unfold TVal.allO at this
              unfold TVal.noN
              rw [List.all_eq_true] at this ⊢
              intro t ht
              have h3 := this t ht
              cases t <;> first | rfl | cases h3
            refine ⟨_, run_results h2, _, frozenAll fz us0, ios, ext', rfl, h, ⟨hty, hio2, hio3⟩, hexN, ?_⟩
            obtain ⟨us, hUs⟩ : ∃ us, us = us0 ++ ios := ⟨_, rfl⟩
            obtain ⟨fps', hFps⟩ : ∃ f, f = fps0 ++ ifps := ⟨_, rfl⟩
            rw [← hUs, ← hFps] at hout
            rw [← hFps] at I2
            obtain ⟨hl1, hl2⟩ := boxesAt_get _ _ hext
            have hl1' : ext'.length = ext.length := by simpa using hl1
            have hexN' : ∀ v ∈ ext', v.noN = true := by simpa [List.all_eq_true] using hexN
            -- the boxes
            have hbox : ∀ (j : Nat) (v : TVal), ext'[j]? = some v → (∃ c T, w'.heap[ads.getD j 0]? = some (.cells c T (0, 0)) ∧ Rp w' G2.F G2.St G2.Al v.τ v.tg c.toList v.x (G2.fb (fn.ntmps + j))) ∧ G2.who (ads.getD j 0) = some (.a (fn.ntmps + j)) := by
              intro j v hj
              have hjl : j < ext.length := by rw [← hl1']; exact (List.getElem?_eq_some_iff.1 hj).1
              have h3 := hl2 j v hj
              rw [range_getD _ _ _ hjl] at h3
              have h4 := I2.box _ v h3
              have h5 : G2.ad (fn.ntmps + j) = ads.getD j 0 := by
                rw [I2.adx (fn.ntmps + j) (by rw [hlen]; omega)]
                show (if fn.ntmps ≤ fn.ntmps + j then ads.getD (fn.ntmps + j - fn.ntmps) 0 else 0) = _
                rw [if_pos (by omega), Nat.add_sub_cancel_left]
              rw [h5] at h4
              exact h4
            have hads : ∀ b ∈ ads, ∃ j, j < ext.length ∧ b = ads.getD j 0 ∧ G2.who b = some (.a (fn.ntmps + j)) := by
              intro b hb
              obtain ⟨j, hj, rfl⟩ := List.mem_iff_getElem.1 hb
              have hje : j < ext'.length := by omega
              obtain ⟨_, h5⟩ := hbox j ext'[j] (List.getElem?_eq_getElem hje)
              have : ads.getD j 0 = ads[j] := by rw [List.getD_eq_getElem?_getD, List.getElem?_eq_getElem hj]; rfl
              rw [this] at h5
              exact ⟨j, by omega, this.symm, h5⟩
            have hadsN : ads.Nodup := (List.nodup_append.1 (List.nodup_append.1 hnd).2.1).2.1
            have hwho : ∀ b z, G2.who b = some z → (w.heap.size ≤ b ∨ b ∈ fps.flatten ++ (efps.flatten ++ ads)) ∧ b < w'.heap.size := fun b z hb => ⟨(I2.lt b z hb).2, (I2.lt b z hb).1⟩
            have hSn : ∀ b z, G2.who b = some z → ¬ G2.St b := fun b z hb hS => by rw [(I2.st b hS).1] at hb; cases hb
            by_cases hall : (!fz && us0.all TVal.noN) = true
            · -- all told
              have hfz : frozenAll fz us0 = us0 := by unfold frozenAll; rw [if_pos hall]
              rw [hfz]
              have husN : ∀ v ∈ us, v.noN = true := fun v hv => by
                rw [hUs] at hv
                rcases List.mem_append.1 hv with hv | hv
                · exact List.all_eq_true.1 (Bool.and_eq_true_iff.1 hall).2 v hv
                · exact hion v hv
              let efps' : List (List Nat) := (List.range ext.length).map fun j => G2.fb (fn.ntmps + j)
              have hef : ∀ j, j < ext.length → efps'.getD j [] = G2.fb (fn.ntmps + j) := by
                intro j hj
                simp only [efps']
                rw [List.getD_eq_getElem?_getD, List.getElem?_map, List.getElem?_range hj]; rfl
              have hem : ∀ b ∈ efps'.flatten, ∃ j, b ∈ G2.fb (fn.ntmps + j) := by
                intro b hb
                obtain ⟨f, hf, hbf⟩ := List.mem_flatten.1 hb
                obtain ⟨j, _, rfl⟩ := List.mem_map.1 hf
                exact ⟨j, hbf⟩
              have hen : efps'.flatten.Nodup := by
                have : ∀ m, (((List.range m).map fun j => G2.fb (fn.ntmps + j)).flatten).Nodup := by
                  intro m
                  induction m with
                  | zero => simp
                  | succ m ih =>
                    rw [List.range_succ, List.map_append, List.flatten_append]
                    refine List.nodup_append.2 ⟨ih, by simpa using I2.nodC _, fun b hb b' hb' hbb => ?_⟩
                    subst hbb
                    obtain ⟨f, hf, hbf⟩ := List.mem_flatten.1 hb
                    obtain ⟨j, hj, rfl⟩ := List.mem_map.1 hf
                    have h5 := I2.whoC _ b hbf
                    have h6 := I2.whoC (fn.ntmps + m) b (by simpa using hb')
                    rw [h5] at h6
                    simp only [Option.some.injEq, Who.c.injEq] at h6
                    have := List.mem_range.1 hj
                    omega
                exact this _
              refine ⟨G2.F, G2.St, vs0, fps', efps', ⟨rfl, hio4, hvl⟩, by rw [← hUs]; exact hout.narrow _ _ _ husN, boxes_mk _ _ _ (by omega) (by simp [efps', hl1']) (fun j v hj => ?_), I2.ext, I2.org.F, I2.org.St, fun b hb => ⟨I2.org.St' b hb, (I2.st b hb).2⟩, ?_, ?_⟩
              · have hjl : j < ext.length := by rw [← hl1']; exact (List.getElem?_eq_some_iff.1 hj).1
                obtain ⟨⟨c, T, hc, hR⟩, _⟩ := hbox j v hj
                refine ⟨c, T, hc, ?_⟩
                rw [hef j hjl]
                exact hR.narrow (TVal.noN_iff.1 (hexN' v (List.mem_of_getElem? hj))) fun b hb => hb
              · have hx := I2.nodX
                rw [List.append_nil] at hx
                refine List.nodup_append.2 ⟨hx, List.nodup_append.2 ⟨hen, hadsN, fun b hb b' hb' hbb => ?_⟩, fun b hb b' hb' hbb => ?_⟩
                · subst hbb
                  obtain ⟨j, hj⟩ := hem b hb
                  obtain ⟨j', _, _, h5⟩ := hads b hb'
                  rw [I2.whoC _ b hj] at h5; cases h5
                · subst hbb
                  have h5 := I2.whoX b (by simpa using hb)
                  rcases List.mem_append.1 hb' with hb' | hb'
                  · obtain ⟨j, hj⟩ := hem b hb'
                    rw [I2.whoC _ b hj] at h5; cases h5
                  · obtain ⟨j', _, _, h6⟩ := hads b hb'
                    rw [h6] at h5; cases h5
              · intro b hb
                have : ∃ z, G2.who b = some z := by
                  rcases List.mem_append.1 hb with hb | hb
                  · exact ⟨_, I2.whoX b (by simpa using hb)⟩
                  · rcases List.mem_append.1 hb with hb | hb
                    · obtain ⟨j, hj⟩ := hem b hb
                      exact ⟨_, I2.whoC _ b hj⟩
                    · obtain ⟨j', _, _, h6⟩ := hads b hb
                      exact ⟨_, h6⟩
                obtain ⟨z, hz⟩ := this
                exact ⟨(hwho b z hz).1, (hwho b z hz).2, hSn b z hz⟩
            · -- told as stable
              have hfz : frozenAll fz us0 = us0.map fun v => { v with tg := v.tg.map fun _ => Tag.S } := by unfold frozenAll; rw [if_neg hall]
              rw [hfz]
              have hor2 : ios = [] ∧ ∀ v ∈ ext', ∀ t ∈ v.tg, t.own = false := by
                simp only [Bool.or_eq_true] at hor
                rcases hor with h5 | h5
                · exact absurd h5 hall
                · simp only [Bool.and_eq_true, List.isEmpty_iff] at h5
                  exact ⟨h5.1, by simpa [List.all_eq_true] using h5.2⟩
              obtain ⟨hio0, hno⟩ := hor2
              have hia : ioArgs modes args = [] := List.length_eq_zero_iff.1 (by rw [← hio4, hio0]; rfl)
              have hus0 : us = us0 := by rw [hUs, hio0, List.append_nil]
              rw [hus0, hia, List.append_nil] at hout
              rw [hia, hio0]
              have hrep : (List.replicate us0.length ([] : List Nat)).flatten = [] := rep_nil_flatten _
              have hrep2 : (List.replicate ext.length ([] : List Nat)).flatten = [] := rep_nil_flatten _
              refine ⟨G2.F, G2.Al, vs0, List.replicate us0.length [], List.replicate ext.length [], ⟨rfl, rfl, by simpa using hvl⟩, by rw [List.append_nil, List.append_nil]; exact OutRel.toS (fun _ h => h) (Ghost.St_Al I2) us0 vs0 fps' hout, boxes_mk _ _ _ (by omega) (by simp [hl1']) (fun j v hj => ?_), I2.ext, I2.org.F, fun b hb => Ghost.St_Al I2 b (I2.org.St b hb), fun b hb => ?_, ?_, ?_⟩
              · obtain ⟨⟨c, T, hc, hR⟩, _⟩ := hbox j v hj
                refine ⟨c, T, hc, ?_⟩
                have hf0 := hR.fp_nil (hno v (List.mem_of_getElem? hj))
                rw [hf0] at hR
                rw [rep_nil_getD]
                exact (hR.narrow (Al' := (· ∈ ([] : List Nat))) (TVal.noN_iff.1 (hexN' v (List.mem_of_getElem? hj))) (by simp)).pres (Ghost.St_Al I2) (fun b _ h => h) (fun b _ => KeepB.refl _ _ _) (by simp) (.inr fun b _ _ => KeepB.refl _ _ _)
              · cases hz : G2.who b with
                | none => exact ⟨I2.org.St' b (hb.2 hz), (I2.st b (hb.2 hz)).2⟩
                | some z => exact ⟨.inr (hwho b z hz).1, (hwho b z hz).2⟩
              · rw [hrep, hrep2]; simpa using hadsN
              · rw [hrep, hrep2]
                intro b hb
                obtain ⟨j', _, _, h6⟩ := hads b (by simpa using hb)
                exact ⟨(hwho b _ h6).1, (hwho b _ h6).2, fun hA => hA.1 _ h6⟩
          · cases h
        · cases h
      · cases h
    cases e with
    | normal => exact main he
    | ret => exact main he
    | exit id => cases he
end
end Go.PI
namespace Go.PI

structure Up (G G' : Ghost) : Prop where
  F : G'.F = G.F
  St : ∀ b, G.St b → G'.St b
  ad : G'.ad = G.ad
  Al : G'.Al = G.Al
  bx : ∀ b i, G'.who b = some (.a i) ↔ G.who b = some (.a i)

theorem Up.refl (G : Ghost) : Up G G := ⟨rfl, fun _ h => h, rfl, rfl, fun _ _ => Iff.rfl⟩
theorem Up.trans {G1 G2 G3 : Ghost} (h : Up G1 G2) (k : Up G2 G3) : Up G1 G3 := ⟨k.F.trans h.F, fun b hb => k.St b (h.St b hb), k.ad.trans h.ad, k.Al.trans h.Al, fun b i => (k.bx b i).trans (h.bx b i)⟩
theorem Sim.up {G G' : Ghost} (h : Sim G G') : Up G G' := ⟨h.F, fun b hb => by rw [h.St]; exact hb, h.ad, h.Al, h.bx⟩
theorem Up.lift {w : World} {G G' : Ghost} (h : Up G G') {τ : Ty} {tg : List Tag} {cs : List Value} {x : El τ} {fp : List Nat} (hr : Rp w G.F G.St G.Al τ tg cs x fp) : Rp w G'.F G'.St G'.Al τ tg cs x fp := by
  rw [h.F, h.Al]
  exact hr.pres h.St (fun _ _ h => h) (fun b _ => KeepB.refl _ _ _) (fun b _ => ⟨KeepB.refl _ _ _, rfl⟩) (.inr fun b _ _ => KeepB.refl _ _ _)
theorem Up.calmer {w : World} {G G' : Ghost} (h : Up G G') : Calmer w G w G' := ⟨fun w2 hc =>
  ⟨fun b hb ha o n cs hn h1 => hc.1 b hb (by rw [h.Al]; exact ha) o n cs (by rw [h.F]; exact hn) h1, fun i b hb => hc.2 i b ((h.bx b i).2 hb)⟩, fun w2 hc i b hb => hc i b ((h.bx b i).2 hb)⟩

def ArgC (w : World) (G : Ghost) : List Mode → List Value → List TVal → List (List Nat) → List (Nat × Value) → Prop
  | [], [], [], [], [] => True
  | .borrow τ ag :: ms, x :: xs, v :: vs, f :: fs, ls => f = [] ∧ Shaped ag x ∧ Rp w G.F G.St G.Al v.τ v.tg (vCells x) v.x [] ∧ ArgC w G ms xs vs fs ls
  | .consume τ ag :: ms, x :: xs, v :: vs, f :: fs, ls => Shaped ag x ∧ Rp w G.F G.St G.Al v.τ v.tg (vCells x) v.x f ∧ ArgC w G ms xs vs fs ls
  | .eat τ ag :: ms, x :: xs, v :: vs, f :: fs, ls => Shaped ag x ∧ Rp w G.F G.St G.Al v.τ v.tg (vCells x) v.x f ∧ ArgC w G ms xs vs fs ls
  | .ptr τ :: ms, x :: xs, vs, fs, l :: ls => x = l.2 ∧ ArgC w G ms xs vs fs ls
  | .clos g τs :: ms, x :: xs, vs, fs, ls => (τs.length ≤ ls.length ∧ x = .func (.func g) #[] ((ls.take τs.length).map (·.2)).toArray) ∧ ArgC w G ms xs vs fs (ls.drop τs.length)
  | _, _, _, _, _ => False

section
variable {W0 : Base} {M : Nat → Prop} {σ : State} {a : Act} {w w' : World} {G : Ghost} {xs : List Nat} {P : Program}
variable {R : Type} {r : R}

theorem freeze_slot (I : Inv W0 M σ a w G xs) {t : Nat} {u : TVal} (h : σ.slot t = .val u) :
    ∃ G', Inv W0 M { σ with slots := setN σ.slots t (.val u.freeze) } a w G' xs ∧ Up G G' ∧ (∀ p, ({ σ with slots := setN σ.slots t (.val u.freeze) } : State).ct p = σ.ct p) ∧
      Shaped u.ag (a.tmps.getD t undef) ∧ Rp w G'.F G'.St G'.Al u.τ u.freeze.tg (vCells (a.tmps.getD t undef)) u.x [] := by
  have hS := I.slot t (slot_lt (by rw [h]; simp))
  rw [h] at hS
  obtain ⟨hsh, hR⟩ := hS
  have hcon : σ.content ⟨false, t, []⟩ = some u := by simp [State.content, h]
  obtain ⟨G1, I1, hs1⟩ := I.recontent (p := ⟨false, t, []⟩) (c' := u.alias) hcon rfl rfl (l := vCells (a.tmps.getD t undef)) (b := none) (f' := []) (fi := G.fs t) rfl (hR.alias (Ghost.St_Al I)) (by simp [Ghost.fpOf])
  obtain ⟨G2, I2, gF, gad, gA, gb, gS, hl⟩ := I1.freeze
  have hsl1 : (σ.setContent ⟨false, t, []⟩ u.alias).slot t = .val u.alias := by
    rw [setContent_slot hcon, if_pos ⟨rfl, slot_lt (by rw [h]; simp)⟩, h]
  have hcon1 : (σ.setContent ⟨false, t, []⟩ u.alias).content ⟨false, t, []⟩ = some u.alias := by simp [State.content, hsl1]
  have hfz : Rp w G2.F G2.St G2.Al u.τ u.freeze.tg (vCells (a.tmps.getD t undef)) u.x [] := by
    rw [gF, gA, hs1.F, hs1.Al]
    exact hR.freeze (fun b hb => (gS b).2 (.inl (by rw [hs1.St]; exact hb))) (Ghost.St_Al I) fun b hb => (gS b).2 (.inr hb)
  have hfs2 : G2.fs t = [] := by
    have hS2 := I2.slot t (slot_lt (by rw [hsl1]; simp))
    rw [hsl1] at hS2
    exact hS2.2.fp_nil (by
      intro s hs
      obtain ⟨s', _, rfl⟩ := List.mem_map.1 hs
      cases s' <;> rfl)
  obtain ⟨G3, I3, hs3⟩ := I2.recontent (p := ⟨false, t, []⟩) (c' := u.freeze) hcon1 rfl rfl (l := vCells (a.tmps.getD t undef)) (b := none) (f' := []) (fi := []) rfl hfz (by simp [Ghost.fpOf, hfs2])
  have hst : (σ.setContent ⟨false, t, []⟩ u.alias).setContent ⟨false, t, []⟩ u.freeze = { σ with slots := setN σ.slots t (.val u.freeze) } := by
    simp only [State.setContent, h]
    have : ({ σ with slots := setN σ.slots t (TV.val u.alias) } : State).slot t = .val u.alias := by
      have := hsl1
      simp only [State.setContent, h] at this
      exact this
    rw [this]
    simp only [setN_setN]
  rw [hst] at I3
  have hup : Up G G3 := ((hs1.up).trans ⟨gF, fun b hb => (gS b).2 (.inl hb), gad, gA, gb⟩).trans hs3.up
  refine ⟨G3, by simpa using I3, hup, fun p => ?_, hsh, ?_⟩
  · rw [← hst]
    rw [setContent_ct (c' := u.freeze) hcon1 rfl, setContent_ct (c' := u.alias) hcon rfl]
  · rw [hs3.F, hs3.St, hs3.Al]; exact hfz

theorem slotOf_some {o : Operand} {t : Nat} {u : TVal} (h : σ.slotOf o = some (t, u)) : o = .tmp t ∧ σ.slot t = .val u := by
  unfold State.slotOf at h
  split at h
  · rename_i t'
    split at h
    · rename_i u' hs
      split at h
      · simp only [Option.some.injEq, Prod.mk.injEq] at h
        obtain ⟨rfl, rfl⟩ := h
        exact ⟨rfl, hs⟩
      · cases h
    · cases h
  · cases h

theorem lookAs_rel (I : Inv W0 M σ a w G xs) {o : Operand} {τ : Ty} {v : TVal} (h : σ.lookAs o τ = some v) : Rp w G.F G.St G.Al v.τ v.tg (vCells (a.eval o)) v.x [] ∧ Shaped v.ag (a.eval o) := by
  unfold State.lookAs at h
  split at h
  · rename_i hpk
    split at h
    · cases h
      have hp := peek_rel I o
      rw [hpk] at hp
      obtain ⟨hv, _⟩ := hp (by simp)
      rw [hv]
      exact ⟨⟨.S, none, 0, rfl, rfl, Nat.le_refl _, .inr (.inr ⟨rfl, rfl, .inl rfl⟩)⟩, rfl⟩
    · cases h
  · exact look_rel I h

theorem PtrRel.less' {σ' : State} {G' : Ghost} (hct : ∀ q, σ'.ct q = σ.ct q) (had : G'.ad = G.ad) {p : Place} {u : Value} (h : PtrRel σ' G' a w p u) : PtrRel σ G a w p u :=
  h.sim (fun q => (hct q).symm) had.symm
end
end Go.PI
