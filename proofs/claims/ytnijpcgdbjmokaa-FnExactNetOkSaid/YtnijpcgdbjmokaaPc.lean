/-
  Plain interpretation of the program's code over typed values, and that it tells what the machine does (part 3). No conditions.
-/
import Derived.Test.YtnijpcgdbjmokaaPb
import Derived.KernelRfl
import Derived.WalkKit
import Derived.ProofKit
import Derived.OpenShut
import Derived.Below
import Derived.Carry
import Derived.WideShapes
import Derived.ShutString
import Derived.ChangeOld
set_option linter.unusedVariables false
set_option linter.unusedSimpArgs false
namespace Go.PI

/-- It knows no more. -/
def StLe (σ' σ : State) : Prop := σ'.slots.length = σ.slots.length ∧ (∀ i, σ'.slot i = σ.slot i ∨ σ'.slot i = .dead) ∧ ∀ i, σ'.boxAt i = σ.boxAt i ∨ σ'.boxAt i = none

theorem StLe.refl (σ : State) : StLe σ σ := ⟨rfl, fun _ => .inl rfl, fun _ => .inl rfl⟩
theorem forget_le (σ : State) (ks bs : List Nat) : StLe (σ.forget ks bs) σ :=
  ⟨keepSlots_len _ _ _, fun i => getN_keepSlots ks σ.slots 0 i, fun i => getN_keepBoxes bs σ.boxes 0 i⟩

/-- What is still known at an exit. -/
def cutC (n : List Nat × List Nat) (x : List (Nat × List Nat × List Nat)) (r : List Nat × List Nat) : Ex → State → State
  | .normal, σ => σ.forget n.1 n.2
  | .exit j, σ => match assoc x j with
    | some q => σ.forget q.1 q.2
    | none => σ
  | .ret, σ => σ.forget r.1 r.2

theorem cutC_le (n : List Nat × List Nat) (x : List (Nat × List Nat × List Nat)) (r : List Nat × List Nat) (e : Ex) (σ : State) : StLe (cutC n x r e σ) σ := by
  cases e with
  | normal => exact forget_le _ _ _
  | ret => exact forget_le _ _ _
  | exit j =>
    unfold cutC
    simp only []
    split
    · exact forget_le _ _ _
    · exact StLe.refl _

def fillS : Nat → Nat → List (Nat × TV) → List TV
  | 0, _, _ => []
  | n + 1, i, [] => .dead :: fillS n (i + 1) []
  | n + 1, i, (j, v) :: l => bif i == j then v :: fillS n (i + 1) l else .dead :: fillS n (i + 1) ((j, v) :: l)
def fillB : Nat → Nat → List (Nat × TVal) → List (Option TVal)
  | 0, _, _ => []
  | n + 1, i, [] => none :: fillB n (i + 1) []
  | n + 1, i, (j, v) :: l => bif i == j then some v :: fillB n (i + 1) l else none :: fillB n (i + 1) ((j, v) :: l)
/-- A state of n temporaries and m boxes, of which these are known (in rising order). -/
def mkS (n m : Nat) (ss : List (Nat × TV)) (bs : List (Nat × TVal)) : State := ⟨fillS n 0 ss, fillB m 0 bs⟩

theorem fillS_len : (n i : Nat) → (l : List (Nat × TV)) → (fillS n i l).length = n
  | 0, _, _ => by simp [fillS]
  | n + 1, i, [] => by simp [fillS, fillS_len n]
  | n + 1, i, (j, v) :: l => by
    unfold fillS
    cases i == j <;> simp [fillS_len n]
theorem fillS_get : (n i : Nat) → (l : List (Nat × TV)) → (q : Nat) → getN .dead (fillS n i l) q = .dead ∨ (i + q, getN .dead (fillS n i l) q) ∈ l
  | 0, _, _, _ => .inl rfl
  | n + 1, i, [], 0 => .inl rfl
  | n + 1, i, [], q + 1 => by
    have := fillS_get n (i + 1) [] q
    rcases this with h | h
    · exact .inl h
    · cases h
  | n + 1, i, (j, v) :: l, 0 => by
    unfold fillS
    cases h : i == j with
    | true => right; simp at h; subst h; simp [getN]
    | false => left; rfl
  | n + 1, i, (j, v) :: l, q + 1 => by
    unfold fillS
    cases h : i == j with
    | true =>
      rcases fillS_get n (i + 1) l q with h2 | h2
      · exact .inl h2
      · right
        rw [show i + (q + 1) = i + 1 + q by omega]
        exact List.mem_cons_of_mem _ h2
    | false =>
      rcases fillS_get n (i + 1) ((j, v) :: l) q with h2 | h2
      · exact .inl h2
      · right
        rw [show i + (q + 1) = i + 1 + q by omega]
        exact h2
theorem fillB_get : (n i : Nat) → (l : List (Nat × TVal)) → (q : Nat) → getN none (fillB n i l) q = none ∨ ∃ v, getN none (fillB n i l) q = some v ∧ (i + q, v) ∈ l
  | 0, _, _, _ => .inl rfl
  | n + 1, i, [], 0 => .inl rfl
  | n + 1, i, [], q + 1 => by
    rcases fillB_get n (i + 1) [] q with h | ⟨v, _, h⟩
    · exact .inl h
    · cases h
  | n + 1, i, (j, v) :: l, 0 => by
    unfold fillB
    cases h : i == j with
    | true => right; simp at h; subst h; exact ⟨v, by simp [getN]⟩
    | false => left; rfl
  | n + 1, i, (j, v) :: l, q + 1 => by
    unfold fillB
    cases h : i == j with
    | true =>
      rcases fillB_get n (i + 1) l q with h2 | ⟨u, h1, h2⟩
      · exact .inl h2
      · right
        refine ⟨u, h1, ?_⟩
        rw [show i + (q + 1) = i + 1 + q by omega]
        exact List.mem_cons_of_mem _ h2
    | false =>
      rcases fillB_get n (i + 1) ((j, v) :: l) q with h2 | ⟨u, h1, h2⟩
      · exact .inl h2
      · right
        refine ⟨u, h1, ?_⟩
        rw [show i + (q + 1) = i + 1 + q by omega]
        exact h2

/-- What is known there, and so what stands here. -/
def SlotsAt (σ : State) : List (Nat × TV) → Prop
  | [] => True
  | (i, v) :: l => σ.slot i = v ∧ SlotsAt σ l
def BoxesAt (σ : State) : List (Nat × TVal) → Prop
  | [] => True
  | (i, v) :: l => σ.boxAt i = some v ∧ BoxesAt σ l
theorem SlotsAt.mem {σ : State} : {l : List (Nat × TV)} → SlotsAt σ l → {i : Nat} → {v : TV} → (i, v) ∈ l → σ.slot i = v
  | (j, u) :: l, h, i, v, hm => by
    rcases List.mem_cons.1 hm with hm | hm
    · cases hm; exact h.1
    · exact SlotsAt.mem h.2 hm
theorem BoxesAt.mem {σ : State} : {l : List (Nat × TVal)} → BoxesAt σ l → {i : Nat} → {v : TVal} → (i, v) ∈ l → σ.boxAt i = some v
  | (j, u) :: l, h, i, v, hm => by
    rcases List.mem_cons.1 hm with hm | hm
    · cases hm; exact h.1
    · exact BoxesAt.mem h.2 hm

theorem mkS_le {σ : State} {n m : Nat} {ss : List (Nat × TV)} {bs : List (Nat × TVal)} (hn : σ.slots.length = n) (hs : SlotsAt σ ss) (hb : BoxesAt σ bs) : StLe (mkS n m ss bs) σ := by
  refine ⟨(fillS_len _ _ _).trans hn.symm, fun i => ?_, fun i => ?_⟩
  · rcases fillS_get n 0 ss i with h | h
    · exact .inr h
    · rw [Nat.zero_add] at h
      exact .inl (hs.mem h).symm
  · rcases fillB_get m 0 bs i with h | ⟨v, h1, h⟩
    · exact .inr h
    · rw [Nat.zero_add] at h
      exact .inl (h1.trans (hb.mem h).symm)

/-! ### Reading a state -/
section
variable {R : Type} {r : R}

def rdN (σ : State) (n : Nat) (f : Option R) : Option R := if σ.slots.length = n then f else none
def asV (v : TVal) (τ : Ty) (ag : Bool) (tg : List Tag) (f : El τ → Option R) : Option R :=
  if v.ag = ag ∧ v.tg = tg then (if h : v.τ = τ then f (h ▸ v.x) else none) else none
def rdV (σ : State) (i : Nat) (τ : Ty) (ag : Bool) (tg : List Tag) (f : El τ → Option R) : Option R :=
  match σ.slot i with
  | .val v => asV v τ ag tg f
  | _ => none
def rdU (σ : State) (i : Nat) (τ : Ty) (ag : Bool) (tg : List Tag) (ags : List Bool) (f : El τ → Option R) : Option R :=
  match σ.slot i with
  | .tup v l => if l = ags then asV v τ ag tg f else none
  | _ => none
def rdE (σ : State) (i : Nat) (τ : Ty) (ag : Bool) (tg : List Tag) (t : Tag) (f : El τ → Option R) : Option R :=
  match σ.slot i with
  | .eptr v s => if s = t then asV v τ ag tg f else none
  | _ => none
def argB (v : TVal) (τ : Ty) (tg : List Tag) (f : Bool → El τ → Option R) : Option R :=
  if v.tg = tg then (if h : v.τ = τ then f v.ag (h ▸ v.x) else none) else none
def argV (v : TVal) (τ : Ty) (f : El τ → Option R) : Option R := if h : v.τ = τ then f (h ▸ v.x) else none
def rdB (σ : State) (i : Nat) (τ : Ty) (tg : List Tag) (f : Bool → El τ → Option R) : Option R :=
  match σ.boxAt i with
  | some v => argB v τ tg f
  | none => none
def TV.same : TV → TV → Bool
  | .nil, .nil => true
  | .ref p a, .ref q b => decide (p = q ∧ a = b)
  | .ptr p, .ptr q => decide (p = q)
  | .eref p, .eref q => decide (p = q)
  | .clos f ps, .clos g qs => decide (f = g ∧ ps = qs)
  | _, _ => false
def rdT (σ : State) (i : Nat) (p : TV) (f : Option R) : Option R := bif (σ.slot i).same p then f else none

theorem rdN_some {σ : State} {n : Nat} {f : Option R} (h : rdN σ n f = some r) : σ.slots.length = n ∧ f = some r := by
  unfold rdN at h
  split at h
  · rename_i hn; exact ⟨hn, h⟩
  · cases h
theorem asV_some {v : TVal} {τ : Ty} {ag : Bool} {tg : List Tag} {f : El τ → Option R} (h : asV v τ ag tg f = some r) : ∃ x, v = ⟨τ, ag, x, tg⟩ ∧ f x = some r := by
  unfold asV at h
  split at h
  · rename_i hc
    split at h
    · rename_i hτ
      obtain ⟨τ', ag', x, tg'⟩ := v
      obtain ⟨h1, h2⟩ := hc
      simp only at hτ h1 h2
      subst hτ; subst h1; subst h2
      exact ⟨x, rfl, h⟩
    · cases h
  · cases h
theorem rdV_some {σ : State} {i : Nat} {τ : Ty} {ag : Bool} {tg : List Tag} {f : El τ → Option R} (h : rdV σ i τ ag tg f = some r) : ∃ x, σ.slot i = .val ⟨τ, ag, x, tg⟩ ∧ f x = some r := by
  unfold rdV at h
  split at h
  · rename_i v hv
    obtain ⟨x, rfl, hf⟩ := asV_some h
    exact ⟨x, hv, hf⟩
  · cases h
theorem rdU_some {σ : State} {i : Nat} {τ : Ty} {ag : Bool} {tg : List Tag} {ags : List Bool} {f : El τ → Option R} (h : rdU σ i τ ag tg ags f = some r) : ∃ x, σ.slot i = .tup ⟨τ, ag, x, tg⟩ ags ∧ f x = some r := by
  unfold rdU at h
  split at h
  · rename_i v l hv
    split at h
    · rename_i hl
      subst hl
      obtain ⟨x, rfl, hf⟩ := asV_some h
      exact ⟨x, hv, hf⟩
    · cases h
  · cases h
theorem rdE_some {σ : State} {i : Nat} {τ : Ty} {ag : Bool} {tg : List Tag} {t : Tag} {f : El τ → Option R} (h : rdE σ i τ ag tg t f = some r) : ∃ x, σ.slot i = .eptr ⟨τ, ag, x, tg⟩ t ∧ f x = some r := by
  unfold rdE at h
  split at h
  · rename_i v l hv
    split at h
    · rename_i hl
      subst hl
      obtain ⟨x, rfl, hf⟩ := asV_some h
      exact ⟨x, hv, hf⟩
    · cases h
  · cases h
theorem argB_some {v : TVal} {τ : Ty} {tg : List Tag} {f : Bool → El τ → Option R} (h : argB v τ tg f = some r) : ∃ a x, v = ⟨τ, a, x, tg⟩ ∧ f a x = some r := by
  unfold argB at h
  split at h
  · rename_i hc
    split at h
    · rename_i hτ
      obtain ⟨τ', ag', x, tg'⟩ := v
      simp only at hτ hc
      subst hτ; subst hc
      exact ⟨ag', x, rfl, h⟩
    · cases h
  · cases h
theorem argV_some {v : TVal} {τ : Ty} {f : El τ → Option R} (h : argV v τ f = some r) : ∃ a x t, v = ⟨τ, a, x, t⟩ ∧ f x = some r := by
  unfold argV at h
  split at h
  · rename_i hτ
    obtain ⟨τ', ag', x, tg'⟩ := v
    simp only at hτ
    subst hτ
    exact ⟨ag', x, tg', rfl, h⟩
  · cases h
theorem rdB_some {σ : State} {i : Nat} {τ : Ty} {tg : List Tag} {f : Bool → El τ → Option R} (h : rdB σ i τ tg f = some r) : ∃ a x, σ.boxAt i = some ⟨τ, a, x, tg⟩ ∧ f a x = some r := by
  unfold rdB at h
  split at h
  · rename_i v hv
    obtain ⟨a, x, rfl, hf⟩ := argB_some h
    exact ⟨a, x, hv, hf⟩
  · cases h
theorem rdT_some {σ : State} {i : Nat} {p : TV} {f : Option R} (h : rdT σ i p f = some r) : σ.slot i = p ∧ f = some r := by
  unfold rdT at h
  rw [cond_eq_ite] at h
  split at h
  · rename_i hc
    refine ⟨?_, h⟩
    cases hs : σ.slot i <;> cases p <;> rw [hs] at hc <;> simp only [TV.same, decide_eq_true_eq, Bool.false_eq_true] at hc <;> simp [hc]
  · cases h
end

/-! ### Parts -/
section
variable {P : Program} {R : Type} {r : R} {W0 : Base} {M : Nat → Prop}

theorem StLe.inv {σ σ' : State} {a : Act} {w : World} {G : Ghost} {xs : List Nat} (h : StLe σ' σ) (I : Inv W0 M σ a w G xs) : ∃ G', Inv W0 M σ' a w G' xs := by
  obtain ⟨fs, I', _⟩ := I.drop (σ' := σ') h.1 h.2.1 h.2.2
  exact ⟨_, I'⟩

theorem node_ok {c : Code} {run : Node R} (hc : CodeOk P W0 M c run) {fg : Ex → State → State} (hfg : ∀ e σ, StLe (fg e σ) σ) {x : Node R}
    (h : ∀ σ k r, x σ k = some r → ∃ σ', StLe σ' σ ∧ run σ' (fun e σ'' => k e (fg e σ'')) = some r) : CodeOk P W0 M c x := by
  intro σ a w G k r Q hQ I hr hk
  obtain ⟨σ', hle, hrun⟩ := h σ k r hr
  obtain ⟨G', I'⟩ := hle.inv I
  refine hc σ' a w G' _ r Q hQ I' hrun fun e σ'' a' w' G'' he I'' => ?_
  obtain ⟨G3, I3⟩ := (hfg e σ'').inv I''
  exact hk e _ a' w' G3 he I3

theorem loop_ok {c : Code} {run : Node R} (hc : CodeOk P W0 M c run) {ks bs : List Nat} {fX : Ex → State → State} (hfX : ∀ e σ, StLe (fX e σ) σ) (n : Nat) {x : Node R}
    (h : ∀ σ k r, x σ k = some r → ∃ σ', StLe σ' σ ∧ loopC run (fun σ => σ.forget ks bs) fX n σ' k = some r) : CodeOk P W0 M (.loop c) x := by
  have h1 : CodeOk P W0 M (.loop c) (loopC run (fun σ => σ.forget ks bs) fX n) := loop_sound hc (fun σ a w G I => (forget_le σ ks bs).inv I) (fun e σ a w G I => (hfX e σ).inv I) n
  intro σ a w G k r Q hQ I hr hk
  obtain ⟨σ', hle, hrun⟩ := h σ k r hr
  obtain ⟨G', I'⟩ := hle.inv I
  exact h1 σ' a w G' k r Q hQ I' hrun hk

/-- Round for round. -/
def iter {V K : Type} (step : V → (V → Option R) → K → Option R) : Nat → V → K → Option R
  | 0, _, _ => none
  | n + 1, v, q => step v (fun v' => iter step n v' q) q

theorem loop_eq {V K : Type} (st : V → State) (step : V → (V → Option R) → K → Option R) (mk : Kont R → K) {body : Node R} {fN : State → State} {fX : Ex → State → State}
    (h : ∀ (v : V) (rec : State → Option R) (k : Kont R), body (st v) (fun e σ' => match e with | .normal => rec (fN σ') | e => k e (fX e σ')) = step v (fun v' => rec (st v')) (mk k)) :
    (n : Nat) → (v : V) → (k : Kont R) → loopC body fN fX n (st v) k = iter step n v (mk k)
  | 0, v, k => rfl
  | n + 1, v, k => by
    have h1 := h v (fun σ => loopC body fN fX n σ k) k
    simp only [loop_eq st step mk h n] at h1
    exact h1

/-- Rounds enough; a number that nothing unfolds. -/
noncomputable def FUEL : Nat := Classical.choose (⟨4611686018427387904, rfl⟩ : ∃ n : Nat, n = 4611686018427387904)
theorem FUEL_eq : FUEL = 4611686018427387904 := Classical.choose_spec (⟨4611686018427387904, rfl⟩ : ∃ n : Nat, n = 4611686018427387904)

theorem sound_of [Subsingleton R] {Γ : Env R} (hm : P.follows .mixedOrders = true) (hT : TysOk P Γ.tys) (hS : ∀ g sig, assoc Γ.fns g = some sig → Sound P g sig) {f : FuncId} {fn : Func} {c : Code} {X : List (Node R)} {ht : HT} {fz : Bool} {modes : List Mode} {ags : List Bool}
    (hO : OrOk P X ht c) (hf : P.funcs[f]? = some fn) (hname : (fn.name == "runtime.NumGoroutine") = false) (hb : fn.body = some c) (hn : modes.length ≤ fn.ntmps)
    {run : List TVal → List TVal → (List TVal → List TVal → List TVal → Option R) → Option R}
    (h : ∀ vals ext k r, run vals ext k = some r → funC Γ X ht fz fn modes ags vals ext k = some r) : Sound P f (⟨modes, ags, run⟩ : Sig R) := by
  have h0 := fun_sound (Γ := Γ) (X := X) (ht := ht) (fz := fz) (modes := modes) (ags := ags) hm hT (calls_ok hS) hO hf hname hb hn
  exact ⟨h0.1, fun vals ext k r hr => h0.2 vals ext k r (h vals ext k r hr)⟩
end
end Go.PI
namespace Go.PI

abbrev Res := Option Unit
def wi64 (n : Int) : Int := IntKind.i64.wrap n
def wu8 (n : Int) : Int := IntKind.u8.wrap n
def wi32 (n : Int) : Int := IntKind.i32.wrap n
def wu32 (n : Int) : Int := IntKind.u32.wrap n
def wu64 (n : Int) : Int := IntKind.u64.wrap n
def nI (n : Nat) : Int := (n : Int)
def eS : ByteArray := ⟨#[]⟩
def sEq (a b : ByteArray) : Bool := a.toList == b.toList
def sNe (a b : ByteArray) : Bool := !(a.toList == b.toList)
def sLt (a b : ByteArray) : Bool := Op.bytesLess a.toList b.toList
def sLe (a b : ByteArray) : Bool := Op.bytesLess a.toList b.toList || a.toList == b.toList
def sGt (a b : ByteArray) : Bool := !(Op.bytesLess a.toList b.toList || a.toList == b.toList)
def sGe (a b : ByteArray) : Bool := !(Op.bytesLess a.toList b.toList)
def nth {α : Type} (z : α) (l : List α) (i : Int) : α := l.getD i.toNat z
def upd {α : Type} (l : List α) (i : Int) (v : α) : List α := l.set i.toNat v
def repl {α : Type} (n : Int) (z : α) : List α := List.replicate n.toNat z
def cutS (s : ByteArray) (i j : Int) : ByteArray := s.extract i.toNat j.toNat
def mkOk (m c : Int) : Bool := decide (0 ≤ m ∧ m ≤ c ∧ c ≤ (LIM : Int))
def shlI (k : IntKind) (m n : Int) : Int := k.wrap (m * 2 ^ min n.toNat k.bits)
def shrI (k : IntKind) (m n : Int) : Int := Int.fdiv m (2 ^ min n.toNat k.bits)
def andI (k : IntKind) (a b : Int) : Int := k.wrap ((BitVec.ofInt k.bits a &&& BitVec.ofInt k.bits b).toNat)
def orI (k : IntKind) (a b : Int) : Int := k.wrap ((BitVec.ofInt k.bits a ||| BitVec.ofInt k.bits b).toNat)
def xorI (k : IntKind) (a b : Int) : Int := k.wrap ((BitVec.ofInt k.bits a ^^^ BitVec.ofInt k.bits b).toNat)

section
variable {R : Type} {r : R}
def av (l : List TVal) (τ : Ty) (f : El τ → List TVal → Option R) : Option R := match l with | v :: l => argV v τ fun x => f x l | [] => none
def ab (l : List TVal) (τ : Ty) (tg : List Tag) (f : Bool → El τ → List TVal → Option R) : Option R := match l with | v :: l => argB v τ tg fun a x => f a x l | [] => none
def ao (l : List TVal) (τ : Ty) (tg : List Tag) (f : El τ → List TVal → Option R) : Option R := match l with | v :: l => argB v τ tg fun _ x => f x l | [] => none
def nl (l : List TVal) (f : Option R) : Option R := match l with | [] => f | _ :: _ => none
theorem av_some {l : List TVal} {τ : Ty} {f : El τ → List TVal → Option R} (h : av l τ f = some r) : ∃ x a t l', l = ⟨τ, a, x, t⟩ :: l' ∧ f x l' = some r := by
  cases l with
  | nil => cases h
  | cons v l =>
    have h : argV v τ (fun x => f x l) = some r := h
    obtain ⟨a, x, t, rfl, h2⟩ := argV_some h
    exact ⟨x, a, t, l, rfl, h2⟩
theorem ab_some {l : List TVal} {τ : Ty} {tg : List Tag} {f : Bool → El τ → List TVal → Option R} (h : ab l τ tg f = some r) : ∃ a x l', l = ⟨τ, a, x, tg⟩ :: l' ∧ f a x l' = some r := by
  cases l with
  | nil => cases h
  | cons v l =>
    have h : argB v τ tg (fun a x => f a x l) = some r := h
    obtain ⟨a, x, rfl, h2⟩ := argB_some h
    exact ⟨a, x, l, rfl, h2⟩
theorem ao_some {l : List TVal} {τ : Ty} {tg : List Tag} {f : El τ → List TVal → Option R} (h : ao l τ tg f = some r) : ∃ a x l', l = ⟨τ, a, x, tg⟩ :: l' ∧ f x l' = some r := by
  cases l with
  | nil => cases h
  | cons v l =>
    have h : argB v τ tg (fun _ x => f x l) = some r := h
    obtain ⟨a, x, rfl, h2⟩ := argB_some h
    exact ⟨a, x, l, rfl, h2⟩
theorem nl_some {l : List TVal} {f : Option R} (h : nl l f = some r) : l = [] ∧ f = some r := by
  cases l with
  | nil => exact ⟨rfl, h⟩
  | cons v l => cases h

theorem OrOk.mk {P : Program} {X : List (Node R)} {a b : HT} {c : Code} (h1 : OrOk P X a c.pl) (h2 : OrOk P X b c.pr) : OrOk P X (.t a b) c := ⟨h1, h2⟩
theorem OrOk.x_mk {P : Program} {X : List (Node R)} {i : Nat} {c : Code} (h : ∀ (W0 : Base) (M : Nat → Prop), CodeOk P W0 M c (getN (fun _ _ => none) X i)) : OrOk P X (.x i) c := h
theorem fns_nil {P : Program} : ∀ (g : Nat) (sig : Sig R), assoc [] g = some sig → Sound P g sig := fun _ _ h => by cases h
theorem fns_cons {P : Program} {g : Nat} {s : Sig R} {l : List (FuncId × Sig R)} (h : Sound P g s) (hl : ∀ (g : Nat) (sig : Sig R), assoc l g = some sig → Sound P g sig) :
    ∀ (g' : Nat) (sig : Sig R), assoc ((g, s) :: l) g' = some sig → Sound P g' sig := by
  intro g' sig hh
  simp only [assoc] at hh
  split at hh
  · rename_i he
    simp at he
    subst he
    cases hh
    exact h
  · exact hl g' sig hh
end

theorem both_self (x : Res) : both x x = x := by cases x <;> rfl
end Go.PI
namespace Go.PI

/-- Each number is one of its kind, nothing is longer than memory. -/
def Wf : (τ : Ty) → El τ → Prop
  | .int k, n => (Lit.int k n).wf = true
  | .bool, _ => True
  | .str, s => ByteArray.size s ≤ maxLen
  | .unit, _ => True
  | .slice e, l => List.length (α := El e) l ≤ maxLen ∧ ∀ x ∈ (l : List (El e)), Wf e x
  | .pair a b, x => Wf a x.1 ∧ Wf b x.2

theorem mapM_some_get {α β : Type} {f : α → Option β} : (l : List α) → (ys : List β) → l.mapM f = some ys → ys.length = l.length ∧ ∀ (k : Nat) (h : k < l.length), ∃ y, f l[k] = some y ∧ ys[k]? = some y
  | [], ys, h => by
    simp only [List.mapM_nil, Option.pure_def, Option.some.injEq] at h
    subst h
    exact ⟨rfl, fun k h => absurd h (by simp)⟩
  | a :: l, ys, h => by
    rw [List.mapM_cons] at h
    cases hf : f a with
    | none => rw [hf] at h; simp at h
    | some y =>
      rw [hf] at h
      cases hl : l.mapM f with
      | none => rw [hl] at h; simp at h
      | some zs =>
        rw [hl] at h
        simp at h
        subst h
        obtain ⟨h1, h2⟩ := mapM_some_get l zs hl
        refine ⟨by simp [h1], fun k hk => ?_⟩
        cases k with
        | zero => exact ⟨y, hf, rfl⟩
        | succ k => exact h2 k (by simpa using hk)

/-- Where a block ends. -/
def blkEnd (w : World) (b : Nat) : Nat := match w.heap[b]? with | some (.cells c _ _) => c.size | _ => 0

theorem cells_at {w : World} {a : Addr} {n : Nat} {l : List Value} (h : w.cells? 0 a n = some l) (hn : n ≠ 0) :
    ∃ b o, a = ⟨b, o, none⟩ ∧ cellsAt w b o n = some l ∧ o + n ≤ blkEnd w b ∧ b < w.heap.size := by
  obtain ⟨b, o, sp⟩ := a
  unfold World.cells? at h
  rw [if_pos (Nat.zero_le _)] at h
  obtain ⟨hlen, hget⟩ := mapM_some_get _ _ h
  simp only [List.length_range] at hlen hget
  obtain ⟨v0, hv0, _⟩ := hget 0 (by omega)
  have hx : w.cell? ⟨b, o, sp⟩ = some v0 := by simpa [Addr.add] using hv0
  have hb : sp = none ∧ ∃ c T fr, w.heap[b]? = some (.cells c T fr) := by
    unfold World.cell? at hx
    cases hb : w.heap[b]? with
    | none => simp [hb] at hx
    | some ob =>
      cases ob with
      | cells c T fr =>
        cases sp with
        | none => exact ⟨rfl, c, T, fr, rfl⟩
        | some x => simp [hb] at hx
      | _ => simp [hb] at hx
  obtain ⟨rfl, hb⟩ := hb
  obtain ⟨c, T, fr, hc⟩ := hb
  have hcell : ∀ k, k < n → c[o + k]? = l[k]? := by
    intro k hk
    obtain ⟨v, hv, hl⟩ := hget k hk
    rw [hl]
    simp only [List.getElem_range] at hv
    have : w.cell? (Addr.add ⟨b, o, none⟩ k) = c[o + k]? := by
      unfold Addr.add
      by_cases h0 : k = 0
      · subst h0; simp [World.cell?, hc]
      · simp [h0, World.cell?, hc]
    rw [this] at hv
    exact hv
  have hsz : o + n ≤ c.size := by
    have h1 := hcell (n - 1) (by omega)
    have h2 : (n - 1) < l.length := by omega
    rw [List.getElem?_eq_getElem h2] at h1
    have := (Array.getElem?_eq_some_iff.1 h1).1
    omega
  refine ⟨b, o, rfl, ?_, by unfold blkEnd; rw [hc]; exact hsz, (Array.getElem?_eq_some_iff.1 hc).1⟩
  unfold cellsAt
  rw [hc]
  simp only []
  rw [if_pos hsz]
  congr 1
  refine List.ext_getElem? fun k => ?_
  by_cases hk : k < n
  · rw [List.getElem?_take_of_lt hk, List.getElem?_drop, Array.getElem?_toList, hcell k hk]
  · rw [List.getElem?_eq_none (by simp; omega), List.getElem?_eq_none (by omega)]

section
variable {P : Program} {tys : List (TypeId × Ty × List TypeId)}

theorem TyF.cells {t : TypeId} {τ : Ty} {l : List TypeId} (h : TyF P tys t τ l) : P.cellsOf t = size τ := by
  obtain ⟨i, z, h1, h2, _⟩ := h.info
  unfold Program.cellsOf
  rw [h1]
  simp [h2]

theorem tyAt_fst {τ τf : Ty} (h : tyAt τ [.fst] = some τf) : ∃ b, τ = .pair τf b := by
  cases τ with
  | pair a b => simp only [tyAt, Option.some.injEq] at h; subst h; exact ⟨b, rfl⟩
  | _ => simp [tyAt] at h
theorem tyAt_snd {τ τf : Ty} {p : List Step} (h : tyAt τ (.snd :: p) = some τf) : ∃ a b, τ = .pair a b ∧ tyAt b p = some τf := by
  cases τ with
  | pair a b => exact ⟨a, b, rfl, by simpa [tyAt] using h⟩
  | _ => simp [tyAt] at h

theorem TyF.pos {t : TypeId} {τ : Ty} {l : List TypeId} (h : TyF P tys t τ l) : size τ ≠ 0 := by
  by_cases hl : l = []
  · obtain ⟨_, _, _, _, h5, h6⟩ := h.und hl
    cases τ with
    | unit => exact absurd rfl h5
    | pair a b => exact absurd rfl (h6 a b)
    | _ => simp [size]
  · obtain ⟨fs, _, _, h3, _⟩ := h.str hl
    obtain ⟨f, τf, lf, _, _, _, h4, _, h5, _⟩ := (h3 0 (List.length_pos_iff.2 hl)).out
    match hn : l.length with
    | 0 => exact absurd (List.length_eq_zero_iff.1 hn) hl
    | 1 =>
      rw [hn] at h4
      simp only [fieldPath, tyAt] at h4
      cases τ <;> simp only [tyAt, Option.some.injEq] at h4 <;> subst h4 <;> exact h5
    | n + 2 =>
      rw [hn] at h4
      simp only [fieldPath] at h4
      obtain ⟨b, rfl⟩ := tyAt_fst h4
      simp only [size]
      omega

theorem drop_drop_take {cs : List Value} {a o n : Nat} : ((cs.drop a).drop o).take n = (cs.drop (a + o)).take n := by rw [List.drop_drop]

/-- A struct out of its fields. -/
theorem fields_rp {w : World} {F : Nat → Nat} {St Al : Nat → Prop} : (n : Nat) → (τ : Ty) → (cs : List Value) → n ≠ 0 → cs.length = size τ →
    (∀ i, i < n → ∃ τf, tyAt τ (fieldPath n i) = some τf ∧ ∃ x : El τf, Rp w F St Al τf (List.replicate (leaves τf) .S) ((cs.drop (offP τ (fieldPath n i))).take (size τf)) x [] ∧ Wf τf x) →
    ∃ x : El τ, Rp w F St Al τ (List.replicate (leaves τ) .S) cs x [] ∧ Wf τ x
  | 0, τ, cs, h, _, _ => absurd rfl h
  | 1, τ, cs, _, hl, h => by
    obtain ⟨τf, h1, x, h2, h3⟩ := h 0 (by omega)
    have hoff : offP τ (fieldPath 1 0) = 0 := by cases τ <;> rfl
    have hτ : τf = τ := by
      simp only [fieldPath] at h1
      cases τ <;> simp only [tyAt, Option.some.injEq] at h1 <;> exact h1.symm
    subst hτ
    rw [hoff, List.drop_zero, List.take_of_length_le (by omega)] at h2
    exact ⟨x, h2, h3⟩
  | n + 2, τ, cs, _, hl, h => by
    obtain ⟨τf, h1, x, h2, h3⟩ := h 0 (by omega)
    simp only [fieldPath] at h1
    obtain ⟨b, rfl⟩ := tyAt_fst h1
    have hoff : offP (.pair τf b) (fieldPath (n + 2) 0) = 0 := by simp only [fieldPath]; cases τf <;> rfl
    rw [hoff, List.drop_zero] at h2
    simp only [size] at hl
    obtain ⟨y, h4, h5⟩ := fields_rp (n + 1) b (cs.drop (size τf)) (by omega) (by rw [List.length_drop]; omega) fun i hi => by
      obtain ⟨τg, g1, z, g2, g3⟩ := h (i + 1) (by omega)
      simp only [fieldPath] at g1
      obtain ⟨a', b', he, g4⟩ := tyAt_snd g1
      cases he
      refine ⟨τg, g4, z, ?_, g3⟩
      have : offP (.pair τf b) (fieldPath (n + 2) (i + 1)) = size τf + offP b (fieldPath (n + 1) i) := by simp only [fieldPath, offP]
      rw [this] at g2
      rw [List.drop_drop]
      exact g2
    refine ⟨(x, y), ⟨_, _, _, _, [], [], ?_, (List.take_append_drop (size τf) cs).symm, rfl, h2, h4⟩, h3, h5⟩
    simp only [leaves, List.replicate_append_replicate]

theorem open_rel (hT : TysOk P tys) {H : Type} {enc : TypeId × Value → H} {w : World} {Al : Nat → Prop} : (fuel : Nat) → (t : TypeId) → (τ : Ty) → (l : List TypeId) → (cs : List Value) → (d : DataW H × List MemPlace) →
    assoc tys t = some (τ, l) → DataW.trod enc P w 0 (fun _ => true) true fuel t cs = some d → ∃ x : El τ, Rp w (blkEnd w) (· < w.heap.size) Al τ (List.replicate (leaves τ) .S) cs x [] ∧ Wf τ x
  | 0, t, τ, l, cs, d, ha, h => by cases h
  | fuel + 1, t, τ, l, cs, d, ha, h => by
    have hF := hT t τ l ha
    by_cases hl : l = []
    · obtain ⟨u1, u2, u3, u4, u5, u6⟩ := hF.und hl
      cases τ with
      | unit => exact absurd rfl u5
      | pair a b => exact absurd rfl (u6 a b)
      | int k =>
        have hu := u1 k rfl
        simp only [DataW.trod, hu] at h
        split at h <;> first | (cases h; done) | skip
        all_goals (first | (rename_i heq; cases heq; done) | skip)
        rename_i k0 k' n heq
        cases heq
        split at h
        · rename_i hc
          obtain ⟨rfl, hw⟩ := hc
          exact ⟨n, ⟨rfl, rfl, rfl⟩, hw⟩
        · cases h
      | bool =>
        have hu := u2 rfl
        simp only [DataW.trod, hu] at h
        split at h <;> first | (cases h; done) | skip
        all_goals (first | (rename_i heq; cases heq; done) | skip)
        rename_i b heq
        exact ⟨b, ⟨rfl, rfl, rfl⟩, trivial⟩
      | str =>
        have hu := u3 rfl
        simp only [DataW.trod, hu] at h
        split at h <;> first | (cases h; done) | skip
        all_goals (first | (rename_i heq; cases heq; done) | skip)
        rename_i s heq
        split at h
        · rename_i hs
          exact ⟨s, ⟨rfl, rfl, rfl⟩, hs⟩
        · cases h
      | slice e =>
        obtain ⟨et, hu, he, _⟩ := u4 e rfl
        have hae : ∃ le, assoc tys et = some (e, le) := by
          unfold tyOf at he
          cases hx : assoc tys et with
          | none => rw [hx] at he; cases he
          | some p => rw [hx] at he; simp at he; exact ⟨p.2, by rw [← he]⟩
        obtain ⟨le, hae⟩ := hae
        have hFe := hT et e le hae
        simp only [DataW.trod, hu] at h
        split at h <;> first | (cases h; done) | skip
        all_goals (first | (rename_i heq; cases heq; done) | skip)
        · rename_i e0 heq
          exact ⟨[], ⟨.S, none, 0, rfl, rfl, Nat.le_refl _, .inr (.inr ⟨rfl, rfl, .inl rfl⟩)⟩, Nat.zero_le _, by simp⟩
        · rename_i e0 a len cap heq
          cases heq
          split at h
          · rename_i hc
            obtain ⟨_, hlc, hcm⟩ := hc
            cases hm : (List.range len).mapM fun i => (w.cells? 0 (a.add (i * P.cellsOf et)) (P.cellsOf et)).bind (DataW.trod enc P w 0 (fun _ => true) true fuel et) with
            | none => rw [hm] at h; cases h
            | some ys =>
              obtain ⟨hyl, hget⟩ := mapM_some_get _ _ hm
              simp only [List.length_range, List.getElem_range] at hget hyl
              rw [hFe.cells] at hget
              have hpos := hFe.pos
              have hx : ∀ k : Fin len, ∃ x : El e, (∃ b o, a = ⟨b, o, none⟩ ∧ b < w.heap.size ∧ o + k.1 * size e + size e ≤ blkEnd w b ∧ ∃ cs', cellsAt w b (o + k.1 * size e) (size e) = some cs' ∧ Rp w (blkEnd w) (· < w.heap.size) Al e (List.replicate (leaves e) .S) cs' x []) ∧ Wf e x := by
                intro k
                obtain ⟨y, hy, _⟩ := hget k.1 k.2
                cases hcs : w.cells? 0 (a.add (k.1 * size e)) (size e) with
                | none => rw [hcs] at hy; cases hy
                | some cs' =>
                  rw [hcs] at hy
                  have hy : DataW.trod enc P w 0 (fun _ => true) true fuel et cs' = some y := hy
                  obtain ⟨x, hx1, hx2⟩ := open_rel hT fuel et e le cs' y hae hy
                  obtain ⟨b, o, ha1, ha2, ha3, ha4⟩ := cells_at hcs hpos
                  -- the row begins where its first element does
                  obtain ⟨y0, hy0, _⟩ := hget 0 (by have := k.2; omega)
                  cases hcs0 : w.cells? 0 (a.add (0 * size e)) (size e) with
                  | none => rw [hcs0] at hy0; cases hy0
                  | some cs0 =>
                    obtain ⟨b0, o0, hb1, _, _, _⟩ := cells_at hcs0 hpos
                    rw [Nat.zero_mul] at hb1
                    have hb1 : a = ⟨b0, o0, none⟩ := by simpa [Addr.add] using hb1
                    subst hb1
                    have : b = b0 ∧ o = o0 + k.1 * size e := by
                      unfold Addr.add at ha1
                      split at ha1
                      · rename_i hz; cases ha1; exact ⟨rfl, by omega⟩
                      · cases ha1; exact ⟨rfl, rfl⟩
                    obtain ⟨rfl, rfl⟩ := this
                    exact ⟨x, ⟨b, o0, rfl, ha4, ha3, cs', ha2, hx1⟩, hx2⟩
              let xs : List (El e) := List.ofFn fun k : Fin len => Classical.choose (hx k)
              have hxl : xs.length = len := by simp [xs]
              have hxg : ∀ (k : Nat) (h : k < xs.length), (∃ b o, a = ⟨b, o, none⟩ ∧ b < w.heap.size ∧ o + k * size e + size e ≤ blkEnd w b ∧ ∃ cs', cellsAt w b (o + k * size e) (size e) = some cs' ∧ Rp w (blkEnd w) (· < w.heap.size) Al e (List.replicate (leaves e) .S) cs' xs[k] []) ∧ Wf e xs[k] := by
                intro k hk
                have := Classical.choose_spec (hx ⟨k, by omega⟩)
                simpa [xs] using this
              refine ⟨xs, ⟨.S, some a, cap, rfl, by rw [hxl], by rw [hxl]; exact hlc, .inr (.inr ⟨rfl, rfl, ?_⟩)⟩, by show xs.length ≤ _; omega, ?_⟩
              · by_cases h0 : len = 0
                · left; exact List.length_eq_zero_iff.1 (by omega)
                · right
                  obtain ⟨⟨b, o, rfl, hb, hend, _⟩, _⟩ := hxg (len - 1) (by omega)
                  refine ⟨b, o, rfl, hb, ?_, fun k hk => ?_⟩
                  · rw [hxl]
                    have : o + (len - 1) * size e + size e = o + len * size e := by
                      have : len = (len - 1) + 1 := by omega
                      rw [this, Nat.add_mul]; simp; omega
                    omega
                  · obtain ⟨⟨b', o', he', _, _, cs', h1, h2⟩, _⟩ := hxg k hk
                    cases he'
                    exact ⟨cs', h1, h2⟩
              · intro x hx
                obtain ⟨k, hk, rfl⟩ := List.mem_iff_getElem.1 hx
                exact (hxg k hk).2
          · cases h
    · obtain ⟨fs, hu, hfl, hfs, _⟩ := hF.str hl
      simp only [DataW.trod, hu] at h
      split at h
      · rename_i hlen
        rw [hF.cells] at hlen
        cases hm : fs.toList.mapM fun f => DataW.trod enc P w 0 (fun _ => true) true fuel f.type ((cs.drop f.offset).take (P.cellsOf f.type)) with
        | none => rw [hm] at h; cases h
        | some ys =>
          obtain ⟨_, hget⟩ := mapM_some_get _ _ hm
          refine fields_rp l.length τ cs (by simpa using hl) hlen fun i hi => ?_
          obtain ⟨f, τf, lf, h1, h2, h3, h4, h5, _, _⟩ := (hfs i hi).out
          have hif : i < fs.toList.length := by simp; omega
          obtain ⟨y, hy, _⟩ := hget i hif
          have hfi : fs.toList[i] = f := by
            have : fs.toList[i]? = some f := by rw [Array.getElem?_toList]; exact h1
            rw [List.getElem?_eq_getElem hif] at this
            simpa using this
          rw [hfi] at hy
          have hFf := hT f.type τf lf h5
          rw [hFf.cells, h3] at hy
          obtain ⟨x, hx1, hx2⟩ := open_rel hT fuel f.type τf lf _ y h5 hy
          exact ⟨τf, h4, x, hx1, hx2⟩
      · cases h
end
end Go.PI
namespace Go.PI
open Go.ChangeShapes Go.WideShapes Go.ChangeAt Go.RowKit

def modesOf (tys : List (TypeId × Ty × List TypeId)) : List TypeId → Option (List Mode)
  | [] => some []
  | t :: ts => match assoc tys t, modesOf tys ts with | some (τ, l), some ms => some (.borrow τ (!l.isEmpty) :: ms) | _, _ => none

/-- What may come in. -/
def Vals : List Mode → List TVal → Prop
  | [], [] => True
  | .borrow τ ag :: ms, v :: vs => (∃ x t, v = ⟨τ, ag, x, t⟩ ∧ Wf τ x) ∧ Vals ms vs
  | _, _ => False

section
variable {P : Program} {tys : List (TypeId × Ty × List TypeId)} {H : Type} {enc : TypeId × Value → H} {W : World} {base : Nat}

theorem shaped_of {t : TypeId} {τ : Ty} {l : List TypeId} {v : Value} (h : TyF P tys t τ l) (hv : Value.okWide P W .any base t v) : Shaped (!l.isEmpty) v := by
  by_cases hl : l = []
  · subst hl
    obtain ⟨u1, u2, u3, u4, u5, u6⟩ := h.und rfl
    show one v = true
    cases τ with
    | unit => exact absurd rfl u5
    | pair a b => exact absurd rfl (u6 a b)
    | int k => obtain ⟨n, rfl⟩ := okWide_int (u1 k rfl) hv; rfl
    | bool => obtain ⟨n, rfl⟩ := okWide_bool (u2 rfl) hv; rfl
    | str => obtain ⟨n, rfl⟩ := okWide_string (u3 rfl) hv; rfl
    | slice e => obtain ⟨et, hu, _⟩ := u4 e rfl; obtain ⟨a, n, c, rfl⟩ := okWide_slice hu hv; rfl
  · obtain ⟨fs, hu, _⟩ := h.str hl
    obtain ⟨cs, rfl, _⟩ := okWide_struct hu hv
    have : (!l.isEmpty) = true := by cases l <;> simp_all
    rw [this]
    exact ⟨cs, rfl⟩

theorem open_args (hT : TysOk P tys) : (ts : List TypeId) → (vs : List Value) → (ds : List (DataW H)) → (p : List MemPlace) → (ms : List Mode) → DataW.TrodAll enc P W 0 (fun _ => true) true ts vs ds p →
    (∀ (j : Nat) t v, ts[j]? = some t → vs[j]? = some v → Value.okWide P W .any base t v) → modesOf tys ts = some ms →
    ds.length = ts.length ∧ ∃ vals : List TVal, Vals ms vals ∧ ArgsRel W (blkEnd W) (· < W.heap.size) ms vals vs (vals.map fun _ => []) []
  | [], vs, ds, p, ms, h, _, hm => by
    obtain ⟨rfl, rfl, rfl⟩ := trodAll_nil h
    simp only [modesOf, Option.some.injEq] at hm
    subst hm
    exact ⟨rfl, [], trivial, trivial⟩
  | t :: ts, vs, ds, p, ms, h, hv, hm => by
    obtain ⟨v, vs1, d, ds1, a, b, rfl, rfl, rfl, h1, h2⟩ := trodAll_cons h
    simp only [modesOf] at hm
    split at hm
    · rename_i τ l ms' ha hms
      cases hm
      obtain ⟨hlen, vals, q1, q2⟩ := open_args hT ts vs1 ds1 b ms' h2 (fun j t v ht hv' => hv (j + 1) t v (by simpa using ht) (by simpa using hv')) hms
      obtain ⟨fuel, hf⟩ := h1
      obtain ⟨x, hx, hw⟩ := open_rel hT (Al := (· < W.heap.size)) fuel t τ l _ _ ha hf
      have hsh := shaped_of (hT t τ l ha) (hv 0 t v rfl rfl)
      refine ⟨by simp [hlen], ⟨τ, !l.isEmpty, x, List.replicate (leaves τ) .S⟩ :: vals, ⟨⟨x, _, rfl, hw⟩, q1⟩, rfl, hsh, ?_, q2⟩
      rw [hsh.cells]
      exact hx
    · cases hm

/-- The one answer that is wanted. -/
def kTrue : List TVal → List TVal → List TVal → Option Unit
  | [⟨.bool, false, true, _⟩], _, _ => some ()
  | _, _, _ => none

theorem kTrue_some {res ios ext : List TVal} (h : kTrue res ios ext = some ()) : ∃ tg, res = [⟨.bool, false, true, tg⟩] := by
  unfold kTrue at h
  split at h
  · exact ⟨_, rfl⟩
  · cases h

theorem law_calls (hT : TysOk P tys) {f : FuncId} {sig : Sig Unit} (hs : Sound P f sig) {ts : List TypeId} {args : Array Value} {ds : List (DataW H)} {p : List MemPlace} (hm : modesOf tys ts = some sig.modes)
    (hpure : ∀ vals, Vals sig.modes vals → sig.run vals [] kTrue = some ()) (h : DataW.TrodAll enc P W 0 (fun _ => true) true ts args.toList ds p)
    (hv : ∀ (j : Nat) t v, ts[j]? = some t → args[j]? = some v → Value.okWide P W .any base t v) :
    Calls P f args W fun e W' => e = .returned (.bool true) ∧ Below W.heap.size W W' := by
  obtain ⟨_, vals, hvals, hA⟩ := open_args hT ts args.toList ds p _ h (fun j t v ht hv' => hv j t v ht (by rwa [Array.getElem?_toList] at hv')) hm
  have hfl : (vals.map fun _ => ([] : List Nat)).flatten = [] := by induction vals <;> simp_all
  have hc := hs.2 vals [] kTrue () (hpure vals hvals) W (blkEnd W) (· < W.heap.size) args.toList [] (vals.map fun _ => []) [] hA trivial (by rw [hfl]; simp) (fun b hb => ⟨hb, by rw [hfl]; simp⟩) (by rw [hfl]; simp)
  have : args.toList.toArray = args := by simp
  rw [this] at hc
  refine hc.mono fun e W' => ?_
  rintro ⟨v, res, ext', rfl, hk, hty, hexn, F', St', vs, fps, efps, rfl, hres, hbox, hE, _⟩
  obtain ⟨tg, rfl⟩ := kTrue_some hk
  have hE' : Below W.heap.size W W' := ⟨hE.os, hE.tape, hE.output, hE.size, fun b hb => hE.block b hb (by rw [hfl]; simp)⟩
  refine ⟨?_, hE'⟩
  cases vs with
  | nil => exact hres.elim
  | cons v vs =>
    cases fps with
    | nil => exact hres.elim
    | cons f fps =>
      obtain ⟨⟨h1, _, h3⟩, h4⟩ := hres
      have : v = .bool true := val_bool h1 h3
      subst this
      cases vs with
      | nil => rfl
      | cons u vs => cases fps <;> exact h4.elim

theorem below_all {W' : World} (hl : laidOutB P = true) (hb : Below W.heap.size W W') : (ts : List TypeId) → (vs : List Value) → (ds : List (DataW H)) → (p : List MemPlace) → ts.all (fun t => P.readableRec t && decide (t < P.types.size)) = true →
    DataW.TrodAll enc P W 0 (fun _ => true) true ts vs ds p → DataW.TrodAll enc P W' 0 (fun b => decide (b < W.heap.size)) true ts vs ds p
  | [], vs, ds, p, _, h => by
    obtain ⟨rfl, rfl, rfl⟩ := trodAll_nil h
    exact trodAll_mk0
  | t :: ts, vs, ds, p, ht, h => by
    obtain ⟨v, vs1, d, ds1, a, b, rfl, rfl, rfl, h1, h2⟩ := trodAll_cons h
    simp only [List.all_cons, Bool.and_eq_true, decide_eq_true_eq] at ht
    refine trodAll_cons_mk ?_ (below_all hl hb ts vs1 ds1 b ht.2 h2)
    refine Below.trod hl ht.1.1 ht.1.2 h1 hb fun x hx => ?_
    obtain ⟨m, hm⟩ := h1
    exact DataW.trod_lt m _ _ _ hm x hx

theorem law_contract (hT : TysOk P tys) (hl : laidOutB P = true) {f : FuncId} {fn : Func} {sig : Sig Unit} (hs : Sound P f sig) {s : ChangeSpec} (hvars : s.vars = []) {tb : TypeId} (hrt : fn.resultTypes = #[tb]) (hbool : P.underlying tb = some .bool)
    (hm : modesOf tys fn.params.toList = some sig.modes) (hread : fn.params.toList.all (fun t => P.readableRec t && decide (t < P.types.size)) = true)
    (hfn : ∀ ds : List (DataW H), ds.length = fn.params.toList.length → s.fn H ds = { results := [.lit (.bool true)], args := ds })
    (hpure : ∀ vals, Vals sig.modes vals → sig.run vals [] kTrue = some ()) {args : Array Value} {ds gs : List (DataW H)} {before : List MemPlace}
    (hval : ∀ (j : Nat) t v, fn.params[j]? = some t → args[j]? = some v → Value.okWide P W .any base t v) (hW : DataW.Whole enc P fn.params.toList s.vars false W args.toList ds gs before) :
    Calls P f args W fun e W' => ∃ v, e = .returned v ∧ s.post enc P fn false true false false W args v W' := by
  have hW' := hW
  obtain ⟨p, q, hA, hV, rfl, hfz, hnd⟩ := hW
  rw [hvars] at hV
  obtain ⟨rfl, rfl⟩ := trodVars_none hV
  have hlen : ds.length = fn.params.toList.length := (open_args hT _ _ _ _ _ hA (fun j t v ht hv' => hval j t v (by rwa [Array.getElem?_toList] at ht) (by rwa [Array.getElem?_toList] at hv')) hm).1
  refine (law_calls hT hs hm hpure hA fun j t v ht hv' => hval j t v (by rwa [Array.getElem?_toList] at ht) hv').mono fun e W' => ?_
  rintro ⟨rfl, bel⟩
  have hf := hfn ds hlen
  refine ⟨_, rfl, ds, [], _, [], p, [], hW', ?_, ?_, ?_, bel.frame _, fun h => by cases h⟩
  · rw [List.append_nil, hf, hrt]
    exact trodAll_mk1 (shut_bool hbool _)
  · rw [List.append_nil, hf]
    exact below_all hl bel _ _ _ _ hread hA
  · rw [hvars, List.append_nil, hf]
    exact rfl
end
end Go.PI
namespace Go.PI

theorem wi64_of {n : Int} (h1 : -9223372036854775808 ≤ n) (h2 : n < 9223372036854775808) : wi64 n = n := by
  unfold wi64 IntKind.wrap
  simp only [IntKind.bits, IntKind.signed, Bool.true_and]
  by_cases h : n % 2 ^ 64 ≥ 2 ^ (64 - 1)
  · rw [if_pos (by simpa using h)]; omega
  · rw [if_neg (by simpa using h)]; omega

theorem inb_of {i : Int} {n : Nat} (h1 : 0 ≤ i) (h2 : i < (n : Int)) : inb i n = true := by
  unfold inb; exact decide_eq_true ⟨h1, h2⟩
theorem lim_of {n : Nat} (h : n ≤ LIM) : lim n = true := decide_eq_true h
theorem mkOk_of {n : Nat} (h : n ≤ LIM) : mkOk (nI n) (nI n) = true := by
  unfold mkOk nI; exact decide_eq_true ⟨by omega, by omega, by omega⟩
theorem dec_lt_t {a b : Int} (h : a < b) : decide (a < b) = true := decide_eq_true h
theorem dec_lt_f {a b : Int} (h : ¬ a < b) : decide (a < b) = false := decide_eq_false h
theorem nth_nat {α : Type} (z : α) (l : List α) (i : Nat) (h : i < l.length) : nth z l (i : Int) = l[i] := by
  unfold nth; simp [h]
theorem upd_nat {α : Type} (l : List α) (i : Nat) (v : α) : upd l (i : Int) v = l.set i v := by unfold upd; simp

/-- A loop whose rounds are told by a count. -/
theorem iter_count {V K : Type} {step : V → (V → Res) → K → Res} (st : Nat → V) (N : Nat) (q : K) (fin : Res)
    (hs : ∀ i, i < N → ∀ rec, step (st i) rec q = rec (st (i + 1))) (he : ∀ rec, step (st N) rec q = fin) (n : Nat) (hn : N < n) : iter step n (st 0) q = fin := by
  have : ∀ d i n, i + d = N → d < n → iter step n (st i) q = fin := by
    intro d
    induction d with
    | zero =>
      intro i n hi hn
      obtain ⟨n, rfl⟩ : ∃ m, n = m + 1 := ⟨n - 1, by omega⟩
      have : i = N := by omega
      subst this
      exact he _
    | succ d ih =>
      intro i n hi hn
      obtain ⟨n, rfl⟩ : ∃ m, n = m + 1 := ⟨n - 1, by omega⟩
      show step (st i) _ q = fin
      rw [hs i (by omega)]
      exact ih (i + 1) n (by omega) (by omega)
  exact this N 0 n (by omega) (by omega)

theorem FUEL_lt {n : Nat} (h : n < 4611686018427387904) : n < FUEL := by rw [FUEL_eq]; exact h

/-- What a row that is filled looks like on the way. -/
def fillAt {α β : Type} (a : List α) (f : α → β) (z : β) (i : Nat) : List β := (a.take i).map f ++ List.replicate (a.length - i) z
theorem fillAt_len {α β : Type} (a : List α) (f : α → β) (z : β) (i : Nat) (h : i ≤ a.length) : (fillAt a f z i).length = a.length := by
  unfold fillAt; simp; omega
theorem fillAt_end {α β : Type} (a : List α) (f : α → β) (z : β) : fillAt a f z a.length = a.map f := by
  unfold fillAt; simp
theorem fillAt_zero {α β : Type} (a : List α) (f : α → β) (z : β) : fillAt a f z 0 = List.replicate a.length z := by
  unfold fillAt; simp
theorem fillAt_set {α β : Type} (a : List α) (f : α → β) (z : β) (i : Nat) (h : i < a.length) : (fillAt a f z i).set i (f a[i]) = fillAt a f z (i + 1) := by
  unfold fillAt
  rw [List.set_append_right _ _ (by simp; omega)]
  have h1 : a.length - i = (a.length - (i + 1)) + 1 := by omega
  have h2 : i - ((a.take i).map f).length = 0 := by simp; omega
  rw [h2, h1, List.replicate_succ, List.set_cons_zero, List.take_succ_eq_append_getElem h, List.map_append, List.append_assoc]
  rfl
/-! ### The families of the exact laws -/

theorem nI_lt {n : Nat} {i : Nat} (h : i < n) : decide ((i : Int) < nI n) = true := decide_eq_true (by unfold nI; omega)
theorem nI_ge {n : Nat} : decide ((n : Int) < nI n) = false := decide_eq_false (by unfold nI; omega)

/-- A row that is filled place by place. -/
theorem to_loop {α β : Type} (z : β) (a : List α) (f : α → β) {step : (List β × Int) → (List β × Int → Res) → (List β → Res) → Res} (q : List β → Res) (hlen : a.length ≤ LIM)
    (hs : ∀ (out : List β) (i : Nat) rec, (hi : i < a.length) → out.length = a.length → step (out, (i : Int)) rec q = rec (out.set i (f a[i]), (i : Int) + 1))
    (he : ∀ out rec, step (out, (a.length : Int)) rec q = q out) : iter step FUEL (repl (nI a.length) z, 0) q = q (a.map f) := by
  have h0 : repl (nI a.length) z = fillAt a f z 0 := by rw [fillAt_zero]; unfold repl nI; simp
  rw [h0]
  refine iter_count (fun i => (fillAt a f z i, (i : Int))) a.length q _ (fun i hi rec => ?_) (fun rec => ?_) FUEL (FUEL_lt (by unfold LIM at hlen; omega))
  · rw [hs _ i rec hi (fillAt_len _ _ _ _ (by omega)), fillAt_set a f z i hi]; rfl
  · rw [he, fillAt_end]

/-- What is left of a budget, or -1. -/
def szR (left : Int) (n : Nat) : Int := if (n : Int) ≤ left then left - n else -1
theorem szR_pos {left : Int} {n : Nat} (h : (n : Int) ≤ left) : szR left n = left - n := if_pos h
theorem szR_neg {left : Int} {n : Nat} (h : ¬ (n : Int) ≤ left) : szR left n = -1 := if_neg h

theorem szR_step {left : Int} {a b : Nat} (h : (a : Int) ≤ left) : szR left (a + b) = szR (left - a) b := by
  unfold szR
  by_cases hc : ((b : Nat) : Int) ≤ left - a
  · rw [if_pos hc, if_pos (show ((a + b : Nat) : Int) ≤ left by omega)]; omega
  · rw [if_neg hc, if_neg (show ¬ ((a + b : Nat) : Int) ≤ left by omega)]
theorem szR_stop {left : Int} {a b : Nat} (h : ¬ (a : Int) ≤ left) : szR left (a + b) = -1 := if_neg (show ¬ ((a + b : Nat) : Int) ≤ left by omega)
theorem szR_le {left : Int} {n : Nat} (h : 0 ≤ left) : szR left n ≤ left := by unfold szR; split <;> omega

theorem sz_loop {α : Type} (b : α → Nat) (a : List α) {step : (Int × Int) → (Int × Int → Res) → ((Int → Res) × (Unit → Res)) → Res} (q : (Int → Res) × (Unit → Res)) (hlen : a.length ≤ 1048576)
    (hs : ∀ (left : Int) (i : Nat) rec, (hi : i < a.length) → 0 ≤ left → left ≤ 1048576 → step (left, (i : Int)) rec q = if (b a[i] : Int) ≤ left then rec (left - b a[i], (i : Int) + 1) else q.2 ())
    (he : ∀ left rec, step (left, (a.length : Int)) rec q = q.1 left) (left : Int) (h0 : 0 ≤ left) (h1 : left ≤ 1048576) :
    iter step FUEL (left, 0) q = if (((a.map b).sum : Nat) : Int) ≤ left then q.1 (left - ((a.map b).sum : Nat)) else q.2 () := by
  have key : ∀ (d i n : Nat) (left : Int), i + d = a.length → d < n → 0 ≤ left → left ≤ 1048576 →
      iter step n (left, (i : Int)) q = if ((((a.drop i).map b).sum : Nat) : Int) ≤ left then q.1 (left - (((a.drop i).map b).sum : Nat)) else q.2 () := by
    intro d
    induction d with
    | zero =>
      intro i n left hi hn h0 h1
      obtain ⟨n, rfl⟩ : ∃ m, n = m + 1 := ⟨n - 1, by omega⟩
      have : i = a.length := by omega
      subst this
      show step _ _ q = _
      rw [he]
      simp [h0]
    | succ d ih =>
      intro i n left hi hn h0 h1
      obtain ⟨n, rfl⟩ : ∃ m, n = m + 1 := ⟨n - 1, by omega⟩
      have hlt : i < a.length := by omega
      show step _ _ q = _
      rw [hs left i _ hlt h0 h1, List.drop_eq_getElem_cons hlt, List.map_cons, List.sum_cons]
      by_cases hb : (b a[i] : Int) ≤ left
      · rw [if_pos hb]
        have := ih (i + 1) n (left - b a[i]) (by omega) (by omega) (by omega) (by omega)
        rw [show ((i : Int) + 1) = ((i + 1 : Nat) : Int) by omega, this]
        by_cases hc : ((((a.drop (i + 1)).map b).sum : Nat) : Int) ≤ left - b a[i]
        · have hc2 : ((b a[i] + ((a.drop (i + 1)).map b).sum : Nat) : Int) ≤ left := by omega
          rw [if_pos hc, if_pos hc2]
          have : left - (b a[i] : Int) - ((((a.drop (i + 1)).map b).sum : Nat) : Int) = left - ((b a[i] + ((a.drop (i + 1)).map b).sum : Nat) : Int) := by omega
          rw [this]
        · have hc2 : ¬ ((b a[i] + ((a.drop (i + 1)).map b).sum : Nat) : Int) ≤ left := by omega
          rw [if_neg hc, if_neg hc2]
      · have hc2 : ¬ ((b a[i] + ((a.drop (i + 1)).map b).sum : Nat) : Int) ≤ left := by omega
        rw [if_neg hb, if_neg hc2]
  have := key a.length 0 FUEL left (by omega) (FUEL_lt (by omega)) h0 h1
  simpa using this

/-- Rows that are the same, place by place. -/
theorem eq_loop {α : Type} (a : List α) {step : Int → (Int → Res) → ((Unit → Res) × (Unit → Res)) → Res} (q : (Unit → Res) × (Unit → Res)) (hlen : a.length ≤ LIM)
    (hs : ∀ (i : Nat) rec, (hi : i < a.length) → step (i : Int) rec q = rec ((i : Int) + 1)) (he : ∀ rec, step (a.length : Int) rec q = q.1 ()) : iter step FUEL (0 : Int) q = q.1 () :=
  iter_count (fun i => (i : Int)) a.length q _ (fun i hi rec => by rw [hs i rec hi]; rfl) he FUEL (FUEL_lt (by unfold LIM at hlen; omega))
end Go.PI
