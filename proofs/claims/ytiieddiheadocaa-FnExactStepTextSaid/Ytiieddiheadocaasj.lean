/-
  Printed texts and plain laws. No conditions.
-/
import Derived.Test.Ytiieddiheadocaasi
import Derived.Test.Ytiieddiheadocaase
import Derived.Test.Ytiieddiheadocaasa
set_option linter.unusedVariables false
namespace Go.PI.G
open Go Go.PI

abbrev D := Int × ByteArray × List C × List ByteArray × ByteArray × ByteArray
abbrev ST := Int × ByteArray × List V × List V × D
abbrev yD : Ty := .pair (.int .i64) (.pair .str (.pair (.slice yC) (.pair (.slice .str) (.pair .str .str))))
abbrev yST : Ty := .pair (.int .i64) (.pair .str (.pair (.slice yV) (.pair (.slice yV) yD)))
abbrev zD : D := (0, eS, [], [], eS, eS)
abbrev zST : ST := (0, eS, [], [], 0, eS, [], [], eS, eS)
theorem FUEL_one : ∃ m, FUEL = m + 1 := ⟨FUEL - 1, by have := FUEL_lt (n := 1) (by omega); omega⟩
theorem nI_zero (n : Nat) : (nI n == 0) = (n == 0) := by
  unfold nI
  cases n with
  | zero => rfl
  | succ n => show ((((n + 1 : Nat) : Int)) == 0) = false; simp; omega
theorem nI_one (n : Nat) : (nI n == 1) = (n == 1) := by
  unfold nI
  by_cases h : n = 1
  · subst h; rfl
  · have h1 : (n == 1) = false := by simp [h]
    have h2 : ((n : Int) == 1) = false := by simp; omega
    rw [h1, h2]
theorem nI_ne (m n : Nat) : (nI m != nI n) = !(m == n) := by
  unfold nI
  by_cases h : m = n
  · subst h; simp
  · have h1 : (m == n) = false := by simp [h]
    have h2 : ((m : Int) != n) = true := by simp; omega
    rw [h1, h2]; rfl

def noD (d : D) : Bool := (d.1 == 0) && (sEq d.2.1 eS && ((d.2.2.1.length == 0) && ((d.2.2.2.1.length == 0) && (sEq d.2.2.2.2.1 eS && sEq d.2.2.2.2.2 eS))))
def plainD (d : D) : Bool := (d.2.2.1.length == 0) && (d.2.2.2.1.length == 0)
def ddlB (d : D) : Bool := wordB d.2.1 &&
  (bif d.1 == 1 then sEq d.2.2.2.2.1 eS && (sEq d.2.2.2.2.2 eS && tabB (d.2.1, d.2.2.1, d.2.2.2.1))
   else bif d.1 == 2 then plainD d && (sEq d.2.2.2.2.1 eS && sEq d.2.2.2.2.2 eS)
   else bif d.1 == 3 then (d.2.2.1.length == 1) && (colB (nth zC d.2.2.1 0) && (((nth zC d.2.2.1 0).2.2.2.1 || !(nth zC d.2.2.1 0).2.2.1) && ((d.2.2.2.1.length == 0) && (sEq d.2.2.2.2.1 eS && sEq d.2.2.2.2.2 eS))))
   else bif d.1 == 4 then plainD d && (wordB d.2.2.2.2.1 && sEq d.2.2.2.2.2 eS)
   else bif d.1 == 5 then plainD d && (wordB d.2.2.2.2.1 && wordB d.2.2.2.2.2)
   else false)
def valsB (l : List V) : Bool := l.all valB && (decide (1 ≤ l.length) && decide (l.length ≤ 8))
def stB (s : ST) : Bool := wordB s.2.1 &&
  (bif s.1 == 1 then (s.2.2.1.length == 0) && (valsB s.2.2.2.1 && noD s.2.2.2.2)
   else bif s.1 == 2 then valsB s.2.2.1 && (valsB s.2.2.2.1 && noD s.2.2.2.2)
   else bif s.1 == 3 then valsB s.2.2.1 && ((s.2.2.2.1.length == 0) && noD s.2.2.2.2)
   else bif s.1 == 4 then (s.2.2.1.length == 0) && ((s.2.2.2.1.length == 0) && noD s.2.2.2.2)
   else bif s.1 == 5 then (s.2.2.1.length == 0) && ((s.2.2.2.1.length == 0) && (ddlB s.2.2.2.2 && sEq s.2.2.2.2.2.1 s.2.1))
   else false)
/-- Lists and texts that are not too long. -/
def dSm (d : D) : Prop := d.2.1.size ≤ 1048576 ∧ d.2.2.1.length ≤ 1048576 ∧ d.2.2.2.1.length ≤ 1048576 ∧ (∀ c ∈ d.2.2.1, c.1.size ≤ 1048576) ∧ (∀ x ∈ d.2.2.2.1, x.size ≤ 1048576) ∧ d.2.2.2.2.1.size ≤ 1048576 ∧ d.2.2.2.2.2.size ≤ 1048576
def stSm (s : ST) : Prop := s.2.1.size ≤ 1048576 ∧ s.2.2.1.length ≤ 1048576 ∧ s.2.2.2.1.length ≤ 1048576 ∧ dSm s.2.2.2.2
theorem dSm_zero : dSm zD := by
  refine ⟨?_, ?_, ?_, ?_, ?_, ?_, ?_⟩
  all_goals first | (intro _ h; cases h) | exact Nat.zero_le _
theorem stSm_zero : stSm zST := ⟨Nat.zero_le _, Nat.zero_le _, Nat.zero_le _, dSm_zero⟩
theorem len_zero {α : Type} {l : List α} (h : (l.length == 0) = true) : l = [] := List.length_eq_zero_iff.1 (by simpa using h)
theorem noD_iff (d : D) : noD d = true ↔ d = zD := by
  obtain ⟨a, b, c, e, f, g⟩ := d
  unfold noD
  simp only [Bool.and_eq_true, beq_iff_eq, sEq_iff, Prod.mk.injEq, List.length_eq_zero_iff]

/-- What a right change is. -/
theorem ddlB_cases {d : D} (h : ddlB d = true) : wordB d.2.1 = true ∧
    ((∃ t cs ks, d = (1, t, cs, ks, eS, eS) ∧ tabB (t, cs, ks) = true) ∨ (∃ t, d = (2, t, [], [], eS, eS)) ∨ (∃ t c, d = (3, t, [c], [], eS, eS) ∧ colB c = true) ∨
     (∃ t n, d = (4, t, [], [], n, eS) ∧ wordB n = true) ∨ ∃ t n m, d = (5, t, [], [], n, m) ∧ wordB n = true ∧ wordB m = true) := by
  obtain ⟨k, t, cs, ks, n, m⟩ := d
  unfold ddlB plainD at h
  dsimp only at h ⊢
  rw [Bool.and_eq_true] at h
  refine ⟨h.1, ?_⟩
  have h := h.2
  cases h1 : k == 1
  · cases h2 : k == 2
    · cases h3 : k == 3
      · cases h4 : k == 4
        · cases h5 : k == 5
          · rw [h1, h2, h3, h4, h5] at h; cases h
          · rw [h1, h2, h3, h4, h5] at h
            simp only [cond_false, cond_true, Bool.and_eq_true, beq_iff_eq] at h h5
            obtain ⟨⟨a, b⟩, c, e⟩ := h
            rw [List.length_eq_zero_iff] at a b
            subst a; subst b; subst h5
            exact .inr (.inr (.inr (.inr ⟨t, n, m, rfl, c, e⟩)))
        · rw [h1, h2, h3, h4] at h
          simp only [cond_false, cond_true, Bool.and_eq_true, beq_iff_eq, sEq_iff] at h h4
          obtain ⟨⟨a, b⟩, c, e⟩ := h
          rw [List.length_eq_zero_iff] at a b
          subst a; subst b; subst h4; subst e
          exact .inr (.inr (.inr (.inl ⟨t, n, rfl, c⟩)))
      · rw [h1, h2, h3] at h
        simp only [cond_false, cond_true, Bool.and_eq_true, beq_iff_eq, sEq_iff] at h h3
        obtain ⟨a, b, _, c, e, f⟩ := h
        obtain ⟨c0, rfl⟩ := List.length_eq_one_iff.1 a
        rw [List.length_eq_zero_iff] at c
        subst c; subst h3; subst e; subst f
        exact .inr (.inr (.inl ⟨t, c0, rfl, b⟩))
    · rw [h1, h2] at h
      simp only [cond_false, cond_true, Bool.and_eq_true, beq_iff_eq, sEq_iff] at h h2
      obtain ⟨⟨a, b⟩, e, f⟩ := h
      rw [List.length_eq_zero_iff] at a b
      subst a; subst b; subst h2; subst e; subst f
      exact .inr (.inl ⟨t, rfl⟩)
  · rw [h1] at h
    simp only [cond_true, Bool.and_eq_true, beq_iff_eq, sEq_iff] at h h1
    obtain ⟨e, f, a⟩ := h
    subst h1; subst e; subst f
    exact .inl ⟨t, cs, ks, rfl, a⟩
theorem stB_cases {s : ST} (h : stB s = true) : wordB s.2.1 = true ∧
    ((∃ t r, s = (1, t, [], r, zD) ∧ valsB r = true) ∨ (∃ t q r, s = (2, t, q, r, zD) ∧ valsB q = true ∧ valsB r = true) ∨ (∃ t q, s = (3, t, q, [], zD) ∧ valsB q = true) ∨
     (∃ t, s = (4, t, [], [], zD)) ∨ ∃ d : D, s = (5, d.2.1, [], [], d) ∧ ddlB d = true) := by
  obtain ⟨k, t, q, r, d⟩ := s
  unfold stB at h
  dsimp only at h ⊢
  rw [Bool.and_eq_true] at h
  refine ⟨h.1, ?_⟩
  have h := h.2
  cases h1 : k == 1
  · cases h2 : k == 2
    · cases h3 : k == 3
      · cases h4 : k == 4
        · cases h5 : k == 5
          · rw [h1, h2, h3, h4, h5] at h; cases h
          · rw [h1, h2, h3, h4, h5] at h
            simp only [cond_false, cond_true, Bool.and_eq_true, beq_iff_eq, sEq_iff] at h h5
            obtain ⟨a, b, c, e⟩ := h
            rw [List.length_eq_zero_iff] at a b
            subst a; subst b; subst h5; subst e
            exact .inr (.inr (.inr (.inr ⟨d, rfl, c⟩)))
        · rw [h1, h2, h3, h4] at h
          simp only [cond_false, cond_true, Bool.and_eq_true, beq_iff_eq, noD_iff] at h h4
          obtain ⟨a, b, c⟩ := h
          rw [List.length_eq_zero_iff] at a b
          subst a; subst b; subst h4; subst c
          exact .inr (.inr (.inr (.inl ⟨t, rfl⟩)))
      · rw [h1, h2, h3] at h
        simp only [cond_false, cond_true, Bool.and_eq_true, beq_iff_eq, noD_iff] at h h3
        obtain ⟨a, b, c⟩ := h
        rw [List.length_eq_zero_iff] at b
        subst b; subst h3; subst c
        exact .inr (.inr (.inl ⟨t, q, rfl, a⟩))
    · rw [h1, h2] at h
      simp only [cond_false, cond_true, Bool.and_eq_true, beq_iff_eq, noD_iff] at h h2
      obtain ⟨a, b, c⟩ := h
      subst h2; subst c
      exact .inr (.inl ⟨t, q, r, rfl, a, b⟩)
  · rw [h1] at h
    simp only [cond_true, Bool.and_eq_true, beq_iff_eq, noD_iff] at h h1
    obtain ⟨a, b, c⟩ := h
    rw [List.length_eq_zero_iff] at a
    subst a; subst h1; subst c
    exact .inl ⟨t, r, rfl, b⟩
theorem valsB_parts {l : List V} (h : valsB l = true) : 1 ≤ l.length ∧ l.length ≤ 8 ∧ ∀ v ∈ l, valB v = true := by
  unfold valsB at h
  simp only [Bool.and_eq_true, decide_eq_true_eq, List.all_eq_true] at h
  exact ⟨h.2.1, h.2.2, h.1⟩
end Go.PI.G
namespace Go.PI.G
open Go Go.PI

def goL {α A E : Type} (f : A → α → Except E A) : List α → A → Except E A
  | [], a => .ok a
  | x :: xs, a => match f a x with
    | .ok a' => goL f xs a'
    | .error e => .error e
def exR {A E : Type} (r : Except E A) (f : A → Res) (g : E → Res) : Res := match r with
  | .ok a => f a
  | .error e => g e
def opR {A : Type} (r : Option A) (f : A → Res) (g : Res) : Res := match r with
  | some a => f a
  | none => g
theorem go_app {α A E : Type} (f : A → α → Except E A) : (l m : List α) → (a : A) → goL f (l ++ m) a = match goL f l a with | .ok a' => goL f m a' | .error e => .error e
  | [], m, a => rfl
  | x :: l, m, a => by
    simp only [List.cons_append, goL]
    cases f a x with
    | ok a' => exact go_app f l m a'
    | error e => rfl
theorem go_loop {α A E V K : Type} (l : List α) (st : Int → A → V) (f : A → α → Except E A) (p : Nat → A → Prop) {step : V → (V → Res) → K → Res} (q : K) (fin : A → Res) (ex : E → Res)
    (hp : ∀ (i : Nat) a a', (hi : i < l.length) → p i a → f a l[i] = .ok a' → p (i + 1) a')
    (hs : ∀ (i : Nat) a rec, (hi : i < l.length) → p i a → step (st i a) rec q = exR (f a l[i]) (fun a' => rec (st ((i : Int) + 1) a')) ex)
    (he : ∀ a rec, p l.length a → step (st (l.length : Int) a) rec q = fin a) :
    ∀ (d i m : Nat) (a : A), i + d = l.length → d < m → p i a → iter step m (st (i : Int) a) q = exR (goL f (l.drop i) a) fin ex := by
  intro d
  induction d with
  | zero =>
    intro i m a hi hm ha
    obtain ⟨m, rfl⟩ : ∃ e, m = e + 1 := ⟨m - 1, by omega⟩
    have hil : i = l.length := by omega
    subst hil
    rw [iter_succ, he a _ ha, List.drop_length]
    rfl
  | succ d ih =>
    intro i m a hi hm ha
    obtain ⟨m, rfl⟩ : ∃ e, m = e + 1 := ⟨m - 1, by omega⟩
    have hil : i < l.length := by omega
    rw [iter_succ, hs i a _ hil ha, List.drop_eq_getElem_cons hil]
    simp only [goL]
    cases hf : f a l[i] with
    | error e => rfl
    | ok a' =>
      have := ih (i + 1) m a' (by omega) (by omega) (hp i a a' hil ha hf)
      rw [show ((i + 1 : Nat) : Int) = (i : Int) + 1 by omega] at this
      exact this
theorem bt_idx (s : ByteArray) (i : Nat) (h : i < (toBytes s).length) : bt s (i : Int) = (toBytes s)[i] := by
  have hl := toBytes_len s
  have h' : i < s.data.size := by
    have : i < s.size := by omega
    exact this
  have e1 : (toBytes s)[i] = ((s.data.toList.map fun b : UInt8 => (b.toNat : Int))[i]'(by simpa using h')) := rfl
  rw [e1, List.getElem_map]
  unfold bt
  simp [Array.getElem?_eq_getElem h']
theorem bt_head {s : ByteArray} {x : Int} {l : List Int} (h : toBytes s = x :: l) : bt s 0 = x := by
  have := bt_idx s 0 (by rw [h]; simp)
  rw [show ((0 : Nat) : Int) = 0 from rfl] at this
  rw [this]
  simp [h]
theorem bt_byte (s : ByteArray) (i : Int) : 0 ≤ bt s i ∧ bt s i < 256 := by
  unfold bt
  have := UInt8.toNat_lt (s.data.toList.getD i.toNat 0)
  omega

theorem sEq_f {a b : ByteArray} (h : toBytes a ≠ toBytes b) : sEq a b = false := by
  cases hq : sEq a b with
  | false => rfl
  | true => exact absurd (by rw [(sEq_iff _ _).1 hq]) h
theorem sNe_t {a b : ByteArray} (h : toBytes a ≠ toBytes b) : sNe a b = true := by
  cases hq : sNe a b with
  | true => rfl
  | false => exact absurd (by rw [(sNe_iff _ _).1 hq]) h

/-! ### digits -/
def isDg (x : Int) : Bool := decide (48 ≤ x ∧ x ≤ 57)
def dgF (n x : Int) : Except Unit Int := bif isDg x then .ok (n * 10 + (x - 48)) else .error ()
theorem dgF_of {n x : Int} (h : 48 ≤ x ∧ x ≤ 57) : dgF n x = .ok (n * 10 + (x - 48)) := by unfold dgF isDg; rw [decide_eq_true h]; rfl
theorem dgF_ok {n x m : Int} (h : dgF n x = .ok m) : (48 ≤ x ∧ x ≤ 57) ∧ m = n * 10 + (x - 48) := by
  unfold dgF isDg at h
  by_cases hx : 48 ≤ x ∧ x ≤ 57
  · rw [decide_eq_true hx] at h; cases h; exact ⟨hx, rfl⟩
  · rw [decide_eq_false hx] at h; cases h
/-- The number that digits tell, with a sign ahead or not. -/
def rdN (l : List Int) : Option Int := bif l.headD 0 == 45 then (match goL dgF l.tail 0 with | .ok n => some (-n) | .error _ => none) else match goL dgF l 0 with | .ok n => some n | .error _ => none
theorem pow13 {i : Nat} (h : i ≤ 13) : ((10 ^ i : Nat) : Int) ≤ 10000000000000 := by
  have : 10 ^ i ≤ 10 ^ 13 := Nat.pow_le_pow_right (by omega) h
  omega
theorem dg_step {i : Nat} {n x : Int} (hi : i ≤ 13) (hn : 0 ≤ n ∧ n < ((10 ^ i : Nat) : Int)) (hx : 48 ≤ x ∧ x ≤ 57) :
    wi64 (n * 10) = n * 10 ∧ wi64 (wu8 (x - 48)) = x - 48 ∧ wi64 (n * 10 + (x - 48)) = n * 10 + (x - 48) ∧ 0 ≤ n * 10 + (x - 48) ∧ n * 10 + (x - 48) < ((10 ^ (i + 1) : Nat) : Int) := by
  have h1 := pow13 hi
  have e : ((10 ^ (i + 1) : Nat) : Int) = ((10 ^ i : Nat) : Int) * 10 := by rw [Nat.pow_succ]; omega
  refine ⟨wi64_in (by omega), ?_, wi64_in (by omega), by omega, by omega⟩
  rw [wu8_small (by omega), wi64_in (by omega)]
theorem drop_get {α : Type} {l : List α} {i : Nat} {x : α} {r : List α} (h : l.drop i = x :: r) : ∃ hi : i < l.length, l[i] = x ∧ l.drop (i + 1) = r := by
  have hl := congrArg List.length h
  rw [List.length_drop, List.length_cons] at hl
  have hi : i < l.length := by omega
  rw [List.drop_eq_getElem_cons hi] at h
  exact ⟨hi, (List.cons.inj h).1, (List.cons.inj h).2⟩
theorem foldN_flat (s : ByteArray) (g : Int → List Int) : ∀ (d i : Nat) (out : List Int), i + d = s.size → foldN (fun i out => out ++ g (bt s (i : Int))) i d out = out ++ ((toBytes s).drop i).flatMap g := by
  have hl := toBytes_len s
  intro d
  induction d with
  | zero =>
    intro i out h
    rw [List.drop_eq_nil_of_le (by omega)]
    simp [foldN]
  | succ d ih =>
    intro i out h
    have hi : i < (toBytes s).length := by omega
    simp only [foldN]
    rw [ih (i + 1) _ (by omega), bt_idx s i hi, List.drop_eq_getElem_cons hi, List.flatMap_cons, List.append_assoc]
end Go.PI.G
set_option linter.unusedSimpArgs false
namespace Go.PI.G
open Go Go.PI Go.Proofs

/-! ### glue -/
theorem joinB_take_zero (l : List ByteArray) : joinB (l.take 0) = eS := rfl
theorem joinB_take (l : List ByteArray) (i : Nat) (hi : i < l.length) : joinB (l.take (i + 1)) = if i = 0 then l[i] else joinB (l.take i) ++ spB ++ l[i] := by
  cases l with
  | nil => simp at hi
  | cons w ws =>
    cases i with
    | zero =>
      rw [if_pos rfl]
      show w ++ eS = w
      rw [eS_app]
    | succ i =>
      rw [if_neg (by omega)]
      have hi' : i < ws.length := by simpa using hi
      rw [List.take_succ_cons, List.take_succ_cons, List.take_succ_eq_append_getElem hi', joinB_app, List.getElem_cons_succ]
      show joinB (w :: ws.take i) ++ (spB ++ (ws[i] ++ eS)) = _
      rw [eS_app, ByteArray.append_assoc]
theorem joinB_mono (l : List ByteArray) (i : Nat) : (joinB (l.take i)).size ≤ (joinB l).size := by
  cases l with
  | nil => simp
  | cons w ws =>
    cases i with
    | zero => show (0 : Nat) ≤ _; omega
    | succ i =>
      rw [List.take_succ_cons]
      have : joinB (w :: ws) = joinB (w :: ws.take i) ++ tlB (ws.drop i) := by
        rw [← joinB_app, List.take_append_drop]
      rw [this, ByteArray.size_append]
      omega
theorem specGlue_eq (l : List ByteArray) (h : l.length ≤ 1000000000) (hs : (joinB l).size ≤ LIM) (k : ByteArray → Res) : spec_l05Join l k = k (joinB l) := by
  unfold spec_l05Join spec_l05Join_l0
  have := fold_loop l.length (fun i out => (out, i)) (fun i _ => joinB (l.take (i + 1))) (fun i out => out = joinB (l.take i)) (step := spec_l05Join_l0_s l (nI l.length)) (fun out => k out) (fun _ => k (joinB l)) eS (by unfold LIM; omega) rfl (fun i out hi ho => rfl) (fun i out rec hi ho => by
    show spec_l05Join_l0_r _ _ _ _ _ _ = _
    unfold spec_l05Join_l0_r
    dsimp only
    have e := joinB_take l i hi
    have m := joinB_mono l (i + 1)
    rw [nI_lt hi, cond_true, inb_nat hi, cond_true, nth_nat _ _ _ hi, wi64_in (n := (i : Int) + 1) (by omega)]
    subst ho
    cases i with
    | zero =>
      rw [if_pos rfl] at e
      rw [decide_eq_false (show ¬ ((0 : Nat) : Int) > 0 by omega), cond_false, joinB_take_zero, lim_of (by rw [← e]; show (0 : Nat) + _ ≤ _; omega), cond_true, app_eS, e]
    | succ i =>
      rw [if_neg (by omega)] at e
      have e2 : (joinB (l.take (i + 1))).size + 1 + (l[i + 1]).size ≤ LIM := by
        have := congrArg ByteArray.size e
        rw [ByteArray.size_append, ByteArray.size_append] at this
        have h1 : spB.size = 1 := rfl
        omega
      rw [decide_eq_true (show ((i + 1 : Nat) : Int) > 0 by omega), cond_true, lim_of (by omega), cond_true, lim_of (by rw [ByteArray.size_append]; exact e2), cond_true, e]
      rfl) (fun out rec ho => by
    show spec_l05Join_l0_r _ _ _ _ _ _ = _
    unfold spec_l05Join_l0_r
    dsimp only
    rw [nI_ge, cond_false, ho, List.take_length])
  exact this.1
theorem implGlue_eq (l : List ByteArray) (h : l.length ≤ 1000000000) (hs : (joinB l).size ≤ LIM) (k : ByteArray → Res) : impl_glued l k = k (joinB l) := by
  unfold impl_glued impl_glued_l0
  have := fold_loop l.length (fun i out => (out, i)) (fun i _ => joinB (l.take (i + 1))) (fun i out => out = joinB (l.take i)) (step := impl_glued_l0_s l (nI l.length)) (fun out => k out) (fun _ => k (joinB l)) eS (by unfold LIM; omega) rfl (fun i out hi ho => rfl) (fun i out rec hi ho => by
    show impl_glued_l0_r _ _ _ _ _ _ = _
    unfold impl_glued_l0_r
    dsimp only
    have e := joinB_take l i hi
    have m := joinB_mono l (i + 1)
    rw [nI_lt hi, cond_true, inb_nat hi, cond_true, nth_nat _ _ _ hi, wi64_in (n := (i : Int) + 1) (by omega)]
    subst ho
    cases i with
    | zero =>
      rw [if_pos rfl] at e
      rw [decide_eq_false (show ¬ ((0 : Nat) : Int) > 0 by omega), cond_false, joinB_take_zero, lim_of (by rw [← e]; show (0 : Nat) + _ ≤ _; omega), cond_true, app_eS, e]
    | succ i =>
      rw [if_neg (by omega)] at e
      have e2 : (joinB (l.take (i + 1))).size + 1 + (l[i + 1]).size ≤ LIM := by
        have := congrArg ByteArray.size e
        rw [ByteArray.size_append, ByteArray.size_append] at this
        have h1 : spB.size = 1 := rfl
        omega
      rw [decide_eq_true (show ((i + 1 : Nat) : Int) > 0 by omega), cond_true, lim_of (by omega), cond_true, lim_of (by rw [ByteArray.size_append]; exact e2), cond_true, e]
      rfl) (fun out rec ho => by
    show impl_glued_l0_r _ _ _ _ _ _ = _
    unfold impl_glued_l0_r
    dsimp only
    rw [nI_ge, cond_false, ho, List.take_length])
  exact this.1
end Go.PI.G
namespace Go.PI.G
open Go Go.PI Go.Proofs

theorem within_eq (x lo hi : Int) (k : Bool → Res) : impl_within x lo hi k = k (decide (lo ≤ x ∧ x ≤ hi)) := by
  unfold impl_within
  by_cases h : x ≥ lo
  · rw [decide_eq_true h, cond_true]
    congr 1
    exact decide_eq_decide.2 (by omega)
  · rw [decide_eq_false h, cond_false]
    congr 1
    exact (decide_eq_false (by omega)).symm
theorem l01Num_eq (n : Int) (k : Bool → Res) : spec_l01Num n k = k (numB n) := within_eq n _ _ k
theorem specVal_eq (v : V) (k : Bool → Res) : spec_ValOk v k = k (valB v) := by
  unfold spec_ValOk valB
  cases v.1 == 0
  · cases v.1 == 1
    · cases v.1 == 2
      · cases v.1 == 3
        · rfl
        · cases v.2.1 == 0 <;> rfl
      · rw [cond_false, cond_false, cond_true, l01Num_eq]
        cases numB v.2.1 <;> rfl
    · cases v.2.1 == 0
      · cases v.2.1 == 1 <;> rfl
      · rfl
  · cases v.2.1 == 0 <;> rfl
theorem implVal_eq (v : V) (k : Bool → Res) : impl_ValOk v k = k (valB v) := by
  unfold impl_ValOk valB
  simp only [within_eq, or_within]
  cases v.1 == 0
  · cases v.1 == 1
    · cases v.1 == 2
      · cases v.1 == 3
        · rfl
        · cases v.2.1 == 0 <;> rfl
      · rw [cond_false, cond_false, cond_true, cond_false, cond_false, cond_true]
        show (bif numB v.2.1 then _ else _) = _
        cases numB v.2.1 <;> rfl
    · cases v.2.1 == 0
      · cases v.2.1 == 1 <;> rfl
      · rfl
  · cases v.2.1 == 0 <;> rfl
end Go.PI.G
namespace Go.PI.G
open Go Go.PI Go.Proofs

/-! ### numbers as texts -/
def dg (x : Int) : ByteArray := ofBytes [wu8 (wi64 (48 + x))]
theorem dg_size (x : Int) : (dg x).size = 1 := rfl
def digs (n : Nat) : ByteArray := if h : n < 10 then dg n else digs (n / 10) ++ dg ((n % 10 : Nat) : Int)
termination_by n
decreasing_by omega
theorem digs_lo {n : Nat} (h : n < 10) : digs n = dg n := by rw [digs, dif_pos h]
theorem digs_hi {n : Nat} (h : ¬ n < 10) : digs n = digs (n / 10) ++ dg ((n % 10 : Nat) : Int) := by rw [digs, dif_neg h]
theorem digs_size : ∀ (d n : Nat), n < 10 ^ (d + 1) → (digs n).size ≤ d + 1
  | 0, n, h => by rw [digs_lo (by omega), dg_size]; exact Nat.le_refl _
  | d + 1, n, h => by
    by_cases h1 : n < 10
    · rw [digs_lo h1, dg_size]; omega
    · rw [digs_hi h1, ByteArray.size_append, dg_size]
      have : n / 10 < 10 ^ (d + 1) := Nat.div_lt_of_lt_mul (by rw [Nat.pow_succ] at h; omega)
      have := digs_size d (n / 10) this
      omega
theorem digs_size13 {n : Nat} (h : n ≤ 1099511627775) : (digs n).size ≤ 13 := digs_size 12 n (by omega)
def numT (n : Int) : ByteArray := bif numB n then (if n < 0 then z__ ++ digs (-n).toNat else digs n.toNat) else eS
theorem numT_size (n : Int) : (numT n).size ≤ 14 := by
  unfold numT
  by_cases h : -1099511627775 ≤ n ∧ n ≤ 1099511627775
  · have hb : numB n = true := decide_eq_true h
    rw [hb, cond_true]
    split
    · rw [ByteArray.size_append]
      have := digs_size13 (n := (-n).toNat) (by omega)
      have : z__.size = 1 := rfl
      omega
    · have := digs_size13 (n := n.toNat) (by omega)
      omega
  · have hb : numB n = false := decide_eq_false h
    rw [hb, cond_false]
    show (0 : Nat) ≤ 14
    omega
theorem specNum_nat : ∀ (m n : Nat), n < m → n ≤ 1099511627775 → ∀ k, recN (fun _ _ => none) spec_NumText_b m (n : Int) k = k (digs n)
  | 0, n, h, _, k => by omega
  | m + 1, n, h, hn, k => by
    show spec_NumText_b (recN (fun _ _ => none) spec_NumText_b m) (n : Int) k = _
    have ih := specNum_nat m
    generalize recN (fun _ _ => none) spec_NumText_b m = self at ih ⊢
    unfold spec_NumText_b
    have hb : numB (n : Int) = true := decide_eq_true (by omega)
    rw [l01Num_eq, hb, Bool.not_true, cond_false, dec_lt_f (by omega), cond_false]
    by_cases h1 : n < 10
    · rw [dec_lt_t (by omega), cond_true, digs_lo h1]; rfl
    · rw [dec_lt_f (by omega), cond_false, both_self, tdiv_nat, tmod_nat, wi64_of (n := ((n / 10 : Nat) : Int)) (by omega) (by omega), ih (n / 10) (by omega) (by omega), digs_hi h1]
      have h2 := digs_size13 (n := n / 10) (by omega)
      show (bif lim ((digs (n / 10)).size + (dg ((n % 10 : Nat) : Int)).size) then k (digs (n / 10) ++ dg ((n % 10 : Nat) : Int)) else none) = _
      rw [dg_size, lim_of (by unfold LIM; omega), cond_true]
theorem FUEL_succ : ∃ m, FUEL = m + 1 ∧ 1099511627775 < m := by
  have h := FUEL_lt (n := 1099511627777) (by omega)
  exact ⟨FUEL - 1, by omega, by omega⟩
theorem specNum_eq (n : Int) (k : ByteArray → Res) : spec_NumText n k = k (numT n) := by
  unfold spec_NumText
  obtain ⟨m, hm, hm2⟩ := FUEL_succ
  rw [hm]
  show spec_NumText_b (recN (fun _ _ => none) spec_NumText_b m) n k = _
  by_cases h : -1099511627775 ≤ n ∧ n ≤ 1099511627775
  · have hb : numB n = true := decide_eq_true h
    by_cases h0 : n < 0
    · have ih := specNum_nat m
      generalize recN (fun _ _ => none) spec_NumText_b m = self at ih ⊢
      unfold spec_NumText_b numT
      have hsz := digs_size13 (n := (-n).toNat) (by omega)
      have hw : wi64 (0 - n) = (((-n).toNat : Nat) : Int) := by rw [wi64_of (by omega) (by omega)]; omega
      rw [l01Num_eq, hb, Bool.not_true, cond_false, dec_lt_t h0, cond_true, hw, ih _ (by omega) (by omega), lim_of (by unfold LIM; omega), cond_true, cond_true, if_pos h0]
    · have := specNum_nat (m + 1) n.toNat (by omega) (by omega) k
      rw [show ((n.toNat : Nat) : Int) = n by omega] at this
      unfold numT
      rw [hb, cond_true, if_neg h0]
      exact this
  · have hb : numB n = false := decide_eq_false h
    unfold spec_NumText_b numT
    rw [l01Num_eq, hb, Bool.not_false, cond_true, cond_false]

theorem implNum_step (self : Int → (ByteArray → Res) → Res) (n : Int) (s : ByteArray) (rec : Int × ByteArray → Res) (q : Int → ByteArray → Res) : impl_NumText_l0_s self (n, s) rec q = impl_NumText_l0_r self n s (fun n s => rec (n, s)) q := rfl

theorem implNum_loop (self : Int → (ByteArray → Res) → Res) (k : ByteArray → Res) : ∀ (m n d : Nat) (s : ByteArray), n < m → n ≤ 1099511627775 → n < 10 ^ (d + 1) → s.size + d ≤ 1000 →
    iter (impl_NumText_l0_s self) m ((n : Int), s) (fun (n_1 : Int) (s : ByteArray) => bif lim ((ByteArray.size (ofBytes [wu8 (wi64 (48 + n_1))])) + (ByteArray.size s)) then k ((ofBytes [wu8 (wi64 (48 + n_1))]) ++ s) else none) = k (digs n ++ s)
  | 0, n, d, s, h, _, _, _ => by omega
  | m + 1, n, d, s, h, hn, hd, hs => by
    rw [iter_succ, implNum_step]
    unfold impl_NumText_l0_r
    by_cases h1 : n < 10
    · have : decide ((n : Int) > 9) = false := decide_eq_false (by omega)
      rw [this, cond_false, digs_lo h1]
      show (bif lim ((dg (n : Int)).size + s.size) then k (dg (n : Int) ++ s) else none) = _
      rw [dg_size, lim_of (by unfold LIM; omega), cond_true]
    · have : decide ((n : Int) > 9) = true := decide_eq_true (by omega)
      obtain ⟨d, rfl⟩ : ∃ e, d = e + 1 := by
        cases d with
        | zero => exact absurd (by simpa using hd) h1
        | succ d => exact ⟨d, rfl⟩
      rw [this, cond_true, tdiv_nat, tmod_nat, wi64_of (n := ((n / 10 : Nat) : Int)) (by omega) (by omega)]
      show (bif lim ((dg ((n % 10 : Nat) : Int)).size + s.size) then iter (impl_NumText_l0_s self) m (((n / 10 : Nat) : Int), dg ((n % 10 : Nat) : Int) ++ s) _ else none) = _
      rw [dg_size, lim_of (by unfold LIM; omega), cond_true, implNum_loop self k m (n / 10) d _ (by omega) (by omega) (Nat.div_lt_of_lt_mul (by rw [Nat.pow_succ] at hd; omega)) (by rw [ByteArray.size_append, dg_size]; omega), digs_hi h1, ByteArray.append_assoc]

theorem implNum_eq (n : Int) (k : ByteArray → Res) : impl_NumText n k = k (numT n) := by
  unfold impl_NumText
  obtain ⟨m, hm, hm2⟩ := FUEL_succ
  rw [hm]
  obtain ⟨m, rfl⟩ : ∃ e, m = e + 1 := ⟨m - 1, by omega⟩
  have pos : ∀ (self : Int → (ByteArray → Res) → Res) (n : Nat) (k : ByteArray → Res), n ≤ 1099511627775 → impl_NumText_b self (n : Int) k = k (digs n) := by
    intro self n k hn
    unfold impl_NumText_b impl_NumText_l0
    rw [within_eq, decide_eq_true (by omega), Bool.not_true, cond_false, dec_lt_f (by omega), cond_false]
    have := implNum_loop self k FUEL n 12 eS (FUEL_lt (by omega)) hn (by omega) (by show 0 + 12 ≤ 1000; omega)
    rw [eS_app] at this
    exact this
  show impl_NumText_b (recN (fun _ _ => none) impl_NumText_b (m + 1)) n k = _
  have ih : ∀ (n : Nat) (k : ByteArray → Res), n ≤ 1099511627775 → recN (fun _ _ => none) impl_NumText_b (m + 1) (n : Int) k = k (digs n) := fun n k hn => pos (recN (fun _ _ => none) impl_NumText_b m) n k hn
  generalize recN (fun _ _ => none) impl_NumText_b (m + 1) = self at ih ⊢
  by_cases h : -1099511627775 ≤ n ∧ n ≤ 1099511627775
  · have hb : numB n = true := decide_eq_true h
    by_cases h0 : n < 0
    · unfold impl_NumText_b numT
      have hsz := digs_size13 (n := (-n).toNat) (by omega)
      have hw : wi64 (0 - n) = (((-n).toNat : Nat) : Int) := by rw [wi64_of (by omega) (by omega)]; omega
      rw [within_eq, decide_eq_true h, Bool.not_true, cond_false, dec_lt_t h0, cond_true, hw]
      rw [ih _ _ (by omega), lim_of (by unfold LIM; omega), cond_true, hb, cond_true, if_pos h0]
    · have := pos self n.toNat k (by omega)
      rw [show ((n.toNat : Nat) : Int) = n by omega] at this
      unfold numT
      rw [hb, cond_true, if_neg h0]
      exact this
  · have hb : numB n = false := decide_eq_false h
    unfold impl_NumText_b numT
    rw [within_eq, decide_eq_false h, Bool.not_false, cond_true, hb, cond_false]
/-! ### texts of values -/
def pB (b : Int) : Bool := bif decide (33 ≤ b ∧ b ≤ 126) then (bif (b != 39) then (b != 37) else false) else false
theorem specP_eq (b : Int) (k : Bool → Res) : spec_ValText_p0 b k = k (pB b) := by
  unfold spec_ValText_p0 pB
  by_cases h : 33 ≤ b
  · rw [decide_eq_true (show b ≥ 33 from h), cond_true]
    have : decide (b ≤ 126) = decide (33 ≤ b ∧ b ≤ 126) := decide_eq_decide.2 (by omega)
    rw [this]
    cases decide (33 ≤ b ∧ b ≤ 126)
    · rfl
    · cases b != 39 <;> rfl
  · rw [decide_eq_false (show ¬ b ≥ 33 from h), decide_eq_false (show ¬ (33 ≤ b ∧ b ≤ 126) by omega)]
    rfl
theorem implP_eq (b : Int) (h : 0 ≤ b ∧ b < 256) (k : Bool → Res) : impl_ValText_p0 b k = k (pB b) := by
  unfold impl_ValText_p0 pB
  rw [wi64_of (by omega) (by omega), within_eq]
  cases decide (33 ≤ b ∧ b ≤ 126)
  · rfl
  · cases b != 39 <;> rfl

def h1 (b : Int) : Int := bt z_0123456789abcdef (Int.tmod (wi64 (Int.tdiv (wi64 b) 16)) 16)
def h2 (b : Int) : Int := bt z_0123456789abcdef (Int.tmod (Int.tmod (wi64 b) 16) 16)
theorem hexes : ∀ b : Fin 256, (inb (shrI .u8 ((b.val : Nat) : Int) 4) 16 && inb (andI .u8 ((b.val : Nat) : Int) 15) 16 && (bt z_0123456789abcdef (shrI .u8 ((b.val : Nat) : Int) 4) == h1 ((b.val : Nat) : Int)) && (bt z_0123456789abcdef (andI .u8 ((b.val : Nat) : Int) 15) == h2 ((b.val : Nat) : Int)) &&
    inb (Int.tmod (wi64 (Int.tdiv (wi64 ((b.val : Nat) : Int)) 16)) 16) 16 && inb (Int.tmod (Int.tmod (wi64 ((b.val : Nat) : Int)) 16) 16) 16) = true := by decide +kernel
theorem hex_of {b : Int} (h : 0 ≤ b ∧ b < 256) : inb (shrI .u8 b 4) 16 = true ∧ inb (andI .u8 b 15) 16 = true ∧ bt z_0123456789abcdef (shrI .u8 b 4) = h1 b ∧ bt z_0123456789abcdef (andI .u8 b 15) = h2 b ∧
    inb (Int.tmod (wi64 (Int.tdiv (wi64 b) 16)) 16) 16 = true ∧ inb (Int.tmod (Int.tmod (wi64 b) 16) 16) 16 = true := by
  have := hexes ⟨b.toNat, by omega⟩
  simp only [Bool.and_eq_true, beq_iff_eq] at this
  rw [show ((b.toNat : Nat) : Int) = b by omega] at this
  obtain ⟨⟨⟨⟨⟨a1, a2⟩, a3⟩, a4⟩, a5⟩, a6⟩ := this
  exact ⟨a1, a2, a3, a4, a5, a6⟩
theorem bt_rng (s : ByteArray) (i : Int) : 0 ≤ bt s i ∧ bt s i < 256 := by
  unfold bt
  have := UInt8.toNat_lt (s.data.toList.getD i.toNat 0)
  omega

def gB (b : Int) : List Int := bif pB b then [b] else [37, h1 b, h2 b]
theorem gB_len (b : Int) : (gB b).length ≤ 3 := by unfold gB; cases pB b <;> simp
def outT (s : ByteArray) : List Int := foldN (fun i out => out ++ gB (bt s (i : Int))) 0 s.size [39]

theorem specText_loop (v : V) (h : v.2.2.size ≤ LIM / 4) (K : List Int → Res) : spec_ValText_l1 v FUEL [39] 0 K = K (outT v.2.2) ∧ (outT v.2.2).length ≤ 1 + 3 * v.2.2.size := by
  unfold spec_ValText_l1 outT
  unfold LIM at h
  exact fold_loop v.2.2.size (fun i out => (out, i)) (fun i out => out ++ gB (bt v.2.2 (i : Int))) (fun i out => out.length ≤ 1 + 3 * i) (step := spec_ValText_l1_s v) K K [39] (by unfold LIM; omega) (by simp) (fun i out hi ho => by
    have := gB_len (bt v.2.2 (i : Int)); simp only [List.length_append]; omega) (fun i out rec hi ho => by
    show spec_ValText_l1_r v _ _ _ _ = _
    dsimp only
    unfold spec_ValText_l1_r spec_l01Hex
    obtain ⟨a1, a2, a3, a4, a5, a6⟩ := hex_of (bt_rng v.2.2 (i : Int))
    rw [nI_lt hi, cond_true, inb_of (by omega) (by omega), cond_true, specP_eq, wi64_of (n := (i : Int) + 1) (by omega) (by omega)]
    unfold gB
    cases pB (bt v.2.2 (i : Int))
    · dsimp only
      rw [cond_false, a5, cond_true, a6, cond_true, lim_of (by unfold LIM; omega), cond_true, cond_false]
      rfl
    · dsimp only
      rw [cond_true, lim_of (by unfold LIM; omega), cond_true, cond_true]) (fun out rec ho => by
    show spec_ValText_l1_r v _ _ _ _ = _
    dsimp only
    unfold spec_ValText_l1_r
    rw [nI_ge, cond_false])
theorem implText_loop (v : V) (h : v.2.2.size ≤ LIM / 4) (K : List Int → Res) : impl_ValText_l1 v FUEL [39] 0 K = K (outT v.2.2) := by
  unfold impl_ValText_l1 outT
  unfold LIM at h
  exact (fold_loop v.2.2.size (fun i out => (out, i)) (fun i out => out ++ gB (bt v.2.2 (i : Int))) (fun i out => out.length ≤ 1 + 3 * i) (step := impl_ValText_l1_s v) K K [39] (by unfold LIM; omega) (by simp) (fun i out hi ho => by
    have := gB_len (bt v.2.2 (i : Int)); simp only [List.length_append]; omega) (fun i out rec hi ho => by
    show impl_ValText_l1_r v _ _ _ _ = _
    dsimp only
    unfold impl_ValText_l1_r
    obtain ⟨a1, a2, a3, a4, a5, a6⟩ := hex_of (bt_rng v.2.2 (i : Int))
    rw [nI_lt hi, cond_true, inb_of (by omega) (by omega), cond_true, implP_eq _ (bt_rng _ _), wi64_of (n := (i : Int) + 1) (by omega) (by omega)]
    unfold gB
    cases pB (bt v.2.2 (i : Int))
    · dsimp only
      rw [cond_false, a1, cond_true, a2, cond_true, lim_of (by unfold LIM; omega), cond_true, cond_false, a3, a4]
    · dsimp only
      rw [cond_true, lim_of (by unfold LIM; omega), cond_true, cond_true]) (fun out rec ho => by
    show impl_ValText_l1_r v _ _ _ _ = _
    dsimp only
    unfold impl_ValText_l1_r
    rw [nI_ge, cond_false])).1

def valT (v : V) : ByteArray := bif valB v then (bif v.1 == 0 then z_null else bif v.1 == 1 then (bif v.2.1 == 1 then z_true else z_false) else bif v.1 == 2 then numT v.2.1 else ofBytes (outT v.2.2 ++ [39])) else eS
theorem valB_small {v : V} (hb : valB v = true) (h0 : (v.1 == 0) = false) (h1 : (v.1 == 1) = false) (h2 : (v.1 == 2) = false) : v.2.2.size ≤ 30 := by
  unfold valB at hb
  rw [h0, h1, h2, cond_false, cond_false, cond_false] at hb
  cases h3 : v.1 == 3
  · rw [h3, cond_false] at hb; cases hb
  · rw [h3, cond_true, Bool.and_eq_true, decide_eq_true_eq] at hb
    have := hb.2
    unfold nI at this
    omega
theorem valT_size (v : V) : (valT v).size ≤ 100 := by
  unfold valT
  cases hb : valB v
  · show (0 : Nat) ≤ 100; omega
  · rw [cond_true]
    cases h0 : v.1 == 0
    · cases h1 : v.1 == 1
      · cases h2 : v.1 == 2
        · rw [cond_false, cond_false, cond_false, ofBytes_size]
          have hs := valB_small hb h0 h1 h2
          have := (specText_loop v (by unfold LIM; omega) (fun _ => none)).2
          simp only [List.length_append, List.length_cons, List.length_nil]
          omega
        · rw [cond_false, cond_false, cond_true]
          have := numT_size v.2.1
          omega
      · rw [cond_false, cond_true]
        cases v.2.1 == 1
        · show (5 : Nat) ≤ 100; omega
        · show (4 : Nat) ≤ 100; omega
    · show (4 : Nat) ≤ 100; omega
theorem specT_eq (v : V) (k : ByteArray → Res) : spec_ValText v k = k (valT v) := by
  unfold spec_ValText valT
  rw [specVal_eq]
  cases hb : valB v
  · rfl
  · rw [Bool.not_true, cond_false, cond_true]
    cases h0 : v.1 == 0
    · cases h1 : v.1 == 1
      · cases h2 : v.1 == 2
        · have hs := valB_small hb h0 h1 h2
          obtain ⟨e1, e2⟩ := specText_loop v (by unfold LIM; omega) (fun (out : List Int) => bif lim ((List.length out) + 1) then k (ofBytes (out ++ [39])) else none)
          rw [cond_false, cond_false, cond_false, e1, lim_of (by unfold LIM; omega), cond_true, cond_false, cond_false, cond_false]
        · rw [cond_false, cond_false, cond_true, specNum_eq, cond_false, cond_false, cond_true]
      · unfold spec_l01Bool
        cases v.2.1 == 1 <;> rfl
    · rfl
theorem implT_eq (v : V) (k : ByteArray → Res) : impl_ValText v k = k (valT v) := by
  unfold impl_ValText valT
  rw [implVal_eq]
  cases hb : valB v
  · rfl
  · rw [Bool.not_true, cond_false, cond_true]
    cases h0 : v.1 == 0
    · cases h1 : v.1 == 1
      · cases h2 : v.1 == 2
        · have hs := valB_small hb h0 h1 h2
          have e1 := implText_loop v (by unfold LIM; omega) (fun (out : List Int) => bif lim ((List.length out) + 1) then k (ofBytes (out ++ [39])) else none)
          have e2 := (specText_loop v (by unfold LIM; omega) (fun _ => none)).2
          rw [cond_false, cond_false, cond_false, e1, lim_of (by unfold LIM; omega), cond_true, cond_false, cond_false, cond_false]
        · rw [cond_false, cond_false, cond_true, implNum_eq, cond_false, cond_false, cond_true]
      · unfold impl_boolText
        cases v.2.1 == 1 <;> rfl
    · rfl

end Go.PI.G
namespace Go.PI.G
open Go Go.PI Go.Proofs

theorem toBytes_dg (x : Int) (h : 0 ≤ x ∧ x < 10) : toBytes (dg x) = [48 + x] := by
  unfold dg
  rw [wi64_in (by omega), wu8_small (by omega), toBytes_ofBytes (isB_cons (by omega) isB_nil)]
theorem digs_go : (n : Nat) → goL dgF (toBytes (digs n)) 0 = .ok (n : Int) ∧ ∃ x xs, toBytes (digs n) = x :: xs ∧ 48 ≤ x ∧ x ≤ 57 := by
  intro n
  induction n using Nat.strongRecOn with
  | _ n ih =>
    by_cases h : n < 10
    · rw [digs_lo h, toBytes_dg _ (by omega)]
      refine ⟨?_, _, _, rfl, by omega, by omega⟩
      simp only [goL]
      rw [dgF_of (by omega)]
      dsimp only
      congr 1; omega
    · obtain ⟨i1, x, xs, i2, i3⟩ := ih (n / 10) (by omega)
      rw [digs_hi h, toBytes_app, toBytes_dg _ (by omega), go_app, i1]
      refine ⟨?_, x, xs ++ [48 + ((n % 10 : Nat) : Int)], by rw [i2]; rfl, i3⟩
      simp only [goL]
      rw [dgF_of (by omega)]
      dsimp only
      congr 1; omega
theorem numT_bytes {n : Int} (h : numB n = true) : (n < 0 ∧ toBytes (numT n) = 45 :: toBytes (digs (-n).toNat)) ∨ (0 ≤ n ∧ toBytes (numT n) = toBytes (digs n.toNat)) := by
  unfold numT
  rw [h, cond_true]
  by_cases h0 : n < 0
  · rw [if_pos h0, toBytes_app]; exact .inl ⟨h0, rfl⟩
  · rw [if_neg h0]; exact .inr ⟨by omega, rfl⟩
theorem numT_rd {n : Int} (h : numB n = true) : rdN (toBytes (numT n)) = some n := by
  unfold rdN
  rcases numT_bytes h with ⟨h0, e⟩ | ⟨h0, e⟩
  · rw [e]
    simp only [List.headD_cons, List.tail_cons]
    rw [show ((45 : Int) == 45) = true from rfl, cond_true, (digs_go _).1]
    dsimp only
    congr 1; omega
  · obtain ⟨i1, x, xs, i2, i3⟩ := digs_go n.toNat
    rw [e, i1]
    have : ((toBytes (digs n.toNat)).headD 0 == 45) = false := by rw [i2]; simp; omega
    rw [this, cond_false]
    dsimp only
    congr 1; omega
theorem numT_inj {m n : Int} (hm : numB m = true) (hn : numB n = true) (h : numT m = numT n) : m = n := by
  have := numT_rd hm
  rw [h, numT_rd hn] at this
  exact (Option.some.inj this).symm
/-- The first byte of a number's text. -/
theorem numT_head {n : Int} (h : numB n = true) : ∃ x xs, toBytes (numT n) = x :: xs ∧ (x = 45 ∨ (48 ≤ x ∧ x ≤ 57)) := by
  rcases numT_bytes h with ⟨h0, e⟩ | ⟨h0, e⟩
  · exact ⟨_, _, e, .inl rfl⟩
  · obtain ⟨i1, x, xs, i2, i3⟩ := digs_go n.toNat
    exact ⟨x, xs, by rw [e, i2], .inr i3⟩
theorem numT_off {n : Int} (h : numB n = false) : numT n = eS := by unfold numT; rw [h]; rfl
end Go.PI.G
namespace Go.PI.G
open Go Go.PI Go.Proofs

def esc (l : List Int) : List Int := l.flatMap gB
theorem h1_rng (b : Int) : 0 ≤ h1 b ∧ h1 b < 256 := bt_rng _ _
theorem h2_rng (b : Int) : 0 ≤ h2 b ∧ h2 b < 256 := bt_rng _ _
theorem gB_isB {b : Int} (h : 0 ≤ b ∧ b < 256) : isB (gB b) := by
  unfold gB
  cases pB b
  · exact isB_cons (by omega) (isB_cons (h1_rng b) (isB_cons (h2_rng b) isB_nil))
  · exact isB_cons h isB_nil
theorem esc_isB : (l : List Int) → isB l → isB (esc l)
  | [], _ => isB_nil
  | x :: l, h => isB_append (gB_isB (h x (by simp))) (esc_isB l fun y hy => h y (List.mem_cons_of_mem _ hy))
theorem outT_eq (s : ByteArray) : outT s = 39 :: esc (toBytes s) := by
  unfold outT
  rw [foldN_flat s gB s.size 0 [39] (by omega), List.drop_zero]
  rfl
theorem textT_bytes (s : ByteArray) : toBytes (ofBytes (outT s ++ [39])) = 39 :: (esc (toBytes s) ++ [39]) := by
  rw [outT_eq, toBytes_ofBytes]
  · rfl
  · exact isB_append (isB_cons (by omega) (esc_isB _ (toBytes_isB s))) (isB_cons (by omega) isB_nil)
theorem pB_free {b : Int} (h : pB b = true) : (33 ≤ b ∧ b ≤ 126) ∧ b ≠ 39 ∧ b ≠ 37 := by
  unfold pB at h
  by_cases hb : 33 ≤ b ∧ b ≤ 126
  · rw [decide_eq_true hb, cond_true] at h
    cases h1 : b != 39
    · rw [h1] at h; cases h
    · rw [h1, cond_true] at h
      exact ⟨hb, by simpa using h1, by simpa using h⟩
  · rw [decide_eq_false hb] at h; cases h
theorem valT_null : valT (0, 0, eS) = z_null := by
  unfold valT
  rw [valB_null]; rfl
/-- What a right value's text begins with. -/
theorem valT_head {v : V} (h : valB v = true) : (v = (0, 0, eS) ∧ valT v = z_null) ∨ (v = (1, 1, eS) ∧ valT v = z_true) ∨ (v = (1, 0, eS) ∧ valT v = z_false) ∨ (∃ n, v = (2, n, eS) ∧ numB n = true ∧ valT v = numT n) ∨
    ∃ s : ByteArray, v = (3, 0, s) ∧ s.size ≤ 30 ∧ toBytes (valT v) = 39 :: (esc (toBytes s) ++ [39]) := by
  rcases valB_cases h with rfl | ⟨n, hn, rfl⟩ | ⟨n, hn, rfl⟩ | ⟨s, hs, rfl⟩
  · exact .inl ⟨rfl, valT_null⟩
  · rcases hn with rfl | rfl
    · refine .inr (.inr (.inl ⟨rfl, ?_⟩))
      unfold valT; rw [h]; rfl
    · refine .inr (.inl ⟨rfl, ?_⟩)
      unfold valT; rw [h]; rfl
  · refine .inr (.inr (.inr (.inl ⟨n, rfl, decide_eq_true hn, ?_⟩)))
    unfold valT; rw [h]; rfl
  · refine .inr (.inr (.inr (.inr ⟨s, rfl, hs, ?_⟩)))
    rw [← textT_bytes]
    unfold valT; rw [h]; rfl
theorem valT_bad {v : V} (h : valB v = false) : valT v = eS := by unfold valT; rw [h]; rfl

/-- The first byte of a right value's text. -/
theorem valT_first {v : V} (h : valB v = true) : ∃ x xs, toBytes (valT v) = x :: xs ∧ (x = 39 → ∃ s : ByteArray, v = (3, 0, s) ∧ s.size ≤ 30 ∧ toBytes (valT v) = 39 :: (esc (toBytes s) ++ [39])) := by
  rcases valT_head h with ⟨rfl, e⟩ | ⟨rfl, e⟩ | ⟨rfl, e⟩ | ⟨n, rfl, hn, e⟩ | ⟨s, rfl, hs, e⟩
  · exact ⟨110, [117, 108, 108], by rw [e]; rfl, fun hx => by omega⟩
  · exact ⟨116, [114, 117, 101], by rw [e]; rfl, fun hx => by omega⟩
  · exact ⟨102, [97, 108, 115, 101], by rw [e]; rfl, fun hx => by omega⟩
  · obtain ⟨x, xs, h1, h2⟩ := numT_head hn
    exact ⟨x, xs, by rw [e, h1], fun hx => by omega⟩
  · exact ⟨39, _, e, fun _ => ⟨s, rfl, hs, e⟩⟩
theorem esc_len : (l : List Int) → (esc l).length ≤ 3 * l.length
  | [] => by simp [esc]
  | x :: l => by
    have h1 := gB_len x
    have h2 := esc_len l
    have e : esc (x :: l) = gB x ++ esc l := rfl
    rw [e, List.length_append, List.length_cons]
    omega
theorem valT_ne {v : V} (h : valB v = true) : valT v ≠ eS := fun he => by
  obtain ⟨x, xs, h1, _⟩ := valT_first h
  rw [he] at h1
  cases h1
end Go.PI.G
