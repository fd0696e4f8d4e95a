/-
  Printed texts and plain laws. No conditions.
-/
import Derived.Test.Ytiieddiheadocaask
import Derived.Test.Ytiieddiheadocaasf
set_option linter.unusedVariables false
set_option linter.unusedSimpArgs false
namespace Go.PI.G
open Go Go.PI Go.Proofs

theorem specColW (c : C) (h : colB c = true) (k : List ByteArray → Res) : spec_l05Col c k = k (colW c) := by
  obtain ⟨h1, h2, h3⟩ := colB_word h
  unfold spec_l05Col spec_l05Types spec_l05Col_p0 colW tyN
  dsimp only
  have hv := valT_size c.2.2.2.2
  rw [show inb c.2.1 ([eS, z_bool, z_int, z_text] : List ByteArray).length = true from inb_of (by omega) (by show c.2.1 < ((4 : Nat) : Int); omega), cond_true]
  cases c.2.2.1
  · rw [cond_false, cond_false]
    cases c.2.2.2.1
    · rfl
    · rw [cond_true, cond_true, specT_eq, lim_of (by unfold LIM; omega), cond_true]
      rfl
  · rw [cond_true, cond_true, lim_of (by show (2 : Nat) + 1 ≤ LIM; unfold LIM; omega), cond_true]
    cases c.2.2.2.1
    · rfl
    · rw [cond_true, cond_true, specT_eq, lim_of (by unfold LIM; omega), cond_true]
      rfl
theorem parW_len (c : C) : (parW c).length ≤ 6 := by
  have := colW_len c
  unfold parW
  simp only [List.length_cons, List.length_append, List.length_nil]
  omega
theorem flat_take {α β : Type} (l : List α) (g : α → List β) (i : Nat) (hi : i < l.length) : (l.take (i + 1)).flatMap g = (l.take i).flatMap g ++ g l[i] := by
  rw [List.take_succ_eq_append_getElem hi, List.flatMap_append, List.flatMap_cons, List.flatMap_nil, List.append_nil]
theorem par_len (l : List C) : (l.flatMap parW).length ≤ 6 * l.length := by
  induction l with
  | nil => simp
  | cons c l ih =>
    have := parW_len c
    rw [List.flatMap_cons, List.length_append, List.length_cons]
    omega
theorem ddlW_len {d : D} (h : ddlB d = true) (hd : dSm d) : (ddlW d).length ≤ 1048700 := by
  obtain ⟨h0, hc⟩ := ddlB_cases h
  rcases hc with ⟨t, cs, ks, rfl, hT⟩ | ⟨t, rfl⟩ | ⟨t, c, rfl, hC⟩ | ⟨t, n, rfl, hn⟩ | ⟨t, n, m, rfl, hn, hm⟩
  · have h1 := (tabB_parts hT).2.2.1
    have h2 := par_len cs
    have h3 := hd.2.2.1
    simp only [ddlW, beq_self_eq_true, cond_true, List.length_cons, List.length_append] at h1 h3 ⊢
    omega
  · show (2 : Nat) ≤ _; omega
  · have := colW_len c
    simp only [ddlW, show ((3 : Int) == 1) = false from rfl, show ((3 : Int) == 2) = false from rfl, show ((3 : Int) == 3) = true from rfl, cond_false, cond_true, List.length_cons]
    show (colW c).length + 1 + 1 ≤ _
    omega
  · show (3 : Nat) ≤ _; omega
  · show (4 : Nat) ≤ _; omega
theorem ddlJ_size {d : D} (h : ddlB d = true) (hd : dSm d) : (joinB (ddlW d)).size ≤ 108000000 := by
  have h1 := ddlW_len h hd
  have h2 := joinB_size (ddlW d) 101 fun w hw => (ddlW_mem h w hw).1
  omega
theorem specDdlW (d : D) (h : ddlB d = true) (hd : dSm d) (k : List ByteArray → Res) : spec_l05Ddl d k = k (ddlW d) := by
  obtain ⟨h0, hc⟩ := ddlB_cases h
  unfold spec_l05Ddl spec_l05Ddl_p1
  rcases hc with ⟨t, cs, ks, rfl, hT⟩ | ⟨t, rfl⟩ | ⟨t, c, rfl, hC⟩ | ⟨t, n, rfl, hn⟩ | ⟨t, n, m, rfl, hn, hm⟩
  · obtain ⟨_, c1, c8, _, hcs, _⟩ := tabB_parts hT
    have hks := hd.2.2.1
    dsimp only at c1 c8 hcs hks ⊢
    rw [show inb 1 6 = true from rfl, cond_true, show ((1 : Int) == 1) = true from rfl, cond_true]
    unfold spec_l05Ddl_l0
    have key := fold_loop cs.length (fun i out => (out, i)) (fun i _ => [z_create, t] ++ (cs.take (i + 1)).flatMap parW) (fun i out => out = [z_create, t] ++ (cs.take i).flatMap parW) (step := spec_l05Ddl_l0_s cs (nI cs.length))
      (fun out1 => bif lim (out1.length + 1) then (bif lim ((out1 ++ [z_key]).length + ks.length) then k ((out1 ++ [z_key]) ++ ks) else none) else none) (fun out1 => bif lim (out1.length + 1) then (bif lim ((out1 ++ [z_key]).length + ks.length) then k ((out1 ++ [z_key]) ++ ks) else none) else none) [z_create, t] (by unfold LIM; omega) rfl (fun i out hi ho => rfl) (fun i out rec hi ho => by
      show spec_l05Ddl_l0_r _ _ _ _ _ _ = _
      unfold spec_l05Ddl_l0_r
      dsimp only
      have hcb := colsB_get hcs i hi
      have hlen : out.length ≤ 100 := by
        rw [ho, List.length_append]
        have := par_len (cs.take i)
        rw [List.length_take] at this
        show 2 + _ ≤ 100
        omega
      have hcw := colW_len cs[i]
      have e : out ++ [z___3] ++ colW cs[i] ++ [z___4] = [z_create, t] ++ (cs.take (i + 1)).flatMap parW := by
        rw [flat_take cs parW i hi, ho]
        unfold parW
        simp
      have l1 : lim (out.length + 1) = true := lim_of (by unfold LIM; omega)
      have l2 : lim ((out ++ [z___3]).length + (colW cs[i]).length) = true := lim_of (by rw [List.length_append, List.length_singleton]; unfold LIM; omega)
      have l3 : lim ((out ++ [z___3] ++ colW cs[i]).length + 1) = true := lim_of (by rw [List.length_append, List.length_append, List.length_singleton]; unfold LIM; omega)
      rw [nI_lt hi, cond_true, inb_nat hi, cond_true, nth_nat _ _ _ hi, wi64_in (n := (i : Int) + 1) (by omega)]
      simp only [specColW _ hcb, l1, l2, l3, cond_true, both_self, e]) (fun out rec ho => by
      show spec_l05Ddl_l0_r _ _ _ _ _ _ = _
      unfold spec_l05Ddl_l0_r
      dsimp only
      rw [nI_ge, cond_false])
    have hq := key.2
    rw [hq, List.take_length] at key
    refine Eq.trans key.1 ?_
    have := par_len cs
    rw [lim_of (by rw [List.length_append]; show 2 + _ + 1 ≤ LIM; unfold LIM; omega), cond_true, lim_of (by rw [List.length_append, List.length_append]; show 2 + _ + 1 + _ ≤ LIM; unfold LIM; omega), cond_true]
    congr 1
    simp [ddlW]
  · rfl
  · dsimp only
    rw [show inb 3 6 = true from rfl, cond_true, show ((3 : Int) == 1) = false from rfl, cond_false, show ((3 : Int) == 3) = true from rfl, cond_true, show inb 0 ([c] : List C).length = true from rfl, cond_true]
    have e : nth zC [c] 0 = c := rfl
    have := colW_len c
    rw [e, specColW _ hC, lim_of (by show 2 + _ ≤ LIM; unfold LIM; omega), cond_true]
    rfl
  · rfl
  · rfl
theorem specDdlT_eq (d : D) (hd : dSm d) (k : ByteArray → Res) : spec_DdlText d k = k (ddlT d) := by
  unfold spec_DdlText ddlT
  rw [specDdl_eq d hd]
  cases h : ddlB d
  · rfl
  · rw [Bool.not_true, cond_false, cond_true, specDdlW d h hd]
    have h1 := ddlW_len h hd
    have h2 := ddlJ_size h hd
    rw [specGlue_eq _ (by omega) (by unfold LIM; omega)]
theorem tlB_nest {w : List ByteArray} (h : w ≠ []) : tlB [joinB w] = tlB w := by
  show spB ++ (joinB w ++ eS) = _
  rw [eS_app, sp_join h]
theorem colJ_eq (c : C) : joinB (colW c) = c.1 ++ (spB ++ (tyN c.2.1 ++ ((bif c.2.2.1 then spB ++ z_not else eS) ++ (bif c.2.2.2.1 then spB ++ (z___2 ++ valT c.2.2.2.2) else eS)))) := by
  unfold colW
  show c.1 ++ (spB ++ (tyN c.2.1 ++ tlB _)) = _
  rw [tlB_app]
  have e1 : tlB (bif c.2.2.1 then [z_not] else []) = bif c.2.2.1 then spB ++ z_not else eS := by
    cases c.2.2.1
    · rfl
    · show spB ++ (z_not ++ eS) = _
      rw [eS_app]; rfl
  have e2 : tlB (bif c.2.2.2.1 then [z___2 ++ valT c.2.2.2.2] else []) = bif c.2.2.2.1 then spB ++ (z___2 ++ valT c.2.2.2.2) else eS := by
    cases c.2.2.2.1
    · rfl
    · show spB ++ ((z___2 ++ valT c.2.2.2.2) ++ eS) = _
      rw [eS_app]; rfl
  rw [e1, e2]
theorem implColT (c : C) (hs : c.1.size ≤ 1048576) (k : ByteArray → Res) : impl_ColText c k = k (bif colB c then joinB (colW c) else eS) := by
  unfold impl_ColText
  rw [implCol_eq c (by unfold LIM; omega)]
  cases h : colB c
  · rfl
  · obtain ⟨h1, h2, h3⟩ := colB_word h
    have hv := valT_size c.2.2.2.2
    have ht : (tyN c.2.1).size ≤ 4 := by rcases tyN_cases h2 with ⟨_, e⟩ | ⟨_, e⟩ | ⟨_, e⟩ <;> rw [e] <;> decide
    have s1 : (z___1).size = 1 := rfl
    have s2 : (z__not).size = 4 := rfl
    have s3 : (z___).size = 2 := rfl
    rw [Bool.not_true, cond_false, lim_of (by unfold LIM; omega), cond_true, cond_true]
    unfold impl_tyName
    have e0 : nth eS [eS, z_bool, z_int, z_text] c.2.1 = tyN c.2.1 := rfl
    rw [inb_of (by omega) (by omega), cond_true, e0]
    unfold impl_ColText_p0
    dsimp only
    rw [lim_of (by rw [ByteArray.size_append]; unfold LIM; omega), cond_true, colJ_eq]
    have q1 : (z___1 : ByteArray) = spB := rfl
    have q2 : (z__not : ByteArray) = spB ++ z_not := toBytes_inj (by rw [toBytes_app]; rfl)
    have q3 : (z___ : ByteArray) = spB ++ z___2 := toBytes_inj (by rw [toBytes_app]; rfl)
    cases c.2.2.1
    · rw [cond_false, cond_false, app_eS]
      cases c.2.2.2.1
      · rw [cond_false, cond_false, eS_app, q1, ByteArray.append_assoc]
      · rw [cond_true, cond_true, lim_of (by simp only [ByteArray.size_append]; unfold LIM; omega), cond_true, implT_eq, lim_of (by simp only [ByteArray.size_append]; unfold LIM; omega), cond_true, q1, q3]
        simp only [ByteArray.append_assoc]
    · rw [cond_true, cond_true, lim_of (by simp only [ByteArray.size_append]; unfold LIM; omega), cond_true]
      cases c.2.2.2.1
      · rw [cond_false, cond_false, eS_app, q1, q2]
        simp only [ByteArray.append_assoc]
      · rw [cond_true, cond_true, lim_of (by simp only [ByteArray.size_append]; unfold LIM; omega), cond_true, implT_eq, lim_of (by simp only [ByteArray.size_append]; unfold LIM; omega), cond_true, q1, q2, q3]
        simp only [ByteArray.append_assoc]
theorem colJ_size {c : C} (h : colB c = true) : (joinB (colW c)).size ≤ 408 := by
  have h1 := colW_len c
  have h2 := joinB_size (colW c) 101 fun w hw => (colW_mem h w hw).1
  omega
theorem parT (c : C) : tlB (parW c) = z____ ++ (joinB (colW c) ++ z____1) := by
  unfold parW
  have q1 : (z____ : ByteArray) = spB ++ (z___3 ++ spB) := toBytes_inj (by rw [toBytes_app, toBytes_app]; rfl)
  have q2 : (z____1 : ByteArray) = spB ++ z___4 := toBytes_inj (by rw [toBytes_app]; rfl)
  have hne : colW c ≠ [] := by unfold colW; exact List.cons_ne_nil _ _
  show spB ++ (z___3 ++ tlB (colW c ++ [z___4])) = _
  rw [tlB_app, ← sp_join hne, q1, q2]
  show spB ++ (z___3 ++ ((spB ++ joinB (colW c)) ++ (spB ++ (z___4 ++ eS)))) = _
  rw [eS_app]
  simp only [ByteArray.append_assoc]
theorem par_size (l : List C) (h : ∀ c ∈ l, colB c = true) : (tlB (l.flatMap parW)).size ≤ 413 * l.length := by
  induction l with
  | nil => show (0 : Nat) ≤ _; omega
  | cons c l ih =>
    have h1 := ih fun x hx => h x (List.mem_cons_of_mem _ hx)
    have h2 := colJ_size (h c (by simp))
    have s1 : (z____).size = 3 := rfl
    have s2 : (z____1).size = 2 := rfl
    rw [List.flatMap_cons, tlB_app, ByteArray.size_append, parT, ByteArray.size_append, ByteArray.size_append, List.length_cons]
    omega
theorem implDdlT_eq (d : D) (hd : dSm d) (k : ByteArray → Res) : impl_DdlText d k = k (ddlT d) := by
  unfold impl_DdlText ddlT
  rw [implDdl_eq d hd]
  cases h : ddlB d
  · rfl
  · rw [Bool.not_true, cond_false, cond_true]
    have hJ := ddlJ_size h hd
    obtain ⟨h0, hc⟩ := ddlB_cases h
    rcases hc with ⟨t, cs, ks, rfl, hT⟩ | ⟨t, rfl⟩ | ⟨t, c, rfl, hC⟩ | ⟨t, n, rfl, hn⟩ | ⟨t, n, m, rfl, hn, hm⟩
    · obtain ⟨_, c1, c8, k1, hcs, _⟩ := tabB_parts hT
      have hks := hd.2.2.1
      have hw := wordB_size h0
      dsimp only at c1 c8 k1 hcs hks hw ⊢
      have hcb : ∀ c ∈ cs, colB c = true := fun c hc => by
        obtain ⟨i, hi, rfl⟩ := List.mem_iff_getElem.1 hc
        exact colsB_get hcs i hi
      have s1 : (z____).size = 3 := rfl
      have s2 : (z____1).size = 2 := rfl
      have s3 : (z_create_).size = 7 := rfl
      have s4 : (z__key_).size = 5 := rfl
      have hkn : ks ≠ [] := fun e => by rw [e] at k1; simp at k1
      have hkj : (joinB ks).size ≤ 108000000 := by
        have := joinB_size ks 8 fun w hw => (wordB_size (key_word hT w hw)).2
        omega
      rw [show ((1 : Int) == 1) = true from rfl, cond_true, lim_of (by unfold LIM; omega), cond_true]
      unfold impl_DdlText_l0
      have key := fold_loop cs.length (fun i out => (out, i)) (fun i _ => (z_create_ ++ t) ++ tlB ((cs.take (i + 1)).flatMap parW)) (fun i out => out = (z_create_ ++ t) ++ tlB ((cs.take i).flatMap parW)) (step := impl_DdlText_l0_s cs (nI cs.length))
        (fun s => bif lim (s.size + 5) then (impl_glued ks fun (r1 : ByteArray) => bif lim ((s ++ z__key_).size + r1.size) then k ((s ++ z__key_) ++ r1) else none) else none) (fun s => bif lim (s.size + 5) then (impl_glued ks fun (r1 : ByteArray) => bif lim ((s ++ z__key_).size + r1.size) then k ((s ++ z__key_) ++ r1) else none) else none) (z_create_ ++ t) (by unfold LIM; omega) (eS_app _).symm (fun i out hi ho => rfl) (fun i out rec hi ho => by
        show impl_DdlText_l0_r _ _ _ _ _ _ = _
        unfold impl_DdlText_l0_r
        dsimp only
        have hci := hcb cs[i] (List.getElem_mem _)
        have hsz := par_size (cs.take i) fun c hc => hcb c (List.mem_of_mem_take hc)
        rw [List.length_take] at hsz
        have hcj := colJ_size hci
        have hw2 := wordB_size (colB_word hci).1
        have ho2 : out.size ≤ 5000 := by rw [ho, ByteArray.size_append, ByteArray.size_append]; omega
        have e : out ++ z____ ++ joinB (colW cs[i]) ++ z____1 = (z_create_ ++ t) ++ tlB ((cs.take (i + 1)).flatMap parW) := by
          rw [flat_take cs parW i hi, tlB_app, parT, ho]
          simp only [ByteArray.append_assoc]
        rw [nI_lt hi, cond_true, inb_nat hi, cond_true, nth_nat _ _ _ hi, lim_of (by unfold LIM; omega), cond_true, implColT _ (by omega), hci, cond_true, lim_of (by rw [ByteArray.size_append]; unfold LIM; omega), cond_true, lim_of (by rw [ByteArray.size_append, ByteArray.size_append]; unfold LIM; omega), cond_true, e, wi64_in (n := (i : Int) + 1) (by omega)]) (fun out rec ho => by
        show impl_DdlText_l0_r _ _ _ _ _ _ = _
        unfold impl_DdlText_l0_r
        dsimp only
        rw [nI_ge, cond_false])
      have hq := key.2
      rw [hq, List.take_length] at key
      refine Eq.trans key.1 ?_
      have hsz := par_size cs hcb
      have ho2 : ((z_create_ ++ t) ++ tlB (cs.flatMap parW)).size ≤ 5000 := by rw [ByteArray.size_append, ByteArray.size_append]; omega
      rw [lim_of (by unfold LIM; omega), cond_true, implGlue_eq ks (by omega) (by unfold LIM; omega), lim_of (by rw [ByteArray.size_append]; unfold LIM; omega), cond_true]
      congr 1
      have q1 : (z_create_ : ByteArray) = z_create ++ spB := toBytes_inj (by rw [toBytes_app]; rfl)
      have q2 : (z__key_ : ByteArray) = spB ++ (z_key ++ spB) := toBytes_inj (by rw [toBytes_app, toBytes_app]; rfl)
      have e2 : joinB (ddlW (1, t, cs, ks, eS, eS)) = z_create ++ (spB ++ (t ++ (tlB (cs.flatMap parW) ++ (spB ++ (z_key ++ tlB ks))))) := by
        show z_create ++ (spB ++ (t ++ tlB (cs.flatMap parW ++ (z_key :: ks)))) = _
        rw [tlB_app]
        rfl
      rw [e2, ← sp_join hkn, q1, q2]
      simp only [ByteArray.append_assoc]
    · have hw := wordB_size h0
      dsimp only at hw ⊢
      rw [show ((2 : Int) == 1) = false from rfl, cond_false, show ((2 : Int) == 2) = true from rfl, cond_true, lim_of (by unfold LIM; omega), cond_true]
      congr 1
      have q1 : (z_drop_ : ByteArray) = z_drop ++ spB := toBytes_inj (by rw [toBytes_app]; rfl)
      show _ = z_drop ++ (spB ++ (t ++ eS))
      rw [eS_app, q1, ByteArray.append_assoc]
    · have hw2 := wordB_size (colB_word hC).1
      dsimp only
      have e : nth zC [c] 0 = c := rfl
      have hne : colW c ≠ [] := by unfold colW; exact List.cons_ne_nil _ _
      have ej : joinB [z_add, t, joinB (colW c)] = joinB (ddlW (3, t, [c], [], eS, eS)) := by
        show z_add ++ (spB ++ (t ++ tlB [joinB (colW c)])) = z_add ++ (spB ++ (t ++ tlB (colW c)))
        rw [tlB_nest hne]
      rw [show ((3 : Int) == 1) = false from rfl, cond_false, show ((3 : Int) == 2) = false from rfl, cond_false, show ((3 : Int) == 3) = true from rfl, cond_true, show inb 0 ([c] : List C).length = true from rfl, cond_true, e, implColT _ (by omega), hC, cond_true, implGlue_eq _ (by simp) (by rw [ej]; unfold LIM; omega), ej]
    · dsimp only
      rw [show ((4 : Int) == 1) = false from rfl, cond_false, show ((4 : Int) == 2) = false from rfl, cond_false, show ((4 : Int) == 3) = false from rfl, cond_false, show ((4 : Int) == 4) = true from rfl, cond_true]
      exact implGlue_eq _ (by simp) (by show (joinB (ddlW (4, t, [], [], n, eS))).size ≤ _; unfold LIM; omega) k
    · dsimp only
      rw [show ((5 : Int) == 1) = false from rfl, cond_false, show ((5 : Int) == 2) = false from rfl, cond_false, show ((5 : Int) == 3) = false from rfl, cond_false, show ((5 : Int) == 4) = false from rfl, cond_false]
      exact implGlue_eq _ (by simp) (by show (joinB (ddlW (5, t, [], [], n, m))).size ≤ _; unfold LIM; omega) k
theorem map_take {α β : Type} (l : List α) (g : α → β) (i : Nat) (hi : i < l.length) : (l.take (i + 1)).map g = (l.take i).map g ++ [g l[i]] := by
  rw [List.take_succ_eq_append_getElem hi, List.map_append]
  rfl
theorem specVl_eq (l : List V) (h : l.length ≤ 1000000000) (k : List ByteArray → Res) : spec_l05Vals l k = k (l.map valT) := by
  unfold spec_l05Vals spec_l05Vals_l0
  have key := fold_loop l.length (fun i out => (out, i)) (fun i _ => (l.take (i + 1)).map valT) (fun i out => out = (l.take i).map valT) (step := spec_l05Vals_l0_s l (nI l.length)) (fun out => k out) k [] (by unfold LIM; omega) rfl (fun i out hi ho => rfl) (fun i out rec hi ho => by
    show spec_l05Vals_l0_r _ _ _ _ _ _ = _
    unfold spec_l05Vals_l0_r
    dsimp only
    have hl : out.length ≤ i := by rw [ho, List.length_map, List.length_take]; omega
    rw [nI_lt hi, cond_true, inb_nat hi, cond_true, nth_nat _ _ _ hi, specT_eq, lim_of (by unfold LIM; omega), cond_true, wi64_in (by omega), map_take l valT i hi, ho]) (fun out rec ho => by
    show spec_l05Vals_l0_r _ _ _ _ _ _ = _
    unfold spec_l05Vals_l0_r
    dsimp only
    rw [nI_ge, cond_false])
  have hq := key.2
  rw [hq, List.take_length] at key
  exact key.1
theorem implVl_eq (l : List V) (h : l.length ≤ 8) (k : ByteArray → Res) : impl_valTexts l k = k (joinB (l.map valT)) := by
  unfold impl_valTexts impl_valTexts_l0
  have hsz : (joinB (l.map valT)).size ≤ LIM := by
    have := joinB_size (l.map valT) 101 fun w hw => by
      obtain ⟨v, _, rfl⟩ := List.mem_map.1 hw
      have := valT_size v
      omega
    rw [List.length_map] at this
    unfold LIM; omega
  have key := fold_loop l.length (fun i out => (out, i)) (fun i _ => (l.take (i + 1)).map valT) (fun i out => out = (l.take i).map valT) (step := impl_valTexts_l0_s l (nI l.length)) (fun out => impl_glued out fun r => k r) (fun out => impl_glued out fun r => k r) [] (by unfold LIM; omega) rfl (fun i out hi ho => rfl) (fun i out rec hi ho => by
    show impl_valTexts_l0_r _ _ _ _ _ _ = _
    unfold impl_valTexts_l0_r
    dsimp only
    have hl : out.length ≤ i := by rw [ho, List.length_map, List.length_take]; omega
    rw [nI_lt hi, cond_true, inb_nat hi, cond_true, nth_nat _ _ _ hi, implT_eq, lim_of (by unfold LIM; omega), cond_true, wi64_in (by omega), map_take l valT i hi, ho]) (fun out rec ho => by
    show impl_valTexts_l0_r _ _ _ _ _ _ = _
    unfold impl_valTexts_l0_r
    dsimp only
    rw [nI_ge, cond_false])
  have hq := key.2
  rw [hq, List.take_length] at key
  refine Eq.trans key.1 ?_
  rw [implGlue_eq _ (by rw [List.length_map]; omega) hsz]
theorem stW_len {s : ST} (h : stB s = true) (hs : stSm s) : (stW s).length ≤ 1048700 := by
  obtain ⟨h0, hc⟩ := stB_cases h
  rcases hc with ⟨t, r, rfl, hr⟩ | ⟨t, q, r, rfl, hq, hr⟩ | ⟨t, q, rfl, hq⟩ | ⟨t, rfl⟩ | ⟨d, rfl, hd⟩
  · have := (valsB_parts hr).2.1
    show (r.map valT).length + 1 + 1 ≤ _
    rw [List.length_map]; omega
  · have h1 := (valsB_parts hr).2.1
    have h2 := (valsB_parts hq).2.1
    show (q.map valT ++ (z_to :: r.map valT)).length + 1 + 1 ≤ _
    rw [List.length_append, List.length_cons, List.length_map, List.length_map]; omega
  · have := (valsB_parts hq).2.1
    show (q.map valT).length + 1 + 1 ≤ _
    rw [List.length_map]; omega
  · show (2 : Nat) ≤ _; omega
  · exact ddlW_len hd hs.2.2.2
theorem stJ_size {s : ST} (h : stB s = true) (hs : stSm s) : (joinB (stW s)).size ≤ 108000000 := by
  have h1 := stW_len h hs
  have h2 := joinB_size (stW s) 101 fun w hw => (stW_mem h w hw).1
  omega
theorem specStT_eq (s : ST) (hs : stSm s) (k : ByteArray → Res) : spec_StmtText s k = k (stT s) := by
  unfold spec_StmtText stT
  rw [specSt_eq s hs]
  cases h : stB s
  · rfl
  · rw [Bool.not_true, cond_false, cond_true]
    have hJ := stJ_size h hs
    have hL := stW_len h hs
    obtain ⟨h0, hc⟩ := stB_cases h
    rcases hc with ⟨t, r, rfl, hr⟩ | ⟨t, q, r, rfl, hq, hr⟩ | ⟨t, q, rfl, hq⟩ | ⟨t, rfl⟩ | ⟨d, rfl, hd⟩
    · have h8 := (valsB_parts hr).2.1
      dsimp only at hJ ⊢
      have hg : ∀ K, spec_l05Join ([z_insert, t] ++ r.map valT) K = K (joinB ([z_insert, t] ++ r.map valT)) := fun K => specGlue_eq _ (by simp; omega) (by show (joinB (stW (1, t, [], r, zD))).size ≤ _; unfold LIM; omega) K
      rw [show ((1 : Int) == 1) = true from rfl, cond_true]
      have hl : lim (2 + (r.map valT).length) = true := lim_of (by rw [List.length_map]; unfold LIM; omega)
      simp only [specVl_eq r (by omega), hl, cond_true, hg, both_self]
      rfl
    · have h8 := (valsB_parts hr).2.1
      have h9 := (valsB_parts hq).2.1
      dsimp only at hJ ⊢
      rw [show ((2 : Int) == 1) = false from rfl, cond_false, show ((2 : Int) == 2) = true from rfl, cond_true]
      unfold spec_StmtText_p0
      dsimp only
      have hl : lim (2 + (q.map valT).length) = true := lim_of (by rw [List.length_map]; unfold LIM; omega)
      have hl2 : lim (([z_update, t] ++ q.map valT).length + 1) = true := lim_of (by rw [List.length_append, List.length_map]; show 2 + _ + 1 ≤ _; unfold LIM; omega)
      have hl3 : lim ((([z_update, t] ++ q.map valT) ++ [z_to]).length + (r.map valT).length) = true := lim_of (by rw [List.length_append, List.length_append, List.length_map, List.length_map]; show 2 + _ + 1 + _ ≤ _; unfold LIM; omega)
      have e : (([z_update, t] ++ q.map valT) ++ [z_to]) ++ r.map valT = stW (2, t, q, r, zD) := by
        simp [stW]
      have hg : ∀ K, spec_l05Join ((([z_update, t] ++ q.map valT) ++ [z_to]) ++ r.map valT) K = K (joinB (stW (2, t, q, r, zD))) := fun K => by
        rw [e]
        exact specGlue_eq _ (by omega) (by unfold LIM; omega) K
      simp only [specVl_eq q (by omega), specVl_eq r (by omega), hl, hl2, hl3, cond_true, hg, both_self]
    · have h8 := (valsB_parts hq).2.1
      dsimp only at hJ ⊢
      have hg : ∀ K, spec_l05Join ([z_delete, t] ++ q.map valT) K = K (joinB ([z_delete, t] ++ q.map valT)) := fun K => specGlue_eq _ (by simp; omega) (by show (joinB (stW (3, t, q, [], zD))).size ≤ _; unfold LIM; omega) K
      rw [show ((3 : Int) == 1) = false from rfl, cond_false, show ((3 : Int) == 2) = false from rfl, cond_false, show ((3 : Int) == 3) = true from rfl, cond_true]
      have hl : lim (2 + (q.map valT).length) = true := lim_of (by rw [List.length_map]; unfold LIM; omega)
      simp only [specVl_eq q (by omega), hl, cond_true, hg, both_self]
      rfl
    · have hw := wordB_size h0
      dsimp only at hw ⊢
      rw [show ((4 : Int) == 1) = false from rfl, cond_false, show ((4 : Int) == 2) = false from rfl, cond_false, show ((4 : Int) == 3) = false from rfl, cond_false, show ((4 : Int) == 4) = true from rfl, cond_true, lim_of (by unfold LIM; omega), cond_true]
      congr 1
      have q1 : (z_clear_ : ByteArray) = (⟨#[99, 108, 101, 97, 114]⟩ : ByteArray) ++ spB := toBytes_inj (by rw [toBytes_app]; rfl)
      show _ = (⟨#[99, 108, 101, 97, 114]⟩ : ByteArray) ++ (spB ++ (t ++ eS))
      rw [eS_app, q1, ByteArray.append_assoc]
    · dsimp only
      rw [show ((5 : Int) == 1) = false from rfl, cond_false, show ((5 : Int) == 2) = false from rfl, cond_false, show ((5 : Int) == 3) = false from rfl, cond_false, show ((5 : Int) == 4) = false from rfl, cond_false, specDdlT_eq d hs.2.2.2]
      unfold ddlT
      rw [hd]
      rfl
theorem implStT_eq (s : ST) (hs : stSm s) (k : ByteArray → Res) : impl_StmtText s k = k (stT s) := by
  unfold impl_StmtText stT
  rw [implSt_eq s hs]
  cases h : stB s
  · rfl
  · rw [Bool.not_true, cond_false, cond_true]
    have hJ := stJ_size h hs
    have hne : ∀ {l : List V}, valsB l = true → l.map valT ≠ [] := fun {l} hl e => by
      have h1 := (valsB_parts hl).1
      have := congrArg List.length e
      rw [List.length_map] at this
      simp at this
      rw [this] at h1
      simp at h1
    obtain ⟨h0, hc⟩ := stB_cases h
    rcases hc with ⟨t, r, rfl, hr⟩ | ⟨t, q, r, rfl, hq, hr⟩ | ⟨t, q, rfl, hq⟩ | ⟨t, rfl⟩ | ⟨d, rfl, hd⟩
    · have h8 := (valsB_parts hr).2.1
      dsimp only at hJ ⊢
      have e : joinB [z_insert, t, joinB (r.map valT)] = joinB (stW (1, t, [], r, zD)) := by
        show z_insert ++ (spB ++ (t ++ tlB [joinB (r.map valT)])) = z_insert ++ (spB ++ (t ++ tlB (r.map valT)))
        rw [tlB_nest (hne hr)]
      rw [show ((1 : Int) == 1) = true from rfl, cond_true, implVl_eq r h8, implGlue_eq _ (by simp) (by rw [e]; unfold LIM; omega), e]
    · have h8 := (valsB_parts hr).2.1
      have h9 := (valsB_parts hq).2.1
      dsimp only at hJ ⊢
      have e : joinB [z_update, t, joinB (q.map valT), z_to, joinB (r.map valT)] = joinB (stW (2, t, q, r, zD)) := by
        show z_update ++ (spB ++ (t ++ tlB ([joinB (q.map valT)] ++ ([z_to] ++ [joinB (r.map valT)])))) = z_update ++ (spB ++ (t ++ tlB (q.map valT ++ ([z_to] ++ r.map valT))))
        rw [tlB_app, tlB_app, tlB_app, tlB_app, tlB_nest (hne hq), tlB_nest (hne hr)]
      rw [show ((2 : Int) == 1) = false from rfl, cond_false, show ((2 : Int) == 2) = true from rfl, cond_true, implVl_eq q h9, implVl_eq r h8, implGlue_eq _ (by simp) (by rw [e]; unfold LIM; omega), e]
    · have h8 := (valsB_parts hq).2.1
      dsimp only at hJ ⊢
      have e : joinB [z_delete, t, joinB (q.map valT)] = joinB (stW (3, t, q, [], zD)) := by
        show z_delete ++ (spB ++ (t ++ tlB [joinB (q.map valT)])) = z_delete ++ (spB ++ (t ++ tlB (q.map valT)))
        rw [tlB_nest (hne hq)]
      rw [show ((3 : Int) == 1) = false from rfl, cond_false, show ((3 : Int) == 2) = false from rfl, cond_false, show ((3 : Int) == 3) = true from rfl, cond_true, implVl_eq q h8, implGlue_eq _ (by simp) (by rw [e]; unfold LIM; omega), e]
    · have hw := wordB_size h0
      dsimp only at hw ⊢
      rw [show ((4 : Int) == 1) = false from rfl, cond_false, show ((4 : Int) == 2) = false from rfl, cond_false, show ((4 : Int) == 3) = false from rfl, cond_false, show ((4 : Int) == 4) = true from rfl, cond_true, lim_of (by unfold LIM; omega), cond_true]
      congr 1
      have q1 : (z_clear_ : ByteArray) = (⟨#[99, 108, 101, 97, 114]⟩ : ByteArray) ++ spB := toBytes_inj (by rw [toBytes_app]; rfl)
      show _ = (⟨#[99, 108, 101, 97, 114]⟩ : ByteArray) ++ (spB ++ (t ++ eS))
      rw [eS_app, q1, ByteArray.append_assoc]
    · dsimp only
      rw [show ((5 : Int) == 1) = false from rfl, cond_false, show ((5 : Int) == 2) = false from rfl, cond_false, show ((5 : Int) == 3) = false from rfl, cond_false, show ((5 : Int) == 4) = false from rfl, cond_false, implDdlT_eq d hs.2.2.2]
      unfold ddlT
      rw [hd]
      rfl
end Go.PI.G
namespace Go.PI.G
open Go Go.PI Go.Proofs

abbrev RC := Int × Int × ST
abbrev zRC : RC := (0, 0, 0, eS, [], [], 0, eS, [], [], eS, eS)
def noST (s : ST) : Bool := (s.1 == 0) && (sEq s.2.1 eS && ((s.2.2.1.length == 0) && ((s.2.2.2.1.length == 0) && noD s.2.2.2.2)))
theorem noST_iff (s : ST) : noST s = true ↔ s = zST := by
  obtain ⟨a, b, c, e, d⟩ := s
  unfold noST
  simp only [Bool.and_eq_true, beq_iff_eq, sEq_iff, Prod.mk.injEq, List.length_eq_zero_iff, noD_iff]
def recB (r : RC) : Bool := decide (1 ≤ r.1 ∧ r.1 ≤ 4) && (decide (1 ≤ r.2.1 ∧ r.2.1 ≤ 1000000) && (bif r.1 == 2 then stB r.2.2 else noST r.2.2))
def kindN (k : Int) : ByteArray := nth eS [eS, z_begin, z_do, z_commit, z_abort] k
def recW (r : RC) : List ByteArray := kindN r.1 :: numT r.2.1 :: (bif r.1 == 2 then stW r.2.2 else [])
def recT (r : RC) : ByteArray := bif recB r then joinB (recW r) else eS
theorem recB_parts {r : RC} (h : recB r = true) : (1 ≤ r.1 ∧ r.1 ≤ 4) ∧ (1 ≤ r.2.1 ∧ r.2.1 ≤ 1000000) ∧ ((r.1 = 2 ∧ stB r.2.2 = true) ∨ (r.1 ≠ 2 ∧ r.2.2 = zST)) := by
  unfold recB at h
  rw [Bool.and_eq_true, Bool.and_eq_true, decide_eq_true_eq, decide_eq_true_eq] at h
  refine ⟨h.1, h.2.1, ?_⟩
  have h3 := h.2.2
  cases hk : r.1 == 2
  · rw [hk, cond_false] at h3
    exact .inr ⟨by simpa using hk, (noST_iff _).1 h3⟩
  · rw [hk, cond_true] at h3
    exact .inl ⟨by simpa using hk, h3⟩
theorem kind_cases {k : Int} (h : 1 ≤ k ∧ k ≤ 4) : (k = 1 ∧ kindN k = z_begin) ∨ (k = 2 ∧ kindN k = z_do) ∨ (k = 3 ∧ kindN k = z_commit) ∨ (k = 4 ∧ kindN k = z_abort) := by
  have : k = 1 ∨ k = 2 ∨ k = 3 ∨ k = 4 := by omega
  rcases this with rfl | rfl | rfl | rfl
  · exact .inl ⟨rfl, rfl⟩
  · exact .inr (.inl ⟨rfl, rfl⟩)
  · exact .inr (.inr (.inl ⟨rfl, rfl⟩))
  · exact .inr (.inr (.inr ⟨rfl, rfl⟩))
theorem kind_size {k : Int} (h : 1 ≤ k ∧ k ≤ 4) : (kindN k).size ≤ 6 ∧ free 32 (kindN k) := by
  rcases kind_cases h with ⟨_, e⟩ | ⟨_, e⟩ | ⟨_, e⟩ | ⟨_, e⟩ <;> rw [e] <;> exact ⟨by decide, free_of _ _ (by decide)⟩
theorem specNoST_eq (s : ST) (k : Bool → Res) : spec_l07NoStmt s k = k (noST s) := by
  unfold spec_l07NoStmt noST
  rw [nI_zero, nI_zero, specNoD_eq]
  cases s.1 == 0
  · rfl
  · cases sEq s.2.1 eS
    · rfl
    · cases s.2.2.1.length == 0
      · rfl
      · cases s.2.2.2.1.length == 0 <;> rfl
theorem implNoST_eq (s : ST) (k : Bool → Res) : impl_isNoStmt s k = k (noST s) := by
  unfold impl_isNoStmt noST
  rw [nI_zero, nI_zero, implNoD_eq]
  cases s.1 == 0
  · rfl
  · cases sEq s.2.1 eS
    · rfl
    · cases s.2.2.1.length == 0
      · rfl
      · cases s.2.2.2.1.length == 0 <;> rfl
theorem specRec_eq (r : RC) (h : stSm r.2.2) (k : Bool → Res) : spec_RecOk r k = k (recB r) := by
  unfold spec_RecOk spec_RecOk_p0 recB
  by_cases h1 : 1 ≤ r.1 ∧ r.1 ≤ 4
  · rw [decide_eq_false (show ¬ r.1 < 1 by omega), cond_false, decide_eq_false (show ¬ r.1 > 4 by omega), cond_false, decide_eq_true h1, Bool.true_and]
    by_cases h2 : 1 ≤ r.2.1 ∧ r.2.1 ≤ 1000000
    · rw [decide_eq_false (show ¬ r.2.1 < 1 by omega), cond_false, decide_eq_false (show ¬ r.2.1 > 1000000 by omega), decide_eq_true h2, Bool.true_and]
      dsimp only
      rw [cond_false, specSt_eq _ h, specNoST_eq]
      cases r.1 == 2 <;> rfl
    · rw [decide_eq_false h2]
      by_cases h3 : r.2.1 < 1
      · rw [decide_eq_true h3]; rfl
      · rw [decide_eq_false h3, decide_eq_true (show r.2.1 > 1000000 by omega)]; rfl
  · rw [decide_eq_false h1]
    by_cases h3 : r.1 < 1
    · rw [decide_eq_true h3]; rfl
    · rw [decide_eq_false h3, decide_eq_true (show r.1 > 4 by omega)]; rfl
theorem implRec_eq (r : RC) (h : stSm r.2.2) (k : Bool → Res) : impl_RecOk r k = k (recB r) := by
  unfold impl_RecOk recB
  rw [within_eq, within_eq]
  cases decide (1 ≤ r.1 ∧ r.1 ≤ 4)
  · rfl
  · cases decide (1 ≤ r.2.1 ∧ r.2.1 ≤ 1000000)
    · rfl
    · rw [Bool.not_true, cond_false, cond_false, implSt_eq _ h, implNoST_eq]
      cases r.1 == 2 <;> rfl
theorem stW_ne (s : ST) : stW s ≠ [] := by
  unfold stW ddlW
  cases s.1 == 1 <;> cases s.1 == 2 <;> cases s.1 == 3 <;> cases s.1 == 4 <;> cases s.2.2.2.2.1 == 1 <;> cases s.2.2.2.2.1 == 2 <;> cases s.2.2.2.2.1 == 3 <;> cases s.2.2.2.2.1 == 4 <;> exact List.cons_ne_nil _ _
theorem recJ_eq (r : RC) (hr : recB r = true) (B : ByteArray) (hB : B = stT r.2.2) : (bif r.1 == 2 then ((kindN r.1 ++ z___1) ++ numT r.2.1) ++ z___1 ++ B else ((kindN r.1 ++ z___1) ++ numT r.2.1)) = joinB (recW r) := by
  obtain ⟨h1, h2, h3⟩ := recB_parts hr
  have q1 : (z___1 : ByteArray) = spB := rfl
  unfold recW
  rcases h3 with ⟨hk, hs⟩ | ⟨hk, hs⟩
  · have e : (r.1 == 2) = true := by simp [hk]
    rw [e, cond_true, cond_true, hB]
    unfold stT
    rw [hs, cond_true]
    show _ = kindN r.1 ++ (spB ++ (numT r.2.1 ++ tlB (stW r.2.2)))
    rw [← sp_join (stW_ne _), q1]
    simp only [ByteArray.append_assoc]
  · have e : (r.1 == 2) = false := by simp [hk]
    rw [e, cond_false, cond_false]
    show _ = kindN r.1 ++ (spB ++ (numT r.2.1 ++ eS))
    rw [eS_app, q1, ByteArray.append_assoc]
theorem stT_size {s : ST} (h : stSm s) : (stT s).size ≤ 108000000 := by
  unfold stT
  cases hb : stB s
  · show (0 : Nat) ≤ _; omega
  · exact stJ_size hb h
theorem specRecT_eq (r : RC) (h : stSm r.2.2) (k : ByteArray → Res) : spec_RecText r k = k (recT r) := by
  unfold spec_RecText recT
  rw [specRec_eq r h]
  cases hr : recB r
  · rfl
  · rw [Bool.not_true, cond_false, cond_true]
    obtain ⟨h1, h2, h3⟩ := recB_parts hr
    have hk := (kind_size h1).1
    have hn := numT_size r.2.1
    have hs := stT_size h
    have s1 : (z___1).size = 1 := rfl
    have e0 : nth eS [eS, z_begin, z_do, z_commit, z_abort] r.1 = kindN r.1 := rfl
    have hp : ∀ K, spec_RecText_p0 r K = K ((kindN r.1 ++ z___1) ++ numT r.2.1) := fun K => by
      unfold spec_RecText_p0
      have l0 : inb r.1 5 = true := inb_of (by omega) (by omega)
      have l1 : lim ((kindN r.1).size + 1) = true := lim_of (by unfold LIM; omega)
      have l2 : lim ((kindN r.1 ++ z___1).size + (numT r.2.1).size) = true := lim_of (by rw [ByteArray.size_append]; unfold LIM; omega)
      simp only [e0, specNum_eq, l0, l1, l2, cond_true, both_self]
    rw [hp, ← recJ_eq r hr _ rfl]
    cases hk2 : r.1 == 2
    · rfl
    · rw [cond_true, cond_true, lim_of (by simp only [ByteArray.size_append]; unfold LIM; omega), cond_true, specStT_eq _ h, lim_of (by simp only [ByteArray.size_append]; unfold LIM; omega), cond_true]
theorem implRecT_eq (r : RC) (h : stSm r.2.2) (k : ByteArray → Res) : impl_RecText r k = k (recT r) := by
  unfold impl_RecText recT
  rw [implRec_eq r h]
  cases hr : recB r
  · rfl
  · rw [Bool.not_true, cond_false, cond_true]
    obtain ⟨h1, h2, h3⟩ := recB_parts hr
    have hk := (kind_size h1).1
    have hn := numT_size r.2.1
    have hs := stT_size h
    have s1 : (z___1).size = 1 := rfl
    have e0 : nth eS [z_begin, z_do, z_commit, z_abort] (wi64 (r.1 - 1)) = kindN r.1 := by
      rw [wi64_in (by omega)]
      have : r.1 = 1 ∨ r.1 = 2 ∨ r.1 = 3 ∨ r.1 = 4 := by omega
      rcases this with e | e | e | e <;> rw [e] <;> rfl
    have hp : ∀ K, impl_RecText_p0 r K = K ((kindN r.1 ++ z___1) ++ numT r.2.1) := fun K => by
      unfold impl_RecText_p0
      have l0 : inb (wi64 (r.1 - 1)) 4 = true := by rw [wi64_in (by omega)]; exact inb_of (by omega) (by omega)
      have l1 : lim ((kindN r.1).size + 1) = true := lim_of (by unfold LIM; omega)
      have l2 : lim ((kindN r.1 ++ z___1).size + (numT r.2.1).size) = true := lim_of (by rw [ByteArray.size_append]; unfold LIM; omega)
      simp only [e0, implNum_eq, l0, l1, l2, cond_true, both_self]
    rw [hp, ← recJ_eq r hr _ rfl]
    cases hk2 : r.1 == 2
    · rfl
    · rw [cond_true, cond_true, lim_of (by simp only [ByteArray.size_append]; unfold LIM; omega), cond_true, implStT_eq _ h, lim_of (by simp only [ByteArray.size_append]; unfold LIM; omega), cond_true]
theorem recT_size {r : RC} (h : stSm r.2.2) : (recT r).size ≤ 109000000 := by
  unfold recT
  cases hr : recB r
  · show (0 : Nat) ≤ _; omega
  · rw [cond_true, ← recJ_eq r hr _ rfl]
    have hk := (kind_size (recB_parts hr).1).1
    have hn := numT_size r.2.1
    have hs := stT_size h
    have s1 : (z___1).size = 1 := rfl
    cases r.1 == 2
    · rw [cond_false]; simp only [ByteArray.size_append]; omega
    · rw [cond_true]; simp only [ByteArray.size_append]; omega
theorem recW_mem {r : RC} (h : recB r = true) : ∀ w ∈ recW r, w.size ≤ 101 ∧ free 32 w := fun w hw => by
  obtain ⟨h1, h2, h3⟩ := recB_parts h
  unfold recW at hw
  rcases List.mem_cons.1 hw with rfl | hw
  · have := kind_size h1; exact ⟨by omega, this.2⟩
  rcases List.mem_cons.1 hw with rfl | hw
  · have := numT_size r.2.1
    exact ⟨by omega, numT_free (decide_eq_true (by omega))⟩
  · rcases h3 with ⟨hk, hs⟩ | ⟨hk, hs⟩
    · have e : (r.1 == 2) = true := by simp [hk]
      rw [e, cond_true] at hw
      exact stW_mem hs w hw
    · have e : (r.1 == 2) = false := by simp [hk]
      rw [e, cond_false] at hw
      cases hw
end Go.PI.G
