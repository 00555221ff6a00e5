/-
  Known: sorted keys of a map, of one kind.
-/
import Derived.Test.YtgcineegnihcmaaGreatDoorKnBase
namespace Go.Proofs.YtgcineegnihcmaaGreatDoor.knS
open Go.Am Go.Proofs.YtgcineegnihcmaaGreatDoor.kn
set_option linter.unusedSimpArgs false
set_option maxRecDepth 100000

/-! ### The order of two keys -/
noncomputable def c397 : Code := Tryz.f397.body.getD .skip
theorem c397_eq : Tryz.f397.body = some c397 := by kernel_rfl
noncomputable def c318 : Code := Tryz.f318.body.getD .skip
theorem c318_eq : Tryz.f318.body = some c318 := by kernel_rfl
theorem undK : tb0.und 9 = some .string := by kernel_rfl
theorem undS : tb0.und 51 = some (.slice 9) := by kernel_rfl
theorem und3 : tb0.und 3 = some (.int .i64) := by kernel_rfl
theorem size1 : sizeF tb0 9 = .ok 1 := by kernel_rfl
theorem sizeS : sizeF tb0 51 = .ok 1 := by kernel_rfl
theorem zcK : zcellsF tb0 9 = .ok (1, [strOf []]) := by kernel_rfl
theorem tyK : ∃ i, tb0.ty.get 9 = some i ∧ 0 < i.bytes ∧ i.bytes ≤ 16 := by
  have h : (tb0.ty.get 9).map (fun i => Nat.blt 0 i.bytes && Nat.ble i.bytes 16) = some true := by kernel_rfl
  cases hq : tb0.ty.get 9 with
  | none => rw [hq] at h; cases h
  | some i =>
    rw [hq] at h
    simp only [Option.map_some, Option.some.injEq, Bool.and_eq_true, Nat.blt_eq] at h
    exact ⟨i, rfl, h.1, Nat.le_of_ble_eq_true h.2⟩
theorem neq_self {x : Value} (hx : isStrV x = true) : binF .neq (some .string) x x = .ok (.bool false) := by
  unfold isStrV at hx
  split at hx
  · rename_i s
    rw [string_eq, binF_str, str_neq]
    simp
  · cases hx
theorem lss_key {x y : Value} (hx : isStrV x = true) (hy : isStrV y = true) : binF .lss (some .string) x y = .ok (.bool (ltStrV x y)) := by
  unfold isStrV at hx hy
  split at hx
  · split at hy
    · rfl
    · cases hy
  · cases hx

theorem run_nan {x : Value} (hx : isStrV x = true) (A : Mem) : Ans tb0 397 [x] A (.bool false) A := by
  obtain ⟨v, A', ha, rfl, rfl⟩ : ∃ v A', Ans tb0 397 [x] A v A' ∧ v = .bool false ∧ A' = A := by
    refine ans_of_W (fn_at Tryz.func397) c397_eq (by rw [Tryz.ntmps397]; simp) (by kernel_rfl) (by kernel_rfl) ?_
    have hd := neq_self hx
    apply W.run 20
    · intro M
      simp (config := { maxSteps := 4000000 }) (disch := first | decide +kernel | omega | simp only [Wq, Nat.reduceEqDiff]) only [c397, Tryz.f397, Aq, Nat.ble, reduceIte, Nat.reduceEqDiff, Nat.reduceAdd, hd, undK]
      with_reducible rfl
    exact ⟨.inr rfl, _, [.bool false], rfl, rfl, rfl, rfl⟩
  exact ha
theorem run_less {x y : Value} (hx : isStrV x = true) (hy : isStrV y = true) (A : Mem) : Ans tb0 318 [x, y] A (.bool (ltStrV x y)) A := by
  obtain ⟨v, A', ha, rfl, rfl⟩ : ∃ v A', Ans tb0 318 [x, y] A v A' ∧ v = .bool (ltStrV x y) ∧ A' = A := by
    refine ans_of_W (fn_at Tryz.func318) c318_eq (by rw [Tryz.ntmps318]; simp) (by kernel_rfl) (by kernel_rfl) ?_
    obtain ⟨g1, hg1⟩ := run_nan hx A
    obtain ⟨g2, hg2⟩ := run_nan hy A
    have hd := lss_key hx hy
    apply W.seq
    apply W.run 20
    · intro M
      simp (config := { maxSteps := 4000000 }) (disch := first | decide +kernel | omega | simp only [Wq, Nat.reduceEqDiff]) only [c318, Tryz.f318, Aq, Nat.ble, reduceIte, Nat.reduceEqDiff, Nat.reduceAdd]
      with_reducible rfl
    show W tb0 _ _ _
    apply W.seq
    apply W.runG ((g1+g2)) 20
    · intro M hM
      simp (config := { maxSteps := 4000000 }) (disch := first | decide +kernel | omega | simp only [Wq, Nat.reduceEqDiff]) only [c318, Tryz.f318, Aq, Nat.ble, reduceIte, Nat.reduceEqDiff, Nat.reduceAdd, hg1, hg2, hd, undK]
      with_reducible rfl
    apply W.run 20
    · intro M
      simp (config := { maxSteps := 4000000 }) (disch := first | decide +kernel | omega | simp only [Wq, Nat.reduceEqDiff]) only [c318, Tryz.f318, Aq, Nat.ble, reduceIte, Nat.reduceEqDiff, Nat.reduceAdd]
      with_reducible rfl
    refine ⟨.inr rfl, _, [.bool (ltStrV x y)], rfl, ?_, rfl, rfl⟩
    cases ltStrV x y <;> rfl
  exact ha

/-! ### The sort -/
noncomputable def c312 : Code := Tryz.f312.body.getD .skip
noncomputable def c312b1 : Code := sub c312 [1,0,0]
noncomputable def c312b2 : Code := sub c312b1 [1,0,0,1,0,0]
theorem c312_eq : Tryz.f312.body = some (.seq (sub c312 [0]) (.block 0 (.loop c312b1))) := by kernel_rfl
theorem c312b1_eq : c312b1 = (.seq (.seq (sub c312b1 [0,0]) (sub c312b1 [0,1])) (.seq (.block 1 (.seq (sub c312b1 [1,0,0,0]) (.block 2 (.loop c312b2)))) (sub c312b1 [1,1]))) := by kernel_rfl
theorem c312b2_eq : c312b2 = (.seq (.seq (sub c312b2 [0,0]) (sub c312b2 [0,1])) (.seq (sub c312b2 [1,0]) (sub c312b2 [1,1]))) := by kernel_rfl
theorem key_cells {x : Value} (h : isStrV x = true) : x.cells.toList = [x] ∧ oneCell x = true := by
  unfold isStrV at h
  split at h
  · exact ⟨rfl, rfl⟩
  · cases h
theorem get_mid (l : List Value) (x : Value) (m : List Value) : (l ++ x :: m)[l.length]? = some x := by simp
set_option maxHeartbeats 4000000 in
theorem run_ins {l : List Value} {b : Nat} {x : Value} {A : Mem} (h : RowS A 9 b l x) (hk : ∀ y ∈ l, isStrV y = true) (hn : l.length ≤ 12) :
    ∃ A' l', Ans tb0 312 [x, .int .i64 ((0 : Nat) : Int), .int .i64 (l.length : Int)] A (.tuple ⟨[]⟩) A' ∧ l'.Perm l ∧ SortedV ltStrV l' ∧ RowS A' 9 b l' x ∧ A'.next = A.next ∧ ∀ y, y ≠ b → A'.get y = A.get y := by
  obtain ⟨v, A', ha, l', rfl, hr⟩ : ∃ v A', Ans tb0 312 [x, .int .i64 ((0 : Nat) : Int), .int .i64 (l.length : Int)] A v A' ∧ ∃ l', v = .tuple ⟨[]⟩ ∧ l'.Perm l ∧ SortedV ltStrV l' ∧ RowS A' 9 b l' x ∧ A'.next = A.next ∧ ∀ y, y ≠ b → A'.get y = A.get y := by
    refine ans_of_W (fn_at Tryz.func312) c312_eq (by rw [Tryz.ntmps312]; simp) (by kernel_rfl) (by kernel_rfl) ?_
    apply W.seq
    apply W.run 20
    · intro M
      simp (config := { maxSteps := 4000000 }) (disch := first | decide +kernel | omega | simp only [Wq, Nat.reduceEqDiff]) only [c312, Tryz.f312, Aq, Nat.ble, reduceIte, Nat.reduceEqDiff, Nat.reduceAdd]
      with_reducible rfl
    apply W.block
    -- the rows that are sorted so far
    refine W.up (l.length + 1) (fun i t D => ∃ S Z, 1 ≤ i ∧ (S ++ Z).Perm l ∧ (S.length = i ∨ (Z = [] ∧ S.length ≤ i ∧ i ≤ 1)) ∧ SortedV ltStrV S ∧ RowS D 9 b (S ++ Z) x ∧ D.next = A.next ∧ (∀ y, y ≠ b → D.get y = A.get y) ∧ Sl t [(0, x), (1, .int .i64 ((0 : Nat) : Int)), (2, .int .i64 (l.length : Int)), (6, .int .i64 (i : Int))]) ?_ (k := 1) (by omega) ⟨l.take 1, l.drop 1, Nat.le_refl _, by rw [List.take_append_drop], ?_, ?_, by rw [List.take_append_drop]; exact h, rfl, fun _ _ => rfl, ?_⟩
    · rintro i t D hi ⟨S, Z, hi1, hp, hSl, hS, hD, hDn, hDf, g0, g1, g2, g6, -⟩
      have hlen : S.length + Z.length = l.length := by have := hp.length_eq; rwa [List.length_append] at this
      by_cases hlt : i < l.length
      · have hSi : S.length = i := by
          rcases hSl with h | ⟨h, h1, h2⟩
          · exact h
          · subst h; simp only [List.length_nil] at hlen; omega
        obtain ⟨z, Z', rfl⟩ : ∃ z Z', Z = z :: Z' := by
          cases Z with
          | nil => simp only [List.length_nil] at hlen; omega
          | cons z Z' => exact ⟨z, Z', rfl⟩
        rw [c312b1_eq]
        apply W.seq
        apply W.seq
        apply W.run 20
        · intro M
          simp (config := { maxSteps := 4000000 }) (disch := first | decide +kernel | omega | simp only [Wq, Nat.reduceEqDiff]) only [c312b1, c312, Tryz.f312, Aq, Nat.ble, reduceIte, Nat.reduceEqDiff, Nat.reduceAdd, g2, g6, hlt]
          with_reducible rfl
        apply W.run 20
        · intro M
          simp (config := { maxSteps := 4000000 }) (disch := first | decide +kernel | omega | simp only [Wq, Nat.reduceEqDiff]) only [c312b1, c312, Tryz.f312, Aq, Nat.ble, reduceIte, Nat.reduceEqDiff, Nat.reduceAdd]
          with_reducible rfl
        show W tb0 _ _ _
        apply W.seq
        apply W.block
        apply W.seq
        apply W.run 20
        · intro M
          simp (config := { maxSteps := 4000000 }) (disch := first | decide +kernel | omega | simp only [Wq, Nat.reduceEqDiff]) only [c312b1, c312, Tryz.f312, Aq, Nat.ble, reduceIte, Nat.reduceEqDiff, Nat.reduceAdd, g6]
          with_reducible rfl
        apply W.block
        -- one goes down
        refine W.fall (fun j t D => ∃ S1 S2, S1.length = j ∧ S1 ++ S2 = S ∧ (∀ y ∈ S2, ltStrV z y = true) ∧ RowS D 9 b (S1 ++ z :: (S2 ++ Z')) x ∧ D.next = A.next ∧ (∀ y, y ≠ b → D.get y = A.get y) ∧ Sl t [(0, x), (1, .int .i64 ((0 : Nat) : Int)), (2, .int .i64 (l.length : Int)), (6, .int .i64 (i : Int)), (7, .int .i64 (j : Int))]) ?_ (k := i) ⟨S, [], hSi, by simp, (fun _ h => by cases h), by simpa using hD, hDn, hDf, ?_⟩
        · rintro j t D ⟨S1, S2, rfl, rfl, h2, hD, hDn, hDf, g0, g1, g2, g6, g7, -⟩
          have hkey : ∀ y ∈ S1 ++ z :: (S2 ++ Z'), isStrV y = true := fun y hy => hk y (hp.mem_iff.1 (by simp at hy ⊢; rcases hy with h | h | h | h <;> simp [h]))
          have hkz := hkey z (by simp)
          rw [c312b2_eq]
          apply W.seq
          apply W.seq
          rcases List.eq_nil_or_concat S1 with rfl | ⟨S0, y, rfl⟩
          · have n0 : ¬ (0 : Nat) < 0 := by omega
            simp only [List.length_nil] at g7
            apply W.run 20
            · intro M
              simp (config := { maxSteps := 4000000 }) (disch := first | decide +kernel | omega | simp only [Wq, Nat.reduceEqDiff]) only [c312b2, c312b1, c312, Tryz.f312, Aq, Nat.ble, reduceIte, Nat.reduceEqDiff, Nat.reduceAdd, g0, g1, g7, n0, op_gtr, cast_lt]
              with_reducible rfl
            apply W.run 20
            · intro M
              simp (config := { maxSteps := 4000000 }) (disch := first | decide +kernel | omega | simp only [Wq, Nat.reduceEqDiff]) only [c312b2, c312b1, c312, Tryz.f312, Aq, Nat.ble, reduceIte, Nat.reduceEqDiff, Nat.reduceAdd]
              with_reducible rfl
            show W tb0 _ _ _
            apply W.run 20
            · intro M
              simp (config := { maxSteps := 4000000 }) (disch := first | decide +kernel | omega | simp only [Wq, Nat.reduceEqDiff]) only [c312b1, c312, Tryz.f312, Aq, Nat.ble, reduceIte, Nat.reduceEqDiff, Nat.reduceAdd, g6]
              with_reducible rfl
            refine ⟨by omega, _, _, rfl, z :: S2, Z', by omega, ?_, .inl ?_, ?_, by simpa using hD, hDn, hDf, ?_⟩
            · simp only [List.nil_append] at hp
              refine List.Perm.trans ?_ hp
              simp only [List.cons_append]
              exact List.perm_middle.symm
            · simp only [List.nil_append] at hSi; simp [hSi]
            · have := sorted_in ltStr_on (S1 := []) (S2 := S2) (x := z) (fun y hy => hkey y (by simp at hy ⊢; rcases hy with h | h <;> simp [h])) (by simpa using hS) h2 (fun S y h => by simp at h)
              simpa using this
            · simp only [Sl_cons, Sl_nil, T.get_set, T.puts_cons, T.puts_nil, Nat.reduceEqDiff, Nat.reduceAdd, if_true, if_false, and_true, true_and, g0, g1, g2]
          · rw [List.concat_eq_append] at *
            have hky := hkey y (by simp)
            have e1 : ((S0 ++ [y]).length : Nat) = S0.length + 1 := by simp
            rw [e1] at g7
            have hix1 := hD.slc.idx (tb := tb0) (t := 51) (kd := .i64) (i := S0.length + 1) undS size1 (by simp <;> omega)
            have hix0 := hD.slc.idx (tb := tb0) (t := 51) (kd := .i64) (i := S0.length) undS size1 (by simp <;> omega)
            have hg1 : (S0 ++ [y] ++ z :: (S2 ++ Z'))[S0.length + 1]? = some z := by
              have := get_mid (S0 ++ [y]) z (S2 ++ Z')
              rwa [e1] at this
            have hg0 : (S0 ++ [y] ++ z :: (S2 ++ Z'))[S0.length]? = some y := by
              rw [List.append_assoc]; exact get_mid S0 y _
            have hl1 := hD.slc.load (tb := tb0) (t := 9) (o := S0.length + 1) undK rfl hg1
            have hl0 := hD.slc.load (tb := tb0) (t := 9) (o := S0.length) undK rfl hg0
            obtain ⟨g, hg⟩ := run_less hkz hky D
            have p0 : 0 < S0.length + 1 := by omega
            have s1 : intOpF .sub .i64 ((S0.length + 1 : Nat) : Int) ((1 : Nat) : Int) = .ok (.int .i64 ((S0.length : Nat) : Int)) := by
              have hb : S0.length ≤ 12 := by
                have h1 := hp.length_eq
                simp only [List.length_append] at h1
                omega
              have := op_sub_i64 (a := S0.length + 1) (b := 1) (by omega) (by omega)
              simpa using this
            apply W.runG (g) 20
            · intro M hM
              simp (config := { maxSteps := 4000000 }) (disch := first | decide +kernel | omega | simp only [Wq, Nat.reduceEqDiff]) only [c312b2, c312b1, c312, Tryz.f312, Aq, Nat.ble, reduceIte, Nat.reduceEqDiff, Nat.reduceAdd, g0, g1, g7, p0, op_gtr, cast_lt, hix1, hl1, s1, hix0, hl0, hg]
              with_reducible rfl
            cases hzy : ltStrV z y with
            | false =>
              apply W.run 20
              · intro M
                simp (config := { maxSteps := 4000000 }) (disch := first | decide +kernel | omega | simp only [Wq, Nat.reduceEqDiff]) only [c312b2, c312b1, c312, Tryz.f312, Aq, Nat.ble, reduceIte, Nat.reduceEqDiff, Nat.reduceAdd, hzy]
                with_reducible rfl
              show W tb0 _ _ _
              apply W.run 20
              · intro M
                simp (config := { maxSteps := 4000000 }) (disch := first | decide +kernel | omega | simp only [Wq, Nat.reduceEqDiff]) only [c312b1, c312, Tryz.f312, Aq, Nat.ble, reduceIte, Nat.reduceEqDiff, Nat.reduceAdd, g6]
                with_reducible rfl
              refine ⟨by omega, _, _, rfl, S0 ++ [y] ++ z :: S2, Z', by omega, ?_, .inl ?_, ?_, by simpa using hD, hDn, hDf, ?_⟩
              · refine List.Perm.trans ?_ hp
                simp only [List.append_assoc, List.cons_append, List.nil_append]
                refine List.Perm.append_left _ (List.Perm.cons _ ?_)
                exact List.perm_middle.symm
              · simp only [List.length_append, List.length_cons, List.length_nil] at hSi ⊢; omega
              · refine sorted_in ltStr_on (fun w hw => hkey w (by simp at hw ⊢; rcases hw with h | h | h | h <;> simp [h])) hS h2 (fun S w h => ?_)
                have := List.append_inj_right' h rfl
                simp only [List.cons.injEq, and_true] at this
                rw [← this]; exact hzy
              · simp only [Sl_cons, Sl_nil, T.get_set, T.puts_cons, T.puts_nil, Nat.reduceEqDiff, Nat.reduceAdd, if_true, if_false, and_true, true_and, g0, g1, g2]
            | true =>
              apply W.run 20
              · intro M
                simp (config := { maxSteps := 4000000 }) (disch := first | decide +kernel | omega | simp only [Wq, Nat.reduceEqDiff]) only [c312b2, c312b1, c312, Tryz.f312, Aq, Nat.ble, reduceIte, Nat.reduceEqDiff, Nat.reduceAdd, hzy]
                with_reducible rfl
              show W tb0 _ _ _
              obtain ⟨D1, hst1, hr1, hn1, hf1⟩ := hD.store (tb := tb0) (t := 9) (o := S0.length + 1) (v := y) size1 (by simp <;> omega) (key_cells hky).1 (key_cells hky).2
              obtain ⟨D2, hst2, hr2, hn2, hf2⟩ := hr1.store (tb := tb0) (t := 9) (o := S0.length) (v := z) size1 (by simp <;> omega) (key_cells hkz).1 (key_cells hkz).2
              have e2 : (((S0 ++ [y] ++ z :: (S2 ++ Z')).set (S0.length + 1) y).set S0.length z) = S0 ++ z :: (y :: S2 ++ Z') := by
                have q1 : (S0 ++ [y] ++ z :: (S2 ++ Z')).set (S0.length + 1) y = S0 ++ [y] ++ y :: (S2 ++ Z') := by
                  rw [List.set_append_right _ _ (by simp)]
                  simp
                rw [q1, List.append_assoc, List.set_append_right _ _ (by simp)]
                simp
              rw [e2] at hr2
              apply W.seq
              apply W.block
              apply W.run 20
              · intro M
                simp (config := { maxSteps := 4000000 }) (disch := first | decide +kernel | omega | simp only [Wq, Nat.reduceEqDiff]) only [c312b2, c312b1, c312, Tryz.f312, Aq, Nat.ble, reduceIte, Nat.reduceEqDiff, Nat.reduceAdd, Fq, g0, g7, hix1, hix0, hl1, hl0, s1, hst1, hst2]
                with_reducible rfl
              apply W.run 20
              · intro M
                simp (config := { maxSteps := 4000000 }) (disch := first | decide +kernel | omega | simp only [Wq, Nat.reduceEqDiff]) only [c312b2, c312b1, c312, Tryz.f312, Aq, Nat.ble, reduceIte, Nat.reduceEqDiff, Nat.reduceAdd, g7, s1]
                with_reducible rfl
              refine ⟨S0.length, _, _, by simp, rfl, S0, y :: S2, rfl, by simp, ?_, hr2, by omega, fun w hw => by rw [hf2 w hw, hf1 w hw, hDf w hw], ?_⟩
              · intro w hw
                rcases List.mem_cons.1 hw with rfl | hw
                · exact hzy
                · exact h2 w hw
              · simp only [Sl_cons, Sl_nil, T.get_set, T.puts_cons, T.puts_nil, Nat.reduceEqDiff, Nat.reduceAdd, if_true, if_false, and_true, true_and, g0, g1, g2, g6]
        · simp only [Sl_cons, Sl_nil, T.get_set, T.puts_cons, T.puts_nil, Nat.reduceEqDiff, Nat.reduceAdd, if_true, if_false, and_true, true_and, g0, g1, g2, g6]
      · apply W.run 20
        · intro M
          simp (config := { maxSteps := 4000000 }) (disch := first | decide +kernel | omega | simp only [Wq, Nat.reduceEqDiff]) only [c312b1, c312, Tryz.f312, Aq, Nat.ble, reduceIte, Nat.reduceEqDiff, Nat.reduceAdd, g2, g6, hlt]
          with_reducible rfl
        refine ⟨.inl rfl, _, [], rfl, rfl, S ++ Z, rfl, hp, ?_, hD, hDn, hDf⟩
        rcases hSl with h | ⟨h, h1, h2⟩
        · have : Z = [] := List.length_eq_zero_iff.1 (by omega)
          rw [this, List.append_nil]; exact hS
        · rw [h, List.append_nil]; exact hS
    · rcases l with _ | ⟨z, l⟩
      · exact .inr ⟨rfl, by simp, Nat.le_refl _⟩
      · exact .inl (by simp)
    · rcases l with _ | ⟨z, l⟩
      · simp [SortedV]
      · simp [SortedV]
    · simp only [Sl_cons, Sl_nil, T.get_set, T.puts_cons, T.puts_nil, Nat.reduceEqDiff, Nat.reduceAdd, if_true, if_false, and_true, true_and]
  exact ⟨A', l', ha, hr⟩

noncomputable def c248 : Code := Tryz.f248.body.getD .skip
theorem c248_eq : Tryz.f248.body = some (.seq (sub c248 [0]) (.seq (sub c248 [1,0]) (.block 0 (.loop (.block 1 (.seq (sub c248 [1,1,0,0,0,0]) (.seq (.seq (sub c248 [1,1,0,0,0,1,0,0]) (sub c248 [1,1,0,0,0,1,0,1])) (sub c248 [1,1,0,0,0,1,1])))))))) := by kernel_rfl
theorem run_pdq {l : List Value} {b n : Nat} {x : Value} {A : Mem} (h : RowS A 9 b l x) (hk : ∀ y ∈ l, isStrV y = true) (hn : l.length ≤ 12) :
    ∃ A' l', Ans tb0 248 [x, .int .i64 ((0 : Nat) : Int), .int .i64 (l.length : Int), .int .i64 (n : Int)] A (.tuple ⟨[]⟩) A' ∧ l'.Perm l ∧ SortedV ltStrV l' ∧ RowS A' 9 b l' x ∧ A'.next = A.next ∧ ∀ y, y ≠ b → A'.get y = A.get y := by
  obtain ⟨A', l', ⟨g, hg⟩, hr⟩ := run_ins h hk hn
  refine ⟨A', l', ?_, hr⟩
  obtain ⟨v, A2, ha, rfl, rfl⟩ : ∃ v A2, Ans tb0 248 [x, .int .i64 ((0 : Nat) : Int), .int .i64 (l.length : Int), .int .i64 (n : Int)] A v A2 ∧ v = .tuple ⟨[]⟩ ∧ A2 = A' := by
    refine ans_of_W (fn_at Tryz.func248) c248_eq (by rw [Tryz.ntmps248]; simp) (by kernel_rfl) (by kernel_rfl) ?_
    have s0 : intOpF .sub .i64 (l.length : Int) ((0 : Nat) : Int) = .ok (.int .i64 ((l.length : Nat) : Int)) := by
      have := op_sub_i64 (a := l.length) (b := 0) (by omega) (by omega)
      simpa using this
    apply W.seq
    apply W.run 20
    · intro M
      simp (config := { maxSteps := 4000000 }) (disch := first | decide +kernel | omega | simp only [Wq, Nat.reduceEqDiff]) only [c248, Tryz.f248, Aq, Nat.ble, reduceIte, Nat.reduceEqDiff, Nat.reduceAdd]
      with_reducible rfl
    apply W.seq
    apply W.run 20
    · intro M
      simp (config := { maxSteps := 4000000 }) (disch := first | decide +kernel | omega | simp only [Wq, Nat.reduceEqDiff]) only [c248, Tryz.f248, Aq, Nat.ble, reduceIte, Nat.reduceEqDiff, Nat.reduceAdd]
      with_reducible rfl
    apply W.block
    apply W.round
    apply W.block
    apply W.seq
    apply W.run 20
    · intro M
      simp (config := { maxSteps := 4000000 }) (disch := first | decide +kernel | omega | simp only [Wq, Nat.reduceEqDiff]) only [c248, Tryz.f248, Aq, Nat.ble, reduceIte, Nat.reduceEqDiff, Nat.reduceAdd, s0]
      with_reducible rfl
    show W tb0 _ _ _
    apply W.seq
    apply W.seq
    apply W.run 20
    · intro M
      simp (config := { maxSteps := 4000000 }) (disch := first | decide +kernel | omega | simp only [Wq, Nat.reduceEqDiff]) only [c248, Tryz.f248, Aq, Nat.ble, reduceIte, Nat.reduceEqDiff, Nat.reduceAdd, hn, op_leq, cast_le]
      with_reducible rfl
    apply W.runG (g) 20
    · intro M hM
      simp (config := { maxSteps := 4000000 }) (disch := first | decide +kernel | omega | simp only [Wq, Nat.reduceEqDiff]) only [c248, Tryz.f248, Aq, Nat.ble, reduceIte, Nat.reduceEqDiff, Nat.reduceAdd, hg]
      with_reducible rfl
    exact ⟨.inr rfl, _, [], rfl, rfl, rfl, rfl⟩
  exact ha
noncomputable def c202 : Code := Tryz.f202.body.getD .skip
theorem c202_eq : Tryz.f202.body = some (.seq (sub c202 [0]) (sub c202 [1])) := by kernel_rfl
theorem run_sort {l : List Value} {b : Nat} {x : Value} {A : Mem} (h : RowS A 9 b l x) (hk : ∀ y ∈ l, isStrV y = true) (hn : l.length ≤ 12) :
    ∃ A' l', Ans tb0 202 [x] A (.tuple ⟨[]⟩) A' ∧ l'.Perm l ∧ SortedV ltStrV l' ∧ RowS A' 9 b l' x ∧ A'.next = A.next ∧ ∀ y, y ≠ b → A'.get y = A.get y := by
  obtain ⟨A', l', ⟨g, hg⟩, hr⟩ := run_pdq (n := lenN l.length) h hk hn
  refine ⟨A', l', ?_, hr⟩
  obtain ⟨v, A2, ha, rfl, rfl⟩ : ∃ v A2, Ans tb0 202 [x] A v A2 ∧ v = .tuple ⟨[]⟩ ∧ A2 = A' := by
    refine ans_of_W (fn_at Tryz.func202) c202_eq (by rw [Tryz.ntmps202]; simp) (by kernel_rfl) (by kernel_rfl) ?_
    have hln := h.slc.len (tb := tb0) (t := 51) undS
    have hcv : convPF tb0 3 53 (.int .i64 ((l.length : Nat) : Int)) = .ok (.int .u64 ((l.length : Nat) : Int)) := by
      show R.ok (Value.int .u64 (wrapF .u64 ((l.length : Nat) : Int))) = _
      rw [wrapF_u64 (by omega)]
    apply W.seq
    apply W.run 20
    · intro M
      simp (config := { maxSteps := 4000000 }) (disch := first | decide +kernel | omega | simp only [Wq, Nat.reduceEqDiff]) only [c202, Tryz.f202, Aq, Nat.ble, reduceIte, Nat.reduceEqDiff, Nat.reduceAdd, hln]
      with_reducible rfl
    show W tb0 _ _ _
    apply W.runG (g) 20
    · intro M hM
      simp (config := { maxSteps := 4000000 }) (disch := first | decide +kernel | omega | simp only [Wq, Nat.reduceEqDiff]) only [c202, Tryz.f202, Aq, Nat.ble, reduceIte, Nat.reduceEqDiff, Nat.reduceAdd, hcv, kLen hn, hg]
      with_reducible rfl
    exact ⟨.inl rfl, _, [], rfl, rfl, rfl, rfl⟩
  exact ha

theorem run_srt {l : List Value} {b : Nat} {x : Value} {A : Mem} (h : RowS A 9 b l x) (hk : ∀ y ∈ l, isStrV y = true) (hn : l.length ≤ 12) :
    ∃ A' l', Ans tb0 202 [x] A (.tuple ⟨[]⟩) A' ∧ l'.Perm l ∧ SortedV ltStrV l' ∧ RowS A' 9 b l' x ∧ (A.next ≤ A'.next ∧ A'.next ≤ A.next + 2 * l.length) ∧ ∀ y, y < A.next → y ≠ b → A'.get y = A.get y := by
  obtain ⟨A', l', h1, h2, h3, h4, h5, h6⟩ := run_sort h hk hn
  exact ⟨A', l', h1, h2, h3, h4, ⟨by omega, by omega⟩, fun y _ hy => h6 y hy⟩

/-! ### The keys come, one by one -/
noncomputable def c247 : Code := Tryz.f247.body.getD .skip
theorem c247_eq : Tryz.f247.body = some (.seq (sub c247 [0]) (.seq (.seq (sub c247 [1,0,0]) (.block 0 (.rangeFunc (.tmp 6) #[7] (sub c247 [1,0,1,0,0]) (sub c247 [1,0,1,0,1])))) (.seq (sub c247 [1,1,0]) .ret))) := by kernel_rfl
theorem bsK (v : Value) (hv : isStrV v = true) : buildSliceF tb0 51 1 [(0, v)] = .ok (rowOb 9 [v], .slc 1 2) := by
  unfold isStrV at hv
  split at hv
  · kernel_rfl
  · cases hv
/-- Memory in the loop that appends. -/
structure AppM (A : Mem) (t0 : T Value) (done : List Value) (C : Mem) : Prop where
  hn : C.next = A.next + (2 * done.length + 4)
  hd : C.get (A.next + 1) = some .defd
  hl : C.get (A.next + 2) = some (.loop (loop0 t0 13 [7] (sub c247 [1,0,1,0,0]) (sub c247 [1,0,1,0,1]) (A.next + 1)))
  hx : ∃ x, RowS C 9 (A.next + (2 * done.length + 3)) done x ∧ Vals C 51 A.next (.var 1) [x]
  hf : ∀ y, y < A.next → C.get y = A.get y
set_option maxHeartbeats 2000000 in
theorem app_round {A : Mem} {t0 : T Value} {done : List Value} {C : Mem} (h2 : t0.get 2 = some (.pointer (some ⟨A.next, 0, none⟩))) (hC : AppM A t0 done C) (hlen : done.length ≤ 12) {v : Value} (hv : isStrV v = true) :
    ∃ C', (∃ g, ∀ M, g ≤ M → callF tb0 (exec tb0 M) (.round (A.next + 2) [v]) C = .ok (.val (.bool true) C')) ∧ AppM A t0 (done ++ [v]) C' := by
  obtain ⟨x, hs, hvx⟩ := hC.hx
  have hCn := hC.hn
  refine round_of_W hC.hl (t := t0.set 7 v) rfl ?_
  show W tb0 (sub c247 [1,0,1,0,0]) ⟨t0.set 7 v, 13, [], C, some (A.next + 2)⟩ _
  apply W.run 20
  · intro M
    simp (config := { maxSteps := 4000000 }) (disch := first | decide +kernel | omega | simp only [Wq, Nat.reduceEqDiff]) only [c247, Tryz.f247, Aq, Nat.ble, reduceIte, Nat.reduceEqDiff, Nat.reduceAdd]
    with_reducible rfl
  refine ⟨rfl, _, hC.hl, rfl, ?_⟩
  show W tb0 (sub c247 [1,0,1,0,1]) ⟨_, 13, [], C.set (A.next + 2) (.loop { (loop0 t0 13 [7] (sub c247 [1,0,1,0,0]) (sub c247 [1,0,1,0,1]) (A.next + 1)) with state := .busy }), some (A.next + 2)⟩ _
  have hn0 : (C.set (A.next + 2) (.loop { (loop0 t0 13 [7] (sub c247 [1,0,1,0,0]) (sub c247 [1,0,1,0,1]) (A.next + 1)) with state := .busy })).next = C.next := next_set _ _ _
  have hg0 : ∀ y, y ≠ A.next + 2 → (C.set (A.next + 2) (.loop { (loop0 t0 13 [7] (sub c247 [1,0,1,0,0]) (sub c247 [1,0,1,0,1]) (A.next + 1)) with state := .busy })).get y = C.get y := fun y hy => by rw [get_setMem, if_neg hy]
  have hl0 : (C.set (A.next + 2) (.loop { (loop0 t0 13 [7] (sub c247 [1,0,1,0,0]) (sub c247 [1,0,1,0,1]) (A.next + 1)) with state := .busy })).get (A.next + 2) = some (.loop { (loop0 t0 13 [7] (sub c247 [1,0,1,0,0]) (sub c247 [1,0,1,0,1]) (A.next + 1)) with state := .busy }) := by rw [get_setMem, if_pos rfl]
  revert hn0 hg0 hl0
  generalize C.set (A.next + 2) (.loop { (loop0 t0 13 [7] (sub c247 [1,0,1,0,0]) (sub c247 [1,0,1,0,1]) (A.next + 1)) with state := .busy }) = E
  intro hn0 hg0 hl0
  have hvE : Vals E 51 A.next (.var 1) [x] := hvx.same (hg0 A.next (by omega))
  have hsE : RowS E 9 (A.next + (2 * done.length + 3)) done x := hs.same (by omega) (fun _ => hg0 _ (by omega))
  have lx := load_box (tb := tb0) undS rfl hvE
  have hE2 := More.alloc E (rowOb 9 [v])
  obtain ⟨ti, ht1, ht2, ht3⟩ := tyK
  obtain ⟨x', E3, happ, hs3, hn3, hf3⟩ := (hsE.same hE2.n (fun hb => hE2.g _ hb)).append (tb := tb0) (st := 51) (xt := 51) undS undS zcK ht1 ht2 (by omega) (by omega) (get_alloc_self E _) (key_cells hv).2
  have hn2 : (E.alloc (rowOb 9 [v])).next = E.next + 1 := next_alloc _ _
  have hv3 : Vals E3 51 A.next (.var 1) [x] := hvE.same (by rw [hf3 A.next (by omega) (by omega), hE2.g A.next (by omega)])
  obtain ⟨E4, hst, hv4, hn4, hf4⟩ := store_box (tb := tb0) (t := 51) sizeS hv3 hs3.slc.cells hs3.slc.one
  have hfr : ∀ y, y ≠ A.next + (2 * done.length + 3) → y ≠ A.next → y < E.next → E4.get y = E.get y := fun y h1 h2 h3 => by rw [hf4 y h2, hf3 y h1 (by omega), hE2.g y h3]
  have hbs := bsK v hv
  apply W.run 20
  · intro M
    simp (config := { maxSteps := 4000000 }) (disch := first | decide +kernel | omega | simp only [Wq, Nat.reduceEqDiff]) only [c247, Tryz.f247, Aq, Nat.ble, reduceIte, Nat.reduceEqDiff, Nat.reduceAdd, h2, lx, hbs, happ, hst]
    with_reducible rfl
  refine ⟨rfl, rfl, _, by rw [hfr _ (by omega) (by omega) (by omega)]; exact hl0, ⟨?_, ?_, ?_, ⟨x', ?_, ?_⟩, ?_⟩⟩
  · rw [next_set, List.length_append]; show E4.next = A.next + (2 * (done.length + 1) + 4); omega
  · show Mem.get _ (A.next + 1) = _
    rw [get_setMem, if_neg (by omega), hfr _ (by omega) (by omega) (by omega), hg0 _ (by omega)]; exact hC.hd
  · show Mem.get _ (A.next + 2) = _
    rw [get_setMem, if_pos rfl]; rfl
  · have hb3 : (E.alloc (rowOb 9 [v])).next = A.next + (2 * (done ++ [v]).length + 3) := by
      rw [hn2, List.length_append]; show E.next + 1 = A.next + (2 * (done.length + 1) + 3); omega
    rw [hb3] at hs3
    refine hs3.same (by rw [next_set]; show E3.next ≤ E4.next; omega) (fun _ => ?_)
    show Mem.get _ _ = _
    rw [get_setMem, if_neg (by rw [List.length_append]; show A.next + (2 * (done.length + 1) + 3) ≠ _; omega), hf4 _ (by rw [List.length_append]; show A.next + (2 * (done.length + 1) + 3) ≠ _; omega)]
  · refine hv4.same ?_
    show Mem.get _ A.next = _
    rw [get_setMem, if_neg (by omega)]
  · intro y hy
    show Mem.get _ y = _
    rw [get_setMem, if_neg (by omega), hfr y (by omega) (by omega) (by omega), hg0 y (by omega)]
    exact hC.hf y hy

noncomputable def c203 : Code := Tryz.f203.body.getD .skip
noncomputable def k203 : KeysF := { f := 203, fn := Tryz.f203, tM := mapT (sub c203 [0]), tK := mapK tb0 (mapT (sub c203 [0])), tV := mapV tb0 (mapT (sub c203 [0])), i0 := 0, i1 := 1, i2 := 2, oL := opAt (sub c203 [0]) 0, oR := opAt (sub c203 [0]) 1, oN := opAt (sub c203 [1,0,0,0]) 0, oX := opAt (sub c203 [1,0,0,0]) 1, oE := opAt (sub c203 [1,0,0,1,1,0,0]) 0, oX2 := opAt (sub c203 [1,0,0,1,1,0,0]) 1, oA := opAt (sub c203 [1,0,0,1,1,0,0]) 2, cT := sub c203 [1,0,0,1,1,0,1] }
theorem k203_ok : KeysOk tb0 k203 where
  hf := fn_at Tryz.func203
  hb := by kernel_rfl
  hL := ⟨by kernel_rfl, by kernel_rfl, by kernel_rfl⟩
  hR := ⟨by kernel_rfl, by kernel_rfl, by kernel_rfl⟩
  hN := ⟨by kernel_rfl, by kernel_rfl, by kernel_rfl⟩
  hX := ⟨by kernel_rfl, by kernel_rfl, by kernel_rfl⟩
  hE := ⟨by kernel_rfl, by kernel_rfl, by kernel_rfl⟩
  hX2 := ⟨by kernel_rfl, by kernel_rfl, by kernel_rfl⟩
  hA := ⟨by kernel_rfl, by kernel_rfl, by kernel_rfl⟩
  hn := by kernel_rfl
  hng := by kernel_rfl
  hres := by kernel_rfl
  hu := by kernel_rfl
theorem k203_step : ∀ yv itA (t : T Value) (C C' : Mem) (key : Value), t.get 0 = some yv → t.get 3 = some key → t.get 5 = some (.pointer (some ⟨itA, 0, none⟩)) → yv = .func (.yield (itA - 1)) ⟨[]⟩ ⟨[]⟩ → (∃ g, ∀ M, g ≤ M → callF tb0 (exec tb0 M) (.round (itA - 1) [key]) C = .ok (.val (.bool true) C')) →
      W tb0 k203.cT ⟨t, 14, [], C, none⟩ fun e s' => e = .nrm ∧ s'.m = C' ∧ KSt yv itA s' := by
  rintro yv itA t C C' key h0 h3 h5 rfl ⟨g, hg⟩
  show W tb0 (sub c203 [1,0,0,1,1,0,1]) _ _
  apply W.runG (g) 20
  · intro M hM
    simp (config := { maxSteps := 4000000 }) (disch := first | decide +kernel | omega | simp only [Wq, Nat.reduceEqDiff]) only [c203, Tryz.f203, Aq, Nat.ble, reduceIte, Nat.reduceEqDiff, Nat.reduceAdd, h0, h3, hg]
    with_reducible rfl
  refine ⟨rfl, rfl, rfl, rfl, rfl, ?_, ?_⟩
  · simp only [T.get_set, Nat.reduceEqDiff, if_false, h0]
  · simp only [T.get_set, Nat.reduceEqDiff, if_false, h5]


/-! ### All together -/
theorem rcall_app {D : KeysF} (hD : KeysOk tb0 D) (hcT : ∀ yv itA (t : T Value) (C C' : Mem) (key : Value), t.get 0 = some yv → t.get 3 = some key → t.get 5 = some (.pointer (some ⟨itA, 0, none⟩)) → yv = .func (.yield (itA - 1)) ⟨[]⟩ ⟨[]⟩ → (∃ g, ∀ M, g ≤ M → callF tb0 (exec tb0 M) (.round (itA - 1) [key]) C = .ok (.val (.bool true) C')) →
      W tb0 D.cT ⟨t, 14, [], C, none⟩ fun e s' => e = .nrm ∧ s'.m = C' ∧ KSt yv itA s')
    {A : Mem} {bp clock : Nat} {mv : Value} {es : List MapEntry} (hbox : loadF tb0 A.get D.tM (.pointer (some ⟨bp, 0, none⟩)) = .ok mv) (hbp : bp < A.next) (hm : MapV A mv es clock) (hlt : ∀ e ∈ es, e.born < clock) (hnd : (es.map (·.born)).Nodup) (hlen : es.length ≤ 12) (hk : ∀ e ∈ es, isStrV e.key = true) :
    RCall (A.next + (2 * es.length + 4)) tb0.P (.fn 247 [.slice none 0 0, .func (.func D.f) ⟨[]⟩ ⟨[.pointer (some ⟨bp, 0, none⟩)]⟩]) A fun v A' => A'.next = A.next + (2 * es.length + 4) ∧ (∀ y, y < A.next → A'.get y = A.get y) ∧ ∃ l', l'.Perm (es.map (·.key)) ∧ RowS A' 9 (A.next + (2 * es.length + 3)) l' v := by
  refine RCall.fn (fn_at Tryz.func247) c247_eq (by kernel_rfl) (by rw [Tryz.ntmps247]; simp) tb0_ok ?_
  apply RC.seq
  apply RC.of_W tb0_ok
  have hv1 : Vals (A.alloc (rowOb 51 [.slice none 0 0])) 51 A.next (.var 1) [.slice none 0 0] := vals_box (get_alloc_self _ _)
  have hn1 : (A.alloc (rowOb 51 [.slice none 0 0])).next = A.next + 1 := next_alloc _ _
  have hg1 : ∀ y, y < A.next → (A.alloc (rowOb 51 [.slice none 0 0])).get y = A.get y := fun y hy => get_alloc_ne (by omega)
  revert hv1 hn1 hg1
  generalize hA1 : A.alloc (rowOb 51 [.slice none 0 0]) = A1
  intro hv1 hn1 hg1
  apply W.run 20
  · intro M
    simp (config := { maxSteps := 4000000 }) (disch := first | decide +kernel | omega | simp only [Wq, Nat.reduceEqDiff]) only [c247, Tryz.f247, Aq, Nat.ble, reduceIte, Nat.reduceEqDiff, Nat.reduceAdd, hA1]
    with_reducible rfl
  refine ⟨(fun _ h => by cases h), by show A1.next ≤ _; omega, ?_⟩
  apply RC.seq
  apply RC.seq
  apply RC.of_W tb0_ok
  apply W.run 20
  · intro M
    simp (config := { maxSteps := 4000000 }) (disch := first | decide +kernel | omega | simp only [Wq, Nat.reduceEqDiff]) only [c247, Tryz.f247, Aq, Nat.ble, reduceIte, Nat.reduceEqDiff, Nat.reduceAdd]
    with_reducible rfl
  refine ⟨(fun _ h => by cases h), by show A1.next ≤ _; omega, ?_⟩
  show RC _ _ _ _ _
  apply RC.block
  generalize hT : (((((T.e : T Value).set 0 _).set 1 _).set 2 _).set 4 _).set 6 _ = t0
  have t2 : t0.get 2 = some (.pointer (some ⟨A.next, 0, none⟩)) := by rw [← hT]; simp [T.get_set]
  have t6 : t0.get 6 = some (.func (.func D.f) ⟨[]⟩ ⟨[.pointer (some ⟨bp, 0, none⟩)]⟩) := by rw [← hT]; simp [T.get_set]
  refine RC.rangeF tb0_ok (fv := .func (.func D.f) ⟨[]⟩ ⟨[.pointer (some ⟨bp, 0, none⟩)]⟩) (cl := .fn D.f [.func (.yield (A1.next + 1)) ⟨[]⟩ ⟨[]⟩, .pointer (some ⟨bp, 0, none⟩)]) (by show A1.next + 2 ≤ _; omega) rfl (by show ev t0 (.tmp 6) = _; rw [ev_tmp, t6]; rfl) rfl ?_
  show RCall _ _ (.fn D.f [.func (.yield (A1.next + 1)) ⟨[]⟩ ⟨[]⟩, .pointer (some ⟨bp, 0, none⟩)]) ((A1.alloc .defd).alloc (.loop (loop0 t0 13 [7] (sub c247 [1,0,1,0,0]) (sub c247 [1,0,1,0,1]) A1.next))) _
  have hn2 : ((A1.alloc .defd).alloc (.loop (loop0 t0 13 [7] (sub c247 [1,0,1,0,0]) (sub c247 [1,0,1,0,1]) A1.next))).next = A.next + 3 := by rw [next_alloc, next_alloc]; omega
  have hg2 : ∀ y, y < A.next → ((A1.alloc .defd).alloc (.loop (loop0 t0 13 [7] (sub c247 [1,0,1,0,0]) (sub c247 [1,0,1,0,1]) A1.next))).get y = A.get y := fun y hy => by
    rw [get_alloc_ne (by rw [next_alloc]; omega), get_alloc_ne (by omega), hg1 y hy]
  have hd2 : ((A1.alloc .defd).alloc (.loop (loop0 t0 13 [7] (sub c247 [1,0,1,0,0]) (sub c247 [1,0,1,0,1]) A1.next))).get (A.next + 1) = some .defd := by
    rw [get_alloc_ne (by rw [next_alloc]; omega), ← hn1, get_alloc_self]
  have hl2 : ((A1.alloc .defd).alloc (.loop (loop0 t0 13 [7] (sub c247 [1,0,1,0,0]) (sub c247 [1,0,1,0,1]) A1.next))).get (A.next + 2) = some (.loop (loop0 t0 13 [7] (sub c247 [1,0,1,0,0]) (sub c247 [1,0,1,0,1]) (A.next + 1))) := by
    have e : A.next + 2 = (A1.alloc .defd).next := by rw [next_alloc]; omega
    rw [e, get_alloc_self, hn1]
  have hx2 : Vals ((A1.alloc .defd).alloc (.loop (loop0 t0 13 [7] (sub c247 [1,0,1,0,0]) (sub c247 [1,0,1,0,1]) A1.next))) 51 A.next (.var 1) [.slice none 0 0] := hv1.same (by rw [get_alloc_ne (by rw [next_alloc]; omega), get_alloc_ne (by omega)])
  rw [hn1]
  rw [hn1] at hn2 hg2 hd2 hl2 hx2
  revert hn2 hg2 hd2 hl2 hx2
  generalize (A1.alloc .defd).alloc (.loop (loop0 t0 13 [7] (sub c247 [1,0,1,0,0]) (sub c247 [1,0,1,0,1]) (A.next + 1))) = B
  intro hn2 hg2 hd2 hl2 hx2
  have hkeys := keys_callV tb0_ok hD (N := A.next + (2 * es.length + 4)) (yv := .func (.yield (A.next + 2)) ⟨[]⟩ ⟨[]⟩) (mv := mv) (bp := bp) (clock := clock) (A := B) (es := es)
    (fun done C => done.length ≤ es.length ∧ (∀ e ∈ done, isStrV e.key = true) ∧ AppM A t0 (done.map (·.key)) C)
    (by rw [load_same (hg2 bp hbp)]; exact hbox) (hm.same (by omega) hg2) hlt hnd
    ⟨Nat.zero_le _, (fun _ h => by cases h), ⟨by rw [next_alloc, hn2]; rfl, by rw [get_alloc_ne (by omega)]; exact hd2, by rw [get_alloc_ne (by omega)]; exact hl2, ⟨.slice none 0 0, .inl ⟨rfl, rfl⟩, hx2.same (get_alloc_ne (by omega))⟩, fun y hy => by rw [get_alloc_ne (by omega), hg2 y hy]⟩⟩
    (fun done C h => hm.same (by have := h.2.2.hn; omega) h.2.2.hf)
    (fun done C h => by have := h.2.2.hn; rw [List.length_map] at this; have := h.1; omega)
    (fun done e s h he hdl hks h3 => by
      obtain ⟨t, n, d, C, ro⟩ := s
      obtain ⟨rfl, rfl, rfl, hy, hi⟩ := hks
      obtain ⟨C', hcall, hC'⟩ := app_round t2 h.2.2 (by rw [List.length_map]; omega) (hk e he)
      obtain ⟨e', s', ⟨f, hf⟩, rfl, hm, hks'⟩ := hcT _ B.next t C C' e.key hy h3 hi (by rw [hn2]; rfl) (by rw [hn2]; exact hcall)
      refine ⟨0 + f, s', hf 0, ⟨by rw [List.length_append]; show done.length + 1 ≤ _; omega, fun e' he' => ?_, ?_⟩, hks'⟩
      · rcases List.mem_append.1 he' with he' | he'
        · exact h.2.1 e' he'
        · simp only [List.mem_singleton] at he'; rw [he']; exact hk e he
      · rw [hm, List.map_append]; exact hC')
  intro ι w s fr cs hr hcl ht
  obtain ⟨v, A', ι', w', v', ⟨rfl, done, hp, hdl, hdk, hM⟩, hnA, rest⟩ := hkeys ι w s fr cs hr hcl ht
  refine ⟨_, A', ι', w', v', ⟨_, hM.hl, by simp [loop0], rfl, ?_⟩, hnA, rest⟩
  have hlen2 : done.length = es.length := hp.length_eq
  obtain ⟨x, hrow, hvx⟩ := hM.hx
  refine ⟨rfl, ?_⟩
  have hM' : ∀ y, y ≠ A.next + 2 → (A'.set (A.next + 2) (.loop { (loop0 t0 13 [7] (sub c247 [1,0,1,0,0]) (sub c247 [1,0,1,0,1]) (A.next + 1)) with state := .exhausted })).get y = A'.get y := fun y hy => by rw [get_setMem, if_neg hy]
  have hnM : (A'.set (A.next + 2) (.loop { (loop0 t0 13 [7] (sub c247 [1,0,1,0,0]) (sub c247 [1,0,1,0,1]) (A.next + 1)) with state := .exhausted })).next = A'.next := next_set _ _ _
  show RC _ _ _ ⟨t0, 13, [A.next + 1], A'.set (A.next + 2) (.loop { (loop0 t0 13 [7] (sub c247 [1,0,1,0,0]) (sub c247 [1,0,1,0,1]) (A.next + 1)) with state := .exhausted }), none⟩ _
  revert hM' hnM
  generalize A'.set (A.next + 2) (.loop { (loop0 t0 13 [7] (sub c247 [1,0,1,0,0]) (sub c247 [1,0,1,0,1]) (A.next + 1)) with state := .exhausted }) = E
  intro hM' hnM
  have hMn := hM.hn
  rw [List.length_map, hlen2] at hMn hrow
  apply RC.seq
  apply RC.of_W tb0_ok
  have lx := load_box (tb := tb0) undS rfl (hvx.same (hM' A.next (by omega)))
  apply W.run 20
  · intro M
    simp (config := { maxSteps := 4000000 }) (disch := first | decide +kernel | omega | simp only [Wq, Nat.reduceEqDiff]) only [c247, Tryz.f247, Aq, Nat.ble, reduceIte, Nat.reduceEqDiff, Nat.reduceAdd, t2, lx]
    with_reducible rfl
  refine ⟨(fun _ h => by cases h), by show E.next ≤ _; omega, ?_⟩
  show RC _ _ _ _ _
  apply RC.of_W tb0_ok
  apply W.run 20
  · intro M
    simp (config := { maxSteps := 4000000 }) (disch := first | decide +kernel | omega | simp only [Wq, Nat.reduceEqDiff]) only [c247, Tryz.f247, Aq, Nat.ble, reduceIte, Nat.reduceEqDiff, Nat.reduceAdd]
    with_reducible rfl
  refine ⟨(fun _ h => by cases h), by show E.next ≤ _; omega, .inr rfl, E.set (A.next + 1) .dead, [x], ?_, ?_, ?_⟩
  · show takeF [A.next + 1] E = _
    unfold takeF
    rw [hM' _ (by omega), hM.hd]
    rfl
  · show (evG (((t0.set 12 x).set 4 x).get 4)).bind (fun v => R.ok [v]) = _
    rw [T.get_set, if_pos rfl]
    rfl
  · have hE : ∀ y, y ≠ A.next + 1 → (E.set (A.next + 1) .dead).get y = E.get y := fun y hy => by rw [get_setMem, if_neg hy]
    refine ⟨by rw [next_set]; omega, fun y hy => by rw [hE y (by omega), hM' y (by omega), hM.hf y hy], done.map (·.key), hp.map _, ?_⟩
    exact hrow.same (by rw [next_set]; omega) (fun _ => by rw [hE _ (by omega), hM' _ (by omega)])

noncomputable def c201 : Code := Tryz.f201.body.getD .skip
theorem c201_eq : Tryz.f201.body = some (.seq (sub c201 [0]) (.seq (.region 1 #[opAt (sub c201 [1,0]) 0, opAt (sub c201 [1,0]) 1, opAt (sub c201 [1,0]) 2] false) .ret)) := by kernel_rfl
noncomputable def c157 : Code := Tryz.f157.body.getD .skip
theorem c157_eq : Tryz.f157.body = some (.seq (sub c157 [0]) (.seq (.region 1 #[opAt (sub c157 [1,0]) 0, opAt (sub c157 [1,0]) 1, opAt (sub c157 [1,0]) 2] false) (.seq (sub c157 [1,1,0]) (.seq (sub c157 [1,1,1,0]) .ret)))) := by kernel_rfl

/-- The seat's own text of a loop over a map's keys goes on with each. -/
def StepSays (D : KeysF) : Prop := ∀ yv itA (t : T Value) (C C' : Mem) (key : Value), t.get 0 = some yv → t.get 3 = some key → t.get 5 = some (.pointer (some ⟨itA, 0, none⟩)) → yv = .func (.yield (itA - 1)) ⟨[]⟩ ⟨[]⟩ → (∃ g, ∀ M, g ≤ M → callF tb0 (exec tb0 M) (.round (itA - 1) [key]) C = .ok (.val (.bool true) C')) →
  W tb0 D.cT ⟨t, 14, [], C, none⟩ fun e s' => e = .nrm ∧ s'.m = C' ∧ KSt yv itA s'
theorem rcall_coll {D : KeysF} (hD : KeysOk tb0 D) (hcT : StepSays D)
    {A : Mem} {bp clock : Nat} {mv : Value} {es : List MapEntry} (hbox : loadF tb0 A.get D.tM (.pointer (some ⟨bp, 0, none⟩)) = .ok mv) (hbp : bp < A.next) (hm : MapV A mv es clock) (hlt : ∀ e ∈ es, e.born < clock) (hnd : (es.map (·.born)).Nodup) (hlen : es.length ≤ 12) (hk : ∀ e ∈ es, isStrV e.key = true) :
    RCall (A.next + (2 * es.length + 4)) tb0.P (.fn 201 [.func (.func D.f) ⟨[]⟩ ⟨[.pointer (some ⟨bp, 0, none⟩)]⟩]) A fun v A' => A'.next = A.next + (2 * es.length + 4) ∧ (∀ y, y < A.next → A'.get y = A.get y) ∧ ∃ l', l'.Perm (es.map (·.key)) ∧ RowS A' 9 (A.next + (2 * es.length + 3)) l' v := by
  refine RCall.fn (fn_at Tryz.func201) c201_eq (by kernel_rfl) (by rw [Tryz.ntmps201]; simp) tb0_ok ?_
  apply RC.seq
  apply RC.of_W tb0_ok
  apply W.run 20
  · intro M
    simp (config := { maxSteps := 4000000 }) (disch := first | decide +kernel | omega | simp only [Wq, Nat.reduceEqDiff]) only [c201, Tryz.f201, Aq, Nat.ble, reduceIte, Nat.reduceEqDiff, Nat.reduceAdd]
    with_reducible rfl
  refine ⟨(fun _ h => by cases h), by show A.next ≤ _; omega, ?_⟩
  show RC _ _ _ _ _
  generalize hT : ((T.e : T Value).set 0 _).set 2 _ = t0
  have t2 : t0.get 0 = some (.func (.func D.f) ⟨[]⟩ ⟨[.pointer (some ⟨bp, 0, none⟩)]⟩) := by rw [← hT]; simp [T.get_set]
  apply RC.seq
  apply RC.region
  show ROps _ _ _ [0, 1, 2] _ _
  refine ROps.one rfl (by kernel_rfl) (opP tb0_ok (op := .move (.tmp 0)) (d := 3) (by kernel_rfl) (by kernel_rfl) (by kernel_rfl) (by show 3 < 5; omega) rfl rfl (v := .func (.func D.f) ⟨[]⟩ ⟨[.pointer (some ⟨bp, 0, none⟩)]⟩) ?_) (by show A.next ≤ _; omega) ?_
  · show evG (t0.get 0) = _
    rw [t2]; rfl
  have t3 : (t0.set 3 (.func (.func D.f) ⟨[]⟩ ⟨[.pointer (some ⟨bp, 0, none⟩)]⟩)).get 3 = some (.func (.func D.f) ⟨[]⟩ ⟨[.pointer (some ⟨bp, 0, none⟩)]⟩) := by rw [T.get_set, if_pos rfl]
  show ROps _ _ _ _ ⟨t0.set 3 (.func (.func D.f) ⟨[]⟩ ⟨[.pointer (some ⟨bp, 0, none⟩)]⟩), 5, [], A, none⟩ _
  have hdst : (opAt (sub c201 [1,0]) 1).dst = some 4 := by kernel_rfl
  refine ROps.callD (o := opAt (sub c201 [1,0]) 1) tb0_ok rfl (by kernel_rfl) (c := { callee := .value (.func 247), args := #[.const (.slice none 0 0), .tmp 3], argTypes := #[51, 238] }) (by kernel_rfl) (cl := .fn 247 [.slice none 0 0, .func (.func D.f) ⟨[]⟩ ⟨[.pointer (some ⟨bp, 0, none⟩)]⟩]) ?_ hdst (by show (4 : Nat) < 5; decide) ?_
  · show ((ev _ (.const (.slice none 0 0))).bind fun v => ((ev _ (.tmp 3)).bind fun v2 => (R.ok []).bind fun vs => .ok (v2 :: vs)).bind fun vs => .ok (v :: vs)).bind _ = _
    rw [ev_nilslice, R.ok_bind, ev_tmp, t3]
    rfl
  intro ι w s fr cs hr hcl ht
  obtain ⟨v, A', ι', w', v', ⟨h1, h2, l', h3, h4⟩, hn, rest⟩ := rcall_app hD hcT hbox hbp hm hlt hnd hlen hk ι w s fr cs hr hcl ht
  refine ⟨v, A', ι', w', v', ?_, hn, rest⟩
  show ROps _ _ _ _ ⟨(t0.set 3 (.func (.func D.f) ⟨[]⟩ ⟨[.pointer (some ⟨bp, 0, none⟩)]⟩)).set 4 v, 5, [], A', none⟩ _
  refine ROps.one rfl (by kernel_rfl) (opP tb0_ok (op := .assign (.tmp 4)) (d := 2) (by kernel_rfl) (by kernel_rfl) (by kernel_rfl) (by show 2 < 5; omega) rfl rfl (v := v) ?_) hn ?_
  · show evG (((t0.set 3 _).set 4 v).get 4) = _
    rw [T.get_set, if_pos rfl]; rfl
  refine ROps.nil hn ?_
  show RC _ _ _ ⟨((t0.set 3 (.func (.func D.f) ⟨[]⟩ ⟨[.pointer (some ⟨bp, 0, none⟩)]⟩)).set 4 v).set 2 v, 5, [], A', none⟩ _
  apply RC.of_W tb0_ok
  apply W.run 20
  · intro M
    simp (config := { maxSteps := 4000000 }) (disch := first | decide +kernel | omega | simp only [Wq, Nat.reduceEqDiff]) only [c201, Tryz.f201, Aq, Nat.ble, reduceIte, Nat.reduceEqDiff, Nat.reduceAdd]
    with_reducible rfl
  refine ⟨(fun _ h => by cases h), hn, .inr rfl, A', [v], rfl, ?_, h1, h2, l', h3, h4⟩
  show (evG ((((t0.set 3 _).set 4 v).set 2 v).get 2)).bind (fun v => R.ok [v]) = _
  rw [T.get_set, if_pos rfl]
  rfl
theorem says {D : KeysF} (hD : KeysOk tb0 D) (hcT : StepSays D) : SortSays tb0 157 D 12 9 isStrV ltStrV := by
  intro A bp clock mv es hbox hm hwf hlt hnd hlen hk
  have hbp : bp < A.next := by
    rcases Nat.lt_or_ge bp A.next with h | h
    · exact h
    · exfalso
      have h0 := hwf bp h
      rw [load_none h0] at hbox
      cases hbox
  refine RCall.fn (fn_at Tryz.func157) c157_eq (by kernel_rfl) (by rw [Tryz.ntmps157]; simp) tb0_ok ?_
  apply RC.seq
  apply RC.of_W tb0_ok
  apply W.run 20
  · intro M
    simp (config := { maxSteps := 4000000 }) (disch := first | decide +kernel | omega | simp only [Wq, Nat.reduceEqDiff]) only [c157, Tryz.f157, Aq, Nat.ble, reduceIte, Nat.reduceEqDiff, Nat.reduceAdd]
    with_reducible rfl
  refine ⟨(fun _ h => by cases h), by show A.next ≤ _; omega, ?_⟩
  show RC _ _ _ _ _
  generalize hT : ((T.e : T Value).set 0 _).set 2 _ = t0
  have t2 : t0.get 0 = some (.func (.func D.f) ⟨[]⟩ ⟨[.pointer (some ⟨bp, 0, none⟩)]⟩) := by rw [← hT]; simp [T.get_set]
  apply RC.seq
  apply RC.region
  show ROps _ _ _ [0, 1, 2] _ _
  refine ROps.one rfl (by kernel_rfl) (opP tb0_ok (op := .move (.tmp 0)) (d := 4) (by kernel_rfl) (by kernel_rfl) (by kernel_rfl) (by show 4 < 9; omega) rfl rfl (v := .func (.func D.f) ⟨[]⟩ ⟨[.pointer (some ⟨bp, 0, none⟩)]⟩) ?_) (by show A.next ≤ _; omega) ?_
  · show evG (t0.get 0) = _
    rw [t2]; rfl
  have t3 : (t0.set 4 (.func (.func D.f) ⟨[]⟩ ⟨[.pointer (some ⟨bp, 0, none⟩)]⟩)).get 4 = some (.func (.func D.f) ⟨[]⟩ ⟨[.pointer (some ⟨bp, 0, none⟩)]⟩) := by rw [T.get_set, if_pos rfl]
  show ROps _ _ _ _ ⟨t0.set 4 (.func (.func D.f) ⟨[]⟩ ⟨[.pointer (some ⟨bp, 0, none⟩)]⟩), 9, [], A, none⟩ _
  have hdst : (opAt (sub c157 [1,0]) 1).dst = some 5 := by kernel_rfl
  refine ROps.callD (o := opAt (sub c157 [1,0]) 1) tb0_ok rfl (by kernel_rfl) (c := { callee := .value (.func 201), args := #[.tmp 4], argTypes := #[238] }) (by kernel_rfl) (cl := .fn 201 [.func (.func D.f) ⟨[]⟩ ⟨[.pointer (some ⟨bp, 0, none⟩)]⟩]) ?_ hdst (by show (5 : Nat) < 9; decide) ?_
  · show ((ev _ (.tmp 4)).bind fun v2 => (R.ok []).bind fun vs => .ok (v2 :: vs)).bind _ = _
    rw [ev_tmp, t3]
    rfl
  intro ι w s fr cs hr hcl ht
  obtain ⟨v, A', ι', w', v', ⟨h1, h2, l', h3, h4⟩, hn, rest⟩ := rcall_coll hD hcT hbox hbp hm hlt hnd hlen hk ι w s fr cs hr hcl (fun x h1 h2 => ht x h1 (by omega))
  have hn : A'.next ≤ A.next + (4 * es.length + 4) := by omega
  refine ⟨v, A', ι', w', v', ?_, hn, rest⟩
  show ROps _ _ _ _ ⟨(t0.set 4 (.func (.func D.f) ⟨[]⟩ ⟨[.pointer (some ⟨bp, 0, none⟩)]⟩)).set 5 v, 9, [], A', none⟩ _
  refine ROps.one rfl (by kernel_rfl) (opP tb0_ok (op := .assign (.tmp 5)) (d := 3) (by kernel_rfl) (by kernel_rfl) (by kernel_rfl) (by show 3 < 9; omega) rfl rfl (v := v) ?_) hn ?_
  · show evG (((t0.set 4 _).set 5 v).get 5) = _
    rw [T.get_set, if_pos rfl]; rfl
  refine ROps.nil hn ?_
  show RC _ _ _ ⟨((t0.set 4 (.func (.func D.f) ⟨[]⟩ ⟨[.pointer (some ⟨bp, 0, none⟩)]⟩)).set 5 v).set 3 v, 9, [], A', none⟩ _
  have hkk : ∀ y ∈ l', isStrV y = true := fun y hy => by
    obtain ⟨e, he, rfl⟩ := List.mem_map.1 (h3.mem_iff.1 hy)
    exact hk e he
  have hll : l'.length = es.length := by have := h3.length_eq; rwa [List.length_map] at this
  obtain ⟨A2, l2, ⟨g, hg⟩, q1, q2, q3, q4, q5⟩ := run_srt h4 hkk (by omega)
  generalize hT2 : ((t0.set 4 _).set 5 v).set 3 v = t1
  have u3 : t1.get 3 = some v := by rw [← hT2, T.get_set, if_pos rfl]
  have hb' : ∀ y, y < A.next → A2.get y = A.get y := fun y hy => by rw [q5 y (by omega) (by omega), h2 y hy]
  apply RC.seq
  apply RC.of_W tb0_ok
  apply W.runG (g) 20
  · intro M hM
    simp (config := { maxSteps := 4000000 }) (disch := first | decide +kernel | omega | simp only [Wq, Nat.reduceEqDiff]) only [c157, Tryz.f157, Aq, Nat.ble, reduceIte, Nat.reduceEqDiff, Nat.reduceAdd, u3, hg]
    with_reducible rfl
  refine ⟨(fun _ h => by cases h), by show A2.next ≤ _; omega, ?_⟩
  show RC _ _ _ _ _
  apply RC.seq
  apply RC.of_W tb0_ok
  apply W.run 20
  · intro M
    simp (config := { maxSteps := 4000000 }) (disch := first | decide +kernel | omega | simp only [Wq, Nat.reduceEqDiff]) only [c157, Tryz.f157, Aq, Nat.ble, reduceIte, Nat.reduceEqDiff, Nat.reduceAdd, u3]
    with_reducible rfl
  refine ⟨(fun _ h => by cases h), by show A2.next ≤ _; omega, ?_⟩
  show RC _ _ _ _ _
  apply RC.of_W tb0_ok
  apply W.run 20
  · intro M
    simp (config := { maxSteps := 4000000 }) (disch := first | decide +kernel | omega | simp only [Wq, Nat.reduceEqDiff]) only [c157, Tryz.f157, Aq, Nat.ble, reduceIte, Nat.reduceEqDiff, Nat.reduceAdd]
    with_reducible rfl
  refine ⟨(fun _ h => by cases h), by show A2.next ≤ _; omega, .inr rfl, A2, [v], rfl, ?_, by omega, hb', l2, q1.trans h3, q2, q3⟩
  show (evG ((((((t1.set 6 v).set 7 (.tuple ⟨[]⟩)).set 8 v).set 2 v)).get 2)).bind (fun v => R.ok [v]) = _
  rw [T.get_set, if_pos rfl]
  rfl
theorem says0 {D : KeysF} (hD : KeysOk tb0 D) (hcT : StepSays D) : SortSays tb0 157 D 12 9 isStrV ltStrV := says hD hcT
end Go.Proofs.YtgcineegnihcmaaGreatDoor.knS
