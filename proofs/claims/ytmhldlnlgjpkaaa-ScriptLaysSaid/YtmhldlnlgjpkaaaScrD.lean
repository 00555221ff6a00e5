/-
  What the functions of this group compute on the abstract machine, and the plain laws of it. Part D: conditions stand in each theorem.
-/
import Derived.Test.YtmhldlnlgjpkaaaScrC

/-
  Script: the document's Same.
-/
namespace Go.Proofs.Ytmhldlnlgjpkaaa.scr
open Go.Am
set_option linter.unusedSimpArgs false
set_option linter.unusedVariables false
set_option linter.unusedVariables false
set_option maxRecDepth 20000

section
variable {P P' : Nat → Prop} {C : Mem} {d d' : ActG} {l l' : List Value} {b6 b7 : Nat} {t : T Value} {K : Ex → St → Prop}
set_option maxHeartbeats 16000000 in
theorem req_act {b2 b3 i : Nat} (h6 : Vals C 81 b6 (.var 9) l) (h7 : Vals C 81 b7 (.var 9) l') (hx : ActP P C d l) (hy : ActP P' C d' l') (hp : Sl t (reS b2 b3 i b6 b7))
    (hK1 : d = d' → ∀ t', Sl t' (reS b2 b3 i b6 b7) → K .nrm ⟨t', 119, [], C, none⟩)
    (hK2 : d ≠ d' → ∀ t', t'.get 4 = some (.bool false) → K .ret ⟨t', 119, [], C, none⟩) :
    W tb1 (.seq (.seq (sub c16b1 [1,0,0,1,0,0]) (.cond (.tmp 82) (.seq (sub c16b1 [1,0,0,1,0,1,0,0]) .ret) .skip)) (.seq (sub c16b1 [1,0,0,1,1,0]) (.block 2 (.loop c16b2)))) ⟨t, 119, [], C, none⟩ K := by
  obtain ⟨xs, xo, rfl, k2, k3, k4⟩ := hx
  obtain ⟨ys, yo, rfl, k2', k3', k4'⟩ := hy
  obtain ⟨g2, g3, g5, g6, g7, -⟩ := hp
  obtain ⟨d35, hd1, hd2⟩ := und35
  have a0 := load_part (tb := tb1) (t := 35) (o := 0) (n := 5) hd1 hd2 size35 h6 (by show 5 ≤ 9; omega)
  rw [show ((cellsG d xs xo).drop 0).take 5 = [.int .i64 d.kind, strOf d.word, .int .u32 (d.weight : Int), .int .i64 d.k, .int .i64 d.n] from rfl] at a0
  have a1 := load_vals (tb := tb1) (t := 3) und3 rfl h6 (show (cellsG d xs xo)[5]? = _ from rfl)
  have a2 := load_vals (tb := tb1) (t := 4) und4 rfl h6 (show (cellsG d xs xo)[6]? = _ from rfl)
  have a3 := load_vals (tb := tb1) (t := 36) und36 rfl h6 (show (cellsG d xs xo)[7]? = _ from rfl)
  have a4 := load_vals (tb := tb1) (t := 79) und79 rfl h6 (show (cellsG d xs xo)[8]? = _ from rfl)
  have c0 := load_part (tb := tb1) (t := 35) (o := 0) (n := 5) hd1 hd2 size35 h7 (by show 5 ≤ 9; omega)
  rw [show ((cellsG d' ys yo).drop 0).take 5 = [.int .i64 d'.kind, strOf d'.word, .int .u32 (d'.weight : Int), .int .i64 d'.k, .int .i64 d'.n] from rfl] at c0
  have c1 := load_vals (tb := tb1) (t := 3) und3 rfl h7 (show (cellsG d' ys yo)[5]? = _ from rfl)
  have c2 := load_vals (tb := tb1) (t := 4) und4 rfl h7 (show (cellsG d' ys yo)[6]? = _ from rfl)
  have c3 := load_vals (tb := tb1) (t := 36) und36 rfl h7 (show (cellsG d' ys yo)[7]? = _ from rfl)
  have c4 := load_vals (tb := tb1) (t := 79) und79 rfl h7 (show (cellsG d' ys yo)[8]? = _ from rfl)
  obtain ⟨g, hg⟩ := run_rnumeq k3 k2 k2'
  have lx := k4.len
  have ly := k4'.len
  -- what is told ahead of the openings
  obtain ⟨r, hr⟩ : ∃ r, decide (d.kind = d'.kind ∧ d.word = d'.word ∧ d.weight = d'.weight ∧ d.k = d'.k ∧ d.n = d'.n) = r := ⟨_, rfl⟩
  have first : ∀ {K : Ex → St → Prop}, (∀ t' v, Sl t' (reS b2 b3 i b6 b7) → t'.get 82 = some (.bool v) → (v = true → d ≠ d') → (v = false → (d.kind = d'.kind ∧ d.word = d'.word ∧ d.weight = d'.weight ∧ d.k = d'.k ∧ d.n = d'.n) ∧ d.arm = d'.arm ∧ d.cut = d'.cut ∧ d.stays = d'.stays ∧ d.opening.length = d'.opening.length) → K .nrm ⟨t', 119, [], C, none⟩) →
      W tb1 (sub c16b1 [1,0,0,1,0,0]) ⟨t, 119, [], C, none⟩ K := by
    intro K hK
    by_cases h1 : d.kind = d'.kind ∧ d.word = d'.word ∧ d.weight = d'.weight ∧ d.k = d'.k ∧ d.n = d'.n
    rotate_left
    · have t1 : decide (d.kind = d'.kind ∧ d.word = d'.word ∧ d.weight = d'.weight ∧ d.k = d'.k ∧ d.n = d'.n) = false := decide_eq_false h1
      apply W.run 20
      · intro M
        simp (config := { maxSteps := 4000000 }) (disch := first | decide +kernel | (rw [wantF_guard]; simp only [wantD_some, dstAt_zero, dstAt_succ, T.get_set, T.get_e, Nat.reduceEqDiff, if_true, if_false, wantV_bool, wantV_unit, unitV, cond_true, cond_false, Bool.not_true, Bool.not_false, List.toList_toArray]) | omega) only [c16b1, c16, Try.f16, Option.getD_some, sub_seq1, sub_seq0, sub_block, sub_loop, sub_nil, exec_region, runOps_cons, opF_fieldAddr, ev_tmp, g6, evG_some, putT_some, opF_load, T.get_set, if_true, Nat.reduceEqDiff, g7, if_false, opF_neqR, opF_move, R.ok_bind, fa81_0, c0, a0, neq35, t1, Bool.not_false, runOps_no, opF_pick, pickF, ev_bool, runOps_nil]
        with_reducible rfl
      refine hK _ true ?_ ?_ (fun _ e => h1 (by subst e; exact ⟨rfl, rfl, rfl, rfl, rfl⟩)) (fun h => by cases h)
      · unfold reS; simp only [Sl_cons, Sl_nil, T.get_set, T.puts_cons, T.puts_nil, Nat.reduceEqDiff, Nat.reduceAdd, if_true, if_false, and_true, true_and, g2, g3, g5, g6, g7]
      · simp only [T.get_set, Nat.reduceEqDiff, if_true, if_false]
    have t1 : decide (d.kind = d'.kind ∧ d.word = d'.word ∧ d.weight = d'.weight ∧ d.k = d'.k ∧ d.n = d'.n) = true := decide_eq_true h1
    by_cases h2 : d.arm = d'.arm
    rotate_left
    · apply W.run 20
      · intro M
        simp (config := { maxSteps := 4000000 }) (disch := first | decide +kernel | (rw [wantF_guard]; simp only [wantD_some, dstAt_zero, dstAt_succ, T.get_set, T.get_e, Nat.reduceEqDiff, if_true, if_false, wantV_bool, wantV_unit, unitV, cond_true, cond_false, Bool.not_true, Bool.not_false, List.toList_toArray]) | omega) only [c16b1, c16, Try.f16, Option.getD_some, sub_seq1, sub_seq0, sub_block, sub_loop, sub_nil, exec_region, runOps_cons, opF_fieldAddr, ev_tmp, g6, evG_some, putT_some, opF_load, T.get_set, if_true, Nat.reduceEqDiff, g7, if_false, opF_neqR, opF_move, R.ok_bind, fa81_0, c0, a0, neq35, t1, Bool.not_true, runOps_yes, opF_neq, und3, opF_pick, pickF, ev_bool, fa81_1, c1, a1, binF_int, op_neqI, ne_eq, h2, not_false_eq_true, decide_true, runOps_no, runOps_nil]
        with_reducible rfl
      refine hK _ true ?_ ?_ (fun _ e => h2 (by subst e; rfl)) (fun h => by cases h)
      · unfold reS; simp only [Sl_cons, Sl_nil, T.get_set, T.puts_cons, T.puts_nil, Nat.reduceEqDiff, Nat.reduceAdd, if_true, if_false, and_true, true_and, g2, g3, g5, g6, g7]
      · simp only [T.get_set, Nat.reduceEqDiff, if_true, if_false]
    by_cases h3 : d.cut = d'.cut
    rotate_left
    · have t3 : (d.cut != d'.cut) = true := bne_iff_ne.2 h3
      apply W.run 20
      · intro M
        simp (config := { maxSteps := 4000000 }) (disch := first | decide +kernel | (rw [wantF_guard]; simp only [wantD_some, dstAt_zero, dstAt_succ, T.get_set, T.get_e, Nat.reduceEqDiff, if_true, if_false, wantV_bool, wantV_unit, unitV, cond_true, cond_false, Bool.not_true, Bool.not_false, List.toList_toArray]) | omega) only [c16b1, c16, Try.f16, Option.getD_some, sub_seq1, sub_seq0, sub_block, sub_loop, sub_nil, exec_region, runOps_cons, opF_fieldAddr, ev_tmp, g6, evG_some, putT_some, opF_load, T.get_set, if_true, Nat.reduceEqDiff, g7, if_false, opF_neqR, opF_move, R.ok_bind, fa81_0, c0, a0, neq35, t1, Bool.not_true, runOps_yes, opF_neq, und3, opF_pick, pickF, ev_bool, fa81_1, c1, a1, h2, binF_int, op_neqI, ne_eq, not_true_eq_false, decide_false, und4, fa81_2, c2, a2, bool_neq, t3, runOps_no, runOps_nil]
        with_reducible rfl
      refine hK _ true ?_ ?_ (fun _ e => h3 (by subst e; rfl)) (fun h => by cases h)
      · unfold reS; simp only [Sl_cons, Sl_nil, T.get_set, T.puts_cons, T.puts_nil, Nat.reduceEqDiff, Nat.reduceAdd, if_true, if_false, and_true, true_and, g2, g3, g5, g6, g7]
      · simp only [T.get_set, Nat.reduceEqDiff, if_true, if_false]
    have t3 : (d.cut != d'.cut) = false := by rw [h3]; simp
    by_cases h4 : d.stays = d'.stays
    rotate_left
    · have t4 : decide (d.stays = d'.stays) = false := decide_eq_false h4
      apply W.runG (g) 20
      · intro M hM
        simp (config := { maxSteps := 4000000 }) (disch := first | decide +kernel | (rw [wantF_guard]; simp only [wantD_some, dstAt_zero, dstAt_succ, T.get_set, T.get_e, Nat.reduceEqDiff, if_true, if_false, wantV_bool, wantV_unit, unitV, cond_true, cond_false, Bool.not_true, Bool.not_false, List.toList_toArray]) | omega) only [c16b1, c16, Try.f16, Option.getD_some, sub_seq1, sub_seq0, sub_block, sub_loop, sub_nil, exec_region, runOps_cons, opF_fieldAddr, ev_tmp, g6, evG_some, putT_some, opF_load, T.get_set, if_true, Nat.reduceEqDiff, g7, if_false, opF_neqR, opF_move, R.ok_bind, fa81_0, c0, a0, neq35, t1, Bool.not_true, runOps_yes, opF_neq, und3, opF_pick, pickF, ev_bool, fa81_1, c1, a1, h2, binF_int, op_neqI, ne_eq, not_true_eq_false, decide_false, und4, fa81_2, c2, a2, bool_neq, t3, opF_call, evs, resK, opF_un, fa81_3, c3, a3, hg, t4, un_not, Bool.not_false, runOps_no, runOps_nil]
        with_reducible rfl
      refine hK _ true ?_ ?_ (fun _ e => h4 (by subst e; rfl)) (fun h => by cases h)
      · unfold reS; simp only [Sl_cons, Sl_nil, T.get_set, T.puts_cons, T.puts_nil, Nat.reduceEqDiff, Nat.reduceAdd, if_true, if_false, and_true, true_and, g2, g3, g5, g6, g7]
      · simp only [T.get_set, Nat.reduceEqDiff, if_true, if_false]
    have t4 : decide (d.stays = d'.stays) = true := decide_eq_true h4
    by_cases h5 : d.opening.length = d'.opening.length
    · apply W.runG (g) 20
      · intro M hM
        simp (config := { maxSteps := 4000000 }) (disch := first | decide +kernel | (rw [wantF_guard]; simp only [wantD_some, dstAt_zero, dstAt_succ, T.get_set, T.get_e, Nat.reduceEqDiff, if_true, if_false, wantV_bool, wantV_unit, unitV, cond_true, cond_false, Bool.not_true, Bool.not_false, List.toList_toArray]) | omega) only [c16b1, c16, Try.f16, Option.getD_some, sub_seq1, sub_seq0, sub_block, sub_loop, sub_nil, exec_region, runOps_cons, opF_fieldAddr, ev_tmp, g6, evG_some, putT_some, opF_load, T.get_set, if_true, Nat.reduceEqDiff, g7, if_false, opF_neqR, opF_move, R.ok_bind, fa81_0, c0, a0, neq35, t1, Bool.not_true, runOps_yes, opF_neq, und3, opF_pick, pickF, ev_bool, fa81_1, c1, a1, h2, binF_int, op_neqI, ne_eq, not_true_eq_false, decide_false, und4, fa81_2, c2, a2, bool_neq, t3, opF_call, evs, resK, opF_un, fa81_3, c3, a3, hg, t4, un_not, opF_len, runOps_nil, fa81_4, c4, ly, a4, lx, h5]
        with_reducible rfl
      refine hK _ false ?_ ?_ (fun h => by cases h) (fun _ => ⟨h1, h2, h3, h4, h5⟩)
      · unfold reS; simp only [Sl_cons, Sl_nil, T.get_set, T.puts_cons, T.puts_nil, Nat.reduceEqDiff, Nat.reduceAdd, if_true, if_false, and_true, true_and, g2, g3, g5, g6, g7]
      · simp only [T.get_set, Nat.reduceEqDiff, if_true, if_false]
    · apply W.runG (g) 20
      · intro M hM
        simp (config := { maxSteps := 4000000 }) (disch := first | decide +kernel | (rw [wantF_guard]; simp only [wantD_some, dstAt_zero, dstAt_succ, T.get_set, T.get_e, Nat.reduceEqDiff, if_true, if_false, wantV_bool, wantV_unit, unitV, cond_true, cond_false, Bool.not_true, Bool.not_false, List.toList_toArray]) | omega) only [c16b1, c16, Try.f16, Option.getD_some, sub_seq1, sub_seq0, sub_block, sub_loop, sub_nil, exec_region, runOps_cons, opF_fieldAddr, ev_tmp, g6, evG_some, putT_some, opF_load, T.get_set, if_true, Nat.reduceEqDiff, g7, if_false, opF_neqR, opF_move, R.ok_bind, fa81_0, c0, a0, neq35, t1, Bool.not_true, runOps_yes, opF_neq, und3, opF_pick, pickF, ev_bool, fa81_1, c1, a1, h2, binF_int, op_neqI, ne_eq, not_true_eq_false, decide_false, und4, fa81_2, c2, a2, bool_neq, t3, opF_call, evs, resK, opF_un, fa81_3, c3, a3, hg, t4, un_not, opF_len, runOps_nil, fa81_4, c4, ly, a4, lx, Int.natCast_inj, h5, not_false_eq_true, decide_true]
        with_reducible rfl
      refine hK _ true ?_ ?_ (fun _ e => h5 (by subst e; rfl)) (fun h => by cases h)
      · unfold reS; simp only [Sl_cons, Sl_nil, T.get_set, T.puts_cons, T.puts_nil, Nat.reduceEqDiff, Nat.reduceAdd, if_true, if_false, and_true, true_and, g2, g3, g5, g6, g7]
      · simp only [T.get_set, Nat.reduceEqDiff, if_true, if_false]
  apply W.seq
  apply W.seq
  refine first ?_
  intro t' v hp' h82 hv1 hv2
  show W tb1 _ _ _
  cases v with
  | true =>
    refine W.cond (p := true) (by simp only [ev_tmp, h82, evG_some]) (fun _ => ?_) (fun h => by cases h)
    apply W.run 20
    · intro M
      simp (config := { maxSteps := 4000000 }) (disch := first | decide +kernel | omega) only [c16b1, c16, Try.f16, Option.getD_some, sub_seq1, sub_seq0, sub_block, sub_loop, sub_nil, sub_cond0, exec_seq, exec_region, runOps_cons, opF_assign, ev_bool, putT_some, runOps_nil, R.ok_bind, exec_ret]
      with_reducible rfl
    refine hK2 (hv1 rfl) _ ?_
    simp only [T.get_set, if_true]
  | false =>
    obtain ⟨h1, h2, h3, h4, h5⟩ := hv2 rfl
    obtain ⟨q2, q3, q5, q6, q7, -⟩ := hp'
    refine W.cond (p := false) (by simp only [ev_tmp, h82, evG_some]) (fun h => by cases h) (fun _ => ?_)
    apply W.run 20
    · intro M
      simp (config := { maxSteps := 4000000 }) (disch := first | decide +kernel | omega) only [exec_skip]
      with_reducible rfl
    show W tb1 _ _ _
    apply W.seq
    apply W.run 20
    · intro M
      simp (config := { maxSteps := 4000000 }) (disch := first | decide +kernel | omega) only [c16b1, c16, Try.f16, Option.getD_some, sub_seq1, sub_seq0, sub_block, sub_loop, sub_nil, exec_region, runOps_cons, opF_assign, ev_int, putT_some, runOps_nil, R.ok_bind]
      with_reducible rfl
    refine req_ops (b2 := b2) (b3 := b3) (i := i) h6 h7 k4 k4' h5 ?_ (fun e => hK1 (ActG.all_inj.1 ⟨h1.1, h1.2.1, h1.2.2.1, h1.2.2.2.1, h1.2.2.2.2, h2, h3, h4, e⟩)) (fun e => hK2 (fun h => e (by rw [h])))
    unfold reS; simp only [Sl_cons, Sl_nil, T.get_set, T.puts_cons, T.puts_nil, Nat.reduceEqDiff, Nat.reduceAdd, if_true, if_false, and_true, true_and, List.cons_append, List.nil_append, q2, q3, q5, q6, q7]
end
set_option maxHeartbeats 16000000 in
theorem run_rsame {P P' : Nat → Prop} {A : Mem} {s s' : SetG} {l l' : List Value} (h : SetP P A s l) (h' : SetP P' A s' l') : ∃ A', Ans tb1 16 [.agg ⟨l⟩, .agg ⟨l'⟩] A (.bool (decide (s = s'))) A' ∧ Ext A A' := by
  obtain ⟨xa, rfl, ka⟩ := h
  obtain ⟨ya, rfl, kb⟩ := h'
  obtain ⟨v, A', ha, rfl, he⟩ : ∃ v A', Ans tb1 16 [.agg ⟨cellsS s xa⟩, .agg ⟨cellsS s' ya⟩] A v A' ∧ v = .bool (decide (s = s')) ∧ Ext A A' := by
    refine ans_of_W (fn_at Try.func16) c16_eq (by rw [Try.ntmps16]; simp) (by kernel_rfl) (by kernel_rfl) ?_
    have hn1 : ((A.alloc (rowOb 48 (cellsS s xa))).alloc (rowOb 48 (cellsS s' ya))).next = A.next + 2 := by simp only [next_alloc]
    have hv0 : Vals ((A.alloc (rowOb 48 (cellsS s xa))).alloc (rowOb 48 (cellsS s' ya))) 48 A.next (.var 4) (cellsS s xa) := (Go.Am.vals_new A 48 _).same (get_alloc_ne (by rw [next_alloc]; omega))
    have hv1 : Vals ((A.alloc (rowOb 48 (cellsS s xa))).alloc (rowOb 48 (cellsS s' ya))) 48 (A.next + 1) (.var 4) (cellsS s' ya) := Go.Am.vals_new (A.alloc _) 48 _
    have hE1 : Ext A ((A.alloc (rowOb 48 (cellsS s xa))).alloc (rowOb 48 (cellsS s' ya))) := (Ext.alloc A _).trans (Ext.alloc _ _)
    apply W.seq
    apply W.run 20
    · intro M
      simp (config := { maxSteps := 4000000 }) (disch := first | decide +kernel | omega) only [c16, Try.f16, Option.getD_some, sub_seq0, sub_nil, T.puts_cons, Nat.reduceAdd, T.puts_nil, exec_region, runOps_cons, opF_box, ev_tmp, T.get_set, Nat.reduceEqDiff, T.get_e, if_true, if_false, evG_some, at_ptr, putT_some, next_alloc, opF_assign, ev_bool, runOps_nil, R.ok_bind, cells_agg]
      with_reducible rfl
    generalize ((A.alloc (rowOb 48 (cellsS s xa))).alloc (rowOb 48 (cellsS s' ya))) = B at hn1 hv0 hv1 hE1
    obtain ⟨d25, hd1, hd2⟩ := und25
    have a0 := load_part (tb := tb1) (t := 25) (o := 0) (n := 2) hd1 hd2 size25 hv0 (by show 2 ≤ 4; omega)
    rw [show ((cellsS s xa).drop 0).take 2 = [.int .i64 s.wal, .int .i64 s.fan] from rfl] at a0
    have c0 := load_part (tb := tb1) (t := 25) (o := 0) (n := 2) hd1 hd2 size25 hv1 (by show 2 ≤ 4; omega)
    rw [show ((cellsS s' ya).drop 0).take 2 = [.int .i64 s'.wal, .int .i64 s'.fan] from rfl] at c0
    have a1 := load_vals (tb := tb1) (t := 3) und3 rfl hv0 (show (cellsS s xa)[2]? = _ from rfl)
    have c1 := load_vals (tb := tb1) (t := 3) und3 rfl hv1 (show (cellsS s' ya)[2]? = _ from rfl)
    have lla : ∀ {C : Mem}, Ext B C → loadF tb1 C.get 46 (.pointer (some ⟨A.next, 3, none⟩)) = .ok xa := fun e => load_vals (tb := tb1) (t := 46) und46 rfl (hv0.same (e.g _ (by omega))) (show (cellsS s xa)[3]? = _ from rfl)
    have llb : ∀ {C : Mem}, Ext B C → loadF tb1 C.get 46 (.pointer (some ⟨A.next + 1, 3, none⟩)) = .ok ya := fun e => load_vals (tb := tb1) (t := 46) und46 rfl (hv1.same (e.g _ (by omega))) (show (cellsS s' ya)[3]? = _ from rfl)
    have a2 := lla (Ext.refl B)
    have c2 := llb (Ext.refl B)
    have lx := ka.len
    have ly := kb.len
    have kaB := ka.same hE1.n (fun c hc hl => ⟨hc, hE1.g c hl⟩)
    have kbB := kb.same hE1.n (fun c hc hl => ⟨hc, hE1.g c hl⟩)
    apply W.seq
    apply W.seq
    by_cases h1 : s.wal = s'.wal ∧ s.fan = s'.fan
    rotate_left
    · have t1 : decide (s.wal = s'.wal ∧ s.fan = s'.fan) = false := decide_eq_false h1
      apply W.run 20
      · intro M
        simp (config := { maxSteps := 4000000 }) (disch := first | decide +kernel | (rw [wantF_guard]; simp only [wantD_some, dstAt_zero, dstAt_succ, T.get_set, T.get_e, Nat.reduceEqDiff, if_true, if_false, wantV_bool, wantV_unit, unitV, cond_true, cond_false, Bool.not_true, Bool.not_false, List.toList_toArray]) | omega) only [c16, Try.f16, Option.getD_some, sub_seq1, sub_seq0, sub_nil, exec_region, runOps_cons, opF_fieldAddr, ev_tmp, T.get_set, Nat.reduceEqDiff, T.get_e, if_false, if_true, evG_some, putT_some, opF_load, opF_neqR, opF_move, R.ok_bind, fa48_0, c0, a0, neq25, t1, Bool.not_false, runOps_no, opF_pick, pickF, ev_bool, runOps_nil]
        with_reducible rfl
      refine W.cond (p := true) (by simp only [ev_tmp, T.get_set, if_true, evG_some]) (fun _ => ?_) (fun h => by cases h)
      apply W.run 20
      · intro M
        simp (config := { maxSteps := 4000000 }) (disch := first | decide +kernel | omega) only [c16, Try.f16, Option.getD_some, sub_seq1, sub_seq0, sub_cond0, sub_nil, exec_seq, exec_region, runOps_cons, opF_assign, ev_bool, putT_some, runOps_nil, R.ok_bind, exec_ret]
        with_reducible rfl
      refine ⟨.inr rfl, _, [.bool false], rfl, ?_, ?_, hE1⟩
      · simp only [Try.f16, resF, ev_tmp, T.get_set, Nat.reduceEqDiff, if_true, if_false, evG_some, R.ok_bind]
      · show Value.bool _ = _
        rw [decide_eq_false (fun h => h1 (by subst h; exact ⟨rfl, rfl⟩))]
    have t1 : decide (s.wal = s'.wal ∧ s.fan = s'.fan) = true := decide_eq_true h1
    by_cases h2 : s.quota = s'.quota
    rotate_left
    · apply W.run 20
      · intro M
        simp (config := { maxSteps := 4000000 }) (disch := first | decide +kernel | (rw [wantF_guard]; simp only [wantD_some, dstAt_zero, dstAt_succ, T.get_set, T.get_e, Nat.reduceEqDiff, if_true, if_false, wantV_bool, wantV_unit, unitV, cond_true, cond_false, Bool.not_true, Bool.not_false, List.toList_toArray]) | omega) only [c16, Try.f16, Option.getD_some, sub_seq1, sub_seq0, sub_nil, exec_region, runOps_cons, opF_fieldAddr, ev_tmp, T.get_set, Nat.reduceEqDiff, T.get_e, if_false, if_true, evG_some, putT_some, opF_load, opF_neqR, opF_move, R.ok_bind, fa48_0, c0, a0, neq25, t1, Bool.not_true, runOps_yes, opF_neq, und3, opF_pick, pickF, ev_bool, fa48_1, c1, a1, binF_int, op_neqI, ne_eq, h2, not_false_eq_true, decide_true, runOps_no, runOps_nil]
        with_reducible rfl
      refine W.cond (p := true) (by simp only [ev_tmp, T.get_set, if_true, evG_some]) (fun _ => ?_) (fun h => by cases h)
      apply W.run 20
      · intro M
        simp (config := { maxSteps := 4000000 }) (disch := first | decide +kernel | omega) only [c16, Try.f16, Option.getD_some, sub_seq1, sub_seq0, sub_cond0, sub_nil, exec_seq, exec_region, runOps_cons, opF_assign, ev_bool, putT_some, runOps_nil, R.ok_bind, exec_ret]
        with_reducible rfl
      refine ⟨.inr rfl, _, [.bool false], rfl, ?_, ?_, hE1⟩
      · simp only [Try.f16, resF, ev_tmp, T.get_set, Nat.reduceEqDiff, if_true, if_false, evG_some, R.ok_bind]
      · show Value.bool _ = _
        rw [decide_eq_false (fun h => h2 (by subst h; rfl))]
    by_cases h3 : s.acts.length = s'.acts.length
    rotate_left
    · apply W.run 20
      · intro M
        simp (config := { maxSteps := 4000000 }) (disch := first | decide +kernel | (rw [wantF_guard]; simp only [wantD_some, dstAt_zero, dstAt_succ, T.get_set, T.get_e, Nat.reduceEqDiff, if_true, if_false, wantV_bool, wantV_unit, unitV, cond_true, cond_false, Bool.not_true, Bool.not_false, List.toList_toArray]) | omega) only [c16, Try.f16, Option.getD_some, sub_seq1, sub_seq0, sub_nil, exec_region, runOps_cons, opF_fieldAddr, ev_tmp, T.get_set, Nat.reduceEqDiff, T.get_e, if_false, if_true, evG_some, putT_some, opF_load, opF_neqR, opF_move, R.ok_bind, fa48_0, c0, a0, neq25, t1, Bool.not_true, runOps_yes, opF_neq, und3, opF_pick, pickF, ev_bool, fa48_1, c1, a1, h2, binF_int, op_neqI, ne_eq, not_true_eq_false, decide_false, opF_len, evs, runOps_nil, fa48_2, c2, ly, a2, lx, Int.natCast_inj, h3, not_false_eq_true, decide_true]
        with_reducible rfl
      refine W.cond (p := true) (by simp only [ev_tmp, T.get_set, if_true, evG_some]) (fun _ => ?_) (fun h => by cases h)
      apply W.run 20
      · intro M
        simp (config := { maxSteps := 4000000 }) (disch := first | decide +kernel | omega) only [c16, Try.f16, Option.getD_some, sub_seq1, sub_seq0, sub_cond0, sub_nil, exec_seq, exec_region, runOps_cons, opF_assign, ev_bool, putT_some, runOps_nil, R.ok_bind, exec_ret]
        with_reducible rfl
      refine ⟨.inr rfl, _, [.bool false], rfl, ?_, ?_, hE1⟩
      · simp only [Try.f16, resF, ev_tmp, T.get_set, Nat.reduceEqDiff, if_true, if_false, evG_some, R.ok_bind]
      · show Value.bool _ = _
        rw [decide_eq_false (fun h => h3 (by subst h; rfl))]
    apply W.run 20
    · intro M
      simp (config := { maxSteps := 4000000 }) (disch := first | decide +kernel | (rw [wantF_guard]; simp only [wantD_some, dstAt_zero, dstAt_succ, T.get_set, T.get_e, Nat.reduceEqDiff, if_true, if_false, wantV_bool, wantV_unit, unitV, cond_true, cond_false, Bool.not_true, Bool.not_false, List.toList_toArray]) | omega) only [c16, Try.f16, Option.getD_some, sub_seq1, sub_seq0, sub_nil, exec_region, runOps_cons, opF_fieldAddr, ev_tmp, T.get_set, Nat.reduceEqDiff, T.get_e, if_false, if_true, evG_some, putT_some, opF_load, opF_neqR, opF_move, R.ok_bind, fa48_0, c0, a0, neq25, t1, Bool.not_true, runOps_yes, opF_neq, und3, opF_pick, pickF, ev_bool, fa48_1, c1, a1, h2, binF_int, op_neqI, ne_eq, not_true_eq_false, decide_false, opF_len, evs, runOps_nil, fa48_2, c2, ly, a2, lx, h3]
      with_reducible rfl
    refine W.cond (p := false) (by simp only [ev_tmp, T.get_set, if_true, evG_some]) (fun h => by cases h) (fun _ => ?_)
    apply W.run 20
    · intro M
      simp (config := { maxSteps := 4000000 }) (disch := first | decide +kernel | omega) only [exec_skip]
      with_reducible rfl
    show W tb1 _ _ _
    apply W.seq
    apply W.seq
    apply W.run 20
    · intro M
      simp (config := { maxSteps := 4000000 }) (disch := first | decide +kernel | omega) only [c16, Try.f16, Option.getD_some, sub_seq1, sub_seq0, sub_nil, exec_region, runOps_cons, opF_assign, ev_int, putT_some, runOps_nil, R.ok_bind]
      with_reducible rfl
    apply W.block
    have hbd : s.acts.length ≤ 1000 := by obtain ⟨b, _, h, _⟩ := ka; exact h
    refine W.up s.acts.length (fun i t C => Ext B C ∧ s.acts.take i = s'.acts.take i ∧ Sl t [(2, .pointer (some ⟨A.next, 0, none⟩)), (3, .pointer (some ⟨A.next + 1, 0, none⟩)), (5, .int .i64 (i : Int))]) ?_ (Nat.zero_le _) ⟨Ext.refl B, by simp, ?_⟩
    · rintro i t C hi ⟨hE, he, g2, g3, g5, -⟩
      have hEn := hE.n
      have la := lla hE
      have lb := llb hE
      have kaC := kaB.same hE.n (fun c hc hl => ⟨hc, hE.g c hl⟩)
      have kbC := kbB.same hE.n (fun c hc hl => ⟨hc, hE.g c hl⟩)
      rw [c16b1_eq]
      apply W.seq
      by_cases hlt : i < s.acts.length
      · have hlt' : i < s'.acts.length := by omega
        obtain ⟨p1, o1, L, i1, l1, m1⟩ := kaC.at hlt
        have cL := ActP.cells _ _ _ _ m1
        have v0 : Vals ((C.alloc (rowOb 81 zero9)).alloc (rowOb 81 zero9)) 81 C.next (.var 9) zero9 := (Go.Am.vals_new C 81 _).same (get_alloc_ne (by rw [next_alloc]; omega))
        have v1 : Vals ((C.alloc (rowOb 81 zero9)).alloc (rowOb 81 zero9)) 81 (C.next + 1) (.var 9) zero9 := Go.Am.vals_new (C.alloc _) 81 _
        have e0 : Ext C ((C.alloc (rowOb 81 zero9)).alloc (rowOb 81 zero9)) := (Ext.alloc C _).trans (Ext.alloc _ _)
        have n0 : ((C.alloc (rowOb 81 zero9)).alloc (rowOb 81 zero9)).next = C.next + 1 + 1 := by simp only [next_alloc]
        obtain ⟨D, st1, v2, n2, f2⟩ := store_all (tb := tb1) (t := 81) (l' := L) (by rw [size81]; rfl) v0 (by rw [cL.1]; rfl) (by simp [zero9]) cL.2
        have e1 : Ext C D := e0.put (b := C.next) (Nat.le_refl _) n2 f2
        obtain ⟨p2, o2, L', i2, l2, m2⟩ := kbC.at hlt'
        have cL' := ActP.cells _ _ _ _ m2
        obtain ⟨p2', o2', L2, i2', l2', m2'⟩ := (kbC.same e1.n (fun c hc hl => ⟨hc, e1.g c hl⟩)).at hlt'
        have ep := i2.symm.trans i2'
        cases ep
        have eL : L2 = L' := by
          -- the row's block did not change
          obtain ⟨bB, hb1, hb2, ls, hb3, hb4, hb5⟩ := kbC
          have hli : i < ls.length := by omega
          obtain ⟨d81, hq1, hq2⟩ := und81
          have x1 := hb3.load_all (t := 81) (i := i) hq1 hq2 size81 (List.getElem?_eq_getElem hli)
          have x2 := (hb3.same e1.n (fun hl => e1.g _ hl)).load_all (t := 81) (i := i) hq1 hq2 size81 (List.getElem?_eq_getElem hli)
          have x3 := hb3.idx (tb := tb1) (t := 46) (t' := 81) (kd := .i64) (i := i) und46 size81 hli
          have x4 := i2.symm.trans x3
          cases x4
          have y1 := l2.symm.trans x1
          have y2 := l2'.symm.trans x2
          cases y1
          cases y2
          rfl
        subst eL
        obtain ⟨F, st2, v3, n3, f3⟩ := store_all (tb := tb1) (t := 81) (l' := L2) (by rw [size81]; rfl) (v1.same (f2 _ (by omega))) (by rw [cL'.1]; rfl) (by simp [zero9]) cL'.2
        have e2 : Ext C F := e1.put (b := C.next + 1) (by omega) n3 f3
        have v2F : Vals F 81 C.next (.var 9) L := v2.same (f3 _ (by omega))
        have lb2 := llb (hE.trans e1)
        have hself := kb.self 99
        have hself2 := m2.self
        apply W.run 20
        · intro M
          simp (config := { maxSteps := 4000000 }) (disch := first | decide +kernel | omega) only [c16b1, c16, Try.f16, Option.getD_some, sub_seq1, sub_seq0, sub_block, sub_loop, sub_nil, exec_seq, exec_region, runOps_cons, opF_move, ev_tmp, g5, evG_some, putT_some, opF_fieldAddr, T.get_set, Nat.reduceEqDiff, g2, if_false, opF_load, if_true, opF_len, evs, R.ok_bind, opF_ari, runOps_nil, fa48_2, la, lx, binF_int, op_lssI, cast_lt, hlt, decide_true, exec_cond, exec_skip, exec_exit]
          with_reducible rfl
        apply W.seq
        apply W.block
        apply W.seq
        have st1' : storeF tb1 ((C.alloc (rowOb 81 [.int .i64 0, .string ⟨#[]⟩, .int .u32 0, .int .i64 0, .int .i64 0, .int .i64 0, .bool false, .slice none 0 0, .slice none 0 0])).alloc (rowOb 81 [.int .i64 0, .string ⟨#[]⟩, .int .u32 0, .int .i64 0, .int .i64 0, .int .i64 0, .bool false, .slice none 0 0, .slice none 0 0])) 81 (.pointer (some ⟨C.next, 0, none⟩)) (.agg ⟨L⟩) = .ok D := st1
        apply W.run 20
        · intro M
          simp (config := { maxSteps := 4000000 }) (disch := first | decide +kernel | omega) only [c16b1, c16, Try.f16, Option.getD_some, sub_seq1, sub_seq0, sub_block, sub_loop, sub_nil, exec_float [(6, 12), (9, 12)], runD_P, Nat.reduceAdd, opF_fieldAddr, ev_tmp, T.get_set, Nat.reduceEqDiff, g2, if_false, evG_some, putT_some, runD_Rd, rOp_load, if_true, R.ok_bind, selF_nil, rereadM_nil, opF_move, g5, opF_indexAddr, g3, runD_Al, opF_alloc, zero81, at_ptr, next_alloc, runD_L, selF_no, List.map_nil, hide_nil, backF_nil, selR_yes, selR_no, selR_nil, rereadR_cons, reread_load, rereadR_nil, Bool.and_true, runD_end, cond_true, opF_store, putT_none, cells_agg, fa48_2, lb, i2, l2, la, i1, l1, st1', l2', rereadV_eq, hself2, lb2, hself, Bool.and_self, st2]
          with_reducible rfl
        refine req_act (b2 := A.next) (b3 := A.next + 1) (i := i) v2F v3 (ActP.mono _ _ _ _ _ _ m1 e2.n (fun c hc hl => ⟨hc, e2.g c hl⟩)) (ActP.mono _ _ _ _ _ _ m2 e2.n (fun c hc hl => ⟨hc, e2.g c hl⟩)) ?_ ?_ ?_
        · unfold reS; simp only [Sl_cons, Sl_nil, T.get_set, T.puts_cons, T.puts_nil, Nat.reduceEqDiff, Nat.reduceAdd, if_true, if_false, and_true, true_and, g2, g3, g5]
        · rintro hv t' ⟨q2, q3, q5, q6, q7, -⟩
          show W tb1 _ _ _
          apply W.run 20
          · intro M
            simp (config := { maxSteps := 4000000 }) (disch := first | decide +kernel | omega) only [c16b1, c16, Try.f16, Option.getD_some, sub_seq1, sub_seq0, sub_block, sub_loop, sub_nil, exec_region, runOps_cons, opF_move, ev_tmp, q5, evG_some, putT_some, opF_ari, T.get_set, if_true, ev_int, opF_assign, Nat.reduceEqDiff, if_false, runOps_nil, R.ok_bind, binF_int, op_add_i64]
            with_reducible rfl
          refine ⟨hlt, _, _, rfl, hE.trans e2, ?_, ?_⟩
          · rw [List.take_succ_eq_append_getElem hlt, List.take_succ_eq_append_getElem hlt', he, hv]
          · simp only [Sl_cons, Sl_nil, T.get_set, T.puts_cons, T.puts_nil, Nat.reduceEqDiff, Nat.reduceAdd, if_true, if_false, and_true, true_and, q2, q3]
        · intro hv t' q4
          refine ⟨.inr rfl, _, [.bool false], rfl, ?_, ?_, (hE1.trans hE).trans e2⟩
          · simp only [Try.f16, resF, ev_tmp, q4, evG_some, R.ok_bind]
          · have : s ≠ s' := fun h => hv (by subst h; rfl)
            show Value.bool false = _
            rw [decide_eq_false this]
      · have hin : i = s.acts.length := by omega
        subst hin
        apply W.run 20
        · intro M
          simp (config := { maxSteps := 4000000 }) (disch := first | decide +kernel | omega) only [c16b1, c16, Try.f16, Option.getD_some, sub_seq1, sub_seq0, sub_block, sub_loop, sub_nil, exec_seq, exec_region, runOps_cons, opF_move, ev_tmp, g5, evG_some, putT_some, opF_fieldAddr, T.get_set, Nat.reduceEqDiff, g2, if_false, opF_load, if_true, opF_len, evs, R.ok_bind, opF_ari, runOps_nil, fa48_2, la, lx, binF_int, op_lssI, cast_lt, Nat.lt_irrefl, decide_false, exec_cond, exec_skip, exec_exit]
          with_reducible rfl
        show W tb1 _ _ _
        apply W.seq
        apply W.run 20
        · intro M
          simp (config := { maxSteps := 4000000 }) (disch := first | decide +kernel | omega) only [c16, Try.f16, Option.getD_some, sub_seq1, sub_seq0, sub_nil, exec_region, runOps_cons, opF_assign, ev_bool, putT_some, runOps_nil, R.ok_bind]
          with_reducible rfl
        apply W.run 20
        · intro M
          simp (config := { maxSteps := 4000000 }) (disch := first | decide +kernel | omega) only [c16, Try.f16, Option.getD_some, sub_seq1, sub_nil, exec_ret]
          with_reducible rfl
        refine ⟨.inr rfl, _, [.bool true], rfl, ?_, ?_, hE1.trans hE⟩
        · simp only [Try.f16, resF, ev_tmp, T.get_set, Nat.reduceEqDiff, if_true, if_false, evG_some, R.ok_bind]
        · rw [List.take_length, h3, List.take_length] at he
          show Value.bool true = _
          rw [decide_eq_true (SetG.all_inj.1 ⟨h1, h2, he⟩)]
    · simp only [Sl_cons, Sl_nil, T.get_set, T.puts_cons, T.puts_nil, Nat.reduceEqDiff, Nat.reduceAdd, if_true, if_false, and_true, true_and]
  exact ⟨A', ha, he⟩
end Go.Proofs.Ytmhldlnlgjpkaaa.scr

/-
  Script: the document's bytes that grow; its numbers, laid.
-/
namespace Go.Proofs.Ytmhldlnlgjpkaaa.scr
open Go.Am
set_option linter.unusedSimpArgs false
set_option linter.unusedVariables false
set_option linter.unusedVariables false
set_option maxRecDepth 20000

/-- Bytes that are this call's own. -/
def Own (A : Mem) (l : List UInt8) (x : Value) (C : Mem) : Prop := Ext A C ∧ ∃ b, A.next ≤ b ∧ Slc C 5 b (byts l) x
theorem Own.ext {A C D : Mem} {l : List UInt8} {x : Value} (h : Own A l x C) (e : Ext C D) : Own A l x D := by
  obtain ⟨h1, b, h2, h3⟩ := h
  exact ⟨h1.trans e, b, h2, h3.same e.n (fun hl => e.g _ hl)⟩
theorem Own.nil (A : Mem) : Own A [] (.slice none 0 0) A := ⟨Ext.refl A, A.next, Nat.le_refl _, nil_slc _ _ _⟩
theorem Own.down {A B C : Mem} {l : List UInt8} {x : Value} (h : Own B l x C) (e : Ext A B) : Own A l x C := by
  obtain ⟨h1, b, h2, h3⟩ := h
  exact ⟨e.trans h1, b, Nat.le_trans e.n h2, h3⟩
theorem Own.cells {A C : Mem} {l : List UInt8} {x : Value} (h : Own A l x C) : x.cells.toList = [x] ∧ oneCell x = true := by
  obtain ⟨h1, b, h2, h3⟩ := h
  exact ⟨h3.cells, h3.one⟩
theorem Own.new {A C : Mem} (e : Ext A C) {l : List UInt8} {n c : Nat} (hn : l.length = n) (hc : c = 2 * n) : Own A l (.slice (some ⟨C.next, 0, none⟩) n c) (C.alloc (rowOb 5 (byts l))) := by
  subst hn hc
  refine ⟨e.trans (Ext.alloc _ _), C.next, e.n, .inr ⟨_, _, by rw [byts_len], by rw [next_alloc]; omega, Go.Am.vals_new C 5 _, .inl (by rw [byts_len])⟩⟩
theorem byts_ofNat {v : Nat} (h : v < 256) : byts [UInt8.ofNat v] = [.int .u8 (v : Int)] := by
  simp only [byts, List.map_cons, List.map_nil, u8_nat h]
theorem Own.push {A C : Mem} {l : List UInt8} {x : Value} (h : Own A l x C) (hl : l.length < 16777216) {v : Nat} (hv : v < 256) :
    ∃ x' C', appendF tb1 (C.alloc (rowOb 5 [.int .u8 (v : Int)])) 22 22 x (.slice (some ⟨C.next, 0, none⟩) 1 2) = .ok (x', C') ∧ Own A (l ++ [UInt8.ofNat v]) x' C' := by
  obtain ⟨h1, b, h2, h3⟩ := h
  obtain ⟨i, hi, hib⟩ := ty5
  have e1 := Ext.alloc C (rowOb 5 [.int .u8 (v : Int)])
  obtain ⟨x', C', k1, k2, k3, k4⟩ := (h3.same e1.n (fun hl2 => e1.g b hl2)).append (tb := tb1) (st := 22) (xt := 22) und22 und22 zc5 hi (by omega) (by omega) (by rw [byts_len]; exact hl) (get_alloc_self C _) rfl
  have hAC := h1.n
  have hn := next_alloc C (rowOb 5 [.int .u8 (v : Int)])
  refine ⟨x', C', k1, ⟨by omega, fun y hy => ?_⟩, (C.alloc (rowOb 5 [.int .u8 (v : Int)])).next, by omega, ?_⟩
  · rw [k4 y (by omega) (by omega), e1.g y (by omega), h1.g y hy]
  · rw [byts_app, byts_ofNat hv]; exact k2
/-- Bytes that another wrote are laid behind it. -/
theorem Own.app {A C : Mem} {l m : List UInt8} {x y : Value} {q : Nat} (h : Own A l x C) (hy : RdS q C m y) (hl : l.length + m.length ≤ 16777216) :
    ∃ x' C', appendF tb1 C 22 22 x y = .ok (x', C') ∧ Own A (l ++ m) x' C' := by
  obtain ⟨h1, b, h2, h3⟩ := h
  obtain ⟨x', C', b', k1, k2, k3, k4, k5⟩ := app_byts h3 hy hl
  have hAC := h1.n
  refine ⟨x', C', k1, ⟨by omega, fun z hz => ?_⟩, b', by rcases k4 with rfl | k4 <;> omega, k2⟩
  rw [k5 z (fun e => by omega) (by omega), h1.g z hz]
theorem Own.rd {A C : Mem} {l : List UInt8} {x : Value} (h : Own A l x C) (hA : 0 < A.next) : ∃ q, RdS q C l x := by
  obtain ⟨h1, b, h2, h3⟩ := h
  obtain ⟨q, hq, -⟩ := RdS.of_slc h3 (by have := h1.n; omega)
  exact ⟨q, hq⟩

def numOk (v : Nat) : Bool := decide (v < 250) || decide (v = 60000)
def layOk (l : List Nat) : Bool := l.all numOk
theorem take_all {α : Type} {p : α → Bool} {l : List α} {i : Nat} (h : i < l.length) : (l.take (i + 1)).all p = ((l.take i).all p && p l[i]) := by
  rw [List.take_succ_eq_append_getElem h, List.all_append]; simp
theorem not_all {α : Type} {p : α → Bool} {l : List α} {i : Nat} (h : i < l.length) (hp : p l[i] = false) : l.all p = false := by
  rw [← Bool.not_eq_true, List.all_eq_true]
  intro hall
  rw [hall _ (List.getElem_mem h)] at hp
  cases hp
theorem encNs_len (l : List Nat) : (encNs l).length = l.length := by simp [encNs]
noncomputable def c56 : Code := Try.f56.body.getD .skip
noncomputable def c56b1 : Code := sub c56 [1,1,0,1,0,0]
theorem c56_eq : Try.f56.body = some (.seq (sub c56 [0]) (.seq (sub c56 [1,0]) (.seq (.seq (sub c56 [1,1,0,0]) (.block 0 (.loop c56b1))) (.seq (sub c56 [1,1,1,0]) (sub c56 [1,1,1,1]))))) := by kernel_rfl
set_option maxHeartbeats 4000000 in
theorem run_rlay {P : Nat → Prop} {A : Mem} {l : List Nat} {x : Value} (hx : StR P A l x) (hbd : l.length ≤ 1000) :
    ∃ y A', Ans tb1 56 [x] A (.tuple ⟨[y, .bool (layOk l)]⟩) A' ∧ Ext A A' ∧ (layOk l = true → Own A (encNs l) y A') := by
  obtain ⟨v, A', ha, y, hv, h1, h2⟩ : ∃ v A', Ans tb1 56 [x] A v A' ∧ ∃ y, v = .tuple ⟨[y, .bool (layOk l)]⟩ ∧ Ext A A' ∧ (layOk l = true → Own A (encNs l) y A') := by
    refine ans_of_W (fn_at Try.func56) c56_eq (by rw [Try.ntmps56]; simp) (by kernel_rfl) (by kernel_rfl) ?_
    have lx := hx.len
    apply W.seq
    apply W.run 20
    · intro M
      simp (config := { maxSteps := 4000000 }) (disch := first | decide +kernel | omega) only [c56, Try.f56, Option.getD_some, sub_seq0, sub_nil, T.puts_cons, Nat.reduceAdd, T.puts_nil, exec_region, runOps_cons, opF_assign, ev_nilslice, putT_some, ev_bool, runOps_nil, R.ok_bind]
      with_reducible rfl
    apply W.seq
    apply W.run 20
    · intro M
      simp (config := { maxSteps := 4000000 }) (disch := first | decide +kernel | omega) only [c56, Try.f56, Option.getD_some, sub_seq1, sub_seq0, sub_nil, exec_region, runOps_cons, opF_assign, ev_nilslice, putT_some, runOps_nil, R.ok_bind]
      with_reducible rfl
    apply W.seq
    apply W.seq
    apply W.run 20
    · intro M
      simp (config := { maxSteps := 4000000 }) (disch := first | decide +kernel | omega) only [c56, Try.f56, Option.getD_some, sub_seq1, sub_seq0, sub_nil, exec_region, runOps_cons, opF_assign, ev_int, putT_some, runOps_nil, R.ok_bind]
      with_reducible rfl
    apply W.block
    refine W.up l.length (fun i t C => layOk (l.take i) = true ∧ ∃ y, Own A (encNs (l.take i)) y C ∧ Sl t [(0, x), (4, y), (5, .int .i64 (i : Int))]) ?_ (Nat.zero_le _) ⟨rfl, _, Own.nil A, ?_⟩
    · rintro i t C hi ⟨hok, y, hO, g0, g4, g5, -⟩
      by_cases hlt : i < l.length
      · obtain ⟨p, hp, hpl⟩ := (hx.ext hO.1).at hlt
        have e1 : l.getD i 0 = l[i] := by simp [List.getD, List.getElem?_eq_getElem hlt]
        rw [e1] at hpl
        have hen : encNs (l.take (i + 1)) = encNs (l.take i) ++ [UInt8.ofNat (encN l[i])] := by
          unfold encNs; rw [List.take_succ_eq_append_getElem hlt, List.map_append]; rfl
        have hok' : layOk (l.take (i + 1)) = numOk l[i] := by
          have := take_all (p := numOk) hlt
          unfold layOk at hok ⊢
          rw [this, hok, Bool.true_and]
        have hlen : (encNs (l.take i)).length < 16777216 := by rw [encNs_len, List.length_take]; omega
        have hcell := hO.cells
        by_cases h250 : l[i] < 250
        · have hN : encN l[i] = l[i] := by unfold encN; rw [if_neg (by omega)]
          have hmod : l[i] % 256 = l[i] := Nat.mod_eq_of_lt (by omega)
          obtain ⟨y', D, happ, hO'⟩ := hO.push hlen (v := l[i]) (by omega)
          apply W.run 20
          · intro M
            simp (config := { maxSteps := 4000000 }) (disch := first | decide +kernel | omega) only [c56b1, c56, Try.f56, Option.getD_some, sub_seq1, sub_seq0, sub_block, sub_loop, sub_nil, exec_seq, exec_region, runOps_cons, opF_move, ev_tmp, g5, evG_some, putT_some, T.get_set, Nat.reduceEqDiff, g0, if_false, opF_len, evs, if_true, R.ok_bind, opF_ari, runOps_nil, lx, binF_int, op_lssI, cast_lt, hlt, decide_true, exec_cond, exec_skip, exec_exit, exec_block, opF_assign, ev_nilslice, exec_ret, opF_indexAddr, opF_load, ev_int, und43, hp, hpl, h250, g4, opF_conv, convPF, und5, opF_buildSlice, evp, opF_builtin, builtin_append, wrapF_u8, hmod, bs22, at_slc, happ, opF_eql, op_eql, ev_bool, cond_val, op_add_i64]
            with_reducible rfl
          refine ⟨hlt, _, _, rfl, by rw [hok']; simp [numOk, h250], y', by rw [hen, hN]; exact hO', ?_⟩
          simp only [Sl_cons, Sl_nil, T.get_set, T.puts_cons, T.puts_nil, Nat.reduceEqDiff, Nat.reduceAdd, if_true, if_false, and_true, true_and, g0]
        · by_cases h6 : l[i] = 60000
          · have hN : encN l[i] = 250 := by unfold encN; rw [if_pos h6]
            obtain ⟨y', D, happ, hO'⟩ := hO.push hlen (v := 250) (by omega)
            apply W.run 20
            · intro M
              simp (config := { maxSteps := 4000000 }) (disch := first | decide +kernel | omega) only [c56b1, c56, Try.f56, Option.getD_some, sub_seq1, sub_seq0, sub_block, sub_loop, sub_nil, exec_seq, exec_region, runOps_cons, opF_move, ev_tmp, g5, evG_some, putT_some, T.get_set, Nat.reduceEqDiff, g0, if_false, opF_len, evs, if_true, R.ok_bind, opF_ari, runOps_nil, lx, binF_int, op_lssI, cast_lt, hlt, decide_true, exec_cond, exec_skip, exec_exit, exec_block, opF_assign, ev_nilslice, exec_ret, opF_indexAddr, opF_load, ev_int, und43, hp, hpl, h6, Nat.reduceLT, decide_false, g4, opF_conv, convPF, und5, opF_buildSlice, evp, opF_builtin, builtin_append, wrapF_u8, bs22, at_slc, opF_eql, op_eql, happ, ev_bool, op_add_i64]
              with_reducible rfl
            refine ⟨hlt, _, _, rfl, by rw [hok']; simp [numOk, h6], y', by rw [hen, hN]; exact hO', ?_⟩
            simp only [Sl_cons, Sl_nil, T.get_set, T.puts_cons, T.puts_nil, Nat.reduceEqDiff, Nat.reduceAdd, if_true, if_false, and_true, true_and, g0]
          · apply W.run 20
            · intro M
              simp (config := { maxSteps := 4000000 }) (disch := first | decide +kernel | omega) only [c56b1, c56, Try.f56, Option.getD_some, sub_seq1, sub_seq0, sub_block, sub_loop, sub_nil, exec_seq, exec_region, runOps_cons, opF_move, ev_tmp, g5, evG_some, putT_some, T.get_set, Nat.reduceEqDiff, g0, if_false, opF_len, evs, if_true, R.ok_bind, opF_ari, runOps_nil, lx, binF_int, op_lssI, cast_lt, hlt, decide_true, exec_cond, exec_skip, exec_exit, exec_block, opF_assign, ev_nilslice, exec_ret, opF_indexAddr, opF_load, ev_int, und43, hp, hpl, h250, decide_false, g4, opF_conv, convPF, und5, opF_buildSlice, evp, opF_builtin, builtin_append, wrapF_u8, opF_eql, op_eql, h6, ev_bool]
              with_reducible rfl
            have hno : layOk l = false := not_all hlt (by simp [numOk, h250, h6])
            refine ⟨.inr rfl, _, [.slice none 0 0, .bool false], rfl, ?_, .slice none 0 0, by rw [hno]; rfl, hO.1, fun h => by rw [hno] at h; cases h⟩
            simp only [Try.f56, resF, ev_tmp, T.get_set, Nat.reduceEqDiff, if_true, if_false, evG_some, R.ok_bind]
      · have hin : i = l.length := by omega
        subst hin
        rw [List.take_length] at hO hok
        apply W.run 20
        · intro M
          simp (config := { maxSteps := 4000000 }) (disch := first | decide +kernel | omega) only [c56b1, c56, Try.f56, Option.getD_some, sub_seq1, sub_seq0, sub_block, sub_loop, sub_nil, exec_seq, exec_region, runOps_cons, opF_move, ev_tmp, g5, evG_some, putT_some, T.get_set, Nat.reduceEqDiff, g0, if_false, opF_len, evs, if_true, R.ok_bind, opF_ari, runOps_nil, lx, binF_int, op_lssI, cast_lt, Nat.lt_irrefl, decide_false, exec_cond, exec_skip, exec_exit, exec_block, opF_assign, ev_nilslice, exec_ret]
          with_reducible rfl
        show W tb1 _ _ _
        apply W.seq
        apply W.run 20
        · intro M
          simp (config := { maxSteps := 4000000 }) (disch := first | decide +kernel | omega) only [c56, Try.f56, Option.getD_some, sub_seq1, sub_seq0, sub_nil, exec_region, runOps_cons, opF_move, ev_tmp, T.get_set, Nat.reduceEqDiff, g4, if_false, evG_some, putT_some, opF_assign, if_true, ev_bool, runOps_nil, R.ok_bind]
          with_reducible rfl
        apply W.run 20
        · intro M
          simp (config := { maxSteps := 4000000 }) (disch := first | decide +kernel | omega) only [c56, Try.f56, Option.getD_some, sub_seq1, sub_nil, exec_ret]
          with_reducible rfl
        refine ⟨.inr rfl, _, [y, .bool true], rfl, ?_, y, by rw [hok]; rfl, hO.1, fun _ => hO⟩
        simp only [Try.f56, resF, ev_tmp, T.get_set, Nat.reduceEqDiff, if_true, if_false, evG_some, R.ok_bind]
    · simp only [Sl_cons, Sl_nil, T.get_set, T.puts_cons, T.puts_nil, Nat.reduceEqDiff, Nat.reduceAdd, if_true, if_false, and_true, true_and]
  subst hv
  exact ⟨y, A', ha, h1, h2⟩
end Go.Proofs.Ytmhldlnlgjpkaaa.scr

/-
  Script: the document's words, laid.
-/
namespace Go.Proofs.Ytmhldlnlgjpkaaa.scr
open Go.Am
set_option linter.unusedSimpArgs false
set_option linter.unusedVariables false
set_option linter.unusedVariables false
set_option maxRecDepth 20000

def longW (w : List UInt8) : Bool := decide (0 < w.length / 32 ∧ w.length / 32 ≤ 8 ∧ w = List.replicate (32 * (w.length / 32)) 120)
def letOk (c : UInt8) : Bool := decide (128 ≤ c.toNat) || (decide (97 ≤ c.toNat) && decide (c.toNat ≤ 100))
def isX (c : UInt8) : Bool := decide (c.toNat = 120)
def spellOk (w : List UInt8) : Bool := longW w || (w.all letOk && decide (w.length < 8))
def baseX (w : List UInt8) : Bool := decide (0 < w.length) && (decide (w.length % 32 = 0) && decide (w.length ≤ 256))
theorem all_isX (w : List UInt8) : w.all isX = true ↔ w = List.replicate w.length 120 := by
  rw [List.all_eq_true, List.eq_replicate_iff]
  constructor
  · intro h
    refine ⟨rfl, fun c hc => ?_⟩
    have := of_decide_eq_true (h c hc)
    exact UInt8.toNat_inj.1 this
  · rintro ⟨-, h⟩ c hc
    rw [h c hc]; rfl
theorem long_eq (w : List UInt8) : (baseX w && w.all isX) = longW w := by
  unfold baseX longW
  apply Bool.eq_iff_iff.2
  rw [Bool.and_eq_true, Bool.and_eq_true, Bool.and_eq_true, all_isX]
  simp only [decide_eq_true_eq]
  constructor
  · rintro ⟨⟨h1, h2, h3⟩, h4⟩
    refine ⟨by omega, by omega, ?_⟩
    rw [show 32 * (w.length / 32) = w.length by omega]; exact h4
  · rintro ⟨h1, h2, h3⟩
    have hl : w.length = 32 * (w.length / 32) := by have := congrArg List.length h3; rw [List.length_replicate] at this; exact this
    refine ⟨⟨by omega, by omega, by omega⟩, ?_⟩
    rw [← hl] at h3; exact h3
theorem encCs_len (w : List UInt8) : (encCs w).length = w.length := by simp [encCs]
theorem sub_u8 {a b : Nat} (h : b ≤ a) (ha : a < 256) : intOpF .sub .u8 (a : Int) (b : Int) = .ok (.int .u8 ((a - b : Nat) : Int)) := by
  show R.ok (Value.int .u8 (wrapF .u8 ((a : Int) - (b : Int)))) = _
  rw [show (a : Int) - (b : Int) = ((a - b : Nat) : Int) by omega, wrapF_u8, Nat.mod_eq_of_lt (by omega)]
noncomputable def c55 : Code := Try.f55.body.getD .skip
noncomputable def c55b1 : Code := sub c55 [1,1,0,1,0,0]
noncomputable def c55b2 : Code := sub c55 [1,1,1,1,1,0,1,0,0]
theorem c55_eq : Try.f55.body = some (.seq (sub c55 [0]) (.seq (sub c55 [1,0]) (.seq (.seq (sub c55 [1,1,0,0]) (.block 0 (.loop c55b1))) (.seq (.seq (sub c55 [1,1,1,0,0]) (.cond (.tmp 35) (sub c55 [1,1,1,0,1,0]) .skip)) (.seq (sub c55 [1,1,1,1,0]) (.seq (.seq (sub c55 [1,1,1,1,1,0,0]) (.block 2 (.loop c55b2))) (.seq (sub c55 [1,1,1,1,1,1,0]) (sub c55 [1,1,1,1,1,1,1])))))))) := by kernel_rfl
section
variable {A : Mem} {w : List UInt8} {t : T Value} {K : Ex → St → Prop}
set_option maxHeartbeats 8000000 in
theorem spell_base (hw : w.length ≤ 1000) (hp : t.get 0 = some (strOf w))
    (hK : ∀ t', Sl t' [(0, strOf w), (4, .bool (baseX w))] → K .nrm ⟨t', 85, [], A, none⟩) : W tb1 (sub c55 [1,0]) ⟨t, 85, [], A, none⟩ K := by
  have hl := len_str (tb := tb1) (l := w) und9
  by_cases h1 : 0 < w.length
  · by_cases h2 : w.length % 32 = 0
    · have e : baseX w = decide (w.length ≤ 256) := by unfold baseX; rw [decide_eq_true h1, decide_eq_true h2]; rfl
      rw [e] at hK
      apply W.run 20
      · intro M
        simp (config := { maxSteps := 4000000 }) (disch := first | decide +kernel | (rw [wantF_guard]; simp only [wantD_some, dstAt_zero, dstAt_succ, T.get_set, T.get_e, Nat.reduceEqDiff, if_true, if_false, wantV_bool, wantV_unit, unitV, cond_true, cond_false, Bool.not_true, Bool.not_false, List.toList_toArray]) | omega) only [c55, Try.f55, Option.getD_some, sub_seq1, sub_seq0, sub_nil, exec_region, runOps_cons, opF_move, ev_tmp, hp, evG_some, putT_some, opF_len, evs, T.get_set, if_true, R.ok_bind, opF_ari, Nat.reduceEqDiff, if_false, ev_int, hl, binF_int, op_gtr, cast_lt, h1, decide_true, runOps_yes, opF_eql, opF_pick, pickF, ev_bool, op_rem, h2, op_eql, opF_assign, runOps_nil, op_leq, cast_le]
        with_reducible rfl
      apply hK
      simp only [Sl_cons, Sl_nil, T.get_set, T.puts_cons, T.puts_nil, Nat.reduceEqDiff, Nat.reduceAdd, if_true, if_false, and_true, true_and, hp]
    · have e : baseX w = false := by unfold baseX; rw [decide_eq_true h1, decide_eq_false h2]; rfl
      rw [e] at hK
      apply W.run 20
      · intro M
        simp (config := { maxSteps := 4000000 }) (disch := first | decide +kernel | (rw [wantF_guard]; simp only [wantD_some, dstAt_zero, dstAt_succ, T.get_set, T.get_e, Nat.reduceEqDiff, if_true, if_false, wantV_bool, wantV_unit, unitV, cond_true, cond_false, Bool.not_true, Bool.not_false, List.toList_toArray]) | omega) only [c55, Try.f55, Option.getD_some, sub_seq1, sub_seq0, sub_nil, exec_region, runOps_cons, opF_move, ev_tmp, hp, evG_some, putT_some, opF_len, evs, T.get_set, if_true, R.ok_bind, opF_ari, Nat.reduceEqDiff, if_false, ev_int, hl, binF_int, op_gtr, cast_lt, h1, decide_true, runOps_yes, opF_eql, opF_pick, pickF, ev_bool, op_rem, op_eql, h2, decide_false, runOps_no, opF_assign, runOps_nil]
        with_reducible rfl
      apply hK
      simp only [Sl_cons, Sl_nil, T.get_set, T.puts_cons, T.puts_nil, Nat.reduceEqDiff, Nat.reduceAdd, if_true, if_false, and_true, true_and, hp]
  · have e : baseX w = false := by unfold baseX; rw [decide_eq_false h1]; rfl
    rw [e] at hK
    apply W.run 20
    · intro M
      simp (config := { maxSteps := 4000000 }) (disch := first | decide +kernel | (rw [wantF_guard]; simp only [wantD_some, dstAt_zero, dstAt_succ, T.get_set, T.get_e, Nat.reduceEqDiff, if_true, if_false, wantV_bool, wantV_unit, unitV, cond_true, cond_false, Bool.not_true, Bool.not_false, List.toList_toArray]) | omega) only [c55, Try.f55, Option.getD_some, sub_seq1, sub_seq0, sub_nil, exec_region, runOps_cons, opF_move, ev_tmp, hp, evG_some, putT_some, opF_len, evs, T.get_set, if_true, R.ok_bind, opF_ari, Nat.reduceEqDiff, if_false, ev_int, hl, binF_int, op_gtr, cast_lt, h1, decide_false, runOps_no, opF_pick, pickF, ev_bool, opF_assign, runOps_nil]
      with_reducible rfl
    apply hK
    simp only [Sl_cons, Sl_nil, T.get_set, T.puts_cons, T.puts_nil, Nat.reduceEqDiff, Nat.reduceAdd, if_true, if_false, and_true, true_and, hp]
set_option maxHeartbeats 8000000 in
theorem spell_all (hw : w.length ≤ 1000) (hp : Sl t [(0, strOf w), (4, .bool (baseX w))])
    (hK : ∀ t', Sl t' [(0, strOf w), (4, .bool (longW w))] → K .nrm ⟨t', 85, [], A, none⟩) : W tb1 (.seq (sub c55 [1,1,0,0]) (.block 0 (.loop c55b1))) ⟨t, 85, [], A, none⟩ K := by
  have hl := len_str (tb := tb1) (l := w) und9
  obtain ⟨g0, g4, -⟩ := hp
  apply W.seq
  apply W.run 20
  · intro M
    simp (config := { maxSteps := 4000000 }) (disch := first | decide +kernel | omega) only [c55, Try.f55, Option.getD_some, sub_seq1, sub_seq0, sub_nil, exec_region, runOps_cons, opF_assign, ev_int, putT_some, runOps_nil, R.ok_bind]
    with_reducible rfl
  apply W.block
  refine W.up w.length (fun i t C => C = A ∧ Sl t [(0, strOf w), (4, .bool (baseX w && (w.take i).all isX)), (5, .int .i64 (i : Int))]) ?_ (Nat.zero_le _) ⟨rfl, ?_⟩
  · rintro i t C hi ⟨rfl, g0, g4, g5, -⟩
    by_cases hlt : i < w.length
    · have hix := index_str (tb := tb1) (kd := .i64) und9 hlt
      have e1 : w.getD i 0 = w[i] := by simp [List.getD, List.getElem?_eq_getElem hlt]
      rw [e1] at hix
      have hta := take_all (p := isX) hlt
      obtain ⟨r, hr⟩ : ∃ r, (baseX w && (w.take i).all isX) = r := ⟨_, rfl⟩
      rw [hr] at g4
      have hn : (baseX w && (w.take (i + 1)).all isX) = (r && isX w[i]) := by rw [hta, ← Bool.and_assoc, hr]
      have fin : ∀ {K : Ex → St → Prop}, (∀ t', Sl t' [(0, strOf w), (4, .bool (r && isX w[i])), (5, .int .i64 ((i + 1 : Nat) : Int))] → K .nrm ⟨t', 85, [], C, none⟩) → W tb1 c55b1 ⟨t, 85, [], C, none⟩ K := by
        intro K hK
        cases r with
        | true =>
          apply W.run 20
          · intro M
            simp (config := { maxSteps := 4000000 }) (disch := first | decide +kernel | (rw [wantF_guard]; simp only [wantD_some, dstAt_zero, dstAt_succ, T.get_set, T.get_e, Nat.reduceEqDiff, if_true, if_false, wantV_bool, wantV_unit, unitV, cond_true, cond_false, Bool.not_true, Bool.not_false, List.toList_toArray]) | omega) only [c55b1, c55, Try.f55, Option.getD_some, sub_seq1, sub_seq0, sub_block, sub_loop, sub_nil, exec_seq, exec_region, runOps_cons, opF_move, ev_tmp, g5, evG_some, putT_some, T.get_set, Nat.reduceEqDiff, g0, if_false, opF_len, evs, if_true, R.ok_bind, opF_ari, runOps_nil, hl, binF_int, op_lssI, cast_lt, hlt, decide_true, exec_cond, exec_skip, exec_exit, exec_block, g4, runOps_yes, opF_index, opF_eql, ev_int, opF_pick, pickF, ev_bool, opF_assign, hix, op_eql, op_add_i64]
            with_reducible rfl
          apply hK
          simp only [Bool.true_and, isX]
          simp only [Sl_cons, Sl_nil, T.get_set, T.puts_cons, T.puts_nil, Nat.reduceEqDiff, Nat.reduceAdd, if_true, if_false, and_true, true_and, g0]
        | false =>
          apply W.run 20
          · intro M
            simp (config := { maxSteps := 4000000 }) (disch := first | decide +kernel | (rw [wantF_guard]; simp only [wantD_some, dstAt_zero, dstAt_succ, T.get_set, T.get_e, Nat.reduceEqDiff, if_true, if_false, wantV_bool, wantV_unit, unitV, cond_true, cond_false, Bool.not_true, Bool.not_false, List.toList_toArray]) | omega) only [c55b1, c55, Try.f55, Option.getD_some, sub_seq1, sub_seq0, sub_block, sub_loop, sub_nil, exec_seq, exec_region, runOps_cons, opF_move, ev_tmp, g5, evG_some, putT_some, T.get_set, Nat.reduceEqDiff, g0, if_false, opF_len, evs, if_true, R.ok_bind, opF_ari, runOps_nil, hl, binF_int, op_lssI, cast_lt, hlt, decide_true, exec_cond, exec_skip, exec_exit, exec_block, g4, runOps_no, opF_pick, pickF, ev_bool, opF_assign, ev_int, op_add_i64]
            with_reducible rfl
          apply hK
          simp only [Sl_cons, Sl_nil, T.get_set, T.puts_cons, T.puts_nil, Nat.reduceEqDiff, Nat.reduceAdd, if_true, if_false, and_true, true_and, g0, Bool.false_and]
      refine fin fun t' hp' => ⟨hlt, _, _, rfl, rfl, by rw [hn]; exact hp'⟩
    · have hin : i = w.length := by omega
      subst hin
      rw [List.take_length, long_eq] at g4
      apply W.run 20
      · intro M
        simp (config := { maxSteps := 4000000 }) (disch := first | decide +kernel | omega) only [c55b1, c55, Try.f55, Option.getD_some, sub_seq1, sub_seq0, sub_block, sub_loop, sub_nil, exec_seq, exec_region, runOps_cons, opF_move, ev_tmp, g5, evG_some, putT_some, T.get_set, Nat.reduceEqDiff, g0, if_false, opF_len, evs, if_true, R.ok_bind, opF_ari, runOps_nil, hl, binF_int, op_lssI, cast_lt, Nat.lt_irrefl, decide_false, exec_cond, exec_skip, exec_exit, exec_block]
        with_reducible rfl
      apply hK
      simp only [Sl_cons, Sl_nil, T.get_set, T.puts_cons, T.puts_nil, Nat.reduceEqDiff, Nat.reduceAdd, if_true, if_false, and_true, true_and, g0, g4]
  · rw [show (w.take 0).all isX = true from rfl, Bool.and_true]; simp only [Sl_cons, Sl_nil, T.get_set, T.puts_cons, T.puts_nil, Nat.reduceEqDiff, Nat.reduceAdd, if_true, if_false, and_true, true_and, g0, g4]
set_option maxHeartbeats 8000000 in
theorem spell_let (hw : w.length ≤ 1000) {y : Value} {C : Mem} (hO : Own A [UInt8.ofNat w.length] y C) (hp : Sl t [(0, strOf w), (6, y)])
    (hK1 : w.all letOk = true → ∀ t' y' D, Own A (UInt8.ofNat w.length :: encCs w) y' D → Sl t' [(0, strOf w), (6, y')] → K .nrm ⟨t', 85, [], D, none⟩)
    (hK2 : w.all letOk = false → ∀ t' D, Ext A D → Sl t' [(2, .slice none 0 0), (3, .bool false)] → K .ret ⟨t', 85, [], D, none⟩) :
    W tb1 (.seq (sub c55 [1,1,1,1,1,0,0]) (.block 2 (.loop c55b2))) ⟨t, 85, [], C, none⟩ K := by
  have hl := len_str (tb := tb1) (l := w) und9
  obtain ⟨g0, g6, -⟩ := hp
  apply W.seq
  apply W.run 20
  · intro M
    simp (config := { maxSteps := 4000000 }) (disch := first | decide +kernel | omega) only [c55, Try.f55, Option.getD_some, sub_seq1, sub_seq0, sub_nil, exec_region, runOps_cons, opF_assign, ev_int, putT_some, runOps_nil, R.ok_bind]
    with_reducible rfl
  apply W.block
  refine W.up w.length (fun i t C => (w.take i).all letOk = true ∧ ∃ y, Own A (UInt8.ofNat w.length :: encCs (w.take i)) y C ∧ Sl t [(0, strOf w), (6, y), (7, .int .i64 (i : Int))]) ?_ (Nat.zero_le _) ⟨rfl, y, hO, ?_⟩
  · rintro i t C hi ⟨hok, y, hO, g0, g6, g7, -⟩
    by_cases hlt : i < w.length
    · have hix := index_str (tb := tb1) (kd := .i64) und9 hlt
      have e1 : w.getD i 0 = w[i] := by simp [List.getD, List.getElem?_eq_getElem hlt]
      rw [e1] at hix
      have hen : UInt8.ofNat w.length :: encCs (w.take (i + 1)) = (UInt8.ofNat w.length :: encCs (w.take i)) ++ [UInt8.ofNat (encC w[i])] := by
        unfold encCs; rw [List.take_succ_eq_append_getElem hlt, List.map_append]; rfl
      have hok' : (w.take (i + 1)).all letOk = letOk w[i] := by rw [take_all hlt, hok, Bool.true_and]
      have hlen : (UInt8.ofNat w.length :: encCs (w.take i)).length < 16777216 := by rw [List.length_cons, encCs_len, List.length_take]; omega
      have hb := w[i].toNat_lt
      by_cases h128 : 128 ≤ w[i].toNat
      · have hN : encC w[i] = w[i].toNat := by unfold encC; rw [if_neg (by omega)]
        obtain ⟨y', D, happ, hO'⟩ := hO.push hlen (v := w[i].toNat) (by omega)
        apply W.run 20
        · intro M
          simp (config := { maxSteps := 4000000 }) (disch := first | decide +kernel | omega) only [c55b2, c55, Try.f55, Option.getD_some, sub_seq1, sub_seq0, sub_block, sub_loop, sub_nil, exec_seq, exec_region, runOps_cons, opF_move, ev_tmp, g7, evG_some, putT_some, T.get_set, Nat.reduceEqDiff, g0, if_false, opF_len, evs, if_true, R.ok_bind, opF_ari, runOps_nil, hl, binF_int, op_lssI, cast_lt, hlt, decide_true, exec_cond, exec_skip, exec_exit, exec_block, opF_assign, ev_nilslice, exec_ret, opF_index, ev_int, hix, op_geq, cast_le, h128, g6, opF_buildSlice, evp, opF_builtin, builtin_append, bs22, at_slc, happ, op_add_i64]
          with_reducible rfl
        refine ⟨hlt, _, _, rfl, by rw [hok']; simp [letOk, h128], y', by rw [hen, hN]; exact hO', ?_⟩
        simp only [Sl_cons, Sl_nil, T.get_set, T.puts_cons, T.puts_nil, Nat.reduceEqDiff, Nat.reduceAdd, if_true, if_false, and_true, true_and, g0]
      · by_cases h97 : 97 ≤ w[i].toNat
        · by_cases h100 : w[i].toNat ≤ 100
          · have hN : encC w[i] = w[i].toNat - 97 := by unfold encC; rw [if_pos (by omega)]
            obtain ⟨y', D, happ, hO'⟩ := hO.push hlen (v := w[i].toNat - 97) (by omega)
            have hsub : intOpF .sub .u8 ((w[i].toNat : Nat) : Int) ((97 : Nat) : Int) = .ok (.int .u8 ((w[i].toNat - 97 : Nat) : Int)) := sub_u8 h97 (by omega)
            apply W.run 20
            · intro M
              simp (config := { maxSteps := 4000000 }) (disch := first | decide +kernel | (rw [wantF_guard]; simp only [wantD_some, dstAt_zero, dstAt_succ, T.get_set, T.get_e, Nat.reduceEqDiff, if_true, if_false, wantV_bool, wantV_unit, unitV, cond_true, cond_false, Bool.not_true, Bool.not_false, List.toList_toArray]) | omega) only [c55b2, c55, Try.f55, Option.getD_some, sub_seq1, sub_seq0, sub_block, sub_loop, sub_nil, exec_seq, exec_region, runOps_cons, opF_move, ev_tmp, g7, evG_some, putT_some, T.get_set, Nat.reduceEqDiff, g0, if_false, opF_len, evs, if_true, R.ok_bind, opF_ari, runOps_nil, hl, binF_int, op_lssI, cast_lt, hlt, decide_true, exec_cond, exec_skip, exec_exit, exec_block, opF_assign, ev_nilslice, exec_ret, opF_index, ev_int, hix, op_geq, cast_le, h128, decide_false, g6, opF_buildSlice, evp, opF_builtin, builtin_append, bs22, at_slc, h97, runOps_yes, opF_pick, pickF, ev_bool, op_leq, h100, hsub, happ, op_add_i64]
              with_reducible rfl
            refine ⟨hlt, _, _, rfl, by rw [hok']; simp [letOk, h128, h97, h100], y', by rw [hen, hN]; exact hO', ?_⟩
            simp only [Sl_cons, Sl_nil, T.get_set, T.puts_cons, T.puts_nil, Nat.reduceEqDiff, Nat.reduceAdd, if_true, if_false, and_true, true_and, g0]
          · apply W.run 20
            · intro M
              simp (config := { maxSteps := 4000000 }) (disch := first | decide +kernel | (rw [wantF_guard]; simp only [wantD_some, dstAt_zero, dstAt_succ, T.get_set, T.get_e, Nat.reduceEqDiff, if_true, if_false, wantV_bool, wantV_unit, unitV, cond_true, cond_false, Bool.not_true, Bool.not_false, List.toList_toArray]) | omega) only [c55b2, c55, Try.f55, Option.getD_some, sub_seq1, sub_seq0, sub_block, sub_loop, sub_nil, exec_seq, exec_region, runOps_cons, opF_move, ev_tmp, g7, evG_some, putT_some, T.get_set, Nat.reduceEqDiff, g0, if_false, opF_len, evs, if_true, R.ok_bind, opF_ari, runOps_nil, hl, binF_int, op_lssI, cast_lt, hlt, decide_true, exec_cond, exec_skip, exec_exit, exec_block, opF_assign, ev_nilslice, exec_ret, opF_index, ev_int, hix, op_geq, cast_le, h128, decide_false, g6, opF_buildSlice, evp, opF_builtin, builtin_append, h97, runOps_yes, opF_pick, pickF, ev_bool, op_leq, h100]
              with_reducible rfl
            refine hK2 (not_all hlt (by simp [letOk, h128, h97, h100])) _ _ hO.1 ?_
            simp only [Sl_cons, Sl_nil, T.get_set, T.puts_cons, T.puts_nil, Nat.reduceEqDiff, Nat.reduceAdd, if_true, if_false, and_true, true_and]
        · apply W.run 20
          · intro M
            simp (config := { maxSteps := 4000000 }) (disch := first | decide +kernel | (rw [wantF_guard]; simp only [wantD_some, dstAt_zero, dstAt_succ, T.get_set, T.get_e, Nat.reduceEqDiff, if_true, if_false, wantV_bool, wantV_unit, unitV, cond_true, cond_false, Bool.not_true, Bool.not_false, List.toList_toArray]) | omega) only [c55b2, c55, Try.f55, Option.getD_some, sub_seq1, sub_seq0, sub_block, sub_loop, sub_nil, exec_seq, exec_region, runOps_cons, opF_move, ev_tmp, g7, evG_some, putT_some, T.get_set, Nat.reduceEqDiff, g0, if_false, opF_len, evs, if_true, R.ok_bind, opF_ari, runOps_nil, hl, binF_int, op_lssI, cast_lt, hlt, decide_true, exec_cond, exec_skip, exec_exit, exec_block, opF_assign, ev_nilslice, exec_ret, opF_index, ev_int, hix, op_geq, cast_le, h128, decide_false, g6, opF_buildSlice, evp, opF_builtin, builtin_append, h97, runOps_no, opF_pick, pickF, ev_bool]
            with_reducible rfl
          refine hK2 (not_all hlt (by simp [letOk, h128, h97])) _ _ hO.1 ?_
          simp only [Sl_cons, Sl_nil, T.get_set, T.puts_cons, T.puts_nil, Nat.reduceEqDiff, Nat.reduceAdd, if_true, if_false, and_true, true_and]
    · have hin : i = w.length := by omega
      subst hin
      rw [List.take_length] at hO hok
      apply W.run 20
      · intro M
        simp (config := { maxSteps := 4000000 }) (disch := first | decide +kernel | omega) only [c55b2, c55, Try.f55, Option.getD_some, sub_seq1, sub_seq0, sub_block, sub_loop, sub_nil, exec_seq, exec_region, runOps_cons, opF_move, ev_tmp, g7, evG_some, putT_some, T.get_set, Nat.reduceEqDiff, g0, if_false, opF_len, evs, if_true, R.ok_bind, opF_ari, runOps_nil, hl, binF_int, op_lssI, cast_lt, Nat.lt_irrefl, decide_false, exec_cond, exec_skip, exec_exit, exec_block, opF_assign, ev_nilslice, exec_ret]
        with_reducible rfl
      refine hK1 hok _ _ _ hO ?_
      simp only [Sl_cons, Sl_nil, T.get_set, T.puts_cons, T.puts_nil, Nat.reduceEqDiff, Nat.reduceAdd, if_true, if_false, and_true, true_and, g0, g6]
  · simp only [Sl_cons, Sl_nil, T.get_set, T.puts_cons, T.puts_nil, Nat.reduceEqDiff, Nat.reduceAdd, if_true, if_false, and_true, true_and, g0, g6]
end
set_option maxHeartbeats 8000000 in
theorem run_rspell {A : Mem} {w : List UInt8} (hw : w.length ≤ 1000) : ∃ y A', Ans tb1 55 [strOf w] A (.tuple ⟨[y, .bool (spellOk w)]⟩) A' ∧ Ext A A' ∧ (spellOk w = true → Own A (encW w) y A') := by
  obtain ⟨v, A', ha, y, hv, h1, h2⟩ : ∃ v A', Ans tb1 55 [strOf w] A v A' ∧ ∃ y, v = .tuple ⟨[y, .bool (spellOk w)]⟩ ∧ Ext A A' ∧ (spellOk w = true → Own A (encW w) y A') := by
    refine ans_of_W (fn_at Try.func55) c55_eq (by rw [Try.ntmps55]; simp) (by kernel_rfl) (by kernel_rfl) ?_
    have hl := len_str (tb := tb1) (l := w) und9
    apply W.seq
    apply W.run 20
    · intro M
      simp (config := { maxSteps := 4000000 }) (disch := first | decide +kernel | omega) only [c55, Try.f55, Option.getD_some, sub_seq0, sub_nil, T.puts_cons, Nat.reduceAdd, T.puts_nil, exec_region, runOps_cons, opF_assign, ev_nilslice, putT_some, ev_bool, runOps_nil, R.ok_bind]
      with_reducible rfl
    apply W.seq
    refine spell_base hw (by simp only [T.get_set, Nat.reduceEqDiff, if_true, if_false, T.puts_cons, T.puts_nil]) ?_
    intro t hp
    apply W.seq
    refine spell_all hw hp ?_
    rintro t ⟨g0, g4, -⟩
    apply W.seq
    apply W.seq
    apply W.run 20
    · intro M
      simp (config := { maxSteps := 4000000 }) (disch := first | decide +kernel | omega) only [c55, Try.f55, Option.getD_some, sub_seq1, sub_seq0, sub_nil, exec_region, runOps_cons, opF_move, ev_tmp, g4, evG_some, putT_some, runOps_nil, R.ok_bind]
      with_reducible rfl
    obtain ⟨p, hpe⟩ : ∃ p, longW w = p := ⟨_, rfl⟩
    rw [hpe] at g4
    cases p with
    | true =>
      refine W.cond (p := true) (by simp only [ev_tmp, T.get_set, if_true, evG_some, hpe]) (fun _ => ?_) (fun h => by cases h)
      have hlw := of_decide_eq_true hpe
      have hv : 247 + w.length / 32 < 256 := by omega
      have hmod : (247 + w.length / 32) % 256 = 247 + w.length / 32 := Nat.mod_eq_of_lt hv
      have hnew := Own.new (Ext.refl A) (l := [UInt8.ofNat (247 + w.length / 32)]) (n := 1) (c := 2) rfl rfl
      rw [byts_ofNat hv] at hnew
      apply W.run 20
      · intro M
        simp (config := { maxSteps := 4000000 }) (disch := first | decide +kernel | omega) only [c55, Try.f55, Option.getD_some, sub_seq1, sub_seq0, sub_cond0, sub_nil, exec_seq, exec_region, runOps_cons, opF_move, ev_tmp, T.get_set, Nat.reduceEqDiff, g0, if_false, evG_some, putT_some, opF_len, evs, if_true, R.ok_bind, opF_ari, ev_int, und3, opF_conv, convPF, und5, opF_buildSlice, evp, opF_assign, ev_bool, runOps_nil, hl, binF_int, op_quo_i64, op_add_i64, wrapF_u8, hmod, bs22, at_slc, exec_ret]
        with_reducible rfl
      have hsp : spellOk w = true := by unfold spellOk; rw [hpe]; rfl
      refine ⟨.inr rfl, _, [.slice (some ⟨A.next, 0, none⟩) 1 2, .bool true], rfl, ?_, _, by rw [hsp]; rfl, hnew.1, fun _ => ?_⟩
      · simp only [Try.f55, resF, ev_tmp, T.get_set, Nat.reduceEqDiff, if_true, if_false, evG_some, R.ok_bind]
      · unfold encW; rw [if_pos hlw]; exact hnew
    | false =>
      refine W.cond (p := false) (by simp only [ev_tmp, T.get_set, if_true, evG_some, hpe]) (fun h => by cases h) (fun _ => ?_)
      have hlw := of_decide_eq_false hpe
      have hsp : spellOk w = (w.all letOk && decide (w.length < 8)) := by unfold spellOk; rw [hpe]; rfl
      have hew : encW w = UInt8.ofNat w.length :: encCs w := by unfold encW; rw [if_neg hlw]
      rw [hsp, hew]
      have hnew := Own.new (Ext.refl A) (l := [UInt8.ofNat w.length]) (n := 1) (c := 2) rfl rfl
      have hb1 : byts [UInt8.ofNat w.length] = [.int .u8 ((w.length % 256 : Nat) : Int)] := by simp only [byts, List.map_cons, List.map_nil, UInt8.toNat_ofNat']
      rw [hb1] at hnew
      apply W.run 20
      · intro M
        simp (config := { maxSteps := 4000000 }) (disch := first | decide +kernel | omega) only [exec_skip]
        with_reducible rfl
      show W tb1 _ _ _
      apply W.seq
      apply W.run 20
      · intro M
        simp (config := { maxSteps := 4000000 }) (disch := first | decide +kernel | omega) only [c55, Try.f55, Option.getD_some, sub_seq1, sub_seq0, sub_nil, exec_region, runOps_cons, opF_move, ev_tmp, T.get_set, Nat.reduceEqDiff, g0, if_false, evG_some, putT_some, opF_len, evs, if_true, R.ok_bind, opF_conv, convPF, und3, und5, opF_buildSlice, evp, opF_assign, runOps_nil, hl, wrapF_u8, bs22, at_slc]
        with_reducible rfl
      apply W.seq
      refine spell_let hw hnew (by simp only [Sl_cons, Sl_nil, T.get_set, T.puts_cons, T.puts_nil, Nat.reduceEqDiff, Nat.reduceAdd, if_true, if_false, and_true, true_and, g0]) ?_ ?_
      · rintro hok t' y' D hO ⟨q0, q6, -⟩
        rw [hok, Bool.true_and]
        show W tb1 _ _ _
        apply W.seq
        apply W.run 20
        · intro M
          simp (config := { maxSteps := 4000000 }) (disch := first | decide +kernel | omega) only [c55, Try.f55, Option.getD_some, sub_seq1, sub_seq0, sub_nil, exec_region, runOps_cons, opF_move, ev_tmp, q6, evG_some, putT_some, T.get_set, Nat.reduceEqDiff, q0, if_false, opF_len, evs, if_true, R.ok_bind, opF_ari, ev_int, opF_assign, runOps_nil, hl, binF_int, op_lssI, cast_lt]
          with_reducible rfl
        apply W.run 20
        · intro M
          simp (config := { maxSteps := 4000000 }) (disch := first | decide +kernel | omega) only [c55, Try.f55, Option.getD_some, sub_seq1, sub_nil, exec_ret]
          with_reducible rfl
        refine ⟨.inr rfl, _, [y', .bool (decide (w.length < 8))], rfl, ?_, _, rfl, hO.1, fun _ => hO⟩
        simp only [Try.f55, resF, ev_tmp, T.get_set, Nat.reduceEqDiff, if_true, if_false, evG_some, R.ok_bind]
      · rintro hno t' D hE ⟨q2, q3, -⟩
        rw [hno, Bool.false_and]
        refine ⟨.inr rfl, _, [.slice none 0 0, .bool false], rfl, ?_, _, rfl, hE, fun h => by cases h⟩
        simp only [Try.f55, resF, ev_tmp, q2, q3, evG_some, R.ok_bind]
  subst hv
  exact ⟨y, A', ha, h1, h2⟩
end Go.Proofs.Ytmhldlnlgjpkaaa.scr

/-
  Script: the document's put: an act, to its numbers.
-/
namespace Go.Proofs.Ytmhldlnlgjpkaaa.scr
open Go.Am
set_option linter.unusedSimpArgs false
set_option linter.unusedVariables false
set_option linter.unusedVariables false
set_option maxRecDepth 20000

theorem Own.app2 {A C D : Mem} {l m : List UInt8} {x y : Value} {q : Nat} (h : Own A l x C) (e : Ext C D) (hy : RdS q D m y) (hl : l.length + m.length ≤ 16777216) :
    ∃ x' D', appendF tb1 D 22 22 x y = .ok (x', D') ∧ Own A (l ++ m) x' D' ∧ D.next ≤ D'.next ∧ ∀ z, C.next ≤ z → z < D.next → D'.get z = D.get z := by
  obtain ⟨h1, b, h2, h3⟩ := h
  have h3' := h3.same e.n (fun hl => e.g _ hl)
  obtain ⟨x', D', b', k1, k2, k3, k4, k5⟩ := app_byts h3' hy hl
  have hAC := h1.n
  have hCD := e.n
  refine ⟨x', D', k1, ⟨⟨by omega, fun z hz => ?_⟩, b', by rcases k4 with rfl | k4 <;> omega, k2⟩, k3, fun z hz hzd => k5 z (fun he => ?_) hzd⟩
  · rw [k5 z (fun e => by omega) (by omega), e.g z (by omega), h1.g z hz]
  · subst he
    rcases h3 with ⟨h3, -⟩ | ⟨k, c, -, h3, -⟩
    · exact h3
    · omega
noncomputable def c31 : Code := Try.f31.body.getD .skip
noncomputable def c31b1 : Code := sub c31 [1,1,1,1,1,1,1,1,1,1,1,1,1,1,1,1,1,1,0,1,0,0]
theorem c31_eq : Try.f31.body = some (.seq (sub c31 [0]) (.seq (sub c31 [1,0]) (.seq (sub c31 [1,1,0]) (.seq (sub c31 [1,1,1,0]) (.seq (sub c31 [1,1,1,1,0]) (.seq (sub c31 [1,1,1,1,1,0]) (.seq (sub c31 [1,1,1,1,1,1,0]) (.seq (sub c31 [1,1,1,1,1,1,1,0]) (.seq (sub c31 [1,1,1,1,1,1,1,1,0]) (.seq (sub c31 [1,1,1,1,1,1,1,1,1,0]) (.seq (sub c31 [1,1,1,1,1,1,1,1,1,1,0]) (.seq (sub c31 [1,1,1,1,1,1,1,1,1,1,1,0]) (.seq (sub c31 [1,1,1,1,1,1,1,1,1,1,1,1,0]) (.seq (sub c31 [1,1,1,1,1,1,1,1,1,1,1,1,1,0]) (.seq (sub c31 [1,1,1,1,1,1,1,1,1,1,1,1,1,1,0]) (.seq (sub c31 [1,1,1,1,1,1,1,1,1,1,1,1,1,1,1,0]) (.seq (sub c31 [1,1,1,1,1,1,1,1,1,1,1,1,1,1,1,1,0]) (.seq (sub c31 [1,1,1,1,1,1,1,1,1,1,1,1,1,1,1,1,1,0]) (.seq (.seq (sub c31 [1,1,1,1,1,1,1,1,1,1,1,1,1,1,1,1,1,1,0,0]) (.block 1 (.loop c31b1))) (.seq (sub c31 [1,1,1,1,1,1,1,1,1,1,1,1,1,1,1,1,1,1,1,0]) (sub c31 [1,1,1,1,1,1,1,1,1,1,1,1,1,1,1,1,1,1,1,1]))))))))))))))))))))) := by kernel_rfl
/-- What is laid: the boxed act, and its operation. -/
structure PA (A : Mem) (d : ActG) (xs xo : Value) (B : Mem) : Prop where
  e : Ext A B
  n : B.next = A.next + 2
  v1 : Vals B 81 A.next (.var 9) (cellsG d xs xo)
  v4 : Vals B 35 (A.next + 1) (.var 5) [.int .i64 d.kind, strOf d.word, .int .u32 (d.weight : Int), .int .i64 d.k, .int .i64 d.n]
  hs : StR (fun _ => True) B d.stays xs
  ho : OpsP (fun _ => True) B d.opening xo
section
variable {A B C : Mem} {d : ActG} {xs xo : Value}
structure PL (A C : Mem) (d : ActG) (xs xo : Value) : Prop where
  kind : loadF tb1 C.get 3 (.pointer (some ⟨A.next + 1, 0, none⟩)) = .ok (.int .i64 d.kind)
  word : loadF tb1 C.get 9 (.pointer (some ⟨A.next + 1, 1, none⟩)) = .ok (strOf d.word)
  weight : loadF tb1 C.get 33 (.pointer (some ⟨A.next + 1, 2, none⟩)) = .ok (.int .u32 (d.weight : Int))
  k : loadF tb1 C.get 3 (.pointer (some ⟨A.next + 1, 3, none⟩)) = .ok (.int .i64 d.k)
  n : loadF tb1 C.get 3 (.pointer (some ⟨A.next + 1, 4, none⟩)) = .ok (.int .i64 d.n)
  arm : loadF tb1 C.get 3 (.pointer (some ⟨A.next, 5, none⟩)) = .ok (.int .i64 d.arm)
  cut : loadF tb1 C.get 4 (.pointer (some ⟨A.next, 6, none⟩)) = .ok (.bool d.cut)
  stays : loadF tb1 C.get 36 (.pointer (some ⟨A.next, 7, none⟩)) = .ok xs
  opening : loadF tb1 C.get 79 (.pointer (some ⟨A.next, 8, none⟩)) = .ok xo
theorem PA.l (h : PA A d xs xo B) (e : Ext B C) : PL A C d xs xo := by
  have hn := h.n
  have w1 := h.v1.same (e.g _ (by omega))
  have w4 := h.v4.same (e.g _ (by omega))
  exact ⟨load_vals und3 rfl w4 rfl, load_vals und9 rfl w4 rfl, load_vals und33 rfl w4 rfl, load_vals und3 rfl w4 rfl, load_vals und3 rfl w4 rfl, load_vals und3 rfl w1 rfl, load_vals und4 rfl w1 rfl, load_vals und36 rfl w1 rfl, load_vals und79 rfl w1 rfl⟩
def pS (A : Mem) (y : Value) : List (Nat × Value) := [(1, .pointer (some ⟨A.next, 0, none⟩)), (4, .pointer (some ⟨A.next + 1, 0, none⟩)), (6, y)]
def pF : List (Nat × Value) := [(2, .slice none 0 0), (3, .bool false)]
def headOk (d : ActG) : Prop := (0 ≤ d.kind ∧ d.kind ≤ 9) ∧ (0 ≤ d.arm ∧ d.arm ≤ 256) ∧ d.stays.length ≤ 5 ∧ d.opening.length ≤ 3
variable {t : T Value} {K : Ex → St → Prop}
set_option maxHeartbeats 16000000 in
theorem put_head (h : PA A d xs xo B) (hp : Sl t [(1, .pointer (some ⟨A.next, 0, none⟩)), (4, .pointer (some ⟨A.next + 1, 0, none⟩))])
    (hK1 : headOk d → ∀ t', Sl t' [(1, .pointer (some ⟨A.next, 0, none⟩)), (4, .pointer (some ⟨A.next + 1, 0, none⟩))] → K .nrm ⟨t', 243, [], B, none⟩)
    (hK2 : ¬ headOk d → ∀ t', Sl t' pF → K .ret ⟨t', 243, [], B, none⟩) : W tb1 (sub c31 [1,1,0]) ⟨t, 243, [], B, none⟩ K := by
  have hl := h.l (Ext.refl B)
  have l1 := hl.kind
  have l2 := hl.arm
  have l3 := hl.stays
  have l4 := hl.opening
  have q3 := h.hs.len
  have q4 := h.ho.len
  obtain ⟨g1, g4, -⟩ := hp
  have bad : ∀ P : Prop, (headOk d → ¬ P) → P → ¬ headOk d := fun P h hp hh => h hh hp
  by_cases h1 : d.kind < ((0 : Nat) : Int)
  · apply W.run 20
    · intro M
      simp (config := { maxSteps := 4000000 }) (disch := first | decide +kernel | (rw [wantF_guard]; simp only [wantD_some, dstAt_zero, dstAt_succ, T.get_set, T.get_e, Nat.reduceEqDiff, if_true, if_false, wantV_bool, wantV_unit, unitV, cond_true, cond_false, Bool.not_true, Bool.not_false, List.toList_toArray]) | omega) only [c31, Try.f31, Option.getD_some, sub_seq1, sub_seq0, sub_nil, exec_seq, exec_region, runOps_cons, opF_fieldAddr, ev_tmp, g4, evG_some, putT_some, opF_load, T.get_set, if_true, opF_ari, Nat.reduceEqDiff, if_false, ev_int, opF_move, R.ok_bind, fa35_0, l1, binF_int, op_lssI, h1, decide_true, runOps_no, opF_pick, pickF, ev_bool, runOps_nil, exec_cond, opF_assign, ev_nilslice, exec_ret, exec_skip]
      with_reducible rfl
    refine hK2 (fun hh => by unfold headOk at hh; omega) _ ?_
    unfold pF; simp only [Sl_cons, Sl_nil, T.get_set, T.puts_cons, T.puts_nil, Nat.reduceEqDiff, Nat.reduceAdd, if_true, if_false, and_true, true_and]
  by_cases h2 : ((9 : Nat) : Int) < d.kind
  · apply W.run 20
    · intro M
      simp (config := { maxSteps := 4000000 }) (disch := first | decide +kernel | (rw [wantF_guard]; simp only [wantD_some, dstAt_zero, dstAt_succ, T.get_set, T.get_e, Nat.reduceEqDiff, if_true, if_false, wantV_bool, wantV_unit, unitV, cond_true, cond_false, Bool.not_true, Bool.not_false, List.toList_toArray]) | omega) only [c31, Try.f31, Option.getD_some, sub_seq1, sub_seq0, sub_nil, exec_seq, exec_region, runOps_cons, opF_fieldAddr, ev_tmp, g4, evG_some, putT_some, opF_load, T.get_set, if_true, opF_ari, Nat.reduceEqDiff, if_false, ev_int, opF_move, R.ok_bind, fa35_0, l1, binF_int, op_lssI, h1, decide_false, runOps_yes, opF_pick, pickF, ev_bool, op_gtr, h2, decide_true, runOps_no, runOps_nil, exec_cond, opF_assign, ev_nilslice, exec_ret, exec_skip]
      with_reducible rfl
    refine hK2 (fun hh => by unfold headOk at hh; omega) _ ?_
    unfold pF; simp only [Sl_cons, Sl_nil, T.get_set, T.puts_cons, T.puts_nil, Nat.reduceEqDiff, Nat.reduceAdd, if_true, if_false, and_true, true_and]
  by_cases h3 : d.arm < ((0 : Nat) : Int)
  · apply W.run 20
    · intro M
      simp (config := { maxSteps := 4000000 }) (disch := first | decide +kernel | (rw [wantF_guard]; simp only [wantD_some, dstAt_zero, dstAt_succ, T.get_set, T.get_e, Nat.reduceEqDiff, if_true, if_false, wantV_bool, wantV_unit, unitV, cond_true, cond_false, Bool.not_true, Bool.not_false, List.toList_toArray]) | omega) only [c31, Try.f31, Option.getD_some, sub_seq1, sub_seq0, sub_nil, exec_seq, exec_region, runOps_cons, opF_fieldAddr, ev_tmp, g4, evG_some, putT_some, opF_load, T.get_set, if_true, opF_ari, Nat.reduceEqDiff, if_false, ev_int, opF_move, R.ok_bind, fa35_0, l1, binF_int, op_lssI, h1, decide_false, runOps_yes, opF_pick, pickF, ev_bool, op_gtr, h2, g1, fa81_1, l2, h3, decide_true, runOps_no, runOps_nil, exec_cond, opF_assign, ev_nilslice, exec_ret, exec_skip]
      with_reducible rfl
    refine hK2 (fun hh => by unfold headOk at hh; omega) _ ?_
    unfold pF; simp only [Sl_cons, Sl_nil, T.get_set, T.puts_cons, T.puts_nil, Nat.reduceEqDiff, Nat.reduceAdd, if_true, if_false, and_true, true_and]
  by_cases h4 : ((256 : Nat) : Int) < d.arm
  · apply W.run 20
    · intro M
      simp (config := { maxSteps := 4000000 }) (disch := first | decide +kernel | (rw [wantF_guard]; simp only [wantD_some, dstAt_zero, dstAt_succ, T.get_set, T.get_e, Nat.reduceEqDiff, if_true, if_false, wantV_bool, wantV_unit, unitV, cond_true, cond_false, Bool.not_true, Bool.not_false, List.toList_toArray]) | omega) only [c31, Try.f31, Option.getD_some, sub_seq1, sub_seq0, sub_nil, exec_seq, exec_region, runOps_cons, opF_fieldAddr, ev_tmp, g4, evG_some, putT_some, opF_load, T.get_set, if_true, opF_ari, Nat.reduceEqDiff, if_false, ev_int, opF_move, R.ok_bind, fa35_0, l1, binF_int, op_lssI, h1, decide_false, runOps_yes, opF_pick, pickF, ev_bool, op_gtr, h2, g1, fa81_1, l2, h3, h4, decide_true, runOps_no, runOps_nil, exec_cond, opF_assign, ev_nilslice, exec_ret, exec_skip]
      with_reducible rfl
    refine hK2 (fun hh => by unfold headOk at hh; omega) _ ?_
    unfold pF; simp only [Sl_cons, Sl_nil, T.get_set, T.puts_cons, T.puts_nil, Nat.reduceEqDiff, Nat.reduceAdd, if_true, if_false, and_true, true_and]
  by_cases h5 : 5 < d.stays.length
  · apply W.run 20
    · intro M
      simp (config := { maxSteps := 4000000 }) (disch := first | decide +kernel | (rw [wantF_guard]; simp only [wantD_some, dstAt_zero, dstAt_succ, T.get_set, T.get_e, Nat.reduceEqDiff, if_true, if_false, wantV_bool, wantV_unit, unitV, cond_true, cond_false, Bool.not_true, Bool.not_false, List.toList_toArray]) | omega) only [c31, Try.f31, Option.getD_some, sub_seq1, sub_seq0, sub_nil, exec_seq, exec_region, runOps_cons, opF_fieldAddr, ev_tmp, g4, evG_some, putT_some, opF_load, T.get_set, if_true, opF_ari, Nat.reduceEqDiff, if_false, ev_int, opF_move, R.ok_bind, fa35_0, l1, binF_int, op_lssI, h1, decide_false, runOps_yes, opF_pick, pickF, ev_bool, op_gtr, h2, g1, fa81_1, l2, h3, h4, opF_len, evs, fa81_3, l3, q3, cast_lt, h5, decide_true, runOps_no, runOps_nil, exec_cond, opF_assign, ev_nilslice, exec_ret, exec_skip]
      with_reducible rfl
    refine hK2 (fun hh => by unfold headOk at hh; omega) _ ?_
    unfold pF; simp only [Sl_cons, Sl_nil, T.get_set, T.puts_cons, T.puts_nil, Nat.reduceEqDiff, Nat.reduceAdd, if_true, if_false, and_true, true_and]
  by_cases h6 : 3 < d.opening.length
  · apply W.run 20
    · intro M
      simp (config := { maxSteps := 4000000 }) (disch := first | decide +kernel | (rw [wantF_guard]; simp only [wantD_some, dstAt_zero, dstAt_succ, T.get_set, T.get_e, Nat.reduceEqDiff, if_true, if_false, wantV_bool, wantV_unit, unitV, cond_true, cond_false, Bool.not_true, Bool.not_false, List.toList_toArray]) | omega) only [c31, Try.f31, Option.getD_some, sub_seq1, sub_seq0, sub_nil, exec_seq, exec_region, runOps_cons, opF_fieldAddr, ev_tmp, g4, evG_some, putT_some, opF_load, T.get_set, if_true, opF_ari, Nat.reduceEqDiff, if_false, ev_int, opF_move, R.ok_bind, fa35_0, l1, binF_int, op_lssI, h1, decide_false, runOps_yes, opF_pick, pickF, ev_bool, op_gtr, h2, g1, fa81_1, l2, h3, h4, opF_len, evs, fa81_3, l3, q3, cast_lt, h5, runOps_nil, fa81_4, l4, q4, h6, decide_true, exec_cond, opF_assign, ev_nilslice, exec_ret, exec_skip]
      with_reducible rfl
    refine hK2 (fun hh => by unfold headOk at hh; omega) _ ?_
    unfold pF; simp only [Sl_cons, Sl_nil, T.get_set, T.puts_cons, T.puts_nil, Nat.reduceEqDiff, Nat.reduceAdd, if_true, if_false, and_true, true_and]
  · apply W.run 20
    · intro M
      simp (config := { maxSteps := 4000000 }) (disch := first | decide +kernel | (rw [wantF_guard]; simp only [wantD_some, dstAt_zero, dstAt_succ, T.get_set, T.get_e, Nat.reduceEqDiff, if_true, if_false, wantV_bool, wantV_unit, unitV, cond_true, cond_false, Bool.not_true, Bool.not_false, List.toList_toArray]) | omega) only [c31, Try.f31, Option.getD_some, sub_seq1, sub_seq0, sub_nil, exec_seq, exec_region, runOps_cons, opF_fieldAddr, ev_tmp, g4, evG_some, putT_some, opF_load, T.get_set, if_true, opF_ari, Nat.reduceEqDiff, if_false, ev_int, opF_move, R.ok_bind, fa35_0, l1, binF_int, op_lssI, h1, decide_false, runOps_yes, opF_pick, pickF, ev_bool, op_gtr, h2, g1, fa81_1, l2, h3, h4, opF_len, evs, fa81_3, l3, q3, cast_lt, h5, runOps_nil, fa81_4, l4, q4, h6, exec_cond, opF_assign, ev_nilslice, exec_ret, exec_skip]
      with_reducible rfl
    refine hK1 (by unfold headOk; omega) _ ?_
    simp only [Sl_cons, Sl_nil, T.get_set, T.puts_cons, T.puts_nil, Nat.reduceEqDiff, Nat.reduceAdd, if_true, if_false, and_true, true_and, g1, g4]
/-- The first byte. -/
def kindB (kd ar : Nat) (c : Bool) : Nat := kd + (if c = true then 10 else 0) + (if ar = 0 then 0 else 20)
set_option maxHeartbeats 16000000 in
theorem put_kind {kd ar : Nat} (hk : d.kind = (kd : Int)) (ha : d.arm = (ar : Int)) (hkd : kd ≤ 9) (har : ar ≤ 256) (h : PA A d xs xo B) (hp : Sl t [(1, .pointer (some ⟨A.next, 0, none⟩)), (4, .pointer (some ⟨A.next + 1, 0, none⟩))]) {cc : Code}
    (hK1 : ∀ y C t', Own B ([UInt8.ofNat (kindB kd ar d.cut)] ++ encR ar) y C → Sl t' (pS A y) → W tb1 cc ⟨t', 243, [], C, none⟩ K) :
    W tb1 (.seq (sub c31 [1,1,1,0]) (.seq (sub c31 [1,1,1,1,0]) (.seq (sub c31 [1,1,1,1,1,0]) (.seq (sub c31 [1,1,1,1,1,1,0]) (.seq (sub c31 [1,1,1,1,1,1,1,0]) cc))))) ⟨t, 243, [], B, none⟩ K := by
  obtain ⟨g1, g4, -⟩ := hp
  have hl := h.l (Ext.refl B)
  have l1 := hl.kind
  have l2 := hl.arm
  have l3 := hl.cut
  rw [hk] at l1
  rw [ha] at l2
  apply W.seq
  apply W.run 20
  · intro M
    simp (config := { maxSteps := 4000000 }) (disch := first | decide +kernel | omega) only [c31, Try.f31, Option.getD_some, sub_seq1, sub_seq0, sub_nil, exec_region, runOps_cons, opF_fieldAddr, ev_tmp, g4, evG_some, putT_some, opF_load, T.get_set, if_true, opF_assign, Nat.reduceEqDiff, if_false, runOps_nil, R.ok_bind, fa35_0, l1]
    with_reducible rfl
  -- the cut
  have first : ∀ {K : Ex → St → Prop} {t : T Value}, Sl t [(1, .pointer (some ⟨A.next, 0, none⟩)), (4, .pointer (some ⟨A.next + 1, 0, none⟩)), (5, .int .i64 (kd : Int))] →
      (∀ t', Sl t' [(1, .pointer (some ⟨A.next, 0, none⟩)), (4, .pointer (some ⟨A.next + 1, 0, none⟩)), (5, .int .i64 ((kd + (if d.cut = true then 10 else 0) : Nat) : Int))] → K .nrm ⟨t', 243, [], B, none⟩) → W tb1 (sub c31 [1,1,1,1,0]) ⟨t, 243, [], B, none⟩ K := by
    rintro K t ⟨g1, g4, g5, -⟩ hK
    cases hc : d.cut with
    | true =>
      rw [hc] at l3
      rw [hc, if_pos rfl] at hK
      apply W.run 20
      · intro M
        simp (config := { maxSteps := 4000000 }) (disch := first | decide +kernel | omega) only [c31, Try.f31, Option.getD_some, sub_seq1, sub_seq0, sub_nil, exec_seq, exec_region, runOps_cons, opF_fieldAddr, ev_tmp, g1, evG_some, putT_some, opF_load, T.get_set, if_true, runOps_nil, R.ok_bind, fa81_2, l3, exec_cond, opF_move, exec_skip, Nat.reduceEqDiff, if_false, g5, opF_ari, ev_int, opF_assign, binF_int, op_add_i64]
        with_reducible rfl
      apply hK
      simp only [Sl_cons, Sl_nil, T.get_set, T.puts_cons, T.puts_nil, Nat.reduceEqDiff, Nat.reduceAdd, if_true, if_false, and_true, true_and, g1, g4]
    | false =>
      rw [hc] at l3
      rw [hc, if_neg (by simp)] at hK
      apply W.run 20
      · intro M
        simp (config := { maxSteps := 4000000 }) (disch := first | decide +kernel | omega) only [c31, Try.f31, Option.getD_some, sub_seq1, sub_seq0, sub_nil, exec_seq, exec_region, runOps_cons, opF_fieldAddr, ev_tmp, g1, evG_some, putT_some, opF_load, T.get_set, if_true, runOps_nil, R.ok_bind, fa81_2, l3, exec_cond, opF_move, exec_skip, Nat.reduceEqDiff, if_false, g5, opF_ari, ev_int, opF_assign, binF_int, op_add_i64]
        with_reducible rfl
      apply hK
      simp only [Sl_cons, Sl_nil, T.get_set, T.puts_cons, T.puts_nil, Nat.reduceEqDiff, Nat.reduceAdd, if_true, if_false, and_true, true_and, g1, g4, g5, Nat.add_zero]
  apply W.seq
  refine first (by simp only [Sl_cons, Sl_nil, T.get_set, T.puts_cons, T.puts_nil, Nat.reduceEqDiff, Nat.reduceAdd, if_true, if_false, and_true, true_and, g1, g4]) ?_
  clear g1 g4
  rintro t ⟨g1, g4, g5, -⟩
  obtain ⟨k1, hk1⟩ : ∃ k1, kd + (if d.cut = true then 10 else 0) = k1 := ⟨_, rfl⟩
  rw [hk1] at g5
  have hk1b : k1 ≤ 19 := by rw [← hk1]; split <;> omega
  have hkb : kindB kd ar d.cut = k1 + (if ar = 0 then 0 else 20) := by unfold kindB; rw [hk1]
  rw [hkb] at hK1
  apply W.seq
  by_cases h0 : ar = 0
  · have hnew := Own.new (Ext.refl B) (l := [UInt8.ofNat k1]) (n := 1) (c := 2) rfl rfl
    rw [byts_ofNat (by omega)] at hnew
    have hmod : k1 % 256 = k1 := Nat.mod_eq_of_lt (by omega)
    have hl' := h.l hnew.1
    have l2' := hl'.arm
    rw [ha] at l2'
    have hnl : ¬ 0 < ar := by omega
    apply W.run 20
    · intro M
      simp (config := { maxSteps := 4000000 }) (disch := first | decide +kernel | omega) only [c31, Try.f31, Option.getD_some, sub_seq1, sub_seq0, sub_nil, exec_seq, exec_region, runOps_cons, opF_fieldAddr, ev_tmp, g1, evG_some, putT_some, opF_load, T.get_set, if_true, opF_ari, Nat.reduceEqDiff, if_false, ev_int, runOps_nil, R.ok_bind, fa81_1, l2, binF_int, op_gtr, cast_lt, hnl, decide_false, exec_cond, opF_move, exec_skip, g5, opF_assign, op_add_i64]
      with_reducible rfl
    apply W.seq
    apply W.run 20
    · intro M
      simp (config := { maxSteps := 4000000 }) (disch := first | decide +kernel | omega) only [c31, Try.f31, Option.getD_some, sub_seq1, sub_seq0, sub_nil, exec_region, runOps_cons, opF_move, ev_tmp, T.get_set, Nat.reduceEqDiff, g5, if_false, evG_some, putT_some, opF_conv, if_true, convPF, und3, und5, opF_buildSlice, evp, R.ok_bind, opF_assign, runOps_nil, wrapF_u8, hmod, bs22, at_slc]
      with_reducible rfl
    apply W.seq
    apply W.run 20
    · intro M
      simp (config := { maxSteps := 4000000 }) (disch := first | decide +kernel | omega) only [c31, Try.f31, Option.getD_some, sub_seq1, sub_seq0, sub_nil, exec_seq, exec_region, runOps_cons, opF_fieldAddr, ev_tmp, T.get_set, Nat.reduceEqDiff, g1, if_false, evG_some, putT_some, opF_load, if_true, opF_ari, ev_int, runOps_nil, R.ok_bind, fa81_1, l2', binF_int, op_gtr, cast_lt, hnl, decide_false, exec_cond, opF_move, exec_skip, opF_conv, opF_buildSlice, evp, opF_builtin, evs, opF_assign, builtin_append, op_sub_neg]
      with_reducible rfl
    have hO : Own B ([UInt8.ofNat (k1 + if ar = 0 then 0 else 20)] ++ encR ar) _ _ := (by rw [h0, if_pos rfl, Nat.add_zero, show encR 0 = [] from rfl, List.append_nil]; exact hnew)
    refine hK1 _ _ _ hO ?_
    unfold pS; simp only [Sl_cons, Sl_nil, T.get_set, T.puts_cons, T.puts_nil, Nat.reduceEqDiff, Nat.reduceAdd, if_true, if_false, and_true, true_and, g1, g4]
  · have hnew := Own.new (Ext.refl B) (l := [UInt8.ofNat (k1 + 20)]) (n := 1) (c := 2) rfl rfl
    rw [byts_ofNat (by omega)] at hnew
    have hmod : (k1 + 20) % 256 = k1 + 20 := Nat.mod_eq_of_lt (by omega)
    have hl' := h.l hnew.1
    have l2' := hl'.arm
    rw [ha] at l2'
    have hnl : 0 < ar := by omega
    have hmod2 : (ar - 1) % 256 = ar - 1 := Nat.mod_eq_of_lt (by omega)
    obtain ⟨y', D, happ, hO⟩ := hnew.push (v := ar - 1) (by simp) (by omega)
    apply W.run 20
    · intro M
      simp (config := { maxSteps := 4000000 }) (disch := first | decide +kernel | omega) only [c31, Try.f31, Option.getD_some, sub_seq1, sub_seq0, sub_nil, exec_seq, exec_region, runOps_cons, opF_fieldAddr, ev_tmp, g1, evG_some, putT_some, opF_load, T.get_set, if_true, opF_ari, Nat.reduceEqDiff, if_false, ev_int, runOps_nil, R.ok_bind, fa81_1, l2, binF_int, op_gtr, cast_lt, hnl, decide_true, exec_cond, opF_move, exec_skip, g5, opF_assign, op_add_i64]
      with_reducible rfl
    apply W.seq
    apply W.run 20
    · intro M
      simp (config := { maxSteps := 4000000 }) (disch := first | decide +kernel | omega) only [c31, Try.f31, Option.getD_some, sub_seq1, sub_seq0, sub_nil, exec_region, runOps_cons, opF_move, ev_tmp, T.get_set, Nat.reduceEqDiff, g5, if_false, if_true, evG_some, putT_some, opF_conv, convPF, und3, und5, opF_buildSlice, evp, R.ok_bind, opF_assign, runOps_nil, wrapF_u8, hmod, bs22, at_slc]
      with_reducible rfl
    apply W.seq
    apply W.run 20
    · intro M
      simp (config := { maxSteps := 4000000 }) (disch := first | decide +kernel | omega) only [c31, Try.f31, Option.getD_some, sub_seq1, sub_seq0, sub_nil, exec_seq, exec_region, runOps_cons, opF_fieldAddr, ev_tmp, T.get_set, Nat.reduceEqDiff, g1, if_false, evG_some, putT_some, opF_load, if_true, opF_ari, ev_int, und3, runOps_nil, R.ok_bind, fa81_1, l2', binF_int, op_gtr, cast_lt, hnl, decide_true, exec_cond, opF_move, exec_skip, opF_conv, convPF, und5, opF_buildSlice, evp, opF_builtin, evs, opF_assign, builtin_append, op_sub_i64, wrapF_u8, hmod2, bs22, at_slc, happ]
      with_reducible rfl
    have hO2 : Own B ([UInt8.ofNat (k1 + if ar = 0 then 0 else 20)] ++ encR ar) _ _ := (by rw [if_neg h0, show encR ar = [UInt8.ofNat (ar - 1)] by unfold encR; rw [if_neg h0]]; exact hO)
    refine hK1 _ _ _ hO2 ?_
    unfold pS; simp only [Sl_cons, Sl_nil, T.get_set, T.puts_cons, T.puts_nil, Nat.reduceEqDiff, Nat.reduceAdd, if_true, if_false, and_true, true_and, g1, g4]
set_option maxHeartbeats 16000000 in
theorem put_word (hA0 : 0 < A.next) {l : List UInt8} {y : Value} (hw : d.word.length ≤ 1000) (h : PA A d xs xo B) (hO : Own B l y C) (hl0 : l.length ≤ 1000) (hp : Sl t (pS A y)) {cc : Code}
    (hK1 : spellOk d.word = true → ∀ y C t', Own B (l ++ encW d.word) y C → Sl t' (pS A y) → W tb1 cc ⟨t', 243, [], C, none⟩ K)
    (hK2 : spellOk d.word = false → ∀ D t', Ext B D → Sl t' pF → K .ret ⟨t', 243, [], D, none⟩) :
    W tb1 (.seq (sub c31 [1,1,1,1,1,1,1,1,0]) (.seq (sub c31 [1,1,1,1,1,1,1,1,1,0]) (.seq (sub c31 [1,1,1,1,1,1,1,1,1,1,0]) cc))) ⟨t, 243, [], C, none⟩ K := by
  obtain ⟨g1, g4, g6, -⟩ := hp
  have hl := h.l hO.1
  have l1 := hl.word
  obtain ⟨z, D, ⟨g, hg⟩, hE, hz⟩ := run_rspell (A := C) hw
  have hOD := hO.ext hE
  apply W.seq
  apply W.runG (g) 20
  · intro M hM
    simp (config := { maxSteps := 4000000 }) (disch := first | decide +kernel | omega) only [c31, Try.f31, Option.getD_some, sub_seq1, sub_seq0, sub_nil, exec_region, runOps_cons, opF_fieldAddr, ev_tmp, g4, evG_some, putT_some, opF_load, T.get_set, if_true, opF_call, evs, Nat.reduceEqDiff, if_false, R.ok_bind, resK, opF_move, opF_extract, extractF, opF_assign, runOps_nil, fa35_1, l1, hg, List.getElem?_cons_zero, List.getElem?_cons_succ]
    with_reducible rfl
  cases hs : spellOk d.word with
  | true =>
    rw [hs] at hg
    have hz := hz hs
    obtain ⟨q, hq⟩ := hz.rd (by have := h.n; have := hO.1.n; omega)
    have hel : (encW d.word).length ≤ 1001 := by have := encW_len d.word; omega
    obtain ⟨y', D', happ, hO'⟩ := hOD.app hq (by omega)
    apply W.seq
    apply W.run 20
    · intro M
      simp (config := { maxSteps := 4000000 }) (disch := first | decide +kernel | omega) only [c31, Try.f31, Option.getD_some, sub_seq1, sub_seq0, sub_nil, exec_seq, exec_region, runOps_cons, opF_move, ev_tmp, T.get_set, Nat.reduceEqDiff, if_false, if_true, evG_some, putT_some, opF_un, runOps_nil, R.ok_bind, un_not, Bool.not_true, exec_cond, opF_assign, ev_nilslice, exec_ret, exec_skip, ev_bool]
      with_reducible rfl
    show W tb1 _ _ _
    apply W.seq
    apply W.run 20
    · intro M
      simp (config := { maxSteps := 4000000 }) (disch := first | decide +kernel | omega) only [c31, Try.f31, Option.getD_some, sub_seq1, sub_seq0, sub_nil, exec_region, runOps_cons, opF_move, ev_tmp, T.get_set, Nat.reduceEqDiff, g6, if_false, evG_some, putT_some, if_true, opF_builtin, evs, R.ok_bind, opF_assign, runOps_nil, builtin_append, happ]
      with_reducible rfl
    refine hK1 hs _ _ _ hO' ?_
    unfold pS; simp only [Sl_cons, Sl_nil, T.get_set, T.puts_cons, T.puts_nil, Nat.reduceEqDiff, Nat.reduceAdd, if_true, if_false, and_true, true_and, g1, g4]
  | false =>
    apply W.seq
    apply W.run 20
    · intro M
      simp (config := { maxSteps := 4000000 }) (disch := first | decide +kernel | omega) only [c31, Try.f31, Option.getD_some, sub_seq1, sub_seq0, sub_nil, exec_seq, exec_region, runOps_cons, opF_move, ev_tmp, T.get_set, Nat.reduceEqDiff, if_false, if_true, evG_some, putT_some, opF_un, runOps_nil, R.ok_bind, un_not, Bool.not_false, exec_cond, opF_assign, ev_nilslice, exec_ret, exec_skip, ev_bool]
      with_reducible rfl
    refine hK2 hs _ _ hOD.1 ?_
    unfold pF; simp only [Sl_cons, Sl_nil, T.get_set, T.puts_cons, T.puts_nil, Nat.reduceEqDiff, Nat.reduceAdd, if_true, if_false, and_true, true_and]
end
end Go.Proofs.Ytmhldlnlgjpkaaa.scr

/-
  Script: the document's put: weight, question, and what stays.
-/
namespace Go.Proofs.Ytmhldlnlgjpkaaa.scr
open Go.Am
set_option linter.unusedSimpArgs false
set_option linter.unusedVariables false
set_option linter.unusedVariables false
set_option maxRecDepth 20000

def weightB (kd wt : Nat) : List UInt8 := if weighs kd = true then [UInt8.ofNat (if wt = 4294967295 then 255 else wt)] else []
def weightOk (kd wt : Nat) : Prop := if weighs kd = true then wt < 255 ∨ wt = 4294967295 else wt = 0
def askB (kd : Nat) (k n : Int) : List UInt8 := if kd = 7 then [UInt8.ofNat ((k + 1) + 6 * (n + 1)).toNat] else []
def askOk (kd : Nat) (k n : Int) : Prop := if kd = 7 then (-1 ≤ k ∧ k ≤ 4) ∧ (-1 ≤ n ∧ n ≤ 10) else k = 0 ∧ n = 0
section
variable {A B C : Mem} {d : ActG} {xs xo : Value} {t : T Value} {K : Ex → St → Prop} {kd ar : Nat} {l : List UInt8} {y : Value}
set_option maxHeartbeats 16000000 in
theorem put_weight (hk : d.kind = (kd : Int)) (h : PA A d xs xo B) (hO : Own B l y C) (hl0 : l.length ≤ 3000) (hp : Sl t (pS A y)) 
    (hK1 : weightOk kd d.weight → ∀ y C t', Own B (l ++ weightB kd d.weight) y C → Sl t' (pS A y) → K .nrm ⟨t', 243, [], C, none⟩)
    (hK2 : ¬ weightOk kd d.weight → ∀ D t', Ext B D → Sl t' pF → K .ret ⟨t', 243, [], D, none⟩) :
    W tb1 (sub c31 [1,1,1,1,1,1,1,1,1,1,1,0]) ⟨t, 243, [], C, none⟩ K := by
  obtain ⟨g1, g4, g6, -⟩ := hp
  have hl := h.l hO.1
  have l1 := hl.kind
  have l2 := hl.weight
  rw [hk] at l1
  have heavy : weighs kd = true → ∀ {t : T Value}, Sl t (pS A y) → (∀ y C t', Own B (l ++ weightB kd d.weight) y C → weightOk kd d.weight → Sl t' (pS A y) → K .nrm ⟨t', 243, [], C, none⟩) → W tb1 (sub c31 [1,1,1,1,1,1,1,1,1,1,1,0,0,1,1]) ⟨t, 243, [], C, none⟩ (Blk 0 K) := by
    rintro hw t ⟨g1, g4, g6, -⟩ hK
    have e1 : weightB kd d.weight = [UInt8.ofNat (if d.weight = 4294967295 then 255 else d.weight)] := by unfold weightB; rw [if_pos hw]
    have e2 : weightOk kd d.weight = (d.weight < 255 ∨ d.weight = 4294967295) := by unfold weightOk; rw [if_pos hw]
    rw [e1, e2] at hK
    rw [e2] at hK2
    by_cases h1 : d.weight < 255
    · have hmod : d.weight % 256 = d.weight := Nat.mod_eq_of_lt (by omega)
      obtain ⟨y', D, happ, hO'⟩ := hO.push (v := d.weight) (by omega) (by omega)
      rw [if_neg (by omega)] at hK
      apply W.run 20
      · intro M
        simp (config := { maxSteps := 4000000 }) (disch := first | decide +kernel | omega) only [c31, Try.f31, Option.getD_some, sub_seq1, sub_seq0, sub_block, sub_cond1, sub_nil, exec_seq, exec_region, runOps_cons, opF_fieldAddr, ev_tmp, g4, evG_some, putT_some, opF_load, T.get_set, if_true, opF_ari, Nat.reduceEqDiff, if_false, ev_int, und33, opF_assign, runOps_nil, R.ok_bind, fa35_2, l2, binF_int, op_lssI, cast_lt, h1, decide_true, exec_cond, opF_move, ev_nilslice, exec_ret, g6, opF_conv, convPF, und5, opF_buildSlice, evp, opF_builtin, evs, builtin_append, wrapF_u8, hmod, bs22, at_slc, happ, opF_eql, op_eql, ev_bool, cond_val]
        with_reducible rfl
      refine hK _ _ _ hO' (.inl h1) ?_
      unfold pS; simp only [Sl_cons, Sl_nil, T.get_set, T.puts_cons, T.puts_nil, Nat.reduceEqDiff, Nat.reduceAdd, if_true, if_false, and_true, true_and, g1, g4]
    · by_cases h2 : d.weight = 4294967295
      · obtain ⟨y', D, happ, hO'⟩ := hO.push (v := 255) (by omega) (by omega)
        rw [if_pos h2] at hK
        apply W.run 20
        · intro M
          simp (config := { maxSteps := 4000000 }) (disch := first | decide +kernel | omega) only [c31, Try.f31, Option.getD_some, sub_seq1, sub_seq0, sub_block, sub_cond1, sub_nil, exec_seq, exec_region, runOps_cons, opF_fieldAddr, ev_tmp, g4, evG_some, putT_some, opF_load, T.get_set, if_true, opF_ari, Nat.reduceEqDiff, if_false, ev_int, opF_assign, runOps_nil, R.ok_bind, fa35_2, l2, h2, binF_int, op_lssI, cast_lt, Nat.reduceLT, decide_false, exec_cond, opF_move, ev_nilslice, exec_ret, g6, opF_conv, opF_buildSlice, evp, opF_builtin, evs, builtin_append, opF_eql, op_eql, decide_true, bs22, at_slc, happ, ev_bool]
          with_reducible rfl
        refine hK _ _ _ hO' (.inr h2) ?_
        unfold pS; simp only [Sl_cons, Sl_nil, T.get_set, T.puts_cons, T.puts_nil, Nat.reduceEqDiff, Nat.reduceAdd, if_true, if_false, and_true, true_and, g1, g4]
      · apply W.run 20
        · intro M
          simp (config := { maxSteps := 4000000 }) (disch := first | decide +kernel | omega) only [c31, Try.f31, Option.getD_some, sub_seq1, sub_seq0, sub_block, sub_cond1, sub_nil, exec_seq, exec_region, runOps_cons, opF_fieldAddr, ev_tmp, g4, evG_some, putT_some, opF_load, T.get_set, if_true, opF_ari, Nat.reduceEqDiff, if_false, ev_int, opF_assign, runOps_nil, R.ok_bind, fa35_2, l2, binF_int, op_lssI, cast_lt, h1, decide_false, exec_cond, opF_move, ev_nilslice, exec_ret, g6, opF_conv, opF_buildSlice, evp, opF_builtin, evs, builtin_append, opF_eql, op_eql, h2, ev_bool]
          with_reducible rfl
        refine hK2 (by omega) _ _ hO.1 ?_
        unfold pF; simp only [Sl_cons, Sl_nil, T.get_set, T.puts_cons, T.puts_nil, Nat.reduceEqDiff, Nat.reduceAdd, if_true, if_false, and_true, true_and]
  have eb : sub c31 [1,1,1,1,1,1,1,1,1,1,1,0] = .block 0 (.seq (sub c31 [1,1,1,1,1,1,1,1,1,1,1,0,0,0]) (.cond (.tmp 81) (sub c31 [1,1,1,1,1,1,1,1,1,1,1,0,0,1,0]) (sub c31 [1,1,1,1,1,1,1,1,1,1,1,0,0,1,1]))) := by kernel_rfl
  rw [eb]
  apply W.block
  apply W.seq
  by_cases h0 : kd = 0
  · have hn0 : decide (kd ≠ 0) = false := decide_eq_false (fun h => h h0)
    apply W.run 20
    · intro M
      simp (config := { maxSteps := 4000000 }) (disch := first | decide +kernel | (rw [wantF_guard]; simp only [wantD_some, dstAt_zero, dstAt_succ, T.get_set, T.get_e, Nat.reduceEqDiff, if_true, if_false, wantV_bool, wantV_unit, unitV, cond_true, cond_false, Bool.not_true, Bool.not_false, List.toList_toArray]) | omega) only [c31, Try.f31, Option.getD_some, sub_seq1, sub_seq0, sub_block, sub_nil, exec_region, runOps_cons, opF_fieldAddr, ev_tmp, g4, evG_some, putT_some, opF_load, T.get_set, if_true, opF_neq, Nat.reduceEqDiff, if_false, ev_int, opF_move, R.ok_bind, fa35_0, l1, binF_int, op_neq, ne_eq, hn0, runOps_no, opF_pick, pickF, ev_bool, opF_assign, runOps_nil]
      with_reducible rfl
    refine W.cond (p := false) (by simp only [ev_tmp, T.get_set, if_true, evG_some]) (fun h => by cases h) (fun _ => ?_)
    exact heavy (by simp [weighs, h0]) (by unfold pS; simp only [Sl_cons, Sl_nil, T.get_set, T.puts_cons, T.puts_nil, Nat.reduceEqDiff, Nat.reduceAdd, if_true, if_false, and_true, true_and, g1, g4, g6]) (fun y C t' hO hw hS => hK1 hw y C t' hO hS)
  · by_cases h2 : kd = 2
    · apply W.run 20
      · intro M
        simp (config := { maxSteps := 4000000 }) (disch := first | decide +kernel | (rw [wantF_guard]; simp only [wantD_some, dstAt_zero, dstAt_succ, T.get_set, T.get_e, Nat.reduceEqDiff, if_true, if_false, wantV_bool, wantV_unit, unitV, cond_true, cond_false, Bool.not_true, Bool.not_false, List.toList_toArray]) | omega) only [c31, Try.f31, Option.getD_some, sub_seq1, sub_seq0, sub_block, sub_nil, exec_region, runOps_cons, opF_fieldAddr, ev_tmp, g4, evG_some, putT_some, opF_load, T.get_set, if_true, opF_neq, Nat.reduceEqDiff, if_false, ev_int, opF_move, R.ok_bind, fa35_0, l1, h2, binF_int, op_neq, ne_eq, not_false_eq_true, decide_true, runOps_yes, opF_pick, pickF, ev_bool, opF_assign, runOps_nil, not_true_eq_false, decide_false]
        with_reducible rfl
      refine W.cond (p := false) (by simp only [ev_tmp, T.get_set, if_true, evG_some]) (fun h => by cases h) (fun _ => ?_)
      exact heavy (by simp [weighs, h2]) (by unfold pS; simp only [Sl_cons, Sl_nil, T.get_set, T.puts_cons, T.puts_nil, Nat.reduceEqDiff, Nat.reduceAdd, if_true, if_false, and_true, true_and, g1, g4, g6]) (fun y C t' hO hw hS => hK1 hw y C t' hO hS)
    · have hw : weighs kd = false := by simp [weighs, h0, h2]
      have e1 : weightB kd d.weight = [] := by unfold weightB; rw [if_neg (by simp [hw])]
      have e2 : weightOk kd d.weight = (d.weight = 0) := by unfold weightOk; rw [if_neg (by simp [hw])]
      rw [e1, e2, List.append_nil] at hK1
      rw [e2] at hK2
      apply W.run 20
      · intro M
        simp (config := { maxSteps := 4000000 }) (disch := first | decide +kernel | (rw [wantF_guard]; simp only [wantD_some, dstAt_zero, dstAt_succ, T.get_set, T.get_e, Nat.reduceEqDiff, if_true, if_false, wantV_bool, wantV_unit, unitV, cond_true, cond_false, Bool.not_true, Bool.not_false, List.toList_toArray]) | omega) only [c31, Try.f31, Option.getD_some, sub_seq1, sub_seq0, sub_block, sub_nil, exec_region, runOps_cons, opF_fieldAddr, ev_tmp, g4, evG_some, putT_some, opF_load, T.get_set, if_true, opF_neq, Nat.reduceEqDiff, if_false, ev_int, opF_move, R.ok_bind, fa35_0, l1, binF_int, op_neq, ne_eq, h0, not_false_eq_true, decide_true, runOps_yes, opF_pick, pickF, ev_bool, opF_assign, runOps_nil, h2]
        with_reducible rfl
      refine W.cond (p := true) (by simp only [ev_tmp, T.get_set, if_true, evG_some]) (fun _ => ?_) (fun h => by cases h)
      by_cases hz : d.weight = 0
      · have hz' : decide (d.weight ≠ 0) = false := decide_eq_false (fun h => h hz)
        apply W.run 20
        · intro M
          simp (config := { maxSteps := 4000000 }) (disch := first | decide +kernel | omega) only [c31, Try.f31, Option.getD_some, sub_seq1, sub_seq0, sub_block, sub_cond0, sub_nil, exec_seq, exec_region, runOps_cons, opF_fieldAddr, ev_tmp, T.get_set, Nat.reduceEqDiff, g4, if_false, evG_some, putT_some, opF_load, if_true, opF_neq, ev_int, runOps_nil, R.ok_bind, fa35_2, l2, hz, binF_int, op_neq, ne_eq, not_true_eq_false, decide_false, exec_cond, opF_assign, ev_nilslice, exec_ret, exec_skip, ev_bool]
          with_reducible rfl
        refine hK1 hz _ _ _ hO ?_
        unfold pS; simp only [Sl_cons, Sl_nil, T.get_set, T.puts_cons, T.puts_nil, Nat.reduceEqDiff, Nat.reduceAdd, if_true, if_false, and_true, true_and, g1, g4, g6]
      · apply W.run 20
        · intro M
          simp (config := { maxSteps := 4000000 }) (disch := first | decide +kernel | omega) only [c31, Try.f31, Option.getD_some, sub_seq1, sub_seq0, sub_block, sub_cond0, sub_nil, exec_seq, exec_region, runOps_cons, opF_fieldAddr, ev_tmp, T.get_set, Nat.reduceEqDiff, g4, if_false, evG_some, putT_some, opF_load, if_true, opF_neq, ev_int, runOps_nil, R.ok_bind, fa35_2, l2, binF_int, op_neq, ne_eq, hz, not_false_eq_true, decide_true, exec_cond, opF_assign, ev_nilslice, exec_ret, exec_skip, ev_bool]
          with_reducible rfl
        refine hK2 hz _ _ hO.1 ?_
        unfold pF; simp only [Sl_cons, Sl_nil, T.get_set, T.puts_cons, T.puts_nil, Nat.reduceEqDiff, Nat.reduceAdd, if_true, if_false, and_true, true_and]
set_option maxHeartbeats 16000000 in
theorem put_ask (hk : d.kind = (kd : Int)) (h : PA A d xs xo B) (hO : Own B l y C) (hl0 : l.length ≤ 3000) (hp : Sl t (pS A y)) 
    (hK1 : askOk kd d.k d.n → ∀ y C t', Own B (l ++ askB kd d.k d.n) y C → Sl t' (pS A y) → K .nrm ⟨t', 243, [], C, none⟩)
    (hK2 : ¬ askOk kd d.k d.n → ∀ D t', Ext B D → Sl t' pF → K .ret ⟨t', 243, [], D, none⟩) :
    W tb1 (sub c31 [1,1,1,1,1,1,1,1,1,1,1,1,0]) ⟨t, 243, [], C, none⟩ K := by
  obtain ⟨g1, g4, g6, -⟩ := hp
  have hl := h.l hO.1
  have l1 := hl.kind
  have l2 := hl.k
  have l3 := hl.n
  rw [hk] at l1
  have eb : sub c31 [1,1,1,1,1,1,1,1,1,1,1,1,0] = .seq (sub c31 [1,1,1,1,1,1,1,1,1,1,1,1,0,0]) (.cond (.tmp 112) (sub c31 [1,1,1,1,1,1,1,1,1,1,1,1,0,1,0]) (sub c31 [1,1,1,1,1,1,1,1,1,1,1,1,0,1,1])) := by kernel_rfl
  rw [eb]
  apply W.seq
  by_cases h7 : kd = 7
  · have e1 : askB kd d.k d.n = [UInt8.ofNat ((d.k + 1) + 6 * (d.n + 1)).toNat] := by unfold askB; rw [if_pos h7]
    have e2 : askOk kd d.k d.n = ((-1 ≤ d.k ∧ d.k ≤ 4) ∧ (-1 ≤ d.n ∧ d.n ≤ 10)) := by unfold askOk; rw [if_pos h7]
    rw [e1, e2] at hK1
    rw [e2] at hK2
    apply W.run 20
    · intro M
      simp (config := { maxSteps := 4000000 }) (disch := first | decide +kernel | omega) only [c31, Try.f31, Option.getD_some, sub_seq1, sub_seq0, sub_nil, exec_region, runOps_cons, opF_fieldAddr, ev_tmp, g4, evG_some, putT_some, opF_load, T.get_set, if_true, opF_eql, Nat.reduceEqDiff, if_false, ev_int, runOps_nil, R.ok_bind, fa35_0, l1, h7, binF_int, op_eql, decide_true]
      with_reducible rfl
    refine W.cond (p := true) (by simp only [ev_tmp, T.get_set, if_true, evG_some]) (fun _ => ?_) (fun h => by cases h)
    by_cases a1 : d.k < -1
    · apply W.run 20
      · intro M
        simp (config := { maxSteps := 4000000 }) (disch := first | decide +kernel | (rw [wantF_guard]; simp only [wantD_some, dstAt_zero, dstAt_succ, T.get_set, T.get_e, Nat.reduceEqDiff, if_true, if_false, wantV_bool, wantV_unit, unitV, cond_true, cond_false, Bool.not_true, Bool.not_false, List.toList_toArray]) | omega) only [c31, Try.f31, Option.getD_some, sub_seq1, sub_seq0, sub_cond0, sub_nil, exec_seq, exec_region, runOps_cons, opF_fieldAddr, ev_tmp, T.get_set, Nat.reduceEqDiff, g4, if_false, evG_some, putT_some, opF_load, if_true, opF_ari, ev_neg1, opF_move, R.ok_bind, fa35_3, l2, binF_int, op_lssI, a1, decide_true, runOps_no, opF_pick, pickF, ev_bool, runOps_nil, exec_cond, opF_assign, ev_nilslice, exec_ret, exec_skip]
        with_reducible rfl
      refine hK2 (by omega) _ _ hO.1 ?_
      unfold pF; simp only [Sl_cons, Sl_nil, T.get_set, T.puts_cons, T.puts_nil, Nat.reduceEqDiff, Nat.reduceAdd, if_true, if_false, and_true, true_and]
    by_cases a2 : ((4 : Nat) : Int) < d.k
    · apply W.run 20
      · intro M
        simp (config := { maxSteps := 4000000 }) (disch := first | decide +kernel | (rw [wantF_guard]; simp only [wantD_some, dstAt_zero, dstAt_succ, T.get_set, T.get_e, Nat.reduceEqDiff, if_true, if_false, wantV_bool, wantV_unit, unitV, cond_true, cond_false, Bool.not_true, Bool.not_false, List.toList_toArray]) | omega) only [c31, Try.f31, Option.getD_some, sub_seq1, sub_seq0, sub_cond0, sub_nil, exec_seq, exec_region, runOps_cons, opF_fieldAddr, ev_tmp, T.get_set, Nat.reduceEqDiff, g4, if_false, evG_some, putT_some, opF_load, if_true, opF_ari, ev_neg1, opF_move, R.ok_bind, fa35_3, l2, binF_int, op_lssI, a1, decide_false, runOps_yes, ev_int, opF_pick, pickF, ev_bool, op_gtr, a2, decide_true, runOps_no, runOps_nil, exec_cond, opF_assign, ev_nilslice, exec_ret, exec_skip]
        with_reducible rfl
      refine hK2 (by omega) _ _ hO.1 ?_
      unfold pF; simp only [Sl_cons, Sl_nil, T.get_set, T.puts_cons, T.puts_nil, Nat.reduceEqDiff, Nat.reduceAdd, if_true, if_false, and_true, true_and]
    by_cases a3 : d.n < -1
    · apply W.run 20
      · intro M
        simp (config := { maxSteps := 4000000 }) (disch := first | decide +kernel | (rw [wantF_guard]; simp only [wantD_some, dstAt_zero, dstAt_succ, T.get_set, T.get_e, Nat.reduceEqDiff, if_true, if_false, wantV_bool, wantV_unit, unitV, cond_true, cond_false, Bool.not_true, Bool.not_false, List.toList_toArray]) | omega) only [c31, Try.f31, Option.getD_some, sub_seq1, sub_seq0, sub_cond0, sub_nil, exec_seq, exec_region, runOps_cons, opF_fieldAddr, ev_tmp, T.get_set, Nat.reduceEqDiff, g4, if_false, evG_some, putT_some, opF_load, if_true, opF_ari, ev_neg1, opF_move, R.ok_bind, fa35_3, l2, binF_int, op_lssI, a1, decide_false, runOps_yes, ev_int, opF_pick, pickF, ev_bool, op_gtr, a2, fa35_4, l3, a3, decide_true, runOps_no, runOps_nil, exec_cond, opF_assign, ev_nilslice, exec_ret, exec_skip]
        with_reducible rfl
      refine hK2 (by omega) _ _ hO.1 ?_
      unfold pF; simp only [Sl_cons, Sl_nil, T.get_set, T.puts_cons, T.puts_nil, Nat.reduceEqDiff, Nat.reduceAdd, if_true, if_false, and_true, true_and]
    by_cases a4 : ((10 : Nat) : Int) < d.n
    · apply W.run 20
      · intro M
        simp (config := { maxSteps := 4000000 }) (disch := first | decide +kernel | (rw [wantF_guard]; simp only [wantD_some, dstAt_zero, dstAt_succ, T.get_set, T.get_e, Nat.reduceEqDiff, if_true, if_false, wantV_bool, wantV_unit, unitV, cond_true, cond_false, Bool.not_true, Bool.not_false, List.toList_toArray]) | omega) only [c31, Try.f31, Option.getD_some, sub_seq1, sub_seq0, sub_cond0, sub_nil, exec_seq, exec_region, runOps_cons, opF_fieldAddr, ev_tmp, T.get_set, Nat.reduceEqDiff, g4, if_false, evG_some, putT_some, opF_load, if_true, opF_ari, ev_neg1, opF_move, R.ok_bind, fa35_3, l2, binF_int, op_lssI, a1, decide_false, runOps_yes, ev_int, opF_pick, pickF, ev_bool, op_gtr, a2, fa35_4, l3, a3, runOps_nil, a4, decide_true, exec_cond, opF_assign, ev_nilslice, exec_ret, exec_skip]
        with_reducible rfl
      refine hK2 (by omega) _ _ hO.1 ?_
      unfold pF; simp only [Sl_cons, Sl_nil, T.get_set, T.puts_cons, T.puts_nil, Nat.reduceEqDiff, Nat.reduceAdd, if_true, if_false, and_true, true_and]
    obtain ⟨p, hp⟩ : ∃ p : Nat, d.k + ((1 : Nat) : Int) = (p : Int) := ⟨(d.k + 1).toNat, by omega⟩
    obtain ⟨q, hq⟩ : ∃ q : Nat, d.n + ((1 : Nat) : Int) = (q : Int) := ⟨(d.n + 1).toNat, by omega⟩
    have i1 : intOpF .add .i64 d.k ((1 : Nat) : Int) = .ok (.int .i64 (p : Int)) := by rw [op_addI (by omega) (by omega), hp]
    have i2 : intOpF .add .i64 d.n ((1 : Nat) : Int) = .ok (.int .i64 (q : Int)) := by rw [op_addI (by omega) (by omega), hq]
    have hv : p + 6 * q < 256 := by omega
    have hmod : (p + 6 * q) % 256 = p + 6 * q := Nat.mod_eq_of_lt hv
    have htn : ((d.k + 1) + 6 * (d.n + 1)).toNat = p + 6 * q := by omega
    rw [htn] at hK1
    obtain ⟨y', D, happ, hO'⟩ := hO.push (v := p + 6 * q) (by omega) hv
    apply W.run 20
    · intro M
      simp (config := { maxSteps := 4000000 }) (disch := first | decide +kernel | (rw [wantF_guard]; simp only [wantD_some, dstAt_zero, dstAt_succ, T.get_set, T.get_e, Nat.reduceEqDiff, if_true, if_false, wantV_bool, wantV_unit, unitV, cond_true, cond_false, Bool.not_true, Bool.not_false, List.toList_toArray]) | omega) only [c31, Try.f31, Option.getD_some, sub_seq1, sub_seq0, sub_cond0, sub_nil, exec_seq, exec_region, runOps_cons, opF_fieldAddr, ev_tmp, T.get_set, Nat.reduceEqDiff, g4, if_false, evG_some, putT_some, opF_load, if_true, opF_ari, ev_neg1, und3, opF_move, R.ok_bind, fa35_3, l2, binF_int, op_lssI, a1, decide_false, runOps_yes, ev_int, opF_pick, pickF, ev_bool, op_gtr, a2, fa35_4, l3, a3, runOps_nil, a4, exec_cond, opF_assign, ev_nilslice, exec_ret, exec_skip, g6, opF_conv, convPF, und5, opF_buildSlice, evp, opF_builtin, evs, builtin_append, i2, op_mul_i64, i1, op_add_i64, wrapF_u8, hmod, bs22, at_slc, happ]
      with_reducible rfl
    refine hK1 (by omega) _ _ _ hO' ?_
    unfold pS; simp only [Sl_cons, Sl_nil, T.get_set, T.puts_cons, T.puts_nil, Nat.reduceEqDiff, Nat.reduceAdd, if_true, if_false, and_true, true_and, g1, g4]
  · have e1 : askB kd d.k d.n = [] := by unfold askB; rw [if_neg h7]
    have e2 : askOk kd d.k d.n = (d.k = 0 ∧ d.n = 0) := by unfold askOk; rw [if_neg h7]
    rw [e1, e2, List.append_nil] at hK1
    rw [e2] at hK2
    apply W.run 20
    · intro M
      simp (config := { maxSteps := 4000000 }) (disch := first | decide +kernel | omega) only [c31, Try.f31, Option.getD_some, sub_seq1, sub_seq0, sub_nil, exec_region, runOps_cons, opF_fieldAddr, ev_tmp, g4, evG_some, putT_some, opF_load, T.get_set, if_true, opF_eql, Nat.reduceEqDiff, if_false, ev_int, runOps_nil, R.ok_bind, fa35_0, l1, binF_int, op_eql, h7, decide_false]
      with_reducible rfl
    refine W.cond (p := false) (by simp only [ev_tmp, T.get_set, if_true, evG_some]) (fun h => by cases h) (fun _ => ?_)
    by_cases a1 : d.k = 0
    · by_cases a2 : d.n = 0
      · rw [a1] at l2
        rw [a2] at l3
        have z0 : intOpF .neq .i64 0 ((0 : Nat) : Int) = .ok (.bool false) := by rfl
        apply W.run 20
        · intro M
          simp (config := { maxSteps := 4000000 }) (disch := first | decide +kernel | (rw [wantF_guard]; simp only [wantD_some, dstAt_zero, dstAt_succ, T.get_set, T.get_e, Nat.reduceEqDiff, if_true, if_false, wantV_bool, wantV_unit, unitV, cond_true, cond_false, Bool.not_true, Bool.not_false, List.toList_toArray]) | omega) only [c31, Try.f31, Option.getD_some, sub_seq1, sub_seq0, sub_cond1, sub_nil, exec_seq, exec_region, runOps_cons, opF_fieldAddr, ev_tmp, T.get_set, Nat.reduceEqDiff, g4, if_false, evG_some, putT_some, opF_load, if_true, opF_neq, ev_int, opF_move, R.ok_bind, fa35_3, l2, binF_int, z0, runOps_yes, opF_pick, pickF, ev_bool, runOps_nil, fa35_4, l3, exec_cond, opF_assign, ev_nilslice, exec_ret, exec_skip]
          with_reducible rfl
        refine hK1 ⟨a1, a2⟩ _ _ _ hO ?_
        unfold pS; simp only [Sl_cons, Sl_nil, T.get_set, T.puts_cons, T.puts_nil, Nat.reduceEqDiff, Nat.reduceAdd, if_true, if_false, and_true, true_and, g1, g4, g6]
      · rw [a1] at l2
        have z0 : intOpF .neq .i64 0 ((0 : Nat) : Int) = .ok (.bool false) := by rfl
        have z1 : intOpF .neq .i64 d.n ((0 : Nat) : Int) = .ok (.bool true) := by rw [op_neqI, decide_eq_true (by omega)]
        apply W.run 20
        · intro M
          simp (config := { maxSteps := 4000000 }) (disch := first | decide +kernel | (rw [wantF_guard]; simp only [wantD_some, dstAt_zero, dstAt_succ, T.get_set, T.get_e, Nat.reduceEqDiff, if_true, if_false, wantV_bool, wantV_unit, unitV, cond_true, cond_false, Bool.not_true, Bool.not_false, List.toList_toArray]) | omega) only [c31, Try.f31, Option.getD_some, sub_seq1, sub_seq0, sub_cond1, sub_nil, exec_seq, exec_region, runOps_cons, opF_fieldAddr, ev_tmp, T.get_set, Nat.reduceEqDiff, g4, if_false, evG_some, putT_some, opF_load, if_true, opF_neq, ev_int, opF_move, R.ok_bind, fa35_3, l2, binF_int, z0, runOps_yes, opF_pick, pickF, ev_bool, runOps_nil, fa35_4, l3, z1, exec_cond, opF_assign, ev_nilslice, exec_ret, exec_skip]
          with_reducible rfl
        refine hK2 (fun h => a2 h.2) _ _ hO.1 ?_
        unfold pF; simp only [Sl_cons, Sl_nil, T.get_set, T.puts_cons, T.puts_nil, Nat.reduceEqDiff, Nat.reduceAdd, if_true, if_false, and_true, true_and]
    · have z1 : intOpF .neq .i64 d.k ((0 : Nat) : Int) = .ok (.bool true) := by rw [op_neqI, decide_eq_true (by omega)]
      apply W.run 20
      · intro M
        simp (config := { maxSteps := 4000000 }) (disch := first | decide +kernel | (rw [wantF_guard]; simp only [wantD_some, dstAt_zero, dstAt_succ, T.get_set, T.get_e, Nat.reduceEqDiff, if_true, if_false, wantV_bool, wantV_unit, unitV, cond_true, cond_false, Bool.not_true, Bool.not_false, List.toList_toArray]) | omega) only [c31, Try.f31, Option.getD_some, sub_seq1, sub_seq0, sub_cond1, sub_nil, exec_seq, exec_region, runOps_cons, opF_fieldAddr, ev_tmp, T.get_set, Nat.reduceEqDiff, g4, if_false, evG_some, putT_some, opF_load, if_true, opF_neq, ev_int, opF_move, R.ok_bind, fa35_3, l2, binF_int, z1, runOps_no, opF_pick, pickF, ev_bool, runOps_nil, exec_cond, opF_assign, ev_nilslice, exec_ret, exec_skip]
        with_reducible rfl
      refine hK2 (fun h => a1 h.1) _ _ hO.1 ?_
      unfold pF; simp only [Sl_cons, Sl_nil, T.get_set, T.puts_cons, T.puts_nil, Nat.reduceEqDiff, Nat.reduceAdd, if_true, if_false, and_true, true_and]
end
end Go.Proofs.Ytmhldlnlgjpkaaa.scr

/-
  Script: the document's put: openings, and all of it.
-/
namespace Go.Proofs.Ytmhldlnlgjpkaaa.scr
open Go.Am
set_option linter.unusedSimpArgs false
set_option linter.unusedVariables false
set_option linter.unusedVariables false
set_option maxRecDepth 20000

def openOk (p : Int × List Nat) : Bool := layOk p.2 && decide ((1 ≤ p.1 ∧ p.1 ≤ 256) ∧ p.2.length ≤ 3)
def opNat (p : Int × List Nat) : Nat × List Nat := (p.1.toNat, p.2)
theorem encOsN_take {l : List (Int × List Nat)} {i : Nat} (h : i < l.length) : encOs ((l.take (i + 1)).map opNat) = encOs ((l.take i).map opNat) ++ encO (opNat l[i]) := by
  rw [List.take_succ_eq_append_getElem h, List.map_append, encOs_app]
  simp only [List.map_cons, List.map_nil, encOs, List.append_nil]
theorem encO_len' (p : Nat × List Nat) (h : p.2.length ≤ 3) : (encO p).length ≤ 5 := by
  unfold encO; rw [List.length_cons, List.length_cons, encNs_len]; omega
theorem encOs_len' (l : List (Int × List Nat)) (h : l.all openOk = true) : (encOs (l.map opNat)).length ≤ 5 * l.length := by
  induction l with
  | nil => simp [encOs]
  | cons p l ih =>
    rw [List.all_cons, Bool.and_eq_true] at h
    have h1 := ih h.2
    have h2 := of_decide_eq_true ((Bool.and_eq_true _ _).mp h.1).2
    have h3 := encO_len' (opNat p) h2.2
    rw [List.map_cons, encOs, List.length_append, List.length_cons]
    omega
theorem c31b1_eq : c31b1 = .seq (sub c31b1 [0]) (.seq (.block 2 (.seq (sub c31b1 [1,0,0,0]) (.seq (sub c31b1 [1,0,0,1,0]) (.seq (sub c31b1 [1,0,0,1,1,0]) (sub c31b1 [1,0,0,1,1,1]))))) (sub c31b1 [1,1])) := by kernel_rfl
section
variable {A B C : Mem} {d : ActG} {xs xo : Value} {t : T Value} {K : Ex → St → Prop} {kd ar : Nat} {l : List UInt8} {y : Value}
set_option maxHeartbeats 16000000 in
theorem put_opens (hA0 : 0 < A.next) (hl3 : d.opening.length ≤ 3) (h : PA A d xs xo B) (hO : Own B l y C) (hl0 : l.length ≤ 3000) (hp : Sl t (pS A y))
    (hK1 : d.opening.all openOk = true → ∀ y C t', Own B (l ++ encOs (d.opening.map opNat)) y C → Sl t' (pS A y) → K .nrm ⟨t', 243, [], C, none⟩)
    (hK2 : d.opening.all openOk = false → ∀ D t', Ext B D → Sl t' pF → K .ret ⟨t', 243, [], D, none⟩) :
    W tb1 (.seq (sub c31 [1,1,1,1,1,1,1,1,1,1,1,1,1,1,1,1,1,1,0,0]) (.block 1 (.loop c31b1))) ⟨t, 243, [], C, none⟩ K := by
  obtain ⟨g1, g4, g6, -⟩ := hp
  apply W.seq
  apply W.run 20
  · intro M
    simp (config := { maxSteps := 4000000 }) (disch := first | decide +kernel | omega) only [c31, Try.f31, Option.getD_some, sub_seq1, sub_seq0, sub_nil, exec_region, runOps_cons, opF_assign, ev_int, putT_some, runOps_nil, R.ok_bind]
    with_reducible rfl
  apply W.block
  refine W.up d.opening.length (fun i t C => (d.opening.take i).all openOk = true ∧ ∃ y, Own B (l ++ encOs ((d.opening.take i).map opNat)) y C ∧ Sl t (pS A y ++ [(10, .int .i64 (i : Int))])) ?_ (Nat.zero_le _) ⟨rfl, y, by simpa [encOs] using hO, ?_⟩
  · rintro i t C hi ⟨hok, y, hO, g1, g4, g6, g10, -⟩
    have hlC := h.l hO.1
    have l4 := hlC.opening
    have hoC : OpsP (fun _ => True) C d.opening xo := h.ho.same hO.1.n (fun c hc hcl => ⟨trivial, hO.1.g c hcl⟩)
    have q4 := hoC.len
    have hAB := h.n
    have hBC := hO.1.n
    rw [c31b1_eq]
    apply W.seq
    by_cases hlt : i < d.opening.length
    · obtain ⟨bb, oo, zs, i1, i2, -, -, hzs, hzl⟩ := hoC.at hlt
      have hll := encOs_len' _ hok
      rw [List.length_take] at hll
      have hlen : (l ++ encOs ((d.opening.take i).map opNat)).length ≤ 3100 := by rw [List.length_append]; omega
      have hta : (d.opening.take (i + 1)).all openOk = openOk d.opening[i] := by rw [take_all hlt, hok, Bool.true_and]
      have hen := encOsN_take hlt
      have v0 : Vals (C.alloc (rowOb 92 [.int .i64 0, .slice none 0 0])) 92 C.next (.var 2) [.int .i64 0, .slice none 0 0] := Go.Am.vals_new C 92 _
      have hn0 : (C.alloc (rowOb 92 [.int .i64 0, .slice none 0 0])).next = C.next + 1 := next_alloc _ _
      obtain ⟨C2, hst, v1, hn1, hf1⟩ := store_all (tb := tb1) (t := 92) (l' := [.int .i64 d.opening[i].1, zs]) (by rw [size92]; rfl) v0 rfl (by simp) (fun v hv => by
        simp only [List.mem_cons, List.not_mem_nil, or_false] at hv
        rcases hv with rfl | rfl
        · rfl
        · exact hzs.cells.2)
      have e1 : Ext C C2 := (Ext.alloc C _).put (b := C.next) (Nat.le_refl _) hn1 hf1
      obtain ⟨z, D, ⟨g, hg⟩, e2, hz⟩ := run_rlay (hzs.ext e1) hzl
      have k2 : loadF tb1 C2.get 36 (.pointer (some ⟨C.next, 0 + 1, none⟩)) = .ok zs := load_vals und36 rfl v1 rfl
      have v2 : Vals D 92 C.next (.var 2) [.int .i64 d.opening[i].1, zs] := v1.same (e2.g _ (by omega))
      have m1 : loadF tb1 D.get 3 (.pointer (some ⟨C.next, 0, none⟩)) = .ok (.int .i64 d.opening[i].1) := load_vals und3 rfl v2 rfl
      have m2 : loadF tb1 D.get 36 (.pointer (some ⟨C.next, 0 + 1, none⟩)) = .ok zs := load_vals und36 rfl v2 rfl
      have hzlen := hzs.len
      have e3 := e1.trans e2
      have hst' : storeF tb1 (C.alloc (rowOb 92 [.int .i64 0, .slice none 0 0])) 92 (.pointer (some ⟨C.next, 0, none⟩)) (.agg ⟨[.int .i64 d.opening[i].1, zs]⟩) = .ok C2 := hst
      apply W.run 20
      · intro M
        simp (config := { maxSteps := 4000000 }) (disch := first | decide +kernel | omega) only [c31b1, c31, Try.f31, Option.getD_some, sub_seq1, sub_seq0, sub_block, sub_loop, sub_nil, exec_seq, exec_region, runOps_cons, opF_move, ev_tmp, g10, evG_some, putT_some, opF_fieldAddr, T.get_set, Nat.reduceEqDiff, g1, if_false, opF_load, if_true, opF_len, evs, R.ok_bind, opF_ari, runOps_nil, fa81_4, l4, q4, binF_int, op_lssI, cast_lt, hlt, decide_true, exec_cond, exec_skip, exec_exit]
        with_reducible rfl
      apply W.seq
      apply W.block
      apply W.seq
      apply W.run 20
      · intro M
        simp (config := { maxSteps := 4000000 }) (disch := first | decide +kernel | omega) only [c31b1, c31, Try.f31, Option.getD_some, sub_seq1, sub_seq0, sub_block, sub_loop, sub_nil, exec_region, runOps_cons, opF_fieldAddr, ev_tmp, T.get_set, Nat.reduceEqDiff, g1, if_false, evG_some, putT_some, opF_load, if_true, opF_move, g10, opF_indexAddr, opF_alloc, zero92, at_ptr, opF_store, putT_none, runOps_nil, R.ok_bind, cells_agg, fa81_4, l4, i1, i2, hst']
        with_reducible rfl
      apply W.seq
      apply W.runG (g) 20
      · intro M hM
        simp (config := { maxSteps := 4000000 }) (disch := first | decide +kernel | omega) only [c31b1, c31, Try.f31, Option.getD_some, sub_seq1, sub_seq0, sub_block, sub_loop, sub_nil, exec_region, runOps_cons, opF_fieldAddr, ev_tmp, T.get_set, Nat.reduceEqDiff, if_false, if_true, evG_some, putT_some, opF_load, opF_call, evs, R.ok_bind, resK, opF_move, opF_extract, extractF, opF_assign, runOps_nil, fa92_1, Nat.reduceAdd, k2, hg, List.getElem?_cons_zero, List.getElem?_cons_succ]
        with_reducible rfl
      apply W.seq
      have hbad : openOk d.opening[i] = false → d.opening.all openOk = false := fun h => not_all hlt h
      have hoo : openOk d.opening[i] = (layOk d.opening[i].2 && decide ((1 ≤ d.opening[i].1 ∧ d.opening[i].1 ≤ 256) ∧ d.opening[i].2.length ≤ 3)) := rfl
      cases hlk : layOk d.opening[i].2 with
      | false =>
        rw [hlk, Bool.false_and] at hoo
        apply W.run 20
        · intro M
          simp (config := { maxSteps := 4000000 }) (disch := first | decide +kernel | (rw [wantF_guard]; simp only [wantD_some, dstAt_zero, dstAt_succ, T.get_set, T.get_e, Nat.reduceEqDiff, if_true, if_false, wantV_bool, wantV_unit, unitV, cond_true, cond_false, Bool.not_true, Bool.not_false, List.toList_toArray]) | omega) only [c31b1, c31, Try.f31, Option.getD_some, sub_seq1, sub_seq0, sub_block, sub_loop, sub_nil, exec_seq, exec_region, runOps_cons, opF_move, ev_tmp, T.get_set, Nat.reduceEqDiff, if_false, if_true, evG_some, putT_some, opF_un, R.ok_bind, un_not, Bool.not_false, runOps_no, opF_pick, pickF, ev_bool, runOps_nil, exec_cond, opF_assign, ev_nilslice, exec_ret, exec_skip]
          with_reducible rfl
        refine hK2 (hbad hoo) _ _ (hO.1.trans e3) ?_
        unfold pF; simp only [Sl_cons, Sl_nil, T.get_set, T.puts_cons, T.puts_nil, Nat.reduceEqDiff, Nat.reduceAdd, if_true, if_false, and_true, true_and]
      | true =>
        rw [hlk, Bool.true_and] at hoo
        have hz := hz hlk
        by_cases a1 : d.opening[i].1 < ((1 : Nat) : Int)
        · apply W.run 20
          · intro M
            simp (config := { maxSteps := 4000000 }) (disch := first | decide +kernel | (rw [wantF_guard]; simp only [wantD_some, dstAt_zero, dstAt_succ, T.get_set, T.get_e, Nat.reduceEqDiff, if_true, if_false, wantV_bool, wantV_unit, unitV, cond_true, cond_false, Bool.not_true, Bool.not_false, List.toList_toArray]) | omega) only [c31b1, c31, Try.f31, Option.getD_some, sub_seq1, sub_seq0, sub_block, sub_loop, sub_nil, exec_seq, exec_region, runOps_cons, opF_move, ev_tmp, T.get_set, Nat.reduceEqDiff, if_false, if_true, evG_some, putT_some, opF_un, R.ok_bind, un_not, Bool.not_true, runOps_yes, opF_fieldAddr, opF_load, opF_ari, ev_int, opF_pick, pickF, ev_bool, fa92_0, m1, binF_int, op_lssI, a1, decide_true, runOps_no, runOps_nil, exec_cond, opF_assign, ev_nilslice, exec_ret, exec_skip]
            with_reducible rfl
          refine hK2 (hbad (by rw [hoo]; exact decide_eq_false (by omega))) _ _ (hO.1.trans e3) ?_
          unfold pF; simp only [Sl_cons, Sl_nil, T.get_set, T.puts_cons, T.puts_nil, Nat.reduceEqDiff, Nat.reduceAdd, if_true, if_false, and_true, true_and]
        by_cases a2 : ((256 : Nat) : Int) < d.opening[i].1
        · apply W.run 20
          · intro M
            simp (config := { maxSteps := 4000000 }) (disch := first | decide +kernel | (rw [wantF_guard]; simp only [wantD_some, dstAt_zero, dstAt_succ, T.get_set, T.get_e, Nat.reduceEqDiff, if_true, if_false, wantV_bool, wantV_unit, unitV, cond_true, cond_false, Bool.not_true, Bool.not_false, List.toList_toArray]) | omega) only [c31b1, c31, Try.f31, Option.getD_some, sub_seq1, sub_seq0, sub_block, sub_loop, sub_nil, exec_seq, exec_region, runOps_cons, opF_move, ev_tmp, T.get_set, Nat.reduceEqDiff, if_false, if_true, evG_some, putT_some, opF_un, R.ok_bind, un_not, Bool.not_true, runOps_yes, opF_fieldAddr, opF_load, opF_ari, ev_int, opF_pick, pickF, ev_bool, fa92_0, m1, binF_int, op_lssI, a1, decide_false, op_gtr, a2, decide_true, runOps_no, runOps_nil, exec_cond, opF_assign, ev_nilslice, exec_ret, exec_skip]
            with_reducible rfl
          refine hK2 (hbad (by rw [hoo]; exact decide_eq_false (by omega))) _ _ (hO.1.trans e3) ?_
          unfold pF; simp only [Sl_cons, Sl_nil, T.get_set, T.puts_cons, T.puts_nil, Nat.reduceEqDiff, Nat.reduceAdd, if_true, if_false, and_true, true_and]
        by_cases a3 : 3 < d.opening[i].2.length
        · apply W.run 20
          · intro M
            simp (config := { maxSteps := 4000000 }) (disch := first | decide +kernel | (rw [wantF_guard]; simp only [wantD_some, dstAt_zero, dstAt_succ, T.get_set, T.get_e, Nat.reduceEqDiff, if_true, if_false, wantV_bool, wantV_unit, unitV, cond_true, cond_false, Bool.not_true, Bool.not_false, List.toList_toArray]) | omega) only [c31b1, c31, Try.f31, Option.getD_some, sub_seq1, sub_seq0, sub_block, sub_loop, sub_nil, exec_seq, exec_region, runOps_cons, opF_move, ev_tmp, T.get_set, Nat.reduceEqDiff, if_false, if_true, evG_some, putT_some, opF_un, R.ok_bind, un_not, Bool.not_true, runOps_yes, opF_fieldAddr, opF_load, opF_ari, ev_int, opF_pick, pickF, ev_bool, fa92_0, m1, binF_int, op_lssI, a1, decide_false, op_gtr, a2, opF_len, evs, runOps_nil, fa92_1, Nat.reduceAdd, m2, hzlen, cast_lt, a3, decide_true, exec_cond, opF_assign, ev_nilslice, exec_ret, exec_skip]
            with_reducible rfl
          refine hK2 (hbad (by rw [hoo]; exact decide_eq_false (by omega))) _ _ (hO.1.trans e3) ?_
          unfold pF; simp only [Sl_cons, Sl_nil, T.get_set, T.puts_cons, T.puts_nil, Nat.reduceEqDiff, Nat.reduceAdd, if_true, if_false, and_true, true_and]
        have hgood : openOk d.opening[i] = true := by rw [hoo]; exact decide_eq_true (by omega)
        obtain ⟨an, han⟩ : ∃ an : Nat, d.opening[i].1 = (an : Int) := ⟨d.opening[i].1.toNat, by omega⟩
        have hab : 1 ≤ an ∧ an ≤ 256 := by omega
        have heo : encO (opNat d.opening[i]) = [UInt8.ofNat (an - 1), UInt8.ofNat d.opening[i].2.length] ++ encNs d.opening[i].2 := by
          unfold encO opNat; simp only [han, Int.toNat_natCast]; rfl
        have m1' := m1
        rw [han] at m1'
        have hmod1 : (an - 1) % 256 = an - 1 := Nat.mod_eq_of_lt (by omega)
        have hmod2 : d.opening[i].2.length % 256 = d.opening[i].2.length := Nat.mod_eq_of_lt (by omega)
        have hnew := Own.new (Ext.refl D) (l := [UInt8.ofNat (an - 1), UInt8.ofNat d.opening[i].2.length]) (n := 2) (c := 4) rfl rfl
        have hb2 : byts [UInt8.ofNat (an - 1), UInt8.ofNat d.opening[i].2.length] = [.int .u8 ((an - 1 : Nat) : Int), .int .u8 ((d.opening[i].2.length : Nat) : Int)] := by
          simp only [byts, List.map_cons, List.map_nil, u8_nat (show an - 1 < 256 by omega), u8_nat (show d.opening[i].2.length < 256 by omega)]
        rw [hb2] at hnew
        obtain ⟨q, hq⟩ := hnew.rd (by have := e3.n; omega)
        have hD1 : (D.alloc (rowOb 5 [.int .u8 ((an - 1 : Nat) : Int), .int .u8 ((d.opening[i].2.length : Nat) : Int)])).next = D.next + 1 := next_alloc _ _
        obtain ⟨y1, D2, happ1, hO1, hn2, hf2⟩ := hO.app2 (e3.trans hnew.1) hq (by simp only [List.length_cons, List.length_nil]; omega)
        obtain ⟨q2, hq2⟩ : ∃ q2, RdS q2 D2 (encNs d.opening[i].2) z := by
          obtain ⟨-, b2, hb2, hs2⟩ := hz
          have hs3 : Slc D2 5 b2 (byts (encNs d.opening[i].2)) z := hs2.same (by omega) (fun hl => by rw [hf2 _ (by have := e1.n; omega) (by omega), hnew.1.g _ hl])
          obtain ⟨q2, hq2, -⟩ := RdS.of_slc hs3 (by have := e3.n; omega)
          exact ⟨q2, hq2⟩
        obtain ⟨y2, D3, happ2, hO2⟩ := hO1.app hq2 (by rw [List.length_append, encNs_len]; simp only [List.length_cons, List.length_nil]; omega)
        apply W.run 20
        · intro M
          simp (config := { maxSteps := 4000000 }) (disch := first | decide +kernel | (rw [wantF_guard]; simp only [wantD_some, dstAt_zero, dstAt_succ, T.get_set, T.get_e, Nat.reduceEqDiff, if_true, if_false, wantV_bool, wantV_unit, unitV, cond_true, cond_false, Bool.not_true, Bool.not_false, List.toList_toArray]) | omega) only [c31b1, c31, Try.f31, Option.getD_some, sub_seq1, sub_seq0, sub_block, sub_loop, sub_nil, exec_seq, exec_region, runOps_cons, opF_move, ev_tmp, T.get_set, Nat.reduceEqDiff, if_false, if_true, evG_some, putT_some, opF_un, R.ok_bind, un_not, Bool.not_true, runOps_yes, opF_fieldAddr, opF_load, opF_ari, ev_int, opF_pick, pickF, ev_bool, fa92_0, m1, binF_int, op_lssI, a1, decide_false, op_gtr, a2, opF_len, evs, runOps_nil, fa92_1, Nat.reduceAdd, m2, hzlen, cast_lt, a3, exec_cond, opF_assign, ev_nilslice, exec_ret, exec_skip]
          with_reducible rfl
        show W tb1 _ _ _
        apply W.run 20
        · intro M
          simp (config := { maxSteps := 4000000 }) (disch := first | decide +kernel | omega) only [c31b1, c31, Try.f31, Option.getD_some, sub_seq1, sub_seq0, sub_block, sub_loop, sub_nil, exec_region, runOps_cons, opF_move, ev_tmp, T.get_set, Nat.reduceEqDiff, g6, if_false, evG_some, putT_some, opF_fieldAddr, if_true, opF_load, opF_ari, ev_int, und3, opF_conv, convPF, und5, opF_len, evs, R.ok_bind, opF_buildSlice, evp, opF_builtin, opF_assign, runOps_nil, builtin_append, fa92_1, Nat.reduceAdd, m2, hzlen, wrapF_u8, hmod2, fa92_0, m1', binF_int, op_sub_i64, hmod1, bs22_2, at_slc, happ1, happ2]
          with_reducible rfl
        show W tb1 _ _ _
        apply W.run 20
        · intro M
          simp (config := { maxSteps := 4000000 }) (disch := first | decide +kernel | omega) only [c31b1, c31, Try.f31, Option.getD_some, sub_seq1, sub_seq0, sub_block, sub_loop, sub_nil, exec_region, runOps_cons, opF_move, ev_tmp, T.get_set, Nat.reduceEqDiff, g10, if_false, evG_some, putT_some, opF_ari, if_true, ev_int, opF_assign, runOps_nil, R.ok_bind, binF_int, op_add_i64]
          with_reducible rfl
        refine ⟨hlt, _, _, rfl, by rw [hta]; exact hgood, y2, by rw [hen, heo]; simpa only [List.append_assoc] using hO2, ?_⟩
        unfold pS; simp only [Sl_cons, Sl_nil, T.get_set, T.puts_cons, T.puts_nil, Nat.reduceEqDiff, Nat.reduceAdd, if_true, if_false, and_true, true_and, g1, g4, List.cons_append, List.nil_append]
    · have hin : i = d.opening.length := by omega
      subst hin
      rw [List.take_length] at hO hok
      apply W.run 20
      · intro M
        simp (config := { maxSteps := 4000000 }) (disch := first | decide +kernel | omega) only [c31b1, c31, Try.f31, Option.getD_some, sub_seq1, sub_seq0, sub_block, sub_loop, sub_nil, exec_seq, exec_region, runOps_cons, opF_move, ev_tmp, g10, evG_some, putT_some, opF_fieldAddr, T.get_set, Nat.reduceEqDiff, g1, if_false, opF_load, if_true, opF_len, evs, R.ok_bind, opF_ari, runOps_nil, fa81_4, l4, q4, binF_int, op_lssI, cast_lt, Nat.lt_irrefl, decide_false, exec_cond, exec_skip, exec_exit]
        with_reducible rfl
      refine hK1 hok _ _ _ hO ?_
      unfold pS; simp only [Sl_cons, Sl_nil, T.get_set, T.puts_cons, T.puts_nil, Nat.reduceEqDiff, Nat.reduceAdd, if_true, if_false, and_true, true_and, g1, g4, g6]
  · unfold pS; simp only [Sl_cons, Sl_nil, T.get_set, T.puts_cons, T.puts_nil, Nat.reduceEqDiff, Nat.reduceAdd, if_true, if_false, and_true, true_and, g1, g4, g6, List.cons_append, List.nil_append]
end
end Go.Proofs.Ytmhldlnlgjpkaaa.scr

/-
  Script: the document's put, whole.
-/
namespace Go.Proofs.Ytmhldlnlgjpkaaa.scr
open Go.Am
set_option linter.unusedSimpArgs false
set_option linter.unusedVariables false
set_option linter.unusedVariables false
set_option maxRecDepth 20000

section
variable {A B C : Mem} {d : ActG} {xs xo : Value} {t : T Value} {K : Ex → St → Prop} {kd ar : Nat} {l : List UInt8} {y : Value}
set_option maxHeartbeats 16000000 in
theorem put_end (ha : d.arm = (ar : Int)) (h : PA A d xs xo B) (hO : Own B l y C) (hp : Sl t (pS A y))
    (hK1 : (d.cut || decide (0 < ar)) = true → ∀ t', Sl t' (pS A y) → K .nrm ⟨t', 243, [], C, none⟩)
    (hK2 : (d.cut || decide (0 < ar)) = false → ∀ t', Sl t' [(2, y), (3, .bool (decide (d.stays.length = 0) && decide (d.opening.length = 0)))] → K .ret ⟨t', 243, [], C, none⟩) :
    W tb1 (sub c31 [1,1,1,1,1,1,1,1,1,1,1,1,1,0]) ⟨t, 243, [], C, none⟩ K := by
  obtain ⟨g1, g4, g6, -⟩ := hp
  have hl := h.l hO.1
  have l1 := hl.cut
  have l2 := hl.arm
  have l3 := hl.stays
  have l4 := hl.opening
  rw [ha] at l2
  have q3 := (h.hs.ext hO.1).len
  have q4 := (show OpsP (fun _ => True) C d.opening xo from h.ho.same hO.1.n (fun c hc hcl => ⟨trivial, hO.1.g c hcl⟩)).len
  have eb : sub c31 [1,1,1,1,1,1,1,1,1,1,1,1,1,0] = .seq (sub c31 [1,1,1,1,1,1,1,1,1,1,1,1,1,0,0]) (.cond (.tmp 158) (.seq (sub c31 [1,1,1,1,1,1,1,1,1,1,1,1,1,0,1,0,0]) .ret) .skip) := by kernel_rfl
  rw [eb]
  apply W.seq
  cases hc : d.cut with
  | true =>
    rw [hc] at l1
    apply W.run 20
    · intro M
      simp (config := { maxSteps := 4000000 }) (disch := first | decide +kernel | (rw [wantF_guard]; simp only [wantD_some, dstAt_zero, dstAt_succ, T.get_set, T.get_e, Nat.reduceEqDiff, if_true, if_false, wantV_bool, wantV_unit, unitV, cond_true, cond_false, Bool.not_true, Bool.not_false, List.toList_toArray]) | omega) only [c31, Try.f31, Option.getD_some, sub_seq1, sub_seq0, sub_nil, exec_region, runOps_cons, opF_fieldAddr, ev_tmp, g1, evG_some, putT_some, opF_load, T.get_set, if_true, opF_un, Nat.reduceEqDiff, if_false, opF_move, R.ok_bind, fa81_2, l1, un_not, Bool.not_true, runOps_no, opF_pick, pickF, ev_bool, runOps_nil]
      with_reducible rfl
    refine W.cond (p := false) (by simp only [ev_tmp, T.get_set, if_true, evG_some]) (fun h => by cases h) (fun _ => ?_)
    apply W.run 20
    · intro M
      simp (config := { maxSteps := 4000000 }) (disch := first | decide +kernel | omega) only [exec_skip]
      with_reducible rfl
    refine hK1 (by rw [hc]; rfl) _ ?_
    unfold pS; simp only [Sl_cons, Sl_nil, T.get_set, T.puts_cons, T.puts_nil, Nat.reduceEqDiff, Nat.reduceAdd, if_true, if_false, and_true, true_and, g1, g4, g6]
  | false =>
    rw [hc] at l1
    by_cases h0 : ar = 0
    · apply W.run 20
      · intro M
        simp (config := { maxSteps := 4000000 }) (disch := first | decide +kernel | (rw [wantF_guard]; simp only [wantD_some, dstAt_zero, dstAt_succ, T.get_set, T.get_e, Nat.reduceEqDiff, if_true, if_false, wantV_bool, wantV_unit, unitV, cond_true, cond_false, Bool.not_true, Bool.not_false, List.toList_toArray]) | omega) only [c31, Try.f31, Option.getD_some, sub_seq1, sub_seq0, sub_nil, exec_region, runOps_cons, opF_fieldAddr, ev_tmp, g1, evG_some, putT_some, opF_load, T.get_set, if_true, opF_un, Nat.reduceEqDiff, if_false, opF_move, R.ok_bind, fa81_2, l1, un_not, Bool.not_false, runOps_yes, opF_eql, ev_int, opF_pick, pickF, ev_bool, runOps_nil, fa81_1, l2, h0, binF_int, op_eql, decide_true]
        with_reducible rfl
      refine W.cond (p := true) (by simp only [ev_tmp, T.get_set, if_true, evG_some]) (fun _ => ?_) (fun h => by cases h)
      have hcc : (d.cut || decide (0 < ar)) = false := by rw [hc, decide_eq_false (by omega)]; rfl
      apply W.seq
      by_cases hz : d.stays.length = 0
      · rw [decide_eq_true hz, Bool.true_and] at hK2
        rw [hz] at q3
        apply W.run 20
        · intro M
          simp (config := { maxSteps := 4000000 }) (disch := first | decide +kernel | (rw [wantF_guard]; simp only [wantD_some, dstAt_zero, dstAt_succ, T.get_set, T.get_e, Nat.reduceEqDiff, if_true, if_false, wantV_bool, wantV_unit, unitV, cond_true, cond_false, Bool.not_true, Bool.not_false, List.toList_toArray]) | omega) only [c31, Try.f31, Option.getD_some, sub_seq1, sub_seq0, sub_cond0, sub_nil, exec_draw, runOps_cons, opF_move, ev_tmp, T.get_set, Nat.reduceEqDiff, g6, if_false, evG_some, putT_some, opF_fieldAddr, g1, opF_load, if_true, opF_len, evs, R.ok_bind, opF_eql, ev_int, fa81_3, l3, q3, binF_int, op_eql, decide_true, runOps_yes, opF_pick, pickF, ev_bool, opF_assign, runOps_nil, fa81_4, l4, q4]
          with_reducible rfl
        apply W.run 20
        · intro M
          simp (config := { maxSteps := 4000000 }) (disch := first | decide +kernel | omega) only [exec_ret]
          with_reducible rfl
        refine hK2 hcc _ ?_
        simp only [Sl_cons, Sl_nil, T.get_set, T.puts_cons, T.puts_nil, Nat.reduceEqDiff, Nat.reduceAdd, if_true, if_false, and_true, true_and]
      · rw [decide_eq_false hz, Bool.false_and] at hK2
        apply W.run 20
        · intro M
          simp (config := { maxSteps := 4000000 }) (disch := first | decide +kernel | (rw [wantF_guard]; simp only [wantD_some, dstAt_zero, dstAt_succ, T.get_set, T.get_e, Nat.reduceEqDiff, if_true, if_false, wantV_bool, wantV_unit, unitV, cond_true, cond_false, Bool.not_true, Bool.not_false, List.toList_toArray]) | omega) only [c31, Try.f31, Option.getD_some, sub_seq1, sub_seq0, sub_cond0, sub_nil, exec_draw, runOps_cons, opF_move, ev_tmp, T.get_set, Nat.reduceEqDiff, g6, if_false, evG_some, putT_some, opF_fieldAddr, g1, opF_load, if_true, opF_len, evs, R.ok_bind, opF_eql, ev_int, fa81_3, l3, q3, binF_int, op_eql, hz, decide_false, runOps_no, opF_pick, pickF, ev_bool, opF_assign, runOps_nil]
          with_reducible rfl
        apply W.run 20
        · intro M
          simp (config := { maxSteps := 4000000 }) (disch := first | decide +kernel | omega) only [exec_ret]
          with_reducible rfl
        refine hK2 hcc _ ?_
        simp only [Sl_cons, Sl_nil, T.get_set, T.puts_cons, T.puts_nil, Nat.reduceEqDiff, Nat.reduceAdd, if_true, if_false, and_true, true_and]
    · apply W.run 20
      · intro M
        simp (config := { maxSteps := 4000000 }) (disch := first | decide +kernel | (rw [wantF_guard]; simp only [wantD_some, dstAt_zero, dstAt_succ, T.get_set, T.get_e, Nat.reduceEqDiff, if_true, if_false, wantV_bool, wantV_unit, unitV, cond_true, cond_false, Bool.not_true, Bool.not_false, List.toList_toArray]) | omega) only [c31, Try.f31, Option.getD_some, sub_seq1, sub_seq0, sub_nil, exec_region, runOps_cons, opF_fieldAddr, ev_tmp, g1, evG_some, putT_some, opF_load, T.get_set, if_true, opF_un, Nat.reduceEqDiff, if_false, opF_move, R.ok_bind, fa81_2, l1, un_not, Bool.not_false, runOps_yes, opF_eql, ev_int, opF_pick, pickF, ev_bool, runOps_nil, fa81_1, l2, binF_int, op_eql, h0, decide_false]
        with_reducible rfl
      refine W.cond (p := false) (by simp only [ev_tmp, T.get_set, if_true, evG_some]) (fun h => by cases h) (fun _ => ?_)
      apply W.run 20
      · intro M
        simp (config := { maxSteps := 4000000 }) (disch := first | decide +kernel | omega) only [exec_skip]
        with_reducible rfl
      refine hK1 (by rw [hc, decide_eq_true (by omega)]; rfl) _ ?_
      unfold pS; simp only [Sl_cons, Sl_nil, T.get_set, T.puts_cons, T.puts_nil, Nat.reduceEqDiff, Nat.reduceAdd, if_true, if_false, and_true, true_and, g1, g4, g6]
set_option maxHeartbeats 16000000 in
theorem put_stays (hA0 : 0 < A.next) (h5 : d.stays.length ≤ 5) (h3 : d.opening.length ≤ 3) (h : PA A d xs xo B) (hO : Own B l y C) (hl0 : l.length ≤ 2000) (hp : Sl t (pS A y)) {cc : Code}
    (hK1 : layOk d.stays = true → ∀ y C t', Own B (l ++ [UInt8.ofNat (d.stays.length + 6 * d.opening.length)] ++ encNs d.stays) y C → Sl t' (pS A y) → W tb1 cc ⟨t', 243, [], C, none⟩ K)
    (hK2 : layOk d.stays = false → ∀ D t', Ext B D → Sl t' pF → K .ret ⟨t', 243, [], D, none⟩) :
    W tb1 (.seq (sub c31 [1,1,1,1,1,1,1,1,1,1,1,1,1,1,0]) (.seq (sub c31 [1,1,1,1,1,1,1,1,1,1,1,1,1,1,1,0]) (.seq (sub c31 [1,1,1,1,1,1,1,1,1,1,1,1,1,1,1,1,0]) (.seq (sub c31 [1,1,1,1,1,1,1,1,1,1,1,1,1,1,1,1,1,0]) cc)))) ⟨t, 243, [], C, none⟩ K := by
  obtain ⟨g1, g4, g6, -⟩ := hp
  have hl := h.l hO.1
  have l3 := hl.stays
  have l4 := hl.opening
  have q3 := (h.hs.ext hO.1).len
  have q4 := (show OpsP (fun _ => True) C d.opening xo from h.ho.same hO.1.n (fun c hc hcl => ⟨trivial, hO.1.g c hcl⟩)).len
  have hv : d.stays.length + 6 * d.opening.length < 256 := by omega
  have hmod : (d.stays.length + 6 * d.opening.length) % 256 = d.stays.length + 6 * d.opening.length := Nat.mod_eq_of_lt hv
  obtain ⟨y1, D, happ, hO1⟩ := hO.push (v := d.stays.length + 6 * d.opening.length) (by omega) hv
  apply W.seq
  apply W.run 20
  · intro M
    simp (config := { maxSteps := 4000000 }) (disch := first | decide +kernel | omega) only [c31, Try.f31, Option.getD_some, sub_seq1, sub_seq0, sub_nil, exec_region, runOps_cons, opF_move, ev_tmp, g6, evG_some, putT_some, opF_fieldAddr, T.get_set, Nat.reduceEqDiff, g1, if_false, opF_load, if_true, opF_len, evs, R.ok_bind, opF_ari, ev_int, und3, opF_conv, convPF, und5, opF_buildSlice, evp, opF_builtin, opF_assign, runOps_nil, builtin_append, fa81_4, l4, q4, binF_int, op_mul_i64, fa81_3, l3, q3, op_add_i64, wrapF_u8, hmod, bs22, at_slc, happ]
    with_reducible rfl
  have l3' := (h.l hO1.1).stays
  obtain ⟨z, E, ⟨g, hg⟩, hE, hz⟩ := run_rlay (h.hs.ext hO1.1) (by omega)
  have hO2 := hO1.ext hE
  apply W.seq
  apply W.runG (g) 20
  · intro M hM
    simp (config := { maxSteps := 4000000 }) (disch := first | decide +kernel | omega) only [c31, Try.f31, Option.getD_some, sub_seq1, sub_seq0, sub_nil, exec_region, runOps_cons, opF_fieldAddr, ev_tmp, T.get_set, Nat.reduceEqDiff, g1, if_false, evG_some, putT_some, opF_load, if_true, opF_call, evs, R.ok_bind, resK, opF_move, opF_extract, extractF, opF_assign, runOps_nil, fa81_3, l3', hg, List.getElem?_cons_zero, List.getElem?_cons_succ]
    with_reducible rfl
  apply W.seq
  cases hlk : layOk d.stays with
  | false =>
    apply W.run 20
    · intro M
      simp (config := { maxSteps := 4000000 }) (disch := first | decide +kernel | omega) only [c31, Try.f31, Option.getD_some, sub_seq1, sub_seq0, sub_nil, exec_seq, exec_region, runOps_cons, opF_move, ev_tmp, T.get_set, Nat.reduceEqDiff, if_false, if_true, evG_some, putT_some, opF_un, runOps_nil, R.ok_bind, un_not, Bool.not_false, exec_cond, opF_assign, ev_nilslice, exec_ret, exec_skip, ev_bool]
      with_reducible rfl
    refine hK2 hlk _ _ hO2.1 ?_
    unfold pF; simp only [Sl_cons, Sl_nil, T.get_set, T.puts_cons, T.puts_nil, Nat.reduceEqDiff, Nat.reduceAdd, if_true, if_false, and_true, true_and]
  | true =>
    obtain ⟨q, hq⟩ := (hz hlk).rd (by have := h.n; have := hO1.1.n; omega)
    obtain ⟨y2, F, happ2, hO3⟩ := hO2.app hq (by rw [encNs_len, List.length_append]; simp only [List.length_cons, List.length_nil]; omega)
    apply W.run 20
    · intro M
      simp (config := { maxSteps := 4000000 }) (disch := first | decide +kernel | omega) only [c31, Try.f31, Option.getD_some, sub_seq1, sub_seq0, sub_nil, exec_seq, exec_region, runOps_cons, opF_move, ev_tmp, T.get_set, Nat.reduceEqDiff, if_false, if_true, evG_some, putT_some, opF_un, runOps_nil, R.ok_bind, un_not, Bool.not_true, exec_cond, opF_assign, ev_nilslice, exec_ret, exec_skip, ev_bool]
      with_reducible rfl
    show W tb1 _ _ _
    apply W.seq
    apply W.run 20
    · intro M
      simp (config := { maxSteps := 4000000 }) (disch := first | decide +kernel | omega) only [c31, Try.f31, Option.getD_some, sub_seq1, sub_seq0, sub_nil, exec_region, runOps_cons, opF_move, ev_tmp, T.get_set, Nat.reduceEqDiff, if_false, if_true, evG_some, putT_some, opF_builtin, evs, R.ok_bind, opF_assign, runOps_nil, builtin_append, happ2]
      with_reducible rfl
    refine hK1 hlk _ _ _ hO3 ?_
    unfold pS; simp only [Sl_cons, Sl_nil, T.get_set, T.puts_cons, T.puts_nil, Nat.reduceEqDiff, Nat.reduceAdd, if_true, if_false, and_true, true_and, g1, g4]
end
def tailOk (c : Bool) (d : ActG) : Bool := if c = true then layOk d.stays && d.opening.all openOk else decide (d.stays.length = 0) && decide (d.opening.length = 0)
open Classical in
/-- Whether an act can be laid, and as what. -/
noncomputable def putOk (d : ActG) : Bool := decide (headOk d) && (spellOk d.word && (decide (weightOk d.kind.toNat d.weight) && (decide (askOk d.kind.toNat d.k d.n) && tailOk (d.cut || decide (0 < d.arm.toNat)) d)))
def encG (d : ActG) : List UInt8 := [UInt8.ofNat (kindB d.kind.toNat d.arm.toNat d.cut)] ++ encR d.arm.toNat ++ encW d.word ++ weightB d.kind.toNat d.weight ++ askB d.kind.toNat d.k d.n ++ encS (d.cut || decide (0 < d.arm.toNat)) (d.stays, d.opening.map opNat)
def PutK (A : Mem) (d : ActG) (e : Ex) (s : St) : Prop := (e = .nrm ∨ e = .ret) ∧ ∃ A' vs, takeF s.d s.m = .ok A' ∧ resF tb1 s.t A'.get Try.f31.results.toList = .ok vs ∧ ∃ y, oneOf vs = .tuple ⟨[y, .bool (putOk d)]⟩ ∧ Ext A A' ∧ (putOk d = true → Own A (encG d) y A')
theorem putK_ret {A D : Mem} {d : ActG} {t : T Value} {y : Value} {r : Bool} (hr : putOk d = r) (e : Ext A D) (hp : Sl t [(2, y), (3, .bool r)]) (hO : putOk d = true → Own A (encG d) y D) : PutK A d .ret ⟨t, 243, [], D, none⟩ := by
  obtain ⟨g2, g3, -⟩ := hp
  refine ⟨.inr rfl, D, [y, .bool r], rfl, ?_, y, by rw [hr]; rfl, e, hO⟩
  simp only [Try.f31, resF, ev_tmp, g2, g3, evG_some, R.ok_bind]
theorem putK_fail {A B D : Mem} {d : ActG} {t : T Value} (hr : putOk d = false) (e : Ext A B) (e' : Ext B D) (hp : Sl t pF) : PutK A d .ret ⟨t, 243, [], D, none⟩ :=
  putK_ret hr (e.trans e') hp (fun h => by rw [hr] at h; cases h)
open Classical in
set_option maxHeartbeats 16000000 in
theorem run_rput {P : Nat → Prop} {A : Mem} {d : ActG} {l : List Value} (h : ActP P A d l) (hA0 : 0 < A.next) (hw : d.word.length ≤ 1000) :
    ∃ y A', Ans tb1 31 [.agg ⟨l⟩] A (.tuple ⟨[y, .bool (putOk d)]⟩) A' ∧ Ext A A' ∧ (putOk d = true → Own A (encG d) y A') := by
  obtain ⟨v, A', ha, y, hv, h1, h2⟩ : ∃ v A', Ans tb1 31 [.agg ⟨l⟩] A v A' ∧ ∃ y, v = .tuple ⟨[y, .bool (putOk d)]⟩ ∧ Ext A A' ∧ (putOk d = true → Own A (encG d) y A') := by
    have hcl := ActP.cells _ _ _ _ h
    have hself : ∀ {B : Mem}, Ext A B → ActP (fun _ => True) B d l := fun e => ActP.mono _ _ _ _ _ _ h e.n (fun c _ hl => ⟨trivial, e.g c hl⟩)
    obtain ⟨xs, xo, rfl, k2, k3, k4⟩ := h
    refine ans_of_W (fn_at Try.func31) c31_eq (by rw [Try.ntmps31]; simp) (by kernel_rfl) (by kernel_rfl) ?_
    have v0 : Vals (A.alloc (rowOb 81 (cellsG d xs xo))) 81 A.next (.var 9) (cellsG d xs xo) := Go.Am.vals_new A 81 _
    have n0 : (A.alloc (rowOb 81 (cellsG d xs xo))).next = A.next + 1 := next_alloc _ _
    have E0 := Ext.alloc A (rowOb 81 (cellsG d xs xo))
    obtain ⟨d35, hd1, hd2⟩ := und35
    have a0 := load_part (tb := tb1) (t := 35) (o := 0) (n := 5) hd1 hd2 size35 v0 (by show 5 ≤ 9; omega)
    rw [show ((cellsG d xs xo).drop 0).take 5 = [.int .i64 d.kind, strOf d.word, .int .u32 (d.weight : Int), .int .i64 d.k, .int .i64 d.n] from rfl] at a0
    have v1 : Vals ((A.alloc (rowOb 81 (cellsG d xs xo))).alloc (rowOb 35 [.int .i64 0, .string ⟨#[]⟩, .int .u32 0, .int .i64 0, .int .i64 0])) 35 (A.alloc (rowOb 81 (cellsG d xs xo))).next (.var 5) [.int .i64 0, .string ⟨#[]⟩, .int .u32 0, .int .i64 0, .int .i64 0] := Go.Am.vals_new _ 35 _
    rw [n0] at v1
    obtain ⟨B, hst, v2, nB, fB⟩ := store_all (tb := tb1) (t := 35) (l' := [.int .i64 d.kind, strOf d.word, .int .u32 (d.weight : Int), .int .i64 d.k, .int .i64 d.n]) (by rw [size35]; rfl) v1 rfl (by simp) (fun v hv => by
      simp only [List.mem_cons, List.not_mem_nil, or_false] at hv
      rcases hv with rfl | rfl | rfl | rfl | rfl <;> rfl)
    have E1 : Ext (A.alloc (rowOb 81 (cellsG d xs xo))) B := (Ext.alloc _ _).put (b := A.next + 1) (by omega) nB fB
    have EB := E0.trans E1
    have nB2 : B.next = A.next + 2 := by rw [nB, next_alloc, n0]
    have hPA : PA A d xs xo B := by
      obtain ⟨xs', xo', he, q2, q3, q4⟩ := hself EB
      simp only [cellsG, List.cons.injEq, and_true] at he
      obtain ⟨-, -, -, -, -, -, -, rfl, rfl⟩ := he
      exact ⟨EB, nB2, v0.same (E1.g _ (by omega)), v2, q2, q4⟩
    apply W.seq
    apply W.run 20
    · intro M
      simp (config := { maxSteps := 4000000 }) (disch := first | decide +kernel | omega) only [c31, Try.f31, Option.getD_some, sub_seq0, sub_nil, T.puts_cons, Nat.reduceAdd, T.puts_nil, exec_region, runOps_cons, opF_box, ev_tmp, T.get_set, T.get_e, if_true, evG_some, at_ptr, putT_some, opF_assign, ev_nilslice, ev_bool, runOps_nil, R.ok_bind, cells_agg]
      with_reducible rfl
    apply W.seq
    apply W.run 20
    · intro M
      simp (config := { maxSteps := 4000000 }) (disch := first | decide +kernel | omega) only [c31, Try.f31, Option.getD_some, sub_seq1, sub_seq0, sub_nil, exec_region, runOps_cons, opF_fieldAddr, ev_tmp, T.get_set, Nat.reduceEqDiff, T.get_e, if_false, if_true, evG_some, putT_some, opF_load, opF_alloc, zero35, next_alloc, at_ptr, opF_store, putT_none, runOps_nil, R.ok_bind, cells_agg, fa81_0, a0, hst]
      with_reducible rfl
    refine W.mono (K := PutK A d) ?_ (fun e s h => h)
    apply W.seq
    refine put_head hPA (by simp only [Sl_cons, Sl_nil, T.get_set, T.puts_cons, T.puts_nil, Nat.reduceEqDiff, Nat.reduceAdd, if_true, if_false, and_true, true_and]) ?_ ?_
    rotate_left
    · intro hh t' hp
      exact putK_fail (by unfold putOk; simp only [decide_eq_false hh, Bool.false_and]) EB (Ext.refl B) hp
    intro hh t hp
    have hh' := hh
    unfold headOk at hh'
    obtain ⟨kd, hk⟩ : ∃ kd : Nat, d.kind = (kd : Int) := ⟨d.kind.toNat, by omega⟩
    obtain ⟨ar, hr⟩ : ∃ ar : Nat, d.arm = (ar : Int) := ⟨d.arm.toNat, by omega⟩
    have hk' : d.kind.toNat = kd := by omega
    have hr' : d.arm.toNat = ar := by omega
    show W tb1 _ _ _
    refine put_kind hk hr (by omega) (by omega) hPA hp ?_
    clear hp t
    intro y C t hO hp
    have hlk : (encR ar).length ≤ 1 := by unfold encR; split <;> simp
    refine put_word hA0 hw hPA hO (by simp only [List.length_append, List.length_cons, List.length_nil]; omega) hp ?_ ?_
    rotate_left
    · intro hs D t' hE hp
      exact putK_fail (by unfold putOk; simp only [hs, Bool.false_and, Bool.and_false]) EB hE hp
    clear hp hO y C t
    intro hs y C t hO hp
    have hlw := encW_len d.word
    apply W.seq
    refine put_weight hk hPA hO (by simp only [List.length_append, List.length_cons, List.length_nil]; omega) hp ?_ ?_
    rotate_left
    · intro hw D t' hE hp
      exact putK_fail (by unfold putOk; simp only [hk', decide_eq_false hw, Bool.false_and, Bool.and_false]) EB hE hp
    clear hp hO y C t
    intro hwt y C t hO hp
    have hlwt : (weightB kd d.weight).length ≤ 1 := by unfold weightB; split <;> simp
    show W tb1 _ _ _
    apply W.seq
    refine put_ask hk hPA hO (by simp only [List.length_append, List.length_cons, List.length_nil]; omega) hp ?_ ?_
    rotate_left
    · intro hw D t' hE hp
      exact putK_fail (by unfold putOk; simp only [hk', decide_eq_false hw, Bool.false_and, Bool.and_false]) EB hE hp
    clear hp hO y C t
    intro hak y C t hO hp
    have hla : (askB kd d.k d.n).length ≤ 1 := by unfold askB; split <;> simp
    have hall : ∀ r, tailOk (d.cut || decide (0 < ar)) d = r → putOk d = r := fun r h => by
      unfold putOk; simp only [hk', hr', decide_eq_true hh, hs, decide_eq_true hwt, decide_eq_true hak, h, Bool.true_and]
    show W tb1 _ _ _
    apply W.seq
    refine put_end hr hPA hO hp ?_ ?_
    rotate_left
    · intro hc t' hp
      refine putK_ret (hall _ (by unfold tailOk; rw [hc]; rfl)) (EB.trans hO.1) hp (fun _ => ?_)
      unfold encG
      simp only [hk', hr', hc]
      rw [show encS false (d.stays, d.opening.map opNat) = [] from rfl, List.append_nil]
      exact hO.down EB
    clear hp t
    intro hc t hp
    show W tb1 _ _ _
    have hbase : ([UInt8.ofNat (kindB kd ar d.cut)] ++ encR ar ++ encW d.word ++ weightB kd d.weight ++ askB kd d.k d.n).length ≤ 1100 := by simp only [List.length_append, List.length_cons, List.length_nil]; omega
    refine put_stays hA0 (by omega) (by omega) hPA hO (by omega) hp ?_ ?_
    rotate_left
    · intro hw D t' hE hp
      exact putK_fail (hall _ (by unfold tailOk; rw [hc, if_pos rfl, hw]; rfl)) EB hE hp
    clear hp hO y C t
    intro hst2 y C t hO hp
    apply W.seq
    have hln := encNs_len d.stays
    refine put_opens hA0 (by omega) hPA hO (by rw [List.length_append, List.length_append]; simp only [List.length_cons, List.length_nil]; omega) hp ?_ ?_
    rotate_left
    · intro hw D t' hE hp
      exact putK_fail (hall _ (by unfold tailOk; rw [hc, if_pos rfl, hw, Bool.and_false])) EB hE hp
    clear hp hO y C t
    rintro hop y C t hO ⟨g1, g4, g6, -⟩
    show W tb1 _ _ _
    apply W.seq
    apply W.run 20
    · intro M
      simp (config := { maxSteps := 4000000 }) (disch := first | decide +kernel | omega) only [c31, Try.f31, Option.getD_some, sub_seq1, sub_seq0, sub_nil, exec_region, runOps_cons, opF_move, ev_tmp, g6, evG_some, putT_some, opF_assign, T.get_set, if_true, ev_bool, runOps_nil, R.ok_bind]
      with_reducible rfl
    apply W.run 20
    · intro M
      simp (config := { maxSteps := 4000000 }) (disch := first | decide +kernel | omega) only [c31, Try.f31, Option.getD_some, sub_seq1, sub_nil, exec_ret]
      with_reducible rfl
    refine putK_ret (r := true) (hall _ (by unfold tailOk; rw [hc, if_pos rfl, hst2, hop]; try rfl)) (EB.trans hO.1) (y := y) (by simp only [Sl_cons, Sl_nil, T.get_set, T.puts_cons, T.puts_nil, Nat.reduceEqDiff, Nat.reduceAdd, if_true, if_false, and_true, true_and]) (fun _ => ?_)
    unfold encG
    simp only [hk', hr', hc]
    rw [show encS true (d.stays, d.opening.map opNat) = UInt8.ofNat (d.stays.length + 6 * (d.opening.map opNat).length) :: (encNs d.stays ++ encOs (d.opening.map opNat)) from rfl, List.length_map]
    have := hO.down EB
    simpa only [List.append_assoc, List.singleton_append, List.cons_append, List.nil_append] using this
  subst hv
  exact ⟨y, A', ha, h1, h2⟩
end Go.Proofs.Ytmhldlnlgjpkaaa.scr

/-
  Script: the document's Put.
-/
namespace Go.Proofs.Ytmhldlnlgjpkaaa.scr
open Go.Am
set_option linter.unusedSimpArgs false
set_option linter.unusedVariables false
set_option linter.unusedVariables false
set_option maxRecDepth 20000

def headSOk (s : SetG) : Prop := (1 ≤ s.wal ∧ s.wal ≤ 256) ∧ (2 ≤ s.fan ∧ s.fan ≤ 9) ∧ (0 ≤ s.quota ∧ s.quota ≤ 65535) ∧ s.acts.length ≤ 60
open Classical in
noncomputable def putSOk (s : SetG) : Bool := decide (headSOk s) && s.acts.all putOk
def headG (s : SetG) : List UInt8 := [UInt8.ofNat (s.wal.toNat - 1), UInt8.ofNat (s.fan.toNat - 2), UInt8.ofNat (s.quota.toNat % 256), UInt8.ofNat (s.quota.toNat / 256)]
def encGs : List ActG → List UInt8
  | [] => []
  | d :: l => encG d ++ encGs l
theorem encGs_app (l m : List ActG) : encGs (l ++ m) = encGs l ++ encGs m := by
  induction l with
  | nil => rfl
  | cons d l ih => simp only [List.cons_append, encGs, ih, List.append_assoc]
theorem encGs_take {l : List ActG} {i : Nat} (h : i < l.length) : encGs (l.take (i + 1)) = encGs (l.take i) ++ encG l[i] := by
  rw [List.take_succ_eq_append_getElem h, encGs_app]
  simp only [encGs, List.append_nil]
theorem encG_len {d : ActG} (hw : d.word.length ≤ 1000) (h : putOk d = true) : (encG d).length ≤ 1100 := by
  unfold putOk at h
  simp only [Bool.and_eq_true, decide_eq_true_eq] at h
  obtain ⟨h1, h2, h3, h4, h5⟩ := h
  have e1 : (encR d.arm.toNat).length ≤ 1 := by unfold encR; split <;> simp
  have e2 := encW_len d.word
  have e3 : (weightB d.kind.toNat d.weight).length ≤ 1 := by unfold weightB; split <;> simp
  have e4 : (askB d.kind.toNat d.k d.n).length ≤ 1 := by unfold askB; split <;> simp
  have e5 : (encS (d.cut || decide (0 < d.arm.toNat)) (d.stays, d.opening.map opNat)).length ≤ 30 := by
    unfold encS
    split
    · rename_i hc
      unfold tailOk at h5
      rw [if_pos hc, Bool.and_eq_true] at h5
      have := encOs_len' _ h5.2
      unfold headOk at h1
      simp only [List.length_cons, List.length_append, encNs_len]
      omega
    · simp
  unfold encG
  simp only [List.length_append, List.length_cons, List.length_nil]
  omega
theorem encGs_len {l : List ActG} (hw : ∀ d ∈ l, d.word.length ≤ 1000) (h : l.all putOk = true) : (encGs l).length ≤ 1100 * l.length := by
  induction l with
  | nil => simp [encGs]
  | cons d l ih =>
    rw [List.all_cons, Bool.and_eq_true] at h
    have h1 := ih (fun d hd => hw d (List.mem_cons_of_mem _ hd)) h.2
    have h2 := encG_len (hw d List.mem_cons_self) h.1
    rw [encGs, List.length_append, List.length_cons]
    omega
noncomputable def c15 : Code := Try.f15.body.getD .skip
noncomputable def c15b1 : Code := sub c15 [1,1,1,0,1,0,0]
theorem c15_eq : Try.f15.body = some (.seq (sub c15 [0]) (.seq (sub c15 [1,0]) (.seq (sub c15 [1,1,0]) (.seq (.seq (sub c15 [1,1,1,0,0]) (.block 0 (.loop c15b1))) (.seq (sub c15 [1,1,1,1,0]) (sub c15 [1,1,1,1,1])))))) := by kernel_rfl
theorem c15b1_eq : c15b1 = .seq (sub c15b1 [0]) (.seq (.block 1 (.seq (sub c15b1 [1,0,0,0]) (.seq (sub c15b1 [1,0,0,1,0]) (sub c15b1 [1,0,0,1,1])))) (sub c15b1 [1,1])) := by kernel_rfl
theorem bs22_4 (a b c d : Int) : buildSliceF tb1 22 4 [(0, .int .u8 a), (1, .int .u8 b), (2, .int .u8 c), (3, .int .u8 d)] = .ok (rowOb 5 [.int .u8 a, .int .u8 b, .int .u8 c, .int .u8 d], .slc 4 8) := by kernel_rfl
section
variable {P : Nat → Prop} {A : Mem} {s : SetG} {xa : Value} {t : T Value} {K : Ex → St → Prop}
set_option maxHeartbeats 16000000 in
theorem putS_head {B : Mem} (hv : Vals B 48 A.next (.var 4) (cellsS s xa)) (ha : ActsP P B s.acts xa) (h1 : t.get 1 = some (.pointer (some ⟨A.next, 0, none⟩)))
    (hK1 : headSOk s → ∀ t', t'.get 1 = some (.pointer (some ⟨A.next, 0, none⟩)) → K .nrm ⟨t', 87, [], B, none⟩)
    (hK2 : ¬ headSOk s → ∀ t', Sl t' [(2, .slice none 0 0), (3, .int .i64 ((2 : Nat) : Int))] → K .ret ⟨t', 87, [], B, none⟩) : W tb1 (sub c15 [1,0]) ⟨t, 87, [], B, none⟩ K := by
  have l1 : loadF tb1 B.get 3 (.pointer (some ⟨A.next, 0, none⟩)) = .ok (.int .i64 s.wal) := load_vals und3 rfl hv rfl
  have l2 : loadF tb1 B.get 3 (.pointer (some ⟨A.next, 1, none⟩)) = .ok (.int .i64 s.fan) := load_vals und3 rfl hv rfl
  have l3 : loadF tb1 B.get 3 (.pointer (some ⟨A.next, 2, none⟩)) = .ok (.int .i64 s.quota) := load_vals und3 rfl hv rfl
  have l4 : loadF tb1 B.get 46 (.pointer (some ⟨A.next, 3, none⟩)) = .ok xa := load_vals und46 rfl hv rfl
  have q4 := ha.len
  by_cases a1 : s.wal < ((1 : Nat) : Int)
  · apply W.run 20
    · intro M
      simp (config := { maxSteps := 4000000 }) (disch := first | decide +kernel | (rw [wantF_guard]; simp only [wantD_some, dstAt_zero, dstAt_succ, T.get_set, T.get_e, Nat.reduceEqDiff, if_true, if_false, wantV_bool, wantV_unit, unitV, cond_true, cond_false, Bool.not_true, Bool.not_false, List.toList_toArray]) | omega) only [c15, Try.f15, Option.getD_some, sub_seq1, sub_seq0, sub_nil, exec_seq, exec_region, runOps_cons, opF_fieldAddr, ev_tmp, h1, evG_some, putT_some, T.get_set, if_true, opF_load, Nat.reduceEqDiff, if_false, opF_ari, ev_int, opF_move, R.ok_bind, fa48_0, fa25_0, l1, binF_int, op_lssI, a1, decide_true, runOps_no, opF_pick, pickF, ev_bool, runOps_nil, exec_cond, opF_assign, ev_nilslice, exec_ret, exec_skip]
      with_reducible rfl
    exact hK2 (by unfold headSOk; omega) _ (by simp only [Sl_cons, Sl_nil, T.get_set, T.puts_cons, T.puts_nil, Nat.reduceEqDiff, Nat.reduceAdd, if_true, if_false, and_true, true_and])
  by_cases a2 : ((256 : Nat) : Int) < s.wal
  · apply W.run 20
    · intro M
      simp (config := { maxSteps := 4000000 }) (disch := first | decide +kernel | (rw [wantF_guard]; simp only [wantD_some, dstAt_zero, dstAt_succ, T.get_set, T.get_e, Nat.reduceEqDiff, if_true, if_false, wantV_bool, wantV_unit, unitV, cond_true, cond_false, Bool.not_true, Bool.not_false, List.toList_toArray]) | omega) only [c15, Try.f15, Option.getD_some, sub_seq1, sub_seq0, sub_nil, exec_seq, exec_region, runOps_cons, opF_fieldAddr, ev_tmp, h1, evG_some, putT_some, T.get_set, if_true, opF_load, Nat.reduceEqDiff, if_false, opF_ari, ev_int, opF_move, R.ok_bind, fa48_0, fa25_0, l1, binF_int, op_lssI, a1, decide_false, runOps_yes, opF_pick, pickF, ev_bool, op_gtr, a2, decide_true, runOps_no, runOps_nil, exec_cond, opF_assign, ev_nilslice, exec_ret, exec_skip]
      with_reducible rfl
    exact hK2 (by unfold headSOk; omega) _ (by simp only [Sl_cons, Sl_nil, T.get_set, T.puts_cons, T.puts_nil, Nat.reduceEqDiff, Nat.reduceAdd, if_true, if_false, and_true, true_and])
  by_cases a3 : s.fan < ((2 : Nat) : Int)
  · apply W.run 20
    · intro M
      simp (config := { maxSteps := 4000000 }) (disch := first | decide +kernel | (rw [wantF_guard]; simp only [wantD_some, dstAt_zero, dstAt_succ, T.get_set, T.get_e, Nat.reduceEqDiff, if_true, if_false, wantV_bool, wantV_unit, unitV, cond_true, cond_false, Bool.not_true, Bool.not_false, List.toList_toArray]) | omega) only [c15, Try.f15, Option.getD_some, sub_seq1, sub_seq0, sub_nil, exec_seq, exec_region, runOps_cons, opF_fieldAddr, ev_tmp, h1, evG_some, putT_some, T.get_set, if_true, opF_load, Nat.reduceEqDiff, if_false, opF_ari, ev_int, opF_move, R.ok_bind, fa48_0, fa25_0, l1, binF_int, op_lssI, a1, decide_false, runOps_yes, opF_pick, pickF, ev_bool, op_gtr, a2, fa25_1, l2, a3, decide_true, runOps_no, runOps_nil, exec_cond, opF_assign, ev_nilslice, exec_ret, exec_skip]
      with_reducible rfl
    exact hK2 (by unfold headSOk; omega) _ (by simp only [Sl_cons, Sl_nil, T.get_set, T.puts_cons, T.puts_nil, Nat.reduceEqDiff, Nat.reduceAdd, if_true, if_false, and_true, true_and])
  by_cases a4 : ((9 : Nat) : Int) < s.fan
  · apply W.run 20
    · intro M
      simp (config := { maxSteps := 4000000 }) (disch := first | decide +kernel | (rw [wantF_guard]; simp only [wantD_some, dstAt_zero, dstAt_succ, T.get_set, T.get_e, Nat.reduceEqDiff, if_true, if_false, wantV_bool, wantV_unit, unitV, cond_true, cond_false, Bool.not_true, Bool.not_false, List.toList_toArray]) | omega) only [c15, Try.f15, Option.getD_some, sub_seq1, sub_seq0, sub_nil, exec_seq, exec_region, runOps_cons, opF_fieldAddr, ev_tmp, h1, evG_some, putT_some, T.get_set, if_true, opF_load, Nat.reduceEqDiff, if_false, opF_ari, ev_int, opF_move, R.ok_bind, fa48_0, fa25_0, l1, binF_int, op_lssI, a1, decide_false, runOps_yes, opF_pick, pickF, ev_bool, op_gtr, a2, fa25_1, l2, a3, a4, decide_true, runOps_no, runOps_nil, exec_cond, opF_assign, ev_nilslice, exec_ret, exec_skip]
      with_reducible rfl
    exact hK2 (by unfold headSOk; omega) _ (by simp only [Sl_cons, Sl_nil, T.get_set, T.puts_cons, T.puts_nil, Nat.reduceEqDiff, Nat.reduceAdd, if_true, if_false, and_true, true_and])
  by_cases a5 : s.quota < ((0 : Nat) : Int)
  · apply W.run 20
    · intro M
      simp (config := { maxSteps := 4000000 }) (disch := first | decide +kernel | (rw [wantF_guard]; simp only [wantD_some, dstAt_zero, dstAt_succ, T.get_set, T.get_e, Nat.reduceEqDiff, if_true, if_false, wantV_bool, wantV_unit, unitV, cond_true, cond_false, Bool.not_true, Bool.not_false, List.toList_toArray]) | omega) only [c15, Try.f15, Option.getD_some, sub_seq1, sub_seq0, sub_nil, exec_seq, exec_region, runOps_cons, opF_fieldAddr, ev_tmp, h1, evG_some, putT_some, T.get_set, if_true, opF_load, Nat.reduceEqDiff, if_false, opF_ari, ev_int, opF_move, R.ok_bind, fa48_0, fa25_0, l1, binF_int, op_lssI, a1, decide_false, runOps_yes, opF_pick, pickF, ev_bool, op_gtr, a2, fa25_1, l2, a3, a4, fa48_1, l3, a5, decide_true, runOps_no, runOps_nil, exec_cond, opF_assign, ev_nilslice, exec_ret, exec_skip]
      with_reducible rfl
    exact hK2 (by unfold headSOk; omega) _ (by simp only [Sl_cons, Sl_nil, T.get_set, T.puts_cons, T.puts_nil, Nat.reduceEqDiff, Nat.reduceAdd, if_true, if_false, and_true, true_and])
  by_cases a6 : ((65535 : Nat) : Int) < s.quota
  · apply W.run 20
    · intro M
      simp (config := { maxSteps := 4000000 }) (disch := first | decide +kernel | (rw [wantF_guard]; simp only [wantD_some, dstAt_zero, dstAt_succ, T.get_set, T.get_e, Nat.reduceEqDiff, if_true, if_false, wantV_bool, wantV_unit, unitV, cond_true, cond_false, Bool.not_true, Bool.not_false, List.toList_toArray]) | omega) only [c15, Try.f15, Option.getD_some, sub_seq1, sub_seq0, sub_nil, exec_seq, exec_region, runOps_cons, opF_fieldAddr, ev_tmp, h1, evG_some, putT_some, T.get_set, if_true, opF_load, Nat.reduceEqDiff, if_false, opF_ari, ev_int, opF_move, R.ok_bind, fa48_0, fa25_0, l1, binF_int, op_lssI, a1, decide_false, runOps_yes, opF_pick, pickF, ev_bool, op_gtr, a2, fa25_1, l2, a3, a4, fa48_1, l3, a5, a6, decide_true, runOps_no, runOps_nil, exec_cond, opF_assign, ev_nilslice, exec_ret, exec_skip]
      with_reducible rfl
    exact hK2 (by unfold headSOk; omega) _ (by simp only [Sl_cons, Sl_nil, T.get_set, T.puts_cons, T.puts_nil, Nat.reduceEqDiff, Nat.reduceAdd, if_true, if_false, and_true, true_and])
  by_cases a7 : 60 < s.acts.length
  · apply W.run 20
    · intro M
      simp (config := { maxSteps := 4000000 }) (disch := first | decide +kernel | (rw [wantF_guard]; simp only [wantD_some, dstAt_zero, dstAt_succ, T.get_set, T.get_e, Nat.reduceEqDiff, if_true, if_false, wantV_bool, wantV_unit, unitV, cond_true, cond_false, Bool.not_true, Bool.not_false, List.toList_toArray]) | omega) only [c15, Try.f15, Option.getD_some, sub_seq1, sub_seq0, sub_nil, exec_seq, exec_region, runOps_cons, opF_fieldAddr, ev_tmp, h1, evG_some, putT_some, T.get_set, if_true, opF_load, Nat.reduceEqDiff, if_false, opF_ari, ev_int, opF_move, R.ok_bind, fa48_0, fa25_0, l1, binF_int, op_lssI, a1, decide_false, runOps_yes, opF_pick, pickF, ev_bool, op_gtr, a2, fa25_1, l2, a3, a4, fa48_1, l3, a5, a6, opF_len, evs, runOps_nil, fa48_2, l4, q4, cast_lt, a7, decide_true, exec_cond, opF_assign, ev_nilslice, exec_ret, exec_skip]
      with_reducible rfl
    exact hK2 (by unfold headSOk; omega) _ (by simp only [Sl_cons, Sl_nil, T.get_set, T.puts_cons, T.puts_nil, Nat.reduceEqDiff, Nat.reduceAdd, if_true, if_false, and_true, true_and])
  · apply W.run 20
    · intro M
      simp (config := { maxSteps := 4000000 }) (disch := first | decide +kernel | (rw [wantF_guard]; simp only [wantD_some, dstAt_zero, dstAt_succ, T.get_set, T.get_e, Nat.reduceEqDiff, if_true, if_false, wantV_bool, wantV_unit, unitV, cond_true, cond_false, Bool.not_true, Bool.not_false, List.toList_toArray]) | omega) only [c15, Try.f15, Option.getD_some, sub_seq1, sub_seq0, sub_nil, exec_seq, exec_region, runOps_cons, opF_fieldAddr, ev_tmp, h1, evG_some, putT_some, T.get_set, if_true, opF_load, Nat.reduceEqDiff, if_false, opF_ari, ev_int, opF_move, R.ok_bind, fa48_0, fa25_0, l1, binF_int, op_lssI, a1, decide_false, runOps_yes, opF_pick, pickF, ev_bool, op_gtr, a2, fa25_1, l2, a3, a4, fa48_1, l3, a5, a6, opF_len, evs, runOps_nil, fa48_2, l4, q4, cast_lt, a7, exec_cond, opF_assign, ev_nilslice, exec_ret, exec_skip]
      with_reducible rfl
    exact hK1 (by unfold headSOk; omega) _ (by simp only [T.get_set, Nat.reduceEqDiff, if_true, if_false, h1])
end
open Classical in
set_option maxHeartbeats 16000000 in
theorem run_rPut {P : Nat → Prop} {A : Mem} {s : SetG} {l : List Value} (h : SetP P A s l) (hA0 : 0 < A.next) (hw : ∀ d ∈ s.acts, d.word.length ≤ 1000) :
    ∃ y A', Ans tb1 15 [.agg ⟨l⟩] A (.tuple ⟨[y, .int .i64 ((if putSOk s = true then 0 else 2 : Nat) : Int)]⟩) A' ∧ Ext A A' ∧ (putSOk s = true → Own A (headG s ++ encGs s.acts) y A') ∧ (putSOk s = false → y = .slice none 0 0) := by
  obtain ⟨v, A', ha, y, hv, h1, h2, h3⟩ : ∃ v A', Ans tb1 15 [.agg ⟨l⟩] A v A' ∧ ∃ y, v = .tuple ⟨[y, .int .i64 ((if putSOk s = true then 0 else 2 : Nat) : Int)]⟩ ∧ Ext A A' ∧ (putSOk s = true → Own A (headG s ++ encGs s.acts) y A') ∧ (putSOk s = false → y = .slice none 0 0) := by
    obtain ⟨xa, rfl, ka⟩ := h
    refine ans_of_W (fn_at Try.func15) c15_eq (by rw [Try.ntmps15]; simp) (by kernel_rfl) (by kernel_rfl) ?_
    have v0 : Vals (A.alloc (rowOb 48 (cellsS s xa))) 48 A.next (.var 4) (cellsS s xa) := Go.Am.vals_new A 48 _
    have n0 : (A.alloc (rowOb 48 (cellsS s xa))).next = A.next + 1 := next_alloc _ _
    have E0 := Ext.alloc A (rowOb 48 (cellsS s xa))
    have ka0 : ActsP (fun _ => True) (A.alloc (rowOb 48 (cellsS s xa))) s.acts xa := ka.same E0.n (fun c _ hl => ⟨trivial, E0.g c hl⟩)
    apply W.seq
    apply W.run 20
    · intro M
      simp (config := { maxSteps := 4000000 }) (disch := first | decide +kernel | omega) only [c15, Try.f15, Option.getD_some, sub_seq0, sub_nil, T.puts_cons, Nat.reduceAdd, T.puts_nil, exec_region, runOps_cons, opF_box, ev_tmp, T.get_set, T.get_e, if_true, evG_some, at_ptr, putT_some, opF_assign, ev_nilslice, ev_int, runOps_nil, R.ok_bind, cells_agg]
      with_reducible rfl
    revert v0 n0 E0 ka0
    generalize A.alloc (rowOb 48 (cellsS s xa)) = B
    intro v0 n0 E0 ka0
    apply W.seq
    refine putS_head v0 ka0 (by simp only [T.get_set, Nat.reduceEqDiff, if_true, if_false]) ?_ ?_
    rotate_left
    · rintro hh t ⟨g2, g3, -⟩
      have hno : putSOk s = false := by unfold putSOk; rw [decide_eq_false hh]; rfl
      rw [hno]
      refine ⟨.inr rfl, B, [.slice none 0 0, .int .i64 ((2 : Nat) : Int)], rfl, ?_, .slice none 0 0, rfl, E0, (fun h => by cases h), fun _ => rfl⟩
      simp only [Try.f15, resF, ev_tmp, g2, g3, evG_some, R.ok_bind]
    intro hh t g1
    have hh' := hh
    unfold headSOk at hh'
    obtain ⟨w, hw1⟩ : ∃ w : Nat, s.wal = (w : Int) := ⟨s.wal.toNat, by omega⟩
    obtain ⟨f, hf1⟩ : ∃ f : Nat, s.fan = (f : Int) := ⟨s.fan.toNat, by omega⟩
    obtain ⟨u, hu1⟩ : ∃ u : Nat, s.quota = (u : Int) := ⟨s.quota.toNat, by omega⟩
    have l1 : loadF tb1 B.get 3 (.pointer (some ⟨A.next, 0, none⟩)) = .ok (.int .i64 (w : Int)) := by rw [← hw1]; exact load_vals und3 rfl v0 rfl
    have l2 : loadF tb1 B.get 3 (.pointer (some ⟨A.next, 1, none⟩)) = .ok (.int .i64 (f : Int)) := by rw [← hf1]; exact load_vals und3 rfl v0 rfl
    have l3 : loadF tb1 B.get 3 (.pointer (some ⟨A.next, 2, none⟩)) = .ok (.int .i64 (u : Int)) := by rw [← hu1]; exact load_vals und3 rfl v0 rfl
    have b1 : w - 1 < 256 := by omega
    have b2 : f - 2 < 256 := by omega
    have b3 : u % 256 < 256 := by omega
    have b4 : u / 256 < 256 := by omega
    have m1 := Nat.mod_eq_of_lt b1
    have m2 := Nat.mod_eq_of_lt b2
    have m3 := Nat.mod_eq_of_lt b3
    have m4 := Nat.mod_eq_of_lt b4
    have hg : headG s = [UInt8.ofNat (w - 1), UInt8.ofNat (f - 2), UInt8.ofNat (u % 256), UInt8.ofNat (u / 256)] := by
      unfold headG; rw [hw1, hf1, hu1]; rfl
    have hnew := Own.new (Ext.refl B) (l := headG s) (n := 4) (c := 8) rfl rfl
    have hby : byts (headG s) = [.int .u8 ((w - 1 : Nat) : Int), .int .u8 ((f - 2 : Nat) : Int), .int .u8 ((u % 256 : Nat) : Int), .int .u8 ((u / 256 : Nat) : Int)] := by
      rw [hg]; simp only [byts, List.map_cons, List.map_nil, u8_nat b1, u8_nat b2, u8_nat b3, u8_nat b4]
    rw [hby] at hnew
    show W tb1 _ _ _
    apply W.seq
    apply W.run 20
    · intro M
      simp (config := { maxSteps := 4000000 }) (disch := first | decide +kernel | omega) only [c15, Try.f15, Option.getD_some, sub_seq1, sub_seq0, sub_nil, exec_region, runOps_cons, opF_fieldAddr, ev_tmp, g1, evG_some, putT_some, T.get_set, if_true, opF_load, Nat.reduceEqDiff, if_false, opF_ari, ev_int, und3, opF_conv, convPF, und5, opF_buildSlice, evp, R.ok_bind, opF_assign, runOps_nil, fa48_1, l3, binF_int, op_quo_i64, wrapF_u8, m4, op_rem, m3, fa48_0, fa25_1, l2, op_sub_i64, m2, fa25_0, l1, m1, bs22_4, at_slc]
      with_reducible rfl
    apply W.seq
    apply W.seq
    apply W.run 20
    · intro M
      simp (config := { maxSteps := 4000000 }) (disch := first | decide +kernel | omega) only [c15, Try.f15, Option.getD_some, sub_seq1, sub_seq0, sub_nil, exec_region, runOps_cons, opF_assign, ev_int, putT_some, runOps_nil, R.ok_bind]
      with_reducible rfl
    apply W.block
    refine W.up s.acts.length (fun i t C => (s.acts.take i).all putOk = true ∧ ∃ y, Own B (headG s ++ encGs (s.acts.take i)) y C ∧ Sl t [(1, .pointer (some ⟨A.next, 0, none⟩)), (4, y), (5, .int .i64 (i : Int))]) ?_ (Nat.zero_le _) ⟨rfl, _, by simpa [encGs] using hnew, ?_⟩
    · rintro i t C hi ⟨hok, y, hO, g1, g4, g5, -⟩
      have vC := v0.same (hO.1.g _ (by omega))
      have lC : loadF tb1 C.get 46 (.pointer (some ⟨A.next, 3, none⟩)) = .ok xa := load_vals und46 rfl vC rfl
      have kaC : ActsP (fun _ => True) C s.acts xa := ka0.same hO.1.n (fun c _ hl => ⟨trivial, hO.1.g c hl⟩)
      have q4 := kaC.len
      have hBC := hO.1.n
      rw [c15b1_eq]
      apply W.seq
      by_cases hlt : i < s.acts.length
      · obtain ⟨bb, oo, la, i1, i2, hact⟩ := kaC.at hlt
        have hwd := hw _ (List.getElem_mem hlt)
        obtain ⟨z, D, ⟨g, hg⟩, hE, hz⟩ := run_rput hact (by omega) hwd
        have hOD := hO.ext hE
        have hta : (s.acts.take (i + 1)).all putOk = putOk s.acts[i] := by rw [take_all hlt, hok, Bool.true_and]
        have hen := encGs_take hlt
        have hll := encGs_len (l := s.acts.take i) (fun d hd => hw d (List.mem_of_mem_take hd)) hok
        rw [List.length_take] at hll
        have hll2 : (encGs (s.acts.take i)).length ≤ 66000 := by
          refine Nat.le_trans hll ?_
          have : min i s.acts.length ≤ 60 := by omega
          have := Nat.mul_le_mul_left 1100 this
          omega
        have hlg : (headG s).length = 4 := rfl
        apply W.run 20
        · intro M
          simp (config := { maxSteps := 4000000 }) (disch := first | decide +kernel | omega) only [c15b1, c15, Try.f15, Option.getD_some, sub_seq1, sub_seq0, sub_block, sub_loop, sub_nil, exec_seq, exec_region, runOps_cons, opF_move, ev_tmp, g5, evG_some, putT_some, opF_fieldAddr, T.get_set, Nat.reduceEqDiff, g1, if_false, opF_load, if_true, opF_len, evs, R.ok_bind, opF_ari, runOps_nil, fa48_2, lC, q4, binF_int, op_lssI, cast_lt, hlt, decide_true, exec_cond, exec_skip, exec_exit]
          with_reducible rfl
        apply W.seq
        apply W.block
        apply W.seq
        apply W.runG (g) 20
        · intro M hM
          simp (config := { maxSteps := 4000000 }) (disch := first | decide +kernel | omega) only [c15b1, c15, Try.f15, Option.getD_some, sub_seq1, sub_seq0, sub_block, sub_loop, sub_nil, exec_region, runOps_cons, opF_fieldAddr, ev_tmp, T.get_set, Nat.reduceEqDiff, g1, if_false, evG_some, putT_some, opF_load, if_true, opF_move, g5, opF_indexAddr, opF_call, evs, R.ok_bind, resK, opF_extract, extractF, opF_assign, runOps_nil, fa48_2, lC, i1, i2, hg, List.getElem?_cons_zero, List.getElem?_cons_succ]
          with_reducible rfl
        apply W.seq
        cases hp : putOk s.acts[i] with
        | false =>
          apply W.run 20
          · intro M
            simp (config := { maxSteps := 4000000 }) (disch := first | decide +kernel | omega) only [c15b1, c15, Try.f15, Option.getD_some, sub_seq1, sub_seq0, sub_block, sub_loop, sub_nil, exec_seq, exec_region, runOps_cons, opF_move, ev_tmp, T.get_set, Nat.reduceEqDiff, if_false, if_true, evG_some, putT_some, opF_un, runOps_nil, R.ok_bind, un_not, Bool.not_false, exec_cond, opF_assign, ev_nilslice, exec_ret, exec_skip, ev_int]
            with_reducible rfl
          have hno : putSOk s = false := by unfold putSOk; rw [not_all hlt hp, Bool.and_false]
          rw [hno]
          refine ⟨.inr rfl, D, [.slice none 0 0, .int .i64 ((2 : Nat) : Int)], rfl, ?_, .slice none 0 0, rfl, E0.trans hOD.1, (fun h => by cases h), fun _ => rfl⟩
          simp only [Try.f15, resF, ev_tmp, T.get_set, Nat.reduceEqDiff, if_true, if_false, evG_some, R.ok_bind]
        | true =>
          have hz := hz hp
          have hgl := encG_len hwd hp
          obtain ⟨q, hq⟩ := hz.rd (by omega)
          obtain ⟨y', E, happ, hO'⟩ := hOD.app hq (by rw [List.length_append]; omega)
          apply W.run 20
          · intro M
            simp (config := { maxSteps := 4000000 }) (disch := first | decide +kernel | omega) only [c15b1, c15, Try.f15, Option.getD_some, sub_seq1, sub_seq0, sub_block, sub_loop, sub_nil, exec_seq, exec_region, runOps_cons, opF_move, ev_tmp, T.get_set, Nat.reduceEqDiff, if_false, if_true, evG_some, putT_some, opF_un, runOps_nil, R.ok_bind, un_not, Bool.not_true, exec_cond, opF_assign, ev_nilslice, exec_ret, exec_skip, ev_int]
            with_reducible rfl
          show W tb1 _ _ _
          apply W.run 20
          · intro M
            simp (config := { maxSteps := 4000000 }) (disch := first | decide +kernel | omega) only [c15b1, c15, Try.f15, Option.getD_some, sub_seq1, sub_seq0, sub_block, sub_loop, sub_nil, exec_region, runOps_cons, opF_move, ev_tmp, T.get_set, Nat.reduceEqDiff, g4, if_false, evG_some, putT_some, if_true, opF_builtin, evs, R.ok_bind, opF_assign, runOps_nil, builtin_append, happ]
            with_reducible rfl
          show W tb1 _ _ _
          apply W.run 20
          · intro M
            simp (config := { maxSteps := 4000000 }) (disch := first | decide +kernel | omega) only [c15b1, c15, Try.f15, Option.getD_some, sub_seq1, sub_seq0, sub_block, sub_loop, sub_nil, exec_region, runOps_cons, opF_move, ev_tmp, T.get_set, Nat.reduceEqDiff, g5, if_false, evG_some, putT_some, opF_ari, if_true, ev_int, opF_assign, runOps_nil, R.ok_bind, binF_int, op_add_i64]
            with_reducible rfl
          refine ⟨hlt, _, _, rfl, by rw [hta]; exact hp, y', by rw [hen, ← List.append_assoc]; exact hO', ?_⟩
          simp only [Sl_cons, Sl_nil, T.get_set, T.puts_cons, T.puts_nil, Nat.reduceEqDiff, Nat.reduceAdd, if_true, if_false, and_true, true_and, g1]
      · have hin : i = s.acts.length := by omega
        subst hin
        rw [List.take_length] at hO hok
        apply W.run 20
        · intro M
          simp (config := { maxSteps := 4000000 }) (disch := first | decide +kernel | omega) only [c15b1, c15, Try.f15, Option.getD_some, sub_seq1, sub_seq0, sub_block, sub_loop, sub_nil, exec_seq, exec_region, runOps_cons, opF_move, ev_tmp, g5, evG_some, putT_some, opF_fieldAddr, T.get_set, Nat.reduceEqDiff, g1, if_false, opF_load, if_true, opF_len, evs, R.ok_bind, opF_ari, runOps_nil, fa48_2, lC, q4, binF_int, op_lssI, cast_lt, Nat.lt_irrefl, decide_false, exec_cond, exec_skip, exec_exit]
          with_reducible rfl
        show W tb1 _ _ _
        apply W.seq
        apply W.run 20
        · intro M
          simp (config := { maxSteps := 4000000 }) (disch := first | decide +kernel | omega) only [c15, Try.f15, Option.getD_some, sub_seq1, sub_seq0, sub_nil, exec_region, runOps_cons, opF_move, ev_tmp, T.get_set, Nat.reduceEqDiff, g4, if_false, evG_some, putT_some, opF_assign, if_true, ev_int, runOps_nil, R.ok_bind]
          with_reducible rfl
        apply W.run 20
        · intro M
          simp (config := { maxSteps := 4000000 }) (disch := first | decide +kernel | omega) only [c15, Try.f15, Option.getD_some, sub_seq1, sub_nil, exec_ret]
          with_reducible rfl
        have hyes : putSOk s = true := by unfold putSOk; rw [decide_eq_true hh, hok]; rfl
        rw [hyes]
        refine ⟨.inr rfl, C, [y, .int .i64 ((0 : Nat) : Int)], rfl, ?_, y, rfl, E0.trans hO.1, fun _ => hO.down E0, (fun h => by cases h)⟩
        simp only [Try.f15, resF, ev_tmp, T.get_set, Nat.reduceEqDiff, if_true, if_false, evG_some, R.ok_bind]
    · simp only [Sl_cons, Sl_nil, T.get_set, T.puts_cons, T.puts_nil, Nat.reduceEqDiff, Nat.reduceAdd, if_true, if_false, and_true, true_and, g1]
  subst hv
  exact ⟨y, A', ha, h1, h2, h3⟩
end Go.Proofs.Ytmhldlnlgjpkaaa.scr

