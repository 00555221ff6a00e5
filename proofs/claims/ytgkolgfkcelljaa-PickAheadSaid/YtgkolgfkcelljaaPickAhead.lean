/-
  The statement PickAhead holds, for every input: the program, run on the abstract machine AM on values of which parts are variables, answers true; what AM answers the model answers. No conditions.
-/
import Derived.Test.YtgkolgfkcelljaaRows
import Derived.Test.YtgkolgfkcelljaaPckA
import Derived.WalkKit
import Derived.ProofKit
import Derived.OpenShut
import Derived.ShutString
import Derived.ChangeOld
import Derived.Below
namespace Go.Proofs.Ytgkolgfkcelljaa.pck
open Go.Am Go.Pick
set_option linter.unusedSimpArgs false
set_option linter.unusedVariables false
set_option linter.unusedVariables false
set_option maxRecDepth 20000

set_option maxHeartbeats 8000000 in
theorem run_pickAhead {A : Mem} {x : Value} (ls : List Nat) (fv mv : Nat) (hb : ∀ v ∈ ls, v < 65536) (hfv : fv < 256) (hmv : mv < 256) (hA : 0 < A.next) (hx : ParS A (shorts ls) x) : ∃ A', CallsTo tb1 5 [x, .int .u8 (fv : Int), .int .u8 (mv : Int)] A (.bool true) A' := by
  obtain ⟨v, A', h1, h2⟩ : ∃ v A', CallsTo tb1 5 [x, .int .u8 (fv : Int), .int .u8 (mv : Int)] A v A' ∧ v = .bool true := by
    refine call_of_W (fn_at Try.func5) c5_eq (by rw [Try.ntmps5]; simp) ?_
    obtain ⟨xo, B, ⟨g1, hg1⟩, hO, EAB⟩ := run_numbersOf hb hx hA
    have hol := ownL_len ls
    have hob := ownL_le hb
    have hBn := EAB.n
    generalize ownL ls = own at hO hol hob
    obtain ⟨bo, hS, hbo⟩ := hO.block (by omega)
    obtain ⟨f, hf⟩ : ∃ f, 2 + fv % 8 = f := ⟨_, rfl⟩
    have f2 : 2 ≤ f := by omega
    have f9 : f ≤ 9 := by omega
    have hob2 : ∀ n ∈ own, n < 4611686018427387904 := fun n hn => by have := hob n hn; omega
    obtain ⟨C, ⟨g2, hg2⟩, EBC⟩ := run_pick f2 (by omega) (by omega) hob2 hS hbo
    apply W.seq
    apply W.run 20
    · intro M
      simp (config := { maxSteps := 4000000 }) (disch := first | decide +kernel | (rw [wantF_guard]; simp only [wantD_some, dstAt_zero, dstAt_succ, T.get_set, T.get_e, Nat.reduceEqDiff, if_true, if_false, wantV_bool, wantV_unit, unitV, cond_true, cond_false, Bool.not_true, Bool.not_false, List.toList_toArray]) | omega) only [c5, Try.f5, Option.getD_some, sub_seq0, sub_nil, T.puts_cons, Nat.reduceAdd, T.puts_nil, exec_region, runOps_cons, opF_assign, ev_bool, putT_some, runOps_nil, R.ok_bind]
      with_reducible rfl
    apply W.seq
    apply W.seq
    apply W.run 20
    · intro M
      simp (config := { maxSteps := 4000000 }) (disch := first | decide +kernel | (rw [wantF_guard]; simp only [wantD_some, dstAt_zero, dstAt_succ, T.get_set, T.get_e, Nat.reduceEqDiff, if_true, if_false, wantV_bool, wantV_unit, unitV, cond_true, cond_false, Bool.not_true, Bool.not_false, List.toList_toArray]) | omega) only [c5, Try.f5, Option.getD_some, sub_seq1, sub_seq0, sub_nil, exec_region, runOps_cons, opF_call, evs, resK, putT_some, opF_un, ev_tmp, T.get_set, Nat.reduceEqDiff, T.get_e, if_false, if_true, evG_some, runOps_nil, R.ok_bind, k6, un_not, Bool.not_true]
      with_reducible rfl
    apply W.run 20
    · intro M
      simp (config := { maxSteps := 4000000 }) (disch := first | decide +kernel | (rw [wantF_guard]; simp only [wantD_some, dstAt_zero, dstAt_succ, T.get_set, T.get_e, Nat.reduceEqDiff, if_true, if_false, wantV_bool, wantV_unit, unitV, cond_true, cond_false, Bool.not_true, Bool.not_false, List.toList_toArray]) | omega) only [c5, Try.f5, Option.getD_some, sub_seq1, sub_seq0, sub_nil, exec_cond, ev_tmp, T.get_set, Nat.reduceEqDiff, T.get_e, if_false, if_true, evG_some, exec_seq, exec_region, runOps_cons, opF_assign, ev_bool, putT_some, runOps_nil, R.ok_bind, exec_ret, exec_skip]
      with_reducible rfl
    show W tb1 _ _ _
    apply W.seq
    apply W.runG (g1) 20
    · intro M hM
      simp (config := { maxSteps := 4000000 }) (disch := first | decide +kernel | (rw [wantF_guard]; simp only [wantD_some, dstAt_zero, dstAt_succ, T.get_set, T.get_e, Nat.reduceEqDiff, if_true, if_false, wantV_bool, wantV_unit, unitV, cond_true, cond_false, Bool.not_true, Bool.not_false, List.toList_toArray]) | omega) only [c5, Try.f5, Option.getD_some, sub_seq1, sub_seq0, sub_nil, exec_region, runOps_cons, opF_move, ev_tmp, T.get_set, Nat.reduceEqDiff, T.get_e, if_true, if_false, evG_some, putT_some, opF_call, evs, R.ok_bind, resK, opF_assign, runOps_nil, hg1]
      with_reducible rfl
    apply W.seq
    apply W.run 20
    · intro M
      simp (config := { maxSteps := 4000000 }) (disch := first | decide +kernel | (rw [wantF_guard]; simp only [wantD_some, dstAt_zero, dstAt_succ, T.get_set, T.get_e, Nat.reduceEqDiff, if_true, if_false, wantV_bool, wantV_unit, unitV, cond_true, cond_false, Bool.not_true, Bool.not_false, List.toList_toArray]) | omega) only [c5, Try.f5, Option.getD_some, sub_seq1, sub_seq0, sub_nil, exec_region, runOps_cons, opF_move, ev_tmp, T.get_set, Nat.reduceEqDiff, T.get_e, if_false, if_true, evG_some, putT_some, opF_ari, ev_int, und5, opF_conv, convPF, und3, opF_assign, runOps_nil, R.ok_bind, binF_int, op_rem, wrapF_i64, op_add_i64, hf]
      with_reducible rfl
    apply W.seq
    cases ho : pickO f own with
    | none =>
      rw [ho] at hg2
      unfold pickV at hg2
      apply W.runG (g2) 20
      · intro M hM
        simp (config := { maxSteps := 4000000 }) (disch := first | decide +kernel | (rw [wantF_guard]; simp only [wantD_some, dstAt_zero, dstAt_succ, T.get_set, T.get_e, Nat.reduceEqDiff, if_true, if_false, wantV_bool, wantV_unit, unitV, cond_true, cond_false, Bool.not_true, Bool.not_false, List.toList_toArray]) | omega) only [c5, Try.f5, Option.getD_some, sub_seq1, sub_seq0, sub_nil, exec_region, runOps_cons, opF_move, ev_tmp, T.get_set, Nat.reduceEqDiff, T.get_e, if_false, if_true, evG_some, putT_some, opF_call, evs, R.ok_bind, resK, opF_extract, extractF, opF_assign, runOps_nil, hg2, List.getElem?_cons_zero, List.getElem?_cons_succ]
        with_reducible rfl
      apply W.seq
      apply W.seq
      apply W.run 20
      · intro M
        simp (config := { maxSteps := 4000000 }) (disch := first | decide +kernel | (rw [wantF_guard]; simp only [wantD_some, dstAt_zero, dstAt_succ, T.get_set, T.get_e, Nat.reduceEqDiff, if_true, if_false, wantV_bool, wantV_unit, unitV, cond_true, cond_false, Bool.not_true, Bool.not_false, List.toList_toArray]) | omega) only [c5, Try.f5, Option.getD_some, sub_seq1, sub_seq0, sub_nil, exec_region, runOps_cons, opF_move, ev_tmp, T.get_set, Nat.reduceEqDiff, T.get_e, if_false, if_true, evG_some, putT_some, opF_neq, ev_int, runOps_nil, R.ok_bind, binF_int, op_neq, ne_eq, not_false_eq_true, decide_true]
        with_reducible rfl
      show W tb1 _ _ _
      apply W.run 20
      · intro M
        simp (config := { maxSteps := 4000000 }) (disch := first | decide +kernel | (rw [wantF_guard]; simp only [wantD_some, dstAt_zero, dstAt_succ, T.get_set, T.get_e, Nat.reduceEqDiff, if_true, if_false, wantV_bool, wantV_unit, unitV, cond_true, cond_false, Bool.not_true, Bool.not_false, List.toList_toArray]) | omega) only [c5, Try.f5, Option.getD_some, sub_seq1, sub_seq0, sub_nil, exec_cond, ev_tmp, T.get_set, Nat.reduceEqDiff, T.get_e, if_false, if_true, evG_some, exec_seq, exec_region, runOps_cons, opF_assign, ev_bool, putT_some, runOps_nil, R.ok_bind, exec_ret, exec_skip]
        with_reducible rfl
      refine ⟨.inr rfl, _, [.bool true], rfl, ?_, rfl⟩
      simp only [Try.f5, resF, ev_tmp, T.get_set, Nat.reduceEqDiff, if_true, if_false, evG_some, R.ok_bind]
    | some r =>
      rw [ho] at hg2
      unfold pickV at hg2
      obtain ⟨r1, r2, r3, r4⟩ := rowsL_tier f _ _ _ r (pickO_row ho)
      simp only [Nat.sub_zero, Nat.zero_add] at r3 r4
      have hOC : Own C own xo := ⟨bo, hS.same EBC.n (fun h => EBC.g _ h)⟩
      obtain ⟨p, hp, hpl⟩ := hOC.at (show r.a < own.length by omega)
      obtain ⟨p0, hp0, hpl0⟩ := hOC.at (show 0 < own.length by omega)
      have hm1 : own.getD r.a 0 ≤ 40000 := by
        rw [List.getD, List.getElem?_eq_getElem (show r.a < own.length by omega)]; exact hob _ (List.getElem_mem _)
      have hm0 : own.getD 0 0 ≤ 40000 := by
        rw [List.getD, List.getElem?_eq_getElem (show 0 < own.length by omega)]; exact hob _ (List.getElem_mem _)
      have hk1 := fun ih => k9 (ih := ih) (A := C) (n := own.getD r.a 0) (f := f) f2 (by omega)
      rw [r4] at hk1
      have hk0 := fun ih A => k9 (ih := ih) (A := A) (n := own.getD 0 0) (f := f) f2 (by omega)
      obtain ⟨q, hq⟩ : ∃ q, tier f (own.getD 0 0) = q := ⟨_, rfl⟩
      rw [hq] at hk0
      have hpow : f ^ r.t ≤ 40000 := by
        by_cases h0 : 0 < r.t
        · have := tier_lo f2 (own.getD r.a 0) (by rw [r4]; exact h0)
          rw [r4] at this; omega
        · rw [show r.t = 0 by omega, Nat.pow_zero]; omega
      have hpow1 : f ^ (r.t + 1) ≤ 360000 := by
        rw [Nat.pow_succ]
        have := Nat.mul_le_mul hpow f9
        omega
      have hT : r.t < 40001 := Nat.lt_of_lt_of_le (Nat.lt_pow_self (by omega : 1 < f)) (by omega)
      have hq2 : q < 40001 := by
        rw [← hq]
        by_cases h0 : 0 < tier f (own.getD 0 0)
        · have h5 := tier_lo f2 (own.getD 0 0) h0
          have h6 : tier f (own.getD 0 0) < f ^ tier f (own.getD 0 0) := Nat.lt_pow_self (by omega : 1 < f)
          omega
        · omega
      apply W.runG (g2) 20
      · intro M hM
        simp (config := { maxSteps := 4000000 }) (disch := first | decide +kernel | (rw [wantF_guard]; simp only [wantD_some, dstAt_zero, dstAt_succ, T.get_set, T.get_e, Nat.reduceEqDiff, if_true, if_false, wantV_bool, wantV_unit, unitV, cond_true, cond_false, Bool.not_true, Bool.not_false, List.toList_toArray]) | omega) only [c5, Try.f5, Option.getD_some, sub_seq1, sub_seq0, sub_nil, exec_region, runOps_cons, opF_move, ev_tmp, T.get_set, Nat.reduceEqDiff, T.get_e, if_false, if_true, evG_some, putT_some, opF_call, evs, R.ok_bind, resK, opF_extract, extractF, opF_assign, runOps_nil, hg2, List.getElem?_cons_zero, List.getElem?_cons_succ]
        with_reducible rfl
      apply W.seq
      apply W.seq
      apply W.run 20
      · intro M
        simp (config := { maxSteps := 4000000 }) (disch := first | decide +kernel | (rw [wantF_guard]; simp only [wantD_some, dstAt_zero, dstAt_succ, T.get_set, T.get_e, Nat.reduceEqDiff, if_true, if_false, wantV_bool, wantV_unit, unitV, cond_true, cond_false, Bool.not_true, Bool.not_false, List.toList_toArray]) | omega) only [c5, Try.f5, Option.getD_some, sub_seq1, sub_seq0, sub_nil, exec_region, runOps_cons, opF_move, ev_tmp, T.get_set, Nat.reduceEqDiff, T.get_e, if_false, if_true, evG_some, putT_some, opF_neq, ev_int, runOps_nil, R.ok_bind, binF_int, op_neq, ne_eq, not_true_eq_false, decide_false]
        with_reducible rfl
      show W tb1 _ _ _
      apply W.run 20
      · intro M
        simp (config := { maxSteps := 4000000 }) (disch := first | decide +kernel | (rw [wantF_guard]; simp only [wantD_some, dstAt_zero, dstAt_succ, T.get_set, T.get_e, Nat.reduceEqDiff, if_true, if_false, wantV_bool, wantV_unit, unitV, cond_true, cond_false, Bool.not_true, Bool.not_false, List.toList_toArray]) | omega) only [c5, Try.f5, Option.getD_some, sub_seq1, sub_seq0, sub_nil, exec_cond, ev_tmp, T.get_set, Nat.reduceEqDiff, T.get_e, if_false, if_true, evG_some, exec_seq, exec_region, runOps_cons, opF_assign, ev_bool, putT_some, runOps_nil, R.ok_bind, exec_ret, exec_skip]
        with_reducible rfl
      show W tb1 _ _ _
      apply W.seq
      apply W.run 20
      · intro M
        simp (config := { maxSteps := 4000000 }) (disch := first | decide +kernel | (rw [wantF_guard]; simp only [wantD_some, dstAt_zero, dstAt_succ, T.get_set, T.get_e, Nat.reduceEqDiff, if_true, if_false, wantV_bool, wantV_unit, unitV, cond_true, cond_false, Bool.not_true, Bool.not_false, List.toList_toArray]) | omega) only [c5, Try.f5, Option.getD_some, sub_seq1, sub_seq0, sub_nil, exec_region, runOps_cons, opF_move, ev_tmp, T.get_set, Nat.reduceEqDiff, T.get_e, if_false, if_true, evG_some, putT_some, opF_indexAddr, opF_load, opF_call, evs, R.ok_bind, resK, opF_assign, runOps_nil, hp, hpl, hk1]
        with_reducible rfl
      apply W.seq
      apply W.run 20
      · intro M
        simp (config := { maxSteps := 4000000 }) (disch := first | decide +kernel | (rw [wantF_guard]; simp only [wantD_some, dstAt_zero, dstAt_succ, T.get_set, T.get_e, Nat.reduceEqDiff, if_true, if_false, wantV_bool, wantV_unit, unitV, cond_true, cond_false, Bool.not_true, Bool.not_false, List.toList_toArray]) | omega) only [c5, Try.f5, Option.getD_some, sub_seq1, sub_seq0, sub_nil, exec_region, runOps_cons, opF_assign, ev_int, putT_some, runOps_nil, R.ok_bind]
        with_reducible rfl
      apply W.seq
      refine ahead_great (mv := mv) (f := f) (ra := r.a) (rb := r.b) (ti0 := r.t) (xo := xo) f2 (by omega) ?_ ?_ ?_
      · unfold ahS; simp only [Sl_cons, Sl_nil, T.get_set, T.puts_cons, T.puts_nil, Nat.reduceEqDiff, Nat.reduceAdd, if_true, if_false, and_true, true_and]
      · simp only [T.get_set, Nat.reduceEqDiff, if_true, if_false]
      intro t1 hs1 h13
      show W tb1 _ _ _
      have hs1' := hs1
      obtain ⟨a2, a7, a8, a9, a10, a12, -⟩ := hs1'
      have hadd : intOpF .add .i64 ((r.t : Nat) : Int) ((1 : Nat) : Int) = .ok (.int .i64 ((r.t + 1 : Nat) : Int)) := op_add_i64 (by omega)
      apply W.seq
      apply W.seq
      by_cases hqe : q = r.t + 1
      · apply W.run 20
        · intro M
          simp (config := { maxSteps := 4000000 }) (disch := first | decide +kernel | (rw [wantF_guard]; simp only [wantD_some, dstAt_zero, dstAt_succ, T.get_set, T.get_e, Nat.reduceEqDiff, if_true, if_false, wantV_bool, wantV_unit, unitV, cond_true, cond_false, Bool.not_true, Bool.not_false, List.toList_toArray]) | omega) only [c5, Try.f5, Option.getD_some, sub_seq1, sub_seq0, sub_nil, exec_region, runOps_cons, opF_move, ev_tmp, a7, evG_some, putT_some, opF_indexAddr, T.get_set, if_true, ev_int, opF_load, Nat.reduceEqDiff, if_false, a8, opF_call, evs, R.ok_bind, resK, a12, opF_ari, opF_eql, runOps_nil, binF_int, hadd, hp0, hpl0, hk0, hqe, op_eql, decide_true]
          with_reducible rfl
        show W tb1 _ _ _
        apply W.run 20
        · intro M
          simp (config := { maxSteps := 4000000 }) (disch := first | decide +kernel | (rw [wantF_guard]; simp only [wantD_some, dstAt_zero, dstAt_succ, T.get_set, T.get_e, Nat.reduceEqDiff, if_true, if_false, wantV_bool, wantV_unit, unitV, cond_true, cond_false, Bool.not_true, Bool.not_false, List.toList_toArray]) | omega) only [c5, Try.f5, Option.getD_some, sub_seq1, sub_seq0, sub_nil, exec_cond, ev_tmp, T.get_set, Nat.reduceEqDiff, if_false, if_true, evG_some, exec_seq, exec_region, runOps_cons, opF_assign, ev_bool, putT_some, runOps_nil, R.ok_bind, exec_ret, exec_skip]
          with_reducible rfl
        refine ⟨.inr rfl, _, [.bool true], rfl, ?_, rfl⟩
        simp only [Try.f5, resF, ev_tmp, T.get_set, Nat.reduceEqDiff, if_true, if_false, evG_some, R.ok_bind]
      · apply W.run 20
        · intro M
          simp (config := { maxSteps := 4000000 }) (disch := first | decide +kernel | (rw [wantF_guard]; simp only [wantD_some, dstAt_zero, dstAt_succ, T.get_set, T.get_e, Nat.reduceEqDiff, if_true, if_false, wantV_bool, wantV_unit, unitV, cond_true, cond_false, Bool.not_true, Bool.not_false, List.toList_toArray]) | omega) only [c5, Try.f5, Option.getD_some, sub_seq1, sub_seq0, sub_nil, exec_region, runOps_cons, opF_move, ev_tmp, a7, evG_some, putT_some, opF_indexAddr, T.get_set, if_true, ev_int, opF_load, Nat.reduceEqDiff, if_false, a8, opF_call, evs, R.ok_bind, resK, a12, opF_ari, opF_eql, runOps_nil, binF_int, hadd, hp0, hpl0, hk0, op_eql, hqe, decide_false]
          with_reducible rfl
        show W tb1 _ _ _
        apply W.run 20
        · intro M
          simp (config := { maxSteps := 4000000 }) (disch := first | decide +kernel | (rw [wantF_guard]; simp only [wantD_some, dstAt_zero, dstAt_succ, T.get_set, T.get_e, Nat.reduceEqDiff, if_true, if_false, wantV_bool, wantV_unit, unitV, cond_true, cond_false, Bool.not_true, Bool.not_false, List.toList_toArray]) | omega) only [c5, Try.f5, Option.getD_some, sub_seq1, sub_seq0, sub_nil, exec_cond, ev_tmp, T.get_set, Nat.reduceEqDiff, if_false, if_true, evG_some, exec_seq, exec_region, runOps_cons, opF_assign, ev_bool, putT_some, runOps_nil, R.ok_bind, exec_ret, exec_skip]
          with_reducible rfl
        show W tb1 _ _ _
        apply W.seq
        apply W.run 20
        · intro M
          simp (config := { maxSteps := 4000000 }) (disch := first | decide +kernel | (rw [wantF_guard]; simp only [wantD_some, dstAt_zero, dstAt_succ, T.get_set, T.get_e, Nat.reduceEqDiff, if_true, if_false, wantV_bool, wantV_unit, unitV, cond_true, cond_false, Bool.not_true, Bool.not_false, List.toList_toArray]) | omega) only [c5, Try.f5, Option.getD_some, sub_seq1, sub_seq0, sub_nil, exec_region, runOps_cons, opF_assign, ev_nilslice, putT_some, runOps_nil, R.ok_bind]
          with_reducible rfl
        have hhead : ∀ n, own.head? = some n → tier f n ≠ r.t + 1 := fun n hn => by
          have : own.getD 0 0 = n := by
            cases own with
            | nil => cases hn
            | cons m l => simpa using hn
          rw [← this, hq]; exact hqe
        obtain ⟨gr, hgr⟩ : ∃ gr, f ^ (r.t + 1) = gr := ⟨_, rfl⟩
        have htg : tier f gr = r.t + 1 := by rw [← hgr]; exact tier_pow f2 _
        rw [hgr] at h13
        apply W.seq
        refine ahead_rows (mv := mv) (f := f) (ra := r.a) (rb := r.b) (ti0 := r.t) (xo := xo) (g := gr) f2 f9 hmv ?_ ?_ ?_ ?_ ?_
        · unfold ahS; simp only [Sl_cons, Sl_nil, T.get_set, T.puts_cons, T.puts_nil, Nat.reduceEqDiff, Nat.reduceAdd, if_true, if_false, and_true, true_and, a2, a7, a8, a9, a10, a12]
        · simp only [T.get_set, Nat.reduceEqDiff, if_true, if_false, h13]
        · simp only [T.get_set, Nat.reduceEqDiff, if_true, if_false]
        · simp only [T.get_set, Nat.reduceEqDiff, if_true, if_false]
        intro t2 xa D ba hsa ECD hs2 b13 b15 b16
        show W tb1 _ _ _
        apply W.seq
        refine ahead_noughts (mv := mv) (f := f) (ra := r.a) (rb := r.b) (ti0 := r.t) (xo := xo) (xa := xa) (g := gr) f2 f9 hs2 b13 b15 b16 ?_
        intro t3 xz E bz hsz EDE hs3 c13 c15 c16
        show W tb1 _ _ _
        have hs3' := hs3
        obtain ⟨d2, d7, d8, d9, d10, d12, -⟩ := hs3'
        have hkm : mv % f < f := Nat.mod_lt _ (by omega)
        have ECE := ECD.trans EDE
        have hSE : Slc E 3 bo (ints own) xo := hS.same (EBC.trans ECE).n (fun h => (EBC.trans ECE).g _ h)
        have hsaE : Slc E 3 ba (ints (List.replicate (mv % f) gr)) xa := hsa.same EDE.n (fun h => EDE.g _ h)
        -- the first pick
        obtain ⟨x1, D1, x2, D2, b2, e1, e2, s2, EE2⟩ := cat2 hsaE hSE (by rw [List.length_replicate]; exact ⟨by omega, by omega⟩)
        have hlen2 : (List.replicate (mv % f) gr ++ own).length ≤ 1000 := by rw [List.length_append, List.length_replicate]; omega
        have hb2 : ∀ n ∈ List.replicate (mv % f) gr ++ own, n < 4611686018427387904 := fun n hn => by
          rcases List.mem_append.1 hn with h | h
          · rw [(List.mem_replicate.1 h).2]; omega
          · exact hob2 n h
        obtain ⟨F, ⟨g3, hg3⟩, E2F⟩ := run_pick f2 (by omega) hlen2 hb2 s2 (by
          exact s2.lt (by rw [ints_len, List.length_append]; omega))
        rw [pick_ahead f gr (mv % f) own hkm (fun n hn => by rw [htg]; exact hhead n hn), ho] at hg3
        have hv3 : pickV ((some r : Option Row).map (shift (mv % f))) = [.int .i64 ((r.a + mv % f : Nat) : Int), .int .i64 ((r.b + mv % f : Nat) : Int), .int .i64 ((0 : Nat) : Int)] := rfl
        rw [hv3] at hg3
        have hlenA : builtinPF tb1 .len [24] [xa] = .ok (.int .i64 ((mv % f : Nat) : Int)) := by
          rw [hsaE.len (tb := tb1) (t := 24) und24, ints_len, List.length_replicate]
        have ad1 : intOpF .add .i64 ((r.a : Nat) : Int) ((mv % f : Nat) : Int) = .ok (.int .i64 ((r.a + mv % f : Nat) : Int)) := op_add_i64 (by omega)
        have ad2 : intOpF .add .i64 ((r.b : Nat) : Int) ((mv % f : Nat) : Int) = .ok (.int .i64 ((r.b + mv % f : Nat) : Int)) := op_add_i64 (by omega)
        have EEF := EE2.trans E2F
        apply W.seq
        apply W.runG (g3) 20
        · intro M hM
          simp (config := { maxSteps := 4000000 }) (disch := first | decide +kernel | (rw [wantF_guard]; simp only [wantD_some, dstAt_zero, dstAt_succ, T.get_set, T.get_e, Nat.reduceEqDiff, if_true, if_false, wantV_bool, wantV_unit, unitV, cond_true, cond_false, Bool.not_true, Bool.not_false, List.toList_toArray]) | omega) only [c5, Try.f5, Option.getD_some, sub_seq1, sub_seq0, sub_nil, exec_region, runOps_cons, opF_move, ev_tmp, d8, evG_some, putT_some, opF_buildSlice, evp, T.get_set, Nat.reduceEqDiff, c15, if_false, opF_builtin, evs, if_true, R.ok_bind, d7, opF_call, resK, opF_extract, extractF, opF_assign, runOps_nil, builtin_append, bs24_0, at_slc, e1, e2, hg3, List.getElem?_cons_zero, List.getElem?_cons_succ]
          with_reducible rfl
        apply W.seq
        apply W.seq
        apply W.run 20
        · intro M
          simp (config := { maxSteps := 4000000 }) (disch := first | decide +kernel | (rw [wantF_guard]; simp only [wantD_some, dstAt_zero, dstAt_succ, T.get_set, T.get_e, Nat.reduceEqDiff, if_true, if_false, wantV_bool, wantV_unit, unitV, cond_true, cond_false, Bool.not_true, Bool.not_false, List.toList_toArray]) | omega) only [c5, Try.f5, Option.getD_some, sub_seq1, sub_seq0, sub_nil, exec_region, runOps_cons, opF_move, ev_tmp, T.get_set, Nat.reduceEqDiff, if_false, if_true, evG_some, putT_some, d9, c15, opF_len, evs, R.ok_bind, opF_ari, opF_neq, hlenA, binF_int, ad1, op_neq, ne_eq, not_true_eq_false, decide_false, runOps_yes, d10, opF_pick, pickF, ev_bool, ad2, ev_int, runOps_nil]
          with_reducible rfl
        show W tb1 _ _ _
        apply W.run 20
        · intro M
          simp (config := { maxSteps := 4000000 }) (disch := first | decide +kernel | (rw [wantF_guard]; simp only [wantD_some, dstAt_zero, dstAt_succ, T.get_set, T.get_e, Nat.reduceEqDiff, if_true, if_false, wantV_bool, wantV_unit, unitV, cond_true, cond_false, Bool.not_true, Bool.not_false, List.toList_toArray]) | omega) only [c5, Try.f5, Option.getD_some, sub_seq1, sub_seq0, sub_nil, exec_cond, ev_tmp, T.get_set, Nat.reduceEqDiff, if_false, if_true, evG_some, exec_seq, exec_region, runOps_cons, opF_assign, ev_bool, putT_some, runOps_nil, R.ok_bind, exec_ret, exec_skip]
          with_reducible rfl
        show W tb1 _ _ _
        -- the second one
        have hSF : Slc F 3 bo (ints own) xo := hSE.same EEF.n (fun h => EEF.g _ h)
        have hszF : Slc F 3 bz (ints (List.replicate f 0)) xz := hsz.same EEF.n (fun h => EEF.g _ h)
        obtain ⟨y1, G1, y2, G2, y3, G3, b3, i1, i2, i3, s3, EFG⟩ := cat3 (g := gr) hszF hSF (by rw [List.length_replicate]; exact ⟨by omega, by omega⟩)
        have hlen3 : (List.replicate f 0 ++ (gr :: own)).length ≤ 1000 := by rw [List.length_append, List.length_replicate, List.length_cons]; omega
        have hb3 : ∀ n ∈ List.replicate f 0 ++ (gr :: own), n < 4611686018427387904 := fun n hn => by
          rcases List.mem_append.1 hn with h | h
          · rw [(List.mem_replicate.1 h).2]; omega
          · rcases List.mem_cons.1 h with h | h
            · rw [h]; omega
            · exact hob2 n h
        obtain ⟨H, ⟨g4, hg4⟩, EGH⟩ := run_pick f2 (by omega) hlen3 hb3 s3 (by
          exact s3.lt (by rw [ints_len, List.length_append, List.length_cons]; omega))
        have hpz := pick_zeros f r.t own f2 r ho rfl hhead
        rw [hgr] at hpz
        rw [hpz] at hg4
        apply W.seq
        by_cases ht0 : r.t = 0
        · rw [if_pos ht0] at hg4
          have hv4 : pickV (some (shift (f + 1) r)) = [.int .i64 ((r.a + (f + 1) : Nat) : Int), .int .i64 ((r.b + (f + 1) : Nat) : Int), .int .i64 ((0 : Nat) : Int)] := rfl
          rw [hv4] at hg4
          have as1 : intOpF .add .i64 ((r.a : Nat) : Int) ((f : Nat) : Int) = .ok (.int .i64 ((r.a + f : Nat) : Int)) := op_add_i64 (by omega)
          have as2 : intOpF .add .i64 ((r.a + f : Nat) : Int) ((1 : Nat) : Int) = .ok (.int .i64 ((r.a + (f + 1) : Nat) : Int)) := op_add_i64 (by omega)
          have as3 : intOpF .add .i64 ((r.b : Nat) : Int) ((f : Nat) : Int) = .ok (.int .i64 ((r.b + f : Nat) : Int)) := op_add_i64 (by omega)
          have as4 : intOpF .add .i64 ((r.b + f : Nat) : Int) ((1 : Nat) : Int) = .ok (.int .i64 ((r.b + (f + 1) : Nat) : Int)) := op_add_i64 (by omega)
          apply W.runG (g4) 20
          · intro M hM
            simp (config := { maxSteps := 4000000 }) (disch := first | decide +kernel | (rw [wantF_guard]; simp only [wantD_some, dstAt_zero, dstAt_succ, T.get_set, T.get_e, Nat.reduceEqDiff, if_true, if_false, wantV_bool, wantV_unit, unitV, cond_true, cond_false, Bool.not_true, Bool.not_false, List.toList_toArray]) | omega) only [c5, Try.f5, Option.getD_some, sub_seq1, sub_seq0, sub_nil, exec_region, runOps_cons, opF_move, ev_tmp, T.get_set, Nat.reduceEqDiff, d8, if_false, evG_some, putT_some, opF_buildSlice, evp, c16, opF_builtin, evs, if_true, R.ok_bind, c13, d7, opF_call, resK, opF_extract, extractF, opF_assign, runOps_nil, builtin_append, bs24, at_slc, bs24_0, i1, i2, i3, hg4, List.getElem?_cons_zero, List.getElem?_cons_succ]
            with_reducible rfl
          apply W.seq
          apply W.seq
          apply W.run 20
          · intro M
            simp (config := { maxSteps := 4000000 }) (disch := first | decide +kernel | (rw [wantF_guard]; simp only [wantD_some, dstAt_zero, dstAt_succ, T.get_set, T.get_e, Nat.reduceEqDiff, if_true, if_false, wantV_bool, wantV_unit, unitV, cond_true, cond_false, Bool.not_true, Bool.not_false, List.toList_toArray]) | omega) only [c5, Try.f5, Option.getD_some, sub_seq1, sub_seq0, sub_nil, exec_region, runOps_cons, opF_move, ev_tmp, T.get_set, Nat.reduceEqDiff, d12, ht0, if_false, evG_some, putT_some, opF_eql, if_true, ev_int, runOps_nil, R.ok_bind, binF_int, op_eql, decide_true]
            with_reducible rfl
          show W tb1 _ _ _
          apply W.run 20
          · intro M
            simp (config := { maxSteps := 4000000 }) (disch := first | decide +kernel | (rw [wantF_guard]; simp only [wantD_some, dstAt_zero, dstAt_succ, T.get_set, T.get_e, Nat.reduceEqDiff, if_true, if_false, wantV_bool, wantV_unit, unitV, cond_true, cond_false, Bool.not_true, Bool.not_false, List.toList_toArray]) | omega) only [c5, Try.f5, Option.getD_some, sub_seq1, sub_seq0, sub_nil, exec_cond, ev_tmp, T.get_set, Nat.reduceEqDiff, if_false, if_true, evG_some, exec_seq, exec_region, runOps_cons, opF_move, putT_some, d9, d8, opF_ari, ev_int, opF_eql, R.ok_bind, binF_int, as1, as2, op_eql, decide_true, runOps_yes, d10, opF_pick, pickF, ev_bool, as3, as4, opF_assign, runOps_nil, exec_ret, exec_skip]
            with_reducible rfl
          refine ⟨.inr rfl, _, [.bool true], rfl, ?_, rfl⟩
          simp only [Try.f5, resF, ev_tmp, T.get_set, Nat.reduceEqDiff, if_true, if_false, evG_some, R.ok_bind]
        · rw [if_neg ht0] at hg4
          have hv4 : pickV (some (⟨0, f, 0⟩ : Row)) = [.int .i64 ((0 : Nat) : Int), .int .i64 ((f : Nat) : Int), .int .i64 ((0 : Nat) : Int)] := rfl
          rw [hv4] at hg4
          apply W.runG (g4) 20
          · intro M hM
            simp (config := { maxSteps := 4000000 }) (disch := first | decide +kernel | (rw [wantF_guard]; simp only [wantD_some, dstAt_zero, dstAt_succ, T.get_set, T.get_e, Nat.reduceEqDiff, if_true, if_false, wantV_bool, wantV_unit, unitV, cond_true, cond_false, Bool.not_true, Bool.not_false, List.toList_toArray]) | omega) only [c5, Try.f5, Option.getD_some, sub_seq1, sub_seq0, sub_nil, exec_region, runOps_cons, opF_move, ev_tmp, T.get_set, Nat.reduceEqDiff, d8, if_false, evG_some, putT_some, opF_buildSlice, evp, c16, opF_builtin, evs, if_true, R.ok_bind, c13, d7, opF_call, resK, opF_extract, extractF, opF_assign, runOps_nil, builtin_append, bs24, at_slc, bs24_0, i1, i2, i3, hg4, List.getElem?_cons_zero, List.getElem?_cons_succ]
            with_reducible rfl
          apply W.seq
          apply W.seq
          apply W.run 20
          · intro M
            simp (config := { maxSteps := 4000000 }) (disch := first | decide +kernel | (rw [wantF_guard]; simp only [wantD_some, dstAt_zero, dstAt_succ, T.get_set, T.get_e, Nat.reduceEqDiff, if_true, if_false, wantV_bool, wantV_unit, unitV, cond_true, cond_false, Bool.not_true, Bool.not_false, List.toList_toArray]) | omega) only [c5, Try.f5, Option.getD_some, sub_seq1, sub_seq0, sub_nil, exec_region, runOps_cons, opF_move, ev_tmp, T.get_set, Nat.reduceEqDiff, d12, if_false, evG_some, putT_some, opF_eql, if_true, ev_int, runOps_nil, R.ok_bind, binF_int, op_eql, ht0, decide_false]
            with_reducible rfl
          show W tb1 _ _ _
          apply W.run 20
          · intro M
            simp (config := { maxSteps := 4000000 }) (disch := first | decide +kernel | (rw [wantF_guard]; simp only [wantD_some, dstAt_zero, dstAt_succ, T.get_set, T.get_e, Nat.reduceEqDiff, if_true, if_false, wantV_bool, wantV_unit, unitV, cond_true, cond_false, Bool.not_true, Bool.not_false, List.toList_toArray]) | omega) only [c5, Try.f5, Option.getD_some, sub_seq1, sub_seq0, sub_nil, exec_cond, ev_tmp, T.get_set, Nat.reduceEqDiff, if_false, if_true, evG_some, exec_seq, exec_region, runOps_cons, opF_move, putT_some, opF_ari, ev_int, opF_eql, R.ok_bind, exec_ret, exec_skip]
            with_reducible rfl
          show W tb1 _ _ _
          apply W.seq
          apply W.run 20
          · intro M
            simp (config := { maxSteps := 4000000 }) (disch := first | decide +kernel | (rw [wantF_guard]; simp only [wantD_some, dstAt_zero, dstAt_succ, T.get_set, T.get_e, Nat.reduceEqDiff, if_true, if_false, wantV_bool, wantV_unit, unitV, cond_true, cond_false, Bool.not_true, Bool.not_false, List.toList_toArray]) | omega) only [c5, Try.f5, Option.getD_some, sub_seq1, sub_seq0, sub_nil, exec_region, runOps_cons, opF_move, ev_tmp, T.get_set, Nat.reduceEqDiff, if_false, if_true, evG_some, putT_some, opF_eql, ev_int, R.ok_bind, binF_int, op_eql, decide_true, runOps_yes, d8, opF_pick, pickF, ev_bool, opF_assign, runOps_nil]
            with_reducible rfl
          apply W.run 20
          · intro M
            simp (config := { maxSteps := 4000000 }) (disch := first | decide +kernel | (rw [wantF_guard]; simp only [wantD_some, dstAt_zero, dstAt_succ, T.get_set, T.get_e, Nat.reduceEqDiff, if_true, if_false, wantV_bool, wantV_unit, unitV, cond_true, cond_false, Bool.not_true, Bool.not_false, List.toList_toArray]) | omega) only [c5, Try.f5, Option.getD_some, sub_seq1, sub_nil, exec_ret]
            with_reducible rfl
          refine ⟨.inr rfl, _, [.bool true], rfl, ?_, rfl⟩
          simp only [Try.f5, resF, ev_tmp, T.get_set, Nat.reduceEqDiff, if_true, if_false, evG_some, R.ok_bind]
  subst h2
  exact ⟨A', h1⟩
end Go.Proofs.Ytgkolgfkcelljaa.pck

namespace Go.Proofs.Ytgkolgfkcelljaa.pickAhead
open Go.ChangeShapes Go.WideShapes Go.ChangeAt Go.RowKit Go.Am
open Go.ChangeMaps (open_string shut_string)
set_option linter.unusedVariables false

theorem own : ownKnob Try.prog.godebug = none := by kernel_rfl
theorem laidOut : laidOutB Try.prog = true := by kernel_rfl

/-- A slice of integers that came in. -/
def IsRow (k : IntKind) (w : World) (a : Option Addr) (len cap : Nat) (zs : List Int) : Prop := ParW k w a len cap zs ∧ ∀ n ∈ zs, (Lit.int k n).wf = true
theorem slice_has {P : Program} {w : World} {base : Nat} {t e : TypeId} {x : Addr} {len cap : Nat} (ht : P.underlying t = some (.slice e)) (h : Value.okWide P w .any base t (.slice (some x) len cap)) : x.spot = none ∧ x.block < w.heap.size := by
  simp only [Value.okWide, Cell.okWide, Cell.ok, ht] at h
  obtain ⟨_, _, _, hsp, row, cells, hsh, _⟩ := h
  refine ⟨hsp, ?_⟩
  unfold World.shape? at hsh
  split at hsh
  · rename_i h2
    exact (Array.getElem?_eq_some_iff.1 h2).1
  · cases hsh

/-! ### The run -/
theorem walk (a0 : Option Addr) (len0 cap0 : Nat) (z0 : List Int) (a1 : Int) (a2 : Int) (w : World) (w0 : IsRow .u16 w a0 len0 cap0 z0) (w1 : (Lit.int .u8 a1).wf = true) (w2 : (Lit.int .u8 a2).wf = true) :
    Calls Try.prog 5 #[.slice a0 len0 cap0, .int .u8 a1, .int .u8 a2] w fun e w' => e = .returned (.bool true) ∧ Below w.heap.size w w' := by
  obtain ⟨hp, hz⟩ := w0
  have b1 := bounds_u8 w1
  have b2 := bounds_u8 w2
  have hsh : (z0.take len0).map (.int .u16) = pck.shorts ((z0.take len0).map fun z => z.toNat) := by
    simp only [pck.shorts, List.map_map]
    apply List.map_congr_left
    intro n hn
    obtain ⟨h0, h1⟩ := bounds_u16 (hz n (List.mem_of_mem_take hn))
    simp only [Function.comp]
    congr 1
    omega
  have hbd : ∀ v ∈ (z0.take len0).map (fun z => z.toNat), v < 65536 := fun v hv => by
    obtain ⟨n, hn, rfl⟩ := List.mem_map.1 hv
    have := bounds_u16 (hz n (List.mem_of_mem_take hn))
    omega
  have e1 : (Value.int .u8 a1) = .int .u8 ((a1.toNat : Nat) : Int) := by rw [Int.toNat_of_nonneg (by omega)]
  have e2 : (Value.int .u8 a2) = .int .u8 ((a2.toNat : Nat) : Int) := by rw [Int.toNat_of_nonneg (by omega)]
  exact (par_true pck.tb1_ok hp (pck.fn_at Try.func5) pck.c5_eq (pre := []) (pre' := []) (post := [.int .u8 a1, .int .u8 a2]) (post' := [.int .u8 a1, .int .u8 a2]) (fun ι => .nil) (fun ι => .cons (.int _ _) (.cons (.int _ _) .nil)) (fun A x hn hwf hP => by
    rw [hsh] at hP
    rw [e1, e2]
    exact pck.run_pickAhead _ a1.toNat a2.toNat hbd (by omega) (by omega) (by omega) hP) (w := w)).mono fun e w' h => ⟨h.1, h.2.below⟩

/-! ### THE ROW's STEP: WRITTEN OUT: LEAVE IT -/
set_option maxRecDepth 100000 in
theorem lifted (os : Os) (started : os.Started) (H : Type) (enc : TypeId × Value → H) :
    ReturnsInHanded {} Try.checked os 5 .any (Rows.pickAheadSpec.pre6 enc Try.prog Try.f5 Rows.pickAheadRow.domain false) (Rows.pickAheadSpec.post enc Try.prog Try.f5 false true false false) := by
  refine returnsInHanded_of_change (C := Try.checked) own started (by kernel_rfl) Try.func5
    (ChangeSpec.witness6 (enc := enc) (C := Try.checked) false ⟨#[], #[.slice none 0 0, .int .u8 0, .int .u8 0], []⟩ 8 (by kernel_rfl) (by kernel_rfl) (by kernel_rfl) (by kernel_rfl)) ?_
  intro W base args ds gs before hval0 hW hcnd _
  have hval : ∀ (j : Nat) t v, Try.f5.params[j]? = some t → args[j]? = some v → Value.okWide Try.prog W .any base t v := hval0
  have hW' := hW
  obtain ⟨p, q, hA0, hV, rfl, hfz, hnd⟩ := hW
  have hA : DataW.TrodAll enc Try.prog W 0 (fun _ => true) true Try.f5.params.toList args.toList ds p := hA0
  rw [Try.params5] at hA hval
  obtain ⟨v0, vs0, d0, ds0, p0, q0, hargs, rfl, rfl, h0, r0⟩ := trodAll_cons hA
  obtain ⟨v1, vs1, d1, ds1, p1, q1, rfl, rfl, rfl, h1, r1⟩ := trodAll_cons r0
  obtain ⟨v2, vs2, d2, ds2, p2, q2, rfl, rfl, rfl, h2, r2⟩ := trodAll_cons r1
  obtain ⟨rfl, rfl, rfl⟩ := trodAll_nil r2
  obtain rfl : args = #[v0, v1, v2] := by cases args; simp_all
  obtain ⟨rfl, rfl⟩ := trodVars_none hV
  obtain ⟨a0, len0, cap0, rfl⟩ := okWide_slice Try.underlying22 (hval 0 22 v0 rfl rfl)
  have k0 := h0
  have lt0 : ∀ x ∈ p0, x.block < W.heap.size := by obtain ⟨m, hm⟩ := k0; exact DataW.trod_lt m _ _ _ hm
  obtain ⟨z0, w0⟩ : ∃ zs, IsRow .u16 W a0 len0 cap0 zs := by
    obtain ⟨fuel, hf⟩ := h0
    rcases open_ints Try.underlying22 Try.underlying38 (by kernel_rfl) hf with ⟨hcs, _⟩ | ⟨x, l, c, zs, hcs, _, hl, hm, hz, _, hcell, hwz⟩
    · simp [Value.cells] at hcs
      obtain ⟨rfl, rfl, rfl⟩ := hcs
      exact ⟨[], .inl ⟨rfl, rfl, rfl, rfl⟩, fun n h => by cases h⟩
    · simp [Value.cells] at hcs
      obtain ⟨rfl, rfl, rfl⟩ := hcs
      exact ⟨zs, .inr ⟨_, rfl, (slice_has Try.underlying22 (hval 0 22 _ rfl rfl)).1, (slice_has Try.underlying22 (hval 0 22 _ rfl rfl)).2, hl, Nat.lt_of_le_of_lt hm (by decide), by simpa using hz, hcell⟩, hwz⟩
  obtain ⟨a1, rfl, rfl, rfl, w1⟩ := open_int Try.underlying5 (hval 1 5 v1 rfl rfl) h1
  obtain ⟨a2, rfl, rfl, rfl, w2⟩ := open_int Try.underlying5 (hval 2 5 v2 rfl rfl) h2
  clear hA0 hval0
  refine (walk a0 len0 cap0 z0 a1 a2 W w0 w1 w2).mono fun e W' ⟨he, bel⟩ => ?_
  subst he
  exact ⟨_, rfl, _, _, _, [], _, [], hW', trodAll_mk1 (shut_bool Try.underlying4 _), (trodAll_cons_mk (Below.trod laidOut (by kernel_rfl) (of_decide_eq_true (by kernel_rfl)) k0 bel lt0) (trodAll_cons_mk (shut_int Try.underlying5 w1) (trodAll_cons_mk (shut_int Try.underlying5 w2) trodAll_mk0))), rfl, bel.frame _, fun h => by cases h⟩

theorem over : Rows.pickAheadRow.holds Try.pinned (OpenSpec.ofChange Rows.pickAheadSpec) :=
  OpenClaim.holds_of_wide 5 Try.f5 rfl rfl rfl rfl rfl rfl rfl ⟨rfl, rfl, rfl, rfl, rfl⟩ rfl rfl rfl rfl rfl (by kernel_rfl) Try.func5 (by kernel_rfl)
    (of_decide_eq_true (by kernel_rfl)) (by unfold Func.isWrapper; first | (rw [if_pos (by decide +kernel)]; kernel_rfl) | (rw [if_neg (by decide +kernel)]; exact ⟨rfl, rfl⟩))
    (fun os started H enc _ => lifted os started H enc)

/-- ████ THE STATEMENT ████ -/
theorem proved : Rows.PickAheadSaid := over
#print axioms proved
end Go.Proofs.Ytgkolgfkcelljaa.pickAhead
