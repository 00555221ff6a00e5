/-
  The statement PickSettles holds, for every input: the program, run on the abstract machine AM on values of which parts are variables, answers true; what AM answers the model answers. No conditions.
-/
import Derived.Test.YtgkolgfkcelljaaRows
import Derived.Test.YtgkolgfkcelljaaPckB
import Derived.WalkKit
import Derived.ProofKit
import Derived.OpenShut
import Derived.ShutString
import Derived.ChangeOld
import Derived.Below
namespace Go.Proofs.Ytgkolgfkcelljaa.pck
open Go.Am Go.Pick
set_option linter.unusedSimpArgs false
set_option linter.unusedVariables false
set_option linter.unusedVariables false
set_option maxRecDepth 20000

theorem Rw.first {A : Mem} {b : Nat} {l : List Nat} {x : Value} (h : Rw A b l x) : lenF x = .ok l.length ∧ firstF A.get 1 l.length x = .ok (ints l) := by
  rcases h with ⟨rfl, rfl⟩ | ⟨k, c, rfl, -, hv, -⟩
  · exact ⟨rfl, rfl⟩
  · have := elemsF_vals hv
    rw [ints_len] at this
    exact ⟨rfl, this⟩
theorem app_intsR {A : Mem} {b bm : Nat} {l m : List Nat} {x y : Value} (h : Slc A 3 b (ints l) x) (hy : Rw A bm m y) (hl : l.length + m.length ≤ 16777216) :
    ∃ x' A' b', appendF tb1 A 24 24 x y = .ok (x', A') ∧ Slc A' 3 b' (ints (l ++ m)) x' ∧ A.next ≤ A'.next ∧ (b' = b ∨ A.next ≤ b') ∧ ∀ y, (y = b → x = .slice none 0 0) → y < A.next → A'.get y = A.get y := by
  obtain ⟨i, hi, hib⟩ := ty3
  obtain ⟨e1, e2⟩ := Rw.first hy
  rw [ints_app]
  exact h.appends (st := 24) (xt := 24) (e := 3) (m := m.length) und24 und24 rfl zc3 hi (by omega) (by omega) (by rw [ints_len]; exact hl) e1 e2 (ints_len m) (ints_one m)
theorem sum_take {l : List Nat} {i : Nat} (h : i < l.length) : (l.take (i + 1)).sum = (l.take i).sum + l.getD i 0 := by
  rw [List.take_succ_eq_append_getElem h, List.sum_append]
  simp [List.getD, List.getElem?_eq_getElem h]
theorem sum_le {m : Nat} : ∀ (l : List Nat), (∀ n ∈ l, n ≤ m) → l.sum ≤ l.length * m
  | [], _ => by simp
  | n :: l, h => by
    have h1 := h n (List.mem_cons_self ..)
    have h2 := sum_le l fun q hq => h q (List.mem_cons_of_mem _ hq)
    rw [List.sum_cons, List.length_cons, Nat.succ_mul]
    omega
noncomputable def c4 : Code := Try.f4.body.getD .skip
noncomputable def c4b1 : Code := sub c4 [1,1,1,1,1,1,1,1,1,0,1,0,0]
noncomputable def c4b2 : Code := sub c4 [1,1,1,1,1,1,1,1,1,1,0,1,0,0]
theorem c4_eq : Try.f4.body = some (.seq (sub c4 [0]) (.seq (.seq (sub c4 [1,0,0]) (sub c4 [1,0,1])) (.seq (sub c4 [1,1,0]) (.seq (sub c4 [1,1,1,0]) (.seq (sub c4 [1,1,1,1,0]) (.seq (sub c4 [1,1,1,1,1,0]) (.seq (sub c4 [1,1,1,1,1,1,0]) (.seq (.seq (sub c4 [1,1,1,1,1,1,1,0,0]) (sub c4 [1,1,1,1,1,1,1,0,1])) (.seq (sub c4 [1,1,1,1,1,1,1,1,0]) (.seq (.seq (sub c4 [1,1,1,1,1,1,1,1,1,0,0]) (.block 0 (.loop c4b1))) (.seq (.seq (sub c4 [1,1,1,1,1,1,1,1,1,1,0,0]) (.block 2 (.loop c4b2))) (.seq (.seq (sub c4 [1,1,1,1,1,1,1,1,1,1,1,0,0]) (sub c4 [1,1,1,1,1,1,1,1,1,1,1,0,1])) (.seq (.seq (sub c4 [1,1,1,1,1,1,1,1,1,1,1,1,0,0]) (sub c4 [1,1,1,1,1,1,1,1,1,1,1,1,0,1])) (.seq (sub c4 [1,1,1,1,1,1,1,1,1,1,1,1,1,0]) (.seq (sub c4 [1,1,1,1,1,1,1,1,1,1,1,1,1,1,0]) (sub c4 [1,1,1,1,1,1,1,1,1,1,1,1,1,1,1])))))))))))))))) := by kernel_rfl
theorem c4b1_eq : c4b1 = (.seq (.seq (sub c4b1 [0,0]) (sub c4b1 [0,1])) (.seq (sub c4b1 [1,0]) (sub c4b1 [1,1]))) := by kernel_rfl
theorem c4b2_eq : c4b2 = (.seq (.seq (sub c4b2 [0,0]) (sub c4b2 [0,1])) (.seq (sub c4b2 [1,0]) (sub c4b2 [1,1]))) := by kernel_rfl
set_option maxHeartbeats 8000000 in
/-- The sum of what was there. -/
theorem set_sum1 {D : Mem} {f b : Nat} {own : List Nat} {xo xl : Value} {t : T Value} {K : Ex → St → Prop} (hO : Rw D b own xo) (hlen : own.length ≤ 1000) (hob : own.sum ≤ 100000000) (h5 : t.get 5 = some xo) (h7 : t.get 7 = some (.int .i64 (f : Int))) (h8 : t.get 8 = some xl) (h12 : t.get 12 = some (.int .i64 ((0 : Nat) : Int))) (h13 : t.get 13 = some (.int .i64 ((0 : Nat) : Int)))
    (hK : ∀ t', Sl t' [(7, .int .i64 (f : Int)), (8, xl), (12, .int .i64 ((own.sum : Nat) : Int)), (13, .int .i64 ((0 : Nat) : Int))] → K .nrm ⟨t', 116, [], D, none⟩) :
    W tb1 (.seq (sub c4 [1,1,1,1,1,1,1,1,1,0,0]) (.block 0 (.loop c4b1))) ⟨t, 116, [], D, none⟩ K := by
  have lo := hO.len
  apply W.seq
  apply W.run 20
  · intro M
    simp (config := { maxSteps := 4000000 }) (disch := first | decide +kernel | (rw [wantF_guard]; simp only [wantD_some, dstAt_zero, dstAt_succ, T.get_set, T.get_e, Nat.reduceEqDiff, if_true, if_false, wantV_bool, wantV_unit, unitV, cond_true, cond_false, Bool.not_true, Bool.not_false, List.toList_toArray]) | omega) only [c4, Try.f4, Option.getD_some, sub_seq1, sub_seq0, sub_nil, exec_region, runOps_cons, opF_assign, ev_int, putT_some, runOps_nil, R.ok_bind]
    with_reducible rfl
  apply W.block
  refine W.up own.length (fun i t E => E = D ∧ Sl t [(5, xo), (7, .int .i64 (f : Int)), (8, xl), (12, .int .i64 (((own.take i).sum : Nat) : Int)), (13, .int .i64 ((0 : Nat) : Int)), (14, .int .i64 (i : Int))]) ?_ (Nat.zero_le _) ⟨rfl, ?_⟩
  · rintro i t E hi ⟨rfl, g5, g7, g8, g12, g13, g14, -⟩
    rw [c4b1_eq]
    apply W.seq
    apply W.seq
    by_cases hlt : i < own.length
    · obtain ⟨p, hp, hpl⟩ := hO.at hlt
      have hs := sum_take hlt
      have hle : (own.take (i + 1)).sum ≤ own.sum := by
        conv => rhs; rw [← List.take_append_drop (i + 1) own, List.sum_append]
        omega
      have had : intOpF .add .i64 (((own.take i).sum : Nat) : Int) ((own.getD i 0 : Nat) : Int) = .ok (.int .i64 (((own.take (i + 1)).sum : Nat) : Int)) := by rw [op_add_i64 (by omega), hs]
      apply W.run 20
      · intro M
        simp (config := { maxSteps := 4000000 }) (disch := first | decide +kernel | (rw [wantF_guard]; simp only [wantD_some, dstAt_zero, dstAt_succ, T.get_set, T.get_e, Nat.reduceEqDiff, if_true, if_false, wantV_bool, wantV_unit, unitV, cond_true, cond_false, Bool.not_true, Bool.not_false, List.toList_toArray]) | omega) only [c4b1, c4, Try.f4, Option.getD_some, sub_seq1, sub_seq0, sub_block, sub_loop, sub_nil, exec_region, runOps_cons, opF_move, ev_tmp, g14, evG_some, putT_some, T.get_set, Nat.reduceEqDiff, g5, if_false, opF_len, evs, if_true, R.ok_bind, opF_ari, runOps_nil, lo, binF_int, op_lssI, cast_lt, hlt, decide_true]
        with_reducible rfl
      apply W.run 20
      · intro M
        simp (config := { maxSteps := 4000000 }) (disch := first | decide +kernel | (rw [wantF_guard]; simp only [wantD_some, dstAt_zero, dstAt_succ, T.get_set, T.get_e, Nat.reduceEqDiff, if_true, if_false, wantV_bool, wantV_unit, unitV, cond_true, cond_false, Bool.not_true, Bool.not_false, List.toList_toArray]) | omega) only [c4b1, c4, Try.f4, Option.getD_some, sub_seq1, sub_seq0, sub_block, sub_loop, sub_nil, exec_cond, ev_tmp, T.get_set, Nat.reduceEqDiff, if_false, if_true, evG_some, exec_skip, exec_exit, R.ok_bind]
        with_reducible rfl
      show W tb1 _ _ _
      apply W.run 20
      · intro M
        simp (config := { maxSteps := 4000000 }) (disch := first | decide +kernel | (rw [wantF_guard]; simp only [wantD_some, dstAt_zero, dstAt_succ, T.get_set, T.get_e, Nat.reduceEqDiff, if_true, if_false, wantV_bool, wantV_unit, unitV, cond_true, cond_false, Bool.not_true, Bool.not_false, List.toList_toArray]) | omega) only [c4b1, c4, Try.f4, Option.getD_some, sub_seq1, sub_seq0, sub_block, sub_loop, sub_nil, exec_seq, exec_block, exec_region, runOps_cons, opF_move, ev_tmp, T.get_set, Nat.reduceEqDiff, g12, if_false, evG_some, putT_some, g5, g14, opF_indexAddr, if_true, opF_load, opF_ari, opF_assign, runOps_nil, R.ok_bind, hp, hpl, binF_int, had, ev_int, op_add_i64]
        with_reducible rfl
      refine ⟨hlt, _, _, rfl, rfl, ?_⟩
      simp only [Sl_cons, Sl_nil, T.get_set, T.puts_cons, T.puts_nil, Nat.reduceEqDiff, Nat.reduceAdd, if_true, if_false, and_true, true_and, g5, g7, g8, g13]
    · have hin : i = own.length := by omega
      subst hin
      rw [List.take_length] at g12
      apply W.run 20
      · intro M
        simp (config := { maxSteps := 4000000 }) (disch := first | decide +kernel | (rw [wantF_guard]; simp only [wantD_some, dstAt_zero, dstAt_succ, T.get_set, T.get_e, Nat.reduceEqDiff, if_true, if_false, wantV_bool, wantV_unit, unitV, cond_true, cond_false, Bool.not_true, Bool.not_false, List.toList_toArray]) | omega) only [c4b1, c4, Try.f4, Option.getD_some, sub_seq1, sub_seq0, sub_block, sub_loop, sub_nil, exec_region, runOps_cons, opF_move, ev_tmp, g14, evG_some, putT_some, T.get_set, Nat.reduceEqDiff, g5, if_false, opF_len, evs, if_true, R.ok_bind, opF_ari, runOps_nil, lo, binF_int, op_lssI, cast_lt, Nat.lt_irrefl, decide_false]
        with_reducible rfl
      apply W.run 20
      · intro M
        simp (config := { maxSteps := 4000000 }) (disch := first | decide +kernel | (rw [wantF_guard]; simp only [wantD_some, dstAt_zero, dstAt_succ, T.get_set, T.get_e, Nat.reduceEqDiff, if_true, if_false, wantV_bool, wantV_unit, unitV, cond_true, cond_false, Bool.not_true, Bool.not_false, List.toList_toArray]) | omega) only [c4b1, c4, Try.f4, Option.getD_some, sub_seq1, sub_seq0, sub_block, sub_loop, sub_nil, exec_cond, ev_tmp, T.get_set, Nat.reduceEqDiff, if_false, if_true, evG_some, exec_skip, exec_exit, R.ok_bind]
        with_reducible rfl
      apply hK
      simp only [Sl_cons, Sl_nil, T.get_set, T.puts_cons, T.puts_nil, Nat.reduceEqDiff, Nat.reduceAdd, if_true, if_false, and_true, true_and, g7, g8, g12, g13]
  · rw [List.take_zero, List.sum_nil]
    simp only [Sl_cons, Sl_nil, T.get_set, T.puts_cons, T.puts_nil, Nat.reduceEqDiff, Nat.reduceAdd, if_true, if_false, and_true, true_and, h5, h7, h8, h12, h13]
set_option maxHeartbeats 8000000 in
/-- The sum of what is left. -/
theorem set_sum2 {D : Mem} {f b s : Nat} {left : List Nat} {xl : Value} {t : T Value} {K : Ex → St → Prop} (hO : Rw D b left xl) (hlen : left.length ≤ 1000) (hob : left.sum ≤ 100000000) (hp : Sl t [(7, .int .i64 (f : Int)), (8, xl), (12, .int .i64 (s : Int)), (13, .int .i64 ((0 : Nat) : Int))])
    (hK : ∀ t', Sl t' [(7, .int .i64 (f : Int)), (8, xl), (12, .int .i64 (s : Int)), (13, .int .i64 ((left.sum : Nat) : Int))] → K .nrm ⟨t', 116, [], D, none⟩) :
    W tb1 (.seq (sub c4 [1,1,1,1,1,1,1,1,1,1,0,0]) (.block 2 (.loop c4b2))) ⟨t, 116, [], D, none⟩ K := by
  obtain ⟨h7, h8, h12, h13, -⟩ := hp
  have lo := hO.len
  apply W.seq
  apply W.run 20
  · intro M
    simp (config := { maxSteps := 4000000 }) (disch := first | decide +kernel | (rw [wantF_guard]; simp only [wantD_some, dstAt_zero, dstAt_succ, T.get_set, T.get_e, Nat.reduceEqDiff, if_true, if_false, wantV_bool, wantV_unit, unitV, cond_true, cond_false, Bool.not_true, Bool.not_false, List.toList_toArray]) | omega) only [c4, Try.f4, Option.getD_some, sub_seq1, sub_seq0, sub_nil, exec_region, runOps_cons, opF_assign, ev_int, putT_some, runOps_nil, R.ok_bind]
    with_reducible rfl
  apply W.block
  refine W.up left.length (fun i t E => E = D ∧ Sl t [(7, .int .i64 (f : Int)), (8, xl), (12, .int .i64 (s : Int)), (13, .int .i64 (((left.take i).sum : Nat) : Int)), (15, .int .i64 (i : Int))]) ?_ (Nat.zero_le _) ⟨rfl, ?_⟩
  · rintro i t E hi ⟨rfl, g7, g8, g12, g13, g15, -⟩
    rw [c4b2_eq]
    apply W.seq
    apply W.seq
    by_cases hlt : i < left.length
    · obtain ⟨p, hp, hpl⟩ := hO.at hlt
      have hs := sum_take hlt
      have hle : (left.take (i + 1)).sum ≤ left.sum := by
        conv => rhs; rw [← List.take_append_drop (i + 1) left, List.sum_append]
        omega
      have had : intOpF .add .i64 (((left.take i).sum : Nat) : Int) ((left.getD i 0 : Nat) : Int) = .ok (.int .i64 (((left.take (i + 1)).sum : Nat) : Int)) := by rw [op_add_i64 (by omega), hs]
      apply W.run 20
      · intro M
        simp (config := { maxSteps := 4000000 }) (disch := first | decide +kernel | (rw [wantF_guard]; simp only [wantD_some, dstAt_zero, dstAt_succ, T.get_set, T.get_e, Nat.reduceEqDiff, if_true, if_false, wantV_bool, wantV_unit, unitV, cond_true, cond_false, Bool.not_true, Bool.not_false, List.toList_toArray]) | omega) only [c4b2, c4, Try.f4, Option.getD_some, sub_seq1, sub_seq0, sub_block, sub_loop, sub_nil, exec_region, runOps_cons, opF_move, ev_tmp, g15, evG_some, putT_some, T.get_set, Nat.reduceEqDiff, g8, if_false, opF_len, evs, if_true, R.ok_bind, opF_ari, runOps_nil, lo, binF_int, op_lssI, cast_lt, hlt, decide_true]
        with_reducible rfl
      apply W.run 20
      · intro M
        simp (config := { maxSteps := 4000000 }) (disch := first | decide +kernel | (rw [wantF_guard]; simp only [wantD_some, dstAt_zero, dstAt_succ, T.get_set, T.get_e, Nat.reduceEqDiff, if_true, if_false, wantV_bool, wantV_unit, unitV, cond_true, cond_false, Bool.not_true, Bool.not_false, List.toList_toArray]) | omega) only [c4b2, c4, Try.f4, Option.getD_some, sub_seq1, sub_seq0, sub_block, sub_loop, sub_nil, exec_cond, ev_tmp, T.get_set, Nat.reduceEqDiff, if_false, if_true, evG_some, exec_skip, exec_exit, R.ok_bind]
        with_reducible rfl
      show W tb1 _ _ _
      apply W.run 20
      · intro M
        simp (config := { maxSteps := 4000000 }) (disch := first | decide +kernel | (rw [wantF_guard]; simp only [wantD_some, dstAt_zero, dstAt_succ, T.get_set, T.get_e, Nat.reduceEqDiff, if_true, if_false, wantV_bool, wantV_unit, unitV, cond_true, cond_false, Bool.not_true, Bool.not_false, List.toList_toArray]) | omega) only [c4b2, c4, Try.f4, Option.getD_some, sub_seq1, sub_seq0, sub_block, sub_loop, sub_nil, exec_seq, exec_block, exec_region, runOps_cons, opF_move, ev_tmp, T.get_set, Nat.reduceEqDiff, g13, if_false, evG_some, putT_some, g8, g15, opF_indexAddr, if_true, opF_load, opF_ari, opF_assign, runOps_nil, R.ok_bind, hp, hpl, binF_int, had, ev_int, op_add_i64]
        with_reducible rfl
      refine ⟨hlt, _, _, rfl, rfl, ?_⟩
      simp only [Sl_cons, Sl_nil, T.get_set, T.puts_cons, T.puts_nil, Nat.reduceEqDiff, Nat.reduceAdd, if_true, if_false, and_true, true_and, g7, g8, g12]
    · have hin : i = left.length := by omega
      subst hin
      rw [List.take_length] at g13
      apply W.run 20
      · intro M
        simp (config := { maxSteps := 4000000 }) (disch := first | decide +kernel | (rw [wantF_guard]; simp only [wantD_some, dstAt_zero, dstAt_succ, T.get_set, T.get_e, Nat.reduceEqDiff, if_true, if_false, wantV_bool, wantV_unit, unitV, cond_true, cond_false, Bool.not_true, Bool.not_false, List.toList_toArray]) | omega) only [c4b2, c4, Try.f4, Option.getD_some, sub_seq1, sub_seq0, sub_block, sub_loop, sub_nil, exec_region, runOps_cons, opF_move, ev_tmp, g15, evG_some, putT_some, T.get_set, Nat.reduceEqDiff, g8, if_false, opF_len, evs, if_true, R.ok_bind, opF_ari, runOps_nil, lo, binF_int, op_lssI, cast_lt, Nat.lt_irrefl, decide_false]
        with_reducible rfl
      apply W.run 20
      · intro M
        simp (config := { maxSteps := 4000000 }) (disch := first | decide +kernel | (rw [wantF_guard]; simp only [wantD_some, dstAt_zero, dstAt_succ, T.get_set, T.get_e, Nat.reduceEqDiff, if_true, if_false, wantV_bool, wantV_unit, unitV, cond_true, cond_false, Bool.not_true, Bool.not_false, List.toList_toArray]) | omega) only [c4b2, c4, Try.f4, Option.getD_some, sub_seq1, sub_seq0, sub_block, sub_loop, sub_nil, exec_cond, ev_tmp, T.get_set, Nat.reduceEqDiff, if_false, if_true, evG_some, exec_skip, exec_exit, R.ok_bind]
        with_reducible rfl
      apply hK
      simp only [Sl_cons, Sl_nil, T.get_set, T.puts_cons, T.puts_nil, Nat.reduceEqDiff, Nat.reduceAdd, if_true, if_false, and_true, true_and, g7, g8, g12, g13]
  · rw [List.take_zero, List.sum_nil]
    simp only [Sl_cons, Sl_nil, T.get_set, T.puts_cons, T.puts_nil, Nat.reduceEqDiff, Nat.reduceAdd, if_true, if_false, and_true, true_and, h7, h8, h12, h13]

set_option maxHeartbeats 8000000 in
theorem run_pickSettles {A : Mem} {x : Value} (ls : List Nat) (fv : Nat) (hb : ∀ v ∈ ls, v < 65536) (hfv : fv < 256) (hA : 0 < A.next) (hx : ParS A (shorts ls) x) : ∃ A', CallsTo tb1 4 [x, .int .u8 (fv : Int)] A (.bool true) A' := by
  obtain ⟨v, A', h1, h2⟩ : ∃ v A', CallsTo tb1 4 [x, .int .u8 (fv : Int)] A v A' ∧ v = .bool true := by
    refine call_of_W (fn_at Try.func4) c4_eq (by rw [Try.ntmps4]; simp) ?_
    obtain ⟨xo, B, ⟨g1, hg1⟩, hO, EAB⟩ := run_numbersOf hb hx hA
    have hol := ownL_len ls
    have hob := ownL_le hb
    have hBn := EAB.n
    generalize ownL ls = own at hO hol hob
    obtain ⟨bo, hS, hbo⟩ := hO.block (by omega)
    obtain ⟨f, hf⟩ : ∃ f, 2 + fv % 8 = f := ⟨_, rfl⟩
    have f2 : 2 ≤ f := by omega
    have f9 : f ≤ 9 := by omega
    have hob5 : ∀ n ∈ own, n ≤ 100000 := fun n hn => by have := hob n hn; omega
    -- a copy
    have hE1 := Ext.alloc B (rowOb 3 [])
    have hn1 : (B.alloc (rowOb 3 [])).next = B.next + 1 := next_alloc _ _
    have hS0 : Slc (B.alloc (rowOb 3 [])) 3 B.next (ints []) (.slice (some ⟨B.next, 0, none⟩) 0 0) := .inr ⟨.var 0, 0, rfl, by omega, Go.Am.vals_new B 3 [], .inl rfl⟩
    obtain ⟨xk, C, bk, e1, hSk, n1, o1, q1⟩ := app_ints hS0 (hS.same hE1.n (fun h => hE1.g _ h)) (by rw [List.length_nil]; omega)
    rw [List.nil_append] at hSk
    have EBC : Ext B C := ⟨by omega, fun y hy => by rw [q1 y (fun e => by omega) (by omega), hE1.g y hy]⟩
    have hSC := rw_of (hS.same EBC.n (fun h => EBC.g _ h))
    have hKC := rw_of hSk
    -- what is left
    obtain ⟨xl, D, bl, ⟨g2, hg2⟩, hL, hbl, ECD⟩ := run_settle f2 (by omega) (by omega) hob5 hSC (by omega)
    obtain ⟨s1, s2, s3, s4⟩ := settleN_ok f2 own.length own (Nat.le_refl _)
    have hlb := settleN_le (f := f) (Nat.le_refl 100000) own.length own hob5
    have hfix := settle_none (f := f) (l := settleN f own.length own) s1
    have hset : settleL f own = settleN f own.length own := rfl
    rw [hset] at hL
    generalize settleN f own.length own = left at hL s1 s2 s3 s4 hlb hfix
    obtain ⟨E, ⟨g3, hg3⟩, EDE⟩ := run_pickR f2 (by omega) (by omega) (fun n hn => by have := hlb n hn; omega) hL hbl
    rw [s1] at hg3
    have hv3 : pickV none = [.int .i64 ((0 : Nat) : Int), .int .i64 ((0 : Nat) : Int), .int .i64 ((9 : Nat) : Int)] := rfl
    rw [hv3] at hg3
    have hLE := hL.same EDE.n (fun h => EDE.g _ h)
    obtain ⟨x2, F, b2, ⟨g4, hg4⟩, hL2, hb2, EEF⟩ := run_settle f2 (by omega) (by omega) hlb hLE (by have := ECD.n; have := EDE.n; omega)
    rw [hfix] at hL2
    have hLF := hLE.same EEF.n (fun h => EEF.g _ h)
    obtain ⟨g5, hg5⟩ := run_alike (by omega) hL2 hLF
    have ECF := (ECD.trans EDE).trans EEF
    obtain ⟨g6, hg6⟩ := run_alike (by omega) (hSC.same ECF.n (fun h => ECF.g _ h)) (hKC.same ECF.n (fun h => ECF.g _ h))
    have lo := hSC.len
    have ll := hL.len
    have hle : ¬ own.length < left.length := by omega
    have hos : own.sum ≤ 100000000 := by
      have h1 := sum_le own hob
      have h2 := Nat.mul_le_mul_right 40000 hol
      omega
    have hSF := hSC.same ECF.n (fun h => ECF.g _ h)
    apply W.seq
    apply W.run 20
    · intro M
      simp (config := { maxSteps := 4000000 }) (disch := first | decide +kernel | (rw [wantF_guard]; simp only [wantD_some, dstAt_zero, dstAt_succ, T.get_set, T.get_e, Nat.reduceEqDiff, if_true, if_false, wantV_bool, wantV_unit, unitV, cond_true, cond_false, Bool.not_true, Bool.not_false, List.toList_toArray]) | omega) only [c4, Try.f4, Option.getD_some, sub_seq0, sub_nil, T.puts_cons, Nat.reduceAdd, T.puts_nil, exec_region, runOps_cons, opF_assign, ev_bool, putT_some, runOps_nil, R.ok_bind]
      with_reducible rfl
    apply W.seq
    apply W.seq
    apply W.run 20
    · intro M
      simp (config := { maxSteps := 4000000 }) (disch := first | decide +kernel | (rw [wantF_guard]; simp only [wantD_some, dstAt_zero, dstAt_succ, T.get_set, T.get_e, Nat.reduceEqDiff, if_true, if_false, wantV_bool, wantV_unit, unitV, cond_true, cond_false, Bool.not_true, Bool.not_false, List.toList_toArray]) | omega) only [c4, Try.f4, Option.getD_some, sub_seq1, sub_seq0, sub_nil, exec_region, runOps_cons, opF_call, evs, resK, putT_some, opF_un, ev_tmp, T.get_set, Nat.reduceEqDiff, T.get_e, if_false, if_true, evG_some, runOps_nil, R.ok_bind, k6, un_not, Bool.not_true]
      with_reducible rfl
    apply W.run 20
    · intro M
      simp (config := { maxSteps := 4000000 }) (disch := first | decide +kernel | (rw [wantF_guard]; simp only [wantD_some, dstAt_zero, dstAt_succ, T.get_set, T.get_e, Nat.reduceEqDiff, if_true, if_false, wantV_bool, wantV_unit, unitV, cond_true, cond_false, Bool.not_true, Bool.not_false, List.toList_toArray]) | omega) only [c4, Try.f4, Option.getD_some, sub_seq1, sub_seq0, sub_nil, exec_cond, ev_tmp, T.get_set, Nat.reduceEqDiff, T.get_e, if_false, if_true, evG_some, exec_seq, exec_region, runOps_cons, opF_assign, ev_bool, putT_some, runOps_nil, R.ok_bind, exec_ret, exec_skip]
      with_reducible rfl
    show W tb1 _ _ _
    apply W.seq
    apply W.runG (g1) 20
    · intro M hM
      simp (config := { maxSteps := 4000000 }) (disch := first | decide +kernel | (rw [wantF_guard]; simp only [wantD_some, dstAt_zero, dstAt_succ, T.get_set, T.get_e, Nat.reduceEqDiff, if_true, if_false, wantV_bool, wantV_unit, unitV, cond_true, cond_false, Bool.not_true, Bool.not_false, List.toList_toArray]) | omega) only [c4, Try.f4, Option.getD_some, sub_seq1, sub_seq0, sub_nil, exec_region, runOps_cons, opF_move, ev_tmp, T.get_set, Nat.reduceEqDiff, T.get_e, if_true, if_false, evG_some, putT_some, opF_call, evs, R.ok_bind, resK, opF_assign, runOps_nil, hg1]
      with_reducible rfl
    apply W.seq
    apply W.run 20
    · intro M
      simp (config := { maxSteps := 4000000 }) (disch := first | decide +kernel | (rw [wantF_guard]; simp only [wantD_some, dstAt_zero, dstAt_succ, T.get_set, T.get_e, Nat.reduceEqDiff, if_true, if_false, wantV_bool, wantV_unit, unitV, cond_true, cond_false, Bool.not_true, Bool.not_false, List.toList_toArray]) | omega) only [c4, Try.f4, Option.getD_some, sub_seq1, sub_seq0, sub_nil, exec_region, runOps_cons, opF_buildSlice, evp, putT_some, opF_move, ev_tmp, T.get_set, Nat.reduceEqDiff, T.get_e, if_false, if_true, evG_some, opF_builtin, evs, R.ok_bind, opF_assign, runOps_nil, builtin_append, bs24_0, at_slc, e1]
      with_reducible rfl
    apply W.seq
    apply W.run 20
    · intro M
      simp (config := { maxSteps := 4000000 }) (disch := first | decide +kernel | (rw [wantF_guard]; simp only [wantD_some, dstAt_zero, dstAt_succ, T.get_set, T.get_e, Nat.reduceEqDiff, if_true, if_false, wantV_bool, wantV_unit, unitV, cond_true, cond_false, Bool.not_true, Bool.not_false, List.toList_toArray]) | omega) only [c4, Try.f4, Option.getD_some, sub_seq1, sub_seq0, sub_nil, exec_region, runOps_cons, opF_move, ev_tmp, T.get_set, Nat.reduceEqDiff, T.get_e, if_false, if_true, evG_some, putT_some, opF_ari, ev_int, und5, opF_conv, convPF, und3, opF_assign, runOps_nil, R.ok_bind, binF_int, op_rem, wrapF_i64, op_add_i64, hf]
      with_reducible rfl
    apply W.seq
    apply W.runG (g2) 20
    · intro M hM
      simp (config := { maxSteps := 4000000 }) (disch := first | decide +kernel | (rw [wantF_guard]; simp only [wantD_some, dstAt_zero, dstAt_succ, T.get_set, T.get_e, Nat.reduceEqDiff, if_true, if_false, wantV_bool, wantV_unit, unitV, cond_true, cond_false, Bool.not_true, Bool.not_false, List.toList_toArray]) | omega) only [c4, Try.f4, Option.getD_some, sub_seq1, sub_seq0, sub_nil, exec_region, runOps_cons, opF_move, ev_tmp, T.get_set, Nat.reduceEqDiff, T.get_e, if_false, if_true, evG_some, putT_some, opF_call, evs, R.ok_bind, resK, opF_assign, runOps_nil, hg2]
      with_reducible rfl
    apply W.seq
    apply W.runG (g3) 20
    · intro M hM
      simp (config := { maxSteps := 4000000 }) (disch := first | decide +kernel | (rw [wantF_guard]; simp only [wantD_some, dstAt_zero, dstAt_succ, T.get_set, T.get_e, Nat.reduceEqDiff, if_true, if_false, wantV_bool, wantV_unit, unitV, cond_true, cond_false, Bool.not_true, Bool.not_false, List.toList_toArray]) | omega) only [c4, Try.f4, Option.getD_some, sub_seq1, sub_seq0, sub_nil, exec_region, runOps_cons, opF_move, ev_tmp, T.get_set, Nat.reduceEqDiff, T.get_e, if_false, if_true, evG_some, putT_some, opF_call, evs, R.ok_bind, resK, opF_extract, extractF, opF_assign, runOps_nil, hg3, List.getElem?_cons_zero, List.getElem?_cons_succ]
      with_reducible rfl
    apply W.seq
    apply W.seq
    apply W.runG ((g4+g5+g6)) 20
    · intro M hM
      simp (config := { maxSteps := 4000000 }) (disch := first | decide +kernel | (rw [wantF_guard]; simp only [wantD_some, dstAt_zero, dstAt_succ, T.get_set, T.get_e, Nat.reduceEqDiff, if_true, if_false, wantV_bool, wantV_unit, unitV, cond_true, cond_false, Bool.not_true, Bool.not_false, List.toList_toArray]) | omega) only [c4, Try.f4, Option.getD_some, sub_seq1, sub_seq0, sub_nil, exec_region, runOps_cons, opF_move, ev_tmp, T.get_set, Nat.reduceEqDiff, T.get_e, if_false, if_true, evG_some, putT_some, opF_len, evs, R.ok_bind, opF_ari, lo, ll, binF_int, op_gtr, cast_lt, hle, decide_false, runOps_yes, opF_neq, ev_int, opF_pick, pickF, ev_bool, op_neq, ne_eq, not_true_eq_false, opF_call, resK, opF_un, hg4, hg5, un_not, Bool.not_true, runOps_nil, hg6]
      with_reducible rfl
    show W tb1 _ _ _
    apply W.run 20
    · intro M
      simp (config := { maxSteps := 4000000 }) (disch := first | decide +kernel | (rw [wantF_guard]; simp only [wantD_some, dstAt_zero, dstAt_succ, T.get_set, T.get_e, Nat.reduceEqDiff, if_true, if_false, wantV_bool, wantV_unit, unitV, cond_true, cond_false, Bool.not_true, Bool.not_false, List.toList_toArray]) | omega) only [c4, Try.f4, Option.getD_some, sub_seq1, sub_seq0, sub_nil, exec_cond, ev_tmp, T.get_set, Nat.reduceEqDiff, T.get_e, if_false, if_true, evG_some, exec_seq, exec_region, runOps_cons, opF_assign, ev_bool, putT_some, runOps_nil, R.ok_bind, exec_ret, exec_skip]
      with_reducible rfl
    show W tb1 _ _ _
    apply W.seq
    apply W.run 20
    · intro M
      simp (config := { maxSteps := 4000000 }) (disch := first | decide +kernel | (rw [wantF_guard]; simp only [wantD_some, dstAt_zero, dstAt_succ, T.get_set, T.get_e, Nat.reduceEqDiff, if_true, if_false, wantV_bool, wantV_unit, unitV, cond_true, cond_false, Bool.not_true, Bool.not_false, List.toList_toArray]) | omega) only [c4, Try.f4, Option.getD_some, sub_seq1, sub_seq0, sub_nil, exec_region, runOps_cons, opF_assign, ev_int, putT_some, runOps_nil, R.ok_bind]
      with_reducible rfl
    apply W.seq
    refine set_sum1 (f := f) (xl := xl) hSF (by omega) hos ?_ ?_ ?_ ?_ ?_ ?_
    · simp only [T.get_set, Nat.reduceEqDiff, if_true, if_false]
    · simp only [T.get_set, Nat.reduceEqDiff, if_true, if_false]
    · simp only [T.get_set, Nat.reduceEqDiff, if_true, if_false]
    · simp only [T.get_set, Nat.reduceEqDiff, if_true, if_false]
    · simp only [T.get_set, Nat.reduceEqDiff, if_true, if_false]
    intro t1 hp1
    show W tb1 _ _ _
    apply W.seq
    refine set_sum2 (f := f) hLF (by omega) (by omega) hp1 ?_
    rintro t2 ⟨g7, g8, g12, g13, -⟩
    show W tb1 _ _ _
    have hgt : ¬ own.sum < left.sum := by omega
    have first : ∀ {K : Ex → St → Prop}, (∀ t', t'.get 7 = some (.int .i64 (f : Int)) → t'.get 8 = some xl → K .nrm ⟨t', 116, [], F, none⟩) → W tb1 (.seq (sub c4 [1,1,1,1,1,1,1,1,1,1,1,0,0]) (sub c4 [1,1,1,1,1,1,1,1,1,1,1,0,1])) ⟨t2, 116, [], F, none⟩ K := by
      intro K hK
      apply W.seq
      by_cases h100 : own.sum ≤ 100000
      · have heq := s4 h100
        rw [heq] at g13
        apply W.run 20
        · intro M
          simp (config := { maxSteps := 4000000 }) (disch := first | decide +kernel | (rw [wantF_guard]; simp only [wantD_some, dstAt_zero, dstAt_succ, T.get_set, T.get_e, Nat.reduceEqDiff, if_true, if_false, wantV_bool, wantV_unit, unitV, cond_true, cond_false, Bool.not_true, Bool.not_false, List.toList_toArray]) | omega) only [c4, Try.f4, Option.getD_some, sub_seq1, sub_seq0, sub_nil, exec_region, runOps_cons, opF_move, ev_tmp, g12, evG_some, putT_some, opF_ari, T.get_set, if_true, ev_int, Nat.reduceEqDiff, if_false, R.ok_bind, binF_int, op_leq, cast_le, h100, decide_true, runOps_yes, g13, opF_neq, opF_pick, pickF, ev_bool, op_neq, ne_eq, not_true_eq_false, decide_false, runOps_nil, op_gtr, cast_lt, Nat.lt_irrefl]
          with_reducible rfl
        show W tb1 _ _ _
        apply W.run 20
        · intro M
          simp (config := { maxSteps := 4000000 }) (disch := first | decide +kernel | (rw [wantF_guard]; simp only [wantD_some, dstAt_zero, dstAt_succ, T.get_set, T.get_e, Nat.reduceEqDiff, if_true, if_false, wantV_bool, wantV_unit, unitV, cond_true, cond_false, Bool.not_true, Bool.not_false, List.toList_toArray]) | omega) only [c4, Try.f4, Option.getD_some, sub_seq1, sub_seq0, sub_nil, exec_cond, ev_tmp, T.get_set, Nat.reduceEqDiff, if_false, if_true, evG_some, exec_seq, exec_region, runOps_cons, opF_assign, ev_bool, putT_some, runOps_nil, R.ok_bind, exec_ret, exec_skip]
          with_reducible rfl
        apply hK
        · simp only [T.get_set, Nat.reduceEqDiff, if_true, if_false, g7]
        · simp only [T.get_set, Nat.reduceEqDiff, if_true, if_false, g8]
      · apply W.run 20
        · intro M
          simp (config := { maxSteps := 4000000 }) (disch := first | decide +kernel | (rw [wantF_guard]; simp only [wantD_some, dstAt_zero, dstAt_succ, T.get_set, T.get_e, Nat.reduceEqDiff, if_true, if_false, wantV_bool, wantV_unit, unitV, cond_true, cond_false, Bool.not_true, Bool.not_false, List.toList_toArray]) | omega) only [c4, Try.f4, Option.getD_some, sub_seq1, sub_seq0, sub_nil, exec_region, runOps_cons, opF_move, ev_tmp, g12, evG_some, putT_some, opF_ari, T.get_set, if_true, ev_int, Nat.reduceEqDiff, if_false, R.ok_bind, binF_int, op_leq, cast_le, h100, decide_false, runOps_no, opF_pick, pickF, ev_bool, runOps_yes, g13, runOps_nil, op_gtr, cast_lt, hgt]
          with_reducible rfl
        show W tb1 _ _ _
        apply W.run 20
        · intro M
          simp (config := { maxSteps := 4000000 }) (disch := first | decide +kernel | (rw [wantF_guard]; simp only [wantD_some, dstAt_zero, dstAt_succ, T.get_set, T.get_e, Nat.reduceEqDiff, if_true, if_false, wantV_bool, wantV_unit, unitV, cond_true, cond_false, Bool.not_true, Bool.not_false, List.toList_toArray]) | omega) only [c4, Try.f4, Option.getD_some, sub_seq1, sub_seq0, sub_nil, exec_cond, ev_tmp, T.get_set, Nat.reduceEqDiff, if_false, if_true, evG_some, exec_seq, exec_region, runOps_cons, opF_assign, ev_bool, putT_some, runOps_nil, R.ok_bind, exec_ret, exec_skip]
          with_reducible rfl
        apply hK
        · simp only [T.get_set, Nat.reduceEqDiff, if_true, if_false, g7]
        · simp only [T.get_set, Nat.reduceEqDiff, if_true, if_false, g8]
    apply W.seq
    refine first ?_
    intro t3 u7 u8
    show W tb1 _ _ _
    apply W.seq
    apply W.seq
    by_cases hnil : left.length = 0
    · rw [hnil] at ll
      apply W.run 20
      · intro M
        simp (config := { maxSteps := 4000000 }) (disch := first | decide +kernel | (rw [wantF_guard]; simp only [wantD_some, dstAt_zero, dstAt_succ, T.get_set, T.get_e, Nat.reduceEqDiff, if_true, if_false, wantV_bool, wantV_unit, unitV, cond_true, cond_false, Bool.not_true, Bool.not_false, List.toList_toArray]) | omega) only [c4, Try.f4, Option.getD_some, sub_seq1, sub_seq0, sub_nil, exec_region, runOps_cons, opF_move, ev_tmp, u8, evG_some, putT_some, opF_len, evs, T.get_set, if_true, R.ok_bind, opF_eql, Nat.reduceEqDiff, if_false, ev_int, ll, binF_int, op_eql, decide_true, runOps_no, opF_pick, pickF, ev_bool, runOps_nil]
        with_reducible rfl
      show W tb1 _ _ _
      apply W.run 20
      · intro M
        simp (config := { maxSteps := 4000000 }) (disch := first | decide +kernel | (rw [wantF_guard]; simp only [wantD_some, dstAt_zero, dstAt_succ, T.get_set, T.get_e, Nat.reduceEqDiff, if_true, if_false, wantV_bool, wantV_unit, unitV, cond_true, cond_false, Bool.not_true, Bool.not_false, List.toList_toArray]) | omega) only [c4, Try.f4, Option.getD_some, sub_seq1, sub_seq0, sub_nil, exec_cond, ev_tmp, T.get_set, Nat.reduceEqDiff, if_false, if_true, evG_some, exec_seq, exec_region, runOps_cons, opF_assign, ev_bool, putT_some, runOps_nil, R.ok_bind, exec_ret, exec_skip]
        with_reducible rfl
      refine ⟨.inr rfl, _, [.bool true], rfl, ?_, rfl⟩
      simp only [Try.f4, resF, ev_tmp, T.get_set, Nat.reduceEqDiff, if_true, if_false, evG_some, R.ok_bind]
    · obtain ⟨p, hp, hpl⟩ := hLF.at (show 0 < left.length by omega)
      have hk9 := fun ih => k9 (ih := ih) (A := F) (n := left.getD 0 0) (f := f) f2 (by
        have := hlb (left.getD 0 0) (by rw [List.getD, List.getElem?_eq_getElem (show 0 < left.length by omega)]; exact List.getElem_mem _)
        omega)
      by_cases ht : tier f (left.getD 0 0) = 0
      · rw [ht] at hk9
        apply W.run 20
        · intro M
          simp (config := { maxSteps := 4000000 }) (disch := first | decide +kernel | (rw [wantF_guard]; simp only [wantD_some, dstAt_zero, dstAt_succ, T.get_set, T.get_e, Nat.reduceEqDiff, if_true, if_false, wantV_bool, wantV_unit, unitV, cond_true, cond_false, Bool.not_true, Bool.not_false, List.toList_toArray]) | omega) only [c4, Try.f4, Option.getD_some, sub_seq1, sub_seq0, sub_nil, exec_region, runOps_cons, opF_move, ev_tmp, u8, evG_some, putT_some, opF_len, evs, T.get_set, if_true, R.ok_bind, opF_eql, Nat.reduceEqDiff, if_false, ev_int, ll, binF_int, op_eql, hnil, decide_false, runOps_yes, opF_indexAddr, opF_load, u7, opF_call, resK, opF_pick, pickF, ev_bool, runOps_nil, hp, hpl, hk9, decide_true]
          with_reducible rfl
        show W tb1 _ _ _
        apply W.run 20
        · intro M
          simp (config := { maxSteps := 4000000 }) (disch := first | decide +kernel | (rw [wantF_guard]; simp only [wantD_some, dstAt_zero, dstAt_succ, T.get_set, T.get_e, Nat.reduceEqDiff, if_true, if_false, wantV_bool, wantV_unit, unitV, cond_true, cond_false, Bool.not_true, Bool.not_false, List.toList_toArray]) | omega) only [c4, Try.f4, Option.getD_some, sub_seq1, sub_seq0, sub_nil, exec_cond, ev_tmp, T.get_set, Nat.reduceEqDiff, if_false, if_true, evG_some, exec_seq, exec_region, runOps_cons, opF_assign, ev_bool, putT_some, runOps_nil, R.ok_bind, exec_ret, exec_skip]
          with_reducible rfl
        refine ⟨.inr rfl, _, [.bool true], rfl, ?_, rfl⟩
        simp only [Try.f4, resF, ev_tmp, T.get_set, Nat.reduceEqDiff, if_true, if_false, evG_some, R.ok_bind]
      · apply W.run 20
        · intro M
          simp (config := { maxSteps := 4000000 }) (disch := first | decide +kernel | (rw [wantF_guard]; simp only [wantD_some, dstAt_zero, dstAt_succ, T.get_set, T.get_e, Nat.reduceEqDiff, if_true, if_false, wantV_bool, wantV_unit, unitV, cond_true, cond_false, Bool.not_true, Bool.not_false, List.toList_toArray]) | omega) only [c4, Try.f4, Option.getD_some, sub_seq1, sub_seq0, sub_nil, exec_region, runOps_cons, opF_move, ev_tmp, u8, evG_some, putT_some, opF_len, evs, T.get_set, if_true, R.ok_bind, opF_eql, Nat.reduceEqDiff, if_false, ev_int, ll, binF_int, op_eql, hnil, decide_false, runOps_yes, opF_indexAddr, opF_load, u7, opF_call, resK, opF_pick, pickF, ev_bool, runOps_nil, hp, hpl, hk9, ht]
          with_reducible rfl
        show W tb1 _ _ _
        apply W.run 20
        · intro M
          simp (config := { maxSteps := 4000000 }) (disch := first | decide +kernel | (rw [wantF_guard]; simp only [wantD_some, dstAt_zero, dstAt_succ, T.get_set, T.get_e, Nat.reduceEqDiff, if_true, if_false, wantV_bool, wantV_unit, unitV, cond_true, cond_false, Bool.not_true, Bool.not_false, List.toList_toArray]) | omega) only [c4, Try.f4, Option.getD_some, sub_seq1, sub_seq0, sub_nil, exec_cond, ev_tmp, T.get_set, Nat.reduceEqDiff, if_false, if_true, evG_some, exec_seq, exec_region, runOps_cons, opF_assign, ev_bool, putT_some, runOps_nil, R.ok_bind, exec_ret, exec_skip]
          with_reducible rfl
        show W tb1 _ _ _
        -- one more ahead of it
        have hE7 := Ext.alloc F (rowOb 3 [.int .i64 ((0 : Nat) : Int)])
        have hn7 : (F.alloc (rowOb 3 [.int .i64 ((0 : Nat) : Int)])).next = F.next + 1 := next_alloc _ _
        have hS7 : Slc (F.alloc (rowOb 3 [.int .i64 ((0 : Nat) : Int)])) 3 F.next (ints [0]) (.slice (some ⟨F.next, 0, none⟩) 1 2) := .inr ⟨.var 1, 2, rfl, by omega, Go.Am.vals_new F 3 _, .inl rfl⟩
        obtain ⟨xm, G, bm, e7, hSm, n7, o7, q7⟩ := app_intsR hS7 (hLF.same hE7.n (fun h => hE7.g _ h)) (by rw [List.length_singleton]; omega)
        have hcons : ([0] ++ left : List Nat) = 0 :: left := rfl
        rw [hcons] at hSm
        have EFG : Ext F G := ⟨by omega, fun y hy => by rw [q7 y (fun e => by omega) (by omega), hE7.g y hy]⟩
        have hpm : pickO f (0 :: left) = none := by
          have h := pick_ahead f 0 1 left (by omega) (fun n hn => by
            have h0 : tier f 0 = 0 := tier_lt (by omega)
            have : left.getD 0 0 = n := by
              cases left with
              | nil => cases hn
              | cons m l => simpa using hn
            rw [h0, ← this]; exact ht)
          rw [s1] at h
          exact h
        have hfm := settle_none hpm
        obtain ⟨x9, H, b9, ⟨g9, hg9⟩, hR9, hb9, EGH⟩ := run_settle f2 (by omega) (by rw [List.length_cons]; omega) (fun n hn => by
          rcases List.mem_cons.1 hn with h | h
          · rw [h]; omega
          · exact hlb n h) (rw_of hSm) (by have := EFG.n; omega)
        rw [hfm] at hR9
        obtain ⟨g10, hg10⟩ := run_alike (by rw [List.length_cons]; omega) hR9 ((rw_of hSm).same EGH.n (fun h => EGH.g _ h))
        apply W.seq
        apply W.run 20
        · intro M
          simp (config := { maxSteps := 4000000 }) (disch := first | decide +kernel | (rw [wantF_guard]; simp only [wantD_some, dstAt_zero, dstAt_succ, T.get_set, T.get_e, Nat.reduceEqDiff, if_true, if_false, wantV_bool, wantV_unit, unitV, cond_true, cond_false, Bool.not_true, Bool.not_false, List.toList_toArray]) | omega) only [c4, Try.f4, Option.getD_some, sub_seq1, sub_seq0, sub_nil, exec_region, runOps_cons, opF_buildSlice, evp, ev_int, R.ok_bind, putT_some, opF_move, ev_tmp, T.get_set, Nat.reduceEqDiff, u8, if_false, evG_some, opF_builtin, evs, if_true, opF_assign, runOps_nil, builtin_append, bs24, at_slc, e7]
          with_reducible rfl
        apply W.seq
        apply W.runG ((g9+g10)) 20
        · intro M hM
          simp (config := { maxSteps := 4000000 }) (disch := first | decide +kernel | (rw [wantF_guard]; simp only [wantD_some, dstAt_zero, dstAt_succ, T.get_set, T.get_e, Nat.reduceEqDiff, if_true, if_false, wantV_bool, wantV_unit, unitV, cond_true, cond_false, Bool.not_true, Bool.not_false, List.toList_toArray]) | omega) only [c4, Try.f4, Option.getD_some, sub_seq1, sub_seq0, sub_nil, exec_region, runOps_cons, opF_move, ev_tmp, T.get_set, Nat.reduceEqDiff, u7, if_false, evG_some, putT_some, if_true, opF_call, evs, R.ok_bind, resK, opF_assign, runOps_nil, hg9, hg10]
          with_reducible rfl
        apply W.run 20
        · intro M
          simp (config := { maxSteps := 4000000 }) (disch := first | decide +kernel | (rw [wantF_guard]; simp only [wantD_some, dstAt_zero, dstAt_succ, T.get_set, T.get_e, Nat.reduceEqDiff, if_true, if_false, wantV_bool, wantV_unit, unitV, cond_true, cond_false, Bool.not_true, Bool.not_false, List.toList_toArray]) | omega) only [c4, Try.f4, Option.getD_some, sub_seq1, sub_nil, exec_ret]
          with_reducible rfl
        refine ⟨.inr rfl, _, [.bool true], rfl, ?_, rfl⟩
        simp only [Try.f4, resF, ev_tmp, T.get_set, Nat.reduceEqDiff, if_true, if_false, evG_some, R.ok_bind]
  subst h2
  exact ⟨A', h1⟩
end Go.Proofs.Ytgkolgfkcelljaa.pck

namespace Go.Proofs.Ytgkolgfkcelljaa.pickSettles
open Go.ChangeShapes Go.WideShapes Go.ChangeAt Go.RowKit Go.Am
open Go.ChangeMaps (open_string shut_string)
set_option linter.unusedVariables false

theorem own : ownKnob Try.prog.godebug = none := by kernel_rfl
theorem laidOut : laidOutB Try.prog = true := by kernel_rfl

/-- A slice of integers that came in. -/
def IsRow (k : IntKind) (w : World) (a : Option Addr) (len cap : Nat) (zs : List Int) : Prop := ParW k w a len cap zs ∧ ∀ n ∈ zs, (Lit.int k n).wf = true
theorem slice_has {P : Program} {w : World} {base : Nat} {t e : TypeId} {x : Addr} {len cap : Nat} (ht : P.underlying t = some (.slice e)) (h : Value.okWide P w .any base t (.slice (some x) len cap)) : x.spot = none ∧ x.block < w.heap.size := by
  simp only [Value.okWide, Cell.okWide, Cell.ok, ht] at h
  obtain ⟨_, _, _, hsp, row, cells, hsh, _⟩ := h
  refine ⟨hsp, ?_⟩
  unfold World.shape? at hsh
  split at hsh
  · rename_i h2
    exact (Array.getElem?_eq_some_iff.1 h2).1
  · cases hsh

/-! ### The run -/
theorem walk (a0 : Option Addr) (len0 cap0 : Nat) (z0 : List Int) (a1 : Int) (w : World) (w0 : IsRow .u16 w a0 len0 cap0 z0) (w1 : (Lit.int .u8 a1).wf = true) :
    Calls Try.prog 4 #[.slice a0 len0 cap0, .int .u8 a1] w fun e w' => e = .returned (.bool true) ∧ Below w.heap.size w w' := by
  obtain ⟨hp, hz⟩ := w0
  have b1 := bounds_u8 w1

  have hsh : (z0.take len0).map (.int .u16) = pck.shorts ((z0.take len0).map fun z => z.toNat) := by
    simp only [pck.shorts, List.map_map]
    apply List.map_congr_left
    intro n hn
    obtain ⟨h0, h1⟩ := bounds_u16 (hz n (List.mem_of_mem_take hn))
    simp only [Function.comp]
    congr 1
    omega
  have hbd : ∀ v ∈ (z0.take len0).map (fun z => z.toNat), v < 65536 := fun v hv => by
    obtain ⟨n, hn, rfl⟩ := List.mem_map.1 hv
    have := bounds_u16 (hz n (List.mem_of_mem_take hn))
    omega
  have e1 : (Value.int .u8 a1) = .int .u8 ((a1.toNat : Nat) : Int) := by rw [Int.toNat_of_nonneg (by omega)]
  exact (par_true pck.tb1_ok hp (pck.fn_at Try.func4) pck.c4_eq (pre := []) (pre' := []) (post := [.int .u8 a1]) (post' := [.int .u8 a1]) (fun ι => .nil) (fun ι => .cons (.int _ _) .nil) (fun A x hn hwf hP => by
    rw [hsh] at hP
    rw [e1]
    exact pck.run_pickSettles _ a1.toNat hbd (by omega) (by omega) hP) (w := w)).mono fun e w' h => ⟨h.1, h.2.below⟩

/-! ### THE ROW's STEP: WRITTEN OUT: LEAVE IT -/
set_option maxRecDepth 100000 in
theorem lifted (os : Os) (started : os.Started) (H : Type) (enc : TypeId × Value → H) :
    ReturnsInHanded {} Try.checked os 4 .any (Rows.pickSettlesSpec.pre6 enc Try.prog Try.f4 Rows.pickSettlesRow.domain false) (Rows.pickSettlesSpec.post enc Try.prog Try.f4 false true false false) := by
  refine returnsInHanded_of_change (C := Try.checked) own started (by kernel_rfl) Try.func4
    (ChangeSpec.witness6 (enc := enc) (C := Try.checked) false ⟨#[], #[.slice none 0 0, .int .u8 0], []⟩ 8 (by kernel_rfl) (by kernel_rfl) (by kernel_rfl) (by kernel_rfl)) ?_
  intro W base args ds gs before hval0 hW hcnd _
  have hval : ∀ (j : Nat) t v, Try.f4.params[j]? = some t → args[j]? = some v → Value.okWide Try.prog W .any base t v := hval0
  have hW' := hW
  obtain ⟨p, q, hA0, hV, rfl, hfz, hnd⟩ := hW
  have hA : DataW.TrodAll enc Try.prog W 0 (fun _ => true) true Try.f4.params.toList args.toList ds p := hA0
  rw [Try.params4] at hA hval
  obtain ⟨v0, vs0, d0, ds0, p0, q0, hargs, rfl, rfl, h0, r0⟩ := trodAll_cons hA
  obtain ⟨v1, vs1, d1, ds1, p1, q1, rfl, rfl, rfl, h1, r1⟩ := trodAll_cons r0
  obtain ⟨rfl, rfl, rfl⟩ := trodAll_nil r1
  obtain rfl : args = #[v0, v1] := by cases args; simp_all
  obtain ⟨rfl, rfl⟩ := trodVars_none hV
  obtain ⟨a0, len0, cap0, rfl⟩ := okWide_slice Try.underlying22 (hval 0 22 v0 rfl rfl)
  have k0 := h0
  have lt0 : ∀ x ∈ p0, x.block < W.heap.size := by obtain ⟨m, hm⟩ := k0; exact DataW.trod_lt m _ _ _ hm
  obtain ⟨z0, w0⟩ : ∃ zs, IsRow .u16 W a0 len0 cap0 zs := by
    obtain ⟨fuel, hf⟩ := h0
    rcases open_ints Try.underlying22 Try.underlying38 (by kernel_rfl) hf with ⟨hcs, _⟩ | ⟨x, l, c, zs, hcs, _, hl, hm, hz, _, hcell, hwz⟩
    · simp [Value.cells] at hcs
      obtain ⟨rfl, rfl, rfl⟩ := hcs
      exact ⟨[], .inl ⟨rfl, rfl, rfl, rfl⟩, fun n h => by cases h⟩
    · simp [Value.cells] at hcs
      obtain ⟨rfl, rfl, rfl⟩ := hcs
      exact ⟨zs, .inr ⟨_, rfl, (slice_has Try.underlying22 (hval 0 22 _ rfl rfl)).1, (slice_has Try.underlying22 (hval 0 22 _ rfl rfl)).2, hl, Nat.lt_of_le_of_lt hm (by decide), by simpa using hz, hcell⟩, hwz⟩
  obtain ⟨a1, rfl, rfl, rfl, w1⟩ := open_int Try.underlying5 (hval 1 5 v1 rfl rfl) h1
  clear hA0 hval0
  refine (walk a0 len0 cap0 z0 a1 W w0 w1).mono fun e W' ⟨he, bel⟩ => ?_
  subst he
  exact ⟨_, rfl, _, _, _, [], _, [], hW', trodAll_mk1 (shut_bool Try.underlying4 _), (trodAll_cons_mk (Below.trod laidOut (by kernel_rfl) (of_decide_eq_true (by kernel_rfl)) k0 bel lt0) (trodAll_cons_mk (shut_int Try.underlying5 w1) trodAll_mk0)), rfl, bel.frame _, fun h => by cases h⟩

theorem over : Rows.pickSettlesRow.holds Try.pinned (OpenSpec.ofChange Rows.pickSettlesSpec) :=
  OpenClaim.holds_of_wide 4 Try.f4 rfl rfl rfl rfl rfl rfl rfl ⟨rfl, rfl, rfl, rfl, rfl⟩ rfl rfl rfl rfl rfl (by kernel_rfl) Try.func4 (by kernel_rfl)
    (of_decide_eq_true (by kernel_rfl)) (by unfold Func.isWrapper; first | (rw [if_pos (by decide +kernel)]; kernel_rfl) | (rw [if_neg (by decide +kernel)]; exact ⟨rfl, rfl⟩))
    (fun os started H enc _ => lifted os started H enc)

/-- ████ THE STATEMENT ████ -/
theorem proved : Rows.PickSettlesSaid := over
#print axioms proved
end Go.Proofs.Ytgkolgfkcelljaa.pickSettles
