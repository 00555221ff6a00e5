/-
  The statement CrcBursts holds, for every input: the program, run on the abstract machine AM on values of which parts are variables, answers true; what AM answers the model answers. No conditions.
-/
import Derived.Test.YtjgmjbbchonmlaaRows
import Derived.Test.YtjgmjbbchonmlaaCrcA
import Derived.WalkKit
import Derived.ProofKit
import Derived.OpenShut
import Derived.ShutString
namespace Go.Proofs.Ytjgmjbbchonmlaa.crc
open Go.Am
set_option linter.unusedSimpArgs false

theorem max_i64 {tb : Tab} {ts : List TypeId} {a b : Nat} : builtinPF tb .max ts [.int .i64 (a : Int), .int .i64 (b : Int)] = .ok (.int .i64 ((max a b : Nat) : Int)) := by
  have e : builtinPF tb .max ts [.int .i64 (a : Int), .int .i64 (b : Int)] = .ok (.int .i64 (bif Nat.blt a b then (b : Int) else (a : Int))) := by
    cases ts <;> rfl
  rw [e]
  cases h : Nat.blt a b with
  | true =>
    have : a < b := by simpa [Nat.blt_eq] using h
    rw [Nat.max_eq_right (by omega)]; rfl
  | false =>
    have : ¬ a < b := by intro hx; rw [← Nat.blt_eq, h] at hx; cases hx
    rw [Nat.max_eq_left (by omega)]; rfl

noncomputable def c4 : Code := Try.f4.body.getD .skip
theorem c4_eq : Try.f4.body = some (.seq (sub c4 [0]) (.seq (.seq (sub c4 [1,0,0]) (.cond (.tmp 12) (sub c4 [1,0,1,0]) .skip)) (.seq (sub c4 [1,1,0]) (.seq (sub c4 [1,1,1,0]) (.seq (sub c4 [1,1,1,1,0]) (.seq (.seq (sub c4 [1,1,1,1,1,0,0]) (.cond (.tmp 36) (sub c4 [1,1,1,1,1,0,1,0]) .skip)) (.seq (sub c4 [1,1,1,1,1,1,0]) (sub c4 [1,1,1,1,1,1,1])))))))) := by kernel_rfl

theorem refSeal_len (l : List UInt8) : (refSeal l).length = l.length + 4 := by unfold refSeal; rw [List.length_append, four_len]
theorem cut_len3 (l : List UInt8) : (l.take (min l.length 300)).length ≤ 300 := by rw [List.length_take]; omega
theorem run_bursts (l : List UInt8) (c p : Nat) (hc : c < 65536) (hp : p < 4294967296) : ∃ A, CallsTo tb8 4 [strOf l, .int .u16 (c : Nat), .int .u32 (p : Nat)] mem0 (.bool true) A := by
  have hq := cut_len3 l
  have hmin : min l.length 300 ≤ l.length := Nat.min_le_left _ _
  obtain ⟨v, A', h1, h2⟩ : ∃ v A', CallsTo tb8 4 [strOf l, .int .u16 (c : Nat), .int .u32 (p : Nat)] mem0 v A' ∧ v = .bool true := by
    refine call_of_W (fn_at Try.func4) c4_eq (by rw [Try.ntmps4]; simp) ?_
    apply W.seq
    apply W.run 20
    · intro m
      simp (disch := first | omega | decide +kernel | (simp only [wantF_guard, wantD_some, dstAt_zero, dstAt_succ, T.get_set, T.get_e, Nat.reduceEqDiff, if_true, if_false, wantV_bool, wantV_unit, unitV, cond_true, cond_false, Bool.not_true, Bool.not_false, List.toList_toArray])) only [c4, Try.f4, Nat.ble, cond_true, cond_false, T.puts_cons, T.puts_nil, exec_seq, exec_block, nat_beq_self, exec_region, exec_cond, exec_skip, exec_ret, exec_exit, exec_scope, runOps_cons, runOps_nil, opF_move, opF_assign, opF_ari, opF_neq, opF_eql, opF_un, opF_index, opF_indexAddr, opF_fieldAddr, opF_field, opF_build, opF_slice, opF_extract, opF_pick, opF_load, opF_alloc, opF_box, opF_buildSlice, opF_makeSlice, opF_store, opF_conv, opF_len, opF_minmax, opF_builtin, opF_call, resK, ev_tmp, evG_some, ev_int, ev_bool, ev_str, evs, evp, evo, R.ok_bind, putT_some, putT_none, T.get_set, T.get_e, binF_int, op_rem, op_quo_u32, op_xor_u32, op_neq, op_eql, op_lss, op_add_i64, op_sub_u32, op_and_u8, op_xor_u8, op_not_u32, binF_shr_u32, binF_shr_u8, op_mul_i64, op_quo_i64, op_and_u32, binF_shl_u8, wrapF_u8, wrapF_u32, mod_u8, mod_u32, cond_val, Nat.lt_irrefl, Nat.not_lt_zero, if_true, if_false, reduceIte, Nat.reduceEqDiff, Nat.reduceAdd, ne_eq, not_true_eq_false, not_false_eq_true, decide_true, decide_false, Bool.false_eq_true, Bool.not_true, Bool.not_false, sub_nil, sub_seq0, sub_seq1, sub_cond0, sub_cond1, sub_block, sub_loop, sub_scope, sub_range0, sub_range1, Option.getD_some, at_ptr, at_slc, runOps_yes, runOps_no, exec_draw, op_sub_i64, op_sub_neg, op_lss_neg, binF_str, str_add, str_neq, str_eql, takeF, resF, oneOf, pickF, extractF]
      rfl
    apply W.seq
    apply W.seq
    apply W.run 20
    · intro m
      simp (disch := first | omega | decide +kernel | (simp only [wantF_guard, wantD_some, dstAt_zero, dstAt_succ, T.get_set, T.get_e, Nat.reduceEqDiff, if_true, if_false, wantV_bool, wantV_unit, unitV, cond_true, cond_false, Bool.not_true, Bool.not_false, List.toList_toArray])) only [c4, Try.f4, Nat.ble, cond_true, cond_false, T.puts_cons, T.puts_nil, exec_seq, exec_block, nat_beq_self, exec_region, exec_cond, exec_skip, exec_ret, exec_exit, exec_scope, runOps_cons, runOps_nil, opF_move, opF_assign, opF_ari, opF_neq, opF_eql, opF_un, opF_index, opF_indexAddr, opF_fieldAddr, opF_field, opF_build, opF_slice, opF_extract, opF_pick, opF_load, opF_alloc, opF_box, opF_buildSlice, opF_makeSlice, opF_store, opF_conv, opF_len, opF_minmax, opF_builtin, opF_call, resK, ev_tmp, evG_some, ev_int, ev_bool, ev_str, evs, evp, evo, R.ok_bind, putT_some, putT_none, T.get_set, T.get_e, binF_int, op_rem, op_quo_u32, op_xor_u32, op_neq, op_eql, op_lss, op_add_i64, op_sub_u32, op_and_u8, op_xor_u8, op_not_u32, binF_shr_u32, binF_shr_u8, op_mul_i64, op_quo_i64, op_and_u32, binF_shl_u8, wrapF_u8, wrapF_u32, mod_u8, mod_u32, cond_val, Nat.lt_irrefl, Nat.not_lt_zero, if_true, if_false, reduceIte, Nat.reduceEqDiff, Nat.reduceAdd, ne_eq, not_true_eq_false, not_false_eq_true, decide_true, decide_false, Bool.false_eq_true, Bool.not_true, Bool.not_false, sub_nil, sub_seq0, sub_seq1, sub_cond0, sub_cond1, sub_block, sub_loop, sub_scope, sub_range0, sub_range1, Option.getD_some, at_ptr, at_slc, runOps_yes, runOps_no, exec_draw, op_sub_i64, op_sub_neg, op_lss_neg, binF_str, str_add, str_neq, str_eql, takeF, resF, oneOf, pickF, extractF, m15]
      rfl
    refine W.cond (p := false) ?_ (fun h => by cases h) (fun _ => ?_)
    · simp only [ev_tmp, T.get_set, Nat.reduceEqDiff, if_true, if_false, evG_some]; rfl
    apply W.run 20
    · intro m
      simp (disch := first | omega | decide +kernel | (simp only [wantF_guard, wantD_some, dstAt_zero, dstAt_succ, T.get_set, T.get_e, Nat.reduceEqDiff, if_true, if_false, wantV_bool, wantV_unit, unitV, cond_true, cond_false, Bool.not_true, Bool.not_false, List.toList_toArray])) only [Nat.ble, cond_true, cond_false, T.puts_cons, T.puts_nil, exec_seq, exec_block, nat_beq_self, exec_region, exec_cond, exec_skip, exec_ret, exec_exit, exec_scope, runOps_cons, runOps_nil, opF_move, opF_assign, opF_ari, opF_neq, opF_eql, opF_un, opF_index, opF_indexAddr, opF_fieldAddr, opF_field, opF_build, opF_slice, opF_extract, opF_pick, opF_load, opF_alloc, opF_box, opF_buildSlice, opF_makeSlice, opF_store, opF_conv, opF_len, opF_minmax, opF_builtin, opF_call, resK, ev_tmp, evG_some, ev_int, ev_bool, ev_str, evs, evp, evo, R.ok_bind, putT_some, putT_none, T.get_set, T.get_e, binF_int, op_rem, op_quo_u32, op_xor_u32, op_neq, op_eql, op_lss, op_add_i64, op_sub_u32, op_and_u8, op_xor_u8, op_not_u32, binF_shr_u32, binF_shr_u8, op_mul_i64, op_quo_i64, op_and_u32, binF_shl_u8, wrapF_u8, wrapF_u32, mod_u8, mod_u32, cond_val, Nat.lt_irrefl, Nat.not_lt_zero, if_true, if_false, reduceIte, Nat.reduceEqDiff, Nat.reduceAdd, ne_eq, not_true_eq_false, not_false_eq_true, decide_true, decide_false, Bool.false_eq_true, Bool.not_true, Bool.not_false, sub_nil, sub_seq0, sub_seq1, sub_cond0, sub_cond1, sub_block, sub_loop, sub_scope, sub_range0, sub_range1, Option.getD_some, at_ptr, at_slc, runOps_yes, runOps_no, exec_draw, op_sub_i64, op_sub_neg, op_lss_neg, binF_str, str_add, str_neq, str_eql, takeF, resF, oneOf, pickF, extractF]
      rfl
    show W tb8 _ _ _
    revert hq
    generalize hqe : l.take (min l.length 300) = q
    intro hq
    have hlq := refSeal_len q
    have hqs : (refSeal q).length < 900000 := by omega
    apply W.seq
    apply W.run 20
    · intro m
      simp (disch := first | omega | decide +kernel | (simp only [wantF_guard, wantD_some, dstAt_zero, dstAt_succ, T.get_set, T.get_e, Nat.reduceEqDiff, if_true, if_false, wantV_bool, wantV_unit, unitV, cond_true, cond_false, Bool.not_true, Bool.not_false, List.toList_toArray])) only [c4, Try.f4, Nat.ble, cond_true, cond_false, T.puts_cons, T.puts_nil, exec_seq, exec_block, nat_beq_self, exec_region, exec_cond, exec_skip, exec_ret, exec_exit, exec_scope, runOps_cons, runOps_nil, opF_move, opF_assign, opF_ari, opF_neq, opF_eql, opF_un, opF_index, opF_indexAddr, opF_fieldAddr, opF_field, opF_build, opF_slice, opF_extract, opF_pick, opF_load, opF_alloc, opF_box, opF_buildSlice, opF_makeSlice, opF_store, opF_conv, opF_len, opF_minmax, opF_builtin, opF_call, resK, ev_tmp, evG_some, ev_int, ev_bool, ev_str, evs, evp, evo, R.ok_bind, putT_some, putT_none, T.get_set, T.get_e, binF_int, op_rem, op_quo_u32, op_xor_u32, op_neq, op_eql, op_lss, op_add_i64, op_sub_u32, op_and_u8, op_xor_u8, op_not_u32, binF_shr_u32, binF_shr_u8, op_mul_i64, op_quo_i64, op_and_u32, binF_shl_u8, wrapF_u8, wrapF_u32, mod_u8, mod_u32, cond_val, Nat.lt_irrefl, Nat.not_lt_zero, if_true, if_false, reduceIte, Nat.reduceEqDiff, Nat.reduceAdd, ne_eq, not_true_eq_false, not_false_eq_true, decide_true, decide_false, Bool.false_eq_true, Bool.not_true, Bool.not_false, sub_nil, sub_seq0, sub_seq1, sub_cond0, sub_cond1, sub_block, sub_loop, sub_scope, sub_range0, sub_range1, Option.getD_some, at_ptr, at_slc, runOps_yes, runOps_no, exec_draw, op_sub_i64, op_sub_neg, op_lss_neg, binF_str, str_add, str_neq, str_eql, takeF, resF, oneOf, pickF, extractF, len_str und9h, min_i64, slice_to und9h, hqe, m13]
      rfl
    apply W.seq
    have hmax : max 1 (refSeal q).length = (refSeal q).length := by omega
    have hrem : c % (8 * (refSeal q).length) < 8 * (refSeal q).length := Nat.mod_lt _ (by omega)
    apply W.run 20
    · intro m
      simp (disch := first | omega | decide +kernel | (simp only [wantF_guard, wantD_some, dstAt_zero, dstAt_succ, T.get_set, T.get_e, Nat.reduceEqDiff, if_true, if_false, wantV_bool, wantV_unit, unitV, cond_true, cond_false, Bool.not_true, Bool.not_false, List.toList_toArray])) only [c4, Try.f4, Nat.ble, cond_true, cond_false, T.puts_cons, T.puts_nil, exec_seq, exec_block, nat_beq_self, exec_region, exec_cond, exec_skip, exec_ret, exec_exit, exec_scope, runOps_cons, runOps_nil, opF_move, opF_assign, opF_ari, opF_neq, opF_eql, opF_un, opF_index, opF_indexAddr, opF_fieldAddr, opF_field, opF_build, opF_slice, opF_extract, opF_pick, opF_load, opF_alloc, opF_box, opF_buildSlice, opF_makeSlice, opF_store, opF_conv, opF_len, opF_minmax, opF_builtin, opF_call, resK, ev_tmp, evG_some, ev_int, ev_bool, ev_str, evs, evp, evo, R.ok_bind, putT_some, putT_none, T.get_set, T.get_e, binF_int, op_rem, op_quo_u32, op_xor_u32, op_neq, op_eql, op_lss, op_add_i64, op_sub_u32, op_and_u8, op_xor_u8, op_not_u32, binF_shr_u32, binF_shr_u8, op_mul_i64, op_quo_i64, op_and_u32, binF_shl_u8, wrapF_u8, wrapF_u32, mod_u8, mod_u32, cond_val, Nat.lt_irrefl, Nat.not_lt_zero, if_true, if_false, reduceIte, Nat.reduceEqDiff, Nat.reduceAdd, ne_eq, not_true_eq_false, not_false_eq_true, decide_true, decide_false, Bool.false_eq_true, Bool.not_true, Bool.not_false, sub_nil, sub_seq0, sub_seq1, sub_cond0, sub_cond1, sub_block, sub_loop, sub_scope, sub_range0, sub_range1, Option.getD_some, at_ptr, at_slc, runOps_yes, runOps_no, exec_draw, op_sub_i64, op_sub_neg, op_lss_neg, binF_str, str_add, str_neq, str_eql, takeF, resF, oneOf, pickF, extractF, len_str und9h, convPF, und22h, und3h, wrapF_i64, max_i64, hmax, l16]
      rfl
    apply W.seq
    have hYl := turnF_len (refSeal q) (c % (8 * (refSeal q).length)) p
    have hro : refOpen (refSeal q) = (q, true) := by rw [← openP_eq, openP_seal]
    have hop := open_turn q (c % (8 * (refSeal q).length)) p (by omega)
    revert hYl hop
    generalize turnF (refSeal q) (c % (8 * (refSeal q).length)) p = Y
    intro hYl hop
    apply W.run 20
    · intro m
      simp (disch := first | omega | decide +kernel | (simp only [wantF_guard, wantD_some, dstAt_zero, dstAt_succ, T.get_set, T.get_e, Nat.reduceEqDiff, if_true, if_false, wantV_bool, wantV_unit, unitV, cond_true, cond_false, Bool.not_true, Bool.not_false, List.toList_toArray])) only [c4, Try.f4, Nat.ble, cond_true, cond_false, T.puts_cons, T.puts_nil, exec_seq, exec_block, nat_beq_self, exec_region, exec_cond, exec_skip, exec_ret, exec_exit, exec_scope, runOps_cons, runOps_nil, opF_move, opF_assign, opF_ari, opF_neq, opF_eql, opF_un, opF_index, opF_indexAddr, opF_fieldAddr, opF_field, opF_build, opF_slice, opF_extract, opF_pick, opF_load, opF_alloc, opF_box, opF_buildSlice, opF_makeSlice, opF_store, opF_conv, opF_len, opF_minmax, opF_builtin, opF_call, resK, ev_tmp, evG_some, ev_int, ev_bool, ev_str, evs, evp, evo, R.ok_bind, putT_some, putT_none, T.get_set, T.get_e, binF_int, op_rem, op_quo_u32, op_xor_u32, op_neq, op_eql, op_lss, op_add_i64, op_sub_u32, op_and_u8, op_xor_u8, op_not_u32, binF_shr_u32, binF_shr_u8, op_mul_i64, op_quo_i64, op_and_u32, binF_shl_u8, wrapF_u8, wrapF_u32, mod_u8, mod_u32, cond_val, Nat.lt_irrefl, Nat.not_lt_zero, if_true, if_false, reduceIte, Nat.reduceEqDiff, Nat.reduceAdd, ne_eq, not_true_eq_false, not_false_eq_true, decide_true, decide_false, Bool.false_eq_true, Bool.not_true, Bool.not_false, sub_nil, sub_seq0, sub_seq1, sub_cond0, sub_cond1, sub_block, sub_loop, sub_scope, sub_range0, sub_range1, Option.getD_some, at_ptr, at_slc, runOps_yes, runOps_no, exec_draw, op_sub_i64, op_sub_neg, op_lss_neg, binF_str, str_add, str_neq, str_eql, takeF, resF, oneOf, pickF, extractF, m8]
      rfl
    apply W.seq
    apply W.seq
    by_cases hYe : Y = refSeal q
    · apply W.run 20
      · intro m
        simp (disch := first | omega | decide +kernel | (simp only [wantF_guard, wantD_some, dstAt_zero, dstAt_succ, T.get_set, T.get_e, Nat.reduceEqDiff, if_true, if_false, wantV_bool, wantV_unit, unitV, cond_true, cond_false, Bool.not_true, Bool.not_false, List.toList_toArray])) only [c4, Try.f4, Nat.ble, cond_true, cond_false, T.puts_cons, T.puts_nil, exec_seq, exec_block, nat_beq_self, exec_region, exec_cond, exec_skip, exec_ret, exec_exit, exec_scope, runOps_cons, runOps_nil, opF_move, opF_assign, opF_ari, opF_neq, opF_eql, opF_un, opF_index, opF_indexAddr, opF_fieldAddr, opF_field, opF_build, opF_slice, opF_extract, opF_pick, opF_load, opF_alloc, opF_box, opF_buildSlice, opF_makeSlice, opF_store, opF_conv, opF_len, opF_minmax, opF_builtin, opF_call, resK, ev_tmp, evG_some, ev_int, ev_bool, ev_str, evs, evp, evo, R.ok_bind, putT_some, putT_none, T.get_set, T.get_e, binF_int, op_rem, op_quo_u32, op_xor_u32, op_neq, op_eql, op_lss, op_add_i64, op_sub_u32, op_and_u8, op_xor_u8, op_not_u32, binF_shr_u32, binF_shr_u8, op_mul_i64, op_quo_i64, op_and_u32, binF_shl_u8, wrapF_u8, wrapF_u32, mod_u8, mod_u32, cond_val, Nat.lt_irrefl, Nat.not_lt_zero, if_true, if_false, reduceIte, Nat.reduceEqDiff, Nat.reduceAdd, ne_eq, not_true_eq_false, not_false_eq_true, decide_true, decide_false, Bool.false_eq_true, Bool.not_true, Bool.not_false, sub_nil, sub_seq0, sub_seq1, sub_cond0, sub_cond1, sub_block, sub_loop, sub_scope, sub_range0, sub_range1, Option.getD_some, at_ptr, at_slc, runOps_yes, runOps_no, exec_draw, op_sub_i64, op_sub_neg, op_lss_neg, binF_str, str_add, str_neq, str_eql, takeF, resF, oneOf, pickF, extractF, hYe]
        rfl
      refine W.cond (p := true) ?_ (fun _ => ?_) (fun h => by cases h)
      · simp only [ev_tmp, T.get_set, Nat.reduceEqDiff, if_true, if_false, evG_some]
      subst hYe
      apply W.run 20
      · intro m
        simp (disch := first | omega | decide +kernel | (simp only [wantF_guard, wantD_some, dstAt_zero, dstAt_succ, T.get_set, T.get_e, Nat.reduceEqDiff, if_true, if_false, wantV_bool, wantV_unit, unitV, cond_true, cond_false, Bool.not_true, Bool.not_false, List.toList_toArray])) only [c4, Try.f4, Nat.ble, cond_true, cond_false, T.puts_cons, T.puts_nil, exec_seq, exec_block, nat_beq_self, exec_region, exec_cond, exec_skip, exec_ret, exec_exit, exec_scope, runOps_cons, runOps_nil, opF_move, opF_assign, opF_ari, opF_neq, opF_eql, opF_un, opF_index, opF_indexAddr, opF_fieldAddr, opF_field, opF_build, opF_slice, opF_extract, opF_pick, opF_load, opF_alloc, opF_box, opF_buildSlice, opF_makeSlice, opF_store, opF_conv, opF_len, opF_minmax, opF_builtin, opF_call, resK, ev_tmp, evG_some, ev_int, ev_bool, ev_str, evs, evp, evo, R.ok_bind, putT_some, putT_none, T.get_set, T.get_e, binF_int, op_rem, op_quo_u32, op_xor_u32, op_neq, op_eql, op_lss, op_add_i64, op_sub_u32, op_and_u8, op_xor_u8, op_not_u32, binF_shr_u32, binF_shr_u8, op_mul_i64, op_quo_i64, op_and_u32, binF_shl_u8, wrapF_u8, wrapF_u32, mod_u8, mod_u32, cond_val, Nat.lt_irrefl, Nat.not_lt_zero, if_true, if_false, reduceIte, Nat.reduceEqDiff, Nat.reduceAdd, ne_eq, not_true_eq_false, not_false_eq_true, decide_true, decide_false, Bool.false_eq_true, Bool.not_true, Bool.not_false, sub_nil, sub_seq0, sub_seq1, sub_cond0, sub_cond1, sub_block, sub_loop, sub_scope, sub_range0, sub_range1, Option.getD_some, at_ptr, at_slc, runOps_yes, runOps_no, exec_draw, op_sub_i64, op_sub_neg, op_lss_neg, binF_str, str_add, str_neq, str_eql, takeF, resF, oneOf, pickF, extractF, hro]
        rfl
      refine ⟨.inr rfl, mem0, [.bool true], rfl, ?_, rfl⟩
      simp only [Try.f4, resF, ev_tmp, T.get_set, Nat.reduceEqDiff, if_true, if_false, evG_some, R.ok_bind]
    · have hop1 := hop hYe
      apply W.run 20
      · intro m
        simp (disch := first | omega | decide +kernel | (simp only [wantF_guard, wantD_some, dstAt_zero, dstAt_succ, T.get_set, T.get_e, Nat.reduceEqDiff, if_true, if_false, wantV_bool, wantV_unit, unitV, cond_true, cond_false, Bool.not_true, Bool.not_false, List.toList_toArray])) only [c4, Try.f4, Nat.ble, cond_true, cond_false, T.puts_cons, T.puts_nil, exec_seq, exec_block, nat_beq_self, exec_region, exec_cond, exec_skip, exec_ret, exec_exit, exec_scope, runOps_cons, runOps_nil, opF_move, opF_assign, opF_ari, opF_neq, opF_eql, opF_un, opF_index, opF_indexAddr, opF_fieldAddr, opF_field, opF_build, opF_slice, opF_extract, opF_pick, opF_load, opF_alloc, opF_box, opF_buildSlice, opF_makeSlice, opF_store, opF_conv, opF_len, opF_minmax, opF_builtin, opF_call, resK, ev_tmp, evG_some, ev_int, ev_bool, ev_str, evs, evp, evo, R.ok_bind, putT_some, putT_none, T.get_set, T.get_e, binF_int, op_rem, op_quo_u32, op_xor_u32, op_neq, op_eql, op_lss, op_add_i64, op_sub_u32, op_and_u8, op_xor_u8, op_not_u32, binF_shr_u32, binF_shr_u8, op_mul_i64, op_quo_i64, op_and_u32, binF_shl_u8, wrapF_u8, wrapF_u32, mod_u8, mod_u32, cond_val, Nat.lt_irrefl, Nat.not_lt_zero, if_true, if_false, reduceIte, Nat.reduceEqDiff, Nat.reduceAdd, ne_eq, not_true_eq_false, not_false_eq_true, decide_true, decide_false, Bool.false_eq_true, Bool.not_true, Bool.not_false, sub_nil, sub_seq0, sub_seq1, sub_cond0, sub_cond1, sub_block, sub_loop, sub_scope, sub_range0, sub_range1, Option.getD_some, at_ptr, at_slc, runOps_yes, runOps_no, exec_draw, op_sub_i64, op_sub_neg, op_lss_neg, binF_str, str_add, str_neq, str_eql, takeF, resF, oneOf, pickF, extractF, hYe]
        rfl
      refine W.cond (p := false) ?_ (fun h => by cases h) (fun _ => ?_)
      · simp only [ev_tmp, T.get_set, Nat.reduceEqDiff, if_true, if_false, evG_some]
      apply W.run 20
      · intro m
        simp (disch := first | omega | decide +kernel | (simp only [wantF_guard, wantD_some, dstAt_zero, dstAt_succ, T.get_set, T.get_e, Nat.reduceEqDiff, if_true, if_false, wantV_bool, wantV_unit, unitV, cond_true, cond_false, Bool.not_true, Bool.not_false, List.toList_toArray])) only [Nat.ble, cond_true, cond_false, T.puts_cons, T.puts_nil, exec_seq, exec_block, nat_beq_self, exec_region, exec_cond, exec_skip, exec_ret, exec_exit, exec_scope, runOps_cons, runOps_nil, opF_move, opF_assign, opF_ari, opF_neq, opF_eql, opF_un, opF_index, opF_indexAddr, opF_fieldAddr, opF_field, opF_build, opF_slice, opF_extract, opF_pick, opF_load, opF_alloc, opF_box, opF_buildSlice, opF_makeSlice, opF_store, opF_conv, opF_len, opF_minmax, opF_builtin, opF_call, resK, ev_tmp, evG_some, ev_int, ev_bool, ev_str, evs, evp, evo, R.ok_bind, putT_some, putT_none, T.get_set, T.get_e, binF_int, op_rem, op_quo_u32, op_xor_u32, op_neq, op_eql, op_lss, op_add_i64, op_sub_u32, op_and_u8, op_xor_u8, op_not_u32, binF_shr_u32, binF_shr_u8, op_mul_i64, op_quo_i64, op_and_u32, binF_shl_u8, wrapF_u8, wrapF_u32, mod_u8, mod_u32, cond_val, Nat.lt_irrefl, Nat.not_lt_zero, if_true, if_false, reduceIte, Nat.reduceEqDiff, Nat.reduceAdd, ne_eq, not_true_eq_false, not_false_eq_true, decide_true, decide_false, Bool.false_eq_true, Bool.not_true, Bool.not_false, sub_nil, sub_seq0, sub_seq1, sub_cond0, sub_cond1, sub_block, sub_loop, sub_scope, sub_range0, sub_range1, Option.getD_some, at_ptr, at_slc, runOps_yes, runOps_no, exec_draw, op_sub_i64, op_sub_neg, op_lss_neg, binF_str, str_add, str_neq, str_eql, takeF, resF, oneOf, pickF, extractF]
        rfl
      show W tb8 _ _ _
      apply W.seq
      apply W.run 20
      · intro m
        simp (disch := first | omega | decide +kernel | (simp only [wantF_guard, wantD_some, dstAt_zero, dstAt_succ, T.get_set, T.get_e, Nat.reduceEqDiff, if_true, if_false, wantV_bool, wantV_unit, unitV, cond_true, cond_false, Bool.not_true, Bool.not_false, List.toList_toArray])) only [c4, Try.f4, Nat.ble, cond_true, cond_false, T.puts_cons, T.puts_nil, exec_seq, exec_block, nat_beq_self, exec_region, exec_cond, exec_skip, exec_ret, exec_exit, exec_scope, runOps_cons, runOps_nil, opF_move, opF_assign, opF_ari, opF_neq, opF_eql, opF_un, opF_index, opF_indexAddr, opF_fieldAddr, opF_field, opF_build, opF_slice, opF_extract, opF_pick, opF_load, opF_alloc, opF_box, opF_buildSlice, opF_makeSlice, opF_store, opF_conv, opF_len, opF_minmax, opF_builtin, opF_call, resK, ev_tmp, evG_some, ev_int, ev_bool, ev_str, evs, evp, evo, R.ok_bind, putT_some, putT_none, T.get_set, T.get_e, binF_int, op_rem, op_quo_u32, op_xor_u32, op_neq, op_eql, op_lss, op_add_i64, op_sub_u32, op_and_u8, op_xor_u8, op_not_u32, binF_shr_u32, binF_shr_u8, op_mul_i64, op_quo_i64, op_and_u32, binF_shl_u8, wrapF_u8, wrapF_u32, mod_u8, mod_u32, cond_val, Nat.lt_irrefl, Nat.not_lt_zero, if_true, if_false, reduceIte, Nat.reduceEqDiff, Nat.reduceAdd, ne_eq, not_true_eq_false, not_false_eq_true, decide_true, decide_false, Bool.false_eq_true, Bool.not_true, Bool.not_false, sub_nil, sub_seq0, sub_seq1, sub_cond0, sub_cond1, sub_block, sub_loop, sub_scope, sub_range0, sub_range1, Option.getD_some, at_ptr, at_slc, runOps_yes, runOps_no, exec_draw, op_sub_i64, op_sub_neg, op_lss_neg, binF_str, str_add, str_neq, str_eql, takeF, resF, oneOf, pickF, extractF, hop1]
        rfl
      apply W.run 20
      · intro m
        simp (disch := first | omega | decide +kernel | (simp only [wantF_guard, wantD_some, dstAt_zero, dstAt_succ, T.get_set, T.get_e, Nat.reduceEqDiff, if_true, if_false, wantV_bool, wantV_unit, unitV, cond_true, cond_false, Bool.not_true, Bool.not_false, List.toList_toArray])) only [c4, Try.f4, Nat.ble, cond_true, cond_false, T.puts_cons, T.puts_nil, exec_seq, exec_block, nat_beq_self, exec_region, exec_cond, exec_skip, exec_ret, exec_exit, exec_scope, runOps_cons, runOps_nil, opF_move, opF_assign, opF_ari, opF_neq, opF_eql, opF_un, opF_index, opF_indexAddr, opF_fieldAddr, opF_field, opF_build, opF_slice, opF_extract, opF_pick, opF_load, opF_alloc, opF_box, opF_buildSlice, opF_makeSlice, opF_store, opF_conv, opF_len, opF_minmax, opF_builtin, opF_call, resK, ev_tmp, evG_some, ev_int, ev_bool, ev_str, evs, evp, evo, R.ok_bind, putT_some, putT_none, T.get_set, T.get_e, binF_int, op_rem, op_quo_u32, op_xor_u32, op_neq, op_eql, op_lss, op_add_i64, op_sub_u32, op_and_u8, op_xor_u8, op_not_u32, binF_shr_u32, binF_shr_u8, op_mul_i64, op_quo_i64, op_and_u32, binF_shl_u8, wrapF_u8, wrapF_u32, mod_u8, mod_u32, cond_val, Nat.lt_irrefl, Nat.not_lt_zero, if_true, if_false, reduceIte, Nat.reduceEqDiff, Nat.reduceAdd, ne_eq, not_true_eq_false, not_false_eq_true, decide_true, decide_false, Bool.false_eq_true, Bool.not_true, Bool.not_false, sub_nil, sub_seq0, sub_seq1, sub_cond0, sub_cond1, sub_block, sub_loop, sub_scope, sub_range0, sub_range1, Option.getD_some, at_ptr, at_slc, runOps_yes, runOps_no, exec_draw, op_sub_i64, op_sub_neg, op_lss_neg, binF_str, str_add, str_neq, str_eql, takeF, resF, oneOf, pickF, extractF]
        rfl
      refine ⟨.inr rfl, mem0, [.bool true], rfl, ?_, rfl⟩
      simp only [Try.f4, resF, ev_tmp, T.get_set, Nat.reduceEqDiff, if_true, if_false, evG_some, R.ok_bind]
  subst h2
  exact ⟨A', h1⟩

end Go.Proofs.Ytjgmjbbchonmlaa.crc

namespace Go.Proofs.Ytjgmjbbchonmlaa.crcBursts
open Go.ChangeShapes Go.WideShapes Go.ChangeAt Go.RowKit Go.Am
open Go.ChangeMaps (open_string shut_string)
set_option linter.unusedVariables false      -- a walk need not use every 'w<i>' (that an integer argument fits its kind)

theorem own : ownKnob Try.prog.godebug = none := by kernel_rfl

/-! ### The run -/
theorem walk (a0 : ByteArray) (a1 : Int) (a2 : Int) (w0 : a0.size ≤ maxLen) (w1 : (Lit.int .u16 a1).wf = true) (w2 : (Lit.int .u32 a2).wf = true) (w : World) :
    Calls Try.prog 4 #[.string a0, .int .u16 a1, .int .u32 a2] w fun e w' => e = .returned (.bool true) ∧ Go.Am.Leaves w w' := by
  obtain ⟨h0, h1⟩ := bounds_u16 w1
  obtain ⟨c, rfl⟩ : ∃ c : Nat, a1 = c := ⟨a1.toNat, by omega⟩
  obtain ⟨h2, h3⟩ := bounds_u32 w2
  obtain ⟨p, rfl⟩ : ∃ p : Nat, a2 = p := ⟨a2.toNat, by omega⟩
  exact crc.walk_of8 Try.func4 crc.c4_eq (crc.run_bursts a0.data.toList c p (by omega) (by omega)) _ (.cons (.string _) (.cons (.int _ _) (.cons (.int _ _) .nil))) w

/-! ### THE ROW's STEP: WRITTEN OUT: LEAVE IT -/
set_option maxRecDepth 100000 in
theorem lifted (os : Os) (started : os.Started) (H : Type) (enc : TypeId × Value → H) :
    ReturnsInHanded {} Try.checked os 4 .any (Rows.crcBurstsSpec.pre6 enc Try.prog Try.f4 Rows.crcBurstsRow.domain false) (Rows.crcBurstsSpec.post enc Try.prog Try.f4 false true false false) := by
  refine returnsInHanded_of_change (C := Try.checked) own started (by kernel_rfl) Try.func4
    (ChangeSpec.witness6 (enc := enc) (C := Try.checked) false ⟨#[], #[.string ByteArray.empty, .int .u16 0, .int .u32 0], []⟩ 8 (by kernel_rfl) (by kernel_rfl) (by kernel_rfl) (by kernel_rfl)) ?_
  intro W base args ds gs before hval0 hW hcnd _
  have hval : ∀ (j : Nat) t v, Try.f4.params[j]? = some t → args[j]? = some v → Value.okWide Try.prog W .any base t v := hval0
  have hW' := hW
  obtain ⟨p, q, hA0, hV, rfl, hfz, hnd⟩ := hW
  have hA : DataW.TrodAll enc Try.prog W 0 (fun _ => true) true Try.f4.params.toList args.toList ds p := hA0
  rw [Try.params4] at hA hval
  obtain ⟨v0, vs0, d0, ds0, p0, q0, hargs, rfl, rfl, h0, r0⟩ := trodAll_cons hA
  obtain ⟨v1, vs1, d1, ds1, p1, q1, rfl, rfl, rfl, h1, r1⟩ := trodAll_cons r0
  obtain ⟨v2, vs2, d2, ds2, p2, q2, rfl, rfl, rfl, h2, r2⟩ := trodAll_cons r1
  obtain ⟨rfl, rfl, rfl⟩ := trodAll_nil r2
  obtain rfl : args = #[v0, v1, v2] := by cases args; simp_all
  obtain ⟨rfl, rfl⟩ := trodVars_none hV
  obtain ⟨a0, rfl, rfl, rfl, w0⟩ := open_string Try.underlying9 (hval 0 9 v0 rfl rfl) h0
  obtain ⟨a1, rfl, rfl, rfl, w1⟩ := open_int Try.underlying22 (hval 1 22 v1 rfl rfl) h1
  obtain ⟨a2, rfl, rfl, rfl, w2⟩ := open_int Try.underlying26 (hval 2 26 v2 rfl rfl) h2
  clear hA0 hval0
  simp only [List.append_nil] at hW'
  refine (walk a0 a1 a2 w0 w1 w2 W).mono fun e W' ⟨he, hg⟩ => ?_
  subst he
  exact ⟨_, rfl, postLaw (pa := []) (pv := []) hg hW' rfl (fun _ _ _ => (trodAll_cons_mk (shut_bool Try.underlying4 _) trodAll_mk0)) (fun sp _ => (trodAll_cons_mk (shut_string Try.underlying9 w0) (trodAll_cons_mk (shut_int Try.underlying22 w1) (trodAll_cons_mk (shut_int Try.underlying26 w2) trodAll_mk0)))) (fun _ _ => rfl)
    (ok_one (by kernel_rfl) rfl (okWide_bool_mk Try.underlying4 _))⟩

theorem over : Rows.crcBurstsRow.holds Try.pinned (OpenSpec.ofChange Rows.crcBurstsSpec) :=
  OpenClaim.holds_of_wide 4 Try.f4 rfl rfl rfl rfl rfl rfl rfl ⟨rfl, rfl, rfl, rfl, rfl⟩ rfl rfl rfl rfl rfl (by kernel_rfl) Try.func4 (by kernel_rfl)
    (of_decide_eq_true (by kernel_rfl)) (by unfold Func.isWrapper; first | (rw [if_pos (by decide +kernel)]; kernel_rfl) | (rw [if_neg (by decide +kernel)]; exact ⟨rfl, rfl⟩))
    (fun os started H enc _ => lifted os started H enc)

/-- ████ THE STATEMENT ████ -/
theorem proved : Rows.CrcBurstsSaid :=
  over
#print axioms proved
end Go.Proofs.Ytjgmjbbchonmlaa.crcBursts
