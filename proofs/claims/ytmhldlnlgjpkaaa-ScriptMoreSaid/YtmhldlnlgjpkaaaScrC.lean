/-
  What the functions of this group compute on the abstract machine, and the plain laws of it. Part C: conditions stand in each theorem.
-/
import Derived.Test.YtmhldlnlgjpkaaaScrB

/-
  Script: whether two settings are alike.
-/
namespace Go.Proofs.Ytmhldlnlgjpkaaa.scr
open Go.Am
set_option linter.unusedSimpArgs false

/-- Memory that only grew. -/
structure Ext (A A' : Mem) : Prop where
  n : A.next ≤ A'.next
  g : ∀ y, y < A.next → A'.get y = A.get y
theorem Ext.refl (A : Mem) : Ext A A := ⟨Nat.le_refl _, fun _ _ => rfl⟩
theorem Ext.trans {A B C : Mem} (h : Ext A B) (h' : Ext B C) : Ext A C := ⟨Nat.le_trans h.n h'.n, fun y hy => (h'.g y (Nat.lt_of_lt_of_le hy h.n)).trans (h.g y hy)⟩
theorem Ext.alloc (A : Mem) (o : Ob) : Ext A (A.alloc o) := ⟨by rw [next_alloc]; omega, fun y hy => get_alloc_ne (by omega)⟩
theorem Ext.put {A B C : Mem} {b : Nat} (h : Ext A B) (hb : A.next ≤ b) (hn : C.next = B.next) (hg : ∀ y, y ≠ b → C.get y = B.get y) : Ext A C := ⟨by rw [hn]; exact h.n, fun y hy => by rw [hg y (by omega), h.g y hy]⟩
theorem StR.ext {P : Nat → Prop} {A A' : Mem} {l : List Nat} {x : Value} (h : StR P A l x) (e : Ext A A') : StR P A' l x := h.same e.n (fun b hp hb => ⟨hp, e.g b hb⟩)
theorem StR.at {P : Nat → Prop} {A : Mem} {l : List Nat} {x : Value} (h : StR P A l x) {i : Nat} (hi : i < l.length) :
    ∃ p, indexAddrF tb1 36 x (.int .i64 (i : Int)) = .ok (.pointer (some p)) ∧ loadF tb1 A.get 43 (.pointer (some p)) = .ok (.int .u16 ((l.getD i 0 : Nat) : Int)) := by
  rcases h with ⟨-, rfl⟩ | ⟨b, -, -, h⟩
  · simp at hi
  · refine ⟨_, h.idx und36 size43 (by rw [shorts_len]; exact hi), h.load und43 rfl ?_⟩
    simp [shorts, List.getD, List.getElem?_eq_getElem hi]

noncomputable def c24 : Code := Try.f24.body.getD .skip
noncomputable def c24b1 : Code := sub c24 [1,1,0,1,0,0]
theorem c24_eq : Try.f24.body = some (.seq (sub c24 [0]) (.seq (sub c24 [1,0]) (.seq (.seq (sub c24 [1,1,0,0]) (.block 0 (.loop c24b1))) (.seq (sub c24 [1,1,1,0]) (sub c24 [1,1,1,1]))))) := by kernel_rfl
theorem run_eqs {P P' : Nat → Prop} {A : Mem} {l m : List Nat} {x y : Value} (hbd : l.length ≤ 1000) (hx : StR P A l x) (hy : StR P' A m y) : Ans tb1 24 [x, y] A (.bool (decide (l = m))) A := by
  obtain ⟨v, A', ha, rfl, rfl⟩ : ∃ v A', Ans tb1 24 [x, y] A v A' ∧ v = .bool (decide (l = m)) ∧ A' = A := by
    refine ans_of_W (fn_at Try.func24) c24_eq (by rw [Try.ntmps24]; simp) (by kernel_rfl) (by kernel_rfl) ?_
    have lx := hx.len
    have ly := hy.len
    apply W.seq
    apply W.run 20
    · intro M
      simp (config := { maxSteps := 4000000 }) (disch := first | decide +kernel | (rw [wantF_guard]; simp only [wantD_some, dstAt_zero, dstAt_succ, T.get_set, T.get_e, Nat.reduceEqDiff, if_true, if_false, wantV_bool, wantV_unit, unitV, cond_true, cond_false, Bool.not_true, Bool.not_false, List.toList_toArray]) | omega) only [c24, Try.f24, Nat.ble, cond_true, cond_false, T.puts_cons, T.puts_nil, exec_seq, exec_block, nat_beq_self, exec_region, exec_cond, exec_skip, exec_ret, exec_exit, exec_scope, runOps_cons, runOps_nil, opF_move, opF_assign, opF_ari, opF_neq, opF_eql, opF_un, opF_index, opF_indexAddr, opF_fieldAddr, opF_field, opF_build, opF_slice, opF_extract, opF_pick, opF_load, opF_alloc, opF_box, opF_buildSlice, opF_makeSlice, opF_store, opF_conv, opF_len, opF_minmax, opF_builtin, opF_call, resK, ev_tmp, evG_some, ev_int, ev_bool, ev_str, evs, evp, evo, R.ok_bind, putT_some, putT_none, T.get_set, T.get_e, binF_int, op_rem, op_quo_u32, op_xor_u32, op_neq, op_eql, op_lss, op_add_i64, op_sub_u32, op_and_u8, op_xor_u8, op_not_u32, binF_shr_u32, binF_shr_u8, op_mul_i64, op_quo_i64, op_and_u32, binF_shl_u8, wrapF_u8, wrapF_u32, mod_u8, mod_u32, cond_val, Nat.lt_irrefl, Nat.not_lt_zero, if_true, if_false, reduceIte, Nat.reduceEqDiff, Nat.reduceAdd, ne_eq, not_true_eq_false, not_false_eq_true, decide_true, decide_false, Bool.false_eq_true, Bool.not_true, Bool.not_false, sub_nil, sub_seq0, sub_seq1, sub_cond0, sub_cond1, sub_block, sub_loop, sub_scope, sub_range0, sub_range1, Option.getD_some, at_ptr, at_slc, runOps_yes, runOps_no, exec_draw, op_sub_i64, op_sub_neg, op_lss_neg, binF_str, str_add, str_neq, str_eql, takeF, resF, oneOf, pickF, extractF, cells_str, cells_int, cells_agg, bool_eql, bool_neq, op_lssI, bne_self_eq_false, beq_self_eq_true, eq_self, cells_slc, cells_func, builtin_append, ev_nilslice, ev_nilfunc, ev_nilptr, ev_nilmap, opF_makeFunc, opF_callv, callV_func, callV_yield, op_leq, op_gtr, op_geq, cast_le, cast_lt, List.nil_append, List.cons_append, List.append_nil, un_not]
      with_reducible rfl
    apply W.seq
    by_cases hl : l.length = m.length
    · apply W.run 20
      · intro M
        simp (config := { maxSteps := 4000000 }) (disch := first | decide +kernel | (rw [wantF_guard]; simp only [wantD_some, dstAt_zero, dstAt_succ, T.get_set, T.get_e, Nat.reduceEqDiff, if_true, if_false, wantV_bool, wantV_unit, unitV, cond_true, cond_false, Bool.not_true, Bool.not_false, List.toList_toArray]) | omega) only [c24, Try.f24, Nat.ble, cond_true, cond_false, T.puts_cons, T.puts_nil, exec_seq, exec_block, nat_beq_self, exec_region, exec_cond, exec_skip, exec_ret, exec_exit, exec_scope, runOps_cons, runOps_nil, opF_move, opF_assign, opF_ari, opF_neq, opF_eql, opF_un, opF_index, opF_indexAddr, opF_fieldAddr, opF_field, opF_build, opF_slice, opF_extract, opF_pick, opF_load, opF_alloc, opF_box, opF_buildSlice, opF_makeSlice, opF_store, opF_conv, opF_len, opF_minmax, opF_builtin, opF_call, resK, ev_tmp, evG_some, ev_int, ev_bool, ev_str, evs, evp, evo, R.ok_bind, putT_some, putT_none, T.get_set, T.get_e, binF_int, op_rem, op_quo_u32, op_xor_u32, op_neq, op_eql, op_lss, op_add_i64, op_sub_u32, op_and_u8, op_xor_u8, op_not_u32, binF_shr_u32, binF_shr_u8, op_mul_i64, op_quo_i64, op_and_u32, binF_shl_u8, wrapF_u8, wrapF_u32, mod_u8, mod_u32, cond_val, Nat.lt_irrefl, Nat.not_lt_zero, if_true, if_false, reduceIte, Nat.reduceEqDiff, Nat.reduceAdd, ne_eq, not_true_eq_false, not_false_eq_true, decide_true, decide_false, Bool.false_eq_true, Bool.not_true, Bool.not_false, sub_nil, sub_seq0, sub_seq1, sub_cond0, sub_cond1, sub_block, sub_loop, sub_scope, sub_range0, sub_range1, Option.getD_some, at_ptr, at_slc, runOps_yes, runOps_no, exec_draw, op_sub_i64, op_sub_neg, op_lss_neg, binF_str, str_add, str_neq, str_eql, takeF, resF, oneOf, pickF, extractF, cells_str, cells_int, cells_agg, bool_eql, bool_neq, op_lssI, bne_self_eq_false, beq_self_eq_true, eq_self, cells_slc, cells_func, builtin_append, ev_nilslice, ev_nilfunc, ev_nilptr, ev_nilmap, opF_makeFunc, opF_callv, callV_func, callV_yield, op_leq, op_gtr, op_geq, cast_le, cast_lt, List.nil_append, List.cons_append, List.append_nil, un_not, lx, ly, op_neqI, hl]
        with_reducible rfl
      apply W.seq
      apply W.seq
      apply W.run 20
      · intro M
        simp (config := { maxSteps := 4000000 }) (disch := first | decide +kernel | (rw [wantF_guard]; simp only [wantD_some, dstAt_zero, dstAt_succ, T.get_set, T.get_e, Nat.reduceEqDiff, if_true, if_false, wantV_bool, wantV_unit, unitV, cond_true, cond_false, Bool.not_true, Bool.not_false, List.toList_toArray]) | omega) only [c24, Try.f24, Nat.ble, cond_true, cond_false, T.puts_cons, T.puts_nil, exec_seq, exec_block, nat_beq_self, exec_region, exec_cond, exec_skip, exec_ret, exec_exit, exec_scope, runOps_cons, runOps_nil, opF_move, opF_assign, opF_ari, opF_neq, opF_eql, opF_un, opF_index, opF_indexAddr, opF_fieldAddr, opF_field, opF_build, opF_slice, opF_extract, opF_pick, opF_load, opF_alloc, opF_box, opF_buildSlice, opF_makeSlice, opF_store, opF_conv, opF_len, opF_minmax, opF_builtin, opF_call, resK, ev_tmp, evG_some, ev_int, ev_bool, ev_str, evs, evp, evo, R.ok_bind, putT_some, putT_none, T.get_set, T.get_e, binF_int, op_rem, op_quo_u32, op_xor_u32, op_neq, op_eql, op_lss, op_add_i64, op_sub_u32, op_and_u8, op_xor_u8, op_not_u32, binF_shr_u32, binF_shr_u8, op_mul_i64, op_quo_i64, op_and_u32, binF_shl_u8, wrapF_u8, wrapF_u32, mod_u8, mod_u32, cond_val, Nat.lt_irrefl, Nat.not_lt_zero, if_true, if_false, reduceIte, Nat.reduceEqDiff, Nat.reduceAdd, ne_eq, not_true_eq_false, not_false_eq_true, decide_true, decide_false, Bool.false_eq_true, Bool.not_true, Bool.not_false, sub_nil, sub_seq0, sub_seq1, sub_cond0, sub_cond1, sub_block, sub_loop, sub_scope, sub_range0, sub_range1, Option.getD_some, at_ptr, at_slc, runOps_yes, runOps_no, exec_draw, op_sub_i64, op_sub_neg, op_lss_neg, binF_str, str_add, str_neq, str_eql, takeF, resF, oneOf, pickF, extractF, cells_str, cells_int, cells_agg, bool_eql, bool_neq, op_lssI, bne_self_eq_false, beq_self_eq_true, eq_self, cells_slc, cells_func, builtin_append, ev_nilslice, ev_nilfunc, ev_nilptr, ev_nilmap, opF_makeFunc, opF_callv, callV_func, callV_yield, op_leq, op_gtr, op_geq, cast_le, cast_lt, List.nil_append, List.cons_append, List.append_nil, un_not, lx]
        with_reducible rfl
      apply W.block
      refine W.up l.length (fun i t C => C = A ∧ l.take i = m.take i ∧ Sl t [(0, x), (1, y), (12, .int .i64 ((l.length : Nat) : Int)), (13, .int .i64 (i : Int))]) ?_ (Nat.zero_le _) ⟨rfl, by simp, ?_⟩
      · rintro i t C hi ⟨rfl, he, g0, g1, g12, g13, -⟩
        by_cases hlt : i < l.length
        · obtain ⟨p, hp, hpl⟩ := hx.at hlt
          obtain ⟨p', hp', hpl'⟩ := hy.at (show i < m.length by omega)
          have e1 : l.getD i 0 = l[i] := by simp [List.getD, List.getElem?_eq_getElem hlt]
          have e2 : m.getD i 0 = m[i] := by simp [List.getD, List.getElem?_eq_getElem (show i < m.length by omega)]
          rw [e1] at hpl
          rw [e2] at hpl'
          by_cases hv : l[i] = m[i]
          · rw [hv] at hpl
            apply W.run 20
            · intro M
              simp (config := { maxSteps := 4000000 }) (disch := first | decide +kernel | (rw [wantF_guard]; simp only [wantD_some, dstAt_zero, dstAt_succ, T.get_set, T.get_e, Nat.reduceEqDiff, if_true, if_false, wantV_bool, wantV_unit, unitV, cond_true, cond_false, Bool.not_true, Bool.not_false, List.toList_toArray]) | omega) only [c24b1, c24, Try.f24, Nat.ble, cond_true, cond_false, T.puts_cons, T.puts_nil, exec_seq, exec_block, nat_beq_self, exec_region, exec_cond, exec_skip, exec_ret, exec_exit, exec_scope, runOps_cons, runOps_nil, opF_move, opF_assign, opF_ari, opF_neq, opF_eql, opF_un, opF_index, opF_indexAddr, opF_fieldAddr, opF_field, opF_build, opF_slice, opF_extract, opF_pick, opF_load, opF_alloc, opF_box, opF_buildSlice, opF_makeSlice, opF_store, opF_conv, opF_len, opF_minmax, opF_builtin, opF_call, resK, ev_tmp, evG_some, ev_int, ev_bool, ev_str, evs, evp, evo, R.ok_bind, putT_some, putT_none, T.get_set, T.get_e, binF_int, op_rem, op_quo_u32, op_xor_u32, op_neq, op_eql, op_lss, op_add_i64, op_sub_u32, op_and_u8, op_xor_u8, op_not_u32, binF_shr_u32, binF_shr_u8, op_mul_i64, op_quo_i64, op_and_u32, binF_shl_u8, wrapF_u8, wrapF_u32, mod_u8, mod_u32, cond_val, Nat.lt_irrefl, Nat.not_lt_zero, if_true, if_false, reduceIte, Nat.reduceEqDiff, Nat.reduceAdd, ne_eq, not_true_eq_false, not_false_eq_true, decide_true, decide_false, Bool.false_eq_true, Bool.not_true, Bool.not_false, sub_nil, sub_seq0, sub_seq1, sub_cond0, sub_cond1, sub_block, sub_loop, sub_scope, sub_range0, sub_range1, Option.getD_some, at_ptr, at_slc, runOps_yes, runOps_no, exec_draw, op_sub_i64, op_sub_neg, op_lss_neg, binF_str, str_add, str_neq, str_eql, takeF, resF, oneOf, pickF, extractF, cells_str, cells_int, cells_agg, bool_eql, bool_neq, op_lssI, bne_self_eq_false, beq_self_eq_true, eq_self, cells_slc, cells_func, builtin_append, ev_nilslice, ev_nilfunc, ev_nilptr, ev_nilmap, opF_makeFunc, opF_callv, callV_func, callV_yield, op_leq, op_gtr, op_geq, cast_le, cast_lt, List.nil_append, List.cons_append, List.append_nil, un_not, g0, g1, g12, g13, hlt, hp, hp', hpl, hpl']
              with_reducible rfl
            refine ⟨hlt, _, _, rfl, rfl, ?_, ?_⟩
            · rw [List.take_succ_eq_append_getElem hlt, List.take_succ_eq_append_getElem (show i < m.length by omega), he, hv]
            · simp only [Sl_cons, Sl_nil, T.get_set, T.puts_cons, T.puts_nil, Nat.reduceEqDiff, Nat.reduceAdd, if_true, if_false, and_true, true_and, g0, g1, g12]
          · apply W.run 20
            · intro M
              simp (config := { maxSteps := 4000000 }) (disch := first | decide +kernel | (rw [wantF_guard]; simp only [wantD_some, dstAt_zero, dstAt_succ, T.get_set, T.get_e, Nat.reduceEqDiff, if_true, if_false, wantV_bool, wantV_unit, unitV, cond_true, cond_false, Bool.not_true, Bool.not_false, List.toList_toArray]) | omega) only [c24b1, c24, Try.f24, Nat.ble, cond_true, cond_false, T.puts_cons, T.puts_nil, exec_seq, exec_block, nat_beq_self, exec_region, exec_cond, exec_skip, exec_ret, exec_exit, exec_scope, runOps_cons, runOps_nil, opF_move, opF_assign, opF_ari, opF_neq, opF_eql, opF_un, opF_index, opF_indexAddr, opF_fieldAddr, opF_field, opF_build, opF_slice, opF_extract, opF_pick, opF_load, opF_alloc, opF_box, opF_buildSlice, opF_makeSlice, opF_store, opF_conv, opF_len, opF_minmax, opF_builtin, opF_call, resK, ev_tmp, evG_some, ev_int, ev_bool, ev_str, evs, evp, evo, R.ok_bind, putT_some, putT_none, T.get_set, T.get_e, binF_int, op_rem, op_quo_u32, op_xor_u32, op_neq, op_eql, op_lss, op_add_i64, op_sub_u32, op_and_u8, op_xor_u8, op_not_u32, binF_shr_u32, binF_shr_u8, op_mul_i64, op_quo_i64, op_and_u32, binF_shl_u8, wrapF_u8, wrapF_u32, mod_u8, mod_u32, cond_val, Nat.lt_irrefl, Nat.not_lt_zero, if_true, if_false, reduceIte, Nat.reduceEqDiff, Nat.reduceAdd, ne_eq, not_true_eq_false, not_false_eq_true, decide_true, decide_false, Bool.false_eq_true, Bool.not_true, Bool.not_false, sub_nil, sub_seq0, sub_seq1, sub_cond0, sub_cond1, sub_block, sub_loop, sub_scope, sub_range0, sub_range1, Option.getD_some, at_ptr, at_slc, runOps_yes, runOps_no, exec_draw, op_sub_i64, op_sub_neg, op_lss_neg, binF_str, str_add, str_neq, str_eql, takeF, resF, oneOf, pickF, extractF, cells_str, cells_int, cells_agg, bool_eql, bool_neq, op_lssI, bne_self_eq_false, beq_self_eq_true, eq_self, cells_slc, cells_func, builtin_append, ev_nilslice, ev_nilfunc, ev_nilptr, ev_nilmap, opF_makeFunc, opF_callv, callV_func, callV_yield, op_leq, op_gtr, op_geq, cast_le, cast_lt, List.nil_append, List.cons_append, List.append_nil, un_not, g0, g1, g12, g13, hlt, hp, hp', hpl, hpl', hv]
              with_reducible rfl
            refine ⟨.inr rfl, _, [.bool false], rfl, ?_, ?_, rfl⟩
            · simp only [Try.f24, resF, ev_tmp, T.get_set, Nat.reduceEqDiff, if_true, if_false, evG_some, R.ok_bind]
            · have : l ≠ m := fun h => hv (by subst h; rfl)
              show Value.bool false = _
              rw [decide_eq_false this]
        · have hin : i = l.length := by omega
          subst hin
          apply W.run 20
          · intro M
            simp (config := { maxSteps := 4000000 }) (disch := first | decide +kernel | (rw [wantF_guard]; simp only [wantD_some, dstAt_zero, dstAt_succ, T.get_set, T.get_e, Nat.reduceEqDiff, if_true, if_false, wantV_bool, wantV_unit, unitV, cond_true, cond_false, Bool.not_true, Bool.not_false, List.toList_toArray]) | omega) only [c24b1, c24, Try.f24, Nat.ble, cond_true, cond_false, T.puts_cons, T.puts_nil, exec_seq, exec_block, nat_beq_self, exec_region, exec_cond, exec_skip, exec_ret, exec_exit, exec_scope, runOps_cons, runOps_nil, opF_move, opF_assign, opF_ari, opF_neq, opF_eql, opF_un, opF_index, opF_indexAddr, opF_fieldAddr, opF_field, opF_build, opF_slice, opF_extract, opF_pick, opF_load, opF_alloc, opF_box, opF_buildSlice, opF_makeSlice, opF_store, opF_conv, opF_len, opF_minmax, opF_builtin, opF_call, resK, ev_tmp, evG_some, ev_int, ev_bool, ev_str, evs, evp, evo, R.ok_bind, putT_some, putT_none, T.get_set, T.get_e, binF_int, op_rem, op_quo_u32, op_xor_u32, op_neq, op_eql, op_lss, op_add_i64, op_sub_u32, op_and_u8, op_xor_u8, op_not_u32, binF_shr_u32, binF_shr_u8, op_mul_i64, op_quo_i64, op_and_u32, binF_shl_u8, wrapF_u8, wrapF_u32, mod_u8, mod_u32, cond_val, Nat.lt_irrefl, Nat.not_lt_zero, if_true, if_false, reduceIte, Nat.reduceEqDiff, Nat.reduceAdd, ne_eq, not_true_eq_false, not_false_eq_true, decide_true, decide_false, Bool.false_eq_true, Bool.not_true, Bool.not_false, sub_nil, sub_seq0, sub_seq1, sub_cond0, sub_cond1, sub_block, sub_loop, sub_scope, sub_range0, sub_range1, Option.getD_some, at_ptr, at_slc, runOps_yes, runOps_no, exec_draw, op_sub_i64, op_sub_neg, op_lss_neg, binF_str, str_add, str_neq, str_eql, takeF, resF, oneOf, pickF, extractF, cells_str, cells_int, cells_agg, bool_eql, bool_neq, op_lssI, bne_self_eq_false, beq_self_eq_true, eq_self, cells_slc, cells_func, builtin_append, ev_nilslice, ev_nilfunc, ev_nilptr, ev_nilmap, opF_makeFunc, opF_callv, callV_func, callV_yield, op_leq, op_gtr, op_geq, cast_le, cast_lt, List.nil_append, List.cons_append, List.append_nil, un_not, g12, g13]
            with_reducible rfl
          show W tb1 _ _ _
          apply W.seq
          apply W.run 20
          · intro M
            simp (config := { maxSteps := 4000000 }) (disch := first | decide +kernel | (rw [wantF_guard]; simp only [wantD_some, dstAt_zero, dstAt_succ, T.get_set, T.get_e, Nat.reduceEqDiff, if_true, if_false, wantV_bool, wantV_unit, unitV, cond_true, cond_false, Bool.not_true, Bool.not_false, List.toList_toArray]) | omega) only [c24, Try.f24, Nat.ble, cond_true, cond_false, T.puts_cons, T.puts_nil, exec_seq, exec_block, nat_beq_self, exec_region, exec_cond, exec_skip, exec_ret, exec_exit, exec_scope, runOps_cons, runOps_nil, opF_move, opF_assign, opF_ari, opF_neq, opF_eql, opF_un, opF_index, opF_indexAddr, opF_fieldAddr, opF_field, opF_build, opF_slice, opF_extract, opF_pick, opF_load, opF_alloc, opF_box, opF_buildSlice, opF_makeSlice, opF_store, opF_conv, opF_len, opF_minmax, opF_builtin, opF_call, resK, ev_tmp, evG_some, ev_int, ev_bool, ev_str, evs, evp, evo, R.ok_bind, putT_some, putT_none, T.get_set, T.get_e, binF_int, op_rem, op_quo_u32, op_xor_u32, op_neq, op_eql, op_lss, op_add_i64, op_sub_u32, op_and_u8, op_xor_u8, op_not_u32, binF_shr_u32, binF_shr_u8, op_mul_i64, op_quo_i64, op_and_u32, binF_shl_u8, wrapF_u8, wrapF_u32, mod_u8, mod_u32, cond_val, Nat.lt_irrefl, Nat.not_lt_zero, if_true, if_false, reduceIte, Nat.reduceEqDiff, Nat.reduceAdd, ne_eq, not_true_eq_false, not_false_eq_true, decide_true, decide_false, Bool.false_eq_true, Bool.not_true, Bool.not_false, sub_nil, sub_seq0, sub_seq1, sub_cond0, sub_cond1, sub_block, sub_loop, sub_scope, sub_range0, sub_range1, Option.getD_some, at_ptr, at_slc, runOps_yes, runOps_no, exec_draw, op_sub_i64, op_sub_neg, op_lss_neg, binF_str, str_add, str_neq, str_eql, takeF, resF, oneOf, pickF, extractF, cells_str, cells_int, cells_agg, bool_eql, bool_neq, op_lssI, bne_self_eq_false, beq_self_eq_true, eq_self, cells_slc, cells_func, builtin_append, ev_nilslice, ev_nilfunc, ev_nilptr, ev_nilmap, opF_makeFunc, opF_callv, callV_func, callV_yield, op_leq, op_gtr, op_geq, cast_le, cast_lt, List.nil_append, List.cons_append, List.append_nil, un_not]
            with_reducible rfl
          apply W.run 20
          · intro M
            simp (config := { maxSteps := 4000000 }) (disch := first | decide +kernel | (rw [wantF_guard]; simp only [wantD_some, dstAt_zero, dstAt_succ, T.get_set, T.get_e, Nat.reduceEqDiff, if_true, if_false, wantV_bool, wantV_unit, unitV, cond_true, cond_false, Bool.not_true, Bool.not_false, List.toList_toArray]) | omega) only [c24, Try.f24, Nat.ble, cond_true, cond_false, T.puts_cons, T.puts_nil, exec_seq, exec_block, nat_beq_self, exec_region, exec_cond, exec_skip, exec_ret, exec_exit, exec_scope, runOps_cons, runOps_nil, opF_move, opF_assign, opF_ari, opF_neq, opF_eql, opF_un, opF_index, opF_indexAddr, opF_fieldAddr, opF_field, opF_build, opF_slice, opF_extract, opF_pick, opF_load, opF_alloc, opF_box, opF_buildSlice, opF_makeSlice, opF_store, opF_conv, opF_len, opF_minmax, opF_builtin, opF_call, resK, ev_tmp, evG_some, ev_int, ev_bool, ev_str, evs, evp, evo, R.ok_bind, putT_some, putT_none, T.get_set, T.get_e, binF_int, op_rem, op_quo_u32, op_xor_u32, op_neq, op_eql, op_lss, op_add_i64, op_sub_u32, op_and_u8, op_xor_u8, op_not_u32, binF_shr_u32, binF_shr_u8, op_mul_i64, op_quo_i64, op_and_u32, binF_shl_u8, wrapF_u8, wrapF_u32, mod_u8, mod_u32, cond_val, Nat.lt_irrefl, Nat.not_lt_zero, if_true, if_false, reduceIte, Nat.reduceEqDiff, Nat.reduceAdd, ne_eq, not_true_eq_false, not_false_eq_true, decide_true, decide_false, Bool.false_eq_true, Bool.not_true, Bool.not_false, sub_nil, sub_seq0, sub_seq1, sub_cond0, sub_cond1, sub_block, sub_loop, sub_scope, sub_range0, sub_range1, Option.getD_some, at_ptr, at_slc, runOps_yes, runOps_no, exec_draw, op_sub_i64, op_sub_neg, op_lss_neg, binF_str, str_add, str_neq, str_eql, takeF, resF, oneOf, pickF, extractF, cells_str, cells_int, cells_agg, bool_eql, bool_neq, op_lssI, bne_self_eq_false, beq_self_eq_true, eq_self, cells_slc, cells_func, builtin_append, ev_nilslice, ev_nilfunc, ev_nilptr, ev_nilmap, opF_makeFunc, opF_callv, callV_func, callV_yield, op_leq, op_gtr, op_geq, cast_le, cast_lt, List.nil_append, List.cons_append, List.append_nil, un_not]
            with_reducible rfl
          refine ⟨.inr rfl, _, [.bool true], rfl, ?_, ?_, rfl⟩
          · simp only [Try.f24, resF, ev_tmp, T.get_set, Nat.reduceEqDiff, if_true, if_false, evG_some, R.ok_bind]
          · rw [List.take_length, hl, List.take_length] at he
            show Value.bool true = _
            rw [decide_eq_true he]
      · simp only [Sl_cons, Sl_nil, T.get_set, T.puts_cons, T.puts_nil, Nat.reduceEqDiff, Nat.reduceAdd, if_true, if_false, and_true, true_and]
    · apply W.run 20
      · intro M
        simp (config := { maxSteps := 4000000 }) (disch := first | decide +kernel | (rw [wantF_guard]; simp only [wantD_some, dstAt_zero, dstAt_succ, T.get_set, T.get_e, Nat.reduceEqDiff, if_true, if_false, wantV_bool, wantV_unit, unitV, cond_true, cond_false, Bool.not_true, Bool.not_false, List.toList_toArray]) | omega) only [c24, Try.f24, Nat.ble, cond_true, cond_false, T.puts_cons, T.puts_nil, exec_seq, exec_block, nat_beq_self, exec_region, exec_cond, exec_skip, exec_ret, exec_exit, exec_scope, runOps_cons, runOps_nil, opF_move, opF_assign, opF_ari, opF_neq, opF_eql, opF_un, opF_index, opF_indexAddr, opF_fieldAddr, opF_field, opF_build, opF_slice, opF_extract, opF_pick, opF_load, opF_alloc, opF_box, opF_buildSlice, opF_makeSlice, opF_store, opF_conv, opF_len, opF_minmax, opF_builtin, opF_call, resK, ev_tmp, evG_some, ev_int, ev_bool, ev_str, evs, evp, evo, R.ok_bind, putT_some, putT_none, T.get_set, T.get_e, binF_int, op_rem, op_quo_u32, op_xor_u32, op_neq, op_eql, op_lss, op_add_i64, op_sub_u32, op_and_u8, op_xor_u8, op_not_u32, binF_shr_u32, binF_shr_u8, op_mul_i64, op_quo_i64, op_and_u32, binF_shl_u8, wrapF_u8, wrapF_u32, mod_u8, mod_u32, cond_val, Nat.lt_irrefl, Nat.not_lt_zero, if_true, if_false, reduceIte, Nat.reduceEqDiff, Nat.reduceAdd, ne_eq, not_true_eq_false, not_false_eq_true, decide_true, decide_false, Bool.false_eq_true, Bool.not_true, Bool.not_false, sub_nil, sub_seq0, sub_seq1, sub_cond0, sub_cond1, sub_block, sub_loop, sub_scope, sub_range0, sub_range1, Option.getD_some, at_ptr, at_slc, runOps_yes, runOps_no, exec_draw, op_sub_i64, op_sub_neg, op_lss_neg, binF_str, str_add, str_neq, str_eql, takeF, resF, oneOf, pickF, extractF, cells_str, cells_int, cells_agg, bool_eql, bool_neq, op_lssI, bne_self_eq_false, beq_self_eq_true, eq_self, cells_slc, cells_func, builtin_append, ev_nilslice, ev_nilfunc, ev_nilptr, ev_nilmap, opF_makeFunc, opF_callv, callV_func, callV_yield, op_leq, op_gtr, op_geq, cast_le, cast_lt, List.nil_append, List.cons_append, List.append_nil, un_not, lx, ly, op_neqI, hl, Int.natCast_inj]
        with_reducible rfl
      refine ⟨.inr rfl, _, [.bool false], rfl, ?_, ?_, rfl⟩
      · simp only [Try.f24, resF, ev_tmp, T.get_set, Nat.reduceEqDiff, if_true, if_false, evG_some, R.ok_bind]
      · have : l ≠ m := fun h => hl (by rw [h])
        show Value.bool false = _
        rw [decide_eq_false this]
  exact ha

/-! ### Stops, as two cells -/
def OpG (A : Mem) (d : Int × List Nat) (l : List Value) : Prop := ∃ xs, l = [.int .i64 d.1, xs] ∧ StR (fun _ => True) A d.2 xs ∧ d.2.length ≤ 1000
theorem OpG.ext {A A' : Mem} {d : Int × List Nat} {l : List Value} (h : OpG A d l) (e : Ext A A') : OpG A' d l := by
  obtain ⟨xs, h1, h2, h3⟩ := h
  exact ⟨xs, h1, h2.ext e, h3⟩
theorem OpG.cells {A : Mem} {d : Int × List Nat} {l : List Value} (h : OpG A d l) : l.length = 2 ∧ ∀ v ∈ l, oneCell v = true := by
  obtain ⟨xs, rfl, h2, -⟩ := h
  refine ⟨rfl, fun v hv => ?_⟩
  simp only [List.mem_cons, List.not_mem_nil, or_false] at hv
  rcases hv with rfl | rfl
  · rfl
  · exact h2.cells.2
noncomputable def c23 : Code := Try.f23.body.getD .skip
theorem c23_eq : Try.f23.body = some (.seq (sub c23 [0]) (.seq (sub c23 [1,0]) (sub c23 [1,1]))) := by kernel_rfl
theorem run_stop {A : Mem} {d d' : Int × List Nat} {l l' : List Value} (h : OpG A d l) (h' : OpG A d' l') : ∃ A', Ans tb1 23 [.agg ⟨l⟩, .agg ⟨l'⟩] A (.bool (decide (d = d'))) A' ∧ Ext A A' := by
  obtain ⟨xs, rfl, h2, h3⟩ := h
  obtain ⟨ys, rfl, h2', h3'⟩ := h'
  obtain ⟨v, A', ha, rfl, he⟩ : ∃ v A', Ans tb1 23 [.agg ⟨[.int .i64 d.1, xs]⟩, .agg ⟨[.int .i64 d'.1, ys]⟩] A v A' ∧ v = .bool (decide (d = d')) ∧ Ext A A' := by
    refine ans_of_W (fn_at Try.func23) c23_eq (by rw [Try.ntmps23]; simp) (by kernel_rfl) (by kernel_rfl) ?_
    have hv0 : Vals ((A.alloc (rowOb 41 [.int .i64 d.1, xs])).alloc (rowOb 41 [.int .i64 d'.1, ys])) 41 A.next (.var 2) [.int .i64 d.1, xs] := (Go.Am.vals_new A 41 _).same (get_alloc_ne (by rw [next_alloc]; omega))
    have hv1 : Vals ((A.alloc (rowOb 41 [.int .i64 d.1, xs])).alloc (rowOb 41 [.int .i64 d'.1, ys])) 41 (A.next + 1) (.var 2) [.int .i64 d'.1, ys] := Go.Am.vals_new (A.alloc _) 41 _
    have hE : Ext A ((A.alloc (rowOb 41 [.int .i64 d.1, xs])).alloc (rowOb 41 [.int .i64 d'.1, ys])) := (Ext.alloc A _).trans (Ext.alloc _ _)
    have l0 := load_vals (tb := tb1) (t := 3) und3 rfl hv0 (show ([.int .i64 d.1, xs] : List Value)[0]? = _ from rfl)
    have l1 := load_vals (tb := tb1) (t := 36) und36 rfl hv0 (show ([.int .i64 d.1, xs] : List Value)[1]? = _ from rfl)
    have l2 := load_vals (tb := tb1) (t := 3) und3 rfl hv1 (show ([.int .i64 d'.1, ys] : List Value)[0]? = _ from rfl)
    have l3 := load_vals (tb := tb1) (t := 36) und36 rfl hv1 (show ([.int .i64 d'.1, ys] : List Value)[1]? = _ from rfl)
    obtain ⟨g, hg⟩ := run_eqs h3 (h2.ext hE) (h2'.ext hE)
    apply W.seq
    apply W.run 20
    · intro M
      simp (config := { maxSteps := 4000000 }) (disch := first | decide +kernel | (rw [wantF_guard]; simp only [wantD_some, dstAt_zero, dstAt_succ, T.get_set, T.get_e, Nat.reduceEqDiff, if_true, if_false, wantV_bool, wantV_unit, unitV, cond_true, cond_false, Bool.not_true, Bool.not_false, List.toList_toArray]) | omega) only [c23, Try.f23, Nat.ble, cond_true, cond_false, T.puts_cons, T.puts_nil, exec_seq, exec_block, nat_beq_self, exec_region, exec_cond, exec_skip, exec_ret, exec_exit, exec_scope, runOps_cons, runOps_nil, opF_move, opF_assign, opF_ari, opF_neq, opF_eql, opF_un, opF_index, opF_indexAddr, opF_fieldAddr, opF_field, opF_build, opF_slice, opF_extract, opF_pick, opF_load, opF_alloc, opF_box, opF_buildSlice, opF_makeSlice, opF_store, opF_conv, opF_len, opF_minmax, opF_builtin, opF_call, resK, ev_tmp, evG_some, ev_int, ev_bool, ev_str, evs, evp, evo, R.ok_bind, putT_some, putT_none, T.get_set, T.get_e, binF_int, op_rem, op_quo_u32, op_xor_u32, op_neq, op_eql, op_lss, op_add_i64, op_sub_u32, op_and_u8, op_xor_u8, op_not_u32, binF_shr_u32, binF_shr_u8, op_mul_i64, op_quo_i64, op_and_u32, binF_shl_u8, wrapF_u8, wrapF_u32, mod_u8, mod_u32, cond_val, Nat.lt_irrefl, Nat.not_lt_zero, if_true, if_false, reduceIte, Nat.reduceEqDiff, Nat.reduceAdd, ne_eq, not_true_eq_false, not_false_eq_true, decide_true, decide_false, Bool.false_eq_true, Bool.not_true, Bool.not_false, sub_nil, sub_seq0, sub_seq1, sub_cond0, sub_cond1, sub_block, sub_loop, sub_scope, sub_range0, sub_range1, Option.getD_some, at_ptr, at_slc, runOps_yes, runOps_no, exec_draw, op_sub_i64, op_sub_neg, op_lss_neg, binF_str, str_add, str_neq, str_eql, takeF, resF, oneOf, pickF, extractF, cells_str, cells_int, cells_agg, bool_eql, bool_neq, op_lssI, bne_self_eq_false, beq_self_eq_true, eq_self, cells_slc, cells_func, builtin_append, ev_nilslice, ev_nilfunc, ev_nilptr, ev_nilmap, opF_makeFunc, opF_callv, callV_func, callV_yield, op_leq, op_gtr, op_geq, cast_le, cast_lt, List.nil_append, List.cons_append, List.append_nil, un_not]
      with_reducible rfl
    apply W.seq
    by_cases hd : d.1 = d'.1
    · have hdt := decide_eq_true hd
      apply W.runG (g) 20
      · intro M hM
        simp (config := { maxSteps := 4000000 }) (disch := first | decide +kernel | (rw [wantF_guard]; simp only [wantD_some, dstAt_zero, dstAt_succ, T.get_set, T.get_e, Nat.reduceEqDiff, if_true, if_false, wantV_bool, wantV_unit, unitV, cond_true, cond_false, Bool.not_true, Bool.not_false, List.toList_toArray]) | omega) only [c23, Try.f23, Nat.ble, cond_true, cond_false, T.puts_cons, T.puts_nil, exec_seq, exec_block, nat_beq_self, exec_region, exec_cond, exec_skip, exec_ret, exec_exit, exec_scope, runOps_cons, runOps_nil, opF_move, opF_assign, opF_ari, opF_neq, opF_eql, opF_un, opF_index, opF_indexAddr, opF_fieldAddr, opF_field, opF_build, opF_slice, opF_extract, opF_pick, opF_load, opF_alloc, opF_box, opF_buildSlice, opF_makeSlice, opF_store, opF_conv, opF_len, opF_minmax, opF_builtin, opF_call, resK, ev_tmp, evG_some, ev_int, ev_bool, ev_str, evs, evp, evo, R.ok_bind, putT_some, putT_none, T.get_set, T.get_e, binF_int, op_rem, op_quo_u32, op_xor_u32, op_neq, op_eql, op_lss, op_add_i64, op_sub_u32, op_and_u8, op_xor_u8, op_not_u32, binF_shr_u32, binF_shr_u8, op_mul_i64, op_quo_i64, op_and_u32, binF_shl_u8, wrapF_u8, wrapF_u32, mod_u8, mod_u32, cond_val, Nat.lt_irrefl, Nat.not_lt_zero, if_true, if_false, reduceIte, Nat.reduceEqDiff, Nat.reduceAdd, ne_eq, not_true_eq_false, not_false_eq_true, decide_true, decide_false, Bool.false_eq_true, Bool.not_true, Bool.not_false, sub_nil, sub_seq0, sub_seq1, sub_cond0, sub_cond1, sub_block, sub_loop, sub_scope, sub_range0, sub_range1, Option.getD_some, at_ptr, at_slc, runOps_yes, runOps_no, exec_draw, op_sub_i64, op_sub_neg, op_lss_neg, binF_str, str_add, str_neq, str_eql, takeF, resF, oneOf, pickF, extractF, cells_str, cells_int, cells_agg, bool_eql, bool_neq, op_lssI, bne_self_eq_false, beq_self_eq_true, eq_self, cells_slc, cells_func, builtin_append, ev_nilslice, ev_nilfunc, ev_nilptr, ev_nilmap, opF_makeFunc, opF_callv, callV_func, callV_yield, op_leq, op_gtr, op_geq, cast_le, cast_lt, List.nil_append, List.cons_append, List.append_nil, un_not, next_alloc, fa41_0', fa41_1, fa41_1', l0, l1, l2, l3, und3, op_eqlI, hdt, hg]
        with_reducible rfl
      apply W.run 20
      · intro M
        simp (config := { maxSteps := 4000000 }) (disch := first | decide +kernel | (rw [wantF_guard]; simp only [wantD_some, dstAt_zero, dstAt_succ, T.get_set, T.get_e, Nat.reduceEqDiff, if_true, if_false, wantV_bool, wantV_unit, unitV, cond_true, cond_false, Bool.not_true, Bool.not_false, List.toList_toArray]) | omega) only [c23, Try.f23, Nat.ble, cond_true, cond_false, T.puts_cons, T.puts_nil, exec_seq, exec_block, nat_beq_self, exec_region, exec_cond, exec_skip, exec_ret, exec_exit, exec_scope, runOps_cons, runOps_nil, opF_move, opF_assign, opF_ari, opF_neq, opF_eql, opF_un, opF_index, opF_indexAddr, opF_fieldAddr, opF_field, opF_build, opF_slice, opF_extract, opF_pick, opF_load, opF_alloc, opF_box, opF_buildSlice, opF_makeSlice, opF_store, opF_conv, opF_len, opF_minmax, opF_builtin, opF_call, resK, ev_tmp, evG_some, ev_int, ev_bool, ev_str, evs, evp, evo, R.ok_bind, putT_some, putT_none, T.get_set, T.get_e, binF_int, op_rem, op_quo_u32, op_xor_u32, op_neq, op_eql, op_lss, op_add_i64, op_sub_u32, op_and_u8, op_xor_u8, op_not_u32, binF_shr_u32, binF_shr_u8, op_mul_i64, op_quo_i64, op_and_u32, binF_shl_u8, wrapF_u8, wrapF_u32, mod_u8, mod_u32, cond_val, Nat.lt_irrefl, Nat.not_lt_zero, if_true, if_false, reduceIte, Nat.reduceEqDiff, Nat.reduceAdd, ne_eq, not_true_eq_false, not_false_eq_true, decide_true, decide_false, Bool.false_eq_true, Bool.not_true, Bool.not_false, sub_nil, sub_seq0, sub_seq1, sub_cond0, sub_cond1, sub_block, sub_loop, sub_scope, sub_range0, sub_range1, Option.getD_some, at_ptr, at_slc, runOps_yes, runOps_no, exec_draw, op_sub_i64, op_sub_neg, op_lss_neg, binF_str, str_add, str_neq, str_eql, takeF, resF, oneOf, pickF, extractF, cells_str, cells_int, cells_agg, bool_eql, bool_neq, op_lssI, bne_self_eq_false, beq_self_eq_true, eq_self, cells_slc, cells_func, builtin_append, ev_nilslice, ev_nilfunc, ev_nilptr, ev_nilmap, opF_makeFunc, opF_callv, callV_func, callV_yield, op_leq, op_gtr, op_geq, cast_le, cast_lt, List.nil_append, List.cons_append, List.append_nil, un_not]
        with_reducible rfl
      refine ⟨.inr rfl, _, [.bool (decide (d.2 = d'.2))], rfl, ?_, ?_, hE⟩
      · simp only [Try.f23, resF, ev_tmp, T.get_set, Nat.reduceEqDiff, if_true, if_false, evG_some, R.ok_bind]
      · show Value.bool _ = _
        congr 1
        exact decide_eq_decide.2 ⟨fun h => Prod.ext hd h, fun h => by rw [h]⟩
    · have hdt := decide_eq_false hd
      apply W.run 20
      · intro M
        simp (config := { maxSteps := 4000000 }) (disch := first | decide +kernel | (rw [wantF_guard]; simp only [wantD_some, dstAt_zero, dstAt_succ, T.get_set, T.get_e, Nat.reduceEqDiff, if_true, if_false, wantV_bool, wantV_unit, unitV, cond_true, cond_false, Bool.not_true, Bool.not_false, List.toList_toArray]) | omega) only [c23, Try.f23, Nat.ble, cond_true, cond_false, T.puts_cons, T.puts_nil, exec_seq, exec_block, nat_beq_self, exec_region, exec_cond, exec_skip, exec_ret, exec_exit, exec_scope, runOps_cons, runOps_nil, opF_move, opF_assign, opF_ari, opF_neq, opF_eql, opF_un, opF_index, opF_indexAddr, opF_fieldAddr, opF_field, opF_build, opF_slice, opF_extract, opF_pick, opF_load, opF_alloc, opF_box, opF_buildSlice, opF_makeSlice, opF_store, opF_conv, opF_len, opF_minmax, opF_builtin, opF_call, resK, ev_tmp, evG_some, ev_int, ev_bool, ev_str, evs, evp, evo, R.ok_bind, putT_some, putT_none, T.get_set, T.get_e, binF_int, op_rem, op_quo_u32, op_xor_u32, op_neq, op_eql, op_lss, op_add_i64, op_sub_u32, op_and_u8, op_xor_u8, op_not_u32, binF_shr_u32, binF_shr_u8, op_mul_i64, op_quo_i64, op_and_u32, binF_shl_u8, wrapF_u8, wrapF_u32, mod_u8, mod_u32, cond_val, Nat.lt_irrefl, Nat.not_lt_zero, if_true, if_false, reduceIte, Nat.reduceEqDiff, Nat.reduceAdd, ne_eq, not_true_eq_false, not_false_eq_true, decide_true, decide_false, Bool.false_eq_true, Bool.not_true, Bool.not_false, sub_nil, sub_seq0, sub_seq1, sub_cond0, sub_cond1, sub_block, sub_loop, sub_scope, sub_range0, sub_range1, Option.getD_some, at_ptr, at_slc, runOps_yes, runOps_no, exec_draw, op_sub_i64, op_sub_neg, op_lss_neg, binF_str, str_add, str_neq, str_eql, takeF, resF, oneOf, pickF, extractF, cells_str, cells_int, cells_agg, bool_eql, bool_neq, op_lssI, bne_self_eq_false, beq_self_eq_true, eq_self, cells_slc, cells_func, builtin_append, ev_nilslice, ev_nilfunc, ev_nilptr, ev_nilmap, opF_makeFunc, opF_callv, callV_func, callV_yield, op_leq, op_gtr, op_geq, cast_le, cast_lt, List.nil_append, List.cons_append, List.append_nil, un_not, next_alloc, fa41_0', fa41_1, fa41_1', l0, l1, l2, l3, und3, op_eqlI, hdt]
        with_reducible rfl
      apply W.run 20
      · intro M
        simp (config := { maxSteps := 4000000 }) (disch := first | decide +kernel | (rw [wantF_guard]; simp only [wantD_some, dstAt_zero, dstAt_succ, T.get_set, T.get_e, Nat.reduceEqDiff, if_true, if_false, wantV_bool, wantV_unit, unitV, cond_true, cond_false, Bool.not_true, Bool.not_false, List.toList_toArray]) | omega) only [c23, Try.f23, Nat.ble, cond_true, cond_false, T.puts_cons, T.puts_nil, exec_seq, exec_block, nat_beq_self, exec_region, exec_cond, exec_skip, exec_ret, exec_exit, exec_scope, runOps_cons, runOps_nil, opF_move, opF_assign, opF_ari, opF_neq, opF_eql, opF_un, opF_index, opF_indexAddr, opF_fieldAddr, opF_field, opF_build, opF_slice, opF_extract, opF_pick, opF_load, opF_alloc, opF_box, opF_buildSlice, opF_makeSlice, opF_store, opF_conv, opF_len, opF_minmax, opF_builtin, opF_call, resK, ev_tmp, evG_some, ev_int, ev_bool, ev_str, evs, evp, evo, R.ok_bind, putT_some, putT_none, T.get_set, T.get_e, binF_int, op_rem, op_quo_u32, op_xor_u32, op_neq, op_eql, op_lss, op_add_i64, op_sub_u32, op_and_u8, op_xor_u8, op_not_u32, binF_shr_u32, binF_shr_u8, op_mul_i64, op_quo_i64, op_and_u32, binF_shl_u8, wrapF_u8, wrapF_u32, mod_u8, mod_u32, cond_val, Nat.lt_irrefl, Nat.not_lt_zero, if_true, if_false, reduceIte, Nat.reduceEqDiff, Nat.reduceAdd, ne_eq, not_true_eq_false, not_false_eq_true, decide_true, decide_false, Bool.false_eq_true, Bool.not_true, Bool.not_false, sub_nil, sub_seq0, sub_seq1, sub_cond0, sub_cond1, sub_block, sub_loop, sub_scope, sub_range0, sub_range1, Option.getD_some, at_ptr, at_slc, runOps_yes, runOps_no, exec_draw, op_sub_i64, op_sub_neg, op_lss_neg, binF_str, str_add, str_neq, str_eql, takeF, resF, oneOf, pickF, extractF, cells_str, cells_int, cells_agg, bool_eql, bool_neq, op_lssI, bne_self_eq_false, beq_self_eq_true, eq_self, cells_slc, cells_func, builtin_append, ev_nilslice, ev_nilfunc, ev_nilptr, ev_nilmap, opF_makeFunc, opF_callv, callV_func, callV_yield, op_leq, op_gtr, op_geq, cast_le, cast_lt, List.nil_append, List.cons_append, List.append_nil, un_not]
        with_reducible rfl
      refine ⟨.inr rfl, _, [.bool false], rfl, ?_, ?_, hE⟩
      · simp only [Try.f23, resF, ev_tmp, T.get_set, Nat.reduceEqDiff, if_true, if_false, evG_some, R.ok_bind]
      · show Value.bool false = _
        rw [decide_eq_false (fun h => hd (by rw [h]))]
  exact ⟨A', ha, he⟩
end Go.Proofs.Ytmhldlnlgjpkaaa.scr

/-
  Script: whether two rows of stops are alike.
-/
namespace Go.Proofs.Ytmhldlnlgjpkaaa.scr
open Go.Am
set_option linter.unusedSimpArgs false

def OpsG (A : Mem) (ds : List (Int × List Nat)) (x : Value) : Prop :=
  ∃ ls b, RowM A 41 2 b ls x ∧ ls.length = ds.length ∧ ds.length ≤ 1000 ∧ ∀ (i : Nat) (d : Int × List Nat) (l : List Value), ds[i]? = some d → ls[i]? = some l → OpG A d l
theorem OpsG.ext {A A' : Mem} {ds : List (Int × List Nat)} {x : Value} (h : OpsG A ds x) (e : Ext A A') : OpsG A' ds x := by
  obtain ⟨ls, b, h1, h2, h3, h4⟩ := h
  exact ⟨ls, b, h1.same e.n (fun hb => e.g b hb), h2, h3, fun i d l hd hl => (h4 i d l hd hl).ext e⟩
theorem OpsG.len {A : Mem} {ds : List (Int × List Nat)} {x : Value} (h : OpsG A ds x) : builtinPF tb1 .len [37] [x] = .ok (.int .i64 ((ds.length : Nat) : Int)) := by
  obtain ⟨ls, b, h1, h2, -⟩ := h
  rw [h1.len (tb := tb1) (t := 37) und37, h2]
theorem OpsG.cells {A : Mem} {ds : List (Int × List Nat)} {x : Value} (h : OpsG A ds x) : x.cells.toList = [x] ∧ oneCell x = true := by
  obtain ⟨ls, b, h1, -⟩ := h
  exact h1.cells

noncomputable def c26 : Code := Try.f26.body.getD .skip
noncomputable def c26b1 : Code := sub c26 [1,1,0,1,0,0]
theorem c26_eq : Try.f26.body = some (.seq (sub c26 [0]) (.seq (sub c26 [1,0]) (.seq (.seq (sub c26 [1,1,0,0]) (.block 0 (.loop c26b1))) (.seq (sub c26 [1,1,1,0]) (sub c26 [1,1,1,1]))))) := by kernel_rfl
theorem c26b1_eq : c26b1 = .seq (sub c26b1 [0]) (.seq (sub c26b1 [1,0]) (.seq (.block 1 (.seq (sub c26b1 [1,1,0,0,0]) (.seq (sub c26b1 [1,1,0,0,1,0]) (sub c26b1 [1,1,0,0,1,1])))) (sub c26b1 [1,1,1]))) := by kernel_rfl
set_option maxHeartbeats 2000000 in
theorem run_eqOps {A : Mem} {ds ds' : List (Int × List Nat)} {x y : Value} (h : OpsG A ds x) (h' : OpsG A ds' y) : ∃ A', Ans tb1 26 [x, y, .func (.func 23) ⟨[]⟩ ⟨[]⟩] A (.bool (decide (ds = ds'))) A' ∧ Ext A A' := by
  obtain ⟨ls, b, hx, hll, hbd, hall⟩ := h
  obtain ⟨ls', b', hy, hll', hbd', hall'⟩ := h'
  obtain ⟨v, A', ha, rfl, he⟩ : ∃ v A', Ans tb1 26 [x, y, .func (.func 23) ⟨[]⟩ ⟨[]⟩] A v A' ∧ v = .bool (decide (ds = ds')) ∧ Ext A A' := by
    refine ans_of_W (fn_at Try.func26) c26_eq (by rw [Try.ntmps26]; simp) (by kernel_rfl) (by kernel_rfl) ?_
    have lx := hx.len (tb := tb1) (t := 37) und37
    have ly := hy.len (tb := tb1) (t := 37) und37
    rw [hll] at lx
    rw [hll'] at ly
    apply W.seq
    apply W.run 20
    · intro M
      simp (config := { maxSteps := 4000000 }) (disch := first | decide +kernel | (rw [wantF_guard]; simp only [wantD_some, dstAt_zero, dstAt_succ, T.get_set, T.get_e, Nat.reduceEqDiff, if_true, if_false, wantV_bool, wantV_unit, unitV, cond_true, cond_false, Bool.not_true, Bool.not_false, List.toList_toArray]) | omega) only [c26, Try.f26, Nat.ble, cond_true, cond_false, T.puts_cons, T.puts_nil, exec_seq, exec_block, nat_beq_self, exec_region, exec_cond, exec_skip, exec_ret, exec_exit, exec_scope, runOps_cons, runOps_nil, opF_move, opF_assign, opF_ari, opF_neq, opF_eql, opF_un, opF_index, opF_indexAddr, opF_fieldAddr, opF_field, opF_build, opF_slice, opF_extract, opF_pick, opF_load, opF_alloc, opF_box, opF_buildSlice, opF_makeSlice, opF_store, opF_conv, opF_len, opF_minmax, opF_builtin, opF_call, resK, ev_tmp, evG_some, ev_int, ev_bool, ev_str, evs, evp, evo, R.ok_bind, putT_some, putT_none, T.get_set, T.get_e, binF_int, op_rem, op_quo_u32, op_xor_u32, op_neq, op_eql, op_lss, op_add_i64, op_sub_u32, op_and_u8, op_xor_u8, op_not_u32, binF_shr_u32, binF_shr_u8, op_mul_i64, op_quo_i64, op_and_u32, binF_shl_u8, wrapF_u8, wrapF_u32, mod_u8, mod_u32, cond_val, Nat.lt_irrefl, Nat.not_lt_zero, if_true, if_false, reduceIte, Nat.reduceEqDiff, Nat.reduceAdd, ne_eq, not_true_eq_false, not_false_eq_true, decide_true, decide_false, Bool.false_eq_true, Bool.not_true, Bool.not_false, sub_nil, sub_seq0, sub_seq1, sub_cond0, sub_cond1, sub_block, sub_loop, sub_scope, sub_range0, sub_range1, Option.getD_some, at_ptr, at_slc, runOps_yes, runOps_no, exec_draw, op_sub_i64, op_sub_neg, op_lss_neg, binF_str, str_add, str_neq, str_eql, takeF, resF, oneOf, pickF, extractF, cells_str, cells_int, cells_agg, bool_eql, bool_neq, op_lssI, bne_self_eq_false, beq_self_eq_true, eq_self, cells_slc, cells_func, builtin_append, ev_nilslice, ev_nilfunc, ev_nilptr, ev_nilmap, opF_makeFunc, opF_callv, callV_func, callV_yield, op_leq, op_gtr, op_geq, cast_le, cast_lt, List.nil_append, List.cons_append, List.append_nil, un_not]
      with_reducible rfl
    apply W.seq
    by_cases hl : ds.length = ds'.length
    · apply W.run 20
      · intro M
        simp (config := { maxSteps := 4000000 }) (disch := first | decide +kernel | (rw [wantF_guard]; simp only [wantD_some, dstAt_zero, dstAt_succ, T.get_set, T.get_e, Nat.reduceEqDiff, if_true, if_false, wantV_bool, wantV_unit, unitV, cond_true, cond_false, Bool.not_true, Bool.not_false, List.toList_toArray]) | omega) only [c26, Try.f26, Nat.ble, cond_true, cond_false, T.puts_cons, T.puts_nil, exec_seq, exec_block, nat_beq_self, exec_region, exec_cond, exec_skip, exec_ret, exec_exit, exec_scope, runOps_cons, runOps_nil, opF_move, opF_assign, opF_ari, opF_neq, opF_eql, opF_un, opF_index, opF_indexAddr, opF_fieldAddr, opF_field, opF_build, opF_slice, opF_extract, opF_pick, opF_load, opF_alloc, opF_box, opF_buildSlice, opF_makeSlice, opF_store, opF_conv, opF_len, opF_minmax, opF_builtin, opF_call, resK, ev_tmp, evG_some, ev_int, ev_bool, ev_str, evs, evp, evo, R.ok_bind, putT_some, putT_none, T.get_set, T.get_e, binF_int, op_rem, op_quo_u32, op_xor_u32, op_neq, op_eql, op_lss, op_add_i64, op_sub_u32, op_and_u8, op_xor_u8, op_not_u32, binF_shr_u32, binF_shr_u8, op_mul_i64, op_quo_i64, op_and_u32, binF_shl_u8, wrapF_u8, wrapF_u32, mod_u8, mod_u32, cond_val, Nat.lt_irrefl, Nat.not_lt_zero, if_true, if_false, reduceIte, Nat.reduceEqDiff, Nat.reduceAdd, ne_eq, not_true_eq_false, not_false_eq_true, decide_true, decide_false, Bool.false_eq_true, Bool.not_true, Bool.not_false, sub_nil, sub_seq0, sub_seq1, sub_cond0, sub_cond1, sub_block, sub_loop, sub_scope, sub_range0, sub_range1, Option.getD_some, at_ptr, at_slc, runOps_yes, runOps_no, exec_draw, op_sub_i64, op_sub_neg, op_lss_neg, binF_str, str_add, str_neq, str_eql, takeF, resF, oneOf, pickF, extractF, cells_str, cells_int, cells_agg, bool_eql, bool_neq, op_lssI, bne_self_eq_false, beq_self_eq_true, eq_self, cells_slc, cells_func, builtin_append, ev_nilslice, ev_nilfunc, ev_nilptr, ev_nilmap, opF_makeFunc, opF_callv, callV_func, callV_yield, op_leq, op_gtr, op_geq, cast_le, cast_lt, List.nil_append, List.cons_append, List.append_nil, un_not, lx, ly, op_neqI, hl]
        with_reducible rfl
      apply W.seq
      apply W.seq
      apply W.run 20
      · intro M
        simp (config := { maxSteps := 4000000 }) (disch := first | decide +kernel | (rw [wantF_guard]; simp only [wantD_some, dstAt_zero, dstAt_succ, T.get_set, T.get_e, Nat.reduceEqDiff, if_true, if_false, wantV_bool, wantV_unit, unitV, cond_true, cond_false, Bool.not_true, Bool.not_false, List.toList_toArray]) | omega) only [c26, Try.f26, Nat.ble, cond_true, cond_false, T.puts_cons, T.puts_nil, exec_seq, exec_block, nat_beq_self, exec_region, exec_cond, exec_skip, exec_ret, exec_exit, exec_scope, runOps_cons, runOps_nil, opF_move, opF_assign, opF_ari, opF_neq, opF_eql, opF_un, opF_index, opF_indexAddr, opF_fieldAddr, opF_field, opF_build, opF_slice, opF_extract, opF_pick, opF_load, opF_alloc, opF_box, opF_buildSlice, opF_makeSlice, opF_store, opF_conv, opF_len, opF_minmax, opF_builtin, opF_call, resK, ev_tmp, evG_some, ev_int, ev_bool, ev_str, evs, evp, evo, R.ok_bind, putT_some, putT_none, T.get_set, T.get_e, binF_int, op_rem, op_quo_u32, op_xor_u32, op_neq, op_eql, op_lss, op_add_i64, op_sub_u32, op_and_u8, op_xor_u8, op_not_u32, binF_shr_u32, binF_shr_u8, op_mul_i64, op_quo_i64, op_and_u32, binF_shl_u8, wrapF_u8, wrapF_u32, mod_u8, mod_u32, cond_val, Nat.lt_irrefl, Nat.not_lt_zero, if_true, if_false, reduceIte, Nat.reduceEqDiff, Nat.reduceAdd, ne_eq, not_true_eq_false, not_false_eq_true, decide_true, decide_false, Bool.false_eq_true, Bool.not_true, Bool.not_false, sub_nil, sub_seq0, sub_seq1, sub_cond0, sub_cond1, sub_block, sub_loop, sub_scope, sub_range0, sub_range1, Option.getD_some, at_ptr, at_slc, runOps_yes, runOps_no, exec_draw, op_sub_i64, op_sub_neg, op_lss_neg, binF_str, str_add, str_neq, str_eql, takeF, resF, oneOf, pickF, extractF, cells_str, cells_int, cells_agg, bool_eql, bool_neq, op_lssI, bne_self_eq_false, beq_self_eq_true, eq_self, cells_slc, cells_func, builtin_append, ev_nilslice, ev_nilfunc, ev_nilptr, ev_nilmap, opF_makeFunc, opF_callv, callV_func, callV_yield, op_leq, op_gtr, op_geq, cast_le, cast_lt, List.nil_append, List.cons_append, List.append_nil, un_not, lx]
        with_reducible rfl
      apply W.block
      refine W.up ds.length (fun i t C => Ext A C ∧ ds.take i = ds'.take i ∧ Sl t [(0, x), (1, y), (2, .func (.func 23) ⟨[]⟩ ⟨[]⟩), (15, x), (16, .int .i64 ((ds.length : Nat) : Int)), (17, .int .i64 (i : Int))]) ?_ (Nat.zero_le _) ⟨Ext.refl A, by simp, ?_⟩
      · rintro i t C hi ⟨hE, he, g0, g1, g2, g15, g16, g17, -⟩
        have hEn := hE.n
        by_cases hlt : i < ds.length
        · have hlt' : i < ds'.length := by omega
          have hli : i < ls.length := by omega
          have hli' : i < ls'.length := by omega
          have hO := hall i ds[i] ls[i] (List.getElem?_eq_getElem hlt) (List.getElem?_eq_getElem hli)
          have hO' := hall' i ds'[i] ls'[i] (List.getElem?_eq_getElem hlt') (List.getElem?_eq_getElem hli')
          have hxC := hx.same hE.n (fun hb => hE.g b hb)
          have hyC := hy.same hE.n (fun hb => hE.g b' hb)
          have ix := hxC.idx (tb := tb1) (t := 37) (t' := 41) (kd := .i64) (i := i) und37 size41 hli
          have iy := hyC.idx (tb := tb1) (t := 37) (t' := 41) (kd := .i64) (i := i) und37 size41 hli'
          obtain ⟨d41, hd1, hd2⟩ := und41
          generalize hL : ls[i] = L at hO
          generalize hL' : ls'[i] = L' at hO'
          have hc := hO.cells
          have hc' := hO'.cells
          have lax := hxC.load_all (t := 41) (i := i) hd1 hd2 size41 (show ls[i]? = some L by rw [List.getElem?_eq_getElem hli, hL])
          have hv0 : Vals (C.alloc (rowOb 41 [.int .i64 0, .slice none 0 0])) 41 C.next (.var 2) [.int .i64 0, .slice none 0 0] := Go.Am.vals_new C 41 _
          have hn0 : (C.alloc (rowOb 41 [.int .i64 0, .slice none 0 0])).next = C.next + 1 := next_alloc _ _
          obtain ⟨D, hs1, hv1, hn1, hf1⟩ := store_all (tb := tb1) (t := 41) (l' := L) (by rw [size41]; rfl) hv0 (by rw [hc.1]; rfl) (by simp) hc.2
          have hED : Ext C D := (Ext.alloc C (rowOb 41 [.int .i64 0, .slice none 0 0])).put (b := C.next) (Nat.le_refl _) hn1 hf1
          have lay := (hyC.same hED.n (fun hb => hED.g b' hb)).load_all (t := 41) (i := i) hd1 hd2 size41 (show ls'[i]? = some L' by rw [List.getElem?_eq_getElem hli', hL'])
          have hv2 : Vals (D.alloc (rowOb 41 [.int .i64 0, .slice none 0 0])) 41 D.next (.var 2) [.int .i64 0, .slice none 0 0] := Go.Am.vals_new D 41 _
          have hn2 : (D.alloc (rowOb 41 [.int .i64 0, .slice none 0 0])).next = D.next + 1 := next_alloc _ _
          obtain ⟨F, hs2, hv3, hn3, hf3⟩ := store_all (tb := tb1) (t := 41) (l' := L') (by rw [size41]; rfl) hv2 (by rw [hc'.1]; rfl) (by simp) hc'.2
          have hEF : Ext D F := (Ext.alloc D (rowOb 41 [.int .i64 0, .slice none 0 0])).put (b := D.next) (Nat.le_refl _) hn3 hf3
          have hv1F : Vals F 41 C.next (.var 2) L := hv1.same (hEF.g _ (by omega))
          have laF := Go.Am.load_all (tb := tb1) (t := 41) hd1 hd2 (by rw [size41, hc.1]) hv1F
          have laF' := Go.Am.load_all (tb := tb1) (t := 41) hd1 hd2 (by rw [size41, hc'.1]) hv3
          have hEAF := (hE.trans hED).trans hEF
          obtain ⟨G, ⟨g, hg⟩, hEG⟩ := run_stop (hO.ext hEAF) (hO'.ext hEAF)
          rw [c26b1_eq]
          apply W.seq
          apply W.run 20
          · intro M
            simp (config := { maxSteps := 4000000 }) (disch := first | decide +kernel | (rw [wantF_guard]; simp only [wantD_some, dstAt_zero, dstAt_succ, T.get_set, T.get_e, Nat.reduceEqDiff, if_true, if_false, wantV_bool, wantV_unit, unitV, cond_true, cond_false, Bool.not_true, Bool.not_false, List.toList_toArray]) | omega) only [c26b1, c26, Try.f26, Nat.ble, cond_true, cond_false, T.puts_cons, T.puts_nil, exec_seq, exec_block, nat_beq_self, exec_region, exec_cond, exec_skip, exec_ret, exec_exit, exec_scope, runOps_cons, runOps_nil, opF_move, opF_assign, opF_ari, opF_neq, opF_eql, opF_un, opF_index, opF_indexAddr, opF_fieldAddr, opF_field, opF_build, opF_slice, opF_extract, opF_pick, opF_load, opF_alloc, opF_box, opF_buildSlice, opF_makeSlice, opF_store, opF_conv, opF_len, opF_minmax, opF_builtin, opF_call, resK, ev_tmp, evG_some, ev_int, ev_bool, ev_str, evs, evp, evo, R.ok_bind, putT_some, putT_none, T.get_set, T.get_e, binF_int, op_rem, op_quo_u32, op_xor_u32, op_neq, op_eql, op_lss, op_add_i64, op_sub_u32, op_and_u8, op_xor_u8, op_not_u32, binF_shr_u32, binF_shr_u8, op_mul_i64, op_quo_i64, op_and_u32, binF_shl_u8, wrapF_u8, wrapF_u32, mod_u8, mod_u32, cond_val, Nat.lt_irrefl, Nat.not_lt_zero, if_true, if_false, reduceIte, Nat.reduceEqDiff, Nat.reduceAdd, ne_eq, not_true_eq_false, not_false_eq_true, decide_true, decide_false, Bool.false_eq_true, Bool.not_true, Bool.not_false, sub_nil, sub_seq0, sub_seq1, sub_cond0, sub_cond1, sub_block, sub_loop, sub_scope, sub_range0, sub_range1, Option.getD_some, at_ptr, at_slc, runOps_yes, runOps_no, exec_draw, op_sub_i64, op_sub_neg, op_lss_neg, binF_str, str_add, str_neq, str_eql, takeF, resF, oneOf, pickF, extractF, cells_str, cells_int, cells_agg, bool_eql, bool_neq, op_lssI, bne_self_eq_false, beq_self_eq_true, eq_self, cells_slc, cells_func, builtin_append, ev_nilslice, ev_nilfunc, ev_nilptr, ev_nilmap, opF_makeFunc, opF_callv, callV_func, callV_yield, op_leq, op_gtr, op_geq, cast_le, cast_lt, List.nil_append, List.cons_append, List.append_nil, un_not, g16, g17, hlt]
            with_reducible rfl
          apply W.seq
          apply W.run 20
          · intro M
            simp (config := { maxSteps := 4000000 }) (disch := first | decide +kernel | (rw [wantF_guard]; simp only [wantD_some, dstAt_zero, dstAt_succ, T.get_set, T.get_e, Nat.reduceEqDiff, if_true, if_false, wantV_bool, wantV_unit, unitV, cond_true, cond_false, Bool.not_true, Bool.not_false, List.toList_toArray]) | omega) only [c26b1, c26, Try.f26, Nat.ble, cond_true, cond_false, T.puts_cons, T.puts_nil, exec_seq, exec_block, nat_beq_self, exec_region, exec_cond, exec_skip, exec_ret, exec_exit, exec_scope, runOps_cons, runOps_nil, opF_move, opF_assign, opF_ari, opF_neq, opF_eql, opF_un, opF_index, opF_indexAddr, opF_fieldAddr, opF_field, opF_build, opF_slice, opF_extract, opF_pick, opF_load, opF_alloc, opF_box, opF_buildSlice, opF_makeSlice, opF_store, opF_conv, opF_len, opF_minmax, opF_builtin, opF_call, resK, ev_tmp, evG_some, ev_int, ev_bool, ev_str, evs, evp, evo, R.ok_bind, putT_some, putT_none, T.get_set, T.get_e, binF_int, op_rem, op_quo_u32, op_xor_u32, op_neq, op_eql, op_lss, op_add_i64, op_sub_u32, op_and_u8, op_xor_u8, op_not_u32, binF_shr_u32, binF_shr_u8, op_mul_i64, op_quo_i64, op_and_u32, binF_shl_u8, wrapF_u8, wrapF_u32, mod_u8, mod_u32, cond_val, Nat.lt_irrefl, Nat.not_lt_zero, if_true, if_false, reduceIte, Nat.reduceEqDiff, Nat.reduceAdd, ne_eq, not_true_eq_false, not_false_eq_true, decide_true, decide_false, Bool.false_eq_true, Bool.not_true, Bool.not_false, sub_nil, sub_seq0, sub_seq1, sub_cond0, sub_cond1, sub_block, sub_loop, sub_scope, sub_range0, sub_range1, Option.getD_some, at_ptr, at_slc, runOps_yes, runOps_no, exec_draw, op_sub_i64, op_sub_neg, op_lss_neg, binF_str, str_add, str_neq, str_eql, takeF, resF, oneOf, pickF, extractF, cells_str, cells_int, cells_agg, bool_eql, bool_neq, op_lssI, bne_self_eq_false, beq_self_eq_true, eq_self, cells_slc, cells_func, builtin_append, ev_nilslice, ev_nilfunc, ev_nilptr, ev_nilmap, opF_makeFunc, opF_callv, callV_func, callV_yield, op_leq, op_gtr, op_geq, cast_le, cast_lt, List.nil_append, List.cons_append, List.append_nil, un_not]
            with_reducible rfl
          apply W.seq
          apply W.block
          apply W.seq
          apply W.run 20
          · intro M
            simp (config := { maxSteps := 4000000 }) (disch := first | decide +kernel | (rw [wantF_guard]; simp only [wantD_some, dstAt_zero, dstAt_succ, T.get_set, T.get_e, Nat.reduceEqDiff, if_true, if_false, wantV_bool, wantV_unit, unitV, cond_true, cond_false, Bool.not_true, Bool.not_false, List.toList_toArray]) | omega) only [c26b1, c26, Try.f26, Nat.ble, cond_true, cond_false, T.puts_cons, T.puts_nil, exec_seq, exec_block, nat_beq_self, exec_region, exec_cond, exec_skip, exec_ret, exec_exit, exec_scope, runOps_cons, runOps_nil, opF_move, opF_assign, opF_ari, opF_neq, opF_eql, opF_un, opF_index, opF_indexAddr, opF_fieldAddr, opF_field, opF_build, opF_slice, opF_extract, opF_pick, opF_load, opF_alloc, opF_box, opF_buildSlice, opF_makeSlice, opF_store, opF_conv, opF_len, opF_minmax, opF_builtin, opF_call, resK, ev_tmp, evG_some, ev_int, ev_bool, ev_str, evs, evp, evo, R.ok_bind, putT_some, putT_none, T.get_set, T.get_e, binF_int, op_rem, op_quo_u32, op_xor_u32, op_neq, op_eql, op_lss, op_add_i64, op_sub_u32, op_and_u8, op_xor_u8, op_not_u32, binF_shr_u32, binF_shr_u8, op_mul_i64, op_quo_i64, op_and_u32, binF_shl_u8, wrapF_u8, wrapF_u32, mod_u8, mod_u32, cond_val, Nat.lt_irrefl, Nat.not_lt_zero, if_true, if_false, reduceIte, Nat.reduceEqDiff, Nat.reduceAdd, ne_eq, not_true_eq_false, not_false_eq_true, decide_true, decide_false, Bool.false_eq_true, Bool.not_true, Bool.not_false, sub_nil, sub_seq0, sub_seq1, sub_cond0, sub_cond1, sub_block, sub_loop, sub_scope, sub_range0, sub_range1, Option.getD_some, at_ptr, at_slc, runOps_yes, runOps_no, exec_draw, op_sub_i64, op_sub_neg, op_lss_neg, binF_str, str_add, str_neq, str_eql, takeF, resF, oneOf, pickF, extractF, cells_str, cells_int, cells_agg, bool_eql, bool_neq, op_lssI, bne_self_eq_false, beq_self_eq_true, eq_self, cells_slc, cells_func, builtin_append, ev_nilslice, ev_nilfunc, ev_nilptr, ev_nilmap, opF_makeFunc, opF_callv, callV_func, callV_yield, op_leq, op_gtr, op_geq, cast_le, cast_lt, List.nil_append, List.cons_append, List.append_nil, un_not, g15, g17, ix, lax, zero41, hs1]
            with_reducible rfl
          apply W.seq
          apply W.run 20
          · intro M
            simp (config := { maxSteps := 4000000 }) (disch := first | decide +kernel | (rw [wantF_guard]; simp only [wantD_some, dstAt_zero, dstAt_succ, T.get_set, T.get_e, Nat.reduceEqDiff, if_true, if_false, wantV_bool, wantV_unit, unitV, cond_true, cond_false, Bool.not_true, Bool.not_false, List.toList_toArray]) | omega) only [c26b1, c26, Try.f26, Nat.ble, cond_true, cond_false, T.puts_cons, T.puts_nil, exec_seq, exec_block, nat_beq_self, exec_region, exec_cond, exec_skip, exec_ret, exec_exit, exec_scope, runOps_cons, runOps_nil, opF_move, opF_assign, opF_ari, opF_neq, opF_eql, opF_un, opF_index, opF_indexAddr, opF_fieldAddr, opF_field, opF_build, opF_slice, opF_extract, opF_pick, opF_load, opF_alloc, opF_box, opF_buildSlice, opF_makeSlice, opF_store, opF_conv, opF_len, opF_minmax, opF_builtin, opF_call, resK, ev_tmp, evG_some, ev_int, ev_bool, ev_str, evs, evp, evo, R.ok_bind, putT_some, putT_none, T.get_set, T.get_e, binF_int, op_rem, op_quo_u32, op_xor_u32, op_neq, op_eql, op_lss, op_add_i64, op_sub_u32, op_and_u8, op_xor_u8, op_not_u32, binF_shr_u32, binF_shr_u8, op_mul_i64, op_quo_i64, op_and_u32, binF_shl_u8, wrapF_u8, wrapF_u32, mod_u8, mod_u32, cond_val, Nat.lt_irrefl, Nat.not_lt_zero, if_true, if_false, reduceIte, Nat.reduceEqDiff, Nat.reduceAdd, ne_eq, not_true_eq_false, not_false_eq_true, decide_true, decide_false, Bool.false_eq_true, Bool.not_true, Bool.not_false, sub_nil, sub_seq0, sub_seq1, sub_cond0, sub_cond1, sub_block, sub_loop, sub_scope, sub_range0, sub_range1, Option.getD_some, at_ptr, at_slc, runOps_yes, runOps_no, exec_draw, op_sub_i64, op_sub_neg, op_lss_neg, binF_str, str_add, str_neq, str_eql, takeF, resF, oneOf, pickF, extractF, cells_str, cells_int, cells_agg, bool_eql, bool_neq, op_lssI, bne_self_eq_false, beq_self_eq_true, eq_self, cells_slc, cells_func, builtin_append, ev_nilslice, ev_nilfunc, ev_nilptr, ev_nilmap, opF_makeFunc, opF_callv, callV_func, callV_yield, op_leq, op_gtr, op_geq, cast_le, cast_lt, List.nil_append, List.cons_append, List.append_nil, un_not, g1, iy, lay, zero41, hs2]
            with_reducible rfl
          by_cases hv : ds[i] = ds'[i]
          · have hdt := decide_eq_true hv
            apply W.runG (g) 20
            · intro M hM
              simp (config := { maxSteps := 4000000 }) (disch := first | decide +kernel | (rw [wantF_guard]; simp only [wantD_some, dstAt_zero, dstAt_succ, T.get_set, T.get_e, Nat.reduceEqDiff, if_true, if_false, wantV_bool, wantV_unit, unitV, cond_true, cond_false, Bool.not_true, Bool.not_false, List.toList_toArray]) | omega) only [c26b1, c26, Try.f26, Nat.ble, cond_true, cond_false, T.puts_cons, T.puts_nil, exec_seq, exec_block, nat_beq_self, exec_region, exec_cond, exec_skip, exec_ret, exec_exit, exec_scope, runOps_cons, runOps_nil, opF_move, opF_assign, opF_ari, opF_neq, opF_eql, opF_un, opF_index, opF_indexAddr, opF_fieldAddr, opF_field, opF_build, opF_slice, opF_extract, opF_pick, opF_load, opF_alloc, opF_box, opF_buildSlice, opF_makeSlice, opF_store, opF_conv, opF_len, opF_minmax, opF_builtin, opF_call, resK, ev_tmp, evG_some, ev_int, ev_bool, ev_str, evs, evp, evo, R.ok_bind, putT_some, putT_none, T.get_set, T.get_e, binF_int, op_rem, op_quo_u32, op_xor_u32, op_neq, op_eql, op_lss, op_add_i64, op_sub_u32, op_and_u8, op_xor_u8, op_not_u32, binF_shr_u32, binF_shr_u8, op_mul_i64, op_quo_i64, op_and_u32, binF_shl_u8, wrapF_u8, wrapF_u32, mod_u8, mod_u32, cond_val, Nat.lt_irrefl, Nat.not_lt_zero, if_true, if_false, reduceIte, Nat.reduceEqDiff, Nat.reduceAdd, ne_eq, not_true_eq_false, not_false_eq_true, decide_true, decide_false, Bool.false_eq_true, Bool.not_true, Bool.not_false, sub_nil, sub_seq0, sub_seq1, sub_cond0, sub_cond1, sub_block, sub_loop, sub_scope, sub_range0, sub_range1, Option.getD_some, at_ptr, at_slc, runOps_yes, runOps_no, exec_draw, op_sub_i64, op_sub_neg, op_lss_neg, binF_str, str_add, str_neq, str_eql, takeF, resF, oneOf, pickF, extractF, cells_str, cells_int, cells_agg, bool_eql, bool_neq, op_lssI, bne_self_eq_false, beq_self_eq_true, eq_self, cells_slc, cells_func, builtin_append, ev_nilslice, ev_nilfunc, ev_nilptr, ev_nilmap, opF_makeFunc, opF_callv, callV_func, callV_yield, op_leq, op_gtr, op_geq, cast_le, cast_lt, List.nil_append, List.cons_append, List.append_nil, un_not, g2, laF, laF', hg, hdt]
              with_reducible rfl
            show W tb1 _ _ _
            apply W.run 20
            · intro M
              simp (config := { maxSteps := 4000000 }) (disch := first | decide +kernel | (rw [wantF_guard]; simp only [wantD_some, dstAt_zero, dstAt_succ, T.get_set, T.get_e, Nat.reduceEqDiff, if_true, if_false, wantV_bool, wantV_unit, unitV, cond_true, cond_false, Bool.not_true, Bool.not_false, List.toList_toArray]) | omega) only [c26b1, c26, Try.f26, Nat.ble, cond_true, cond_false, T.puts_cons, T.puts_nil, exec_seq, exec_block, nat_beq_self, exec_region, exec_cond, exec_skip, exec_ret, exec_exit, exec_scope, runOps_cons, runOps_nil, opF_move, opF_assign, opF_ari, opF_neq, opF_eql, opF_un, opF_index, opF_indexAddr, opF_fieldAddr, opF_field, opF_build, opF_slice, opF_extract, opF_pick, opF_load, opF_alloc, opF_box, opF_buildSlice, opF_makeSlice, opF_store, opF_conv, opF_len, opF_minmax, opF_builtin, opF_call, resK, ev_tmp, evG_some, ev_int, ev_bool, ev_str, evs, evp, evo, R.ok_bind, putT_some, putT_none, T.get_set, T.get_e, binF_int, op_rem, op_quo_u32, op_xor_u32, op_neq, op_eql, op_lss, op_add_i64, op_sub_u32, op_and_u8, op_xor_u8, op_not_u32, binF_shr_u32, binF_shr_u8, op_mul_i64, op_quo_i64, op_and_u32, binF_shl_u8, wrapF_u8, wrapF_u32, mod_u8, mod_u32, cond_val, Nat.lt_irrefl, Nat.not_lt_zero, if_true, if_false, reduceIte, Nat.reduceEqDiff, Nat.reduceAdd, ne_eq, not_true_eq_false, not_false_eq_true, decide_true, decide_false, Bool.false_eq_true, Bool.not_true, Bool.not_false, sub_nil, sub_seq0, sub_seq1, sub_cond0, sub_cond1, sub_block, sub_loop, sub_scope, sub_range0, sub_range1, Option.getD_some, at_ptr, at_slc, runOps_yes, runOps_no, exec_draw, op_sub_i64, op_sub_neg, op_lss_neg, binF_str, str_add, str_neq, str_eql, takeF, resF, oneOf, pickF, extractF, cells_str, cells_int, cells_agg, bool_eql, bool_neq, op_lssI, bne_self_eq_false, beq_self_eq_true, eq_self, cells_slc, cells_func, builtin_append, ev_nilslice, ev_nilfunc, ev_nilptr, ev_nilmap, opF_makeFunc, opF_callv, callV_func, callV_yield, op_leq, op_gtr, op_geq, cast_le, cast_lt, List.nil_append, List.cons_append, List.append_nil, un_not, g17]
              with_reducible rfl
            refine ⟨hlt, _, _, rfl, hEAF.trans hEG, ?_, ?_⟩
            · rw [List.take_succ_eq_append_getElem hlt, List.take_succ_eq_append_getElem hlt', he, hv]
            · simp only [Sl_cons, Sl_nil, T.get_set, T.puts_cons, T.puts_nil, Nat.reduceEqDiff, Nat.reduceAdd, if_true, if_false, and_true, true_and, g0, g1, g2, g15, g16]
          · have hdt := decide_eq_false hv
            apply W.runG (g) 20
            · intro M hM
              simp (config := { maxSteps := 4000000 }) (disch := first | decide +kernel | (rw [wantF_guard]; simp only [wantD_some, dstAt_zero, dstAt_succ, T.get_set, T.get_e, Nat.reduceEqDiff, if_true, if_false, wantV_bool, wantV_unit, unitV, cond_true, cond_false, Bool.not_true, Bool.not_false, List.toList_toArray]) | omega) only [c26b1, c26, Try.f26, Nat.ble, cond_true, cond_false, T.puts_cons, T.puts_nil, exec_seq, exec_block, nat_beq_self, exec_region, exec_cond, exec_skip, exec_ret, exec_exit, exec_scope, runOps_cons, runOps_nil, opF_move, opF_assign, opF_ari, opF_neq, opF_eql, opF_un, opF_index, opF_indexAddr, opF_fieldAddr, opF_field, opF_build, opF_slice, opF_extract, opF_pick, opF_load, opF_alloc, opF_box, opF_buildSlice, opF_makeSlice, opF_store, opF_conv, opF_len, opF_minmax, opF_builtin, opF_call, resK, ev_tmp, evG_some, ev_int, ev_bool, ev_str, evs, evp, evo, R.ok_bind, putT_some, putT_none, T.get_set, T.get_e, binF_int, op_rem, op_quo_u32, op_xor_u32, op_neq, op_eql, op_lss, op_add_i64, op_sub_u32, op_and_u8, op_xor_u8, op_not_u32, binF_shr_u32, binF_shr_u8, op_mul_i64, op_quo_i64, op_and_u32, binF_shl_u8, wrapF_u8, wrapF_u32, mod_u8, mod_u32, cond_val, Nat.lt_irrefl, Nat.not_lt_zero, if_true, if_false, reduceIte, Nat.reduceEqDiff, Nat.reduceAdd, ne_eq, not_true_eq_false, not_false_eq_true, decide_true, decide_false, Bool.false_eq_true, Bool.not_true, Bool.not_false, sub_nil, sub_seq0, sub_seq1, sub_cond0, sub_cond1, sub_block, sub_loop, sub_scope, sub_range0, sub_range1, Option.getD_some, at_ptr, at_slc, runOps_yes, runOps_no, exec_draw, op_sub_i64, op_sub_neg, op_lss_neg, binF_str, str_add, str_neq, str_eql, takeF, resF, oneOf, pickF, extractF, cells_str, cells_int, cells_agg, bool_eql, bool_neq, op_lssI, bne_self_eq_false, beq_self_eq_true, eq_self, cells_slc, cells_func, builtin_append, ev_nilslice, ev_nilfunc, ev_nilptr, ev_nilmap, opF_makeFunc, opF_callv, callV_func, callV_yield, op_leq, op_gtr, op_geq, cast_le, cast_lt, List.nil_append, List.cons_append, List.append_nil, un_not, g2, laF, laF', hg, hdt]
              with_reducible rfl
            refine ⟨.inr rfl, _, [.bool false], rfl, ?_, ?_, hEAF.trans hEG⟩
            · simp only [Try.f26, resF, ev_tmp, T.get_set, Nat.reduceEqDiff, if_true, if_false, evG_some, R.ok_bind]
            · have : ds ≠ ds' := fun h => hv (by subst h; rfl)
              show Value.bool false = _
              rw [decide_eq_false this]
        · have hin : i = ds.length := by omega
          subst hin
          apply W.run 20
          · intro M
            simp (config := { maxSteps := 4000000 }) (disch := first | decide +kernel | (rw [wantF_guard]; simp only [wantD_some, dstAt_zero, dstAt_succ, T.get_set, T.get_e, Nat.reduceEqDiff, if_true, if_false, wantV_bool, wantV_unit, unitV, cond_true, cond_false, Bool.not_true, Bool.not_false, List.toList_toArray]) | omega) only [c26b1, c26, Try.f26, Nat.ble, cond_true, cond_false, T.puts_cons, T.puts_nil, exec_seq, exec_block, nat_beq_self, exec_region, exec_cond, exec_skip, exec_ret, exec_exit, exec_scope, runOps_cons, runOps_nil, opF_move, opF_assign, opF_ari, opF_neq, opF_eql, opF_un, opF_index, opF_indexAddr, opF_fieldAddr, opF_field, opF_build, opF_slice, opF_extract, opF_pick, opF_load, opF_alloc, opF_box, opF_buildSlice, opF_makeSlice, opF_store, opF_conv, opF_len, opF_minmax, opF_builtin, opF_call, resK, ev_tmp, evG_some, ev_int, ev_bool, ev_str, evs, evp, evo, R.ok_bind, putT_some, putT_none, T.get_set, T.get_e, binF_int, op_rem, op_quo_u32, op_xor_u32, op_neq, op_eql, op_lss, op_add_i64, op_sub_u32, op_and_u8, op_xor_u8, op_not_u32, binF_shr_u32, binF_shr_u8, op_mul_i64, op_quo_i64, op_and_u32, binF_shl_u8, wrapF_u8, wrapF_u32, mod_u8, mod_u32, cond_val, Nat.lt_irrefl, Nat.not_lt_zero, if_true, if_false, reduceIte, Nat.reduceEqDiff, Nat.reduceAdd, ne_eq, not_true_eq_false, not_false_eq_true, decide_true, decide_false, Bool.false_eq_true, Bool.not_true, Bool.not_false, sub_nil, sub_seq0, sub_seq1, sub_cond0, sub_cond1, sub_block, sub_loop, sub_scope, sub_range0, sub_range1, Option.getD_some, at_ptr, at_slc, runOps_yes, runOps_no, exec_draw, op_sub_i64, op_sub_neg, op_lss_neg, binF_str, str_add, str_neq, str_eql, takeF, resF, oneOf, pickF, extractF, cells_str, cells_int, cells_agg, bool_eql, bool_neq, op_lssI, bne_self_eq_false, beq_self_eq_true, eq_self, cells_slc, cells_func, builtin_append, ev_nilslice, ev_nilfunc, ev_nilptr, ev_nilmap, opF_makeFunc, opF_callv, callV_func, callV_yield, op_leq, op_gtr, op_geq, cast_le, cast_lt, List.nil_append, List.cons_append, List.append_nil, un_not, g16, g17]
            with_reducible rfl
          show W tb1 _ _ _
          apply W.seq
          apply W.run 20
          · intro M
            simp (config := { maxSteps := 4000000 }) (disch := first | decide +kernel | (rw [wantF_guard]; simp only [wantD_some, dstAt_zero, dstAt_succ, T.get_set, T.get_e, Nat.reduceEqDiff, if_true, if_false, wantV_bool, wantV_unit, unitV, cond_true, cond_false, Bool.not_true, Bool.not_false, List.toList_toArray]) | omega) only [c26, Try.f26, Nat.ble, cond_true, cond_false, T.puts_cons, T.puts_nil, exec_seq, exec_block, nat_beq_self, exec_region, exec_cond, exec_skip, exec_ret, exec_exit, exec_scope, runOps_cons, runOps_nil, opF_move, opF_assign, opF_ari, opF_neq, opF_eql, opF_un, opF_index, opF_indexAddr, opF_fieldAddr, opF_field, opF_build, opF_slice, opF_extract, opF_pick, opF_load, opF_alloc, opF_box, opF_buildSlice, opF_makeSlice, opF_store, opF_conv, opF_len, opF_minmax, opF_builtin, opF_call, resK, ev_tmp, evG_some, ev_int, ev_bool, ev_str, evs, evp, evo, R.ok_bind, putT_some, putT_none, T.get_set, T.get_e, binF_int, op_rem, op_quo_u32, op_xor_u32, op_neq, op_eql, op_lss, op_add_i64, op_sub_u32, op_and_u8, op_xor_u8, op_not_u32, binF_shr_u32, binF_shr_u8, op_mul_i64, op_quo_i64, op_and_u32, binF_shl_u8, wrapF_u8, wrapF_u32, mod_u8, mod_u32, cond_val, Nat.lt_irrefl, Nat.not_lt_zero, if_true, if_false, reduceIte, Nat.reduceEqDiff, Nat.reduceAdd, ne_eq, not_true_eq_false, not_false_eq_true, decide_true, decide_false, Bool.false_eq_true, Bool.not_true, Bool.not_false, sub_nil, sub_seq0, sub_seq1, sub_cond0, sub_cond1, sub_block, sub_loop, sub_scope, sub_range0, sub_range1, Option.getD_some, at_ptr, at_slc, runOps_yes, runOps_no, exec_draw, op_sub_i64, op_sub_neg, op_lss_neg, binF_str, str_add, str_neq, str_eql, takeF, resF, oneOf, pickF, extractF, cells_str, cells_int, cells_agg, bool_eql, bool_neq, op_lssI, bne_self_eq_false, beq_self_eq_true, eq_self, cells_slc, cells_func, builtin_append, ev_nilslice, ev_nilfunc, ev_nilptr, ev_nilmap, opF_makeFunc, opF_callv, callV_func, callV_yield, op_leq, op_gtr, op_geq, cast_le, cast_lt, List.nil_append, List.cons_append, List.append_nil, un_not]
            with_reducible rfl
          apply W.run 20
          · intro M
            simp (config := { maxSteps := 4000000 }) (disch := first | decide +kernel | (rw [wantF_guard]; simp only [wantD_some, dstAt_zero, dstAt_succ, T.get_set, T.get_e, Nat.reduceEqDiff, if_true, if_false, wantV_bool, wantV_unit, unitV, cond_true, cond_false, Bool.not_true, Bool.not_false, List.toList_toArray]) | omega) only [c26, Try.f26, Nat.ble, cond_true, cond_false, T.puts_cons, T.puts_nil, exec_seq, exec_block, nat_beq_self, exec_region, exec_cond, exec_skip, exec_ret, exec_exit, exec_scope, runOps_cons, runOps_nil, opF_move, opF_assign, opF_ari, opF_neq, opF_eql, opF_un, opF_index, opF_indexAddr, opF_fieldAddr, opF_field, opF_build, opF_slice, opF_extract, opF_pick, opF_load, opF_alloc, opF_box, opF_buildSlice, opF_makeSlice, opF_store, opF_conv, opF_len, opF_minmax, opF_builtin, opF_call, resK, ev_tmp, evG_some, ev_int, ev_bool, ev_str, evs, evp, evo, R.ok_bind, putT_some, putT_none, T.get_set, T.get_e, binF_int, op_rem, op_quo_u32, op_xor_u32, op_neq, op_eql, op_lss, op_add_i64, op_sub_u32, op_and_u8, op_xor_u8, op_not_u32, binF_shr_u32, binF_shr_u8, op_mul_i64, op_quo_i64, op_and_u32, binF_shl_u8, wrapF_u8, wrapF_u32, mod_u8, mod_u32, cond_val, Nat.lt_irrefl, Nat.not_lt_zero, if_true, if_false, reduceIte, Nat.reduceEqDiff, Nat.reduceAdd, ne_eq, not_true_eq_false, not_false_eq_true, decide_true, decide_false, Bool.false_eq_true, Bool.not_true, Bool.not_false, sub_nil, sub_seq0, sub_seq1, sub_cond0, sub_cond1, sub_block, sub_loop, sub_scope, sub_range0, sub_range1, Option.getD_some, at_ptr, at_slc, runOps_yes, runOps_no, exec_draw, op_sub_i64, op_sub_neg, op_lss_neg, binF_str, str_add, str_neq, str_eql, takeF, resF, oneOf, pickF, extractF, cells_str, cells_int, cells_agg, bool_eql, bool_neq, op_lssI, bne_self_eq_false, beq_self_eq_true, eq_self, cells_slc, cells_func, builtin_append, ev_nilslice, ev_nilfunc, ev_nilptr, ev_nilmap, opF_makeFunc, opF_callv, callV_func, callV_yield, op_leq, op_gtr, op_geq, cast_le, cast_lt, List.nil_append, List.cons_append, List.append_nil, un_not]
            with_reducible rfl
          refine ⟨.inr rfl, _, [.bool true], rfl, ?_, ?_, hE⟩
          · simp only [Try.f26, resF, ev_tmp, T.get_set, Nat.reduceEqDiff, if_true, if_false, evG_some, R.ok_bind]
          · rw [List.take_length, hl, List.take_length] at he
            show Value.bool true = _
            rw [decide_eq_true he]
      · simp only [Sl_cons, Sl_nil, T.get_set, T.puts_cons, T.puts_nil, Nat.reduceEqDiff, Nat.reduceAdd, if_true, if_false, and_true, true_and]
    · apply W.run 20
      · intro M
        simp (config := { maxSteps := 4000000 }) (disch := first | decide +kernel | (rw [wantF_guard]; simp only [wantD_some, dstAt_zero, dstAt_succ, T.get_set, T.get_e, Nat.reduceEqDiff, if_true, if_false, wantV_bool, wantV_unit, unitV, cond_true, cond_false, Bool.not_true, Bool.not_false, List.toList_toArray]) | omega) only [c26, Try.f26, Nat.ble, cond_true, cond_false, T.puts_cons, T.puts_nil, exec_seq, exec_block, nat_beq_self, exec_region, exec_cond, exec_skip, exec_ret, exec_exit, exec_scope, runOps_cons, runOps_nil, opF_move, opF_assign, opF_ari, opF_neq, opF_eql, opF_un, opF_index, opF_indexAddr, opF_fieldAddr, opF_field, opF_build, opF_slice, opF_extract, opF_pick, opF_load, opF_alloc, opF_box, opF_buildSlice, opF_makeSlice, opF_store, opF_conv, opF_len, opF_minmax, opF_builtin, opF_call, resK, ev_tmp, evG_some, ev_int, ev_bool, ev_str, evs, evp, evo, R.ok_bind, putT_some, putT_none, T.get_set, T.get_e, binF_int, op_rem, op_quo_u32, op_xor_u32, op_neq, op_eql, op_lss, op_add_i64, op_sub_u32, op_and_u8, op_xor_u8, op_not_u32, binF_shr_u32, binF_shr_u8, op_mul_i64, op_quo_i64, op_and_u32, binF_shl_u8, wrapF_u8, wrapF_u32, mod_u8, mod_u32, cond_val, Nat.lt_irrefl, Nat.not_lt_zero, if_true, if_false, reduceIte, Nat.reduceEqDiff, Nat.reduceAdd, ne_eq, not_true_eq_false, not_false_eq_true, decide_true, decide_false, Bool.false_eq_true, Bool.not_true, Bool.not_false, sub_nil, sub_seq0, sub_seq1, sub_cond0, sub_cond1, sub_block, sub_loop, sub_scope, sub_range0, sub_range1, Option.getD_some, at_ptr, at_slc, runOps_yes, runOps_no, exec_draw, op_sub_i64, op_sub_neg, op_lss_neg, binF_str, str_add, str_neq, str_eql, takeF, resF, oneOf, pickF, extractF, cells_str, cells_int, cells_agg, bool_eql, bool_neq, op_lssI, bne_self_eq_false, beq_self_eq_true, eq_self, cells_slc, cells_func, builtin_append, ev_nilslice, ev_nilfunc, ev_nilptr, ev_nilmap, opF_makeFunc, opF_callv, callV_func, callV_yield, op_leq, op_gtr, op_geq, cast_le, cast_lt, List.nil_append, List.cons_append, List.append_nil, un_not, lx, ly, op_neqI, hl, Int.natCast_inj]
        with_reducible rfl
      refine ⟨.inr rfl, _, [.bool false], rfl, ?_, ?_, Ext.refl A⟩
      · simp only [Try.f26, resF, ev_tmp, T.get_set, Nat.reduceEqDiff, if_true, if_false, evG_some, R.ok_bind]
      · have : ds ≠ ds' := fun h => hl (by rw [h])
        show Value.bool false = _
        rw [decide_eq_false this]
  exact ⟨A', ha, he⟩
end Go.Proofs.Ytmhldlnlgjpkaaa.scr

/-
  Script: whether two settings are alike, whole.
-/
namespace Go.Proofs.Ytmhldlnlgjpkaaa.scr
open Go.Am
set_option linter.unusedSimpArgs false

/-- An act; any numbers. -/
structure ActG where
  kind : Int
  word : List UInt8
  weight : Nat
  k : Int
  n : Int
  arm : Int
  cut : Bool
  stays : List Nat
  opening : List (Int × List Nat)
theorem ActG.all_inj {a b : ActG} : (a.kind = b.kind ∧ a.word = b.word ∧ a.weight = b.weight ∧ a.k = b.k ∧ a.n = b.n ∧ a.arm = b.arm ∧ a.cut = b.cut ∧ a.stays = b.stays ∧ a.opening = b.opening) ↔ a = b := by
  cases a; cases b
  simp only [ActG.mk.injEq]
instance : DecidableEq ActG := fun _ _ => decidable_of_iff _ ActG.all_inj
def cellsG (d : ActG) (xs xo : Value) : List Value :=
  [.int .i64 d.kind, strOf d.word, .int .u32 (d.weight : Int), .int .i64 d.k, .int .i64 d.n, .int .i64 d.arm, .bool d.cut, xs, xo]
def ActGR (A : Mem) (d : ActG) (l : List Value) : Prop := ∃ xs xo, l = cellsG d xs xo ∧ StR (fun _ => True) A d.stays xs ∧ d.stays.length ≤ 1000 ∧ OpsG A d.opening xo
theorem ActGR.ext {A A' : Mem} {d : ActG} {l : List Value} (h : ActGR A d l) (e : Ext A A') : ActGR A' d l := by
  obtain ⟨xs, xo, h1, h2, h3, h4⟩ := h
  exact ⟨xs, xo, h1, h2.ext e, h3, h4.ext e⟩
theorem ActGR.cells {A : Mem} {d : ActG} {l : List Value} (h : ActGR A d l) : l.length = 9 ∧ ∀ v ∈ l, oneCell v = true := by
  obtain ⟨xs, xo, rfl, h2, -, h3⟩ := h
  refine ⟨rfl, fun v hv => ?_⟩
  simp only [cellsG, List.mem_cons, List.not_mem_nil, or_false] at hv
  rcases hv with rfl | rfl | rfl | rfl | rfl | rfl | rfl | rfl | rfl <;> first | rfl | exact h2.cells.2 | exact h3.cells.2
def ActsG (A : Mem) (ds : List ActG) (x : Value) : Prop :=
  ∃ ls b, RowM A 39 9 b ls x ∧ ls.length = ds.length ∧ ds.length ≤ 1000 ∧ ∀ (i : Nat) (d : ActG) (l : List Value), ds[i]? = some d → ls[i]? = some l → ActGR A d l
theorem ActsG.ext {A A' : Mem} {ds : List ActG} {x : Value} (h : ActsG A ds x) (e : Ext A A') : ActsG A' ds x := by
  obtain ⟨ls, b, h1, h2, h3, h4⟩ := h
  exact ⟨ls, b, h1.same e.n (fun hb => e.g b hb), h2, h3, fun i d l hd hl => (h4 i d l hd hl).ext e⟩
theorem ActsG.len {A : Mem} {ds : List ActG} {x : Value} (h : ActsG A ds x) : builtinPF tb1 .len [26] [x] = .ok (.int .i64 ((ds.length : Nat) : Int)) := by
  obtain ⟨ls, b, h1, h2, -⟩ := h
  rw [h1.len (tb := tb1) (t := 26) und26, h2]
theorem ActsG.cells {A : Mem} {ds : List ActG} {x : Value} (h : ActsG A ds x) : x.cells.toList = [x] ∧ oneCell x = true := by
  obtain ⟨ls, b, h1, -⟩ := h
  exact h1.cells
theorem ActsG.cut {A : Mem} {ds : List ActG} {x : Value} (h : ActsG A ds x) {m : Nat} (hm : m ≤ ds.length) : ∃ x', sliceF tb1 26 x none (some (.int .i64 (m : Int))) none = .ok x' ∧ ActsG A (ds.take m) x' := by
  obtain ⟨ls, b, h1, h2, h3, h4⟩ := h
  obtain ⟨x', hs, hr⟩ := h1.cut (tb := tb1) (t := 26) (t' := 39) und26 size39 (show m ≤ ls.length by omega)
  refine ⟨x', hs, ls.take m, b, hr, by simp only [List.length_take]; omega, by simp only [List.length_take]; omega, fun i d l hd hl => ?_⟩
  rw [List.getElem?_take] at hd hl
  split at hd
  · rename_i hi
    rw [if_pos hi] at hl
    exact h4 i d l hd hl
  · cases hd

/-! ### '==' of what an act does, and of configurations -/
theorem shape35 : fieldsOf (tb1.und 35) = [(false, 3, 0), (false, 9, 1), (false, 33, 2), (false, 3, 3), (false, 3, 4)] := by kernel_rfl
theorem shape25 : fieldsOf (tb1.und 25) = [(false, 3, 0), (false, 3, 1)] := by kernel_rfl
theorem eqm35 (x y : Operand) (a b : Array Value) : eqMay tb1 35 x y (.agg a) (.agg b) = true := by
  show (!tb1.P.eqGuardType tb1.P.depth 35) = true
  have : tb1.P.eqGuardType tb1.P.depth 35 = false := by decide +kernel
  rw [this]; rfl
theorem eqm25 (x y : Operand) (a b : Array Value) : eqMay tb1 25 x y (.agg a) (.agg b) = true := by
  show (!tb1.P.eqGuardType tb1.P.depth 25) = true
  have : tb1.P.eqGuardType tb1.P.depth 25 = false := by decide +kernel
  rw [this]; rfl
theorem eq35 {g : Nat → Option Ob} {x y : Operand} {a0 a3 a4 b0 b3 b4 : Int} {a1 b1 : List UInt8} {a2 b2 : Nat} :
    eqF tb1 g .eql 35 x y (.agg ⟨[.int .i64 a0, strOf a1, .int .u32 (a2 : Int), .int .i64 a3, .int .i64 a4]⟩) (.agg ⟨[.int .i64 b0, strOf b1, .int .u32 (b2 : Int), .int .i64 b3, .int .i64 b4]⟩) = .ok (.bool (decide (a0 = b0 ∧ a1 = b1 ∧ a2 = b2 ∧ a3 = b3 ∧ a4 = b4))) := by
  unfold eqF
  rw [eqm35, cond_true]
  simp only []
  rw [equal_struct (by kernel_rfl) shape35 (by kernel_rfl)]
  simp only [fieldsEqS, cond_false]
  rw [part_one und3 rfl rfl, part_one und3 rfl rfl, part_one und9 rfl rfl, part_one und9 rfl rfl, part_one und33 rfl rfl, part_one und33 rfl rfl, part_one (o := 3) und3 rfl rfl, part_one (o := 3) und3 rfl rfl, part_one (o := 4) und3 rfl rfl, part_one (o := 4) und3 rfl rfl]
  simp only [R.ok_bind, equal_int (tb := tb1) (t := 3) und3, equal_int (tb := tb1) (t := 33) und33, equal_str (tb := tb1) (t := 9) und9]
  have hh : ((a2 : Int) = (b2 : Int)) = (a2 = b2) := propext Int.natCast_inj
  simp only [hh]
  by_cases h0 : a0 = b0 <;> by_cases h1 : a1 = b1 <;> by_cases h2 : a2 = b2 <;> by_cases h3 : a3 = b3 <;> by_cases h4 : a4 = b4 <;> simp [h0, h1, h2, h3, h4, R.ok_bind]
theorem eq25 {op : BinOp} {g : Nat → Option Ob} {x y : Operand} {a0 a1 b0 b1 : Int} (ho : op = .eql) :
    eqF tb1 g op 25 x y (.agg ⟨[.int .i64 a0, .int .i64 a1]⟩) (.agg ⟨[.int .i64 b0, .int .i64 b1]⟩) = .ok (.bool (decide (a0 = b0 ∧ a1 = b1))) := by
  subst ho
  unfold eqF
  rw [eqm25, cond_true]
  simp only []
  rw [equal_struct (by kernel_rfl) shape25 (by kernel_rfl)]
  simp only [fieldsEqS, cond_false]
  rw [part_one und3 rfl rfl, part_one und3 rfl rfl, part_one (o := 1) und3 rfl rfl, part_one (o := 1) und3 rfl rfl]
  simp only [R.ok_bind, equal_int (tb := tb1) (t := 3) und3]
  by_cases h0 : a0 = b0 <;> by_cases h1 : a1 = b1 <;> simp [h0, h1, R.ok_bind]
end Go.Proofs.Ytmhldlnlgjpkaaa.scr

/-
  Script: whether two acts, two settings are alike.
-/
namespace Go.Proofs.Ytmhldlnlgjpkaaa.scr
open Go.Am
set_option linter.unusedSimpArgs false
set_option maxRecDepth 20000

theorem und35 : ∃ d, tb1.und 35 = some d ∧ isAggD d = true := by
  have h : (tb1.und 35).map isAggD = some true := by kernel_rfl
  cases hq : tb1.und 35 with
  | none => rw [hq] at h; cases h
  | some d => rw [hq] at h; exact ⟨d, rfl, by simpa using h⟩
theorem size35 : sizeF tb1 35 = .ok 5 := by kernel_rfl
theorem und72 : ∃ d, tb1.und 72 = some d ∧ isAggD d = false := by
  have h : (tb1.und 72).map isAggD = some false := by kernel_rfl
  cases hq : tb1.und 72 with
  | none => rw [hq] at h; cases h
  | some d => rw [hq] at h; exact ⟨d, rfl, by simpa using h⟩
noncomputable def c25 : Code := Try.f25.body.getD .skip
theorem c25_eq : Try.f25.body = some (.seq (sub c25 [0]) (.seq (sub c25 [1,0]) (sub c25 [1,1]))) := by kernel_rfl
set_option maxHeartbeats 4000000 in
theorem run_actEq {A : Mem} {bc : Nat} {d d' : ActG} {l l' : List Value} (hbc : bc < A.next) (hcl : Vals A 72 bc (.var 1) [.func (.func 23) ⟨[]⟩ ⟨[]⟩]) (h : ActGR A d l) (h' : ActGR A d' l') :
    ∃ A', Ans tb1 25 [.agg ⟨l⟩, .agg ⟨l'⟩, .pointer (some ⟨bc, 0, none⟩)] A (.bool (decide (d = d'))) A' ∧ Ext A A' := by
  obtain ⟨xs, xo, rfl, k2, k3, k4⟩ := h
  obtain ⟨ys, yo, rfl, k2', k3', k4'⟩ := h'
  obtain ⟨v, A', ha, rfl, he⟩ : ∃ v A', Ans tb1 25 [.agg ⟨cellsG d xs xo⟩, .agg ⟨cellsG d' ys yo⟩, .pointer (some ⟨bc, 0, none⟩)] A v A' ∧ v = .bool (decide (d = d')) ∧ Ext A A' := by
    refine ans_of_W (fn_at Try.func25) c25_eq (by rw [Try.ntmps25]; simp) (by kernel_rfl) (by kernel_rfl) ?_
    have hv0 : Vals ((A.alloc (rowOb 39 (cellsG d xs xo))).alloc (rowOb 39 (cellsG d' ys yo))) 39 A.next (.var 9) (cellsG d xs xo) := (Go.Am.vals_new A 39 _).same (get_alloc_ne (by rw [next_alloc]; omega))
    have hv1 : Vals ((A.alloc (rowOb 39 (cellsG d xs xo))).alloc (rowOb 39 (cellsG d' ys yo))) 39 (A.next + 1) (.var 9) (cellsG d' ys yo) := Go.Am.vals_new (A.alloc _) 39 _
    have hE : Ext A ((A.alloc (rowOb 39 (cellsG d xs xo))).alloc (rowOb 39 (cellsG d' ys yo))) := (Ext.alloc A _).trans (Ext.alloc _ _)
    obtain ⟨d35, hd1, hd2⟩ := und35
    obtain ⟨d72, hd3, hd4⟩ := und72
    have a0 := load_part (tb := tb1) (t := 35) (o := 0) (n := 5) hd1 hd2 size35 hv0 (by show 5 ≤ 9; omega)
    rw [show ((cellsG d xs xo).drop 0).take 5 = [.int .i64 d.kind, strOf d.word, .int .u32 (d.weight : Int), .int .i64 d.k, .int .i64 d.n] from rfl] at a0
    have a1 := load_vals (tb := tb1) (t := 3) und3 rfl hv0 (show (cellsG d xs xo)[5]? = _ from rfl)
    have a2 := load_vals (tb := tb1) (t := 4) und4 rfl hv0 (show (cellsG d xs xo)[6]? = _ from rfl)
    have a3 := load_vals (tb := tb1) (t := 36) und36 rfl hv0 (show (cellsG d xs xo)[7]? = _ from rfl)
    have a4 := load_vals (tb := tb1) (t := 37) und37 rfl hv0 (show (cellsG d xs xo)[8]? = _ from rfl)
    have b0 := load_part (tb := tb1) (t := 35) (o := 0) (n := 5) hd1 hd2 size35 hv1 (by show 5 ≤ 9; omega)
    rw [show ((cellsG d' ys yo).drop 0).take 5 = [.int .i64 d'.kind, strOf d'.word, .int .u32 (d'.weight : Int), .int .i64 d'.k, .int .i64 d'.n] from rfl] at b0
    have b1 := load_vals (tb := tb1) (t := 3) und3 rfl hv1 (show (cellsG d' ys yo)[5]? = _ from rfl)
    have b2 := load_vals (tb := tb1) (t := 4) und4 rfl hv1 (show (cellsG d' ys yo)[6]? = _ from rfl)
    have b3 := load_vals (tb := tb1) (t := 36) und36 rfl hv1 (show (cellsG d' ys yo)[7]? = _ from rfl)
    have b4 := load_vals (tb := tb1) (t := 37) und37 rfl hv1 (show (cellsG d' ys yo)[8]? = _ from rfl)
    have hcl' := load_box (tb := tb1) (t := 72) hd3 hd4 (hcl.same (hE.g _ hbc))
    obtain ⟨g1, hg1⟩ := run_eqs k3 (k2.ext hE) (k2'.ext hE)
    obtain ⟨F, ⟨g2, hg2⟩, hEF⟩ := run_eqOps (k4.ext hE) (k4'.ext hE)
    apply W.seq
    apply W.run 20
    · intro M
      simp (config := { maxSteps := 4000000 }) (disch := first | decide +kernel | (rw [wantF_guard]; simp only [wantD_some, dstAt_zero, dstAt_succ, T.get_set, T.get_e, Nat.reduceEqDiff, if_true, if_false, wantV_bool, wantV_unit, unitV, cond_true, cond_false, Bool.not_true, Bool.not_false, List.toList_toArray]) | omega) only [c25, Try.f25, Nat.ble, cond_true, cond_false, T.puts_cons, T.puts_nil, exec_seq, exec_block, nat_beq_self, exec_region, exec_cond, exec_skip, exec_ret, exec_exit, exec_scope, runOps_cons, runOps_nil, opF_move, opF_assign, opF_ari, opF_neq, opF_eql, opF_un, opF_index, opF_indexAddr, opF_fieldAddr, opF_field, opF_build, opF_slice, opF_extract, opF_pick, opF_load, opF_alloc, opF_box, opF_buildSlice, opF_makeSlice, opF_store, opF_conv, opF_len, opF_minmax, opF_builtin, opF_call, resK, ev_tmp, evG_some, ev_int, ev_bool, ev_str, evs, evp, evo, R.ok_bind, putT_some, putT_none, T.get_set, T.get_e, binF_int, op_rem, op_quo_u32, op_xor_u32, op_neq, op_eql, op_lss, op_add_i64, op_sub_u32, op_and_u8, op_xor_u8, op_not_u32, binF_shr_u32, binF_shr_u8, op_mul_i64, op_quo_i64, op_and_u32, binF_shl_u8, wrapF_u8, wrapF_u32, mod_u8, mod_u32, cond_val, Nat.lt_irrefl, Nat.not_lt_zero, if_true, if_false, reduceIte, Nat.reduceEqDiff, Nat.reduceAdd, ne_eq, not_true_eq_false, not_false_eq_true, decide_true, decide_false, Bool.false_eq_true, Bool.not_true, Bool.not_false, sub_nil, sub_seq0, sub_seq1, sub_cond0, sub_cond1, sub_block, sub_loop, sub_scope, sub_range0, sub_range1, Option.getD_some, at_ptr, at_slc, runOps_yes, runOps_no, exec_draw, op_sub_i64, op_sub_neg, op_lss_neg, binF_str, str_add, str_neq, str_eql, takeF, resF, oneOf, pickF, extractF, cells_str, cells_int, cells_agg, bool_eql, bool_neq, op_lssI, bne_self_eq_false, beq_self_eq_true, eq_self, cells_slc, cells_func, builtin_append, ev_nilslice, ev_nilfunc, ev_nilptr, ev_nilmap, opF_makeFunc, opF_callv, callV_func, callV_yield, op_leq, op_gtr, op_geq, cast_le, cast_lt, List.nil_append, List.cons_append, List.append_nil, un_not]
      with_reducible rfl
    apply W.seq
    by_cases h1 : d.kind = d'.kind ∧ d.word = d'.word ∧ d.weight = d'.weight ∧ d.k = d'.k ∧ d.n = d'.n
    rotate_left
    · have t1 : decide (d.kind = d'.kind ∧ d.word = d'.word ∧ d.weight = d'.weight ∧ d.k = d'.k ∧ d.n = d'.n) = false := decide_eq_false h1
      apply W.run 20
      · intro M
        simp (config := { maxSteps := 4000000 }) (disch := first | decide +kernel | (rw [wantF_guard]; simp only [wantD_some, dstAt_zero, dstAt_succ, T.get_set, T.get_e, Nat.reduceEqDiff, if_true, if_false, wantV_bool, wantV_unit, unitV, cond_true, cond_false, Bool.not_true, Bool.not_false, List.toList_toArray]) | omega) only [c25, Try.f25, Nat.ble, cond_true, cond_false, T.puts_cons, T.puts_nil, exec_seq, exec_block, nat_beq_self, exec_region, exec_cond, exec_skip, exec_ret, exec_exit, exec_scope, runOps_cons, runOps_nil, opF_move, opF_assign, opF_ari, opF_neq, opF_eql, opF_un, opF_index, opF_indexAddr, opF_fieldAddr, opF_field, opF_build, opF_slice, opF_extract, opF_pick, opF_load, opF_alloc, opF_box, opF_buildSlice, opF_makeSlice, opF_store, opF_conv, opF_len, opF_minmax, opF_builtin, opF_call, resK, ev_tmp, evG_some, ev_int, ev_bool, ev_str, evs, evp, evo, R.ok_bind, putT_some, putT_none, T.get_set, T.get_e, binF_int, op_rem, op_quo_u32, op_xor_u32, op_neq, op_eql, op_lss, op_add_i64, op_sub_u32, op_and_u8, op_xor_u8, op_not_u32, binF_shr_u32, binF_shr_u8, op_mul_i64, op_quo_i64, op_and_u32, binF_shl_u8, wrapF_u8, wrapF_u32, mod_u8, mod_u32, cond_val, Nat.lt_irrefl, Nat.not_lt_zero, if_true, if_false, reduceIte, Nat.reduceEqDiff, Nat.reduceAdd, ne_eq, not_true_eq_false, not_false_eq_true, decide_true, decide_false, Bool.false_eq_true, Bool.not_true, Bool.not_false, sub_nil, sub_seq0, sub_seq1, sub_cond0, sub_cond1, sub_block, sub_loop, sub_scope, sub_range0, sub_range1, Option.getD_some, at_ptr, at_slc, runOps_yes, runOps_no, exec_draw, op_sub_i64, op_sub_neg, op_lss_neg, binF_str, str_add, str_neq, str_eql, takeF, resF, oneOf, pickF, extractF, cells_str, cells_int, cells_agg, bool_eql, bool_neq, op_lssI, bne_self_eq_false, beq_self_eq_true, eq_self, cells_slc, cells_func, builtin_append, ev_nilslice, ev_nilfunc, ev_nilptr, ev_nilmap, opF_makeFunc, opF_callv, callV_func, callV_yield, op_leq, op_gtr, op_geq, cast_le, cast_lt, List.nil_append, List.cons_append, List.append_nil, un_not, next_alloc, fa39_0, fa39_1, fa39_2, fa39_3, fa39_4, a0, a1, a2, a3, a4, b0, b1, b2, b3, b4, und3, und4, op_eqlI, opF_eqlR, eq35, hcl', t1]
        with_reducible rfl
      apply W.run 20
      · intro M
        simp (config := { maxSteps := 4000000 }) (disch := first | decide +kernel | (rw [wantF_guard]; simp only [wantD_some, dstAt_zero, dstAt_succ, T.get_set, T.get_e, Nat.reduceEqDiff, if_true, if_false, wantV_bool, wantV_unit, unitV, cond_true, cond_false, Bool.not_true, Bool.not_false, List.toList_toArray]) | omega) only [c25, Try.f25, Nat.ble, cond_true, cond_false, T.puts_cons, T.puts_nil, exec_seq, exec_block, nat_beq_self, exec_region, exec_cond, exec_skip, exec_ret, exec_exit, exec_scope, runOps_cons, runOps_nil, opF_move, opF_assign, opF_ari, opF_neq, opF_eql, opF_un, opF_index, opF_indexAddr, opF_fieldAddr, opF_field, opF_build, opF_slice, opF_extract, opF_pick, opF_load, opF_alloc, opF_box, opF_buildSlice, opF_makeSlice, opF_store, opF_conv, opF_len, opF_minmax, opF_builtin, opF_call, resK, ev_tmp, evG_some, ev_int, ev_bool, ev_str, evs, evp, evo, R.ok_bind, putT_some, putT_none, T.get_set, T.get_e, binF_int, op_rem, op_quo_u32, op_xor_u32, op_neq, op_eql, op_lss, op_add_i64, op_sub_u32, op_and_u8, op_xor_u8, op_not_u32, binF_shr_u32, binF_shr_u8, op_mul_i64, op_quo_i64, op_and_u32, binF_shl_u8, wrapF_u8, wrapF_u32, mod_u8, mod_u32, cond_val, Nat.lt_irrefl, Nat.not_lt_zero, if_true, if_false, reduceIte, Nat.reduceEqDiff, Nat.reduceAdd, ne_eq, not_true_eq_false, not_false_eq_true, decide_true, decide_false, Bool.false_eq_true, Bool.not_true, Bool.not_false, sub_nil, sub_seq0, sub_seq1, sub_cond0, sub_cond1, sub_block, sub_loop, sub_scope, sub_range0, sub_range1, Option.getD_some, at_ptr, at_slc, runOps_yes, runOps_no, exec_draw, op_sub_i64, op_sub_neg, op_lss_neg, binF_str, str_add, str_neq, str_eql, takeF, resF, oneOf, pickF, extractF, cells_str, cells_int, cells_agg, bool_eql, bool_neq, op_lssI, bne_self_eq_false, beq_self_eq_true, eq_self, cells_slc, cells_func, builtin_append, ev_nilslice, ev_nilfunc, ev_nilptr, ev_nilmap, opF_makeFunc, opF_callv, callV_func, callV_yield, op_leq, op_gtr, op_geq, cast_le, cast_lt, List.nil_append, List.cons_append, List.append_nil, un_not]
        with_reducible rfl
      refine ⟨.inr rfl, _, [.bool false], rfl, ?_, ?_, hE⟩
      · simp only [Try.f25, resF, ev_tmp, T.get_set, Nat.reduceEqDiff, if_true, if_false, evG_some, R.ok_bind]
      · show Value.bool _ = _
        rw [decide_eq_false (fun h => h1 (by subst h; exact ⟨rfl, rfl, rfl, rfl, rfl⟩))]
    have t1 : decide (d.kind = d'.kind ∧ d.word = d'.word ∧ d.weight = d'.weight ∧ d.k = d'.k ∧ d.n = d'.n) = true := decide_eq_true h1
    by_cases h2 : d.arm = d'.arm
    rotate_left
    · have t2 : decide (d.arm = d'.arm) = false := decide_eq_false h2
      apply W.run 20
      · intro M
        simp (config := { maxSteps := 4000000 }) (disch := first | decide +kernel | (rw [wantF_guard]; simp only [wantD_some, dstAt_zero, dstAt_succ, T.get_set, T.get_e, Nat.reduceEqDiff, if_true, if_false, wantV_bool, wantV_unit, unitV, cond_true, cond_false, Bool.not_true, Bool.not_false, List.toList_toArray]) | omega) only [c25, Try.f25, Nat.ble, cond_true, cond_false, T.puts_cons, T.puts_nil, exec_seq, exec_block, nat_beq_self, exec_region, exec_cond, exec_skip, exec_ret, exec_exit, exec_scope, runOps_cons, runOps_nil, opF_move, opF_assign, opF_ari, opF_neq, opF_eql, opF_un, opF_index, opF_indexAddr, opF_fieldAddr, opF_field, opF_build, opF_slice, opF_extract, opF_pick, opF_load, opF_alloc, opF_box, opF_buildSlice, opF_makeSlice, opF_store, opF_conv, opF_len, opF_minmax, opF_builtin, opF_call, resK, ev_tmp, evG_some, ev_int, ev_bool, ev_str, evs, evp, evo, R.ok_bind, putT_some, putT_none, T.get_set, T.get_e, binF_int, op_rem, op_quo_u32, op_xor_u32, op_neq, op_eql, op_lss, op_add_i64, op_sub_u32, op_and_u8, op_xor_u8, op_not_u32, binF_shr_u32, binF_shr_u8, op_mul_i64, op_quo_i64, op_and_u32, binF_shl_u8, wrapF_u8, wrapF_u32, mod_u8, mod_u32, cond_val, Nat.lt_irrefl, Nat.not_lt_zero, if_true, if_false, reduceIte, Nat.reduceEqDiff, Nat.reduceAdd, ne_eq, not_true_eq_false, not_false_eq_true, decide_true, decide_false, Bool.false_eq_true, Bool.not_true, Bool.not_false, sub_nil, sub_seq0, sub_seq1, sub_cond0, sub_cond1, sub_block, sub_loop, sub_scope, sub_range0, sub_range1, Option.getD_some, at_ptr, at_slc, runOps_yes, runOps_no, exec_draw, op_sub_i64, op_sub_neg, op_lss_neg, binF_str, str_add, str_neq, str_eql, takeF, resF, oneOf, pickF, extractF, cells_str, cells_int, cells_agg, bool_eql, bool_neq, op_lssI, bne_self_eq_false, beq_self_eq_true, eq_self, cells_slc, cells_func, builtin_append, ev_nilslice, ev_nilfunc, ev_nilptr, ev_nilmap, opF_makeFunc, opF_callv, callV_func, callV_yield, op_leq, op_gtr, op_geq, cast_le, cast_lt, List.nil_append, List.cons_append, List.append_nil, un_not, next_alloc, fa39_0, fa39_1, fa39_2, fa39_3, fa39_4, a0, a1, a2, a3, a4, b0, b1, b2, b3, b4, und3, und4, op_eqlI, opF_eqlR, eq35, hcl', t1, t2]
        with_reducible rfl
      apply W.run 20
      · intro M
        simp (config := { maxSteps := 4000000 }) (disch := first | decide +kernel | (rw [wantF_guard]; simp only [wantD_some, dstAt_zero, dstAt_succ, T.get_set, T.get_e, Nat.reduceEqDiff, if_true, if_false, wantV_bool, wantV_unit, unitV, cond_true, cond_false, Bool.not_true, Bool.not_false, List.toList_toArray]) | omega) only [c25, Try.f25, Nat.ble, cond_true, cond_false, T.puts_cons, T.puts_nil, exec_seq, exec_block, nat_beq_self, exec_region, exec_cond, exec_skip, exec_ret, exec_exit, exec_scope, runOps_cons, runOps_nil, opF_move, opF_assign, opF_ari, opF_neq, opF_eql, opF_un, opF_index, opF_indexAddr, opF_fieldAddr, opF_field, opF_build, opF_slice, opF_extract, opF_pick, opF_load, opF_alloc, opF_box, opF_buildSlice, opF_makeSlice, opF_store, opF_conv, opF_len, opF_minmax, opF_builtin, opF_call, resK, ev_tmp, evG_some, ev_int, ev_bool, ev_str, evs, evp, evo, R.ok_bind, putT_some, putT_none, T.get_set, T.get_e, binF_int, op_rem, op_quo_u32, op_xor_u32, op_neq, op_eql, op_lss, op_add_i64, op_sub_u32, op_and_u8, op_xor_u8, op_not_u32, binF_shr_u32, binF_shr_u8, op_mul_i64, op_quo_i64, op_and_u32, binF_shl_u8, wrapF_u8, wrapF_u32, mod_u8, mod_u32, cond_val, Nat.lt_irrefl, Nat.not_lt_zero, if_true, if_false, reduceIte, Nat.reduceEqDiff, Nat.reduceAdd, ne_eq, not_true_eq_false, not_false_eq_true, decide_true, decide_false, Bool.false_eq_true, Bool.not_true, Bool.not_false, sub_nil, sub_seq0, sub_seq1, sub_cond0, sub_cond1, sub_block, sub_loop, sub_scope, sub_range0, sub_range1, Option.getD_some, at_ptr, at_slc, runOps_yes, runOps_no, exec_draw, op_sub_i64, op_sub_neg, op_lss_neg, binF_str, str_add, str_neq, str_eql, takeF, resF, oneOf, pickF, extractF, cells_str, cells_int, cells_agg, bool_eql, bool_neq, op_lssI, bne_self_eq_false, beq_self_eq_true, eq_self, cells_slc, cells_func, builtin_append, ev_nilslice, ev_nilfunc, ev_nilptr, ev_nilmap, opF_makeFunc, opF_callv, callV_func, callV_yield, op_leq, op_gtr, op_geq, cast_le, cast_lt, List.nil_append, List.cons_append, List.append_nil, un_not]
        with_reducible rfl
      refine ⟨.inr rfl, _, [.bool false], rfl, ?_, ?_, hE⟩
      · simp only [Try.f25, resF, ev_tmp, T.get_set, Nat.reduceEqDiff, if_true, if_false, evG_some, R.ok_bind]
      · show Value.bool _ = _
        rw [decide_eq_false (fun h => h2 (by subst h; rfl))]
    have t2 : decide (d.arm = d'.arm) = true := decide_eq_true h2
    by_cases h3 : d.cut = d'.cut
    rotate_left
    · have t3 : decide (d.cut = d'.cut) = false := decide_eq_false h3
      have t3 : (d.cut == d'.cut) = false := beq_eq_false_iff_ne.2 h3
      apply W.run 20
      · intro M
        simp (config := { maxSteps := 4000000 }) (disch := first | decide +kernel | (rw [wantF_guard]; simp only [wantD_some, dstAt_zero, dstAt_succ, T.get_set, T.get_e, Nat.reduceEqDiff, if_true, if_false, wantV_bool, wantV_unit, unitV, cond_true, cond_false, Bool.not_true, Bool.not_false, List.toList_toArray]) | omega) only [c25, Try.f25, Nat.ble, cond_true, cond_false, T.puts_cons, T.puts_nil, exec_seq, exec_block, nat_beq_self, exec_region, exec_cond, exec_skip, exec_ret, exec_exit, exec_scope, runOps_cons, runOps_nil, opF_move, opF_assign, opF_ari, opF_neq, opF_eql, opF_un, opF_index, opF_indexAddr, opF_fieldAddr, opF_field, opF_build, opF_slice, opF_extract, opF_pick, opF_load, opF_alloc, opF_box, opF_buildSlice, opF_makeSlice, opF_store, opF_conv, opF_len, opF_minmax, opF_builtin, opF_call, resK, ev_tmp, evG_some, ev_int, ev_bool, ev_str, evs, evp, evo, R.ok_bind, putT_some, putT_none, T.get_set, T.get_e, binF_int, op_rem, op_quo_u32, op_xor_u32, op_neq, op_eql, op_lss, op_add_i64, op_sub_u32, op_and_u8, op_xor_u8, op_not_u32, binF_shr_u32, binF_shr_u8, op_mul_i64, op_quo_i64, op_and_u32, binF_shl_u8, wrapF_u8, wrapF_u32, mod_u8, mod_u32, cond_val, Nat.lt_irrefl, Nat.not_lt_zero, if_true, if_false, reduceIte, Nat.reduceEqDiff, Nat.reduceAdd, ne_eq, not_true_eq_false, not_false_eq_true, decide_true, decide_false, Bool.false_eq_true, Bool.not_true, Bool.not_false, sub_nil, sub_seq0, sub_seq1, sub_cond0, sub_cond1, sub_block, sub_loop, sub_scope, sub_range0, sub_range1, Option.getD_some, at_ptr, at_slc, runOps_yes, runOps_no, exec_draw, op_sub_i64, op_sub_neg, op_lss_neg, binF_str, str_add, str_neq, str_eql, takeF, resF, oneOf, pickF, extractF, cells_str, cells_int, cells_agg, bool_eql, bool_neq, op_lssI, bne_self_eq_false, beq_self_eq_true, eq_self, cells_slc, cells_func, builtin_append, ev_nilslice, ev_nilfunc, ev_nilptr, ev_nilmap, opF_makeFunc, opF_callv, callV_func, callV_yield, op_leq, op_gtr, op_geq, cast_le, cast_lt, List.nil_append, List.cons_append, List.append_nil, un_not, next_alloc, fa39_0, fa39_1, fa39_2, fa39_3, fa39_4, a0, a1, a2, a3, a4, b0, b1, b2, b3, b4, und3, und4, op_eqlI, opF_eqlR, eq35, hcl', t1, t2, t3]
        with_reducible rfl
      apply W.run 20
      · intro M
        simp (config := { maxSteps := 4000000 }) (disch := first | decide +kernel | (rw [wantF_guard]; simp only [wantD_some, dstAt_zero, dstAt_succ, T.get_set, T.get_e, Nat.reduceEqDiff, if_true, if_false, wantV_bool, wantV_unit, unitV, cond_true, cond_false, Bool.not_true, Bool.not_false, List.toList_toArray]) | omega) only [c25, Try.f25, Nat.ble, cond_true, cond_false, T.puts_cons, T.puts_nil, exec_seq, exec_block, nat_beq_self, exec_region, exec_cond, exec_skip, exec_ret, exec_exit, exec_scope, runOps_cons, runOps_nil, opF_move, opF_assign, opF_ari, opF_neq, opF_eql, opF_un, opF_index, opF_indexAddr, opF_fieldAddr, opF_field, opF_build, opF_slice, opF_extract, opF_pick, opF_load, opF_alloc, opF_box, opF_buildSlice, opF_makeSlice, opF_store, opF_conv, opF_len, opF_minmax, opF_builtin, opF_call, resK, ev_tmp, evG_some, ev_int, ev_bool, ev_str, evs, evp, evo, R.ok_bind, putT_some, putT_none, T.get_set, T.get_e, binF_int, op_rem, op_quo_u32, op_xor_u32, op_neq, op_eql, op_lss, op_add_i64, op_sub_u32, op_and_u8, op_xor_u8, op_not_u32, binF_shr_u32, binF_shr_u8, op_mul_i64, op_quo_i64, op_and_u32, binF_shl_u8, wrapF_u8, wrapF_u32, mod_u8, mod_u32, cond_val, Nat.lt_irrefl, Nat.not_lt_zero, if_true, if_false, reduceIte, Nat.reduceEqDiff, Nat.reduceAdd, ne_eq, not_true_eq_false, not_false_eq_true, decide_true, decide_false, Bool.false_eq_true, Bool.not_true, Bool.not_false, sub_nil, sub_seq0, sub_seq1, sub_cond0, sub_cond1, sub_block, sub_loop, sub_scope, sub_range0, sub_range1, Option.getD_some, at_ptr, at_slc, runOps_yes, runOps_no, exec_draw, op_sub_i64, op_sub_neg, op_lss_neg, binF_str, str_add, str_neq, str_eql, takeF, resF, oneOf, pickF, extractF, cells_str, cells_int, cells_agg, bool_eql, bool_neq, op_lssI, bne_self_eq_false, beq_self_eq_true, eq_self, cells_slc, cells_func, builtin_append, ev_nilslice, ev_nilfunc, ev_nilptr, ev_nilmap, opF_makeFunc, opF_callv, callV_func, callV_yield, op_leq, op_gtr, op_geq, cast_le, cast_lt, List.nil_append, List.cons_append, List.append_nil, un_not]
        with_reducible rfl
      refine ⟨.inr rfl, _, [.bool false], rfl, ?_, ?_, hE⟩
      · simp only [Try.f25, resF, ev_tmp, T.get_set, Nat.reduceEqDiff, if_true, if_false, evG_some, R.ok_bind]
      · show Value.bool _ = _
        rw [decide_eq_false (fun h => h3 (by subst h; rfl))]
    have t3 : decide (d.cut = d'.cut) = true := decide_eq_true h3
    have t3 : (d.cut == d'.cut) = true := beq_iff_eq.2 h3
    by_cases h4 : d.stays = d'.stays
    rotate_left
    · have t4 : decide (d.stays = d'.stays) = false := decide_eq_false h4
      apply W.runG (g1) 20
      · intro M hM
        simp (config := { maxSteps := 4000000 }) (disch := first | decide +kernel | (rw [wantF_guard]; simp only [wantD_some, dstAt_zero, dstAt_succ, T.get_set, T.get_e, Nat.reduceEqDiff, if_true, if_false, wantV_bool, wantV_unit, unitV, cond_true, cond_false, Bool.not_true, Bool.not_false, List.toList_toArray]) | omega) only [c25, Try.f25, Nat.ble, cond_true, cond_false, T.puts_cons, T.puts_nil, exec_seq, exec_block, nat_beq_self, exec_region, exec_cond, exec_skip, exec_ret, exec_exit, exec_scope, runOps_cons, runOps_nil, opF_move, opF_assign, opF_ari, opF_neq, opF_eql, opF_un, opF_index, opF_indexAddr, opF_fieldAddr, opF_field, opF_build, opF_slice, opF_extract, opF_pick, opF_load, opF_alloc, opF_box, opF_buildSlice, opF_makeSlice, opF_store, opF_conv, opF_len, opF_minmax, opF_builtin, opF_call, resK, ev_tmp, evG_some, ev_int, ev_bool, ev_str, evs, evp, evo, R.ok_bind, putT_some, putT_none, T.get_set, T.get_e, binF_int, op_rem, op_quo_u32, op_xor_u32, op_neq, op_eql, op_lss, op_add_i64, op_sub_u32, op_and_u8, op_xor_u8, op_not_u32, binF_shr_u32, binF_shr_u8, op_mul_i64, op_quo_i64, op_and_u32, binF_shl_u8, wrapF_u8, wrapF_u32, mod_u8, mod_u32, cond_val, Nat.lt_irrefl, Nat.not_lt_zero, if_true, if_false, reduceIte, Nat.reduceEqDiff, Nat.reduceAdd, ne_eq, not_true_eq_false, not_false_eq_true, decide_true, decide_false, Bool.false_eq_true, Bool.not_true, Bool.not_false, sub_nil, sub_seq0, sub_seq1, sub_cond0, sub_cond1, sub_block, sub_loop, sub_scope, sub_range0, sub_range1, Option.getD_some, at_ptr, at_slc, runOps_yes, runOps_no, exec_draw, op_sub_i64, op_sub_neg, op_lss_neg, binF_str, str_add, str_neq, str_eql, takeF, resF, oneOf, pickF, extractF, cells_str, cells_int, cells_agg, bool_eql, bool_neq, op_lssI, bne_self_eq_false, beq_self_eq_true, eq_self, cells_slc, cells_func, builtin_append, ev_nilslice, ev_nilfunc, ev_nilptr, ev_nilmap, opF_makeFunc, opF_callv, callV_func, callV_yield, op_leq, op_gtr, op_geq, cast_le, cast_lt, List.nil_append, List.cons_append, List.append_nil, un_not, next_alloc, fa39_0, fa39_1, fa39_2, fa39_3, fa39_4, a0, a1, a2, a3, a4, b0, b1, b2, b3, b4, und3, und4, op_eqlI, opF_eqlR, eq35, hcl', t1, t2, t3, t4, hg1]
        with_reducible rfl
      apply W.run 20
      · intro M
        simp (config := { maxSteps := 4000000 }) (disch := first | decide +kernel | (rw [wantF_guard]; simp only [wantD_some, dstAt_zero, dstAt_succ, T.get_set, T.get_e, Nat.reduceEqDiff, if_true, if_false, wantV_bool, wantV_unit, unitV, cond_true, cond_false, Bool.not_true, Bool.not_false, List.toList_toArray]) | omega) only [c25, Try.f25, Nat.ble, cond_true, cond_false, T.puts_cons, T.puts_nil, exec_seq, exec_block, nat_beq_self, exec_region, exec_cond, exec_skip, exec_ret, exec_exit, exec_scope, runOps_cons, runOps_nil, opF_move, opF_assign, opF_ari, opF_neq, opF_eql, opF_un, opF_index, opF_indexAddr, opF_fieldAddr, opF_field, opF_build, opF_slice, opF_extract, opF_pick, opF_load, opF_alloc, opF_box, opF_buildSlice, opF_makeSlice, opF_store, opF_conv, opF_len, opF_minmax, opF_builtin, opF_call, resK, ev_tmp, evG_some, ev_int, ev_bool, ev_str, evs, evp, evo, R.ok_bind, putT_some, putT_none, T.get_set, T.get_e, binF_int, op_rem, op_quo_u32, op_xor_u32, op_neq, op_eql, op_lss, op_add_i64, op_sub_u32, op_and_u8, op_xor_u8, op_not_u32, binF_shr_u32, binF_shr_u8, op_mul_i64, op_quo_i64, op_and_u32, binF_shl_u8, wrapF_u8, wrapF_u32, mod_u8, mod_u32, cond_val, Nat.lt_irrefl, Nat.not_lt_zero, if_true, if_false, reduceIte, Nat.reduceEqDiff, Nat.reduceAdd, ne_eq, not_true_eq_false, not_false_eq_true, decide_true, decide_false, Bool.false_eq_true, Bool.not_true, Bool.not_false, sub_nil, sub_seq0, sub_seq1, sub_cond0, sub_cond1, sub_block, sub_loop, sub_scope, sub_range0, sub_range1, Option.getD_some, at_ptr, at_slc, runOps_yes, runOps_no, exec_draw, op_sub_i64, op_sub_neg, op_lss_neg, binF_str, str_add, str_neq, str_eql, takeF, resF, oneOf, pickF, extractF, cells_str, cells_int, cells_agg, bool_eql, bool_neq, op_lssI, bne_self_eq_false, beq_self_eq_true, eq_self, cells_slc, cells_func, builtin_append, ev_nilslice, ev_nilfunc, ev_nilptr, ev_nilmap, opF_makeFunc, opF_callv, callV_func, callV_yield, op_leq, op_gtr, op_geq, cast_le, cast_lt, List.nil_append, List.cons_append, List.append_nil, un_not]
        with_reducible rfl
      refine ⟨.inr rfl, _, [.bool false], rfl, ?_, ?_, hE⟩
      · simp only [Try.f25, resF, ev_tmp, T.get_set, Nat.reduceEqDiff, if_true, if_false, evG_some, R.ok_bind]
      · show Value.bool _ = _
        rw [decide_eq_false (fun h => h4 (by subst h; rfl))]
    have t4 : decide (d.stays = d'.stays) = true := decide_eq_true h4
    apply W.runG ((g1+g2)) 20
    · intro M hM
      simp (config := { maxSteps := 4000000 }) (disch := first | decide +kernel | (rw [wantF_guard]; simp only [wantD_some, dstAt_zero, dstAt_succ, T.get_set, T.get_e, Nat.reduceEqDiff, if_true, if_false, wantV_bool, wantV_unit, unitV, cond_true, cond_false, Bool.not_true, Bool.not_false, List.toList_toArray]) | omega) only [c25, Try.f25, Nat.ble, cond_true, cond_false, T.puts_cons, T.puts_nil, exec_seq, exec_block, nat_beq_self, exec_region, exec_cond, exec_skip, exec_ret, exec_exit, exec_scope, runOps_cons, runOps_nil, opF_move, opF_assign, opF_ari, opF_neq, opF_eql, opF_un, opF_index, opF_indexAddr, opF_fieldAddr, opF_field, opF_build, opF_slice, opF_extract, opF_pick, opF_load, opF_alloc, opF_box, opF_buildSlice, opF_makeSlice, opF_store, opF_conv, opF_len, opF_minmax, opF_builtin, opF_call, resK, ev_tmp, evG_some, ev_int, ev_bool, ev_str, evs, evp, evo, R.ok_bind, putT_some, putT_none, T.get_set, T.get_e, binF_int, op_rem, op_quo_u32, op_xor_u32, op_neq, op_eql, op_lss, op_add_i64, op_sub_u32, op_and_u8, op_xor_u8, op_not_u32, binF_shr_u32, binF_shr_u8, op_mul_i64, op_quo_i64, op_and_u32, binF_shl_u8, wrapF_u8, wrapF_u32, mod_u8, mod_u32, cond_val, Nat.lt_irrefl, Nat.not_lt_zero, if_true, if_false, reduceIte, Nat.reduceEqDiff, Nat.reduceAdd, ne_eq, not_true_eq_false, not_false_eq_true, decide_true, decide_false, Bool.false_eq_true, Bool.not_true, Bool.not_false, sub_nil, sub_seq0, sub_seq1, sub_cond0, sub_cond1, sub_block, sub_loop, sub_scope, sub_range0, sub_range1, Option.getD_some, at_ptr, at_slc, runOps_yes, runOps_no, exec_draw, op_sub_i64, op_sub_neg, op_lss_neg, binF_str, str_add, str_neq, str_eql, takeF, resF, oneOf, pickF, extractF, cells_str, cells_int, cells_agg, bool_eql, bool_neq, op_lssI, bne_self_eq_false, beq_self_eq_true, eq_self, cells_slc, cells_func, builtin_append, ev_nilslice, ev_nilfunc, ev_nilptr, ev_nilmap, opF_makeFunc, opF_callv, callV_func, callV_yield, op_leq, op_gtr, op_geq, cast_le, cast_lt, List.nil_append, List.cons_append, List.append_nil, un_not, next_alloc, fa39_0, fa39_1, fa39_2, fa39_3, fa39_4, a0, a1, a2, a3, a4, b0, b1, b2, b3, b4, und3, und4, op_eqlI, opF_eqlR, eq35, hcl', t1, t2, t3, t4, hg1, hg2]
      with_reducible rfl
    apply W.run 20
    · intro M
      simp (config := { maxSteps := 4000000 }) (disch := first | decide +kernel | (rw [wantF_guard]; simp only [wantD_some, dstAt_zero, dstAt_succ, T.get_set, T.get_e, Nat.reduceEqDiff, if_true, if_false, wantV_bool, wantV_unit, unitV, cond_true, cond_false, Bool.not_true, Bool.not_false, List.toList_toArray]) | omega) only [c25, Try.f25, Nat.ble, cond_true, cond_false, T.puts_cons, T.puts_nil, exec_seq, exec_block, nat_beq_self, exec_region, exec_cond, exec_skip, exec_ret, exec_exit, exec_scope, runOps_cons, runOps_nil, opF_move, opF_assign, opF_ari, opF_neq, opF_eql, opF_un, opF_index, opF_indexAddr, opF_fieldAddr, opF_field, opF_build, opF_slice, opF_extract, opF_pick, opF_load, opF_alloc, opF_box, opF_buildSlice, opF_makeSlice, opF_store, opF_conv, opF_len, opF_minmax, opF_builtin, opF_call, resK, ev_tmp, evG_some, ev_int, ev_bool, ev_str, evs, evp, evo, R.ok_bind, putT_some, putT_none, T.get_set, T.get_e, binF_int, op_rem, op_quo_u32, op_xor_u32, op_neq, op_eql, op_lss, op_add_i64, op_sub_u32, op_and_u8, op_xor_u8, op_not_u32, binF_shr_u32, binF_shr_u8, op_mul_i64, op_quo_i64, op_and_u32, binF_shl_u8, wrapF_u8, wrapF_u32, mod_u8, mod_u32, cond_val, Nat.lt_irrefl, Nat.not_lt_zero, if_true, if_false, reduceIte, Nat.reduceEqDiff, Nat.reduceAdd, ne_eq, not_true_eq_false, not_false_eq_true, decide_true, decide_false, Bool.false_eq_true, Bool.not_true, Bool.not_false, sub_nil, sub_seq0, sub_seq1, sub_cond0, sub_cond1, sub_block, sub_loop, sub_scope, sub_range0, sub_range1, Option.getD_some, at_ptr, at_slc, runOps_yes, runOps_no, exec_draw, op_sub_i64, op_sub_neg, op_lss_neg, binF_str, str_add, str_neq, str_eql, takeF, resF, oneOf, pickF, extractF, cells_str, cells_int, cells_agg, bool_eql, bool_neq, op_lssI, bne_self_eq_false, beq_self_eq_true, eq_self, cells_slc, cells_func, builtin_append, ev_nilslice, ev_nilfunc, ev_nilptr, ev_nilmap, opF_makeFunc, opF_callv, callV_func, callV_yield, op_leq, op_gtr, op_geq, cast_le, cast_lt, List.nil_append, List.cons_append, List.append_nil, un_not]
      with_reducible rfl
    refine ⟨.inr rfl, _, [.bool (decide (d.opening = d'.opening))], rfl, ?_, ?_, hE.trans hEF⟩
    · simp only [Try.f25, resF, ev_tmp, T.get_set, Nat.reduceEqDiff, if_true, if_false, evG_some, R.ok_bind]
    · show Value.bool _ = _
      congr 1
      exact decide_eq_decide.2 ⟨fun h => ActG.all_inj.1 ⟨h1.1, h1.2.1, h1.2.2.1, h1.2.2.2.1, h1.2.2.2.2, h2, h3, h4, h⟩, fun h => by rw [h]⟩
  exact ⟨A', ha, he⟩

noncomputable def c27 : Code := Try.f27.body.getD .skip
noncomputable def c27b1 : Code := sub c27 [1,1,0,1,0,0]
theorem c27_eq : Try.f27.body = some (.seq (sub c27 [0]) (.seq (sub c27 [1,0]) (.seq (.seq (sub c27 [1,1,0,0]) (.block 0 (.loop c27b1))) (.seq (sub c27 [1,1,1,0]) (sub c27 [1,1,1,1]))))) := by kernel_rfl
theorem c27b1_eq : c27b1 = .seq (sub c27b1 [0]) (.seq (sub c27b1 [1,0]) (.seq (.block 1 (.seq (sub c27b1 [1,1,0,0,0]) (.seq (sub c27b1 [1,1,0,0,1,0]) (sub c27b1 [1,1,0,0,1,1])))) (sub c27b1 [1,1,1]))) := by kernel_rfl
set_option maxHeartbeats 2000000 in
theorem run_eqActs {A : Mem} {ds ds' : List ActG} {x y : Value} {bc : Nat} (hbc : bc < A.next) (hcl : Vals A 72 bc (.var 1) [.func (.func 23) ⟨[]⟩ ⟨[]⟩]) (h : ActsG A ds x) (h' : ActsG A ds' y) : ∃ A', Ans tb1 27 [x, y, .func (.func 25) ⟨[]⟩ ⟨[.pointer (some ⟨bc, 0, none⟩)]⟩] A (.bool (decide (ds = ds'))) A' ∧ Ext A A' := by
  obtain ⟨ls, b, hx, hll, hbd, hall⟩ := h
  obtain ⟨ls', b', hy, hll', hbd', hall'⟩ := h'
  obtain ⟨v, A', ha, rfl, he⟩ : ∃ v A', Ans tb1 27 [x, y, .func (.func 25) ⟨[]⟩ ⟨[.pointer (some ⟨bc, 0, none⟩)]⟩] A v A' ∧ v = .bool (decide (ds = ds')) ∧ Ext A A' := by
    refine ans_of_W (fn_at Try.func27) c27_eq (by rw [Try.ntmps27]; simp) (by kernel_rfl) (by kernel_rfl) ?_
    have lx := hx.len (tb := tb1) (t := 26) und26
    have ly := hy.len (tb := tb1) (t := 26) und26
    rw [hll] at lx
    rw [hll'] at ly
    apply W.seq
    apply W.run 20
    · intro M
      simp (config := { maxSteps := 4000000 }) (disch := first | decide +kernel | (rw [wantF_guard]; simp only [wantD_some, dstAt_zero, dstAt_succ, T.get_set, T.get_e, Nat.reduceEqDiff, if_true, if_false, wantV_bool, wantV_unit, unitV, cond_true, cond_false, Bool.not_true, Bool.not_false, List.toList_toArray]) | omega) only [c27, Try.f27, Nat.ble, cond_true, cond_false, T.puts_cons, T.puts_nil, exec_seq, exec_block, nat_beq_self, exec_region, exec_cond, exec_skip, exec_ret, exec_exit, exec_scope, runOps_cons, runOps_nil, opF_move, opF_assign, opF_ari, opF_neq, opF_eql, opF_un, opF_index, opF_indexAddr, opF_fieldAddr, opF_field, opF_build, opF_slice, opF_extract, opF_pick, opF_load, opF_alloc, opF_box, opF_buildSlice, opF_makeSlice, opF_store, opF_conv, opF_len, opF_minmax, opF_builtin, opF_call, resK, ev_tmp, evG_some, ev_int, ev_bool, ev_str, evs, evp, evo, R.ok_bind, putT_some, putT_none, T.get_set, T.get_e, binF_int, op_rem, op_quo_u32, op_xor_u32, op_neq, op_eql, op_lss, op_add_i64, op_sub_u32, op_and_u8, op_xor_u8, op_not_u32, binF_shr_u32, binF_shr_u8, op_mul_i64, op_quo_i64, op_and_u32, binF_shl_u8, wrapF_u8, wrapF_u32, mod_u8, mod_u32, cond_val, Nat.lt_irrefl, Nat.not_lt_zero, if_true, if_false, reduceIte, Nat.reduceEqDiff, Nat.reduceAdd, ne_eq, not_true_eq_false, not_false_eq_true, decide_true, decide_false, Bool.false_eq_true, Bool.not_true, Bool.not_false, sub_nil, sub_seq0, sub_seq1, sub_cond0, sub_cond1, sub_block, sub_loop, sub_scope, sub_range0, sub_range1, Option.getD_some, at_ptr, at_slc, runOps_yes, runOps_no, exec_draw, op_sub_i64, op_sub_neg, op_lss_neg, binF_str, str_add, str_neq, str_eql, takeF, resF, oneOf, pickF, extractF, cells_str, cells_int, cells_agg, bool_eql, bool_neq, op_lssI, bne_self_eq_false, beq_self_eq_true, eq_self, cells_slc, cells_func, builtin_append, ev_nilslice, ev_nilfunc, ev_nilptr, ev_nilmap, opF_makeFunc, opF_callv, callV_func, callV_yield, op_leq, op_gtr, op_geq, cast_le, cast_lt, List.nil_append, List.cons_append, List.append_nil, un_not]
      with_reducible rfl
    apply W.seq
    by_cases hl : ds.length = ds'.length
    · apply W.run 20
      · intro M
        simp (config := { maxSteps := 4000000 }) (disch := first | decide +kernel | (rw [wantF_guard]; simp only [wantD_some, dstAt_zero, dstAt_succ, T.get_set, T.get_e, Nat.reduceEqDiff, if_true, if_false, wantV_bool, wantV_unit, unitV, cond_true, cond_false, Bool.not_true, Bool.not_false, List.toList_toArray]) | omega) only [c27, Try.f27, Nat.ble, cond_true, cond_false, T.puts_cons, T.puts_nil, exec_seq, exec_block, nat_beq_self, exec_region, exec_cond, exec_skip, exec_ret, exec_exit, exec_scope, runOps_cons, runOps_nil, opF_move, opF_assign, opF_ari, opF_neq, opF_eql, opF_un, opF_index, opF_indexAddr, opF_fieldAddr, opF_field, opF_build, opF_slice, opF_extract, opF_pick, opF_load, opF_alloc, opF_box, opF_buildSlice, opF_makeSlice, opF_store, opF_conv, opF_len, opF_minmax, opF_builtin, opF_call, resK, ev_tmp, evG_some, ev_int, ev_bool, ev_str, evs, evp, evo, R.ok_bind, putT_some, putT_none, T.get_set, T.get_e, binF_int, op_rem, op_quo_u32, op_xor_u32, op_neq, op_eql, op_lss, op_add_i64, op_sub_u32, op_and_u8, op_xor_u8, op_not_u32, binF_shr_u32, binF_shr_u8, op_mul_i64, op_quo_i64, op_and_u32, binF_shl_u8, wrapF_u8, wrapF_u32, mod_u8, mod_u32, cond_val, Nat.lt_irrefl, Nat.not_lt_zero, if_true, if_false, reduceIte, Nat.reduceEqDiff, Nat.reduceAdd, ne_eq, not_true_eq_false, not_false_eq_true, decide_true, decide_false, Bool.false_eq_true, Bool.not_true, Bool.not_false, sub_nil, sub_seq0, sub_seq1, sub_cond0, sub_cond1, sub_block, sub_loop, sub_scope, sub_range0, sub_range1, Option.getD_some, at_ptr, at_slc, runOps_yes, runOps_no, exec_draw, op_sub_i64, op_sub_neg, op_lss_neg, binF_str, str_add, str_neq, str_eql, takeF, resF, oneOf, pickF, extractF, cells_str, cells_int, cells_agg, bool_eql, bool_neq, op_lssI, bne_self_eq_false, beq_self_eq_true, eq_self, cells_slc, cells_func, builtin_append, ev_nilslice, ev_nilfunc, ev_nilptr, ev_nilmap, opF_makeFunc, opF_callv, callV_func, callV_yield, op_leq, op_gtr, op_geq, cast_le, cast_lt, List.nil_append, List.cons_append, List.append_nil, un_not, lx, ly, op_neqI, hl]
        with_reducible rfl
      apply W.seq
      apply W.seq
      apply W.run 20
      · intro M
        simp (config := { maxSteps := 4000000 }) (disch := first | decide +kernel | (rw [wantF_guard]; simp only [wantD_some, dstAt_zero, dstAt_succ, T.get_set, T.get_e, Nat.reduceEqDiff, if_true, if_false, wantV_bool, wantV_unit, unitV, cond_true, cond_false, Bool.not_true, Bool.not_false, List.toList_toArray]) | omega) only [c27, Try.f27, Nat.ble, cond_true, cond_false, T.puts_cons, T.puts_nil, exec_seq, exec_block, nat_beq_self, exec_region, exec_cond, exec_skip, exec_ret, exec_exit, exec_scope, runOps_cons, runOps_nil, opF_move, opF_assign, opF_ari, opF_neq, opF_eql, opF_un, opF_index, opF_indexAddr, opF_fieldAddr, opF_field, opF_build, opF_slice, opF_extract, opF_pick, opF_load, opF_alloc, opF_box, opF_buildSlice, opF_makeSlice, opF_store, opF_conv, opF_len, opF_minmax, opF_builtin, opF_call, resK, ev_tmp, evG_some, ev_int, ev_bool, ev_str, evs, evp, evo, R.ok_bind, putT_some, putT_none, T.get_set, T.get_e, binF_int, op_rem, op_quo_u32, op_xor_u32, op_neq, op_eql, op_lss, op_add_i64, op_sub_u32, op_and_u8, op_xor_u8, op_not_u32, binF_shr_u32, binF_shr_u8, op_mul_i64, op_quo_i64, op_and_u32, binF_shl_u8, wrapF_u8, wrapF_u32, mod_u8, mod_u32, cond_val, Nat.lt_irrefl, Nat.not_lt_zero, if_true, if_false, reduceIte, Nat.reduceEqDiff, Nat.reduceAdd, ne_eq, not_true_eq_false, not_false_eq_true, decide_true, decide_false, Bool.false_eq_true, Bool.not_true, Bool.not_false, sub_nil, sub_seq0, sub_seq1, sub_cond0, sub_cond1, sub_block, sub_loop, sub_scope, sub_range0, sub_range1, Option.getD_some, at_ptr, at_slc, runOps_yes, runOps_no, exec_draw, op_sub_i64, op_sub_neg, op_lss_neg, binF_str, str_add, str_neq, str_eql, takeF, resF, oneOf, pickF, extractF, cells_str, cells_int, cells_agg, bool_eql, bool_neq, op_lssI, bne_self_eq_false, beq_self_eq_true, eq_self, cells_slc, cells_func, builtin_append, ev_nilslice, ev_nilfunc, ev_nilptr, ev_nilmap, opF_makeFunc, opF_callv, callV_func, callV_yield, op_leq, op_gtr, op_geq, cast_le, cast_lt, List.nil_append, List.cons_append, List.append_nil, un_not, lx]
        with_reducible rfl
      apply W.block
      refine W.up ds.length (fun i t C => Ext A C ∧ ds.take i = ds'.take i ∧ Sl t [(0, x), (1, y), (2, .func (.func 25) ⟨[]⟩ ⟨[.pointer (some ⟨bc, 0, none⟩)]⟩), (15, x), (16, .int .i64 ((ds.length : Nat) : Int)), (17, .int .i64 (i : Int))]) ?_ (Nat.zero_le _) ⟨Ext.refl A, by simp, ?_⟩
      · rintro i t C hi ⟨hE, he, g0, g1, g2, g15, g16, g17, -⟩
        have hEn := hE.n
        by_cases hlt : i < ds.length
        · have hlt' : i < ds'.length := by omega
          have hli : i < ls.length := by omega
          have hli' : i < ls'.length := by omega
          have hO := hall i ds[i] ls[i] (List.getElem?_eq_getElem hlt) (List.getElem?_eq_getElem hli)
          have hO' := hall' i ds'[i] ls'[i] (List.getElem?_eq_getElem hlt') (List.getElem?_eq_getElem hli')
          have hxC := hx.same hE.n (fun hb => hE.g b hb)
          have hyC := hy.same hE.n (fun hb => hE.g b' hb)
          have ix := hxC.idx (tb := tb1) (t := 26) (t' := 39) (kd := .i64) (i := i) und26 size39 hli
          have iy := hyC.idx (tb := tb1) (t := 26) (t' := 39) (kd := .i64) (i := i) und26 size39 hli'
          obtain ⟨d39, hd1, hd2⟩ := und39
          generalize hL : ls[i] = L at hO
          generalize hL' : ls'[i] = L' at hO'
          have hc := hO.cells
          have hc' := hO'.cells
          have lax := hxC.load_all (t := 39) (i := i) hd1 hd2 size39 (show ls[i]? = some L by rw [List.getElem?_eq_getElem hli, hL])
          have hv0 : Vals (C.alloc (rowOb 39 [.int .i64 0, .string ⟨#[]⟩, .int .u32 0, .int .i64 0, .int .i64 0, .int .i64 0, .bool false, .slice none 0 0, .slice none 0 0])) 39 C.next (.var 9) [.int .i64 0, .string ⟨#[]⟩, .int .u32 0, .int .i64 0, .int .i64 0, .int .i64 0, .bool false, .slice none 0 0, .slice none 0 0] := Go.Am.vals_new C 39 _
          have hn0 : (C.alloc (rowOb 39 [.int .i64 0, .string ⟨#[]⟩, .int .u32 0, .int .i64 0, .int .i64 0, .int .i64 0, .bool false, .slice none 0 0, .slice none 0 0])).next = C.next + 1 := next_alloc _ _
          obtain ⟨D, hs1, hv1, hn1, hf1⟩ := store_all (tb := tb1) (t := 39) (l' := L) (by rw [size39]; rfl) hv0 (by rw [hc.1]; rfl) (by simp) hc.2
          have hED : Ext C D := (Ext.alloc C (rowOb 39 [.int .i64 0, .string ⟨#[]⟩, .int .u32 0, .int .i64 0, .int .i64 0, .int .i64 0, .bool false, .slice none 0 0, .slice none 0 0])).put (b := C.next) (Nat.le_refl _) hn1 hf1
          have lay := (hyC.same hED.n (fun hb => hED.g b' hb)).load_all (t := 39) (i := i) hd1 hd2 size39 (show ls'[i]? = some L' by rw [List.getElem?_eq_getElem hli', hL'])
          have hv2 : Vals (D.alloc (rowOb 39 [.int .i64 0, .string ⟨#[]⟩, .int .u32 0, .int .i64 0, .int .i64 0, .int .i64 0, .bool false, .slice none 0 0, .slice none 0 0])) 39 D.next (.var 9) [.int .i64 0, .string ⟨#[]⟩, .int .u32 0, .int .i64 0, .int .i64 0, .int .i64 0, .bool false, .slice none 0 0, .slice none 0 0] := Go.Am.vals_new D 39 _
          have hn2 : (D.alloc (rowOb 39 [.int .i64 0, .string ⟨#[]⟩, .int .u32 0, .int .i64 0, .int .i64 0, .int .i64 0, .bool false, .slice none 0 0, .slice none 0 0])).next = D.next + 1 := next_alloc _ _
          obtain ⟨F, hs2, hv3, hn3, hf3⟩ := store_all (tb := tb1) (t := 39) (l' := L') (by rw [size39]; rfl) hv2 (by rw [hc'.1]; rfl) (by simp) hc'.2
          have hEF : Ext D F := (Ext.alloc D (rowOb 39 [.int .i64 0, .string ⟨#[]⟩, .int .u32 0, .int .i64 0, .int .i64 0, .int .i64 0, .bool false, .slice none 0 0, .slice none 0 0])).put (b := D.next) (Nat.le_refl _) hn3 hf3
          have hv1F : Vals F 39 C.next (.var 9) L := hv1.same (hEF.g _ (by omega))
          have laF := Go.Am.load_all (tb := tb1) (t := 39) hd1 hd2 (by rw [size39, hc.1]) hv1F
          have laF' := Go.Am.load_all (tb := tb1) (t := 39) hd1 hd2 (by rw [size39, hc'.1]) hv3
          have hEAF := (hE.trans hED).trans hEF
          obtain ⟨G, ⟨g, hg⟩, hEG⟩ := run_actEq (Nat.lt_of_lt_of_le hbc hEAF.n) (hcl.same (hEAF.g _ hbc)) (hO.ext hEAF) (hO'.ext hEAF)
          rw [c27b1_eq]
          apply W.seq
          apply W.run 20
          · intro M
            simp (config := { maxSteps := 4000000 }) (disch := first | decide +kernel | (rw [wantF_guard]; simp only [wantD_some, dstAt_zero, dstAt_succ, T.get_set, T.get_e, Nat.reduceEqDiff, if_true, if_false, wantV_bool, wantV_unit, unitV, cond_true, cond_false, Bool.not_true, Bool.not_false, List.toList_toArray]) | omega) only [c27b1, c27, Try.f27, Nat.ble, cond_true, cond_false, T.puts_cons, T.puts_nil, exec_seq, exec_block, nat_beq_self, exec_region, exec_cond, exec_skip, exec_ret, exec_exit, exec_scope, runOps_cons, runOps_nil, opF_move, opF_assign, opF_ari, opF_neq, opF_eql, opF_un, opF_index, opF_indexAddr, opF_fieldAddr, opF_field, opF_build, opF_slice, opF_extract, opF_pick, opF_load, opF_alloc, opF_box, opF_buildSlice, opF_makeSlice, opF_store, opF_conv, opF_len, opF_minmax, opF_builtin, opF_call, resK, ev_tmp, evG_some, ev_int, ev_bool, ev_str, evs, evp, evo, R.ok_bind, putT_some, putT_none, T.get_set, T.get_e, binF_int, op_rem, op_quo_u32, op_xor_u32, op_neq, op_eql, op_lss, op_add_i64, op_sub_u32, op_and_u8, op_xor_u8, op_not_u32, binF_shr_u32, binF_shr_u8, op_mul_i64, op_quo_i64, op_and_u32, binF_shl_u8, wrapF_u8, wrapF_u32, mod_u8, mod_u32, cond_val, Nat.lt_irrefl, Nat.not_lt_zero, if_true, if_false, reduceIte, Nat.reduceEqDiff, Nat.reduceAdd, ne_eq, not_true_eq_false, not_false_eq_true, decide_true, decide_false, Bool.false_eq_true, Bool.not_true, Bool.not_false, sub_nil, sub_seq0, sub_seq1, sub_cond0, sub_cond1, sub_block, sub_loop, sub_scope, sub_range0, sub_range1, Option.getD_some, at_ptr, at_slc, runOps_yes, runOps_no, exec_draw, op_sub_i64, op_sub_neg, op_lss_neg, binF_str, str_add, str_neq, str_eql, takeF, resF, oneOf, pickF, extractF, cells_str, cells_int, cells_agg, bool_eql, bool_neq, op_lssI, bne_self_eq_false, beq_self_eq_true, eq_self, cells_slc, cells_func, builtin_append, ev_nilslice, ev_nilfunc, ev_nilptr, ev_nilmap, opF_makeFunc, opF_callv, callV_func, callV_yield, op_leq, op_gtr, op_geq, cast_le, cast_lt, List.nil_append, List.cons_append, List.append_nil, un_not, g16, g17, hlt]
            with_reducible rfl
          apply W.seq
          apply W.run 20
          · intro M
            simp (config := { maxSteps := 4000000 }) (disch := first | decide +kernel | (rw [wantF_guard]; simp only [wantD_some, dstAt_zero, dstAt_succ, T.get_set, T.get_e, Nat.reduceEqDiff, if_true, if_false, wantV_bool, wantV_unit, unitV, cond_true, cond_false, Bool.not_true, Bool.not_false, List.toList_toArray]) | omega) only [c27b1, c27, Try.f27, Nat.ble, cond_true, cond_false, T.puts_cons, T.puts_nil, exec_seq, exec_block, nat_beq_self, exec_region, exec_cond, exec_skip, exec_ret, exec_exit, exec_scope, runOps_cons, runOps_nil, opF_move, opF_assign, opF_ari, opF_neq, opF_eql, opF_un, opF_index, opF_indexAddr, opF_fieldAddr, opF_field, opF_build, opF_slice, opF_extract, opF_pick, opF_load, opF_alloc, opF_box, opF_buildSlice, opF_makeSlice, opF_store, opF_conv, opF_len, opF_minmax, opF_builtin, opF_call, resK, ev_tmp, evG_some, ev_int, ev_bool, ev_str, evs, evp, evo, R.ok_bind, putT_some, putT_none, T.get_set, T.get_e, binF_int, op_rem, op_quo_u32, op_xor_u32, op_neq, op_eql, op_lss, op_add_i64, op_sub_u32, op_and_u8, op_xor_u8, op_not_u32, binF_shr_u32, binF_shr_u8, op_mul_i64, op_quo_i64, op_and_u32, binF_shl_u8, wrapF_u8, wrapF_u32, mod_u8, mod_u32, cond_val, Nat.lt_irrefl, Nat.not_lt_zero, if_true, if_false, reduceIte, Nat.reduceEqDiff, Nat.reduceAdd, ne_eq, not_true_eq_false, not_false_eq_true, decide_true, decide_false, Bool.false_eq_true, Bool.not_true, Bool.not_false, sub_nil, sub_seq0, sub_seq1, sub_cond0, sub_cond1, sub_block, sub_loop, sub_scope, sub_range0, sub_range1, Option.getD_some, at_ptr, at_slc, runOps_yes, runOps_no, exec_draw, op_sub_i64, op_sub_neg, op_lss_neg, binF_str, str_add, str_neq, str_eql, takeF, resF, oneOf, pickF, extractF, cells_str, cells_int, cells_agg, bool_eql, bool_neq, op_lssI, bne_self_eq_false, beq_self_eq_true, eq_self, cells_slc, cells_func, builtin_append, ev_nilslice, ev_nilfunc, ev_nilptr, ev_nilmap, opF_makeFunc, opF_callv, callV_func, callV_yield, op_leq, op_gtr, op_geq, cast_le, cast_lt, List.nil_append, List.cons_append, List.append_nil, un_not]
            with_reducible rfl
          apply W.seq
          apply W.block
          apply W.seq
          apply W.run 20
          · intro M
            simp (config := { maxSteps := 4000000 }) (disch := first | decide +kernel | (rw [wantF_guard]; simp only [wantD_some, dstAt_zero, dstAt_succ, T.get_set, T.get_e, Nat.reduceEqDiff, if_true, if_false, wantV_bool, wantV_unit, unitV, cond_true, cond_false, Bool.not_true, Bool.not_false, List.toList_toArray]) | omega) only [c27b1, c27, Try.f27, Nat.ble, cond_true, cond_false, T.puts_cons, T.puts_nil, exec_seq, exec_block, nat_beq_self, exec_region, exec_cond, exec_skip, exec_ret, exec_exit, exec_scope, runOps_cons, runOps_nil, opF_move, opF_assign, opF_ari, opF_neq, opF_eql, opF_un, opF_index, opF_indexAddr, opF_fieldAddr, opF_field, opF_build, opF_slice, opF_extract, opF_pick, opF_load, opF_alloc, opF_box, opF_buildSlice, opF_makeSlice, opF_store, opF_conv, opF_len, opF_minmax, opF_builtin, opF_call, resK, ev_tmp, evG_some, ev_int, ev_bool, ev_str, evs, evp, evo, R.ok_bind, putT_some, putT_none, T.get_set, T.get_e, binF_int, op_rem, op_quo_u32, op_xor_u32, op_neq, op_eql, op_lss, op_add_i64, op_sub_u32, op_and_u8, op_xor_u8, op_not_u32, binF_shr_u32, binF_shr_u8, op_mul_i64, op_quo_i64, op_and_u32, binF_shl_u8, wrapF_u8, wrapF_u32, mod_u8, mod_u32, cond_val, Nat.lt_irrefl, Nat.not_lt_zero, if_true, if_false, reduceIte, Nat.reduceEqDiff, Nat.reduceAdd, ne_eq, not_true_eq_false, not_false_eq_true, decide_true, decide_false, Bool.false_eq_true, Bool.not_true, Bool.not_false, sub_nil, sub_seq0, sub_seq1, sub_cond0, sub_cond1, sub_block, sub_loop, sub_scope, sub_range0, sub_range1, Option.getD_some, at_ptr, at_slc, runOps_yes, runOps_no, exec_draw, op_sub_i64, op_sub_neg, op_lss_neg, binF_str, str_add, str_neq, str_eql, takeF, resF, oneOf, pickF, extractF, cells_str, cells_int, cells_agg, bool_eql, bool_neq, op_lssI, bne_self_eq_false, beq_self_eq_true, eq_self, cells_slc, cells_func, builtin_append, ev_nilslice, ev_nilfunc, ev_nilptr, ev_nilmap, opF_makeFunc, opF_callv, callV_func, callV_yield, op_leq, op_gtr, op_geq, cast_le, cast_lt, List.nil_append, List.cons_append, List.append_nil, un_not, g15, g17, ix, lax, zero39, hs1]
            with_reducible rfl
          apply W.seq
          apply W.run 20
          · intro M
            simp (config := { maxSteps := 4000000 }) (disch := first | decide +kernel | (rw [wantF_guard]; simp only [wantD_some, dstAt_zero, dstAt_succ, T.get_set, T.get_e, Nat.reduceEqDiff, if_true, if_false, wantV_bool, wantV_unit, unitV, cond_true, cond_false, Bool.not_true, Bool.not_false, List.toList_toArray]) | omega) only [c27b1, c27, Try.f27, Nat.ble, cond_true, cond_false, T.puts_cons, T.puts_nil, exec_seq, exec_block, nat_beq_self, exec_region, exec_cond, exec_skip, exec_ret, exec_exit, exec_scope, runOps_cons, runOps_nil, opF_move, opF_assign, opF_ari, opF_neq, opF_eql, opF_un, opF_index, opF_indexAddr, opF_fieldAddr, opF_field, opF_build, opF_slice, opF_extract, opF_pick, opF_load, opF_alloc, opF_box, opF_buildSlice, opF_makeSlice, opF_store, opF_conv, opF_len, opF_minmax, opF_builtin, opF_call, resK, ev_tmp, evG_some, ev_int, ev_bool, ev_str, evs, evp, evo, R.ok_bind, putT_some, putT_none, T.get_set, T.get_e, binF_int, op_rem, op_quo_u32, op_xor_u32, op_neq, op_eql, op_lss, op_add_i64, op_sub_u32, op_and_u8, op_xor_u8, op_not_u32, binF_shr_u32, binF_shr_u8, op_mul_i64, op_quo_i64, op_and_u32, binF_shl_u8, wrapF_u8, wrapF_u32, mod_u8, mod_u32, cond_val, Nat.lt_irrefl, Nat.not_lt_zero, if_true, if_false, reduceIte, Nat.reduceEqDiff, Nat.reduceAdd, ne_eq, not_true_eq_false, not_false_eq_true, decide_true, decide_false, Bool.false_eq_true, Bool.not_true, Bool.not_false, sub_nil, sub_seq0, sub_seq1, sub_cond0, sub_cond1, sub_block, sub_loop, sub_scope, sub_range0, sub_range1, Option.getD_some, at_ptr, at_slc, runOps_yes, runOps_no, exec_draw, op_sub_i64, op_sub_neg, op_lss_neg, binF_str, str_add, str_neq, str_eql, takeF, resF, oneOf, pickF, extractF, cells_str, cells_int, cells_agg, bool_eql, bool_neq, op_lssI, bne_self_eq_false, beq_self_eq_true, eq_self, cells_slc, cells_func, builtin_append, ev_nilslice, ev_nilfunc, ev_nilptr, ev_nilmap, opF_makeFunc, opF_callv, callV_func, callV_yield, op_leq, op_gtr, op_geq, cast_le, cast_lt, List.nil_append, List.cons_append, List.append_nil, un_not, g1, iy, lay, zero39, hs2]
            with_reducible rfl
          by_cases hv : ds[i] = ds'[i]
          · have hdt := decide_eq_true hv
            apply W.runG (g) 20
            · intro M hM
              simp (config := { maxSteps := 4000000 }) (disch := first | decide +kernel | (rw [wantF_guard]; simp only [wantD_some, dstAt_zero, dstAt_succ, T.get_set, T.get_e, Nat.reduceEqDiff, if_true, if_false, wantV_bool, wantV_unit, unitV, cond_true, cond_false, Bool.not_true, Bool.not_false, List.toList_toArray]) | omega) only [c27b1, c27, Try.f27, Nat.ble, cond_true, cond_false, T.puts_cons, T.puts_nil, exec_seq, exec_block, nat_beq_self, exec_region, exec_cond, exec_skip, exec_ret, exec_exit, exec_scope, runOps_cons, runOps_nil, opF_move, opF_assign, opF_ari, opF_neq, opF_eql, opF_un, opF_index, opF_indexAddr, opF_fieldAddr, opF_field, opF_build, opF_slice, opF_extract, opF_pick, opF_load, opF_alloc, opF_box, opF_buildSlice, opF_makeSlice, opF_store, opF_conv, opF_len, opF_minmax, opF_builtin, opF_call, resK, ev_tmp, evG_some, ev_int, ev_bool, ev_str, evs, evp, evo, R.ok_bind, putT_some, putT_none, T.get_set, T.get_e, binF_int, op_rem, op_quo_u32, op_xor_u32, op_neq, op_eql, op_lss, op_add_i64, op_sub_u32, op_and_u8, op_xor_u8, op_not_u32, binF_shr_u32, binF_shr_u8, op_mul_i64, op_quo_i64, op_and_u32, binF_shl_u8, wrapF_u8, wrapF_u32, mod_u8, mod_u32, cond_val, Nat.lt_irrefl, Nat.not_lt_zero, if_true, if_false, reduceIte, Nat.reduceEqDiff, Nat.reduceAdd, ne_eq, not_true_eq_false, not_false_eq_true, decide_true, decide_false, Bool.false_eq_true, Bool.not_true, Bool.not_false, sub_nil, sub_seq0, sub_seq1, sub_cond0, sub_cond1, sub_block, sub_loop, sub_scope, sub_range0, sub_range1, Option.getD_some, at_ptr, at_slc, runOps_yes, runOps_no, exec_draw, op_sub_i64, op_sub_neg, op_lss_neg, binF_str, str_add, str_neq, str_eql, takeF, resF, oneOf, pickF, extractF, cells_str, cells_int, cells_agg, bool_eql, bool_neq, op_lssI, bne_self_eq_false, beq_self_eq_true, eq_self, cells_slc, cells_func, builtin_append, ev_nilslice, ev_nilfunc, ev_nilptr, ev_nilmap, opF_makeFunc, opF_callv, callV_func, callV_yield, op_leq, op_gtr, op_geq, cast_le, cast_lt, List.nil_append, List.cons_append, List.append_nil, un_not, g2, laF, laF', hg, hdt]
              with_reducible rfl
            show W tb1 _ _ _
            apply W.run 20
            · intro M
              simp (config := { maxSteps := 4000000 }) (disch := first | decide +kernel | (rw [wantF_guard]; simp only [wantD_some, dstAt_zero, dstAt_succ, T.get_set, T.get_e, Nat.reduceEqDiff, if_true, if_false, wantV_bool, wantV_unit, unitV, cond_true, cond_false, Bool.not_true, Bool.not_false, List.toList_toArray]) | omega) only [c27b1, c27, Try.f27, Nat.ble, cond_true, cond_false, T.puts_cons, T.puts_nil, exec_seq, exec_block, nat_beq_self, exec_region, exec_cond, exec_skip, exec_ret, exec_exit, exec_scope, runOps_cons, runOps_nil, opF_move, opF_assign, opF_ari, opF_neq, opF_eql, opF_un, opF_index, opF_indexAddr, opF_fieldAddr, opF_field, opF_build, opF_slice, opF_extract, opF_pick, opF_load, opF_alloc, opF_box, opF_buildSlice, opF_makeSlice, opF_store, opF_conv, opF_len, opF_minmax, opF_builtin, opF_call, resK, ev_tmp, evG_some, ev_int, ev_bool, ev_str, evs, evp, evo, R.ok_bind, putT_some, putT_none, T.get_set, T.get_e, binF_int, op_rem, op_quo_u32, op_xor_u32, op_neq, op_eql, op_lss, op_add_i64, op_sub_u32, op_and_u8, op_xor_u8, op_not_u32, binF_shr_u32, binF_shr_u8, op_mul_i64, op_quo_i64, op_and_u32, binF_shl_u8, wrapF_u8, wrapF_u32, mod_u8, mod_u32, cond_val, Nat.lt_irrefl, Nat.not_lt_zero, if_true, if_false, reduceIte, Nat.reduceEqDiff, Nat.reduceAdd, ne_eq, not_true_eq_false, not_false_eq_true, decide_true, decide_false, Bool.false_eq_true, Bool.not_true, Bool.not_false, sub_nil, sub_seq0, sub_seq1, sub_cond0, sub_cond1, sub_block, sub_loop, sub_scope, sub_range0, sub_range1, Option.getD_some, at_ptr, at_slc, runOps_yes, runOps_no, exec_draw, op_sub_i64, op_sub_neg, op_lss_neg, binF_str, str_add, str_neq, str_eql, takeF, resF, oneOf, pickF, extractF, cells_str, cells_int, cells_agg, bool_eql, bool_neq, op_lssI, bne_self_eq_false, beq_self_eq_true, eq_self, cells_slc, cells_func, builtin_append, ev_nilslice, ev_nilfunc, ev_nilptr, ev_nilmap, opF_makeFunc, opF_callv, callV_func, callV_yield, op_leq, op_gtr, op_geq, cast_le, cast_lt, List.nil_append, List.cons_append, List.append_nil, un_not, g17]
              with_reducible rfl
            refine ⟨hlt, _, _, rfl, hEAF.trans hEG, ?_, ?_⟩
            · rw [List.take_succ_eq_append_getElem hlt, List.take_succ_eq_append_getElem hlt', he, hv]
            · simp only [Sl_cons, Sl_nil, T.get_set, T.puts_cons, T.puts_nil, Nat.reduceEqDiff, Nat.reduceAdd, if_true, if_false, and_true, true_and, g0, g1, g2, g15, g16]
          · have hdt := decide_eq_false hv
            apply W.runG (g) 20
            · intro M hM
              simp (config := { maxSteps := 4000000 }) (disch := first | decide +kernel | (rw [wantF_guard]; simp only [wantD_some, dstAt_zero, dstAt_succ, T.get_set, T.get_e, Nat.reduceEqDiff, if_true, if_false, wantV_bool, wantV_unit, unitV, cond_true, cond_false, Bool.not_true, Bool.not_false, List.toList_toArray]) | omega) only [c27b1, c27, Try.f27, Nat.ble, cond_true, cond_false, T.puts_cons, T.puts_nil, exec_seq, exec_block, nat_beq_self, exec_region, exec_cond, exec_skip, exec_ret, exec_exit, exec_scope, runOps_cons, runOps_nil, opF_move, opF_assign, opF_ari, opF_neq, opF_eql, opF_un, opF_index, opF_indexAddr, opF_fieldAddr, opF_field, opF_build, opF_slice, opF_extract, opF_pick, opF_load, opF_alloc, opF_box, opF_buildSlice, opF_makeSlice, opF_store, opF_conv, opF_len, opF_minmax, opF_builtin, opF_call, resK, ev_tmp, evG_some, ev_int, ev_bool, ev_str, evs, evp, evo, R.ok_bind, putT_some, putT_none, T.get_set, T.get_e, binF_int, op_rem, op_quo_u32, op_xor_u32, op_neq, op_eql, op_lss, op_add_i64, op_sub_u32, op_and_u8, op_xor_u8, op_not_u32, binF_shr_u32, binF_shr_u8, op_mul_i64, op_quo_i64, op_and_u32, binF_shl_u8, wrapF_u8, wrapF_u32, mod_u8, mod_u32, cond_val, Nat.lt_irrefl, Nat.not_lt_zero, if_true, if_false, reduceIte, Nat.reduceEqDiff, Nat.reduceAdd, ne_eq, not_true_eq_false, not_false_eq_true, decide_true, decide_false, Bool.false_eq_true, Bool.not_true, Bool.not_false, sub_nil, sub_seq0, sub_seq1, sub_cond0, sub_cond1, sub_block, sub_loop, sub_scope, sub_range0, sub_range1, Option.getD_some, at_ptr, at_slc, runOps_yes, runOps_no, exec_draw, op_sub_i64, op_sub_neg, op_lss_neg, binF_str, str_add, str_neq, str_eql, takeF, resF, oneOf, pickF, extractF, cells_str, cells_int, cells_agg, bool_eql, bool_neq, op_lssI, bne_self_eq_false, beq_self_eq_true, eq_self, cells_slc, cells_func, builtin_append, ev_nilslice, ev_nilfunc, ev_nilptr, ev_nilmap, opF_makeFunc, opF_callv, callV_func, callV_yield, op_leq, op_gtr, op_geq, cast_le, cast_lt, List.nil_append, List.cons_append, List.append_nil, un_not, g2, laF, laF', hg, hdt]
              with_reducible rfl
            refine ⟨.inr rfl, _, [.bool false], rfl, ?_, ?_, hEAF.trans hEG⟩
            · simp only [Try.f27, resF, ev_tmp, T.get_set, Nat.reduceEqDiff, if_true, if_false, evG_some, R.ok_bind]
            · have : ds ≠ ds' := fun h => hv (by subst h; rfl)
              show Value.bool false = _
              rw [decide_eq_false this]
        · have hin : i = ds.length := by omega
          subst hin
          apply W.run 20
          · intro M
            simp (config := { maxSteps := 4000000 }) (disch := first | decide +kernel | (rw [wantF_guard]; simp only [wantD_some, dstAt_zero, dstAt_succ, T.get_set, T.get_e, Nat.reduceEqDiff, if_true, if_false, wantV_bool, wantV_unit, unitV, cond_true, cond_false, Bool.not_true, Bool.not_false, List.toList_toArray]) | omega) only [c27b1, c27, Try.f27, Nat.ble, cond_true, cond_false, T.puts_cons, T.puts_nil, exec_seq, exec_block, nat_beq_self, exec_region, exec_cond, exec_skip, exec_ret, exec_exit, exec_scope, runOps_cons, runOps_nil, opF_move, opF_assign, opF_ari, opF_neq, opF_eql, opF_un, opF_index, opF_indexAddr, opF_fieldAddr, opF_field, opF_build, opF_slice, opF_extract, opF_pick, opF_load, opF_alloc, opF_box, opF_buildSlice, opF_makeSlice, opF_store, opF_conv, opF_len, opF_minmax, opF_builtin, opF_call, resK, ev_tmp, evG_some, ev_int, ev_bool, ev_str, evs, evp, evo, R.ok_bind, putT_some, putT_none, T.get_set, T.get_e, binF_int, op_rem, op_quo_u32, op_xor_u32, op_neq, op_eql, op_lss, op_add_i64, op_sub_u32, op_and_u8, op_xor_u8, op_not_u32, binF_shr_u32, binF_shr_u8, op_mul_i64, op_quo_i64, op_and_u32, binF_shl_u8, wrapF_u8, wrapF_u32, mod_u8, mod_u32, cond_val, Nat.lt_irrefl, Nat.not_lt_zero, if_true, if_false, reduceIte, Nat.reduceEqDiff, Nat.reduceAdd, ne_eq, not_true_eq_false, not_false_eq_true, decide_true, decide_false, Bool.false_eq_true, Bool.not_true, Bool.not_false, sub_nil, sub_seq0, sub_seq1, sub_cond0, sub_cond1, sub_block, sub_loop, sub_scope, sub_range0, sub_range1, Option.getD_some, at_ptr, at_slc, runOps_yes, runOps_no, exec_draw, op_sub_i64, op_sub_neg, op_lss_neg, binF_str, str_add, str_neq, str_eql, takeF, resF, oneOf, pickF, extractF, cells_str, cells_int, cells_agg, bool_eql, bool_neq, op_lssI, bne_self_eq_false, beq_self_eq_true, eq_self, cells_slc, cells_func, builtin_append, ev_nilslice, ev_nilfunc, ev_nilptr, ev_nilmap, opF_makeFunc, opF_callv, callV_func, callV_yield, op_leq, op_gtr, op_geq, cast_le, cast_lt, List.nil_append, List.cons_append, List.append_nil, un_not, g16, g17]
            with_reducible rfl
          show W tb1 _ _ _
          apply W.seq
          apply W.run 20
          · intro M
            simp (config := { maxSteps := 4000000 }) (disch := first | decide +kernel | (rw [wantF_guard]; simp only [wantD_some, dstAt_zero, dstAt_succ, T.get_set, T.get_e, Nat.reduceEqDiff, if_true, if_false, wantV_bool, wantV_unit, unitV, cond_true, cond_false, Bool.not_true, Bool.not_false, List.toList_toArray]) | omega) only [c27, Try.f27, Nat.ble, cond_true, cond_false, T.puts_cons, T.puts_nil, exec_seq, exec_block, nat_beq_self, exec_region, exec_cond, exec_skip, exec_ret, exec_exit, exec_scope, runOps_cons, runOps_nil, opF_move, opF_assign, opF_ari, opF_neq, opF_eql, opF_un, opF_index, opF_indexAddr, opF_fieldAddr, opF_field, opF_build, opF_slice, opF_extract, opF_pick, opF_load, opF_alloc, opF_box, opF_buildSlice, opF_makeSlice, opF_store, opF_conv, opF_len, opF_minmax, opF_builtin, opF_call, resK, ev_tmp, evG_some, ev_int, ev_bool, ev_str, evs, evp, evo, R.ok_bind, putT_some, putT_none, T.get_set, T.get_e, binF_int, op_rem, op_quo_u32, op_xor_u32, op_neq, op_eql, op_lss, op_add_i64, op_sub_u32, op_and_u8, op_xor_u8, op_not_u32, binF_shr_u32, binF_shr_u8, op_mul_i64, op_quo_i64, op_and_u32, binF_shl_u8, wrapF_u8, wrapF_u32, mod_u8, mod_u32, cond_val, Nat.lt_irrefl, Nat.not_lt_zero, if_true, if_false, reduceIte, Nat.reduceEqDiff, Nat.reduceAdd, ne_eq, not_true_eq_false, not_false_eq_true, decide_true, decide_false, Bool.false_eq_true, Bool.not_true, Bool.not_false, sub_nil, sub_seq0, sub_seq1, sub_cond0, sub_cond1, sub_block, sub_loop, sub_scope, sub_range0, sub_range1, Option.getD_some, at_ptr, at_slc, runOps_yes, runOps_no, exec_draw, op_sub_i64, op_sub_neg, op_lss_neg, binF_str, str_add, str_neq, str_eql, takeF, resF, oneOf, pickF, extractF, cells_str, cells_int, cells_agg, bool_eql, bool_neq, op_lssI, bne_self_eq_false, beq_self_eq_true, eq_self, cells_slc, cells_func, builtin_append, ev_nilslice, ev_nilfunc, ev_nilptr, ev_nilmap, opF_makeFunc, opF_callv, callV_func, callV_yield, op_leq, op_gtr, op_geq, cast_le, cast_lt, List.nil_append, List.cons_append, List.append_nil, un_not]
            with_reducible rfl
          apply W.run 20
          · intro M
            simp (config := { maxSteps := 4000000 }) (disch := first | decide +kernel | (rw [wantF_guard]; simp only [wantD_some, dstAt_zero, dstAt_succ, T.get_set, T.get_e, Nat.reduceEqDiff, if_true, if_false, wantV_bool, wantV_unit, unitV, cond_true, cond_false, Bool.not_true, Bool.not_false, List.toList_toArray]) | omega) only [c27, Try.f27, Nat.ble, cond_true, cond_false, T.puts_cons, T.puts_nil, exec_seq, exec_block, nat_beq_self, exec_region, exec_cond, exec_skip, exec_ret, exec_exit, exec_scope, runOps_cons, runOps_nil, opF_move, opF_assign, opF_ari, opF_neq, opF_eql, opF_un, opF_index, opF_indexAddr, opF_fieldAddr, opF_field, opF_build, opF_slice, opF_extract, opF_pick, opF_load, opF_alloc, opF_box, opF_buildSlice, opF_makeSlice, opF_store, opF_conv, opF_len, opF_minmax, opF_builtin, opF_call, resK, ev_tmp, evG_some, ev_int, ev_bool, ev_str, evs, evp, evo, R.ok_bind, putT_some, putT_none, T.get_set, T.get_e, binF_int, op_rem, op_quo_u32, op_xor_u32, op_neq, op_eql, op_lss, op_add_i64, op_sub_u32, op_and_u8, op_xor_u8, op_not_u32, binF_shr_u32, binF_shr_u8, op_mul_i64, op_quo_i64, op_and_u32, binF_shl_u8, wrapF_u8, wrapF_u32, mod_u8, mod_u32, cond_val, Nat.lt_irrefl, Nat.not_lt_zero, if_true, if_false, reduceIte, Nat.reduceEqDiff, Nat.reduceAdd, ne_eq, not_true_eq_false, not_false_eq_true, decide_true, decide_false, Bool.false_eq_true, Bool.not_true, Bool.not_false, sub_nil, sub_seq0, sub_seq1, sub_cond0, sub_cond1, sub_block, sub_loop, sub_scope, sub_range0, sub_range1, Option.getD_some, at_ptr, at_slc, runOps_yes, runOps_no, exec_draw, op_sub_i64, op_sub_neg, op_lss_neg, binF_str, str_add, str_neq, str_eql, takeF, resF, oneOf, pickF, extractF, cells_str, cells_int, cells_agg, bool_eql, bool_neq, op_lssI, bne_self_eq_false, beq_self_eq_true, eq_self, cells_slc, cells_func, builtin_append, ev_nilslice, ev_nilfunc, ev_nilptr, ev_nilmap, opF_makeFunc, opF_callv, callV_func, callV_yield, op_leq, op_gtr, op_geq, cast_le, cast_lt, List.nil_append, List.cons_append, List.append_nil, un_not]
            with_reducible rfl
          refine ⟨.inr rfl, _, [.bool true], rfl, ?_, ?_, hE⟩
          · simp only [Try.f27, resF, ev_tmp, T.get_set, Nat.reduceEqDiff, if_true, if_false, evG_some, R.ok_bind]
          · rw [List.take_length, hl, List.take_length] at he
            show Value.bool true = _
            rw [decide_eq_true he]
      · simp only [Sl_cons, Sl_nil, T.get_set, T.puts_cons, T.puts_nil, Nat.reduceEqDiff, Nat.reduceAdd, if_true, if_false, and_true, true_and]
    · apply W.run 20
      · intro M
        simp (config := { maxSteps := 4000000 }) (disch := first | decide +kernel | (rw [wantF_guard]; simp only [wantD_some, dstAt_zero, dstAt_succ, T.get_set, T.get_e, Nat.reduceEqDiff, if_true, if_false, wantV_bool, wantV_unit, unitV, cond_true, cond_false, Bool.not_true, Bool.not_false, List.toList_toArray]) | omega) only [c27, Try.f27, Nat.ble, cond_true, cond_false, T.puts_cons, T.puts_nil, exec_seq, exec_block, nat_beq_self, exec_region, exec_cond, exec_skip, exec_ret, exec_exit, exec_scope, runOps_cons, runOps_nil, opF_move, opF_assign, opF_ari, opF_neq, opF_eql, opF_un, opF_index, opF_indexAddr, opF_fieldAddr, opF_field, opF_build, opF_slice, opF_extract, opF_pick, opF_load, opF_alloc, opF_box, opF_buildSlice, opF_makeSlice, opF_store, opF_conv, opF_len, opF_minmax, opF_builtin, opF_call, resK, ev_tmp, evG_some, ev_int, ev_bool, ev_str, evs, evp, evo, R.ok_bind, putT_some, putT_none, T.get_set, T.get_e, binF_int, op_rem, op_quo_u32, op_xor_u32, op_neq, op_eql, op_lss, op_add_i64, op_sub_u32, op_and_u8, op_xor_u8, op_not_u32, binF_shr_u32, binF_shr_u8, op_mul_i64, op_quo_i64, op_and_u32, binF_shl_u8, wrapF_u8, wrapF_u32, mod_u8, mod_u32, cond_val, Nat.lt_irrefl, Nat.not_lt_zero, if_true, if_false, reduceIte, Nat.reduceEqDiff, Nat.reduceAdd, ne_eq, not_true_eq_false, not_false_eq_true, decide_true, decide_false, Bool.false_eq_true, Bool.not_true, Bool.not_false, sub_nil, sub_seq0, sub_seq1, sub_cond0, sub_cond1, sub_block, sub_loop, sub_scope, sub_range0, sub_range1, Option.getD_some, at_ptr, at_slc, runOps_yes, runOps_no, exec_draw, op_sub_i64, op_sub_neg, op_lss_neg, binF_str, str_add, str_neq, str_eql, takeF, resF, oneOf, pickF, extractF, cells_str, cells_int, cells_agg, bool_eql, bool_neq, op_lssI, bne_self_eq_false, beq_self_eq_true, eq_self, cells_slc, cells_func, builtin_append, ev_nilslice, ev_nilfunc, ev_nilptr, ev_nilmap, opF_makeFunc, opF_callv, callV_func, callV_yield, op_leq, op_gtr, op_geq, cast_le, cast_lt, List.nil_append, List.cons_append, List.append_nil, un_not, lx, ly, op_neqI, hl, Int.natCast_inj]
        with_reducible rfl
      refine ⟨.inr rfl, _, [.bool false], rfl, ?_, ?_, Ext.refl A⟩
      · simp only [Try.f27, resF, ev_tmp, T.get_set, Nat.reduceEqDiff, if_true, if_false, evG_some, R.ok_bind]
      · have : ds ≠ ds' := fun h => hl (by rw [h])
        show Value.bool false = _
        rw [decide_eq_false this]
  exact ⟨A', ha, he⟩
end Go.Proofs.Ytmhldlnlgjpkaaa.scr

/-
  Script: whether two settings are alike: the whole function.
-/
namespace Go.Proofs.Ytmhldlnlgjpkaaa.scr
open Go.Am
set_option linter.unusedSimpArgs false
set_option maxRecDepth 20000

/-- A setting; any numbers. -/
structure SetG where
  wal : Int
  fan : Int
  quota : Int
  acts : List ActG
theorem SetG.all_inj {a b : SetG} : ((a.wal = b.wal ∧ a.fan = b.fan) ∧ a.quota = b.quota ∧ a.acts = b.acts) ↔ a = b := by
  cases a; cases b
  simp only [SetG.mk.injEq, and_assoc]
instance : DecidableEq SetG := fun _ _ => decidable_of_iff _ SetG.all_inj
def cellsS (s : SetG) (xa : Value) : List Value := [.int .i64 s.wal, .int .i64 s.fan, .int .i64 s.quota, xa]
def SetR (A : Mem) (s : SetG) (l : List Value) : Prop := ∃ xa, l = cellsS s xa ∧ ActsG A s.acts xa
theorem SetR.ext {A A' : Mem} {s : SetG} {l : List Value} (h : SetR A s l) (e : Ext A A') : SetR A' s l := by
  obtain ⟨xa, h1, h2⟩ := h
  exact ⟨xa, h1, h2.ext e⟩
theorem SetR.cells {A : Mem} {s : SetG} {l : List Value} (h : SetR A s l) : l.length = 4 ∧ ∀ v ∈ l, oneCell v = true := by
  obtain ⟨xa, rfl, h2⟩ := h
  refine ⟨rfl, fun v hv => ?_⟩
  simp only [cellsS, List.mem_cons, List.not_mem_nil, or_false] at hv
  rcases hv with rfl | rfl | rfl | rfl <;> first | rfl | exact h2.cells.2
theorem ev_fn (t : T Value) (f : FuncId) : ev t (.func f) = .ok (.func (.func f) ⟨[]⟩ ⟨[]⟩) := rfl
theorem cells_nilfunc : Value.nilFunc.cells.toList = [.nilFunc] := rfl
theorem zero72 : zeroF tb1 72 = .ok .nilFunc := by kernel_rfl
theorem size72 : sizeF tb1 72 = .ok 1 := by kernel_rfl
noncomputable def c12 : Code := Try.f12.body.getD .skip
theorem c12_eq : Try.f12.body = some (.seq (sub c12 [0]) (.seq (sub c12 [1,0]) (.seq (sub c12 [1,1,0]) (.seq (sub c12 [1,1,1,0]) (sub c12 [1,1,1,1]))))) := by kernel_rfl
set_option maxHeartbeats 4000000 in
theorem run_same {A : Mem} {s s' : SetG} {l l' : List Value} (h : SetR A s l) (h' : SetR A s' l') : ∃ A', Ans tb1 12 [.agg ⟨l⟩, .agg ⟨l'⟩] A (.bool (decide (s = s'))) A' ∧ Ext A A' := by
  obtain ⟨xa, rfl, ka⟩ := h
  obtain ⟨ya, rfl, kb⟩ := h'
  obtain ⟨v, A', ha, rfl, he⟩ : ∃ v A', Ans tb1 12 [.agg ⟨cellsS s xa⟩, .agg ⟨cellsS s' ya⟩] A v A' ∧ v = .bool (decide (s = s')) ∧ Ext A A' := by
    refine ans_of_W (fn_at Try.func12) c12_eq (by rw [Try.ntmps12]; simp) (by kernel_rfl) (by kernel_rfl) ?_
    have hn1 : ((A.alloc (rowOb 28 (cellsS s xa))).alloc (rowOb 28 (cellsS s' ya))).next = A.next + 2 := by simp only [next_alloc]
    have hv0 : Vals ((A.alloc (rowOb 28 (cellsS s xa))).alloc (rowOb 28 (cellsS s' ya))) 28 A.next (.var 4) (cellsS s xa) := (Go.Am.vals_new A 28 _).same (get_alloc_ne (by rw [next_alloc]; omega))
    have hv1 : Vals ((A.alloc (rowOb 28 (cellsS s xa))).alloc (rowOb 28 (cellsS s' ya))) 28 (A.next + 1) (.var 4) (cellsS s' ya) := Go.Am.vals_new (A.alloc _) 28 _
    have hE1 : Ext A ((A.alloc (rowOb 28 (cellsS s xa))).alloc (rowOb 28 (cellsS s' ya))) := (Ext.alloc A _).trans (Ext.alloc _ _)
    apply W.seq
    apply W.run 20
    · intro M
      simp (config := { maxSteps := 4000000 }) (disch := first | decide +kernel | (rw [wantF_guard]; simp only [wantD_some, dstAt_zero, dstAt_succ, T.get_set, T.get_e, Nat.reduceEqDiff, if_true, if_false, wantV_bool, wantV_unit, unitV, cond_true, cond_false, Bool.not_true, Bool.not_false, List.toList_toArray]) | omega) only [c12, Try.f12, Nat.ble, cond_true, cond_false, T.puts_cons, T.puts_nil, exec_seq, exec_block, nat_beq_self, exec_region, exec_cond, exec_skip, exec_ret, exec_exit, exec_scope, runOps_cons, runOps_nil, opF_move, opF_assign, opF_ari, opF_neq, opF_eql, opF_un, opF_index, opF_indexAddr, opF_fieldAddr, opF_field, opF_build, opF_slice, opF_extract, opF_pick, opF_load, opF_alloc, opF_box, opF_buildSlice, opF_makeSlice, opF_store, opF_conv, opF_len, opF_minmax, opF_builtin, opF_call, resK, ev_tmp, evG_some, ev_int, ev_bool, ev_str, evs, evp, evo, R.ok_bind, putT_some, putT_none, T.get_set, T.get_e, binF_int, op_rem, op_quo_u32, op_xor_u32, op_neq, op_eql, op_lss, op_add_i64, op_sub_u32, op_and_u8, op_xor_u8, op_not_u32, binF_shr_u32, binF_shr_u8, op_mul_i64, op_quo_i64, op_and_u32, binF_shl_u8, wrapF_u8, wrapF_u32, mod_u8, mod_u32, cond_val, Nat.lt_irrefl, Nat.not_lt_zero, if_true, if_false, reduceIte, Nat.reduceEqDiff, Nat.reduceAdd, ne_eq, not_true_eq_false, not_false_eq_true, decide_true, decide_false, Bool.false_eq_true, Bool.not_true, Bool.not_false, sub_nil, sub_seq0, sub_seq1, sub_cond0, sub_cond1, sub_block, sub_loop, sub_scope, sub_range0, sub_range1, Option.getD_some, at_ptr, at_slc, runOps_yes, runOps_no, exec_draw, op_sub_i64, op_sub_neg, op_lss_neg, binF_str, str_add, str_neq, str_eql, takeF, resF, oneOf, pickF, extractF, cells_str, cells_int, cells_agg, bool_eql, bool_neq, op_lssI, bne_self_eq_false, beq_self_eq_true, eq_self, cells_slc, cells_func, builtin_append, ev_nilslice, ev_nilfunc, ev_nilptr, ev_nilmap, opF_makeFunc, opF_callv, callV_func, callV_yield, op_leq, op_gtr, op_geq, cast_le, cast_lt, List.nil_append, List.cons_append, List.append_nil, un_not]
      with_reducible rfl
    generalize ((A.alloc (rowOb 28 (cellsS s xa))).alloc (rowOb 28 (cellsS s' ya))) = B at hn1 hv0 hv1 hE1
    have hv2 : Vals (B.alloc (rowOb 72 [.nilFunc])) 72 B.next (.var 1) [.nilFunc] := Go.Am.vals_new B 72 _
    obtain ⟨D, hst, hv3, hn3, hf3⟩ := store_box (tb := tb1) (t := 72) (w := .func (.func 23) ⟨[]⟩ ⟨[]⟩) size72 hv2 rfl rfl
    have hED : Ext B D := (Ext.alloc B (rowOb 72 [.nilFunc])).put (b := B.next) (Nat.le_refl _) hn3 hf3
    have hE := hE1.trans hED
    have hBD : B.next < D.next := by rw [hn3, next_alloc]; omega
    obtain ⟨d25, hd1, hd2⟩ := und25
    have a0 := load_part (tb := tb1) (t := 25) (o := 0) (n := 2) hd1 hd2 size25 (hv0.same (hED.g _ (by omega))) (by show 2 ≤ 4; omega)
    rw [show ((cellsS s xa).drop 0).take 2 = [.int .i64 s.wal, .int .i64 s.fan] from rfl] at a0
    have b0 := load_part (tb := tb1) (t := 25) (o := 0) (n := 2) hd1 hd2 size25 (hv1.same (hED.g _ (by omega))) (by show 2 ≤ 4; omega)
    rw [show ((cellsS s' ya).drop 0).take 2 = [.int .i64 s'.wal, .int .i64 s'.fan] from rfl] at b0
    have a1 := load_vals (tb := tb1) (t := 3) und3 rfl (hv0.same (hED.g _ (by omega))) (show (cellsS s xa)[2]? = _ from rfl)
    have b1 := load_vals (tb := tb1) (t := 3) und3 rfl (hv1.same (hED.g _ (by omega))) (show (cellsS s' ya)[2]? = _ from rfl)
    have a2 := load_vals (tb := tb1) (t := 26) und26 rfl (hv0.same (hED.g _ (by omega))) (show (cellsS s xa)[3]? = _ from rfl)
    have b2 := load_vals (tb := tb1) (t := 26) und26 rfl (hv1.same (hED.g _ (by omega))) (show (cellsS s' ya)[3]? = _ from rfl)
    obtain ⟨F, ⟨g, hg⟩, hEF⟩ := run_eqActs (bc := B.next) hBD hv3 (ka.ext hE) (kb.ext hE)
    apply W.seq
    apply W.run 20
    · intro M
      simp (config := { maxSteps := 4000000 }) (disch := first | decide +kernel | (rw [wantF_guard]; simp only [wantD_some, dstAt_zero, dstAt_succ, T.get_set, T.get_e, Nat.reduceEqDiff, if_true, if_false, wantV_bool, wantV_unit, unitV, cond_true, cond_false, Bool.not_true, Bool.not_false, List.toList_toArray]) | omega) only [c12, Try.f12, Nat.ble, cond_true, cond_false, T.puts_cons, T.puts_nil, exec_seq, exec_block, nat_beq_self, exec_region, exec_cond, exec_skip, exec_ret, exec_exit, exec_scope, runOps_cons, runOps_nil, opF_move, opF_assign, opF_ari, opF_neq, opF_eql, opF_un, opF_index, opF_indexAddr, opF_fieldAddr, opF_field, opF_build, opF_slice, opF_extract, opF_pick, opF_load, opF_alloc, opF_box, opF_buildSlice, opF_makeSlice, opF_store, opF_conv, opF_len, opF_minmax, opF_builtin, opF_call, resK, ev_tmp, evG_some, ev_int, ev_bool, ev_str, evs, evp, evo, R.ok_bind, putT_some, putT_none, T.get_set, T.get_e, binF_int, op_rem, op_quo_u32, op_xor_u32, op_neq, op_eql, op_lss, op_add_i64, op_sub_u32, op_and_u8, op_xor_u8, op_not_u32, binF_shr_u32, binF_shr_u8, op_mul_i64, op_quo_i64, op_and_u32, binF_shl_u8, wrapF_u8, wrapF_u32, mod_u8, mod_u32, cond_val, Nat.lt_irrefl, Nat.not_lt_zero, if_true, if_false, reduceIte, Nat.reduceEqDiff, Nat.reduceAdd, ne_eq, not_true_eq_false, not_false_eq_true, decide_true, decide_false, Bool.false_eq_true, Bool.not_true, Bool.not_false, sub_nil, sub_seq0, sub_seq1, sub_cond0, sub_cond1, sub_block, sub_loop, sub_scope, sub_range0, sub_range1, Option.getD_some, at_ptr, at_slc, runOps_yes, runOps_no, exec_draw, op_sub_i64, op_sub_neg, op_lss_neg, binF_str, str_add, str_neq, str_eql, takeF, resF, oneOf, pickF, extractF, cells_str, cells_int, cells_agg, bool_eql, bool_neq, op_lssI, bne_self_eq_false, beq_self_eq_true, eq_self, cells_slc, cells_func, builtin_append, ev_nilslice, ev_nilfunc, ev_nilptr, ev_nilmap, opF_makeFunc, opF_callv, callV_func, callV_yield, op_leq, op_gtr, op_geq, cast_le, cast_lt, List.nil_append, List.cons_append, List.append_nil, un_not, zero72, hst, ev_fn, cells_nilfunc]
      with_reducible rfl
    apply W.seq
    apply W.run 20
    · intro M
      simp (config := { maxSteps := 4000000 }) (disch := first | decide +kernel | (rw [wantF_guard]; simp only [wantD_some, dstAt_zero, dstAt_succ, T.get_set, T.get_e, Nat.reduceEqDiff, if_true, if_false, wantV_bool, wantV_unit, unitV, cond_true, cond_false, Bool.not_true, Bool.not_false, List.toList_toArray]) | omega) only [c12, Try.f12, Nat.ble, cond_true, cond_false, T.puts_cons, T.puts_nil, exec_seq, exec_block, nat_beq_self, exec_region, exec_cond, exec_skip, exec_ret, exec_exit, exec_scope, runOps_cons, runOps_nil, opF_move, opF_assign, opF_ari, opF_neq, opF_eql, opF_un, opF_index, opF_indexAddr, opF_fieldAddr, opF_field, opF_build, opF_slice, opF_extract, opF_pick, opF_load, opF_alloc, opF_box, opF_buildSlice, opF_makeSlice, opF_store, opF_conv, opF_len, opF_minmax, opF_builtin, opF_call, resK, ev_tmp, evG_some, ev_int, ev_bool, ev_str, evs, evp, evo, R.ok_bind, putT_some, putT_none, T.get_set, T.get_e, binF_int, op_rem, op_quo_u32, op_xor_u32, op_neq, op_eql, op_lss, op_add_i64, op_sub_u32, op_and_u8, op_xor_u8, op_not_u32, binF_shr_u32, binF_shr_u8, op_mul_i64, op_quo_i64, op_and_u32, binF_shl_u8, wrapF_u8, wrapF_u32, mod_u8, mod_u32, cond_val, Nat.lt_irrefl, Nat.not_lt_zero, if_true, if_false, reduceIte, Nat.reduceEqDiff, Nat.reduceAdd, ne_eq, not_true_eq_false, not_false_eq_true, decide_true, decide_false, Bool.false_eq_true, Bool.not_true, Bool.not_false, sub_nil, sub_seq0, sub_seq1, sub_cond0, sub_cond1, sub_block, sub_loop, sub_scope, sub_range0, sub_range1, Option.getD_some, at_ptr, at_slc, runOps_yes, runOps_no, exec_draw, op_sub_i64, op_sub_neg, op_lss_neg, binF_str, str_add, str_neq, str_eql, takeF, resF, oneOf, pickF, extractF, cells_str, cells_int, cells_agg, bool_eql, bool_neq, op_lssI, bne_self_eq_false, beq_self_eq_true, eq_self, cells_slc, cells_func, builtin_append, ev_nilslice, ev_nilfunc, ev_nilptr, ev_nilmap, opF_makeFunc, opF_callv, callV_func, callV_yield, op_leq, op_gtr, op_geq, cast_le, cast_lt, List.nil_append, List.cons_append, List.append_nil, un_not]
      with_reducible rfl
    apply W.seq
    by_cases h1 : s.wal = s'.wal ∧ s.fan = s'.fan
    rotate_left
    · have t1 : decide (s.wal = s'.wal ∧ s.fan = s'.fan) = false := decide_eq_false h1
      apply W.run 20
      · intro M
        simp (config := { maxSteps := 4000000 }) (disch := first | decide +kernel | (rw [wantF_guard]; simp only [wantD_some, dstAt_zero, dstAt_succ, T.get_set, T.get_e, Nat.reduceEqDiff, if_true, if_false, wantV_bool, wantV_unit, unitV, cond_true, cond_false, Bool.not_true, Bool.not_false, List.toList_toArray]) | omega) only [c12, Try.f12, Nat.ble, cond_true, cond_false, T.puts_cons, T.puts_nil, exec_seq, exec_block, nat_beq_self, exec_region, exec_cond, exec_skip, exec_ret, exec_exit, exec_scope, runOps_cons, runOps_nil, opF_move, opF_assign, opF_ari, opF_neq, opF_eql, opF_un, opF_index, opF_indexAddr, opF_fieldAddr, opF_field, opF_build, opF_slice, opF_extract, opF_pick, opF_load, opF_alloc, opF_box, opF_buildSlice, opF_makeSlice, opF_store, opF_conv, opF_len, opF_minmax, opF_builtin, opF_call, resK, ev_tmp, evG_some, ev_int, ev_bool, ev_str, evs, evp, evo, R.ok_bind, putT_some, putT_none, T.get_set, T.get_e, binF_int, op_rem, op_quo_u32, op_xor_u32, op_neq, op_eql, op_lss, op_add_i64, op_sub_u32, op_and_u8, op_xor_u8, op_not_u32, binF_shr_u32, binF_shr_u8, op_mul_i64, op_quo_i64, op_and_u32, binF_shl_u8, wrapF_u8, wrapF_u32, mod_u8, mod_u32, cond_val, Nat.lt_irrefl, Nat.not_lt_zero, if_true, if_false, reduceIte, Nat.reduceEqDiff, Nat.reduceAdd, ne_eq, not_true_eq_false, not_false_eq_true, decide_true, decide_false, Bool.false_eq_true, Bool.not_true, Bool.not_false, sub_nil, sub_seq0, sub_seq1, sub_cond0, sub_cond1, sub_block, sub_loop, sub_scope, sub_range0, sub_range1, Option.getD_some, at_ptr, at_slc, runOps_yes, runOps_no, exec_draw, op_sub_i64, op_sub_neg, op_lss_neg, binF_str, str_add, str_neq, str_eql, takeF, resF, oneOf, pickF, extractF, cells_str, cells_int, cells_agg, bool_eql, bool_neq, op_lssI, bne_self_eq_false, beq_self_eq_true, eq_self, cells_slc, cells_func, builtin_append, ev_nilslice, ev_nilfunc, ev_nilptr, ev_nilmap, opF_makeFunc, opF_callv, callV_func, callV_yield, op_leq, op_gtr, op_geq, cast_le, cast_lt, List.nil_append, List.cons_append, List.append_nil, un_not, next_alloc, fa28_0, fa28_1, fa28_2, a0, a1, a2, b0, b1, b2, und3, op_eqlI, opF_eqlR, eq25, t1]
        with_reducible rfl
      apply W.run 20
      · intro M
        simp (config := { maxSteps := 4000000 }) (disch := first | decide +kernel | (rw [wantF_guard]; simp only [wantD_some, dstAt_zero, dstAt_succ, T.get_set, T.get_e, Nat.reduceEqDiff, if_true, if_false, wantV_bool, wantV_unit, unitV, cond_true, cond_false, Bool.not_true, Bool.not_false, List.toList_toArray]) | omega) only [c12, Try.f12, Nat.ble, cond_true, cond_false, T.puts_cons, T.puts_nil, exec_seq, exec_block, nat_beq_self, exec_region, exec_cond, exec_skip, exec_ret, exec_exit, exec_scope, runOps_cons, runOps_nil, opF_move, opF_assign, opF_ari, opF_neq, opF_eql, opF_un, opF_index, opF_indexAddr, opF_fieldAddr, opF_field, opF_build, opF_slice, opF_extract, opF_pick, opF_load, opF_alloc, opF_box, opF_buildSlice, opF_makeSlice, opF_store, opF_conv, opF_len, opF_minmax, opF_builtin, opF_call, resK, ev_tmp, evG_some, ev_int, ev_bool, ev_str, evs, evp, evo, R.ok_bind, putT_some, putT_none, T.get_set, T.get_e, binF_int, op_rem, op_quo_u32, op_xor_u32, op_neq, op_eql, op_lss, op_add_i64, op_sub_u32, op_and_u8, op_xor_u8, op_not_u32, binF_shr_u32, binF_shr_u8, op_mul_i64, op_quo_i64, op_and_u32, binF_shl_u8, wrapF_u8, wrapF_u32, mod_u8, mod_u32, cond_val, Nat.lt_irrefl, Nat.not_lt_zero, if_true, if_false, reduceIte, Nat.reduceEqDiff, Nat.reduceAdd, ne_eq, not_true_eq_false, not_false_eq_true, decide_true, decide_false, Bool.false_eq_true, Bool.not_true, Bool.not_false, sub_nil, sub_seq0, sub_seq1, sub_cond0, sub_cond1, sub_block, sub_loop, sub_scope, sub_range0, sub_range1, Option.getD_some, at_ptr, at_slc, runOps_yes, runOps_no, exec_draw, op_sub_i64, op_sub_neg, op_lss_neg, binF_str, str_add, str_neq, str_eql, takeF, resF, oneOf, pickF, extractF, cells_str, cells_int, cells_agg, bool_eql, bool_neq, op_lssI, bne_self_eq_false, beq_self_eq_true, eq_self, cells_slc, cells_func, builtin_append, ev_nilslice, ev_nilfunc, ev_nilptr, ev_nilmap, opF_makeFunc, opF_callv, callV_func, callV_yield, op_leq, op_gtr, op_geq, cast_le, cast_lt, List.nil_append, List.cons_append, List.append_nil, un_not]
        with_reducible rfl
      refine ⟨.inr rfl, _, [.bool false], rfl, ?_, ?_, hE⟩
      · simp only [Try.f12, resF, ev_tmp, T.get_set, Nat.reduceEqDiff, if_true, if_false, evG_some, R.ok_bind]
      · show Value.bool _ = _
        rw [decide_eq_false (fun h => h1 (by subst h; exact ⟨rfl, rfl⟩))]
    have t1 : decide (s.wal = s'.wal ∧ s.fan = s'.fan) = true := decide_eq_true h1
    by_cases h2 : s.quota = s'.quota
    rotate_left
    · have t2 : decide (s.quota = s'.quota) = false := decide_eq_false h2
      apply W.run 20
      · intro M
        simp (config := { maxSteps := 4000000 }) (disch := first | decide +kernel | (rw [wantF_guard]; simp only [wantD_some, dstAt_zero, dstAt_succ, T.get_set, T.get_e, Nat.reduceEqDiff, if_true, if_false, wantV_bool, wantV_unit, unitV, cond_true, cond_false, Bool.not_true, Bool.not_false, List.toList_toArray]) | omega) only [c12, Try.f12, Nat.ble, cond_true, cond_false, T.puts_cons, T.puts_nil, exec_seq, exec_block, nat_beq_self, exec_region, exec_cond, exec_skip, exec_ret, exec_exit, exec_scope, runOps_cons, runOps_nil, opF_move, opF_assign, opF_ari, opF_neq, opF_eql, opF_un, opF_index, opF_indexAddr, opF_fieldAddr, opF_field, opF_build, opF_slice, opF_extract, opF_pick, opF_load, opF_alloc, opF_box, opF_buildSlice, opF_makeSlice, opF_store, opF_conv, opF_len, opF_minmax, opF_builtin, opF_call, resK, ev_tmp, evG_some, ev_int, ev_bool, ev_str, evs, evp, evo, R.ok_bind, putT_some, putT_none, T.get_set, T.get_e, binF_int, op_rem, op_quo_u32, op_xor_u32, op_neq, op_eql, op_lss, op_add_i64, op_sub_u32, op_and_u8, op_xor_u8, op_not_u32, binF_shr_u32, binF_shr_u8, op_mul_i64, op_quo_i64, op_and_u32, binF_shl_u8, wrapF_u8, wrapF_u32, mod_u8, mod_u32, cond_val, Nat.lt_irrefl, Nat.not_lt_zero, if_true, if_false, reduceIte, Nat.reduceEqDiff, Nat.reduceAdd, ne_eq, not_true_eq_false, not_false_eq_true, decide_true, decide_false, Bool.false_eq_true, Bool.not_true, Bool.not_false, sub_nil, sub_seq0, sub_seq1, sub_cond0, sub_cond1, sub_block, sub_loop, sub_scope, sub_range0, sub_range1, Option.getD_some, at_ptr, at_slc, runOps_yes, runOps_no, exec_draw, op_sub_i64, op_sub_neg, op_lss_neg, binF_str, str_add, str_neq, str_eql, takeF, resF, oneOf, pickF, extractF, cells_str, cells_int, cells_agg, bool_eql, bool_neq, op_lssI, bne_self_eq_false, beq_self_eq_true, eq_self, cells_slc, cells_func, builtin_append, ev_nilslice, ev_nilfunc, ev_nilptr, ev_nilmap, opF_makeFunc, opF_callv, callV_func, callV_yield, op_leq, op_gtr, op_geq, cast_le, cast_lt, List.nil_append, List.cons_append, List.append_nil, un_not, next_alloc, fa28_0, fa28_1, fa28_2, a0, a1, a2, b0, b1, b2, und3, op_eqlI, opF_eqlR, eq25, t1, t2]
        with_reducible rfl
      apply W.run 20
      · intro M
        simp (config := { maxSteps := 4000000 }) (disch := first | decide +kernel | (rw [wantF_guard]; simp only [wantD_some, dstAt_zero, dstAt_succ, T.get_set, T.get_e, Nat.reduceEqDiff, if_true, if_false, wantV_bool, wantV_unit, unitV, cond_true, cond_false, Bool.not_true, Bool.not_false, List.toList_toArray]) | omega) only [c12, Try.f12, Nat.ble, cond_true, cond_false, T.puts_cons, T.puts_nil, exec_seq, exec_block, nat_beq_self, exec_region, exec_cond, exec_skip, exec_ret, exec_exit, exec_scope, runOps_cons, runOps_nil, opF_move, opF_assign, opF_ari, opF_neq, opF_eql, opF_un, opF_index, opF_indexAddr, opF_fieldAddr, opF_field, opF_build, opF_slice, opF_extract, opF_pick, opF_load, opF_alloc, opF_box, opF_buildSlice, opF_makeSlice, opF_store, opF_conv, opF_len, opF_minmax, opF_builtin, opF_call, resK, ev_tmp, evG_some, ev_int, ev_bool, ev_str, evs, evp, evo, R.ok_bind, putT_some, putT_none, T.get_set, T.get_e, binF_int, op_rem, op_quo_u32, op_xor_u32, op_neq, op_eql, op_lss, op_add_i64, op_sub_u32, op_and_u8, op_xor_u8, op_not_u32, binF_shr_u32, binF_shr_u8, op_mul_i64, op_quo_i64, op_and_u32, binF_shl_u8, wrapF_u8, wrapF_u32, mod_u8, mod_u32, cond_val, Nat.lt_irrefl, Nat.not_lt_zero, if_true, if_false, reduceIte, Nat.reduceEqDiff, Nat.reduceAdd, ne_eq, not_true_eq_false, not_false_eq_true, decide_true, decide_false, Bool.false_eq_true, Bool.not_true, Bool.not_false, sub_nil, sub_seq0, sub_seq1, sub_cond0, sub_cond1, sub_block, sub_loop, sub_scope, sub_range0, sub_range1, Option.getD_some, at_ptr, at_slc, runOps_yes, runOps_no, exec_draw, op_sub_i64, op_sub_neg, op_lss_neg, binF_str, str_add, str_neq, str_eql, takeF, resF, oneOf, pickF, extractF, cells_str, cells_int, cells_agg, bool_eql, bool_neq, op_lssI, bne_self_eq_false, beq_self_eq_true, eq_self, cells_slc, cells_func, builtin_append, ev_nilslice, ev_nilfunc, ev_nilptr, ev_nilmap, opF_makeFunc, opF_callv, callV_func, callV_yield, op_leq, op_gtr, op_geq, cast_le, cast_lt, List.nil_append, List.cons_append, List.append_nil, un_not]
        with_reducible rfl
      refine ⟨.inr rfl, _, [.bool false], rfl, ?_, ?_, hE⟩
      · simp only [Try.f12, resF, ev_tmp, T.get_set, Nat.reduceEqDiff, if_true, if_false, evG_some, R.ok_bind]
      · show Value.bool _ = _
        rw [decide_eq_false (fun h => h2 (by subst h; rfl))]
    have t2 : decide (s.quota = s'.quota) = true := decide_eq_true h2
    apply W.runG (g) 20
    · intro M hM
      simp (config := { maxSteps := 4000000 }) (disch := first | decide +kernel | (rw [wantF_guard]; simp only [wantD_some, dstAt_zero, dstAt_succ, T.get_set, T.get_e, Nat.reduceEqDiff, if_true, if_false, wantV_bool, wantV_unit, unitV, cond_true, cond_false, Bool.not_true, Bool.not_false, List.toList_toArray]) | omega) only [c12, Try.f12, Nat.ble, cond_true, cond_false, T.puts_cons, T.puts_nil, exec_seq, exec_block, nat_beq_self, exec_region, exec_cond, exec_skip, exec_ret, exec_exit, exec_scope, runOps_cons, runOps_nil, opF_move, opF_assign, opF_ari, opF_neq, opF_eql, opF_un, opF_index, opF_indexAddr, opF_fieldAddr, opF_field, opF_build, opF_slice, opF_extract, opF_pick, opF_load, opF_alloc, opF_box, opF_buildSlice, opF_makeSlice, opF_store, opF_conv, opF_len, opF_minmax, opF_builtin, opF_call, resK, ev_tmp, evG_some, ev_int, ev_bool, ev_str, evs, evp, evo, R.ok_bind, putT_some, putT_none, T.get_set, T.get_e, binF_int, op_rem, op_quo_u32, op_xor_u32, op_neq, op_eql, op_lss, op_add_i64, op_sub_u32, op_and_u8, op_xor_u8, op_not_u32, binF_shr_u32, binF_shr_u8, op_mul_i64, op_quo_i64, op_and_u32, binF_shl_u8, wrapF_u8, wrapF_u32, mod_u8, mod_u32, cond_val, Nat.lt_irrefl, Nat.not_lt_zero, if_true, if_false, reduceIte, Nat.reduceEqDiff, Nat.reduceAdd, ne_eq, not_true_eq_false, not_false_eq_true, decide_true, decide_false, Bool.false_eq_true, Bool.not_true, Bool.not_false, sub_nil, sub_seq0, sub_seq1, sub_cond0, sub_cond1, sub_block, sub_loop, sub_scope, sub_range0, sub_range1, Option.getD_some, at_ptr, at_slc, runOps_yes, runOps_no, exec_draw, op_sub_i64, op_sub_neg, op_lss_neg, binF_str, str_add, str_neq, str_eql, takeF, resF, oneOf, pickF, extractF, cells_str, cells_int, cells_agg, bool_eql, bool_neq, op_lssI, bne_self_eq_false, beq_self_eq_true, eq_self, cells_slc, cells_func, builtin_append, ev_nilslice, ev_nilfunc, ev_nilptr, ev_nilmap, opF_makeFunc, opF_callv, callV_func, callV_yield, op_leq, op_gtr, op_geq, cast_le, cast_lt, List.nil_append, List.cons_append, List.append_nil, un_not, next_alloc, fa28_0, fa28_1, fa28_2, a0, a1, a2, b0, b1, b2, und3, op_eqlI, opF_eqlR, eq25, t1, t2, hg]
      with_reducible rfl
    apply W.run 20
    · intro M
      simp (config := { maxSteps := 4000000 }) (disch := first | decide +kernel | (rw [wantF_guard]; simp only [wantD_some, dstAt_zero, dstAt_succ, T.get_set, T.get_e, Nat.reduceEqDiff, if_true, if_false, wantV_bool, wantV_unit, unitV, cond_true, cond_false, Bool.not_true, Bool.not_false, List.toList_toArray]) | omega) only [c12, Try.f12, Nat.ble, cond_true, cond_false, T.puts_cons, T.puts_nil, exec_seq, exec_block, nat_beq_self, exec_region, exec_cond, exec_skip, exec_ret, exec_exit, exec_scope, runOps_cons, runOps_nil, opF_move, opF_assign, opF_ari, opF_neq, opF_eql, opF_un, opF_index, opF_indexAddr, opF_fieldAddr, opF_field, opF_build, opF_slice, opF_extract, opF_pick, opF_load, opF_alloc, opF_box, opF_buildSlice, opF_makeSlice, opF_store, opF_conv, opF_len, opF_minmax, opF_builtin, opF_call, resK, ev_tmp, evG_some, ev_int, ev_bool, ev_str, evs, evp, evo, R.ok_bind, putT_some, putT_none, T.get_set, T.get_e, binF_int, op_rem, op_quo_u32, op_xor_u32, op_neq, op_eql, op_lss, op_add_i64, op_sub_u32, op_and_u8, op_xor_u8, op_not_u32, binF_shr_u32, binF_shr_u8, op_mul_i64, op_quo_i64, op_and_u32, binF_shl_u8, wrapF_u8, wrapF_u32, mod_u8, mod_u32, cond_val, Nat.lt_irrefl, Nat.not_lt_zero, if_true, if_false, reduceIte, Nat.reduceEqDiff, Nat.reduceAdd, ne_eq, not_true_eq_false, not_false_eq_true, decide_true, decide_false, Bool.false_eq_true, Bool.not_true, Bool.not_false, sub_nil, sub_seq0, sub_seq1, sub_cond0, sub_cond1, sub_block, sub_loop, sub_scope, sub_range0, sub_range1, Option.getD_some, at_ptr, at_slc, runOps_yes, runOps_no, exec_draw, op_sub_i64, op_sub_neg, op_lss_neg, binF_str, str_add, str_neq, str_eql, takeF, resF, oneOf, pickF, extractF, cells_str, cells_int, cells_agg, bool_eql, bool_neq, op_lssI, bne_self_eq_false, beq_self_eq_true, eq_self, cells_slc, cells_func, builtin_append, ev_nilslice, ev_nilfunc, ev_nilptr, ev_nilmap, opF_makeFunc, opF_callv, callV_func, callV_yield, op_leq, op_gtr, op_geq, cast_le, cast_lt, List.nil_append, List.cons_append, List.append_nil, un_not]
      with_reducible rfl
    refine ⟨.inr rfl, _, [.bool (decide (s.acts = s'.acts))], rfl, ?_, ?_, hE.trans hEF⟩
    · simp only [Try.f12, resF, ev_tmp, T.get_set, Nat.reduceEqDiff, if_true, if_false, evG_some, R.ok_bind]
    · show Value.bool _ = _
      congr 1
      exact decide_eq_decide.2 ⟨fun h => SetG.all_inj.1 ⟨h1, h2, h⟩, fun h => by rw [h]⟩
  exact ⟨A', ha, he⟩

/-! ### What Parse tells, as a setting of any numbers -/
def opToG (d : Nat × List Nat) : Int × List Nat := ((d.1 : Int), d.2)
def ActD.toG (d : ActD) : ActG := ⟨d.kind, d.word, d.weight, d.k, d.n, d.arm, d.cut, d.stays, d.opening.map opToG⟩
theorem OpsR.toG {P : Nat → Prop} {A : Mem} {ds : List (Nat × List Nat)} {x : Value} (h : OpsR P A ds x) (hl : ds.length ≤ 1000) (hs : ∀ d ∈ ds, d.2.length ≤ 1000) : OpsG A (ds.map opToG) x := by
  obtain ⟨ls, b, -, h2, h3, h4⟩ := h
  refine ⟨ls, b, SlcM.toRow (by omega) h2, by rw [h3, List.length_map], by rw [List.length_map]; exact hl, fun i d l hd hl => ?_⟩
  rw [List.getElem?_map] at hd
  cases hq : ds[i]? with
  | none => rw [hq] at hd; cases hd
  | some d0 =>
    rw [hq] at hd
    cases hd
    obtain ⟨xs, k1, k2⟩ := h4 i d0 l hq hl
    exact ⟨xs, k1, k2.same (Nat.le_refl _) (fun _ _ _ => ⟨trivial, rfl⟩), hs d0 (List.mem_of_getElem? hq)⟩
theorem ActR.toG {P : Nat → Prop} {A : Mem} {d : ActD} {l : List Value} (h : ActR P A d l) (h1 : d.stays.length ≤ 1000) (h2 : d.opening.length ≤ 1000) (h3 : ∀ o ∈ d.opening, o.2.length ≤ 1000) : ActGR A d.toG l := by
  obtain ⟨xs, xo, k1, k2, k3⟩ := h
  exact ⟨xs, xo, k1, k2.same (Nat.le_refl _) (fun _ _ _ => ⟨trivial, rfl⟩), h1, OpsR.toG k3 h2 h3⟩
end Go.Proofs.Ytmhldlnlgjpkaaa.scr

/-
  Script: what is read hangs on the bytes that are read alone (a plain law).
-/
namespace Go.Proofs.Ytmhldlnlgjpkaaa.scr
open Go.Am
set_option linter.unusedSimpArgs false

/-- If something is left, what was read is a beginning, and nothing else was asked. -/
def Lc {α : Type} (F : List UInt8 → α × List UInt8) : Prop := (∀ r, (F r).2.length ≤ r.length) ∧ ∀ r, (F r).2 ≠ [] → ∃ u, r = u ++ (F r).2 ∧ ∀ w, F (u ++ w) = ((F r).1, w)
theorem Lc.pure {α : Type} (a : α) : Lc fun r => (a, r) := ⟨fun _ => Nat.le_refl _, fun _ _ => ⟨[], rfl, fun _ => rfl⟩⟩
theorem Lc.one : Lc fun r => (nx r, r.tail) := ⟨fun r => by simp, fun r h => by
  cases r with
  | nil => exact absurd rfl h
  | cons c r => exact ⟨[c], rfl, fun _ => rfl⟩⟩
theorem Lc.map {α β : Type} {F : List UInt8 → α × List UInt8} (h : Lc F) (f : α → β) : Lc fun r => (f (F r).1, (F r).2) := ⟨h.1, fun r hr => by
  obtain ⟨u, h1, h2⟩ := h.2 r hr
  exact ⟨u, h1, fun w => by
    show (f (F (u ++ w)).1, (F (u ++ w)).2) = _
    rw [h2 w]⟩⟩
theorem Lc.bind {α β : Type} {F : List UInt8 → α × List UInt8} {G : α → List UInt8 → β × List UInt8} (h : Lc F) (hg : ∀ a, Lc (G a)) : Lc fun r => G (F r).1 (F r).2 :=
  ⟨fun r => Nat.le_trans ((hg _).1 _) (h.1 r), fun r hr => by
    have hr : (G (F r).1 (F r).2).2 ≠ [] := hr
    have h1 : (F r).2 ≠ [] := fun e => by
      have := (hg (F r).1).1 (F r).2
      rw [e] at this hr
      exact hr (List.length_eq_zero_iff.1 (by simpa using this))
    obtain ⟨u, e1, f1⟩ := h.2 r h1
    obtain ⟨u2, e2, f2⟩ := (hg (F r).1).2 (F r).2 hr
    refine ⟨u ++ u2, by rw [List.append_assoc, ← e2, ← e1], fun w => ?_⟩
    show G (F (u ++ u2 ++ w)).1 (F (u ++ u2 ++ w)).2 = _
    rw [List.append_assoc, f1]
    exact f2 w⟩
theorem Lc.num : Lc fun r => (numV r, r.tail) := Lc.one.map fun n => if 250 ≤ n then 60000 else n
theorem Lc.let : Lc fun r => (letV r, r.tail) := Lc.one.map fun n => UInt8.ofNat (if n < 128 then 97 + n % 4 else n)
theorem Lc.numbers : ∀ k, Lc fun r => (numbersD r k, r.drop k)
  | 0 => Lc.pure []
  | k + 1 => by
    have e : (fun r : List UInt8 => (numbersD r (k + 1), r.drop (k + 1))) = fun r => ((fun l r => (l ++ [numV r], r.tail)) (numbersD r k) (r.drop k)) := by
      funext r
      simp only [numbersD_succ, drop_tail]
    rw [e]
    exact (Lc.numbers k).bind (G := fun l r => (l ++ [numV r], r.tail)) fun l => Lc.num.map fun v => l ++ [v]
theorem Lc.letters : ∀ k, Lc fun r => (lettersD r k, r.drop k)
  | 0 => Lc.pure []
  | k + 1 => by
    have e : (fun r : List UInt8 => (lettersD r (k + 1), r.drop (k + 1))) = fun r => ((fun l r => (l ++ [letV r], r.tail)) (lettersD r k) (r.drop k)) := by
      funext r
      simp only [lettersD_succ, drop_tail]
    rw [e]
    exact (Lc.letters k).bind (G := fun l r => (l ++ [letV r], r.tail)) fun l => Lc.let.map fun v => l ++ [v]
theorem Lc.word : Lc wordD := by
  have e : wordD = fun r => (fun n r => if 248 ≤ n then (List.replicate (32 * (n - 248 + 1)) 120, r) else (lettersD r (n % 8), r.drop (n % 8))) (nx r) r.tail := by
    funext r
    rfl
  rw [e]
  refine Lc.one.bind (G := fun n r => if 248 ≤ n then (List.replicate (32 * (n - 248 + 1)) 120, r) else (lettersD r (n % 8), r.drop (n % 8))) fun n => ?_
  by_cases h : 248 ≤ n
  · simp only [h, if_true]; exact Lc.pure _
  · simp only [h, if_false]; exact Lc.letters _
theorem Lc.arm (k : Nat) : Lc (armD k) := by
  by_cases h : k / 20 % 2 = 1
  · have e : armD k = fun r => (1 + nx r, r.tail) := by funext r; unfold armD; rw [if_pos h]
    rw [e]; exact Lc.one.map fun n => 1 + n
  · have e : armD k = fun r => (0, r) := by funext r; unfold armD; rw [if_neg h]
    rw [e]; exact Lc.pure _
theorem Lc.more (kd : Nat) : Lc fun r => (((moreD kd r).1, (moreD kd r).2.1, (moreD kd r).2.2.1), (moreD kd r).2.2.2) := by
  by_cases h : weighs kd = true
  · have e : (fun r => (((moreD kd r).1, (moreD kd r).2.1, (moreD kd r).2.2.1), (moreD kd r).2.2.2)) = fun r => ((if nx r = 255 then 4294967295 else nx r, 0, 0), r.tail) := by
      funext r; unfold moreD; rw [if_pos h]
    rw [e]; exact Lc.one.map fun n => (if n = 255 then 4294967295 else n, 0, 0)
  · by_cases h7 : kd = 7
    · have e : (fun r => (((moreD kd r).1, (moreD kd r).2.1, (moreD kd r).2.2.1), (moreD kd r).2.2.2)) = fun r => ((0, ((nx r % 6 : Nat) : Int) - ((1 : Nat) : Int), ((nx r / 6 % 12 : Nat) : Int) - ((1 : Nat) : Int)), r.tail) := by
        funext r; unfold moreD; rw [if_neg h, if_pos h7]
      rw [e]; exact Lc.one.map fun n => (0, ((n % 6 : Nat) : Int) - ((1 : Nat) : Int), ((n / 6 % 12 : Nat) : Int) - ((1 : Nat) : Int))
    · have e : (fun r => (((moreD kd r).1, (moreD kd r).2.1, (moreD kd r).2.2.1), (moreD kd r).2.2.2)) = fun r => ((0, 0, 0), r) := by
        funext r; unfold moreD; rw [if_neg h, if_neg h7]
      rw [e]; exact Lc.pure _
theorem Lc.opening : Lc fun r => (openV r, openRest r) := by
  have e : (fun r => (openV r, openRest r)) = fun r => (fun a r => (fun b r => ((1 + a, numbersD r (b % 4)), r.drop (b % 4))) (nx r) r.tail) (nx r) r.tail := by
    funext r
    unfold openV openRest
    rw [show r.drop 2 = r.tail.tail by cases r with
      | nil => rfl
      | cons a r => cases r <;> rfl]
  rw [e]
  exact Lc.one.bind (G := fun a r => (fun b r' => ((1 + a, numbersD r' (b % 4)), r'.drop (b % 4))) (nx r) r.tail) fun a => Lc.one.bind (G := fun b r => ((1 + a, numbersD r (b % 4)), r.drop (b % 4))) fun b => (Lc.numbers (b % 4)).map fun l => (1 + a, l)
theorem Lc.opens : ∀ k, Lc fun r => (opensL r k, opensRest r k)
  | 0 => Lc.pure []
  | k + 1 => by
    have e : (fun r : List UInt8 => (opensL r (k + 1), opensRest r (k + 1))) = fun r => ((fun l r => (l ++ [openV r], openRest r)) (opensL r k) (opensRest r k)) := by
      funext r
      simp only [opensL, List.range_succ, List.map_append, List.map_cons, List.map_nil, opensRest]
    rw [e]
    exact (Lc.opens k).bind (G := fun l r => (l ++ [openV r], openRest r)) fun l => Lc.opening.map fun v => l ++ [v]
theorem Lc.stop (c : Bool) : Lc fun r => (((stopD c r).1, (stopD c r).2.1), (stopD c r).2.2) := by
  cases c with
  | false =>
    have e : (fun r => (((stopD false r).1, (stopD false r).2.1), (stopD false r).2.2)) = fun r => (([], []), r) := rfl
    rw [e]; exact Lc.pure _
  | true =>
    have e : (fun r => (((stopD true r).1, (stopD true r).2.1), (stopD true r).2.2)) = fun r => (fun n r => (fun l r => ((l, opensL r (n / 6 % 4)), opensRest r (n / 6 % 4))) (numbersD r (n % 6)) (r.drop (n % 6))) (nx r) r.tail := rfl
    rw [e]
    exact Lc.one.bind (G := fun n r => (fun l r => ((l, opensL r (n / 6 % 4)), opensRest r (n / 6 % 4))) (numbersD r (n % 6)) (r.drop (n % 6))) fun n =>
      (Lc.numbers (n % 6)).bind (G := fun l r => ((l, opensL r (n / 6 % 4)), opensRest r (n / 6 % 4))) fun l => (Lc.opens (n / 6 % 4)).map fun m => (l, m)
def actK4 (k a : Nat) (w : List UInt8) (m : Nat × Int × Int) (r : List UInt8) : ActD × List UInt8 := (⟨k % 10, w, m.1, m.2.1, m.2.2, a, cutD k, (stopD (cutD k || decide (0 < a)) r).1, (stopD (cutD k || decide (0 < a)) r).2.1⟩, (stopD (cutD k || decide (0 < a)) r).2.2)
def actK3 (k a : Nat) (w : List UInt8) (r : List UInt8) : ActD × List UInt8 := actK4 k a w ((moreD (k % 10) r).1, (moreD (k % 10) r).2.1, (moreD (k % 10) r).2.2.1) (moreD (k % 10) r).2.2.2
def actK2 (k a : Nat) (r : List UInt8) : ActD × List UInt8 := actK3 k a (wordD r).1 (wordD r).2
def actK1 (k : Nat) (r : List UInt8) : ActD × List UInt8 := actK2 k (armD k r).1 (armD k r).2
theorem Lc.act : Lc actD := by
  have e : actD = fun r => actK1 (nx r) r.tail := rfl
  rw [e]
  refine Lc.one.bind (G := actK1) fun k => ?_
  refine (Lc.arm k).bind (G := actK2 k) fun a => ?_
  refine Lc.word.bind (G := actK3 k a) fun w => ?_
  refine (Lc.more (k % 10)).bind (G := actK4 k a w) fun m => ?_
  exact (Lc.stop (cutD k || decide (0 < a))).map fun s => (⟨k % 10, w, m.1, m.2.1, m.2.2, a, cutD k, s.1, s.2⟩ : ActD)
theorem actD_lt {r : List UInt8} (h : r ≠ []) : (actD r).2.length < r.length := by
  cases r with
  | nil => exact absurd rfl h
  | cons c r =>
    have h1 := armD_rest c.toNat r
    have h2 := wordD_rest (armD c.toNat r).2
    have h3 := moreD_rest (c.toNat % 10) (wordD (armD c.toNat r).2).2
    have h4 := stopD_rest (cutD c.toNat || decide (0 < (armD c.toNat r).1)) (moreD (c.toNat % 10) (wordD (armD c.toNat r).2).2).2.2.2
    show (stopD (cutD c.toNat || decide (0 < (armD c.toNat r).1)) (moreD (c.toNat % 10) (wordD (armD c.toNat r).2).2).2.2.2).2.2.length < _
    rw [List.length_cons]
    omega
/-- All acts: if something is left, there are as many as may be, and the rest was not asked. -/
theorem actsD_left : ∀ n r, (actsD n r).2 ≠ [] → (actsD n r).1.length = n ∧ ∃ u, r = u ++ (actsD n r).2 ∧ ∀ w, actsD n (u ++ w) = ((actsD n r).1, w)
  | 0, r, _ => ⟨rfl, [], rfl, fun _ => rfl⟩
  | n + 1, r, h => by
    by_cases hr : r.length = 0
    · rw [actsD_nil _ hr] at h
      exact absurd (List.length_eq_zero_iff.1 hr) h
    · have hr' : r ≠ [] := fun e => hr (by rw [e]; rfl)
      rw [actsD_step n hr] at h ⊢
      simp only at h ⊢
      have h1 : (actD r).2 ≠ [] := fun e => h (by rw [e]; rw [actsD_nil n rfl])
      obtain ⟨u, e1, f1⟩ := Lc.act.2 r h1
      obtain ⟨hl, u2, e2, f2⟩ := actsD_left n (actD r).2 h
      refine ⟨by rw [List.length_cons, hl], u ++ u2, by rw [List.append_assoc, ← e2, ← e1], fun w => ?_⟩
      have hlt := actD_lt hr'
      have hul : u.length ≠ 0 := fun e => by
        have h3 := congrArg List.length e1
        rw [List.length_append] at h3
        omega
      rw [List.append_assoc, actsD_step n (by rw [List.length_append]; omega), f1]
      simp only
      rw [f2]
/-- The acts of a beginning begin the acts, all but the last one. -/
theorem actsD_pre : ∀ n r w, (actsD n r).1.length ≤ (actsD n (r ++ w)).1.length ∧ (actsD n r).1.take ((actsD n r).1.length - 1) = (actsD n (r ++ w)).1.take ((actsD n r).1.length - 1)
  | 0, _, _ => ⟨Nat.le_refl _, rfl⟩
  | n + 1, r, w => by
    by_cases hr : r.length = 0
    · rw [actsD_nil _ hr]
      exact ⟨Nat.zero_le _, by simp⟩
    · rw [actsD_step n hr, actsD_step n (show (r ++ w).length ≠ 0 by rw [List.length_append]; omega)]
      simp only [List.length_cons, Nat.add_sub_cancel]
      by_cases h1 : (actD r).2 = []
      · rw [h1, actsD_nil n rfl]
        exact ⟨by simp, by simp⟩
      · obtain ⟨u, e1, f1⟩ := Lc.act.2 r h1
        have e2 : actD (r ++ w) = ((actD r).1, (actD r).2 ++ w) := by
          conv => lhs; rw [e1, List.append_assoc]
          exact f1 _
        rw [e2]
        simp only
        obtain ⟨i1, i2⟩ := actsD_pre n (actD r).2 w
        refine ⟨by omega, ?_⟩
        cases hq : (actsD n (actD r).2).1.length with
        | zero => rfl
        | succ m =>
          rw [hq] at i2
          simp only [Nat.add_sub_cancel] at i2
          rw [List.take_succ_cons, List.take_succ_cons, i2]

/-! ### The setting of bytes -/
def setD (b : List UInt8) : SetG := ⟨((1 + nx b : Nat) : Int), ((2 + nx b.tail % 8 : Nat) : Int), ((nx b.tail.tail + 256 * nx b.tail.tail.tail : Nat) : Int), (actsD 60 (restD b)).1.map ActD.toG⟩
def leftD (b : List UInt8) : List UInt8 := (actsD 60 (restD b)).2
theorem leftD_len (b : List UInt8) : (leftD b).length ≤ b.length := by
  have h := actsD_rest 60 (restD b)
  unfold restD at h
  simp only [List.length_tail] at h
  unfold leftD restD
  omega
theorem ActsR.toG {P : Nat → Prop} {A : Mem} {ds : List ActD} {x : Value} (h : ActsR P A ds x) (hl : ds.length ≤ 1000) (hok : ∀ d ∈ ds, ActOk d) : ActsG A (ds.map ActD.toG) x := by
  obtain ⟨ls, b, -, h2, h3, h4⟩ := h
  refine ⟨ls, b, SlcM.toRow (by omega) h2, by rw [h3, List.length_map], by rw [List.length_map]; exact hl, fun i d l hd hl => ?_⟩
  rw [List.getElem?_map] at hd
  cases hq : ds[i]? with
  | none => rw [hq] at hd; cases hd
  | some d0 =>
    rw [hq] at hd
    cases hd
    have ho := hok d0 (List.mem_of_getElem? hq)
    have h1 := ho.stays
    have h5 := ho.opening
    exact ActR.toG (h4 i d0 l hq hl) (by omega) (by omega) (fun o ho' => by have := (ho.each o ho').2.2; omega)
theorem setD_len (b : List UInt8) : (setD b).acts.length ≤ 60 := by
  show ((actsD 60 (restD b)).1.map ActD.toG).length ≤ 60
  rw [List.length_map]; exact actsD_len 60 _
theorem run_parseG {q : Nat} {A : Mem} {rem : List UInt8} {x : Value} (h : RdS q A rem x) (hl : rem.length ≤ 1000000) :
    ∃ A' l, Ans tb1 9 [x] A (.tuple ⟨[.agg ⟨l⟩, .int .i64 ((rem.length - (leftD rem).length : Nat) : Int)]⟩) A' ∧ SetR A' (setD rem) l ∧ Ext A A' := by
  obtain ⟨A', xa, lo, h1, h2, -, h4, h5⟩ := run_parse h.1 h hl
  exact ⟨A', _, h1, ⟨xa, rfl, ActsR.toG h2 (by have := actsD_len 60 (restD rem); omega) (actsD_ok 60 (restD rem))⟩, h4, h5⟩
theorem nx_app {u w : List UInt8} (h : u ≠ []) : nx (u ++ w) = nx u := by
  cases u with
  | nil => exact absurd rfl h
  | cons c u => rfl
theorem tail_app {u w : List UInt8} (h : u ≠ []) : (u ++ w).tail = u.tail ++ w := by
  cases u with
  | nil => exact absurd rfl h
  | cons c u => rfl
/-- Four bytes at least: the head is read of them. -/
theorem head_app {u w : List UInt8} (h : 4 ≤ u.length) : nx (u ++ w) = nx u ∧ nx (u ++ w).tail = nx u.tail ∧ nx (u ++ w).tail.tail = nx u.tail.tail ∧ nx (u ++ w).tail.tail.tail = nx u.tail.tail.tail ∧ restD (u ++ w) = restD u ++ w := by
  match u, h with
  | a :: b :: c :: d :: u, _ => exact ⟨rfl, rfl, rfl, rfl, rfl⟩
/-- What is behind the bytes that count changes nothing. -/
theorem set_more {b w : List UInt8} (h : leftD b ≠ []) : setD (b.take (b.length - (leftD b).length) ++ w) = setD b ∧ leftD (b.take (b.length - (leftD b).length) ++ w) = w ∧ (setD b).acts.length = 60 := by
  obtain ⟨hl, u, e1, f1⟩ := actsD_left 60 (restD b) h
  have hne : restD b ≠ [] := fun e => by
    unfold leftD at h
    rw [e, actsD_nil 60 rfl] at h
    exact h rfl
  obtain ⟨c0, c1, c2, c3, r, rfl⟩ : ∃ c0 c1 c2 c3 r, b = c0 :: c1 :: c2 :: c3 :: r := by
    match b, hne with
    | c0 :: c1 :: c2 :: c3 :: r, _ => exact ⟨c0, c1, c2, c3, r, rfl⟩
    | [_, _, _], h => exact absurd rfl h
    | [_, _], h => exact absurd rfl h
    | [_], h => exact absurd rfl h
    | [], h => exact absurd rfl h
  have hr : restD (c0 :: c1 :: c2 :: c3 :: r) = r := rfl
  rw [hr] at e1 f1 hl
  have hL : leftD (c0 :: c1 :: c2 :: c3 :: r) = (actsD 60 r).2 := rfl
  have hrl := congrArg List.length e1
  rw [List.length_append] at hrl
  have ht : (c0 :: c1 :: c2 :: c3 :: r).take ((c0 :: c1 :: c2 :: c3 :: r).length - (leftD (c0 :: c1 :: c2 :: c3 :: r)).length) = c0 :: c1 :: c2 :: c3 :: u := by
    rw [hL, show (c0 :: c1 :: c2 :: c3 :: r).length - (actsD 60 r).2.length = (c0 :: c1 :: c2 :: c3 :: u).length by simp only [List.length_cons]; omega]
    conv => lhs; arg 2; rw [e1]
    rw [show c0 :: c1 :: c2 :: c3 :: (u ++ (actsD 60 r).2) = (c0 :: c1 :: c2 :: c3 :: u) ++ (actsD 60 r).2 from rfl, List.take_left]
  rw [ht]
  have ha : actsD 60 (restD (c0 :: c1 :: c2 :: c3 :: u ++ w)) = ((actsD 60 r).1, w) := f1 w
  refine ⟨?_, ?_, ?_⟩
  · unfold setD
    rw [ha]
    rfl
  · unfold leftD
    rw [ha]
  · show ((actsD 60 r).1.map ActD.toG).length = 60
    rw [List.length_map]; exact hl
theorem set_pre (b : List UInt8) (k : Nat) : (setD (b.take k)).acts.length ≤ (setD b).acts.length ∧ (4 ≤ k → (⟨(setD (b.take k)).wal, (setD (b.take k)).fan, (setD (b.take k)).quota, (setD (b.take k)).acts.take ((setD (b.take k)).acts.length - 1)⟩ : SetG) = ⟨(setD b).wal, (setD b).fan, (setD b).quota, (setD b).acts.take ((setD (b.take k)).acts.length - 1)⟩) := by
  have key : ∀ (u w : List UInt8), 4 ≤ u.length → (setD u).acts.length ≤ (setD (u ++ w)).acts.length ∧ (⟨(setD u).wal, (setD u).fan, (setD u).quota, (setD u).acts.take ((setD u).acts.length - 1)⟩ : SetG) = ⟨(setD (u ++ w)).wal, (setD (u ++ w)).fan, (setD (u ++ w)).quota, (setD (u ++ w)).acts.take ((setD u).acts.length - 1)⟩ := by
    intro u w hu
    obtain ⟨h0, h1, h2, h3, h4⟩ := head_app (w := w) hu
    obtain ⟨p1, p2⟩ := actsD_pre 60 (restD u) w
    unfold setD
    simp only [List.length_map]
    rw [h0, h1, h2, h3, h4]
    refine ⟨p1, ?_⟩
    rw [← List.map_take, ← List.map_take, p2]
  by_cases hb : 4 ≤ (b.take k).length
  · have h := key (b.take k) (b.drop k) hb
    rw [List.take_append_drop] at h
    exact ⟨h.1, fun _ => h.2⟩
  · by_cases hk : 4 ≤ k
    · have hbk : b.take k = b := List.take_of_length_le (by simp only [List.length_take] at hb; omega)
      rw [hbk]
      refine ⟨Nat.le_refl _, fun _ => rfl⟩
    · refine ⟨?_, fun h => absurd h hk⟩
      have hr : restD (b.take k) = [] := by
        apply List.length_eq_zero_iff.1
        unfold restD
        simp only [List.length_tail]
        omega
      have : (setD (b.take k)).acts.length = 0 := by
        show ((actsD 60 (restD (b.take k))).1.map ActD.toG).length = 0
        rw [hr, actsD_nil 60 rfl]
        rfl
      omega

variable {q : Nat}
theorem bs22_0 : buildSliceF tb1 22 0 [] = .ok (rowOb 5 [], .slc 0 0) := by kernel_rfl
theorem RdS.first {A : Mem} {l : List UInt8} {x : Value} (h : RdS q A l x) : lenF x = .ok l.length ∧ firstF A.get 1 l.length x = .ok (byts l) := by
  rcases h with ⟨_, ⟨rfl, rfl⟩ | ⟨off, cp, rfl, -, -, h⟩⟩
  · exact ⟨rfl, rfl⟩
  · refine ⟨rfl, ?_⟩
    show elemsF A.get 1 l.length (some ⟨q, off, none⟩) = _
    unfold elemsF
    simp only [Nat.mul_one]
    cases hn : Nat.beq l.length 0 with
    | true =>
      have : l = [] := List.length_eq_zero_iff.1 (Nat.eq_of_beq_eq_true hn)
      subst this; rfl
    | false =>
      rcases h with rfl | ⟨t, kd, fz, c, h1, h2⟩
      · cases hn
      · have hg : c.gets l.length off = some (byts l) := gets_eq _ _ _ _ (byts_len l) fun j hj => by
          rw [h2 j hj, byts_get (getB_some hj)]
        simp only [cond_false, h1, hg]
theorem byts_app (l m : List UInt8) : byts (l ++ m) = byts l ++ byts m := by simp [byts]
theorem byts_one (l : List UInt8) : ∀ v ∈ byts l, oneCell v = true := fun v hv => by
  obtain ⟨c, -, rfl⟩ := List.mem_map.1 hv
  rfl
/-- Bytes are appended to a slice of bytes. -/
theorem app_byts {A : Mem} {b : Nat} {l m : List UInt8} {x y : Value} (h : Slc A 5 b (byts l) x) (hy : RdS q A m y) (hl : l.length + m.length ≤ 16777216) :
    ∃ x' A' b', appendF tb1 A 22 22 x y = .ok (x', A') ∧ Slc A' 5 b' (byts (l ++ m)) x' ∧ A.next ≤ A'.next ∧ (b' = b ∨ A.next ≤ b') ∧ ∀ y, (y = b → x = .slice none 0 0) → y < A.next → A'.get y = A.get y := by
  obtain ⟨i, hi, hib⟩ := ty5
  obtain ⟨e1, e2⟩ := hy.first
  rw [byts_app]
  exact h.appends (st := 22) (xt := 22) (e := 5) (m := m.length) und22 und22 rfl zc5 hi (by omega) (by omega) (by rw [byts_len]; exact hl) e1 e2 (byts_len m) (byts_one m)
theorem sameV_int (d : Nat) (k : IntKind) (n : Int) : sameV (d + 1) (.int k n) (.int k n) = true := by
  rw [sameV]
  simp only [ieqF_iff]
  cases k <;> simp [kindEq]
theorem SetR.self {A : Mem} {s : SetG} {l : List Value} (h : SetR A s l) : sameV 100 (.agg ⟨l⟩) (.agg ⟨l⟩) = true := by
  obtain ⟨xa, rfl, ls, b, h1, -⟩ := h
  show sameV (98 + 2) _ _ = true
  rw [sameV]
  simp [cellsS, sameV_int, h1.self]
theorem RdS.of_parG {A : Mem} {zs : List Int} {len : Nat} {x : Value} (hA : 0 < A.next) (hz : ∀ z ∈ zs.take len, 0 ≤ z ∧ z < 256) (h : ParG A 1 len (zs.map (.int .u8)) x) : ∃ q, RdS q A ((zs.take len).map fun z => UInt8.ofNat z.toNat) x := by
  rcases h with ⟨rfl, rfl⟩ | ⟨q, off, rfl, hq, h⟩
  · exact ⟨0, hA, .inl ⟨rfl, by simp⟩⟩
  · by_cases h0 : len = 0
    · subst h0
      exact ⟨q, hq, .inr ⟨off, mkX 0 1, by simp, capFit_mkX 0, by simp, .inl (by simp)⟩⟩
    · rcases h with h | ⟨t, fz, c, h1, h2⟩
      · omega
      · have hl : len ≤ zs.length := by
          obtain ⟨v, hv, -⟩ := h2 (len - 1) (by omega)
          have := (List.getElem?_eq_some_iff.1 hv).1
          rw [List.length_map] at this
          omega
        have hll : ((zs.take len).map fun z => UInt8.ofNat z.toNat).length = len := by rw [List.length_map, List.length_take]; omega
        refine ⟨q, hq, .inr ⟨off, mkX len 1, by rw [hll], capFit_mkX len, by rw [hll, capN_mkX (by omega)]; exact Nat.le_refl _, .inr ⟨t, _, fz, c, h1, fun i hi => ?_⟩⟩⟩
        rw [hll] at hi
        obtain ⟨v, hv, hc⟩ := h2 i (by omega)
        rw [hc]
        have hi2 : i < zs.length := by omega
        rw [List.getElem?_map, List.getElem?_eq_getElem hi2] at hv
        simp only [Option.map_some, Option.some.injEq] at hv
        rw [← hv]
        have hb := hz zs[i] (by rw [List.mem_take_iff_getElem]; exact ⟨i, by omega, rfl⟩)
        have hg : ((zs.take len).map fun z => UInt8.ofNat z.toNat).getD i 0 = UInt8.ofNat (zs[i]).toNat := by
          simp [List.getD, List.getElem?_map, List.getElem?_take, hi, List.getElem?_eq_getElem hi2]
        rw [hg, UInt8.toNat_ofNat']
        congr 2
        omega
end Go.Proofs.Ytmhldlnlgjpkaaa.scr

