/-
  The statement DistMeasures holds, for every input: the program, run on the abstract machine AM on values of which parts are variables, answers true; what AM answers the model answers. No conditions.
-/
import Derived.Test.YtekimgleakjonaaRows
import Derived.Test.YtekimgleakjonaaDistB
import Derived.WalkKit
import Derived.ProofKit
import Derived.OpenShut
import Derived.ShutString
import Derived.Laws.IdiomArrays
namespace Go.Proofs.Ytekimgleakjonaa.dist
open Go.Am Go.Dist
set_option linter.unusedSimpArgs false

def cut (n : Nat) (s : List UInt8) : List UInt8 := s.take (min s.length n)
theorem cut_len (n : Nat) (s : List UInt8) : (cut n s).length ≤ n := by unfold cut; rw [List.length_take]; omega
def ml (p : Nat → List UInt8) (k : Nat) : List Value := [strOf (if 0 < k then cut 40 (p 0) else p 0), strOf (if 1 < k then cut 40 (p 1) else p 1), strOf (if 2 < k then cut 40 (p 2) else p 2)]
theorem ml_get (p : Nat → List UInt8) {k : Nat} (h : k < 3) : (ml p k)[k]? = some (strOf (p k)) := by
  match k, h with
  | 0, _ => rfl
  | 1, _ => rfl
  | 2, _ => rfl
theorem ml_set (p : Nat → List UInt8) {k : Nat} (h : k < 3) : (ml p k).set k (strOf (cut 40 (p k))) = ml p (k + 1) := by
  match k, h with
  | 0, _ => rfl
  | 1, _ => rfl
  | 2, _ => rfl

noncomputable def c4 : Code := Try.f4.body.getD .skip
noncomputable def c4b1 : Code := sub c4 [1,1,0,1,0,0]
theorem c4_eq : Try.f4.body = some (.seq (sub c4 [0]) (.seq (.seq (sub c4 [1,0,0]) (sub c4 [1,0,1])) (.seq (.seq (sub c4 [1,1,0,0]) (.block 0 (.loop c4b1))) (.seq (sub c4 [1,1,1,0]) (.seq (sub c4 [1,1,1,1,0]) (.seq (.seq (sub c4 [1,1,1,1,1,0,0]) (sub c4 [1,1,1,1,1,0,1])) (.seq (sub c4 [1,1,1,1,1,1,0]) (.seq (.seq (sub c4 [1,1,1,1,1,1,1,0,0]) (sub c4 [1,1,1,1,1,1,1,0,1])) (.seq (sub c4 [1,1,1,1,1,1,1,1,0]) (.seq (sub c4 [1,1,1,1,1,1,1,1,1,0]) (.seq (sub c4 [1,1,1,1,1,1,1,1,1,1,0]) (.seq (sub c4 [1,1,1,1,1,1,1,1,1,1,1,0]) (sub c4 [1,1,1,1,1,1,1,1,1,1,1,1]))))))))))))) := by kernel_rfl

section
variable {a b e : List UInt8} {c : UInt8} {bb : Nat} {A : Mem} {t : T Value} {K : Ex → St → Prop}
set_option maxHeartbeats 4000000 in
set_option maxRecDepth 20000 in
/-- The first check. -/
theorem meas_first (ha : a.length ≤ 40) (hb : b.length ≤ 40) (he : e.length ≤ 40) (hv : Vals A 34 bb (.var 3) [strOf a, strOf b, strOf e]) (g3 : t.get 3 = some (.pointer (some ⟨bb, 0, none⟩))) (g8 : t.get 8 = some (strOf a)) (g9 : t.get 9 = some (strOf b)) (g10 : t.get 10 = some (.int .i64 (Go.Dist.dist a b : Nat)))
    (hk : ∀ t' : T Value, t'.get 91 = some (.bool false) → t'.get 1 = t.get 1 → t'.get 2 = t.get 2 → t'.get 8 = t.get 8 → t'.get 9 = t.get 9 → t'.get 10 = t.get 10 → K .nrm ⟨t', 149, [], A, none⟩) : W tb1 (sub c4 [1,1,1,1,1,0,0]) ⟨t, 149, [], A, none⟩ K := by
  have e0 : (Go.Dist.dist a b = 0) = (a = b) := propext (dist_zero a b)
  have e1 := dist_symm b a
  have e2 : ¬ Go.Dist.dist a e + Go.Dist.dist e b < Go.Dist.dist a b := by have := dist_tri a e b; omega
  have hl := dist_len a b
  have e3 : ¬ ((Go.Dist.dist a b : Nat) : Int) < (a.length : Int) - (b.length : Int) := by omega
  have e4 : ¬ ((Go.Dist.dist a b : Nat) : Int) < (b.length : Int) - (a.length : Int) := by omega
  have e5 : ¬ max a.length b.length < Go.Dist.dist a b := by have := dist_max a b; omega
  have s1 := dist_max a e
  have s2 := dist_max e b
  have hld : loadF tb1 A.get 9 (.pointer (some ⟨bb, 2, none⟩)) = .ok (strOf e) := load_vals vnd9 rfl hv rfl
  have hix : indexAddrF tb1 34 (.pointer (some ⟨bb, 0, none⟩)) (.int .i64 ((2 : Nat) : Int)) = .ok (.pointer (some ⟨bb, 2, none⟩)) := indexAddr_arr (i := 2) vnd34 vize9 (by omega)
  apply W.run 20
  · intro M
    simp (config := { maxSteps := 4000000 }) (disch := first | decide +kernel | (rw [wantF_guard]; simp only [wantD_some, dstAt_zero, dstAt_succ, T.get_set, T.get_e, Nat.reduceEqDiff, if_true, if_false, wantV_bool, wantV_unit, unitV, cond_true, cond_false, Bool.not_true, Bool.not_false, List.toList_toArray]) | omega) only [c4, Try.f4, Nat.ble, cond_true, cond_false, T.puts_cons, T.puts_nil, exec_seq, exec_block, nat_beq_self, exec_region, exec_cond, exec_skip, exec_ret, exec_exit, exec_scope, runOps_cons, runOps_nil, opF_move, opF_assign, opF_ari, opF_neq, opF_eql, opF_un, opF_index, opF_indexAddr, opF_fieldAddr, opF_field, opF_build, opF_slice, opF_extract, opF_pick, opF_load, opF_alloc, opF_box, opF_buildSlice, opF_makeSlice, opF_store, opF_conv, opF_len, opF_minmax, opF_builtin, opF_call, resK, ev_tmp, evG_some, ev_int, ev_bool, ev_str, evs, evp, evo, R.ok_bind, putT_some, putT_none, T.get_set, T.get_e, binF_int, op_rem, op_quo_u32, op_xor_u32, op_neq, op_eql, op_lss, op_add_i64, op_sub_u32, op_and_u8, op_xor_u8, op_not_u32, binF_shr_u32, binF_shr_u8, op_mul_i64, op_quo_i64, op_and_u32, binF_shl_u8, wrapF_u8, wrapF_u32, mod_u8, mod_u32, cond_val, Nat.lt_irrefl, Nat.not_lt_zero, if_true, if_false, reduceIte, Nat.reduceEqDiff, Nat.reduceAdd, ne_eq, not_true_eq_false, not_false_eq_true, decide_true, decide_false, Bool.false_eq_true, Bool.not_true, Bool.not_false, sub_nil, sub_seq0, sub_seq1, sub_cond0, sub_cond1, sub_block, sub_loop, sub_scope, sub_range0, sub_range1, Option.getD_some, at_ptr, at_slc, runOps_yes, runOps_no, exec_draw, op_sub_i64, op_sub_neg, op_lss_neg, binF_str, str_add, str_neq, str_eql, takeF, resF, oneOf, pickF, extractF, cells_str, cells_int, cells_agg, bool_eql, bool_neq, op_lssI, bne_self_eq_false, beq_self_eq_true, eq_self, cells_slc, cells_func, builtin_append, ev_nilslice, ev_nilfunc, ev_nilptr, ev_nilmap, opF_makeFunc, opF_callv, callV_func, callV_yield, op_leq, op_gtr, op_geq, cast_le, cast_lt, List.nil_append, List.cons_append, List.append_nil, un_not, runD_end, runD_P, runD_Rd, runD_Al, runD_L, runD_gno, runD_gP, runD_gRd, runD_gAl, runD_gL, sameV_str, selF_nil, selF_yes, selF_no, selR_nil, selR_yes, selR_no, rereadM_nil, rereadM_cons, rereadR_nil, rereadR_cons, reread_load, rereadV_eq, rOp_load, hide_nil, backF_nil, List.map_nil, Bool.and_true, Bool.true_and, Bool.and_self, exec_float [(20, 18)], g3, g8, g9, g10, k9, len_str vnd9, e0, e1, e2, e3, e4, e5, hld, hix, vnd4, op_subI, max_i64]
    with_reducible rfl
  apply hk
  all_goals simp only [T.get_set, Nat.reduceEqDiff, if_true, if_false]
set_option maxHeartbeats 4000000 in
set_option maxRecDepth 20000 in
/-- What stands behind it. -/
theorem meas_rest {at_ : Nat} (hat : at_ < 256) (ha : a.length ≤ 40) (hb : b.length ≤ 40) (g1 : t.get 1 = some (.int .u8 (c.toNat : Nat))) (g2 : t.get 2 = some (.int .u8 (at_ : Nat))) (g8 : t.get 8 = some (strOf a)) (g9 : t.get 9 = some (strOf b)) (g10 : t.get 10 = some (.int .i64 (Go.Dist.dist a b : Nat)))
    (hk : ∀ (t' : T Value) (A' : Mem), t'.get 6 = some (.bool true) → K .ret ⟨t', 149, [], A', none⟩) : W tb1 (.seq (sub c4 [1,1,1,1,1,1,0]) (.seq (.seq (sub c4 [1,1,1,1,1,1,1,0,0]) (sub c4 [1,1,1,1,1,1,1,0,1])) (.seq (sub c4 [1,1,1,1,1,1,1,1,0]) (.seq (sub c4 [1,1,1,1,1,1,1,1,1,0]) (.seq (sub c4 [1,1,1,1,1,1,1,1,1,1,0]) (.seq (sub c4 [1,1,1,1,1,1,1,1,1,1,1,0]) (sub c4 [1,1,1,1,1,1,1,1,1,1,1,1]))))))) ⟨t, 149, [], A, none⟩ K := by
  have hcv : convRF tb1 (A.alloc (rowOb 5 [.int .u8 (c.toNat : Nat)])).get 35 9 (.slice (some ⟨A.next, 0, none⟩) 1 2) = .ok (strOf [c]) :=
    str_of_bytes (tb := tb1) (l := [c]) vnd35 vnd9 vnd5 (k := .var 1) (by unfold Bytes; rw [get_alloc_self]; rfl)
  have hbs : buildSliceF tb1 35 1 [(0, .int .u8 (c.toNat : Nat))] = .ok (rowOb 5 [.int .u8 (c.toNat : Nat)], .slc 1 2) := by kernel_rfl
  apply W.seq
  apply W.run 20
  · intro M
    simp (config := { maxSteps := 4000000 }) (disch := first | decide +kernel | (rw [wantF_guard]; simp only [wantD_some, dstAt_zero, dstAt_succ, T.get_set, T.get_e, Nat.reduceEqDiff, if_true, if_false, wantV_bool, wantV_unit, unitV, cond_true, cond_false, Bool.not_true, Bool.not_false, List.toList_toArray]) | omega) only [c4, Try.f4, Nat.ble, cond_true, cond_false, T.puts_cons, T.puts_nil, exec_seq, exec_block, nat_beq_self, exec_region, exec_cond, exec_skip, exec_ret, exec_exit, exec_scope, runOps_cons, runOps_nil, opF_move, opF_assign, opF_ari, opF_neq, opF_eql, opF_un, opF_index, opF_indexAddr, opF_fieldAddr, opF_field, opF_build, opF_slice, opF_extract, opF_pick, opF_load, opF_alloc, opF_box, opF_buildSlice, opF_makeSlice, opF_store, opF_conv, opF_len, opF_minmax, opF_builtin, opF_call, resK, ev_tmp, evG_some, ev_int, ev_bool, ev_str, evs, evp, evo, R.ok_bind, putT_some, putT_none, T.get_set, T.get_e, binF_int, op_rem, op_quo_u32, op_xor_u32, op_neq, op_eql, op_lss, op_add_i64, op_sub_u32, op_and_u8, op_xor_u8, op_not_u32, binF_shr_u32, binF_shr_u8, op_mul_i64, op_quo_i64, op_and_u32, binF_shl_u8, wrapF_u8, wrapF_u32, mod_u8, mod_u32, cond_val, Nat.lt_irrefl, Nat.not_lt_zero, if_true, if_false, reduceIte, Nat.reduceEqDiff, Nat.reduceAdd, ne_eq, not_true_eq_false, not_false_eq_true, decide_true, decide_false, Bool.false_eq_true, Bool.not_true, Bool.not_false, sub_nil, sub_seq0, sub_seq1, sub_cond0, sub_cond1, sub_block, sub_loop, sub_scope, sub_range0, sub_range1, Option.getD_some, at_ptr, at_slc, runOps_yes, runOps_no, exec_draw, op_sub_i64, op_sub_neg, op_lss_neg, binF_str, str_add, str_neq, str_eql, takeF, resF, oneOf, pickF, extractF, cells_str, cells_int, cells_agg, bool_eql, bool_neq, op_lssI, bne_self_eq_false, beq_self_eq_true, eq_self, cells_slc, cells_func, builtin_append, ev_nilslice, ev_nilfunc, ev_nilptr, ev_nilmap, opF_makeFunc, opF_callv, callV_func, callV_yield, op_leq, op_gtr, op_geq, cast_le, cast_lt, List.nil_append, List.cons_append, List.append_nil, un_not, g1, hbs, opF_convStr _ _ _ _ _ _ _ _ _ _ vnd35 vnd9, hcv]
    with_reducible rfl
  apply W.seq
  apply W.seq
  have d1 := dist_cons c a b
  have d2 := dist_snoc c a b
  have l1 : (c :: a).length = a.length + 1 := rfl
  have l2 : (c :: b).length = b.length + 1 := rfl
  have l3 : (a ++ [c]).length = a.length + 1 := by simp
  have l4 : (b ++ [c]).length = b.length + 1 := by simp
  have l5 : ([c] : List UInt8).length = 1 := rfl
  apply W.run 20
  · intro M
    simp (config := { maxSteps := 4000000 }) (disch := first | decide +kernel | (rw [wantF_guard]; simp only [wantD_some, dstAt_zero, dstAt_succ, T.get_set, T.get_e, Nat.reduceEqDiff, if_true, if_false, wantV_bool, wantV_unit, unitV, cond_true, cond_false, Bool.not_true, Bool.not_false, List.toList_toArray]) | omega) only [c4, Try.f4, Nat.ble, cond_true, cond_false, T.puts_cons, T.puts_nil, exec_seq, exec_block, nat_beq_self, exec_region, exec_cond, exec_skip, exec_ret, exec_exit, exec_scope, runOps_cons, runOps_nil, opF_move, opF_assign, opF_ari, opF_neq, opF_eql, opF_un, opF_index, opF_indexAddr, opF_fieldAddr, opF_field, opF_build, opF_slice, opF_extract, opF_pick, opF_load, opF_alloc, opF_box, opF_buildSlice, opF_makeSlice, opF_store, opF_conv, opF_len, opF_minmax, opF_builtin, opF_call, resK, ev_tmp, evG_some, ev_int, ev_bool, ev_str, evs, evp, evo, R.ok_bind, putT_some, putT_none, T.get_set, T.get_e, binF_int, op_rem, op_quo_u32, op_xor_u32, op_neq, op_eql, op_lss, op_add_i64, op_sub_u32, op_and_u8, op_xor_u8, op_not_u32, binF_shr_u32, binF_shr_u8, op_mul_i64, op_quo_i64, op_and_u32, binF_shl_u8, wrapF_u8, wrapF_u32, mod_u8, mod_u32, cond_val, Nat.lt_irrefl, Nat.not_lt_zero, if_true, if_false, reduceIte, Nat.reduceEqDiff, Nat.reduceAdd, ne_eq, not_true_eq_false, not_false_eq_true, decide_true, decide_false, Bool.false_eq_true, Bool.not_true, Bool.not_false, sub_nil, sub_seq0, sub_seq1, sub_cond0, sub_cond1, sub_block, sub_loop, sub_scope, sub_range0, sub_range1, Option.getD_some, at_ptr, at_slc, runOps_yes, runOps_no, exec_draw, op_sub_i64, op_sub_neg, op_lss_neg, binF_str, str_add, str_neq, str_eql, takeF, resF, oneOf, pickF, extractF, cells_str, cells_int, cells_agg, bool_eql, bool_neq, op_lssI, bne_self_eq_false, beq_self_eq_true, eq_self, cells_slc, cells_func, builtin_append, ev_nilslice, ev_nilfunc, ev_nilptr, ev_nilmap, opF_makeFunc, opF_callv, callV_func, callV_yield, op_leq, op_gtr, op_geq, cast_le, cast_lt, List.nil_append, List.cons_append, List.append_nil, un_not, g8, g9, g10, d1, d2, k9]
    with_reducible rfl
  apply W.run 20
  · intro M
    simp (config := { maxSteps := 4000000 }) (disch := first | decide +kernel | (rw [wantF_guard]; simp only [wantD_some, dstAt_zero, dstAt_succ, T.get_set, T.get_e, Nat.reduceEqDiff, if_true, if_false, wantV_bool, wantV_unit, unitV, cond_true, cond_false, Bool.not_true, Bool.not_false, List.toList_toArray]) | omega) only [c4, Try.f4, Nat.ble, cond_true, cond_false, T.puts_cons, T.puts_nil, exec_seq, exec_block, nat_beq_self, exec_region, exec_cond, exec_skip, exec_ret, exec_exit, exec_scope, runOps_cons, runOps_nil, opF_move, opF_assign, opF_ari, opF_neq, opF_eql, opF_un, opF_index, opF_indexAddr, opF_fieldAddr, opF_field, opF_build, opF_slice, opF_extract, opF_pick, opF_load, opF_alloc, opF_box, opF_buildSlice, opF_makeSlice, opF_store, opF_conv, opF_len, opF_minmax, opF_builtin, opF_call, resK, ev_tmp, evG_some, ev_int, ev_bool, ev_str, evs, evp, evo, R.ok_bind, putT_some, putT_none, T.get_set, T.get_e, binF_int, op_rem, op_quo_u32, op_xor_u32, op_neq, op_eql, op_lss, op_add_i64, op_sub_u32, op_and_u8, op_xor_u8, op_not_u32, binF_shr_u32, binF_shr_u8, op_mul_i64, op_quo_i64, op_and_u32, binF_shl_u8, wrapF_u8, wrapF_u32, mod_u8, mod_u32, cond_val, Nat.lt_irrefl, Nat.not_lt_zero, if_true, if_false, reduceIte, Nat.reduceEqDiff, Nat.reduceAdd, ne_eq, not_true_eq_false, not_false_eq_true, decide_true, decide_false, Bool.false_eq_true, Bool.not_true, Bool.not_false, sub_nil, sub_seq0, sub_seq1, sub_cond0, sub_cond1, sub_block, sub_loop, sub_scope, sub_range0, sub_range1, Option.getD_some, at_ptr, at_slc, runOps_yes, runOps_no, exec_draw, op_sub_i64, op_sub_neg, op_lss_neg, binF_str, str_add, str_neq, str_eql, takeF, resF, oneOf, pickF, extractF, cells_str, cells_int, cells_agg, bool_eql, bool_neq, op_lssI, bne_self_eq_false, beq_self_eq_true, eq_self, cells_slc, cells_func, builtin_append, ev_nilslice, ev_nilfunc, ev_nilptr, ev_nilmap, opF_makeFunc, opF_callv, callV_func, callV_yield, op_leq, op_gtr, op_geq, cast_le, cast_lt, List.nil_append, List.cons_append, List.append_nil, un_not]
    with_reducible rfl
  apply W.seq
  apply W.run 20
  · intro M
    simp (config := { maxSteps := 4000000 }) (disch := first | decide +kernel | (rw [wantF_guard]; simp only [wantD_some, dstAt_zero, dstAt_succ, T.get_set, T.get_e, Nat.reduceEqDiff, if_true, if_false, wantV_bool, wantV_unit, unitV, cond_true, cond_false, Bool.not_true, Bool.not_false, List.toList_toArray]) | omega) only [c4, Try.f4, Nat.ble, cond_true, cond_false, T.puts_cons, T.puts_nil, exec_seq, exec_block, nat_beq_self, exec_region, exec_cond, exec_skip, exec_ret, exec_exit, exec_scope, runOps_cons, runOps_nil, opF_move, opF_assign, opF_ari, opF_neq, opF_eql, opF_un, opF_index, opF_indexAddr, opF_fieldAddr, opF_field, opF_build, opF_slice, opF_extract, opF_pick, opF_load, opF_alloc, opF_box, opF_buildSlice, opF_makeSlice, opF_store, opF_conv, opF_len, opF_minmax, opF_builtin, opF_call, resK, ev_tmp, evG_some, ev_int, ev_bool, ev_str, evs, evp, evo, R.ok_bind, putT_some, putT_none, T.get_set, T.get_e, binF_int, op_rem, op_quo_u32, op_xor_u32, op_neq, op_eql, op_lss, op_add_i64, op_sub_u32, op_and_u8, op_xor_u8, op_not_u32, binF_shr_u32, binF_shr_u8, op_mul_i64, op_quo_i64, op_and_u32, binF_shl_u8, wrapF_u8, wrapF_u32, mod_u8, mod_u32, cond_val, Nat.lt_irrefl, Nat.not_lt_zero, if_true, if_false, reduceIte, Nat.reduceEqDiff, Nat.reduceAdd, ne_eq, not_true_eq_false, not_false_eq_true, decide_true, decide_false, Bool.false_eq_true, Bool.not_true, Bool.not_false, sub_nil, sub_seq0, sub_seq1, sub_cond0, sub_cond1, sub_block, sub_loop, sub_scope, sub_range0, sub_range1, Option.getD_some, at_ptr, at_slc, runOps_yes, runOps_no, exec_draw, op_sub_i64, op_sub_neg, op_lss_neg, binF_str, str_add, str_neq, str_eql, takeF, resF, oneOf, pickF, extractF, cells_str, cells_int, cells_agg, bool_eql, bool_neq, op_lssI, bne_self_eq_false, beq_self_eq_true, eq_self, cells_slc, cells_func, builtin_append, ev_nilslice, ev_nilfunc, ev_nilptr, ev_nilmap, opF_makeFunc, opF_callv, callV_func, callV_yield, op_leq, op_gtr, op_geq, cast_le, cast_lt, List.nil_append, List.cons_append, List.append_nil, un_not, g2, g8, len_str vnd9, convPF, vnd5, vnd3, wrapF_i64]
    with_reducible rfl
  have hk1 : at_ % (a.length + 1) ≤ a.length := Nat.le_of_lt_succ (Nat.mod_lt _ (by omega))
  apply W.seq
  generalize at_ % (a.length + 1) = k at hk1
  have l6 : (a.take k).length = k := by rw [List.length_take]; omega
  have l7 : (a.drop k).length = a.length - k := List.length_drop
  have l8 : (a.take k ++ [c]).length = k + 1 := by rw [List.length_append, l6]; rfl
  have l9 : (a.take k ++ [c] ++ a.drop k).length = a.length + 1 := by rw [List.length_append, l8, l7]; omega
  apply W.run 20
  · intro M
    simp (config := { maxSteps := 4000000 }) (disch := first | decide +kernel | (rw [wantF_guard]; simp only [wantD_some, dstAt_zero, dstAt_succ, T.get_set, T.get_e, Nat.reduceEqDiff, if_true, if_false, wantV_bool, wantV_unit, unitV, cond_true, cond_false, Bool.not_true, Bool.not_false, List.toList_toArray]) | omega) only [c4, Try.f4, Nat.ble, cond_true, cond_false, T.puts_cons, T.puts_nil, exec_seq, exec_block, nat_beq_self, exec_region, exec_cond, exec_skip, exec_ret, exec_exit, exec_scope, runOps_cons, runOps_nil, opF_move, opF_assign, opF_ari, opF_neq, opF_eql, opF_un, opF_index, opF_indexAddr, opF_fieldAddr, opF_field, opF_build, opF_slice, opF_extract, opF_pick, opF_load, opF_alloc, opF_box, opF_buildSlice, opF_makeSlice, opF_store, opF_conv, opF_len, opF_minmax, opF_builtin, opF_call, resK, ev_tmp, evG_some, ev_int, ev_bool, ev_str, evs, evp, evo, R.ok_bind, putT_some, putT_none, T.get_set, T.get_e, binF_int, op_rem, op_quo_u32, op_xor_u32, op_neq, op_eql, op_lss, op_add_i64, op_sub_u32, op_and_u8, op_xor_u8, op_not_u32, binF_shr_u32, binF_shr_u8, op_mul_i64, op_quo_i64, op_and_u32, binF_shl_u8, wrapF_u8, wrapF_u32, mod_u8, mod_u32, cond_val, Nat.lt_irrefl, Nat.not_lt_zero, if_true, if_false, reduceIte, Nat.reduceEqDiff, Nat.reduceAdd, ne_eq, not_true_eq_false, not_false_eq_true, decide_true, decide_false, Bool.false_eq_true, Bool.not_true, Bool.not_false, sub_nil, sub_seq0, sub_seq1, sub_cond0, sub_cond1, sub_block, sub_loop, sub_scope, sub_range0, sub_range1, Option.getD_some, at_ptr, at_slc, runOps_yes, runOps_no, exec_draw, op_sub_i64, op_sub_neg, op_lss_neg, binF_str, str_add, str_neq, str_eql, takeF, resF, oneOf, pickF, extractF, cells_str, cells_int, cells_agg, bool_eql, bool_neq, op_lssI, bne_self_eq_false, beq_self_eq_true, eq_self, cells_slc, cells_func, builtin_append, ev_nilslice, ev_nilfunc, ev_nilptr, ev_nilmap, opF_makeFunc, opF_callv, callV_func, callV_yield, op_leq, op_gtr, op_geq, cast_le, cast_lt, List.nil_append, List.cons_append, List.append_nil, un_not, g8, slice_to vnd9, slice_from vnd9]
    with_reducible rfl
  apply W.seq
  have d3 : Go.Dist.dist (a.take k ++ [c] ++ a.drop k) a = 1 := by
    have h := dist_more c (a.take k) (a.drop k)
    rw [List.take_append_drop] at h
    rw [List.append_assoc]; exact h
  apply W.run 20
  · intro M
    simp (config := { maxSteps := 4000000 }) (disch := first | decide +kernel | (rw [wantF_guard]; simp only [wantD_some, dstAt_zero, dstAt_succ, T.get_set, T.get_e, Nat.reduceEqDiff, if_true, if_false, wantV_bool, wantV_unit, unitV, cond_true, cond_false, Bool.not_true, Bool.not_false, List.toList_toArray]) | omega) only [c4, Try.f4, Nat.ble, cond_true, cond_false, T.puts_cons, T.puts_nil, exec_seq, exec_block, nat_beq_self, exec_region, exec_cond, exec_skip, exec_ret, exec_exit, exec_scope, runOps_cons, runOps_nil, opF_move, opF_assign, opF_ari, opF_neq, opF_eql, opF_un, opF_index, opF_indexAddr, opF_fieldAddr, opF_field, opF_build, opF_slice, opF_extract, opF_pick, opF_load, opF_alloc, opF_box, opF_buildSlice, opF_makeSlice, opF_store, opF_conv, opF_len, opF_minmax, opF_builtin, opF_call, resK, ev_tmp, evG_some, ev_int, ev_bool, ev_str, evs, evp, evo, R.ok_bind, putT_some, putT_none, T.get_set, T.get_e, binF_int, op_rem, op_quo_u32, op_xor_u32, op_neq, op_eql, op_lss, op_add_i64, op_sub_u32, op_and_u8, op_xor_u8, op_not_u32, binF_shr_u32, binF_shr_u8, op_mul_i64, op_quo_i64, op_and_u32, binF_shl_u8, wrapF_u8, wrapF_u32, mod_u8, mod_u32, cond_val, Nat.lt_irrefl, Nat.not_lt_zero, if_true, if_false, reduceIte, Nat.reduceEqDiff, Nat.reduceAdd, ne_eq, not_true_eq_false, not_false_eq_true, decide_true, decide_false, Bool.false_eq_true, Bool.not_true, Bool.not_false, sub_nil, sub_seq0, sub_seq1, sub_cond0, sub_cond1, sub_block, sub_loop, sub_scope, sub_range0, sub_range1, Option.getD_some, at_ptr, at_slc, runOps_yes, runOps_no, exec_draw, op_sub_i64, op_sub_neg, op_lss_neg, binF_str, str_add, str_neq, str_eql, takeF, resF, oneOf, pickF, extractF, cells_str, cells_int, cells_agg, bool_eql, bool_neq, op_lssI, bne_self_eq_false, beq_self_eq_true, eq_self, cells_slc, cells_func, builtin_append, ev_nilslice, ev_nilfunc, ev_nilptr, ev_nilmap, opF_makeFunc, opF_callv, callV_func, callV_yield, op_leq, op_gtr, op_geq, cast_le, cast_lt, List.nil_append, List.cons_append, List.append_nil, un_not, g9, k9]
    with_reducible rfl
  apply W.seq
  have d4 := dist_tri (a.take k ++ [c] ++ a.drop k) a b
  have d5 := dist_tri a (a.take k ++ [c] ++ a.drop k) b
  rw [dist_symm a (a.take k ++ [c] ++ a.drop k), d3] at d5
  rw [d3] at d4
  have d6 : ((Go.Dist.dist a b : Nat) : Int) - ((1 : Nat) : Int) ≤ ((Go.Dist.dist (a.take k ++ [c] ++ a.drop k) b : Nat) : Int) := by omega
  have d7 : Go.Dist.dist (a.take k ++ [c] ++ a.drop k) b ≤ Go.Dist.dist a b + 1 := by omega
  have d8 := dist_max a b
  apply W.run 20
  · intro M
    simp (config := { maxSteps := 4000000 }) (disch := first | decide +kernel | (rw [wantF_guard]; simp only [wantD_some, dstAt_zero, dstAt_succ, T.get_set, T.get_e, Nat.reduceEqDiff, if_true, if_false, wantV_bool, wantV_unit, unitV, cond_true, cond_false, Bool.not_true, Bool.not_false, List.toList_toArray]) | omega) only [c4, Try.f4, Nat.ble, cond_true, cond_false, T.puts_cons, T.puts_nil, exec_seq, exec_block, nat_beq_self, exec_region, exec_cond, exec_skip, exec_ret, exec_exit, exec_scope, runOps_cons, runOps_nil, opF_move, opF_assign, opF_ari, opF_neq, opF_eql, opF_un, opF_index, opF_indexAddr, opF_fieldAddr, opF_field, opF_build, opF_slice, opF_extract, opF_pick, opF_load, opF_alloc, opF_box, opF_buildSlice, opF_makeSlice, opF_store, opF_conv, opF_len, opF_minmax, opF_builtin, opF_call, resK, ev_tmp, evG_some, ev_int, ev_bool, ev_str, evs, evp, evo, R.ok_bind, putT_some, putT_none, T.get_set, T.get_e, binF_int, op_rem, op_quo_u32, op_xor_u32, op_neq, op_eql, op_lss, op_add_i64, op_sub_u32, op_and_u8, op_xor_u8, op_not_u32, binF_shr_u32, binF_shr_u8, op_mul_i64, op_quo_i64, op_and_u32, binF_shl_u8, wrapF_u8, wrapF_u32, mod_u8, mod_u32, cond_val, Nat.lt_irrefl, Nat.not_lt_zero, if_true, if_false, reduceIte, Nat.reduceEqDiff, Nat.reduceAdd, ne_eq, not_true_eq_false, not_false_eq_true, decide_true, decide_false, Bool.false_eq_true, Bool.not_true, Bool.not_false, sub_nil, sub_seq0, sub_seq1, sub_cond0, sub_cond1, sub_block, sub_loop, sub_scope, sub_range0, sub_range1, Option.getD_some, at_ptr, at_slc, runOps_yes, runOps_no, exec_draw, op_sub_i64, op_sub_neg, op_lss_neg, binF_str, str_add, str_neq, str_eql, takeF, resF, oneOf, pickF, extractF, cells_str, cells_int, cells_agg, bool_eql, bool_neq, op_lssI, bne_self_eq_false, beq_self_eq_true, eq_self, cells_slc, cells_func, builtin_append, ev_nilslice, ev_nilfunc, ev_nilptr, ev_nilmap, opF_makeFunc, opF_callv, callV_func, callV_yield, op_leq, op_gtr, op_geq, cast_le, cast_lt, List.nil_append, List.cons_append, List.append_nil, un_not, g8, g10, k9, d3, op_subI, d6, d7]
    with_reducible rfl
  apply W.run 20
  · intro M
    simp (config := { maxSteps := 4000000 }) (disch := first | decide +kernel | (rw [wantF_guard]; simp only [wantD_some, dstAt_zero, dstAt_succ, T.get_set, T.get_e, Nat.reduceEqDiff, if_true, if_false, wantV_bool, wantV_unit, unitV, cond_true, cond_false, Bool.not_true, Bool.not_false, List.toList_toArray]) | omega) only [c4, Try.f4, Nat.ble, cond_true, cond_false, T.puts_cons, T.puts_nil, exec_seq, exec_block, nat_beq_self, exec_region, exec_cond, exec_skip, exec_ret, exec_exit, exec_scope, runOps_cons, runOps_nil, opF_move, opF_assign, opF_ari, opF_neq, opF_eql, opF_un, opF_index, opF_indexAddr, opF_fieldAddr, opF_field, opF_build, opF_slice, opF_extract, opF_pick, opF_load, opF_alloc, opF_box, opF_buildSlice, opF_makeSlice, opF_store, opF_conv, opF_len, opF_minmax, opF_builtin, opF_call, resK, ev_tmp, evG_some, ev_int, ev_bool, ev_str, evs, evp, evo, R.ok_bind, putT_some, putT_none, T.get_set, T.get_e, binF_int, op_rem, op_quo_u32, op_xor_u32, op_neq, op_eql, op_lss, op_add_i64, op_sub_u32, op_and_u8, op_xor_u8, op_not_u32, binF_shr_u32, binF_shr_u8, op_mul_i64, op_quo_i64, op_and_u32, binF_shl_u8, wrapF_u8, wrapF_u32, mod_u8, mod_u32, cond_val, Nat.lt_irrefl, Nat.not_lt_zero, if_true, if_false, reduceIte, Nat.reduceEqDiff, Nat.reduceAdd, ne_eq, not_true_eq_false, not_false_eq_true, decide_true, decide_false, Bool.false_eq_true, Bool.not_true, Bool.not_false, sub_nil, sub_seq0, sub_seq1, sub_cond0, sub_cond1, sub_block, sub_loop, sub_scope, sub_range0, sub_range1, Option.getD_some, at_ptr, at_slc, runOps_yes, runOps_no, exec_draw, op_sub_i64, op_sub_neg, op_lss_neg, binF_str, str_add, str_neq, str_eql, takeF, resF, oneOf, pickF, extractF, cells_str, cells_int, cells_agg, bool_eql, bool_neq, op_lssI, bne_self_eq_false, beq_self_eq_true, eq_self, cells_slc, cells_func, builtin_append, ev_nilslice, ev_nilfunc, ev_nilptr, ev_nilmap, opF_makeFunc, opF_callv, callV_func, callV_yield, op_leq, op_gtr, op_geq, cast_le, cast_lt, List.nil_append, List.cons_append, List.append_nil, un_not]
    with_reducible rfl
  apply hk
  simp only [T.get_set, Nat.reduceEqDiff, if_true, if_false]
end

set_option maxHeartbeats 4000000 in
set_option maxRecDepth 20000 in
theorem run_measures (p : Nat → List UInt8) (c : UInt8) (at_ : Nat) (hat : at_ < 256) : ∃ A, CallsTo tb1 4 [.agg ⟨[strOf (p 0), strOf (p 1), strOf (p 2)]⟩, .int .u8 (c.toNat : Nat), .int .u8 (at_ : Nat)] mem0 (.bool true) A := by
  obtain ⟨v, A', h1, h2⟩ : ∃ v A', CallsTo tb1 4 [.agg ⟨[strOf (p 0), strOf (p 1), strOf (p 2)]⟩, .int .u8 (c.toNat : Nat), .int .u8 (at_ : Nat)] mem0 v A' ∧ v = .bool true := by
    refine call_of_W (fn_at Try.func4) c4_eq (by rw [Try.ntmps4]; simp) ?_
    apply W.seq
    apply W.run 20
    · intro M
      simp (config := { maxSteps := 4000000 }) (disch := first | decide +kernel | (rw [wantF_guard]; simp only [wantD_some, dstAt_zero, dstAt_succ, T.get_set, T.get_e, Nat.reduceEqDiff, if_true, if_false, wantV_bool, wantV_unit, unitV, cond_true, cond_false, Bool.not_true, Bool.not_false, List.toList_toArray]) | omega) only [c4, Try.f4, Nat.ble, cond_true, cond_false, T.puts_cons, T.puts_nil, exec_seq, exec_block, nat_beq_self, exec_region, exec_cond, exec_skip, exec_ret, exec_exit, exec_scope, runOps_cons, runOps_nil, opF_move, opF_assign, opF_ari, opF_neq, opF_eql, opF_un, opF_index, opF_indexAddr, opF_fieldAddr, opF_field, opF_build, opF_slice, opF_extract, opF_pick, opF_load, opF_alloc, opF_box, opF_buildSlice, opF_makeSlice, opF_store, opF_conv, opF_len, opF_minmax, opF_builtin, opF_call, resK, ev_tmp, evG_some, ev_int, ev_bool, ev_str, evs, evp, evo, R.ok_bind, putT_some, putT_none, T.get_set, T.get_e, binF_int, op_rem, op_quo_u32, op_xor_u32, op_neq, op_eql, op_lss, op_add_i64, op_sub_u32, op_and_u8, op_xor_u8, op_not_u32, binF_shr_u32, binF_shr_u8, op_mul_i64, op_quo_i64, op_and_u32, binF_shl_u8, wrapF_u8, wrapF_u32, mod_u8, mod_u32, cond_val, Nat.lt_irrefl, Nat.not_lt_zero, if_true, if_false, reduceIte, Nat.reduceEqDiff, Nat.reduceAdd, ne_eq, not_true_eq_false, not_false_eq_true, decide_true, decide_false, Bool.false_eq_true, Bool.not_true, Bool.not_false, sub_nil, sub_seq0, sub_seq1, sub_cond0, sub_cond1, sub_block, sub_loop, sub_scope, sub_range0, sub_range1, Option.getD_some, at_ptr, at_slc, runOps_yes, runOps_no, exec_draw, op_sub_i64, op_sub_neg, op_lss_neg, binF_str, str_add, str_neq, str_eql, takeF, resF, oneOf, pickF, extractF, cells_str, cells_int, cells_agg, bool_eql, bool_neq, op_lssI, bne_self_eq_false, beq_self_eq_true, eq_self, cells_slc, cells_func, builtin_append, ev_nilslice, ev_nilfunc, ev_nilptr, ev_nilmap, opF_makeFunc, opF_callv, callV_func, callV_yield, op_leq, op_gtr, op_geq, cast_le, cast_lt, List.nil_append, List.cons_append, List.append_nil, un_not]
      with_reducible rfl
    have hv : Vals (mem0.alloc (rowOb 34 [strOf (p 0), strOf (p 1), strOf (p 2)])) 34 mem0.next (.var 3) (ml p 0) := vals_puts (get_alloc_self _ _)
    revert hv
    generalize mem0.alloc (rowOb 34 [strOf (p 0), strOf (p 1), strOf (p 2)]) = B
    generalize mem0.next = bb
    intro hv
    apply W.seq
    apply W.seq
    apply W.run 20
    · intro M
      simp (config := { maxSteps := 4000000 }) (disch := first | decide +kernel | (rw [wantF_guard]; simp only [wantD_some, dstAt_zero, dstAt_succ, T.get_set, T.get_e, Nat.reduceEqDiff, if_true, if_false, wantV_bool, wantV_unit, unitV, cond_true, cond_false, Bool.not_true, Bool.not_false, List.toList_toArray]) | omega) only [c4, Try.f4, Nat.ble, cond_true, cond_false, T.puts_cons, T.puts_nil, exec_seq, exec_block, nat_beq_self, exec_region, exec_cond, exec_skip, exec_ret, exec_exit, exec_scope, runOps_cons, runOps_nil, opF_move, opF_assign, opF_ari, opF_neq, opF_eql, opF_un, opF_index, opF_indexAddr, opF_fieldAddr, opF_field, opF_build, opF_slice, opF_extract, opF_pick, opF_load, opF_alloc, opF_box, opF_buildSlice, opF_makeSlice, opF_store, opF_conv, opF_len, opF_minmax, opF_builtin, opF_call, resK, ev_tmp, evG_some, ev_int, ev_bool, ev_str, evs, evp, evo, R.ok_bind, putT_some, putT_none, T.get_set, T.get_e, binF_int, op_rem, op_quo_u32, op_xor_u32, op_neq, op_eql, op_lss, op_add_i64, op_sub_u32, op_and_u8, op_xor_u8, op_not_u32, binF_shr_u32, binF_shr_u8, op_mul_i64, op_quo_i64, op_and_u32, binF_shl_u8, wrapF_u8, wrapF_u32, mod_u8, mod_u32, cond_val, Nat.lt_irrefl, Nat.not_lt_zero, if_true, if_false, reduceIte, Nat.reduceEqDiff, Nat.reduceAdd, ne_eq, not_true_eq_false, not_false_eq_true, decide_true, decide_false, Bool.false_eq_true, Bool.not_true, Bool.not_false, sub_nil, sub_seq0, sub_seq1, sub_cond0, sub_cond1, sub_block, sub_loop, sub_scope, sub_range0, sub_range1, Option.getD_some, at_ptr, at_slc, runOps_yes, runOps_no, exec_draw, op_sub_i64, op_sub_neg, op_lss_neg, binF_str, str_add, str_neq, str_eql, takeF, resF, oneOf, pickF, extractF, cells_str, cells_int, cells_agg, bool_eql, bool_neq, op_lssI, bne_self_eq_false, beq_self_eq_true, eq_self, cells_slc, cells_func, builtin_append, ev_nilslice, ev_nilfunc, ev_nilptr, ev_nilmap, opF_makeFunc, opF_callv, callV_func, callV_yield, op_leq, op_gtr, op_geq, cast_le, cast_lt, List.nil_append, List.cons_append, List.append_nil, un_not, k17]
      with_reducible rfl
    apply W.run 20
    · intro M
      simp (config := { maxSteps := 4000000 }) (disch := first | decide +kernel | (rw [wantF_guard]; simp only [wantD_some, dstAt_zero, dstAt_succ, T.get_set, T.get_e, Nat.reduceEqDiff, if_true, if_false, wantV_bool, wantV_unit, unitV, cond_true, cond_false, Bool.not_true, Bool.not_false, List.toList_toArray]) | omega) only [c4, Try.f4, Nat.ble, cond_true, cond_false, T.puts_cons, T.puts_nil, exec_seq, exec_block, nat_beq_self, exec_region, exec_cond, exec_skip, exec_ret, exec_exit, exec_scope, runOps_cons, runOps_nil, opF_move, opF_assign, opF_ari, opF_neq, opF_eql, opF_un, opF_index, opF_indexAddr, opF_fieldAddr, opF_field, opF_build, opF_slice, opF_extract, opF_pick, opF_load, opF_alloc, opF_box, opF_buildSlice, opF_makeSlice, opF_store, opF_conv, opF_len, opF_minmax, opF_builtin, opF_call, resK, ev_tmp, evG_some, ev_int, ev_bool, ev_str, evs, evp, evo, R.ok_bind, putT_some, putT_none, T.get_set, T.get_e, binF_int, op_rem, op_quo_u32, op_xor_u32, op_neq, op_eql, op_lss, op_add_i64, op_sub_u32, op_and_u8, op_xor_u8, op_not_u32, binF_shr_u32, binF_shr_u8, op_mul_i64, op_quo_i64, op_and_u32, binF_shl_u8, wrapF_u8, wrapF_u32, mod_u8, mod_u32, cond_val, Nat.lt_irrefl, Nat.not_lt_zero, if_true, if_false, reduceIte, Nat.reduceEqDiff, Nat.reduceAdd, ne_eq, not_true_eq_false, not_false_eq_true, decide_true, decide_false, Bool.false_eq_true, Bool.not_true, Bool.not_false, sub_nil, sub_seq0, sub_seq1, sub_cond0, sub_cond1, sub_block, sub_loop, sub_scope, sub_range0, sub_range1, Option.getD_some, at_ptr, at_slc, runOps_yes, runOps_no, exec_draw, op_sub_i64, op_sub_neg, op_lss_neg, binF_str, str_add, str_neq, str_eql, takeF, resF, oneOf, pickF, extractF, cells_str, cells_int, cells_agg, bool_eql, bool_neq, op_lssI, bne_self_eq_false, beq_self_eq_true, eq_self, cells_slc, cells_func, builtin_append, ev_nilslice, ev_nilfunc, ev_nilptr, ev_nilmap, opF_makeFunc, opF_callv, callV_func, callV_yield, op_leq, op_gtr, op_geq, cast_le, cast_lt, List.nil_append, List.cons_append, List.append_nil, un_not]
      with_reducible rfl
    apply W.seq
    apply W.seq
    apply W.run 20
    · intro M
      simp (config := { maxSteps := 4000000 }) (disch := first | decide +kernel | (rw [wantF_guard]; simp only [wantD_some, dstAt_zero, dstAt_succ, T.get_set, T.get_e, Nat.reduceEqDiff, if_true, if_false, wantV_bool, wantV_unit, unitV, cond_true, cond_false, Bool.not_true, Bool.not_false, List.toList_toArray]) | omega) only [c4, Try.f4, Nat.ble, cond_true, cond_false, T.puts_cons, T.puts_nil, exec_seq, exec_block, nat_beq_self, exec_region, exec_cond, exec_skip, exec_ret, exec_exit, exec_scope, runOps_cons, runOps_nil, opF_move, opF_assign, opF_ari, opF_neq, opF_eql, opF_un, opF_index, opF_indexAddr, opF_fieldAddr, opF_field, opF_build, opF_slice, opF_extract, opF_pick, opF_load, opF_alloc, opF_box, opF_buildSlice, opF_makeSlice, opF_store, opF_conv, opF_len, opF_minmax, opF_builtin, opF_call, resK, ev_tmp, evG_some, ev_int, ev_bool, ev_str, evs, evp, evo, R.ok_bind, putT_some, putT_none, T.get_set, T.get_e, binF_int, op_rem, op_quo_u32, op_xor_u32, op_neq, op_eql, op_lss, op_add_i64, op_sub_u32, op_and_u8, op_xor_u8, op_not_u32, binF_shr_u32, binF_shr_u8, op_mul_i64, op_quo_i64, op_and_u32, binF_shl_u8, wrapF_u8, wrapF_u32, mod_u8, mod_u32, cond_val, Nat.lt_irrefl, Nat.not_lt_zero, if_true, if_false, reduceIte, Nat.reduceEqDiff, Nat.reduceAdd, ne_eq, not_true_eq_false, not_false_eq_true, decide_true, decide_false, Bool.false_eq_true, Bool.not_true, Bool.not_false, sub_nil, sub_seq0, sub_seq1, sub_cond0, sub_cond1, sub_block, sub_loop, sub_scope, sub_range0, sub_range1, Option.getD_some, at_ptr, at_slc, runOps_yes, runOps_no, exec_draw, op_sub_i64, op_sub_neg, op_lss_neg, binF_str, str_add, str_neq, str_eql, takeF, resF, oneOf, pickF, extractF, cells_str, cells_int, cells_agg, bool_eql, bool_neq, op_lssI, bne_self_eq_false, beq_self_eq_true, eq_self, cells_slc, cells_func, builtin_append, ev_nilslice, ev_nilfunc, ev_nilptr, ev_nilmap, opF_makeFunc, opF_callv, callV_func, callV_yield, op_leq, op_gtr, op_geq, cast_le, cast_lt, List.nil_append, List.cons_append, List.append_nil, un_not]
      with_reducible rfl
    apply W.block
    refine W.up 3 (fun k t C => Vals C 34 bb (.var 3) (ml p k) ∧ Sl t [(1, .int .u8 (c.toNat : Nat)), (2, .int .u8 (at_ : Nat)), (3, .pointer (some ⟨bb, 0, none⟩)), (7, .int .i64 (k : Int))]) ?_ (Nat.zero_le _) ⟨hv, ?_⟩
    · rintro k t C hk ⟨hv, g1, g2, g3, g7, -⟩
      by_cases hlt : k < 3
      · have hix : indexAddrF tb1 34 (.pointer (some ⟨bb, 0, none⟩)) (.int .i64 (k : Int)) = .ok (.pointer (some ⟨bb, 0 + k, none⟩)) := indexAddr_arr (i := k) vnd34 vize9 hlt
        rw [Nat.zero_add] at hix
        have hld := load_vals (tb := tb1) (t := 9) vnd9 rfl hv (ml_get p hlt)
        obtain ⟨D, e1, e2, e3, e4⟩ := store_vals (tb := tb1) (t := 9) (o := k) (v := strOf (cut 40 (p k))) vize9 hv hlt rfl rfl
        rw [ml_set p hlt] at e2
        have hct : (p k).take (min (p k).length 40) = cut 40 (p k) := rfl
        have hml : min (p k).length 40 ≤ (p k).length := Nat.min_le_left _ _
        apply W.run 20
        · intro M
          simp (config := { maxSteps := 4000000 }) (disch := first | decide +kernel | (rw [wantF_guard]; simp only [wantD_some, dstAt_zero, dstAt_succ, T.get_set, T.get_e, Nat.reduceEqDiff, if_true, if_false, wantV_bool, wantV_unit, unitV, cond_true, cond_false, Bool.not_true, Bool.not_false, List.toList_toArray]) | omega) only [c4b1, c4, Try.f4, Nat.ble, cond_true, cond_false, T.puts_cons, T.puts_nil, exec_seq, exec_block, nat_beq_self, exec_region, exec_cond, exec_skip, exec_ret, exec_exit, exec_scope, runOps_cons, runOps_nil, opF_move, opF_assign, opF_ari, opF_neq, opF_eql, opF_un, opF_index, opF_indexAddr, opF_fieldAddr, opF_field, opF_build, opF_slice, opF_extract, opF_pick, opF_load, opF_alloc, opF_box, opF_buildSlice, opF_makeSlice, opF_store, opF_conv, opF_len, opF_minmax, opF_builtin, opF_call, resK, ev_tmp, evG_some, ev_int, ev_bool, ev_str, evs, evp, evo, R.ok_bind, putT_some, putT_none, T.get_set, T.get_e, binF_int, op_rem, op_quo_u32, op_xor_u32, op_neq, op_eql, op_lss, op_add_i64, op_sub_u32, op_and_u8, op_xor_u8, op_not_u32, binF_shr_u32, binF_shr_u8, op_mul_i64, op_quo_i64, op_and_u32, binF_shl_u8, wrapF_u8, wrapF_u32, mod_u8, mod_u32, cond_val, Nat.lt_irrefl, Nat.not_lt_zero, if_true, if_false, reduceIte, Nat.reduceEqDiff, Nat.reduceAdd, ne_eq, not_true_eq_false, not_false_eq_true, decide_true, decide_false, Bool.false_eq_true, Bool.not_true, Bool.not_false, sub_nil, sub_seq0, sub_seq1, sub_cond0, sub_cond1, sub_block, sub_loop, sub_scope, sub_range0, sub_range1, Option.getD_some, at_ptr, at_slc, runOps_yes, runOps_no, exec_draw, op_sub_i64, op_sub_neg, op_lss_neg, binF_str, str_add, str_neq, str_eql, takeF, resF, oneOf, pickF, extractF, cells_str, cells_int, cells_agg, bool_eql, bool_neq, op_lssI, bne_self_eq_false, beq_self_eq_true, eq_self, cells_slc, cells_func, builtin_append, ev_nilslice, ev_nilfunc, ev_nilptr, ev_nilmap, opF_makeFunc, opF_callv, callV_func, callV_yield, op_leq, op_gtr, op_geq, cast_le, cast_lt, List.nil_append, List.cons_append, List.append_nil, un_not, g3, g7, hlt, hix, hld, len_str vnd9, min_i64, slice_to vnd9, hct, e1]
          with_reducible rfl
        refine ⟨hlt, _, _, rfl, e2, ?_⟩
        simp only [Sl_cons, Sl_nil, T.get_set, T.puts_cons, T.puts_nil, Nat.reduceEqDiff, Nat.reduceAdd, if_true, if_false, and_true, true_and, g1, g2, g3]
      · have hk3 : k = 3 := by omega
        subst hk3
        apply W.run 20
        · intro M
          simp (config := { maxSteps := 4000000 }) (disch := first | decide +kernel | (rw [wantF_guard]; simp only [wantD_some, dstAt_zero, dstAt_succ, T.get_set, T.get_e, Nat.reduceEqDiff, if_true, if_false, wantV_bool, wantV_unit, unitV, cond_true, cond_false, Bool.not_true, Bool.not_false, List.toList_toArray]) | omega) only [c4b1, c4, Try.f4, Nat.ble, cond_true, cond_false, T.puts_cons, T.puts_nil, exec_seq, exec_block, nat_beq_self, exec_region, exec_cond, exec_skip, exec_ret, exec_exit, exec_scope, runOps_cons, runOps_nil, opF_move, opF_assign, opF_ari, opF_neq, opF_eql, opF_un, opF_index, opF_indexAddr, opF_fieldAddr, opF_field, opF_build, opF_slice, opF_extract, opF_pick, opF_load, opF_alloc, opF_box, opF_buildSlice, opF_makeSlice, opF_store, opF_conv, opF_len, opF_minmax, opF_builtin, opF_call, resK, ev_tmp, evG_some, ev_int, ev_bool, ev_str, evs, evp, evo, R.ok_bind, putT_some, putT_none, T.get_set, T.get_e, binF_int, op_rem, op_quo_u32, op_xor_u32, op_neq, op_eql, op_lss, op_add_i64, op_sub_u32, op_and_u8, op_xor_u8, op_not_u32, binF_shr_u32, binF_shr_u8, op_mul_i64, op_quo_i64, op_and_u32, binF_shl_u8, wrapF_u8, wrapF_u32, mod_u8, mod_u32, cond_val, Nat.lt_irrefl, Nat.not_lt_zero, if_true, if_false, reduceIte, Nat.reduceEqDiff, Nat.reduceAdd, ne_eq, not_true_eq_false, not_false_eq_true, decide_true, decide_false, Bool.false_eq_true, Bool.not_true, Bool.not_false, sub_nil, sub_seq0, sub_seq1, sub_cond0, sub_cond1, sub_block, sub_loop, sub_scope, sub_range0, sub_range1, Option.getD_some, at_ptr, at_slc, runOps_yes, runOps_no, exec_draw, op_sub_i64, op_sub_neg, op_lss_neg, binF_str, str_add, str_neq, str_eql, takeF, resF, oneOf, pickF, extractF, cells_str, cells_int, cells_agg, bool_eql, bool_neq, op_lssI, bne_self_eq_false, beq_self_eq_true, eq_self, cells_slc, cells_func, builtin_append, ev_nilslice, ev_nilfunc, ev_nilptr, ev_nilmap, opF_makeFunc, opF_callv, callV_func, callV_yield, op_leq, op_gtr, op_geq, cast_le, cast_lt, List.nil_append, List.cons_append, List.append_nil, un_not, g7]
          with_reducible rfl
        show W tb1 _ _ _
        have hv' : Vals C 34 bb (.var 3) [strOf (cut 40 (p 0)), strOf (cut 40 (p 1)), strOf (cut 40 (p 2))] := hv
        revert hv'
        have h0 := cut_len 40 (p 0)
        have h1 := cut_len 40 (p 1)
        have h2 := cut_len 40 (p 2)
        revert h0 h1 h2
        generalize cut 40 (p 0) = a
        generalize cut 40 (p 1) = b
        generalize cut 40 (p 2) = e
        intro ha hb he hv'
        apply W.seq
        have hx0 : indexAddrF tb1 34 (.pointer (some ⟨bb, 0, none⟩)) (.int .i64 ((0 : Nat) : Int)) = .ok (.pointer (some ⟨bb, 0, none⟩)) := indexAddr_arr (i := 0) vnd34 vize9 (by omega)
        have hx1 : indexAddrF tb1 34 (.pointer (some ⟨bb, 0, none⟩)) (.int .i64 ((1 : Nat) : Int)) = .ok (.pointer (some ⟨bb, 1, none⟩)) := indexAddr_arr (i := 1) vnd34 vize9 (by omega)
        have hl0 : loadF tb1 C.get 9 (.pointer (some ⟨bb, 0, none⟩)) = .ok (strOf a) := load_vals vnd9 rfl hv' rfl
        have hl1 : loadF tb1 C.get 9 (.pointer (some ⟨bb, 1, none⟩)) = .ok (strOf b) := load_vals vnd9 rfl hv' rfl
        apply W.run 20
        · intro M
          simp (config := { maxSteps := 4000000 }) (disch := first | decide +kernel | (rw [wantF_guard]; simp only [wantD_some, dstAt_zero, dstAt_succ, T.get_set, T.get_e, Nat.reduceEqDiff, if_true, if_false, wantV_bool, wantV_unit, unitV, cond_true, cond_false, Bool.not_true, Bool.not_false, List.toList_toArray]) | omega) only [c4, Try.f4, Nat.ble, cond_true, cond_false, T.puts_cons, T.puts_nil, exec_seq, exec_block, nat_beq_self, exec_region, exec_cond, exec_skip, exec_ret, exec_exit, exec_scope, runOps_cons, runOps_nil, opF_move, opF_assign, opF_ari, opF_neq, opF_eql, opF_un, opF_index, opF_indexAddr, opF_fieldAddr, opF_field, opF_build, opF_slice, opF_extract, opF_pick, opF_load, opF_alloc, opF_box, opF_buildSlice, opF_makeSlice, opF_store, opF_conv, opF_len, opF_minmax, opF_builtin, opF_call, resK, ev_tmp, evG_some, ev_int, ev_bool, ev_str, evs, evp, evo, R.ok_bind, putT_some, putT_none, T.get_set, T.get_e, binF_int, op_rem, op_quo_u32, op_xor_u32, op_neq, op_eql, op_lss, op_add_i64, op_sub_u32, op_and_u8, op_xor_u8, op_not_u32, binF_shr_u32, binF_shr_u8, op_mul_i64, op_quo_i64, op_and_u32, binF_shl_u8, wrapF_u8, wrapF_u32, mod_u8, mod_u32, cond_val, Nat.lt_irrefl, Nat.not_lt_zero, if_true, if_false, reduceIte, Nat.reduceEqDiff, Nat.reduceAdd, ne_eq, not_true_eq_false, not_false_eq_true, decide_true, decide_false, Bool.false_eq_true, Bool.not_true, Bool.not_false, sub_nil, sub_seq0, sub_seq1, sub_cond0, sub_cond1, sub_block, sub_loop, sub_scope, sub_range0, sub_range1, Option.getD_some, at_ptr, at_slc, runOps_yes, runOps_no, exec_draw, op_sub_i64, op_sub_neg, op_lss_neg, binF_str, str_add, str_neq, str_eql, takeF, resF, oneOf, pickF, extractF, cells_str, cells_int, cells_agg, bool_eql, bool_neq, op_lssI, bne_self_eq_false, beq_self_eq_true, eq_self, cells_slc, cells_func, builtin_append, ev_nilslice, ev_nilfunc, ev_nilptr, ev_nilmap, opF_makeFunc, opF_callv, callV_func, callV_yield, op_leq, op_gtr, op_geq, cast_le, cast_lt, List.nil_append, List.cons_append, List.append_nil, un_not, g3, hx0, hx1, hl0, hl1]
          with_reducible rfl
        apply W.seq
        apply W.run 20
        · intro M
          simp (config := { maxSteps := 4000000 }) (disch := first | decide +kernel | (rw [wantF_guard]; simp only [wantD_some, dstAt_zero, dstAt_succ, T.get_set, T.get_e, Nat.reduceEqDiff, if_true, if_false, wantV_bool, wantV_unit, unitV, cond_true, cond_false, Bool.not_true, Bool.not_false, List.toList_toArray]) | omega) only [c4, Try.f4, Nat.ble, cond_true, cond_false, T.puts_cons, T.puts_nil, exec_seq, exec_block, nat_beq_self, exec_region, exec_cond, exec_skip, exec_ret, exec_exit, exec_scope, runOps_cons, runOps_nil, opF_move, opF_assign, opF_ari, opF_neq, opF_eql, opF_un, opF_index, opF_indexAddr, opF_fieldAddr, opF_field, opF_build, opF_slice, opF_extract, opF_pick, opF_load, opF_alloc, opF_box, opF_buildSlice, opF_makeSlice, opF_store, opF_conv, opF_len, opF_minmax, opF_builtin, opF_call, resK, ev_tmp, evG_some, ev_int, ev_bool, ev_str, evs, evp, evo, R.ok_bind, putT_some, putT_none, T.get_set, T.get_e, binF_int, op_rem, op_quo_u32, op_xor_u32, op_neq, op_eql, op_lss, op_add_i64, op_sub_u32, op_and_u8, op_xor_u8, op_not_u32, binF_shr_u32, binF_shr_u8, op_mul_i64, op_quo_i64, op_and_u32, binF_shl_u8, wrapF_u8, wrapF_u32, mod_u8, mod_u32, cond_val, Nat.lt_irrefl, Nat.not_lt_zero, if_true, if_false, reduceIte, Nat.reduceEqDiff, Nat.reduceAdd, ne_eq, not_true_eq_false, not_false_eq_true, decide_true, decide_false, Bool.false_eq_true, Bool.not_true, Bool.not_false, sub_nil, sub_seq0, sub_seq1, sub_cond0, sub_cond1, sub_block, sub_loop, sub_scope, sub_range0, sub_range1, Option.getD_some, at_ptr, at_slc, runOps_yes, runOps_no, exec_draw, op_sub_i64, op_sub_neg, op_lss_neg, binF_str, str_add, str_neq, str_eql, takeF, resF, oneOf, pickF, extractF, cells_str, cells_int, cells_agg, bool_eql, bool_neq, op_lssI, bne_self_eq_false, beq_self_eq_true, eq_self, cells_slc, cells_func, builtin_append, ev_nilslice, ev_nilfunc, ev_nilptr, ev_nilmap, opF_makeFunc, opF_callv, callV_func, callV_yield, op_leq, op_gtr, op_geq, cast_le, cast_lt, List.nil_append, List.cons_append, List.append_nil, un_not, k9]
          with_reducible rfl
        apply W.seq
        apply W.seq
        refine meas_first ha hb he hv' ?_ ?_ ?_ ?_ ?_
        · simp only [T.get_set, Nat.reduceEqDiff, if_true, if_false, g3]
        · simp only [T.get_set, Nat.reduceEqDiff, if_true, if_false]
        · simp only [T.get_set, Nat.reduceEqDiff, if_true, if_false]
        · simp only [T.get_set, Nat.reduceEqDiff, if_true, if_false]
        intro t' q91 q1 q2 q8 q9 q10
        show W tb1 _ _ _
        apply W.run 20
        · intro M
          simp (config := { maxSteps := 4000000 }) (disch := first | decide +kernel | (rw [wantF_guard]; simp only [wantD_some, dstAt_zero, dstAt_succ, T.get_set, T.get_e, Nat.reduceEqDiff, if_true, if_false, wantV_bool, wantV_unit, unitV, cond_true, cond_false, Bool.not_true, Bool.not_false, List.toList_toArray]) | omega) only [c4, Try.f4, Nat.ble, cond_true, cond_false, T.puts_cons, T.puts_nil, exec_seq, exec_block, nat_beq_self, exec_region, exec_cond, exec_skip, exec_ret, exec_exit, exec_scope, runOps_cons, runOps_nil, opF_move, opF_assign, opF_ari, opF_neq, opF_eql, opF_un, opF_index, opF_indexAddr, opF_fieldAddr, opF_field, opF_build, opF_slice, opF_extract, opF_pick, opF_load, opF_alloc, opF_box, opF_buildSlice, opF_makeSlice, opF_store, opF_conv, opF_len, opF_minmax, opF_builtin, opF_call, resK, ev_tmp, evG_some, ev_int, ev_bool, ev_str, evs, evp, evo, R.ok_bind, putT_some, putT_none, T.get_set, T.get_e, binF_int, op_rem, op_quo_u32, op_xor_u32, op_neq, op_eql, op_lss, op_add_i64, op_sub_u32, op_and_u8, op_xor_u8, op_not_u32, binF_shr_u32, binF_shr_u8, op_mul_i64, op_quo_i64, op_and_u32, binF_shl_u8, wrapF_u8, wrapF_u32, mod_u8, mod_u32, cond_val, Nat.lt_irrefl, Nat.not_lt_zero, if_true, if_false, reduceIte, Nat.reduceEqDiff, Nat.reduceAdd, ne_eq, not_true_eq_false, not_false_eq_true, decide_true, decide_false, Bool.false_eq_true, Bool.not_true, Bool.not_false, sub_nil, sub_seq0, sub_seq1, sub_cond0, sub_cond1, sub_block, sub_loop, sub_scope, sub_range0, sub_range1, Option.getD_some, at_ptr, at_slc, runOps_yes, runOps_no, exec_draw, op_sub_i64, op_sub_neg, op_lss_neg, binF_str, str_add, str_neq, str_eql, takeF, resF, oneOf, pickF, extractF, cells_str, cells_int, cells_agg, bool_eql, bool_neq, op_lssI, bne_self_eq_false, beq_self_eq_true, eq_self, cells_slc, cells_func, builtin_append, ev_nilslice, ev_nilfunc, ev_nilptr, ev_nilmap, opF_makeFunc, opF_callv, callV_func, callV_yield, op_leq, op_gtr, op_geq, cast_le, cast_lt, List.nil_append, List.cons_append, List.append_nil, un_not, q91]
          with_reducible rfl
        simp only [T.get_set, Nat.reduceEqDiff, if_true, if_false, g1, g2] at q1 q2 q8 q9 q10
        refine meas_rest hat ha hb q1 q2 q8 q9 q10 ?_
        intro t2 A2 f6
        refine ⟨.inr rfl, _, [.bool true], rfl, ?_, rfl⟩
        simp only [Try.f4, resF, ev_tmp, f6, evG_some, R.ok_bind]
    · simp only [Sl_cons, Sl_nil, T.get_set, T.puts_cons, T.puts_nil, Nat.reduceEqDiff, Nat.reduceAdd, if_true, if_false, and_true, true_and]
  subst h2
  exact ⟨A', h1⟩
end Go.Proofs.Ytekimgleakjonaa.dist

namespace Go.Proofs.Ytekimgleakjonaa.distMeasures
open Go.ChangeShapes Go.WideShapes Go.ChangeAt Go.RowKit Go.Am
open Go.ChangeMaps (open_string shut_string)
set_option linter.unusedVariables false      -- a walk need not use every 'w<i>' (that an integer argument fits its kind)

theorem own : ownKnob Try.prog.godebug = none := by kernel_rfl

/-! ### The run -/
theorem array3 {α : Type} (cs : Array α) (h : cs.size = 3) : ∃ c0 c1 c2, cs = #[c0, c1, c2] := by
  obtain ⟨l⟩ := cs
  match l, h with
  | [c0, c1, c2], _ => exact ⟨c0, c1, c2, rfl⟩
theorem cells9 : Try.prog.cellsOf 9 = 1 := by kernel_rfl
theorem cells34 : Try.prog.cellsOf 34 = 3 := by kernel_rfl
theorem byte_of {x : Int} (h : (Lit.int .u8 x).wf = true) : Value.int .u8 x = .int .u8 (((UInt8.ofNat x.toNat).toNat : Nat) : Int) ∧ x.toNat < 256 ∧ Value.int .u8 x = .int .u8 ((x.toNat : Nat) : Int) := by
  obtain ⟨h0, h1⟩ := bounds_u8 h
  have e : (UInt8.ofNat x.toNat).toNat = x.toNat := by rw [UInt8.toNat_ofNat']; exact Nat.mod_eq_of_lt (by omega)
  rw [e]
  have e2 : ((x.toNat : Nat) : Int) = x := Int.toNat_of_nonneg h0
  rw [e2]
  exact ⟨rfl, by omega, rfl⟩
theorem walk (s0 s1 s2 : ByteArray) (x1 x2 : Int) (z1 : (Lit.int .u8 x1).wf = true) (z2 : (Lit.int .u8 x2).wf = true) (w : World) :
    Calls Try.prog 4 #[.agg #[.string s0, .string s1, .string s2], .int .u8 x1, .int .u8 x2] w fun e w' => e = .returned (.bool true) ∧ Go.Am.Leaves w w' := by
  rw [(byte_of z1).1, (byte_of z2).2.2]
  exact dist.walk_of Try.func4 dist.c4_eq (dist.run_measures (fun i => if i = 0 then s0.data.toList else if i = 1 then s1.data.toList else s2.data.toList) (UInt8.ofNat x1.toNat) x2.toNat (byte_of z2).2.1) _
    (.cons (.agg (.cons (.string _) (.cons (.string _) (.cons (.string _) .nil)))) (.cons (.int _ _) (.cons (.int _ _) .nil))) w

theorem rdA {H : Type} (enc : TypeId × Value → H) (s0 s1 s2 : ByteArray) (z0 : s0.size ≤ maxLen) (z1 : s1.size ≤ maxLen) (z2 : s2.size ≤ maxLen) (W' : World) (sp : Nat → Bool) :
    DataW.Trod enc Try.prog W' 0 sp true 34 (.agg #[.string s0, .string s1, .string s2]) (DataW.agg [.lit (.string s0.data.toList), .lit (.string s1.data.toList), .lit (.string s2.data.toList)]) [] :=
  ⟨3, by simp [DataW.trod, Value.cells, Try.underlying34, Try.underlying9, cells34, cells9, z0, z1, z2, show List.range 3 = [0, 1, 2] from rfl]⟩

/-! ### THE ROW's STEP: WRITTEN OUT: LEAVE IT -/
set_option maxRecDepth 100000 in
set_option maxHeartbeats 4000000 in
theorem lifted (os : Os) (started : os.Started) (H : Type) (enc : TypeId × Value → H) :
    ReturnsInHanded {} Try.checked os 4 .any (Rows.distMeasuresSpec.pre6 enc Try.prog Try.f4 Rows.distMeasuresRow.domain false) (Rows.distMeasuresSpec.post enc Try.prog Try.f4 false true false false) := by
  refine returnsInHanded_of_change (C := Try.checked) own started (by kernel_rfl) Try.func4
    (ChangeSpec.witness6 (enc := enc) (C := Try.checked) false ⟨#[], #[.agg #[.string ByteArray.empty, .string ByteArray.empty, .string ByteArray.empty], .int .u8 0, .int .u8 0], []⟩ 8 (by kernel_rfl) (by kernel_rfl) (by kernel_rfl) (by kernel_rfl)) ?_
  intro W base args ds gs before hval0 hW hcnd _
  have hval : ∀ (j : Nat) t v, Try.f4.params[j]? = some t → args[j]? = some v → Value.okWide Try.prog W .any base t v := hval0
  have hW' := hW
  obtain ⟨p, q, hA0, hV, rfl, hfz, hnd⟩ := hW
  have hA : DataW.TrodAll enc Try.prog W 0 (fun _ => true) true Try.f4.params.toList args.toList ds p := hA0
  rw [Try.params4] at hA hval
  obtain ⟨v0, vs0, d0, ds0, p0, q0, hargs, rfl, rfl, h0, r0⟩ := trodAll_cons hA
  obtain ⟨v1, vs1, d1, ds1, p1, q1, rfl, rfl, rfl, h1, r1⟩ := trodAll_cons r0
  obtain ⟨v2, vs2, d2, ds2, p2, q2, rfl, rfl, rfl, h2, r2⟩ := trodAll_cons r1
  obtain ⟨rfl, rfl, rfl⟩ := trodAll_nil r2
  obtain rfl : args = #[v0, v1, v2] := by cases args; simp_all
  obtain ⟨rfl, rfl⟩ := trodVars_none hV
  obtain ⟨cs, rfl, hcs⟩ : ∃ cs, v0 = .agg cs ∧ cs.size = Try.prog.cellsOf 34 := by
    have h := hval 0 34 v0 rfl rfl
    simp only [Value.okWide, Try.underlying34] at h
    obtain ⟨cs, h1, h2, _⟩ := h
    exact ⟨cs, h1, h2⟩
  obtain ⟨x1, rfl, rfl, rfl, w1⟩ := open_int Try.underlying5 (hval 1 5 v1 rfl rfl) h1
  obtain ⟨x2, rfl, rfl, rfl, w2⟩ := open_int Try.underlying5 (hval 2 5 v2 rfl rfl) h2
  rw [cells34] at hcs
  obtain ⟨c0, c1, c2, rfl⟩ := array3 cs hcs
  obtain ⟨fu, hf⟩ := h0
  obtain ⟨y0, y1, y2, m, hx, hy0, hy1, hy2⟩ := trod_array3 Try.underlying34 cells9 hf
  obtain ⟨s0, e0, rfl, z0⟩ := DataW.trod_string Try.underlying9 hy0
  obtain ⟨s1, e1, rfl, z1⟩ := DataW.trod_string Try.underlying9 hy1
  obtain ⟨s2, e2, rfl, z2⟩ := DataW.trod_string Try.underlying9 hy2
  simp at e0 e1 e2
  subst e0 e1 e2
  simp only [Prod.mk.injEq] at hx
  obtain ⟨rfl, rfl⟩ := hx
  clear hA0 hval0
  simp only [List.append_nil] at hW'
  refine (walk s0 s1 s2 x1 x2 w1 w2 W).mono fun e W' ⟨he, hg⟩ => ?_
  subst he
  exact ⟨_, rfl, postLaw (pa := []) (pv := []) hg hW' rfl (fun _ _ _ => (trodAll_cons_mk (shut_bool Try.underlying4 _) trodAll_mk0)) (fun sp _ => (trodAll_cons_mk (rdA enc s0 s1 s2 z0 z1 z2 W' sp) (trodAll_cons_mk (shut_int Try.underlying5 w1) (trodAll_cons_mk (shut_int Try.underlying5 w2) trodAll_mk0)))) (fun _ _ => rfl)
    (ok_one (by kernel_rfl) rfl (okWide_bool_mk Try.underlying4 _))⟩

theorem over : Rows.distMeasuresRow.holds Try.pinned (OpenSpec.ofChange Rows.distMeasuresSpec) :=
  OpenClaim.holds_of_wide 4 Try.f4 rfl rfl rfl rfl rfl rfl rfl ⟨rfl, rfl, rfl, rfl, rfl⟩ rfl rfl rfl rfl rfl (by kernel_rfl) Try.func4 (by kernel_rfl)
    (of_decide_eq_true (by kernel_rfl)) (by unfold Func.isWrapper; first | (rw [if_pos (by decide +kernel)]; kernel_rfl) | (rw [if_neg (by decide +kernel)]; exact ⟨rfl, rfl⟩))
    (fun os started H enc _ => lifted os started H enc)

/-- ████ THE STATEMENT ████ -/
theorem proved : Rows.DistMeasuresSaid :=
  over
#print axioms proved
end Go.Proofs.Ytekimgleakjonaa.distMeasures
