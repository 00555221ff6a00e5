/-
  The statement CrcFour holds, for every input: the program, run on the abstract machine AM on values of which parts are variables, answers true; what AM answers the model answers. No conditions.
-/
import Derived.Test.YtjgmjbbchonmlaaRows
import Derived.Test.YtjgmjbbchonmlaaCrcA
import Derived.WalkKit
import Derived.ProofKit
import Derived.OpenShut
import Derived.ShutString
import Derived.Laws.IdiomArrays
namespace Go.Proofs.Ytjgmjbbchonmlaa.crc
open Go.Am
set_option linter.unusedSimpArgs false

theorem ia0 (b : Nat) : indexAddrF tb8 36 (.pointer (some ⟨b, 0, none⟩)) (.int .i64 ((0 : Nat) : Int)) = .ok (.pointer (some ⟨b, 0, none⟩)) := by kernel_rfl
theorem ia1 (b : Nat) : indexAddrF tb8 36 (.pointer (some ⟨b, 0, none⟩)) (.int .i64 ((1 : Nat) : Int)) = .ok (.pointer (some ⟨b, 4, none⟩)) := by kernel_rfl
theorem sl0 (b : Nat) : sliceF tb8 35 (.pointer (some ⟨b, 0, none⟩)) none none none = .ok (.slice (some ⟨b, 0, none⟩) 4 8) := by kernel_rfl
theorem sl1 (b : Nat) : sliceF tb8 35 (.pointer (some ⟨b, 4, none⟩)) none none none = .ok (.slice (some ⟨b, 4, none⟩) 4 8) := by kernel_rfl
section
variable {b0 b1 b2 b3 b4 b5 b6 b7 : UInt8}
def eightV (b0 b1 b2 b3 b4 b5 b6 b7 : UInt8) : List Value := [byteV b0, byteV b1, byteV b2, byteV b3, byteV b4, byteV b5, byteV b6, byteV b7]
theorem gets0 : (T.puts .e 0 (eightV b0 b1 b2 b3 b4 b5 b6 b7)).gets 4 0 = some ([b0, b1, b2, b3].map byteV) := by kernel_rfl
theorem gets4 : (T.puts .e 0 (eightV b0 b1 b2 b3 b4 b5 b6 b7)).gets 4 4 = some ([b4, b5, b6, b7].map byteV) := by kernel_rfl
theorem cv0 {A : Mem} {b : Nat} (h : A.get b = some (rowOb 36 (eightV b0 b1 b2 b3 b4 b5 b6 b7))) : convRF tb8 A.get 33 9 (.slice (some ⟨b, 0, none⟩) 4 8) = .ok (strOf [b0, b1, b2, b3]) := by
  have e : elemsF A.get 1 4 (some ⟨b, 0, none⟩) = .ok ([b0, b1, b2, b3].map byteV) := by
    unfold elemsF
    simp only [h, rowOb, Nat.mul_one, gets0]
    rfl
  unfold convRF
  simp only [und33h, und9h, und5h, toStringF, e, R.ok_bind, bytesOf_map]
theorem cv1 {A : Mem} {b : Nat} (h : A.get b = some (rowOb 36 (eightV b0 b1 b2 b3 b4 b5 b6 b7))) : convRF tb8 A.get 33 9 (.slice (some ⟨b, 4, none⟩) 4 8) = .ok (strOf [b4, b5, b6, b7]) := by
  have e : elemsF A.get 1 4 (some ⟨b, 4, none⟩) = .ok ([b4, b5, b6, b7].map byteV) := by
    unfold elemsF
    simp only [h, rowOb, Nat.mul_one, gets4]
    rfl
  unfold convRF
  simp only [und33h, und9h, und5h, toStringF, e, R.ok_bind, bytesOf_map]

theorem un_not {p : Bool} : unF .not (.bool p) = .ok (.bool (!p)) := by cases p <;> rfl
noncomputable def c7 : Code := Try.f7.body.getD .skip
theorem c7_eq : Try.f7.body = some (.seq (sub c7 [0]) (.seq (.seq (sub c7 [1,0,0]) (.cond (.tmp 14) (sub c7 [1,0,1,0]) .skip)) (.seq (sub c7 [1,1,0]) (.seq (sub c7 [1,1,1,0]) (.seq (sub c7 [1,1,1,1,0]) (.seq (sub c7 [1,1,1,1,1,0]) (.seq (sub c7 [1,1,1,1,1,1,0]) (sub c7 [1,1,1,1,1,1,1])))))))) := by kernel_rfl

theorem cut_len2 (l : List UInt8) : (l.take (min l.length 200)).length ≤ 200 := by rw [List.length_take]; omega
theorem cells_agg (l : List Value) : (Value.agg ⟨l⟩).cells.toList = l := rfl
theorem fw (p : Bool) : (cond p true !true) = p := by cases p <;> rfl
section
variable {p q a b : List UInt8} {t : T Value} {A : Mem} {K : Ex → St → Prop}
set_option maxHeartbeats 4000000 in
theorem four_last1 (hpl : p.length ≤ 200) (hql : q.length ≤ 200) (h4a : a.length = 4) (_ : b.length = 4) (hab : (refSum (p ++ a ++ q) = refSum (p ++ b ++ q)) = (a = b)) (hse : refSeal (p ++ q) = p ++ q ++ a)
    (g0 : t.get 0 = some (strOf p)) (g1 : t.get 1 = some (strOf q)) (g7 : t.get 7 = some (strOf a)) (g8 : t.get 8 = some (strOf b)) (g9 : t.get 9 = some (.int .u32 (refSum (p ++ a ++ q) : Nat))) (g10 : t.get 10 = some (.int .u32 (refSum (p ++ b ++ q) : Nat)))
    (g11 : t.get 11 = some (strOf (p ++ q))) (g12 : t.get 12 = some (.bool true)) (hk : ∀ t' : T Value, t'.get 6 = some (.bool true) → K .nrm ⟨t', 94, [], A, none⟩) : W tb8 (sub c7 [1,1,1,1,1,1,0]) ⟨t, 94, [], A, none⟩ K := by
  have lpq : (p ++ q).length = p.length + q.length := List.length_append
  have la : (p ++ a).length = p.length + 4 := by rw [List.length_append, h4a]
  have hm1 := more_ref p a
  have hm2 := more_ref (p ++ a) q
  have s1 := refSum_lt p
  have s2 := refSum_lt (p ++ a)
  apply W.run 20
  · intro m
    simp (config := { maxSteps := 4000000 }) (disch := first | omega | decide +kernel | (simp only [wantF_guard, wantD_some, dstAt_zero, dstAt_succ, T.get_set, T.get_e, Nat.reduceEqDiff, if_true, if_false, wantV_bool, wantV_unit, unitV, cond_true, cond_false, Bool.not_true, Bool.not_false, List.toList_toArray])) only [c7, Try.f7, Nat.ble, cond_true, cond_false, T.puts_cons, T.puts_nil, exec_seq, exec_block, nat_beq_self, exec_region, exec_cond, exec_skip, exec_ret, exec_exit, exec_scope, runOps_cons, runOps_nil, opF_move, opF_assign, opF_ari, opF_neq, opF_eql, opF_un, opF_index, opF_indexAddr, opF_fieldAddr, opF_field, opF_build, opF_slice, opF_extract, opF_pick, opF_load, opF_alloc, opF_box, opF_buildSlice, opF_makeSlice, opF_store, opF_conv, opF_len, opF_minmax, opF_builtin, opF_call, resK, ev_tmp, evG_some, ev_int, ev_bool, ev_str, evs, evp, evo, R.ok_bind, putT_some, putT_none, T.get_set, T.get_e, binF_int, op_rem, op_quo_u32, op_xor_u32, op_neq, op_eql, op_lss, op_add_i64, op_sub_u32, op_and_u8, op_xor_u8, op_not_u32, binF_shr_u32, binF_shr_u8, op_mul_i64, op_quo_i64, op_and_u32, binF_shl_u8, wrapF_u8, wrapF_u32, mod_u8, mod_u32, cond_val, Nat.lt_irrefl, Nat.not_lt_zero, if_true, if_false, reduceIte, Nat.reduceEqDiff, Nat.reduceAdd, ne_eq, not_true_eq_false, not_false_eq_true, decide_true, decide_false, Bool.false_eq_true, Bool.not_true, Bool.not_false, sub_nil, sub_seq0, sub_seq1, sub_cond0, sub_cond1, sub_block, sub_loop, sub_scope, sub_range0, sub_range1, Option.getD_some, at_ptr, at_slc, runOps_yes, runOps_no, exec_draw, op_sub_i64, op_sub_neg, op_lss_neg, binF_str, str_add, str_neq, str_eql, takeF, resF, oneOf, pickF, extractF, g0, g1, g7, g8, g9, g10, g11, g12, m11, m14, m13, hm1, hm2, hse, hab, un_not, und4h, bool_eql, eq_self, beq_self_eq_true]
    with_reducible rfl
  · apply hk
    simp only [T.get_set, Nat.reduceEqDiff, if_true, if_false]
set_option maxHeartbeats 4000000 in
theorem four_last2 (hpl : p.length ≤ 200) (hql : q.length ≤ 200) (h4a : a.length = 4) (_ : b.length = 4) (hab : (refSum (p ++ a ++ q) = refSum (p ++ b ++ q)) = (a = b)) (hse : ¬ refSeal (p ++ q) = p ++ q ++ a) (z : List UInt8)
    (g0 : t.get 0 = some (strOf p)) (g1 : t.get 1 = some (strOf q)) (g7 : t.get 7 = some (strOf a)) (g8 : t.get 8 = some (strOf b)) (g9 : t.get 9 = some (.int .u32 (refSum (p ++ a ++ q) : Nat))) (g10 : t.get 10 = some (.int .u32 (refSum (p ++ b ++ q) : Nat)))
    (_ : t.get 11 = some (strOf z)) (g12 : t.get 12 = some (.bool false)) (hk : ∀ t' : T Value, t'.get 6 = some (.bool true) → K .nrm ⟨t', 94, [], A, none⟩) : W tb8 (sub c7 [1,1,1,1,1,1,0]) ⟨t, 94, [], A, none⟩ K := by
  have lpq : (p ++ q).length = p.length + q.length := List.length_append
  have la : (p ++ a).length = p.length + 4 := by rw [List.length_append, h4a]
  have hm1 := more_ref p a
  have hm2 := more_ref (p ++ a) q
  have s1 := refSum_lt p
  have s2 := refSum_lt (p ++ a)
  apply W.run 20
  · intro m
    simp (config := { maxSteps := 4000000 }) (disch := first | omega | decide +kernel | (simp only [wantF_guard, wantD_some, dstAt_zero, dstAt_succ, T.get_set, T.get_e, Nat.reduceEqDiff, if_true, if_false, wantV_bool, wantV_unit, unitV, cond_true, cond_false, Bool.not_true, Bool.not_false, List.toList_toArray])) only [c7, Try.f7, Nat.ble, cond_true, cond_false, T.puts_cons, T.puts_nil, exec_seq, exec_block, nat_beq_self, exec_region, exec_cond, exec_skip, exec_ret, exec_exit, exec_scope, runOps_cons, runOps_nil, opF_move, opF_assign, opF_ari, opF_neq, opF_eql, opF_un, opF_index, opF_indexAddr, opF_fieldAddr, opF_field, opF_build, opF_slice, opF_extract, opF_pick, opF_load, opF_alloc, opF_box, opF_buildSlice, opF_makeSlice, opF_store, opF_conv, opF_len, opF_minmax, opF_builtin, opF_call, resK, ev_tmp, evG_some, ev_int, ev_bool, ev_str, evs, evp, evo, R.ok_bind, putT_some, putT_none, T.get_set, T.get_e, binF_int, op_rem, op_quo_u32, op_xor_u32, op_neq, op_eql, op_lss, op_add_i64, op_sub_u32, op_and_u8, op_xor_u8, op_not_u32, binF_shr_u32, binF_shr_u8, op_mul_i64, op_quo_i64, op_and_u32, binF_shl_u8, wrapF_u8, wrapF_u32, mod_u8, mod_u32, cond_val, Nat.lt_irrefl, Nat.not_lt_zero, if_true, if_false, reduceIte, Nat.reduceEqDiff, Nat.reduceAdd, ne_eq, not_true_eq_false, not_false_eq_true, decide_true, decide_false, Bool.false_eq_true, Bool.not_true, Bool.not_false, sub_nil, sub_seq0, sub_seq1, sub_cond0, sub_cond1, sub_block, sub_loop, sub_scope, sub_range0, sub_range1, Option.getD_some, at_ptr, at_slc, runOps_yes, runOps_no, exec_draw, op_sub_i64, op_sub_neg, op_lss_neg, binF_str, str_add, str_neq, str_eql, takeF, resF, oneOf, pickF, extractF, g0, g1, g7, g8, g9, g10, g12, m11, m14, m13, hm1, hm2, hse, hab, un_not, und4h, bool_eql, eq_self, beq_self_eq_true]
    with_reducible rfl
  · apply hk
    simp only [T.get_set, Nat.reduceEqDiff, if_true, if_false]
end

set_option maxHeartbeats 4000000 in
theorem run_crcFour (l r : List UInt8) (b0 b1 b2 b3 b4 b5 b6 b7 : UInt8) : ∃ A, CallsTo tb8 7 [strOf l, strOf r, .agg ⟨eightV b0 b1 b2 b3 b4 b5 b6 b7⟩] mem0 (.bool true) A := by
  have hp := cut_len2 l
  have hq := cut_len2 r
  have hml : min l.length 200 ≤ l.length := Nat.min_le_left _ _
  have hmr : min r.length 200 ≤ r.length := Nat.min_le_left _ _
  obtain ⟨v, A', h1, h2⟩ : ∃ v A', CallsTo tb8 7 [strOf l, strOf r, .agg ⟨eightV b0 b1 b2 b3 b4 b5 b6 b7⟩] mem0 v A' ∧ v = .bool true := by
    refine call_of_W (fn_at Try.func7) c7_eq (by rw [Try.ntmps7]; simp) ?_
    apply W.seq
    apply W.run 20
    · intro m
      simp (config := { maxSteps := 4000000 }) (disch := first | omega | decide +kernel | (simp only [wantF_guard, wantD_some, dstAt_zero, dstAt_succ, T.get_set, T.get_e, Nat.reduceEqDiff, if_true, if_false, wantV_bool, wantV_unit, unitV, cond_true, cond_false, Bool.not_true, Bool.not_false, List.toList_toArray])) only [c7, Try.f7, Nat.ble, cond_true, cond_false, T.puts_cons, T.puts_nil, exec_seq, exec_block, nat_beq_self, exec_region, exec_cond, exec_skip, exec_ret, exec_exit, exec_scope, runOps_cons, runOps_nil, opF_move, opF_assign, opF_ari, opF_neq, opF_eql, opF_un, opF_index, opF_indexAddr, opF_fieldAddr, opF_field, opF_build, opF_slice, opF_extract, opF_pick, opF_load, opF_alloc, opF_box, opF_buildSlice, opF_makeSlice, opF_store, opF_conv, opF_len, opF_minmax, opF_builtin, opF_call, resK, ev_tmp, evG_some, ev_int, ev_bool, ev_str, evs, evp, evo, R.ok_bind, putT_some, putT_none, T.get_set, T.get_e, binF_int, op_rem, op_quo_u32, op_xor_u32, op_neq, op_eql, op_lss, op_add_i64, op_sub_u32, op_and_u8, op_xor_u8, op_not_u32, binF_shr_u32, binF_shr_u8, op_mul_i64, op_quo_i64, op_and_u32, binF_shl_u8, wrapF_u8, wrapF_u32, mod_u8, mod_u32, cond_val, Nat.lt_irrefl, Nat.not_lt_zero, if_true, if_false, reduceIte, Nat.reduceEqDiff, Nat.reduceAdd, ne_eq, not_true_eq_false, not_false_eq_true, decide_true, decide_false, Bool.false_eq_true, Bool.not_true, Bool.not_false, sub_nil, sub_seq0, sub_seq1, sub_cond0, sub_cond1, sub_block, sub_loop, sub_scope, sub_range0, sub_range1, Option.getD_some, at_ptr, at_slc, runOps_yes, runOps_no, exec_draw, op_sub_i64, op_sub_neg, op_lss_neg, binF_str, str_add, str_neq, str_eql, takeF, resF, oneOf, pickF, extractF, cells_agg]
      rfl
    apply W.seq
    apply W.seq
    apply W.run 20
    · intro m
      simp (config := { maxSteps := 4000000 }) (disch := first | omega | decide +kernel | (simp only [wantF_guard, wantD_some, dstAt_zero, dstAt_succ, T.get_set, T.get_e, Nat.reduceEqDiff, if_true, if_false, wantV_bool, wantV_unit, unitV, cond_true, cond_false, Bool.not_true, Bool.not_false, List.toList_toArray])) only [c7, Try.f7, Nat.ble, cond_true, cond_false, T.puts_cons, T.puts_nil, exec_seq, exec_block, nat_beq_self, exec_region, exec_cond, exec_skip, exec_ret, exec_exit, exec_scope, runOps_cons, runOps_nil, opF_move, opF_assign, opF_ari, opF_neq, opF_eql, opF_un, opF_index, opF_indexAddr, opF_fieldAddr, opF_field, opF_build, opF_slice, opF_extract, opF_pick, opF_load, opF_alloc, opF_box, opF_buildSlice, opF_makeSlice, opF_store, opF_conv, opF_len, opF_minmax, opF_builtin, opF_call, resK, ev_tmp, evG_some, ev_int, ev_bool, ev_str, evs, evp, evo, R.ok_bind, putT_some, putT_none, T.get_set, T.get_e, binF_int, op_rem, op_quo_u32, op_xor_u32, op_neq, op_eql, op_lss, op_add_i64, op_sub_u32, op_and_u8, op_xor_u8, op_not_u32, binF_shr_u32, binF_shr_u8, op_mul_i64, op_quo_i64, op_and_u32, binF_shl_u8, wrapF_u8, wrapF_u32, mod_u8, mod_u32, cond_val, Nat.lt_irrefl, Nat.not_lt_zero, if_true, if_false, reduceIte, Nat.reduceEqDiff, Nat.reduceAdd, ne_eq, not_true_eq_false, not_false_eq_true, decide_true, decide_false, Bool.false_eq_true, Bool.not_true, Bool.not_false, sub_nil, sub_seq0, sub_seq1, sub_cond0, sub_cond1, sub_block, sub_loop, sub_scope, sub_range0, sub_range1, Option.getD_some, at_ptr, at_slc, runOps_yes, runOps_no, exec_draw, op_sub_i64, op_sub_neg, op_lss_neg, binF_str, str_add, str_neq, str_eql, takeF, resF, oneOf, pickF, extractF, m15]
      rfl
    refine W.cond (p := false) ?_ (fun h => by cases h) (fun _ => ?_)
    · simp only [ev_tmp, T.get_set, Nat.reduceEqDiff, if_true, if_false, evG_some]; rfl
    apply W.run 20
    · intro m
      simp (config := { maxSteps := 4000000 }) (disch := first | omega | decide +kernel | (simp only [wantF_guard, wantD_some, dstAt_zero, dstAt_succ, T.get_set, T.get_e, Nat.reduceEqDiff, if_true, if_false, wantV_bool, wantV_unit, unitV, cond_true, cond_false, Bool.not_true, Bool.not_false, List.toList_toArray])) only [Nat.ble, cond_true, cond_false, T.puts_cons, T.puts_nil, exec_seq, exec_block, nat_beq_self, exec_region, exec_cond, exec_skip, exec_ret, exec_exit, exec_scope, runOps_cons, runOps_nil, opF_move, opF_assign, opF_ari, opF_neq, opF_eql, opF_un, opF_index, opF_indexAddr, opF_fieldAddr, opF_field, opF_build, opF_slice, opF_extract, opF_pick, opF_load, opF_alloc, opF_box, opF_buildSlice, opF_makeSlice, opF_store, opF_conv, opF_len, opF_minmax, opF_builtin, opF_call, resK, ev_tmp, evG_some, ev_int, ev_bool, ev_str, evs, evp, evo, R.ok_bind, putT_some, putT_none, T.get_set, T.get_e, binF_int, op_rem, op_quo_u32, op_xor_u32, op_neq, op_eql, op_lss, op_add_i64, op_sub_u32, op_and_u8, op_xor_u8, op_not_u32, binF_shr_u32, binF_shr_u8, op_mul_i64, op_quo_i64, op_and_u32, binF_shl_u8, wrapF_u8, wrapF_u32, mod_u8, mod_u32, cond_val, Nat.lt_irrefl, Nat.not_lt_zero, if_true, if_false, reduceIte, Nat.reduceEqDiff, Nat.reduceAdd, ne_eq, not_true_eq_false, not_false_eq_true, decide_true, decide_false, Bool.false_eq_true, Bool.not_true, Bool.not_false, sub_nil, sub_seq0, sub_seq1, sub_cond0, sub_cond1, sub_block, sub_loop, sub_scope, sub_range0, sub_range1, Option.getD_some, at_ptr, at_slc, runOps_yes, runOps_no, exec_draw, op_sub_i64, op_sub_neg, op_lss_neg, binF_str, str_add, str_neq, str_eql, takeF, resF, oneOf, pickF, extractF]
      rfl
    show W tb8 _ _ _
    apply W.seq
    apply W.run 20
    · intro m
      simp (config := { maxSteps := 4000000 }) (disch := first | omega | decide +kernel | (simp only [wantF_guard, wantD_some, dstAt_zero, dstAt_succ, T.get_set, T.get_e, Nat.reduceEqDiff, if_true, if_false, wantV_bool, wantV_unit, unitV, cond_true, cond_false, Bool.not_true, Bool.not_false, List.toList_toArray])) only [c7, Try.f7, Nat.ble, cond_true, cond_false, T.puts_cons, T.puts_nil, exec_seq, exec_block, nat_beq_self, exec_region, exec_cond, exec_skip, exec_ret, exec_exit, exec_scope, runOps_cons, runOps_nil, opF_move, opF_assign, opF_ari, opF_neq, opF_eql, opF_un, opF_index, opF_indexAddr, opF_fieldAddr, opF_field, opF_build, opF_slice, opF_extract, opF_pick, opF_load, opF_alloc, opF_box, opF_buildSlice, opF_makeSlice, opF_store, opF_conv, opF_len, opF_minmax, opF_builtin, opF_call, resK, ev_tmp, evG_some, ev_int, ev_bool, ev_str, evs, evp, evo, R.ok_bind, putT_some, putT_none, T.get_set, T.get_e, binF_int, op_rem, op_quo_u32, op_xor_u32, op_neq, op_eql, op_lss, op_add_i64, op_sub_u32, op_and_u8, op_xor_u8, op_not_u32, binF_shr_u32, binF_shr_u8, op_mul_i64, op_quo_i64, op_and_u32, binF_shl_u8, wrapF_u8, wrapF_u32, mod_u8, mod_u32, cond_val, Nat.lt_irrefl, Nat.not_lt_zero, if_true, if_false, reduceIte, Nat.reduceEqDiff, Nat.reduceAdd, ne_eq, not_true_eq_false, not_false_eq_true, decide_true, decide_false, Bool.false_eq_true, Bool.not_true, Bool.not_false, sub_nil, sub_seq0, sub_seq1, sub_cond0, sub_cond1, sub_block, sub_loop, sub_scope, sub_range0, sub_range1, Option.getD_some, at_ptr, at_slc, runOps_yes, runOps_no, exec_draw, op_sub_i64, op_sub_neg, op_lss_neg, binF_str, str_add, str_neq, str_eql, takeF, resF, oneOf, pickF, extractF, len_str und9h, min_i64, slice_to und9h]
      rfl
    revert hp hq
    generalize l.take (min l.length 200) = p
    generalize r.take (min r.length 200) = q
    intro hp hq
    apply W.seq
    have hg : (mem0.alloc (rowOb 36 (eightV b0 b1 b2 b3 b4 b5 b6 b7))).get mem0.next = some (rowOb 36 (eightV b0 b1 b2 b3 b4 b5 b6 b7)) := get_alloc_self _ _
    have hc0 := cv0 hg
    have hc1 := cv1 hg
    apply W.run 20
    · intro m
      simp (config := { maxSteps := 4000000 }) (disch := first | omega | decide +kernel | (simp only [wantF_guard, wantD_some, dstAt_zero, dstAt_succ, T.get_set, T.get_e, Nat.reduceEqDiff, if_true, if_false, wantV_bool, wantV_unit, unitV, cond_true, cond_false, Bool.not_true, Bool.not_false, List.toList_toArray])) only [c7, Try.f7, Nat.ble, cond_true, cond_false, T.puts_cons, T.puts_nil, exec_seq, exec_block, nat_beq_self, exec_region, exec_cond, exec_skip, exec_ret, exec_exit, exec_scope, runOps_cons, runOps_nil, opF_move, opF_assign, opF_ari, opF_neq, opF_eql, opF_un, opF_index, opF_indexAddr, opF_fieldAddr, opF_field, opF_build, opF_slice, opF_extract, opF_pick, opF_load, opF_alloc, opF_box, opF_buildSlice, opF_makeSlice, opF_store, opF_conv, opF_len, opF_minmax, opF_builtin, opF_call, resK, ev_tmp, evG_some, ev_int, ev_bool, ev_str, evs, evp, evo, R.ok_bind, putT_some, putT_none, T.get_set, T.get_e, binF_int, op_rem, op_quo_u32, op_xor_u32, op_neq, op_eql, op_lss, op_add_i64, op_sub_u32, op_and_u8, op_xor_u8, op_not_u32, binF_shr_u32, binF_shr_u8, op_mul_i64, op_quo_i64, op_and_u32, binF_shl_u8, wrapF_u8, wrapF_u32, mod_u8, mod_u32, cond_val, Nat.lt_irrefl, Nat.not_lt_zero, if_true, if_false, reduceIte, Nat.reduceEqDiff, Nat.reduceAdd, ne_eq, not_true_eq_false, not_false_eq_true, decide_true, decide_false, Bool.false_eq_true, Bool.not_true, Bool.not_false, sub_nil, sub_seq0, sub_seq1, sub_cond0, sub_cond1, sub_block, sub_loop, sub_scope, sub_range0, sub_range1, Option.getD_some, at_ptr, at_slc, runOps_yes, runOps_no, exec_draw, op_sub_i64, op_sub_neg, op_lss_neg, binF_str, str_add, str_neq, str_eql, takeF, resF, oneOf, pickF, extractF, ia0, ia1, sl0, sl1, opF_convStr _ _ _ _ _ _ _ _ _ _ und33h und9h, hc0, hc1]
      rfl
    have h4a : [b0, b1, b2, b3].length = 4 := rfl
    have h4b : [b4, b5, b6, b7].length = 4 := rfl
    revert h4a h4b
    generalize [b0, b1, b2, b3] = a
    generalize [b4, b5, b6, b7] = b
    intro h4a h4b
    have hpl : p.length ≤ 200 := by omega
    have hql : q.length ≤ 200 := by omega
    have hst : refSum (p ++ a ++ q) = refSum (p ++ b ++ q) → a = b := sum_inj h4a h4b
    have la : (p ++ a).length = p.length + 4 := by rw [List.length_append, h4a]
    have lb : (p ++ b).length = p.length + 4 := by rw [List.length_append, h4b]
    have lpq : (p ++ q).length = p.length + q.length := List.length_append
    have l1 : (p ++ a ++ q).length < 900000 := by simp only [List.length_append]; omega
    have l2 : (p ++ b ++ q).length < 900000 := by simp only [List.length_append]; omega
    have l3 : (p ++ q ++ a).length < 900000 := by simp only [List.length_append]; omega
    have l4 : (p ++ q).length < 900000 := by simp only [List.length_append]; omega
    have hm1 := more_ref p a
    have hm2 := more_ref (p ++ a) q
    have s1 := refSum_lt p
    have s2 := refSum_lt (p ++ a)
    have s3 := refSum_lt (p ++ a ++ q)
    have s4 := refSum_lt (p ++ b ++ q)
    have hof := open_four (x := p ++ q) h4a
    apply W.seq
    apply W.run 20
    · intro m
      simp (config := { maxSteps := 4000000 }) (disch := first | omega | decide +kernel | (simp only [wantF_guard, wantD_some, dstAt_zero, dstAt_succ, T.get_set, T.get_e, Nat.reduceEqDiff, if_true, if_false, wantV_bool, wantV_unit, unitV, cond_true, cond_false, Bool.not_true, Bool.not_false, List.toList_toArray])) only [c7, Try.f7, Nat.ble, cond_true, cond_false, T.puts_cons, T.puts_nil, exec_seq, exec_block, nat_beq_self, exec_region, exec_cond, exec_skip, exec_ret, exec_exit, exec_scope, runOps_cons, runOps_nil, opF_move, opF_assign, opF_ari, opF_neq, opF_eql, opF_un, opF_index, opF_indexAddr, opF_fieldAddr, opF_field, opF_build, opF_slice, opF_extract, opF_pick, opF_load, opF_alloc, opF_box, opF_buildSlice, opF_makeSlice, opF_store, opF_conv, opF_len, opF_minmax, opF_builtin, opF_call, resK, ev_tmp, evG_some, ev_int, ev_bool, ev_str, evs, evp, evo, R.ok_bind, putT_some, putT_none, T.get_set, T.get_e, binF_int, op_rem, op_quo_u32, op_xor_u32, op_neq, op_eql, op_lss, op_add_i64, op_sub_u32, op_and_u8, op_xor_u8, op_not_u32, binF_shr_u32, binF_shr_u8, op_mul_i64, op_quo_i64, op_and_u32, binF_shl_u8, wrapF_u8, wrapF_u32, mod_u8, mod_u32, cond_val, Nat.lt_irrefl, Nat.not_lt_zero, if_true, if_false, reduceIte, Nat.reduceEqDiff, Nat.reduceAdd, ne_eq, not_true_eq_false, not_false_eq_true, decide_true, decide_false, Bool.false_eq_true, Bool.not_true, Bool.not_false, sub_nil, sub_seq0, sub_seq1, sub_cond0, sub_cond1, sub_block, sub_loop, sub_scope, sub_range0, sub_range1, Option.getD_some, at_ptr, at_slc, runOps_yes, runOps_no, exec_draw, op_sub_i64, op_sub_neg, op_lss_neg, binF_str, str_add, str_neq, str_eql, takeF, resF, oneOf, pickF, extractF, m11]
      rfl
    apply W.seq
    have hab : (refSum (p ++ a ++ q) = refSum (p ++ b ++ q)) = (a = b) := propext ⟨hst, fun h => by rw [h]⟩
    by_cases hse : refSeal (p ++ q) = p ++ q ++ a
    · rw [if_pos hse] at hof
      apply W.run 20
      · intro m
        simp (config := { maxSteps := 4000000 }) (disch := first | omega | decide +kernel | (simp only [wantF_guard, wantD_some, dstAt_zero, dstAt_succ, T.get_set, T.get_e, Nat.reduceEqDiff, if_true, if_false, wantV_bool, wantV_unit, unitV, cond_true, cond_false, Bool.not_true, Bool.not_false, List.toList_toArray])) only [c7, Try.f7, Nat.ble, cond_true, cond_false, T.puts_cons, T.puts_nil, exec_seq, exec_block, nat_beq_self, exec_region, exec_cond, exec_skip, exec_ret, exec_exit, exec_scope, runOps_cons, runOps_nil, opF_move, opF_assign, opF_ari, opF_neq, opF_eql, opF_un, opF_index, opF_indexAddr, opF_fieldAddr, opF_field, opF_build, opF_slice, opF_extract, opF_pick, opF_load, opF_alloc, opF_box, opF_buildSlice, opF_makeSlice, opF_store, opF_conv, opF_len, opF_minmax, opF_builtin, opF_call, resK, ev_tmp, evG_some, ev_int, ev_bool, ev_str, evs, evp, evo, R.ok_bind, putT_some, putT_none, T.get_set, T.get_e, binF_int, op_rem, op_quo_u32, op_xor_u32, op_neq, op_eql, op_lss, op_add_i64, op_sub_u32, op_and_u8, op_xor_u8, op_not_u32, binF_shr_u32, binF_shr_u8, op_mul_i64, op_quo_i64, op_and_u32, binF_shl_u8, wrapF_u8, wrapF_u32, mod_u8, mod_u32, cond_val, Nat.lt_irrefl, Nat.not_lt_zero, if_true, if_false, reduceIte, Nat.reduceEqDiff, Nat.reduceAdd, ne_eq, not_true_eq_false, not_false_eq_true, decide_true, decide_false, Bool.false_eq_true, Bool.not_true, Bool.not_false, sub_nil, sub_seq0, sub_seq1, sub_cond0, sub_cond1, sub_block, sub_loop, sub_scope, sub_range0, sub_range1, Option.getD_some, at_ptr, at_slc, runOps_yes, runOps_no, exec_draw, op_sub_i64, op_sub_neg, op_lss_neg, binF_str, str_add, str_neq, str_eql, takeF, resF, oneOf, pickF, extractF, m8, hof]
        rfl
      apply W.seq
      refine four_last1 hpl hql h4a h4b hab hse ?_ ?_ ?_ ?_ ?_ ?_ ?_ ?_ ?_
      · simp only [T.get_set, T.puts_cons, T.puts_nil, Nat.reduceEqDiff, Nat.reduceAdd, if_true, if_false]; first | done | rfl
      · simp only [T.get_set, T.puts_cons, T.puts_nil, Nat.reduceEqDiff, Nat.reduceAdd, if_true, if_false]; first | done | rfl
      · simp only [T.get_set, T.puts_cons, T.puts_nil, Nat.reduceEqDiff, Nat.reduceAdd, if_true, if_false]; first | done | rfl
      · simp only [T.get_set, T.puts_cons, T.puts_nil, Nat.reduceEqDiff, Nat.reduceAdd, if_true, if_false]; first | done | rfl
      · simp only [T.get_set, T.puts_cons, T.puts_nil, Nat.reduceEqDiff, Nat.reduceAdd, if_true, if_false]; first | done | rfl
      · simp only [T.get_set, T.puts_cons, T.puts_nil, Nat.reduceEqDiff, Nat.reduceAdd, if_true, if_false]; first | done | rfl
      · simp only [T.get_set, T.puts_cons, T.puts_nil, Nat.reduceEqDiff, Nat.reduceAdd, if_true, if_false]; first | done | rfl
      · simp only [T.get_set, T.puts_cons, T.puts_nil, Nat.reduceEqDiff, Nat.reduceAdd, if_true, if_false]; first | done | rfl
      intro t g6
      show W tb8 _ _ _
      apply W.run 20
      · intro m
        simp (disch := first | omega | decide +kernel | (simp only [wantF_guard, wantD_some, dstAt_zero, dstAt_succ, T.get_set, T.get_e, Nat.reduceEqDiff, if_true, if_false, wantV_bool, wantV_unit, unitV, cond_true, cond_false, Bool.not_true, Bool.not_false, List.toList_toArray])) only [c7, Try.f7, Nat.ble, cond_true, cond_false, T.puts_cons, T.puts_nil, exec_seq, exec_block, nat_beq_self, exec_region, exec_cond, exec_skip, exec_ret, exec_exit, exec_scope, runOps_cons, runOps_nil, opF_move, opF_assign, opF_ari, opF_neq, opF_eql, opF_un, opF_index, opF_indexAddr, opF_fieldAddr, opF_field, opF_build, opF_slice, opF_extract, opF_pick, opF_load, opF_alloc, opF_box, opF_buildSlice, opF_makeSlice, opF_store, opF_conv, opF_len, opF_minmax, opF_builtin, opF_call, resK, ev_tmp, evG_some, ev_int, ev_bool, ev_str, evs, evp, evo, R.ok_bind, putT_some, putT_none, T.get_set, T.get_e, binF_int, op_rem, op_quo_u32, op_xor_u32, op_neq, op_eql, op_lss, op_add_i64, op_sub_u32, op_and_u8, op_xor_u8, op_not_u32, binF_shr_u32, binF_shr_u8, op_mul_i64, op_quo_i64, op_and_u32, binF_shl_u8, wrapF_u8, wrapF_u32, mod_u8, mod_u32, cond_val, Nat.lt_irrefl, Nat.not_lt_zero, if_true, if_false, reduceIte, Nat.reduceEqDiff, Nat.reduceAdd, ne_eq, not_true_eq_false, not_false_eq_true, decide_true, decide_false, Bool.false_eq_true, Bool.not_true, Bool.not_false, sub_nil, sub_seq0, sub_seq1, sub_cond0, sub_cond1, sub_block, sub_loop, sub_scope, sub_range0, sub_range1, Option.getD_some, at_ptr, at_slc, runOps_yes, runOps_no, exec_draw, op_sub_i64, op_sub_neg, op_lss_neg, binF_str, str_add, str_neq, str_eql, takeF, resF, oneOf, pickF, extractF]
        rfl
      refine ⟨.inr rfl, _, [.bool true], rfl, ?_, rfl⟩
      simp only [Try.f7, resF, ev_tmp, g6, evG_some, R.ok_bind]
    · rw [if_neg hse] at hof
      apply W.run 20
      · intro m
        simp (config := { maxSteps := 4000000 }) (disch := first | omega | decide +kernel | (simp only [wantF_guard, wantD_some, dstAt_zero, dstAt_succ, T.get_set, T.get_e, Nat.reduceEqDiff, if_true, if_false, wantV_bool, wantV_unit, unitV, cond_true, cond_false, Bool.not_true, Bool.not_false, List.toList_toArray])) only [c7, Try.f7, Nat.ble, cond_true, cond_false, T.puts_cons, T.puts_nil, exec_seq, exec_block, nat_beq_self, exec_region, exec_cond, exec_skip, exec_ret, exec_exit, exec_scope, runOps_cons, runOps_nil, opF_move, opF_assign, opF_ari, opF_neq, opF_eql, opF_un, opF_index, opF_indexAddr, opF_fieldAddr, opF_field, opF_build, opF_slice, opF_extract, opF_pick, opF_load, opF_alloc, opF_box, opF_buildSlice, opF_makeSlice, opF_store, opF_conv, opF_len, opF_minmax, opF_builtin, opF_call, resK, ev_tmp, evG_some, ev_int, ev_bool, ev_str, evs, evp, evo, R.ok_bind, putT_some, putT_none, T.get_set, T.get_e, binF_int, op_rem, op_quo_u32, op_xor_u32, op_neq, op_eql, op_lss, op_add_i64, op_sub_u32, op_and_u8, op_xor_u8, op_not_u32, binF_shr_u32, binF_shr_u8, op_mul_i64, op_quo_i64, op_and_u32, binF_shl_u8, wrapF_u8, wrapF_u32, mod_u8, mod_u32, cond_val, Nat.lt_irrefl, Nat.not_lt_zero, if_true, if_false, reduceIte, Nat.reduceEqDiff, Nat.reduceAdd, ne_eq, not_true_eq_false, not_false_eq_true, decide_true, decide_false, Bool.false_eq_true, Bool.not_true, Bool.not_false, sub_nil, sub_seq0, sub_seq1, sub_cond0, sub_cond1, sub_block, sub_loop, sub_scope, sub_range0, sub_range1, Option.getD_some, at_ptr, at_slc, runOps_yes, runOps_no, exec_draw, op_sub_i64, op_sub_neg, op_lss_neg, binF_str, str_add, str_neq, str_eql, takeF, resF, oneOf, pickF, extractF, m8, hof]
        rfl
      apply W.seq
      refine four_last2 hpl hql h4a h4b hab hse [] ?_ ?_ ?_ ?_ ?_ ?_ ?_ ?_ ?_
      · simp only [T.get_set, T.puts_cons, T.puts_nil, Nat.reduceEqDiff, Nat.reduceAdd, if_true, if_false]; first | done | rfl
      · simp only [T.get_set, T.puts_cons, T.puts_nil, Nat.reduceEqDiff, Nat.reduceAdd, if_true, if_false]; first | done | rfl
      · simp only [T.get_set, T.puts_cons, T.puts_nil, Nat.reduceEqDiff, Nat.reduceAdd, if_true, if_false]; first | done | rfl
      · simp only [T.get_set, T.puts_cons, T.puts_nil, Nat.reduceEqDiff, Nat.reduceAdd, if_true, if_false]; first | done | rfl
      · simp only [T.get_set, T.puts_cons, T.puts_nil, Nat.reduceEqDiff, Nat.reduceAdd, if_true, if_false]; first | done | rfl
      · simp only [T.get_set, T.puts_cons, T.puts_nil, Nat.reduceEqDiff, Nat.reduceAdd, if_true, if_false]; first | done | rfl
      · simp only [T.get_set, T.puts_cons, T.puts_nil, Nat.reduceEqDiff, Nat.reduceAdd, if_true, if_false]; first | done | rfl
      · simp only [T.get_set, T.puts_cons, T.puts_nil, Nat.reduceEqDiff, Nat.reduceAdd, if_true, if_false]; first | done | rfl
      intro t g6
      show W tb8 _ _ _
      apply W.run 20
      · intro m
        simp (disch := first | omega | decide +kernel | (simp only [wantF_guard, wantD_some, dstAt_zero, dstAt_succ, T.get_set, T.get_e, Nat.reduceEqDiff, if_true, if_false, wantV_bool, wantV_unit, unitV, cond_true, cond_false, Bool.not_true, Bool.not_false, List.toList_toArray])) only [c7, Try.f7, Nat.ble, cond_true, cond_false, T.puts_cons, T.puts_nil, exec_seq, exec_block, nat_beq_self, exec_region, exec_cond, exec_skip, exec_ret, exec_exit, exec_scope, runOps_cons, runOps_nil, opF_move, opF_assign, opF_ari, opF_neq, opF_eql, opF_un, opF_index, opF_indexAddr, opF_fieldAddr, opF_field, opF_build, opF_slice, opF_extract, opF_pick, opF_load, opF_alloc, opF_box, opF_buildSlice, opF_makeSlice, opF_store, opF_conv, opF_len, opF_minmax, opF_builtin, opF_call, resK, ev_tmp, evG_some, ev_int, ev_bool, ev_str, evs, evp, evo, R.ok_bind, putT_some, putT_none, T.get_set, T.get_e, binF_int, op_rem, op_quo_u32, op_xor_u32, op_neq, op_eql, op_lss, op_add_i64, op_sub_u32, op_and_u8, op_xor_u8, op_not_u32, binF_shr_u32, binF_shr_u8, op_mul_i64, op_quo_i64, op_and_u32, binF_shl_u8, wrapF_u8, wrapF_u32, mod_u8, mod_u32, cond_val, Nat.lt_irrefl, Nat.not_lt_zero, if_true, if_false, reduceIte, Nat.reduceEqDiff, Nat.reduceAdd, ne_eq, not_true_eq_false, not_false_eq_true, decide_true, decide_false, Bool.false_eq_true, Bool.not_true, Bool.not_false, sub_nil, sub_seq0, sub_seq1, sub_cond0, sub_cond1, sub_block, sub_loop, sub_scope, sub_range0, sub_range1, Option.getD_some, at_ptr, at_slc, runOps_yes, runOps_no, exec_draw, op_sub_i64, op_sub_neg, op_lss_neg, binF_str, str_add, str_neq, str_eql, takeF, resF, oneOf, pickF, extractF]
        rfl
      refine ⟨.inr rfl, _, [.bool true], rfl, ?_, rfl⟩
      simp only [Try.f7, resF, ev_tmp, g6, evG_some, R.ok_bind]
  subst h2
  exact ⟨A', h1⟩
end

end Go.Proofs.Ytjgmjbbchonmlaa.crc

namespace Go.Proofs.Ytjgmjbbchonmlaa.crcFour
open Go.ChangeShapes Go.WideShapes Go.ChangeAt Go.RowKit Go.Am
open Go.ChangeMaps (open_string shut_string)
set_option linter.unusedVariables false      -- a walk need not use every 'w<i>' (that an integer argument fits its kind)

theorem own : ownKnob Try.prog.godebug = none := by kernel_rfl

/-! ### The run -/
/-- An array of two, as the reader reads it. -/
theorem trod_array2 {H : Type} {enc : TypeId × Value → H} {P : Program} {w : World} {base : Nat} {spare : Nat → Bool} {held : Bool} {t e : TypeId} {n fuel : Nat} {c0 c1 c2 c3 c4 c5 c6 c7 : Value} {x : DataW H × List MemPlace} (ht : P.underlying t = some (.array n e)) (hn : n = 2) (hce : P.cellsOf e = 4)
    (h : DataW.trod enc P w base spare held fuel t [c0, c1, c2, c3, c4, c5, c6, c7] = some x) :
    ∃ y0 y1 n, x = (.agg [y0.1, y1.1], y0.2 ++ y1.2) ∧ DataW.trod enc P w base spare held n e [c0, c1, c2, c3] = some y0 ∧ DataW.trod enc P w base spare held n e [c4, c5, c6, c7] = some y1 := by
  subst hn
  cases fuel with
  | zero => simp [DataW.trod] at h
  | succ n =>
    unfold DataW.trod at h
    rw [ht] at h
    have r2 : List.range 2 = [0, 1] := rfl
    simp [r2, hce] at h
    try obtain ⟨_, h⟩ := h
    cases h0 : DataW.trod enc P w base spare held n e [c0, c1, c2, c3] with
    | none => simp [h0] at h
    | some y0 =>
      cases h1 : DataW.trod enc P w base spare held n e [c4, c5, c6, c7] with
      | none => simp [h0, h1] at h
      | some y1 =>
        simp [h0, h1] at h
        exact ⟨y0, y1, n, h.symm, h0, h1⟩
theorem list8 {α : Type} (l : List α) (h : l.length = 8) : ∃ c0 c1 c2 c3 c4 c5 c6 c7, l = [c0, c1, c2, c3, c4, c5, c6, c7] := by
  match l, h with
  | [c0, c1, c2, c3, c4, c5, c6, c7], _ => exact ⟨c0, c1, c2, c3, c4, c5, c6, c7, rfl⟩
theorem array8 {α : Type} (cs : Array α) (h : cs.size = 8) : ∃ c0 c1 c2 c3 c4 c5 c6 c7, cs = #[c0, c1, c2, c3, c4, c5, c6, c7] := by
  obtain ⟨l⟩ := cs
  obtain ⟨c0, c1, c2, c3, c4, c5, c6, c7, rfl⟩ := list8 l h
  exact ⟨c0, c1, c2, c3, c4, c5, c6, c7, rfl⟩
theorem cells5 : Try.prog.cellsOf 5 = 1 := by kernel_rfl
theorem cells35 : Try.prog.cellsOf 35 = 4 := by kernel_rfl
theorem cells36 : Try.prog.cellsOf 36 = 8 := by kernel_rfl
theorem byte_of {x : Int} (h : (Lit.int .u8 x).wf = true) : Value.int .u8 x = byteV (.ofNat x.toNat) := by
  obtain ⟨h0, h1⟩ := bounds_u8 h
  unfold byteV
  have e : (UInt8.ofNat x.toNat).toNat = x.toNat := by rw [UInt8.toNat_ofNat']; exact Nat.mod_eq_of_lt (by omega)
  rw [e]
  congr 1
  exact (Int.toNat_of_nonneg h0).symm
theorem walk (a0 : ByteArray) (a1 : ByteArray) (x0 x1 x2 x3 x4 x5 x6 x7 : Int) (z0 : (Lit.int .u8 x0).wf = true) (z1 : (Lit.int .u8 x1).wf = true) (z2 : (Lit.int .u8 x2).wf = true) (z3 : (Lit.int .u8 x3).wf = true) (z4 : (Lit.int .u8 x4).wf = true) (z5 : (Lit.int .u8 x5).wf = true) (z6 : (Lit.int .u8 x6).wf = true) (z7 : (Lit.int .u8 x7).wf = true) (w : World) :
    Calls Try.prog 7 #[.string a0, .string a1, .agg #[.int .u8 x0, .int .u8 x1, .int .u8 x2, .int .u8 x3, .int .u8 x4, .int .u8 x5, .int .u8 x6, .int .u8 x7]] w fun e w' => e = .returned (.bool true) ∧ Go.Am.Leaves w w' := by
  rw [byte_of z0, byte_of z1, byte_of z2, byte_of z3, byte_of z4, byte_of z5, byte_of z6, byte_of z7]
  exact crc.walk_of8 Try.func7 crc.c7_eq (crc.run_crcFour a0.data.toList a1.data.toList (.ofNat x0.toNat) (.ofNat x1.toNat) (.ofNat x2.toNat) (.ofNat x3.toNat) (.ofNat x4.toNat) (.ofNat x5.toNat) (.ofNat x6.toNat) (.ofNat x7.toNat)) _
    (.cons (.string _) (.cons (.string _) (.cons (.agg (.cons (.int _ _) (.cons (.int _ _) (.cons (.int _ _) (.cons (.int _ _) (.cons (.int _ _) (.cons (.int _ _) (.cons (.int _ _) (.cons (.int _ _) .nil))))))))) .nil))) w

theorem rdA {H : Type} (enc : TypeId × Value → H) (x0 x1 x2 x3 x4 x5 x6 x7 : Int) (z0 : (Lit.int .u8 x0).wf = true) (z1 : (Lit.int .u8 x1).wf = true) (z2 : (Lit.int .u8 x2).wf = true) (z3 : (Lit.int .u8 x3).wf = true) (z4 : (Lit.int .u8 x4).wf = true) (z5 : (Lit.int .u8 x5).wf = true) (z6 : (Lit.int .u8 x6).wf = true) (z7 : (Lit.int .u8 x7).wf = true) (W' : World) (sp : Nat → Bool) :
    DataW.Trod enc Try.prog W' 0 sp true 36 (.agg #[.int .u8 x0, .int .u8 x1, .int .u8 x2, .int .u8 x3, .int .u8 x4, .int .u8 x5, .int .u8 x6, .int .u8 x7]) (DataW.agg [DataW.agg [.lit (.int .u8 x0), .lit (.int .u8 x1), .lit (.int .u8 x2), .lit (.int .u8 x3)], DataW.agg [.lit (.int .u8 x4), .lit (.int .u8 x5), .lit (.int .u8 x6), .lit (.int .u8 x7)]]) [] :=
  ⟨3, by simp [DataW.trod, Value.cells, Try.underlying36, Try.underlying35, Try.underlying5, cells36, cells35, cells5, z0, z1, z2, z3, z4, z5, z6, z7, show List.range 4 = [0, 1, 2, 3] from rfl, show List.range 2 = [0, 1] from rfl]⟩

/-! ### THE ROW's STEP: WRITTEN OUT: LEAVE IT -/
set_option maxRecDepth 100000 in
set_option maxHeartbeats 4000000 in
theorem lifted (os : Os) (started : os.Started) (H : Type) (enc : TypeId × Value → H) :
    ReturnsInHanded {} Try.checked os 7 .any (Rows.crcFourSpec.pre6 enc Try.prog Try.f7 Rows.crcFourRow.domain false) (Rows.crcFourSpec.post enc Try.prog Try.f7 false true false false) := by
  refine returnsInHanded_of_change (C := Try.checked) own started (by kernel_rfl) Try.func7
    (ChangeSpec.witness6 (enc := enc) (C := Try.checked) false ⟨#[], #[.string ByteArray.empty, .string ByteArray.empty, .agg #[.int .u8 0, .int .u8 0, .int .u8 0, .int .u8 0, .int .u8 0, .int .u8 0, .int .u8 0, .int .u8 0]], []⟩ 8 (by kernel_rfl) (by kernel_rfl) (by kernel_rfl) (by kernel_rfl)) ?_
  intro W base args ds gs before hval0 hW hcnd _
  have hval : ∀ (j : Nat) t v, Try.f7.params[j]? = some t → args[j]? = some v → Value.okWide Try.prog W .any base t v := hval0
  have hW' := hW
  obtain ⟨p, q, hA0, hV, rfl, hfz, hnd⟩ := hW
  have hA : DataW.TrodAll enc Try.prog W 0 (fun _ => true) true Try.f7.params.toList args.toList ds p := hA0
  rw [Try.params7] at hA hval
  obtain ⟨v0, vs0, d0, ds0, p0, q0, hargs, rfl, rfl, h0, r0⟩ := trodAll_cons hA
  obtain ⟨v1, vs1, d1, ds1, p1, q1, rfl, rfl, rfl, h1, r1⟩ := trodAll_cons r0
  obtain ⟨v2, vs2, d2, ds2, p2, q2, rfl, rfl, rfl, h2, r2⟩ := trodAll_cons r1
  obtain ⟨rfl, rfl, rfl⟩ := trodAll_nil r2
  obtain rfl : args = #[v0, v1, v2] := by cases args; simp_all
  obtain ⟨rfl, rfl⟩ := trodVars_none hV
  obtain ⟨a0, rfl, rfl, rfl, w0⟩ := open_string Try.underlying9 (hval 0 9 v0 rfl rfl) h0
  obtain ⟨a1, rfl, rfl, rfl, w1⟩ := open_string Try.underlying9 (hval 1 9 v1 rfl rfl) h1
  obtain ⟨cs, rfl, hcs⟩ : ∃ cs, v2 = .agg cs ∧ cs.size = Try.prog.cellsOf 36 := by
    have h := hval 2 36 v2 rfl rfl
    simp only [Value.okWide, Try.underlying36] at h
    obtain ⟨cs, h1, h2, _⟩ := h
    exact ⟨cs, h1, h2⟩
  rw [cells36] at hcs
  obtain ⟨c0, c1, c2, c3, c4, c5, c6, c7, rfl⟩ := array8 cs hcs
  obtain ⟨fu, hf⟩ := h2
  obtain ⟨y0, y1, m, hx, hy0, hy1⟩ := trod_array2 Try.underlying36 rfl cells35 hf
  obtain ⟨u0, u1, u2, u3, mu, hu, hu0, hu1, hu2, hu3⟩ := trod_array4 Try.underlying35 cells5 hy0
  obtain ⟨u4, u5, u6, u7, mv, hv, hu4, hu5, hu6, hu7⟩ := trod_array4 Try.underlying35 cells5 hy1
  obtain ⟨x0, e0, rfl, z0⟩ := DataW.trod_int Try.underlying5 hu0
  obtain ⟨x1, e1, rfl, z1⟩ := DataW.trod_int Try.underlying5 hu1
  obtain ⟨x2, e2, rfl, z2⟩ := DataW.trod_int Try.underlying5 hu2
  obtain ⟨x3, e3, rfl, z3⟩ := DataW.trod_int Try.underlying5 hu3
  obtain ⟨x4, e4, rfl, z4⟩ := DataW.trod_int Try.underlying5 hu4
  obtain ⟨x5, e5, rfl, z5⟩ := DataW.trod_int Try.underlying5 hu5
  obtain ⟨x6, e6, rfl, z6⟩ := DataW.trod_int Try.underlying5 hu6
  obtain ⟨x7, e7, rfl, z7⟩ := DataW.trod_int Try.underlying5 hu7
  simp at e0 e1 e2 e3 e4 e5 e6 e7
  subst e0 e1 e2 e3 e4 e5 e6 e7
  subst hu hv
  simp only [Prod.mk.injEq] at hx
  obtain ⟨rfl, rfl⟩ := hx
  clear hA0 hval0
  simp only [List.append_nil] at hW'
  refine (walk a0 a1 x0 x1 x2 x3 x4 x5 x6 x7 z0 z1 z2 z3 z4 z5 z6 z7 W).mono fun e W' ⟨he, hg⟩ => ?_
  subst he
  exact ⟨_, rfl, postLaw (pa := []) (pv := []) hg hW' rfl (fun _ _ _ => (trodAll_cons_mk (shut_bool Try.underlying4 _) trodAll_mk0)) (fun sp _ => (trodAll_cons_mk (shut_string Try.underlying9 w0) (trodAll_cons_mk (shut_string Try.underlying9 w1) (trodAll_cons_mk (rdA enc x0 x1 x2 x3 x4 x5 x6 x7 z0 z1 z2 z3 z4 z5 z6 z7 W' sp) trodAll_mk0)))) (fun _ _ => rfl)
    (ok_one (by kernel_rfl) rfl (okWide_bool_mk Try.underlying4 _))⟩

theorem over : Rows.crcFourRow.holds Try.pinned (OpenSpec.ofChange Rows.crcFourSpec) :=
  OpenClaim.holds_of_wide 7 Try.f7 rfl rfl rfl rfl rfl rfl rfl ⟨rfl, rfl, rfl, rfl, rfl⟩ rfl rfl rfl rfl rfl (by kernel_rfl) Try.func7 (by kernel_rfl)
    (of_decide_eq_true (by kernel_rfl)) (by unfold Func.isWrapper; first | (rw [if_pos (by decide +kernel)]; kernel_rfl) | (rw [if_neg (by decide +kernel)]; exact ⟨rfl, rfl⟩))
    (fun os started H enc _ => lifted os started H enc)

/-- ████ THE STATEMENT ████ -/
theorem proved : Rows.CrcFourSaid :=
  over
#print axioms proved
end Go.Proofs.Ytjgmjbbchonmlaa.crcFour
