/-
  The statement ScriptRight holds, for every input: the program, run on the abstract machine AM on values of which parts are variables, answers true; what AM answers the model answers. No conditions.
-/
import Derived.Test.YtmhldlnlgjpkaaaRows
import Derived.Test.YtmhldlnlgjpkaaaScrB
import Derived.WalkKit
import Derived.ProofKit
import Derived.OpenShut
import Derived.ShutString
import Derived.ChangeOld
import Derived.Below
namespace Go.Proofs.Ytmhldlnlgjpkaaa.scr
open Go.Am
set_option linter.unusedSimpArgs false

/-! ### What an act may be -/
structure ActOk (d : ActD) : Prop where
  kind : d.kind ≤ 9
  word : d.word.length ≤ 256
  arm : d.arm ≤ 256
  stays : d.stays.length ≤ 5
  opening : d.opening.length ≤ 3
  k1 : -1 ≤ d.k
  k2 : d.k ≤ 4
  n1 : -1 ≤ d.n
  n2 : d.n ≤ 10
  none : d.cut = false → d.arm = 0 → d.stays.length = 0 ∧ d.opening.length = 0
  each : ∀ o ∈ d.opening, 1 ≤ o.1 ∧ o.1 ≤ 256 ∧ o.2.length ≤ 3
theorem actD_ok (r : List UInt8) : ActOk (actD r).1 := by
  have hm : ∀ (kd : Nat) (s : List UInt8), (-1 ≤ (moreD kd s).2.1 ∧ (moreD kd s).2.1 ≤ 4) ∧ (-1 ≤ (moreD kd s).2.2.1 ∧ (moreD kd s).2.2.1 ≤ 10) := by
    intro kd s
    unfold moreD
    split
    · refine ⟨⟨?_, ?_⟩, ?_, ?_⟩ <;> simp
    · split
      · refine ⟨⟨?_, ?_⟩, ?_, ?_⟩ <;> simp only <;> omega
      · refine ⟨⟨?_, ?_⟩, ?_, ?_⟩ <;> simp
  have hs : ∀ (c : Bool) (s : List UInt8), (stopD c s).1.length ≤ 5 ∧ (stopD c s).2.1.length ≤ 3 ∧ (c = false → (stopD c s).1.length = 0 ∧ (stopD c s).2.1.length = 0) ∧ ∀ o ∈ (stopD c s).2.1, 1 ≤ o.1 ∧ o.1 ≤ 256 ∧ o.2.length ≤ 3 := by
    intro c s
    cases c with
    | false => exact ⟨Nat.zero_le _, Nat.zero_le _, fun _ => ⟨rfl, rfl⟩, fun o ho => by cases ho⟩
    | true =>
      have e : stopD true s = (numbersD s.tail (nx s % 6), opensL (s.tail.drop (nx s % 6)) (nx s / 6 % 4), opensRest (s.tail.drop (nx s % 6)) (nx s / 6 % 4)) := rfl
      rw [e]
      refine ⟨?_, ?_, (fun h => absurd h (by decide)), fun o ho => ?_⟩
      · simp only [numbersD_len]; omega
      · simp only [opensL_len]; omega
      · simp only [opensL, List.mem_map, List.mem_range] at ho
        obtain ⟨i, hi, rfl⟩ := ho
        have h := nx_lt (opensRest (s.tail.drop (nx s % 6)) i)
        refine ⟨?_, ?_, ?_⟩
        · show 1 ≤ 1 + _; omega
        · show 1 + _ ≤ 256; omega
        · show (numbersD _ _).length ≤ 3
          rw [numbersD_len]; omega
  have ha : (armD (nx r) r.tail).1 ≤ 256 := by
    have h := nx_lt r.tail
    unfold armD; split <;> simp only <;> omega
  exact {
    kind := by show nx r % 10 ≤ 9; omega
    word := wordD_len _
    arm := ha
    stays := (hs _ _).1
    opening := (hs _ _).2.1
    k1 := (hm _ _).1.1
    k2 := (hm _ _).1.2
    n1 := (hm _ _).2.1
    n2 := (hm _ _).2.2
    none := fun h1 h2 => (hs _ _).2.2.1 (by
      have e1 : cutD (nx r) = false := h1
      have e2 : (armD (nx r) r.tail).1 = 0 := h2
      rw [e1, e2]; rfl)
    each := (hs _ _).2.2.2 }
theorem actsD_ok : ∀ n r, ∀ d ∈ (actsD n r).1, ActOk d
  | 0, r, d, h => by cases h
  | n + 1, r, d, h => by
    unfold actsD at h
    split at h
    · cases h
    · rcases List.mem_cons.1 h with rfl | h
      · exact actD_ok r
      · exact actsD_ok n _ d h

/-! ### Parts of a variable; few; Right -/
theorem load_part {tb : Tab} {A : Mem} {e t : TypeId} {b o n : Nat} {k : Kd} {l : List Value} {d : TypeDesc} (hu : tb.und t = some d) (ha : isAggD d = true) (hs : sizeF tb t = .ok n) (h : Vals A e b k l) (hn : o + n ≤ l.length) : loadF tb A.get t (.pointer (some ⟨b, o, none⟩)) = .ok (.agg ⟨(l.drop o).take n⟩) := by
  obtain ⟨c, h1, h2⟩ := h
  have hg : c.gets n o = some ((l.drop o).take n) := gets_eq _ _ _ _ (by simp; omega) fun j hj => by
    rw [h2 (o + j) (by omega), List.getElem?_take, if_pos hj, List.getElem?_drop]
  unfold loadF
  simp only [h1, hu, ha, cond_true, hs, R.ok_bind, hg]
theorem und25 : ∃ d, tb1.und 25 = some d ∧ isAggD d = true := by
  have h : (tb1.und 25).map isAggD = some true := by kernel_rfl
  cases hq : tb1.und 25 with
  | none => rw [hq] at h; cases h
  | some d => rw [hq] at h; exact ⟨d, rfl, by simpa using h⟩
theorem size25 : sizeF tb1 25 = .ok 2 := by kernel_rfl
noncomputable def c10 : Code := Try.f10.body.getD .skip
theorem c10_eq : Try.f10.body = some (.seq (sub c10 [0]) (.seq (sub c10 [1,0]) (sub c10 [1,1]))) := by kernel_rfl
theorem run_few {A : Mem} {rem : List UInt8} {x : Value} {n : Nat} (h : RdS A rem x) : ∃ x', Ans tb1 10 [x, .int .i64 (n : Nat)] A x' A ∧ RdS A (rem.take (min rem.length n)) x' := by
  obtain ⟨x', hs, hr, -⟩ := h.cut (tb := tb1) (t := 22) (n := min rem.length n) und22 size5 (Nat.min_le_left _ _)
  obtain ⟨v, A', ha, rfl, rfl⟩ : ∃ v A', Ans tb1 10 [x, .int .i64 (n : Nat)] A v A' ∧ v = x' ∧ A' = A := by
    refine ans_of_W (fn_at Try.func10) c10_eq (by rw [Try.ntmps10]; simp) (by kernel_rfl) (by kernel_rfl) ?_
    have hlen := h.len (tb := tb1) (t := 22) und22
    apply W.seq
    apply W.run 20
    · intro M
      simp (config := { maxSteps := 4000000 }) (disch := first | decide +kernel | (rw [wantF_guard]; simp only [wantD_some, dstAt_zero, dstAt_succ, T.get_set, T.get_e, Nat.reduceEqDiff, if_true, if_false, wantV_bool, wantV_unit, unitV, cond_true, cond_false, Bool.not_true, Bool.not_false, List.toList_toArray]) | omega) only [c10, Try.f10, Nat.ble, cond_true, cond_false, T.puts_cons, T.puts_nil, exec_seq, exec_block, nat_beq_self, exec_region, exec_cond, exec_skip, exec_ret, exec_exit, exec_scope, runOps_cons, runOps_nil, opF_move, opF_assign, opF_ari, opF_neq, opF_eql, opF_un, opF_index, opF_indexAddr, opF_fieldAddr, opF_field, opF_build, opF_slice, opF_extract, opF_pick, opF_load, opF_alloc, opF_box, opF_buildSlice, opF_makeSlice, opF_store, opF_conv, opF_len, opF_minmax, opF_builtin, opF_call, resK, ev_tmp, evG_some, ev_int, ev_bool, ev_str, evs, evp, evo, R.ok_bind, putT_some, putT_none, T.get_set, T.get_e, binF_int, op_rem, op_quo_u32, op_xor_u32, op_neq, op_eql, op_lss, op_add_i64, op_sub_u32, op_and_u8, op_xor_u8, op_not_u32, binF_shr_u32, binF_shr_u8, op_mul_i64, op_quo_i64, op_and_u32, binF_shl_u8, wrapF_u8, wrapF_u32, mod_u8, mod_u32, cond_val, Nat.lt_irrefl, Nat.not_lt_zero, if_true, if_false, reduceIte, Nat.reduceEqDiff, Nat.reduceAdd, ne_eq, not_true_eq_false, not_false_eq_true, decide_true, decide_false, Bool.false_eq_true, Bool.not_true, Bool.not_false, sub_nil, sub_seq0, sub_seq1, sub_cond0, sub_cond1, sub_block, sub_loop, sub_scope, sub_range0, sub_range1, Option.getD_some, at_ptr, at_slc, runOps_yes, runOps_no, exec_draw, op_sub_i64, op_sub_neg, op_lss_neg, binF_str, str_add, str_neq, str_eql, takeF, resF, oneOf, pickF, extractF, cells_str, cells_int, cells_agg, bool_eql, bool_neq, op_lssI, bne_self_eq_false, beq_self_eq_true, eq_self, cells_slc, cells_func, builtin_append, ev_nilslice, ev_nilfunc, ev_nilptr, ev_nilmap, opF_makeFunc, opF_callv, callV_func, callV_yield, op_leq, op_gtr, op_geq, cast_le, cast_lt, List.nil_append, List.cons_append, List.append_nil, un_not]
      with_reducible rfl
    apply W.seq
    apply W.run 20
    · intro M
      simp (config := { maxSteps := 4000000 }) (disch := first | decide +kernel | (rw [wantF_guard]; simp only [wantD_some, dstAt_zero, dstAt_succ, T.get_set, T.get_e, Nat.reduceEqDiff, if_true, if_false, wantV_bool, wantV_unit, unitV, cond_true, cond_false, Bool.not_true, Bool.not_false, List.toList_toArray]) | omega) only [c10, Try.f10, Nat.ble, cond_true, cond_false, T.puts_cons, T.puts_nil, exec_seq, exec_block, nat_beq_self, exec_region, exec_cond, exec_skip, exec_ret, exec_exit, exec_scope, runOps_cons, runOps_nil, opF_move, opF_assign, opF_ari, opF_neq, opF_eql, opF_un, opF_index, opF_indexAddr, opF_fieldAddr, opF_field, opF_build, opF_slice, opF_extract, opF_pick, opF_load, opF_alloc, opF_box, opF_buildSlice, opF_makeSlice, opF_store, opF_conv, opF_len, opF_minmax, opF_builtin, opF_call, resK, ev_tmp, evG_some, ev_int, ev_bool, ev_str, evs, evp, evo, R.ok_bind, putT_some, putT_none, T.get_set, T.get_e, binF_int, op_rem, op_quo_u32, op_xor_u32, op_neq, op_eql, op_lss, op_add_i64, op_sub_u32, op_and_u8, op_xor_u8, op_not_u32, binF_shr_u32, binF_shr_u8, op_mul_i64, op_quo_i64, op_and_u32, binF_shl_u8, wrapF_u8, wrapF_u32, mod_u8, mod_u32, cond_val, Nat.lt_irrefl, Nat.not_lt_zero, if_true, if_false, reduceIte, Nat.reduceEqDiff, Nat.reduceAdd, ne_eq, not_true_eq_false, not_false_eq_true, decide_true, decide_false, Bool.false_eq_true, Bool.not_true, Bool.not_false, sub_nil, sub_seq0, sub_seq1, sub_cond0, sub_cond1, sub_block, sub_loop, sub_scope, sub_range0, sub_range1, Option.getD_some, at_ptr, at_slc, runOps_yes, runOps_no, exec_draw, op_sub_i64, op_sub_neg, op_lss_neg, binF_str, str_add, str_neq, str_eql, takeF, resF, oneOf, pickF, extractF, cells_str, cells_int, cells_agg, bool_eql, bool_neq, op_lssI, bne_self_eq_false, beq_self_eq_true, eq_self, cells_slc, cells_func, builtin_append, ev_nilslice, ev_nilfunc, ev_nilptr, ev_nilmap, opF_makeFunc, opF_callv, callV_func, callV_yield, op_leq, op_gtr, op_geq, cast_le, cast_lt, List.nil_append, List.cons_append, List.append_nil, un_not, hlen, min_i64, hs]
      with_reducible rfl
    apply W.run 20
    · intro M
      simp (config := { maxSteps := 4000000 }) (disch := first | decide +kernel | (rw [wantF_guard]; simp only [wantD_some, dstAt_zero, dstAt_succ, T.get_set, T.get_e, Nat.reduceEqDiff, if_true, if_false, wantV_bool, wantV_unit, unitV, cond_true, cond_false, Bool.not_true, Bool.not_false, List.toList_toArray]) | omega) only [c10, Try.f10, Nat.ble, cond_true, cond_false, T.puts_cons, T.puts_nil, exec_seq, exec_block, nat_beq_self, exec_region, exec_cond, exec_skip, exec_ret, exec_exit, exec_scope, runOps_cons, runOps_nil, opF_move, opF_assign, opF_ari, opF_neq, opF_eql, opF_un, opF_index, opF_indexAddr, opF_fieldAddr, opF_field, opF_build, opF_slice, opF_extract, opF_pick, opF_load, opF_alloc, opF_box, opF_buildSlice, opF_makeSlice, opF_store, opF_conv, opF_len, opF_minmax, opF_builtin, opF_call, resK, ev_tmp, evG_some, ev_int, ev_bool, ev_str, evs, evp, evo, R.ok_bind, putT_some, putT_none, T.get_set, T.get_e, binF_int, op_rem, op_quo_u32, op_xor_u32, op_neq, op_eql, op_lss, op_add_i64, op_sub_u32, op_and_u8, op_xor_u8, op_not_u32, binF_shr_u32, binF_shr_u8, op_mul_i64, op_quo_i64, op_and_u32, binF_shl_u8, wrapF_u8, wrapF_u32, mod_u8, mod_u32, cond_val, Nat.lt_irrefl, Nat.not_lt_zero, if_true, if_false, reduceIte, Nat.reduceEqDiff, Nat.reduceAdd, ne_eq, not_true_eq_false, not_false_eq_true, decide_true, decide_false, Bool.false_eq_true, Bool.not_true, Bool.not_false, sub_nil, sub_seq0, sub_seq1, sub_cond0, sub_cond1, sub_block, sub_loop, sub_scope, sub_range0, sub_range1, Option.getD_some, at_ptr, at_slc, runOps_yes, runOps_no, exec_draw, op_sub_i64, op_sub_neg, op_lss_neg, binF_str, str_add, str_neq, str_eql, takeF, resF, oneOf, pickF, extractF, cells_str, cells_int, cells_agg, bool_eql, bool_neq, op_lssI, bne_self_eq_false, beq_self_eq_true, eq_self, cells_slc, cells_func, builtin_append, ev_nilslice, ev_nilfunc, ev_nilptr, ev_nilmap, opF_makeFunc, opF_callv, callV_func, callV_yield, op_leq, op_gtr, op_geq, cast_le, cast_lt, List.nil_append, List.cons_append, List.append_nil, un_not]
      with_reducible rfl
    refine ⟨.inr rfl, _, [x'], rfl, ?_, rfl, rfl⟩
    simp only [Try.f10, resF, ev_tmp, T.get_set, Nat.reduceEqDiff, if_true, if_false, evG_some, R.ok_bind]
  exact ⟨v, ha, hr⟩
noncomputable def c11 : Code := Try.f11.body.getD .skip
theorem c11_eq : Try.f11.body = some (.seq (sub c11 [0]) (.seq (sub c11 [1,0]) (sub c11 [1,1]))) := by kernel_rfl
theorem run_right {A : Mem} {w f : Nat} (hw : 1 ≤ w) (hf : 2 ≤ f) : ∃ A', Ans tb1 11 [.agg ⟨[.int .i64 (w : Nat), .int .i64 (f : Nat)]⟩] A (.bool true) A' ∧ A.next ≤ A'.next ∧ ∀ y, y < A.next → A'.get y = A.get y := by
  obtain ⟨v, A', ha, rfl, h1, h2⟩ : ∃ v A', Ans tb1 11 [.agg ⟨[.int .i64 (w : Nat), .int .i64 (f : Nat)]⟩] A v A' ∧ v = .bool true ∧ A.next ≤ A'.next ∧ ∀ y, y < A.next → A'.get y = A.get y := by
    refine ans_of_W (fn_at Try.func11) c11_eq (by rw [Try.ntmps11]; simp) (by kernel_rfl) (by kernel_rfl) ?_
    have hv : Vals (A.alloc (rowOb 25 [.int .i64 (w : Nat), .int .i64 (f : Nat)])) 25 A.next (.var 2) [.int .i64 (w : Nat), .int .i64 (f : Nat)] := Go.Am.vals_new A 25 _
    have l0 : loadF tb1 (A.alloc (rowOb 25 [.int .i64 (w : Nat), .int .i64 (f : Nat)])).get 3 (.pointer (some ⟨A.next, 0, none⟩)) = .ok (.int .i64 (w : Nat)) := load_vals und3 rfl hv rfl
    have l1 : loadF tb1 (A.alloc (rowOb 25 [.int .i64 (w : Nat), .int .i64 (f : Nat)])).get 3 (.pointer (some ⟨A.next, 1, none⟩)) = .ok (.int .i64 (f : Nat)) := load_vals und3 rfl hv rfl
    apply W.seq
    apply W.run 20
    · intro M
      simp (config := { maxSteps := 4000000 }) (disch := first | decide +kernel | (rw [wantF_guard]; simp only [wantD_some, dstAt_zero, dstAt_succ, T.get_set, T.get_e, Nat.reduceEqDiff, if_true, if_false, wantV_bool, wantV_unit, unitV, cond_true, cond_false, Bool.not_true, Bool.not_false, List.toList_toArray]) | omega) only [c11, Try.f11, Nat.ble, cond_true, cond_false, T.puts_cons, T.puts_nil, exec_seq, exec_block, nat_beq_self, exec_region, exec_cond, exec_skip, exec_ret, exec_exit, exec_scope, runOps_cons, runOps_nil, opF_move, opF_assign, opF_ari, opF_neq, opF_eql, opF_un, opF_index, opF_indexAddr, opF_fieldAddr, opF_field, opF_build, opF_slice, opF_extract, opF_pick, opF_load, opF_alloc, opF_box, opF_buildSlice, opF_makeSlice, opF_store, opF_conv, opF_len, opF_minmax, opF_builtin, opF_call, resK, ev_tmp, evG_some, ev_int, ev_bool, ev_str, evs, evp, evo, R.ok_bind, putT_some, putT_none, T.get_set, T.get_e, binF_int, op_rem, op_quo_u32, op_xor_u32, op_neq, op_eql, op_lss, op_add_i64, op_sub_u32, op_and_u8, op_xor_u8, op_not_u32, binF_shr_u32, binF_shr_u8, op_mul_i64, op_quo_i64, op_and_u32, binF_shl_u8, wrapF_u8, wrapF_u32, mod_u8, mod_u32, cond_val, Nat.lt_irrefl, Nat.not_lt_zero, if_true, if_false, reduceIte, Nat.reduceEqDiff, Nat.reduceAdd, ne_eq, not_true_eq_false, not_false_eq_true, decide_true, decide_false, Bool.false_eq_true, Bool.not_true, Bool.not_false, sub_nil, sub_seq0, sub_seq1, sub_cond0, sub_cond1, sub_block, sub_loop, sub_scope, sub_range0, sub_range1, Option.getD_some, at_ptr, at_slc, runOps_yes, runOps_no, exec_draw, op_sub_i64, op_sub_neg, op_lss_neg, binF_str, str_add, str_neq, str_eql, takeF, resF, oneOf, pickF, extractF, cells_str, cells_int, cells_agg, bool_eql, bool_neq, op_lssI, bne_self_eq_false, beq_self_eq_true, eq_self, cells_slc, cells_func, builtin_append, ev_nilslice, ev_nilfunc, ev_nilptr, ev_nilmap, opF_makeFunc, opF_callv, callV_func, callV_yield, op_leq, op_gtr, op_geq, cast_le, cast_lt, List.nil_append, List.cons_append, List.append_nil, un_not]
      with_reducible rfl
    apply W.seq
    apply W.run 20
    · intro M
      simp (config := { maxSteps := 4000000 }) (disch := first | decide +kernel | (rw [wantF_guard]; simp only [wantD_some, dstAt_zero, dstAt_succ, T.get_set, T.get_e, Nat.reduceEqDiff, if_true, if_false, wantV_bool, wantV_unit, unitV, cond_true, cond_false, Bool.not_true, Bool.not_false, List.toList_toArray]) | omega) only [c11, Try.f11, Nat.ble, cond_true, cond_false, T.puts_cons, T.puts_nil, exec_seq, exec_block, nat_beq_self, exec_region, exec_cond, exec_skip, exec_ret, exec_exit, exec_scope, runOps_cons, runOps_nil, opF_move, opF_assign, opF_ari, opF_neq, opF_eql, opF_un, opF_index, opF_indexAddr, opF_fieldAddr, opF_field, opF_build, opF_slice, opF_extract, opF_pick, opF_load, opF_alloc, opF_box, opF_buildSlice, opF_makeSlice, opF_store, opF_conv, opF_len, opF_minmax, opF_builtin, opF_call, resK, ev_tmp, evG_some, ev_int, ev_bool, ev_str, evs, evp, evo, R.ok_bind, putT_some, putT_none, T.get_set, T.get_e, binF_int, op_rem, op_quo_u32, op_xor_u32, op_neq, op_eql, op_lss, op_add_i64, op_sub_u32, op_and_u8, op_xor_u8, op_not_u32, binF_shr_u32, binF_shr_u8, op_mul_i64, op_quo_i64, op_and_u32, binF_shl_u8, wrapF_u8, wrapF_u32, mod_u8, mod_u32, cond_val, Nat.lt_irrefl, Nat.not_lt_zero, if_true, if_false, reduceIte, Nat.reduceEqDiff, Nat.reduceAdd, ne_eq, not_true_eq_false, not_false_eq_true, decide_true, decide_false, Bool.false_eq_true, Bool.not_true, Bool.not_false, sub_nil, sub_seq0, sub_seq1, sub_cond0, sub_cond1, sub_block, sub_loop, sub_scope, sub_range0, sub_range1, Option.getD_some, at_ptr, at_slc, runOps_yes, runOps_no, exec_draw, op_sub_i64, op_sub_neg, op_lss_neg, binF_str, str_add, str_neq, str_eql, takeF, resF, oneOf, pickF, extractF, cells_str, cells_int, cells_agg, bool_eql, bool_neq, op_lssI, bne_self_eq_false, beq_self_eq_true, eq_self, cells_slc, cells_func, builtin_append, ev_nilslice, ev_nilfunc, ev_nilptr, ev_nilmap, opF_makeFunc, opF_callv, callV_func, callV_yield, op_leq, op_gtr, op_geq, cast_le, cast_lt, List.nil_append, List.cons_append, List.append_nil, un_not, fa25_0, fa25_1, l0, l1, hw, hf]
      with_reducible rfl
    apply W.run 20
    · intro M
      simp (config := { maxSteps := 4000000 }) (disch := first | decide +kernel | (rw [wantF_guard]; simp only [wantD_some, dstAt_zero, dstAt_succ, T.get_set, T.get_e, Nat.reduceEqDiff, if_true, if_false, wantV_bool, wantV_unit, unitV, cond_true, cond_false, Bool.not_true, Bool.not_false, List.toList_toArray]) | omega) only [c11, Try.f11, Nat.ble, cond_true, cond_false, T.puts_cons, T.puts_nil, exec_seq, exec_block, nat_beq_self, exec_region, exec_cond, exec_skip, exec_ret, exec_exit, exec_scope, runOps_cons, runOps_nil, opF_move, opF_assign, opF_ari, opF_neq, opF_eql, opF_un, opF_index, opF_indexAddr, opF_fieldAddr, opF_field, opF_build, opF_slice, opF_extract, opF_pick, opF_load, opF_alloc, opF_box, opF_buildSlice, opF_makeSlice, opF_store, opF_conv, opF_len, opF_minmax, opF_builtin, opF_call, resK, ev_tmp, evG_some, ev_int, ev_bool, ev_str, evs, evp, evo, R.ok_bind, putT_some, putT_none, T.get_set, T.get_e, binF_int, op_rem, op_quo_u32, op_xor_u32, op_neq, op_eql, op_lss, op_add_i64, op_sub_u32, op_and_u8, op_xor_u8, op_not_u32, binF_shr_u32, binF_shr_u8, op_mul_i64, op_quo_i64, op_and_u32, binF_shl_u8, wrapF_u8, wrapF_u32, mod_u8, mod_u32, cond_val, Nat.lt_irrefl, Nat.not_lt_zero, if_true, if_false, reduceIte, Nat.reduceEqDiff, Nat.reduceAdd, ne_eq, not_true_eq_false, not_false_eq_true, decide_true, decide_false, Bool.false_eq_true, Bool.not_true, Bool.not_false, sub_nil, sub_seq0, sub_seq1, sub_cond0, sub_cond1, sub_block, sub_loop, sub_scope, sub_range0, sub_range1, Option.getD_some, at_ptr, at_slc, runOps_yes, runOps_no, exec_draw, op_sub_i64, op_sub_neg, op_lss_neg, binF_str, str_add, str_neq, str_eql, takeF, resF, oneOf, pickF, extractF, cells_str, cells_int, cells_agg, bool_eql, bool_neq, op_lssI, bne_self_eq_false, beq_self_eq_true, eq_self, cells_slc, cells_func, builtin_append, ev_nilslice, ev_nilfunc, ev_nilptr, ev_nilmap, opF_makeFunc, opF_callv, callV_func, callV_yield, op_leq, op_gtr, op_geq, cast_le, cast_lt, List.nil_append, List.cons_append, List.append_nil, un_not]
      with_reducible rfl
    refine ⟨.inr rfl, _, [.bool true], rfl, ?_, rfl, by rw [next_alloc]; omega, fun y hy => get_alloc_ne (by omega)⟩
    simp only [Try.f11, resF, ev_tmp, T.get_set, Nat.reduceEqDiff, if_true, if_false, evG_some, R.ok_bind]
  exact ⟨A', ha, h1, h2⟩
theorem ActsR.same {P Q : Nat → Prop} {A A' : Mem} {ds : List ActD} {x : Value} (h : ActsR P A ds x) (hn : A.next ≤ A'.next) (hg : ∀ b, P b → b < A.next → Q b ∧ A'.get b = A.get b) : ActsR Q A' ds x := by
  obtain ⟨ls, b, h1, h2, h3, h4⟩ := h
  have hall : ∀ (i : Nat) (d : ActD) (l : List Value), ds[i]? = some d → ls[i]? = some l → ActR Q A' d l := fun i d l hd hl => (h4 i d l hd hl).same hn hg
  rcases SlcM.lt h2 with hx | hb
  · subst hx
    rcases h2 with h2 | ⟨k, c, h2, _⟩
    · exact ⟨ls, b, .inl rfl, .inl h2, h3, hall⟩
    · cases h2
  · rcases h1 with hx | hp
    · subst hx
      rcases h2 with h2 | ⟨k, c, h2, _⟩
      · exact ⟨ls, b, .inl rfl, .inl h2, h3, hall⟩
      · cases h2
    · exact ⟨ls, b, .inr (hg b hp hb).1, h2.same hn (fun _ => (hg b hp hb).2), h3, hall⟩

/-! ### The law -/
theorem ev_neg1 (t : T Value) : ev t (.const (.int .i64 (-1))) = .ok (.int .i64 (-1)) := rfl
theorem fa41_0' (b o : Nat) : fieldAddrF tb1 41 (.pointer (some ⟨b, o, none⟩)) 0 = .ok (.pointer (some ⟨b, o, none⟩)) := by kernel_rfl
theorem fa41_1' (b o : Nat) : fieldAddrF tb1 41 (.pointer (some ⟨b, o, none⟩)) 1 = .ok (.pointer (some ⟨b, o + 1, none⟩)) := by kernel_rfl
noncomputable def c3 : Code := Try.f3.body.getD .skip
noncomputable def c3b1 : Code := sub c3 [1,1,1,1,0,1,0,0]
noncomputable def c3b2 : Code := sub c3b1 [1,0,0,1,1,1,1,0,0]
theorem c3_eq : Try.f3.body = some (.seq (sub c3 [0]) (.seq (.seq (sub c3 [1,0,0]) (sub c3 [1,0,1])) (.seq (sub c3 [1,1,0]) (.seq (.seq (sub c3 [1,1,1,0,0]) (sub c3 [1,1,1,0,1])) (.seq (.seq (sub c3 [1,1,1,1,0,0]) (.block 0 (.loop c3b1))) (.seq (sub c3 [1,1,1,1,1,0]) (sub c3 [1,1,1,1,1,1]))))))) := by kernel_rfl
theorem c3b1_eq : c3b1 = (.seq (.seq (sub c3b1 [0,0]) (sub c3b1 [0,1])) (.seq (.block 1 (.seq (sub c3b1 [1,0,0,0]) (.seq (.seq (sub c3b1 [1,0,0,1,0,0]) (sub c3b1 [1,0,0,1,0,1])) (.seq (.seq (sub c3b1 [1,0,0,1,1,0,0]) (sub c3b1 [1,0,0,1,1,0,1])) (.seq (sub c3b1 [1,0,0,1,1,1,0]) (.block 2 (.loop c3b2))))))) (sub c3b1 [1,1]))) := by kernel_rfl
section
variable {d : ActD} {xs xo : Value} {b3 b6 i : Nat} {C : Mem} {t : T Value} {K : Ex → St → Prop}
def rightS (b3 b6 i : Nat) : List (Nat × Value) := [(3, .pointer (some ⟨b3, 0, none⟩)), (5, .int .i64 (i : Int)), (6, .pointer (some ⟨b6, 0, none⟩))]
set_option maxHeartbeats 8000000 in
set_option maxRecDepth 20000 in
theorem right_first {P : Nat → Prop} (hd : ActOk d) (hv : Vals C 39 b6 (.var 9) (cellsD d.kind d.word d.weight d.k d.n d.arm d.cut xs xo)) (hs : StR P C d.stays xs) (ho : OpsR P C d.opening xo) (hp : Sl t (rightS b3 b6 i))
    (hK : ∀ t' : T Value, Sl t' (rightS b3 b6 i) → t'.get 114 = some (.bool false) → K .nrm ⟨t', 168, [], C, none⟩) : W tb1 (sub c3b1 [1,0,0,1,0,0]) ⟨t, 168, [], C, none⟩ K := by
  obtain ⟨g3, g5, g6, -⟩ := hp
  have l0 : loadF tb1 C.get 3 (.pointer (some ⟨b6, 0, none⟩)) = .ok (.int .i64 (d.kind : Int)) := load_vals und3 rfl hv rfl
  have l1 : loadF tb1 C.get 9 (.pointer (some ⟨b6, 1, none⟩)) = .ok (strOf d.word) := load_vals und9 rfl hv rfl
  have l3 : loadF tb1 C.get 3 (.pointer (some ⟨b6, 3, none⟩)) = .ok (.int .i64 d.k) := load_vals und3 rfl hv rfl
  have l4 : loadF tb1 C.get 3 (.pointer (some ⟨b6, 4, none⟩)) = .ok (.int .i64 d.n) := load_vals und3 rfl hv rfl
  have l5 : loadF tb1 C.get 3 (.pointer (some ⟨b6, 5, none⟩)) = .ok (.int .i64 (d.arm : Int)) := load_vals und3 rfl hv rfl
  have l7 : loadF tb1 C.get 36 (.pointer (some ⟨b6, 7, none⟩)) = .ok xs := load_vals und36 rfl hv rfl
  have l8 : loadF tb1 C.get 37 (.pointer (some ⟨b6, 8, none⟩)) = .ok xo := load_vals und37 rfl hv rfl
  have hls := hs.len
  obtain ⟨ls, b, -, hx, hll, -⟩ := ho
  have hlo := hx.len (tb := tb1) (t := 37) und37
  rw [hll] at hlo
  have q1 : ¬ 9 < d.kind := by have := hd.kind; omega
  have q2 : ¬ 256 < d.arm := by have := hd.arm; omega
  have q3 : ¬ 256 < d.word.length := by have := hd.word; omega
  have q4 : ¬ 5 < d.stays.length := by have := hd.stays; omega
  have q5 : ¬ 3 < d.opening.length := by have := hd.opening; omega
  have q6 : ¬ d.k < -1 := by have := hd.k1; omega
  have q7 : ¬ ((4 : Nat) : Int) < d.k := by have := hd.k2; omega
  have q8 : ¬ d.n < -1 := by have := hd.n1; omega
  have q9 : ¬ ((10 : Nat) : Int) < d.n := by have := hd.n2; omega
  apply W.run 20
  · intro M
    simp (config := { maxSteps := 4000000 }) (disch := first | decide +kernel | (rw [wantF_guard]; simp only [wantD_some, dstAt_zero, dstAt_succ, T.get_set, T.get_e, Nat.reduceEqDiff, if_true, if_false, wantV_bool, wantV_unit, unitV, cond_true, cond_false, Bool.not_true, Bool.not_false, List.toList_toArray]) | omega) only [c3b1, c3, Try.f3, Nat.ble, cond_true, cond_false, T.puts_cons, T.puts_nil, exec_seq, exec_block, nat_beq_self, exec_region, exec_cond, exec_skip, exec_ret, exec_exit, exec_scope, runOps_cons, runOps_nil, opF_move, opF_assign, opF_ari, opF_neq, opF_eql, opF_un, opF_index, opF_indexAddr, opF_fieldAddr, opF_field, opF_build, opF_slice, opF_extract, opF_pick, opF_load, opF_alloc, opF_box, opF_buildSlice, opF_makeSlice, opF_store, opF_conv, opF_len, opF_minmax, opF_builtin, opF_call, resK, ev_tmp, evG_some, ev_int, ev_bool, ev_str, evs, evp, evo, R.ok_bind, putT_some, putT_none, T.get_set, T.get_e, binF_int, op_rem, op_quo_u32, op_xor_u32, op_neq, op_eql, op_lss, op_add_i64, op_sub_u32, op_and_u8, op_xor_u8, op_not_u32, binF_shr_u32, binF_shr_u8, op_mul_i64, op_quo_i64, op_and_u32, binF_shl_u8, wrapF_u8, wrapF_u32, mod_u8, mod_u32, cond_val, Nat.lt_irrefl, Nat.not_lt_zero, if_true, if_false, reduceIte, Nat.reduceEqDiff, Nat.reduceAdd, ne_eq, not_true_eq_false, not_false_eq_true, decide_true, decide_false, Bool.false_eq_true, Bool.not_true, Bool.not_false, sub_nil, sub_seq0, sub_seq1, sub_cond0, sub_cond1, sub_block, sub_loop, sub_scope, sub_range0, sub_range1, Option.getD_some, at_ptr, at_slc, runOps_yes, runOps_no, exec_draw, op_sub_i64, op_sub_neg, op_lss_neg, binF_str, str_add, str_neq, str_eql, takeF, resF, oneOf, pickF, extractF, cells_str, cells_int, cells_agg, bool_eql, bool_neq, op_lssI, bne_self_eq_false, beq_self_eq_true, eq_self, cells_slc, cells_func, builtin_append, ev_nilslice, ev_nilfunc, ev_nilptr, ev_nilmap, opF_makeFunc, opF_callv, callV_func, callV_yield, op_leq, op_gtr, op_geq, cast_le, cast_lt, List.nil_append, List.cons_append, List.append_nil, un_not, g6, fa39_0, fa39_1, fa39_3, fa39_4, fa35_0, fa35_1, fa35_3, fa35_4, l0, l1, l3, l4, l5, l7, l8, hls, hlo, len_str und9, ev_neg1, q1, q2, q3, q4, q5, q6, q7, q8, q9]
    with_reducible rfl
  apply hK
  · unfold rightS; simp only [Sl_cons, Sl_nil, T.get_set, T.puts_cons, T.puts_nil, Nat.reduceEqDiff, Nat.reduceAdd, if_true, if_false, and_true, true_and, g3, g5, g6]
  · simp only [T.get_set, Nat.reduceEqDiff, if_true, if_false]
set_option maxHeartbeats 8000000 in
set_option maxRecDepth 20000 in
theorem right_second {P : Nat → Prop} (hd : ActOk d) (hv : Vals C 39 b6 (.var 9) (cellsD d.kind d.word d.weight d.k d.n d.arm d.cut xs xo)) (hs : StR P C d.stays xs) (ho : OpsR P C d.opening xo) (hp : Sl t (rightS b3 b6 i))
    (hK : ∀ t' : T Value, Sl t' (rightS b3 b6 i) → t'.get 134 = some (.bool false) → K .nrm ⟨t', 168, [], C, none⟩) : W tb1 (sub c3b1 [1,0,0,1,1,0,0]) ⟨t, 168, [], C, none⟩ K := by
  obtain ⟨g3, g5, g6, -⟩ := hp
  have l5 : loadF tb1 C.get 3 (.pointer (some ⟨b6, 5, none⟩)) = .ok (.int .i64 (d.arm : Int)) := load_vals und3 rfl hv rfl
  have l6 : loadF tb1 C.get 4 (.pointer (some ⟨b6, 6, none⟩)) = .ok (.bool d.cut) := load_vals und4 rfl hv rfl
  have l7 : loadF tb1 C.get 36 (.pointer (some ⟨b6, 7, none⟩)) = .ok xs := load_vals und36 rfl hv rfl
  have l8 : loadF tb1 C.get 37 (.pointer (some ⟨b6, 8, none⟩)) = .ok xo := load_vals und37 rfl hv rfl
  have hls := hs.len
  obtain ⟨ls, b, -, hx, hll, -⟩ := ho
  have hlo := hx.len (tb := tb1) (t := 37) und37
  rw [hll] at hlo
  have hnone := hd.none
  cases hc : d.cut with
  | true =>
    rw [hc] at l6
    apply W.run 20
    · intro M
      simp (config := { maxSteps := 4000000 }) (disch := first | decide +kernel | (rw [wantF_guard]; simp only [wantD_some, dstAt_zero, dstAt_succ, T.get_set, T.get_e, Nat.reduceEqDiff, if_true, if_false, wantV_bool, wantV_unit, unitV, cond_true, cond_false, Bool.not_true, Bool.not_false, List.toList_toArray]) | omega) only [c3b1, c3, Try.f3, Nat.ble, cond_true, cond_false, T.puts_cons, T.puts_nil, exec_seq, exec_block, nat_beq_self, exec_region, exec_cond, exec_skip, exec_ret, exec_exit, exec_scope, runOps_cons, runOps_nil, opF_move, opF_assign, opF_ari, opF_neq, opF_eql, opF_un, opF_index, opF_indexAddr, opF_fieldAddr, opF_field, opF_build, opF_slice, opF_extract, opF_pick, opF_load, opF_alloc, opF_box, opF_buildSlice, opF_makeSlice, opF_store, opF_conv, opF_len, opF_minmax, opF_builtin, opF_call, resK, ev_tmp, evG_some, ev_int, ev_bool, ev_str, evs, evp, evo, R.ok_bind, putT_some, putT_none, T.get_set, T.get_e, binF_int, op_rem, op_quo_u32, op_xor_u32, op_neq, op_eql, op_lss, op_add_i64, op_sub_u32, op_and_u8, op_xor_u8, op_not_u32, binF_shr_u32, binF_shr_u8, op_mul_i64, op_quo_i64, op_and_u32, binF_shl_u8, wrapF_u8, wrapF_u32, mod_u8, mod_u32, cond_val, Nat.lt_irrefl, Nat.not_lt_zero, if_true, if_false, reduceIte, Nat.reduceEqDiff, Nat.reduceAdd, ne_eq, not_true_eq_false, not_false_eq_true, decide_true, decide_false, Bool.false_eq_true, Bool.not_true, Bool.not_false, sub_nil, sub_seq0, sub_seq1, sub_cond0, sub_cond1, sub_block, sub_loop, sub_scope, sub_range0, sub_range1, Option.getD_some, at_ptr, at_slc, runOps_yes, runOps_no, exec_draw, op_sub_i64, op_sub_neg, op_lss_neg, binF_str, str_add, str_neq, str_eql, takeF, resF, oneOf, pickF, extractF, cells_str, cells_int, cells_agg, bool_eql, bool_neq, op_lssI, bne_self_eq_false, beq_self_eq_true, eq_self, cells_slc, cells_func, builtin_append, ev_nilslice, ev_nilfunc, ev_nilptr, ev_nilmap, opF_makeFunc, opF_callv, callV_func, callV_yield, op_leq, op_gtr, op_geq, cast_le, cast_lt, List.nil_append, List.cons_append, List.append_nil, un_not, g6, fa39_2, l6]
      with_reducible rfl
    apply hK
    · unfold rightS; simp only [Sl_cons, Sl_nil, T.get_set, T.puts_cons, T.puts_nil, Nat.reduceEqDiff, Nat.reduceAdd, if_true, if_false, and_true, true_and, g3, g5, g6]
    · simp only [T.get_set, Nat.reduceEqDiff, if_true, if_false]
  | false =>
    rw [hc] at l6
    by_cases ha : d.arm = 0
    · obtain ⟨e1, e2⟩ := hnone hc ha
      rw [e1] at hls
      rw [e2] at hlo
      apply W.run 20
      · intro M
        simp (config := { maxSteps := 4000000 }) (disch := first | decide +kernel | (rw [wantF_guard]; simp only [wantD_some, dstAt_zero, dstAt_succ, T.get_set, T.get_e, Nat.reduceEqDiff, if_true, if_false, wantV_bool, wantV_unit, unitV, cond_true, cond_false, Bool.not_true, Bool.not_false, List.toList_toArray]) | omega) only [c3b1, c3, Try.f3, Nat.ble, cond_true, cond_false, T.puts_cons, T.puts_nil, exec_seq, exec_block, nat_beq_self, exec_region, exec_cond, exec_skip, exec_ret, exec_exit, exec_scope, runOps_cons, runOps_nil, opF_move, opF_assign, opF_ari, opF_neq, opF_eql, opF_un, opF_index, opF_indexAddr, opF_fieldAddr, opF_field, opF_build, opF_slice, opF_extract, opF_pick, opF_load, opF_alloc, opF_box, opF_buildSlice, opF_makeSlice, opF_store, opF_conv, opF_len, opF_minmax, opF_builtin, opF_call, resK, ev_tmp, evG_some, ev_int, ev_bool, ev_str, evs, evp, evo, R.ok_bind, putT_some, putT_none, T.get_set, T.get_e, binF_int, op_rem, op_quo_u32, op_xor_u32, op_neq, op_eql, op_lss, op_add_i64, op_sub_u32, op_and_u8, op_xor_u8, op_not_u32, binF_shr_u32, binF_shr_u8, op_mul_i64, op_quo_i64, op_and_u32, binF_shl_u8, wrapF_u8, wrapF_u32, mod_u8, mod_u32, cond_val, Nat.lt_irrefl, Nat.not_lt_zero, if_true, if_false, reduceIte, Nat.reduceEqDiff, Nat.reduceAdd, ne_eq, not_true_eq_false, not_false_eq_true, decide_true, decide_false, Bool.false_eq_true, Bool.not_true, Bool.not_false, sub_nil, sub_seq0, sub_seq1, sub_cond0, sub_cond1, sub_block, sub_loop, sub_scope, sub_range0, sub_range1, Option.getD_some, at_ptr, at_slc, runOps_yes, runOps_no, exec_draw, op_sub_i64, op_sub_neg, op_lss_neg, binF_str, str_add, str_neq, str_eql, takeF, resF, oneOf, pickF, extractF, cells_str, cells_int, cells_agg, bool_eql, bool_neq, op_lssI, bne_self_eq_false, beq_self_eq_true, eq_self, cells_slc, cells_func, builtin_append, ev_nilslice, ev_nilfunc, ev_nilptr, ev_nilmap, opF_makeFunc, opF_callv, callV_func, callV_yield, op_leq, op_gtr, op_geq, cast_le, cast_lt, List.nil_append, List.cons_append, List.append_nil, un_not, g6, fa39_1, fa39_2, fa39_3, fa39_4, l5, l6, l7, l8, hls, hlo, ha]
        with_reducible rfl
      apply hK
      · unfold rightS; simp only [Sl_cons, Sl_nil, T.get_set, T.puts_cons, T.puts_nil, Nat.reduceEqDiff, Nat.reduceAdd, if_true, if_false, and_true, true_and, g3, g5, g6]
      · simp only [T.get_set, Nat.reduceEqDiff, if_true, if_false]
    · apply W.run 20
      · intro M
        simp (config := { maxSteps := 4000000 }) (disch := first | decide +kernel | (rw [wantF_guard]; simp only [wantD_some, dstAt_zero, dstAt_succ, T.get_set, T.get_e, Nat.reduceEqDiff, if_true, if_false, wantV_bool, wantV_unit, unitV, cond_true, cond_false, Bool.not_true, Bool.not_false, List.toList_toArray]) | omega) only [c3b1, c3, Try.f3, Nat.ble, cond_true, cond_false, T.puts_cons, T.puts_nil, exec_seq, exec_block, nat_beq_self, exec_region, exec_cond, exec_skip, exec_ret, exec_exit, exec_scope, runOps_cons, runOps_nil, opF_move, opF_assign, opF_ari, opF_neq, opF_eql, opF_un, opF_index, opF_indexAddr, opF_fieldAddr, opF_field, opF_build, opF_slice, opF_extract, opF_pick, opF_load, opF_alloc, opF_box, opF_buildSlice, opF_makeSlice, opF_store, opF_conv, opF_len, opF_minmax, opF_builtin, opF_call, resK, ev_tmp, evG_some, ev_int, ev_bool, ev_str, evs, evp, evo, R.ok_bind, putT_some, putT_none, T.get_set, T.get_e, binF_int, op_rem, op_quo_u32, op_xor_u32, op_neq, op_eql, op_lss, op_add_i64, op_sub_u32, op_and_u8, op_xor_u8, op_not_u32, binF_shr_u32, binF_shr_u8, op_mul_i64, op_quo_i64, op_and_u32, binF_shl_u8, wrapF_u8, wrapF_u32, mod_u8, mod_u32, cond_val, Nat.lt_irrefl, Nat.not_lt_zero, if_true, if_false, reduceIte, Nat.reduceEqDiff, Nat.reduceAdd, ne_eq, not_true_eq_false, not_false_eq_true, decide_true, decide_false, Bool.false_eq_true, Bool.not_true, Bool.not_false, sub_nil, sub_seq0, sub_seq1, sub_cond0, sub_cond1, sub_block, sub_loop, sub_scope, sub_range0, sub_range1, Option.getD_some, at_ptr, at_slc, runOps_yes, runOps_no, exec_draw, op_sub_i64, op_sub_neg, op_lss_neg, binF_str, str_add, str_neq, str_eql, takeF, resF, oneOf, pickF, extractF, cells_str, cells_int, cells_agg, bool_eql, bool_neq, op_lssI, bne_self_eq_false, beq_self_eq_true, eq_self, cells_slc, cells_func, builtin_append, ev_nilslice, ev_nilfunc, ev_nilptr, ev_nilmap, opF_makeFunc, opF_callv, callV_func, callV_yield, op_leq, op_gtr, op_geq, cast_le, cast_lt, List.nil_append, List.cons_append, List.append_nil, un_not, g6, fa39_1, fa39_2, l5, l6, ha]
        with_reducible rfl
      apply hK
      · unfold rightS; simp only [Sl_cons, Sl_nil, T.get_set, T.puts_cons, T.puts_nil, Nat.reduceEqDiff, Nat.reduceAdd, if_true, if_false, and_true, true_and, g3, g5, g6]
      · simp only [T.get_set, Nat.reduceEqDiff, if_true, if_false]
set_option maxHeartbeats 8000000 in
set_option maxRecDepth 20000 in
theorem right_opens {P : Nat → Prop} (hd : ActOk d) (hv : Vals C 39 b6 (.var 9) (cellsD d.kind d.word d.weight d.k d.n d.arm d.cut xs xo)) (ho : OpsR P C d.opening xo) (hp : Sl t (rightS b3 b6 i)) (g7 : t.get 7 = some (.int .i64 ((0 : Nat) : Int)))
    (hK : ∀ t' : T Value, Sl t' (rightS b3 b6 i) → K (.exit 2) ⟨t', 168, [], C, none⟩) : W tb1 (.loop c3b2) ⟨t, 168, [], C, none⟩ K := by
  have l8 : loadF tb1 C.get 37 (.pointer (some ⟨b6, 8, none⟩)) = .ok xo := load_vals und37 rfl hv rfl
  obtain ⟨ls, b, -, hx, hll, hall⟩ := ho
  have hlo := hx.len (tb := tb1) (t := 37) und37
  rw [hll] at hlo
  refine W.up d.opening.length (fun k t D => D = C ∧ Sl t (rightS b3 b6 i) ∧ t.get 7 = some (.int .i64 (k : Int))) ?_ (Nat.zero_le _) ⟨rfl, hp, g7⟩
  rintro k t D hk ⟨rfl, ⟨g3, g5, g6, -⟩, g7⟩
  by_cases hlt : k < d.opening.length
  · have hko := hd.opening
    obtain ⟨xs', hle, hsr⟩ := hall k d.opening[k] ls[k] (List.getElem?_eq_getElem hlt) (List.getElem?_eq_getElem (by omega))
    obtain ⟨e1, e2, e3⟩ := hd.each d.opening[k] (List.getElem_mem ..)
    have hlk : ls[k]? = some [.int .i64 ((d.opening[k].1 : Nat) : Int), xs'] := by rw [← hle]; exact List.getElem?_eq_getElem (by omega)
    generalize d.opening[k] = op at hsr e1 e2 e3 hlk
    have hix := hx.idx (tb := tb1) (t := 37) (t' := 41) (kd := .i64) (i := k) und37 size41 (by omega)
    have la : loadF tb1 D.get 3 (.pointer (some ⟨b, k * 2, none⟩)) = .ok (.int .i64 ((op.1 : Nat) : Int)) := hx.load (i := k) (j := 0) und3 rfl hlk rfl (by omega)
    have lb : loadF tb1 D.get 36 (.pointer (some ⟨b, k * 2 + 1, none⟩)) = .ok xs' := hx.load (i := k) (j := 1) und36 rfl hlk rfl (by omega)
    have hls := hsr.len
    have n1 : ¬ op.1 < 1 := by omega
    have n2 : ¬ 256 < op.1 := by omega
    have n3 : ¬ 3 < op.2.length := by omega
    apply W.run 20
    · intro M
      simp (config := { maxSteps := 4000000 }) (disch := first | decide +kernel | (rw [wantF_guard]; simp only [wantD_some, dstAt_zero, dstAt_succ, T.get_set, T.get_e, Nat.reduceEqDiff, if_true, if_false, wantV_bool, wantV_unit, unitV, cond_true, cond_false, Bool.not_true, Bool.not_false, List.toList_toArray]) | omega) only [c3b2, c3b1, c3, Try.f3, Nat.ble, cond_true, cond_false, T.puts_cons, T.puts_nil, exec_seq, exec_block, nat_beq_self, exec_region, exec_cond, exec_skip, exec_ret, exec_exit, exec_scope, runOps_cons, runOps_nil, opF_move, opF_assign, opF_ari, opF_neq, opF_eql, opF_un, opF_index, opF_indexAddr, opF_fieldAddr, opF_field, opF_build, opF_slice, opF_extract, opF_pick, opF_load, opF_alloc, opF_box, opF_buildSlice, opF_makeSlice, opF_store, opF_conv, opF_len, opF_minmax, opF_builtin, opF_call, resK, ev_tmp, evG_some, ev_int, ev_bool, ev_str, evs, evp, evo, R.ok_bind, putT_some, putT_none, T.get_set, T.get_e, binF_int, op_rem, op_quo_u32, op_xor_u32, op_neq, op_eql, op_lss, op_add_i64, op_sub_u32, op_and_u8, op_xor_u8, op_not_u32, binF_shr_u32, binF_shr_u8, op_mul_i64, op_quo_i64, op_and_u32, binF_shl_u8, wrapF_u8, wrapF_u32, mod_u8, mod_u32, cond_val, Nat.lt_irrefl, Nat.not_lt_zero, if_true, if_false, reduceIte, Nat.reduceEqDiff, Nat.reduceAdd, ne_eq, not_true_eq_false, not_false_eq_true, decide_true, decide_false, Bool.false_eq_true, Bool.not_true, Bool.not_false, sub_nil, sub_seq0, sub_seq1, sub_cond0, sub_cond1, sub_block, sub_loop, sub_scope, sub_range0, sub_range1, Option.getD_some, at_ptr, at_slc, runOps_yes, runOps_no, exec_draw, op_sub_i64, op_sub_neg, op_lss_neg, binF_str, str_add, str_neq, str_eql, takeF, resF, oneOf, pickF, extractF, cells_str, cells_int, cells_agg, bool_eql, bool_neq, op_lssI, bne_self_eq_false, beq_self_eq_true, eq_self, cells_slc, cells_func, builtin_append, ev_nilslice, ev_nilfunc, ev_nilptr, ev_nilmap, opF_makeFunc, opF_callv, callV_func, callV_yield, op_leq, op_gtr, op_geq, cast_le, cast_lt, List.nil_append, List.cons_append, List.append_nil, un_not, g6, g7, fa39_4, l8, hlo, hlt, hix, fa41_0', fa41_1', la, lb, hls, n1, n2, n3]
      with_reducible rfl
    refine ⟨hlt, _, _, rfl, rfl, ?_, ?_⟩
    · unfold rightS; simp only [Sl_cons, Sl_nil, T.get_set, T.puts_cons, T.puts_nil, Nat.reduceEqDiff, Nat.reduceAdd, if_true, if_false, and_true, true_and, g3, g5, g6]
    · simp only [T.get_set, Nat.reduceEqDiff, if_true, if_false]
  · have hko : k = d.opening.length := by omega
    subst hko
    apply W.run 20
    · intro M
      simp (config := { maxSteps := 4000000 }) (disch := first | decide +kernel | (rw [wantF_guard]; simp only [wantD_some, dstAt_zero, dstAt_succ, T.get_set, T.get_e, Nat.reduceEqDiff, if_true, if_false, wantV_bool, wantV_unit, unitV, cond_true, cond_false, Bool.not_true, Bool.not_false, List.toList_toArray]) | omega) only [c3b2, c3b1, c3, Try.f3, Nat.ble, cond_true, cond_false, T.puts_cons, T.puts_nil, exec_seq, exec_block, nat_beq_self, exec_region, exec_cond, exec_skip, exec_ret, exec_exit, exec_scope, runOps_cons, runOps_nil, opF_move, opF_assign, opF_ari, opF_neq, opF_eql, opF_un, opF_index, opF_indexAddr, opF_fieldAddr, opF_field, opF_build, opF_slice, opF_extract, opF_pick, opF_load, opF_alloc, opF_box, opF_buildSlice, opF_makeSlice, opF_store, opF_conv, opF_len, opF_minmax, opF_builtin, opF_call, resK, ev_tmp, evG_some, ev_int, ev_bool, ev_str, evs, evp, evo, R.ok_bind, putT_some, putT_none, T.get_set, T.get_e, binF_int, op_rem, op_quo_u32, op_xor_u32, op_neq, op_eql, op_lss, op_add_i64, op_sub_u32, op_and_u8, op_xor_u8, op_not_u32, binF_shr_u32, binF_shr_u8, op_mul_i64, op_quo_i64, op_and_u32, binF_shl_u8, wrapF_u8, wrapF_u32, mod_u8, mod_u32, cond_val, Nat.lt_irrefl, Nat.not_lt_zero, if_true, if_false, reduceIte, Nat.reduceEqDiff, Nat.reduceAdd, ne_eq, not_true_eq_false, not_false_eq_true, decide_true, decide_false, Bool.false_eq_true, Bool.not_true, Bool.not_false, sub_nil, sub_seq0, sub_seq1, sub_cond0, sub_cond1, sub_block, sub_loop, sub_scope, sub_range0, sub_range1, Option.getD_some, at_ptr, at_slc, runOps_yes, runOps_no, exec_draw, op_sub_i64, op_sub_neg, op_lss_neg, binF_str, str_add, str_neq, str_eql, takeF, resF, oneOf, pickF, extractF, cells_str, cells_int, cells_agg, bool_eql, bool_neq, op_lssI, bne_self_eq_false, beq_self_eq_true, eq_self, cells_slc, cells_func, builtin_append, ev_nilslice, ev_nilfunc, ev_nilptr, ev_nilmap, opF_makeFunc, opF_callv, callV_func, callV_yield, op_leq, op_gtr, op_geq, cast_le, cast_lt, List.nil_append, List.cons_append, List.append_nil, un_not, g6, g7, fa39_4, l8, hlo]
      with_reducible rfl
    apply hK
    unfold rightS; simp only [Sl_cons, Sl_nil, T.get_set, T.puts_cons, T.puts_nil, Nat.reduceEqDiff, Nat.reduceAdd, if_true, if_false, and_true, true_and, g3, g5, g6]
end

set_option maxHeartbeats 8000000 in
set_option maxRecDepth 20000 in
theorem run_scriptRight (l0 : List UInt8) {A : Mem} {x : Value} (hA : 0 < A.next) (hp : RdS A l0 x) : ∃ A', CallsTo tb1 3 [x] A (.bool true) A' := by
  obtain ⟨v, A', h1, h2⟩ : ∃ v A', CallsTo tb1 3 [x] A v A' ∧ v = .bool true := by
    refine call_of_W (fn_at Try.func3) c3_eq (by rw [Try.ntmps3]; simp) ?_
    apply W.seq
    apply W.run 20
    · intro M
      simp (config := { maxSteps := 4000000 }) (disch := first | decide +kernel | (rw [wantF_guard]; simp only [wantD_some, dstAt_zero, dstAt_succ, T.get_set, T.get_e, Nat.reduceEqDiff, if_true, if_false, wantV_bool, wantV_unit, unitV, cond_true, cond_false, Bool.not_true, Bool.not_false, List.toList_toArray]) | omega) only [c3, Try.f3, Nat.ble, cond_true, cond_false, T.puts_cons, T.puts_nil, exec_seq, exec_block, nat_beq_self, exec_region, exec_cond, exec_skip, exec_ret, exec_exit, exec_scope, runOps_cons, runOps_nil, opF_move, opF_assign, opF_ari, opF_neq, opF_eql, opF_un, opF_index, opF_indexAddr, opF_fieldAddr, opF_field, opF_build, opF_slice, opF_extract, opF_pick, opF_load, opF_alloc, opF_box, opF_buildSlice, opF_makeSlice, opF_store, opF_conv, opF_len, opF_minmax, opF_builtin, opF_call, resK, ev_tmp, evG_some, ev_int, ev_bool, ev_str, evs, evp, evo, R.ok_bind, putT_some, putT_none, T.get_set, T.get_e, binF_int, op_rem, op_quo_u32, op_xor_u32, op_neq, op_eql, op_lss, op_add_i64, op_sub_u32, op_and_u8, op_xor_u8, op_not_u32, binF_shr_u32, binF_shr_u8, op_mul_i64, op_quo_i64, op_and_u32, binF_shl_u8, wrapF_u8, wrapF_u32, mod_u8, mod_u32, cond_val, Nat.lt_irrefl, Nat.not_lt_zero, if_true, if_false, reduceIte, Nat.reduceEqDiff, Nat.reduceAdd, ne_eq, not_true_eq_false, not_false_eq_true, decide_true, decide_false, Bool.false_eq_true, Bool.not_true, Bool.not_false, sub_nil, sub_seq0, sub_seq1, sub_cond0, sub_cond1, sub_block, sub_loop, sub_scope, sub_range0, sub_range1, Option.getD_some, at_ptr, at_slc, runOps_yes, runOps_no, exec_draw, op_sub_i64, op_sub_neg, op_lss_neg, binF_str, str_add, str_neq, str_eql, takeF, resF, oneOf, pickF, extractF, cells_str, cells_int, cells_agg, bool_eql, bool_neq, op_lssI, bne_self_eq_false, beq_self_eq_true, eq_self, cells_slc, cells_func, builtin_append, ev_nilslice, ev_nilfunc, ev_nilptr, ev_nilmap, opF_makeFunc, opF_callv, callV_func, callV_yield, op_leq, op_gtr, op_geq, cast_le, cast_lt, List.nil_append, List.cons_append, List.append_nil, un_not]
      with_reducible rfl
    apply W.seq
    apply W.seq
    apply W.run 20
    · intro M
      simp (config := { maxSteps := 4000000 }) (disch := first | decide +kernel | (rw [wantF_guard]; simp only [wantD_some, dstAt_zero, dstAt_succ, T.get_set, T.get_e, Nat.reduceEqDiff, if_true, if_false, wantV_bool, wantV_unit, unitV, cond_true, cond_false, Bool.not_true, Bool.not_false, List.toList_toArray]) | omega) only [c3, Try.f3, Nat.ble, cond_true, cond_false, T.puts_cons, T.puts_nil, exec_seq, exec_block, nat_beq_self, exec_region, exec_cond, exec_skip, exec_ret, exec_exit, exec_scope, runOps_cons, runOps_nil, opF_move, opF_assign, opF_ari, opF_neq, opF_eql, opF_un, opF_index, opF_indexAddr, opF_fieldAddr, opF_field, opF_build, opF_slice, opF_extract, opF_pick, opF_load, opF_alloc, opF_box, opF_buildSlice, opF_makeSlice, opF_store, opF_conv, opF_len, opF_minmax, opF_builtin, opF_call, resK, ev_tmp, evG_some, ev_int, ev_bool, ev_str, evs, evp, evo, R.ok_bind, putT_some, putT_none, T.get_set, T.get_e, binF_int, op_rem, op_quo_u32, op_xor_u32, op_neq, op_eql, op_lss, op_add_i64, op_sub_u32, op_and_u8, op_xor_u8, op_not_u32, binF_shr_u32, binF_shr_u8, op_mul_i64, op_quo_i64, op_and_u32, binF_shl_u8, wrapF_u8, wrapF_u32, mod_u8, mod_u32, cond_val, Nat.lt_irrefl, Nat.not_lt_zero, if_true, if_false, reduceIte, Nat.reduceEqDiff, Nat.reduceAdd, ne_eq, not_true_eq_false, not_false_eq_true, decide_true, decide_false, Bool.false_eq_true, Bool.not_true, Bool.not_false, sub_nil, sub_seq0, sub_seq1, sub_cond0, sub_cond1, sub_block, sub_loop, sub_scope, sub_range0, sub_range1, Option.getD_some, at_ptr, at_slc, runOps_yes, runOps_no, exec_draw, op_sub_i64, op_sub_neg, op_lss_neg, binF_str, str_add, str_neq, str_eql, takeF, resF, oneOf, pickF, extractF, cells_str, cells_int, cells_agg, bool_eql, bool_neq, op_lssI, bne_self_eq_false, beq_self_eq_true, eq_self, cells_slc, cells_func, builtin_append, ev_nilslice, ev_nilfunc, ev_nilptr, ev_nilmap, opF_makeFunc, opF_callv, callV_func, callV_yield, op_leq, op_gtr, op_geq, cast_le, cast_lt, List.nil_append, List.cons_append, List.append_nil, un_not, k8]
      with_reducible rfl
    apply W.run 20
    · intro M
      simp (config := { maxSteps := 4000000 }) (disch := first | decide +kernel | (rw [wantF_guard]; simp only [wantD_some, dstAt_zero, dstAt_succ, T.get_set, T.get_e, Nat.reduceEqDiff, if_true, if_false, wantV_bool, wantV_unit, unitV, cond_true, cond_false, Bool.not_true, Bool.not_false, List.toList_toArray]) | omega) only [c3, Try.f3, Nat.ble, cond_true, cond_false, T.puts_cons, T.puts_nil, exec_seq, exec_block, nat_beq_self, exec_region, exec_cond, exec_skip, exec_ret, exec_exit, exec_scope, runOps_cons, runOps_nil, opF_move, opF_assign, opF_ari, opF_neq, opF_eql, opF_un, opF_index, opF_indexAddr, opF_fieldAddr, opF_field, opF_build, opF_slice, opF_extract, opF_pick, opF_load, opF_alloc, opF_box, opF_buildSlice, opF_makeSlice, opF_store, opF_conv, opF_len, opF_minmax, opF_builtin, opF_call, resK, ev_tmp, evG_some, ev_int, ev_bool, ev_str, evs, evp, evo, R.ok_bind, putT_some, putT_none, T.get_set, T.get_e, binF_int, op_rem, op_quo_u32, op_xor_u32, op_neq, op_eql, op_lss, op_add_i64, op_sub_u32, op_and_u8, op_xor_u8, op_not_u32, binF_shr_u32, binF_shr_u8, op_mul_i64, op_quo_i64, op_and_u32, binF_shl_u8, wrapF_u8, wrapF_u32, mod_u8, mod_u32, cond_val, Nat.lt_irrefl, Nat.not_lt_zero, if_true, if_false, reduceIte, Nat.reduceEqDiff, Nat.reduceAdd, ne_eq, not_true_eq_false, not_false_eq_true, decide_true, decide_false, Bool.false_eq_true, Bool.not_true, Bool.not_false, sub_nil, sub_seq0, sub_seq1, sub_cond0, sub_cond1, sub_block, sub_loop, sub_scope, sub_range0, sub_range1, Option.getD_some, at_ptr, at_slc, runOps_yes, runOps_no, exec_draw, op_sub_i64, op_sub_neg, op_lss_neg, binF_str, str_add, str_neq, str_eql, takeF, resF, oneOf, pickF, extractF, cells_str, cells_int, cells_agg, bool_eql, bool_neq, op_lssI, bne_self_eq_false, beq_self_eq_true, eq_self, cells_slc, cells_func, builtin_append, ev_nilslice, ev_nilfunc, ev_nilptr, ev_nilmap, opF_makeFunc, opF_callv, callV_func, callV_yield, op_leq, op_gtr, op_geq, cast_le, cast_lt, List.nil_append, List.cons_append, List.append_nil, un_not]
      with_reducible rfl
    obtain ⟨x', ⟨gf, hgf⟩, hr⟩ := run_few (n := 800) hp
    have hl8 : (l0.take (min l0.length 800)).length ≤ 800 := by rw [List.length_take]; omega
    revert hr hl8
    generalize l0.take (min l0.length 800) = rem
    intro hr hl8
    obtain ⟨B, xa, lo, ⟨gp, hgp⟩, hacts, hlo, hnB, hfB⟩ := run_parse hA hr (by omega)
    have b0 := nx_lt rem
    have b1 := nx_lt rem.tail
    have b2 := nx_lt rem.tail.tail
    have b3 := nx_lt rem.tail.tail.tail
    have hok := actsD_ok 60 (restD rem)
    have hlen60 := actsD_len 60 (restD rem)
    have hnn : rem.length - (actsD 60 (restD rem)).2.length ≤ 800 := by omega
    generalize hw : 1 + nx rem = w at hgp
    generalize hf : 2 + nx rem.tail % 8 = f at hgp
    generalize hq : nx rem.tail.tail + 256 * nx rem.tail.tail.tail = q at hgp
    generalize rem.length - (actsD 60 (restD rem)).2.length = n at hgp hnn
    generalize (actsD 60 (restD rem)).1 = ds at hacts hok hlen60
    have hacts' : ActsR (fun _ => True) B ds xa := hacts.same (Nat.le_refl _) (fun _ _ _ => ⟨trivial, rfl⟩)
    have hxc : xa.cells.toList = [xa] ∧ oneCell xa = true := by
      obtain ⟨ls, b, _, h, _⟩ := hacts
      exact ⟨(SlcM.cells h).1, (SlcM.cells h).2.1⟩
    have hv0 : Vals (B.alloc (rowOb 28 [.int .i64 0, .int .i64 0, .int .i64 0, .slice none 0 0])) 28 B.next (.var 4) [.int .i64 0, .int .i64 0, .int .i64 0, .slice none 0 0] := Go.Am.vals_new B 28 _
    obtain ⟨C, hst, hvC, hnC, hfC⟩ := store_all (tb := tb1) (t := 28) (l' := headC w f q xa) (by rw [size28]; rfl) hv0 rfl (by simp) (fun v hv => by
      simp only [headC, List.mem_cons, List.not_mem_nil, or_false] at hv
      rcases hv with rfl | rfl | rfl | rfl <;> first | rfl | exact hxc.2)
    have hnB1 : (B.alloc (rowOb 28 [.int .i64 0, .int .i64 0, .int .i64 0, .slice none 0 0])).next = B.next + 1 := next_alloc _ _
    apply W.seq
    apply W.runG ((gf+gp)) 20
    · intro M hM
      simp (config := { maxSteps := 4000000 }) (disch := first | decide +kernel | (rw [wantF_guard]; simp only [wantD_some, dstAt_zero, dstAt_succ, T.get_set, T.get_e, Nat.reduceEqDiff, if_true, if_false, wantV_bool, wantV_unit, unitV, cond_true, cond_false, Bool.not_true, Bool.not_false, List.toList_toArray]) | omega) only [c3, Try.f3, Nat.ble, cond_true, cond_false, T.puts_cons, T.puts_nil, exec_seq, exec_block, nat_beq_self, exec_region, exec_cond, exec_skip, exec_ret, exec_exit, exec_scope, runOps_cons, runOps_nil, opF_move, opF_assign, opF_ari, opF_neq, opF_eql, opF_un, opF_index, opF_indexAddr, opF_fieldAddr, opF_field, opF_build, opF_slice, opF_extract, opF_pick, opF_load, opF_alloc, opF_box, opF_buildSlice, opF_makeSlice, opF_store, opF_conv, opF_len, opF_minmax, opF_builtin, opF_call, resK, ev_tmp, evG_some, ev_int, ev_bool, ev_str, evs, evp, evo, R.ok_bind, putT_some, putT_none, T.get_set, T.get_e, binF_int, op_rem, op_quo_u32, op_xor_u32, op_neq, op_eql, op_lss, op_add_i64, op_sub_u32, op_and_u8, op_xor_u8, op_not_u32, binF_shr_u32, binF_shr_u8, op_mul_i64, op_quo_i64, op_and_u32, binF_shl_u8, wrapF_u8, wrapF_u32, mod_u8, mod_u32, cond_val, Nat.lt_irrefl, Nat.not_lt_zero, if_true, if_false, reduceIte, Nat.reduceEqDiff, Nat.reduceAdd, ne_eq, not_true_eq_false, not_false_eq_true, decide_true, decide_false, Bool.false_eq_true, Bool.not_true, Bool.not_false, sub_nil, sub_seq0, sub_seq1, sub_cond0, sub_cond1, sub_block, sub_loop, sub_scope, sub_range0, sub_range1, Option.getD_some, at_ptr, at_slc, runOps_yes, runOps_no, exec_draw, op_sub_i64, op_sub_neg, op_lss_neg, binF_str, str_add, str_neq, str_eql, takeF, resF, oneOf, pickF, extractF, cells_str, cells_int, cells_agg, bool_eql, bool_neq, op_lssI, bne_self_eq_false, beq_self_eq_true, eq_self, cells_slc, cells_func, builtin_append, ev_nilslice, ev_nilfunc, ev_nilptr, ev_nilmap, opF_makeFunc, opF_callv, callV_func, callV_yield, op_leq, op_gtr, op_geq, cast_le, cast_lt, List.nil_append, List.cons_append, List.append_nil, un_not, hgf, hgp, List.getElem?_cons_zero, List.getElem?_cons_succ, zero28, hst]
      with_reducible rfl
    have hactsC : ActsR (fun _ => True) C ds xa := hacts'.same (by omega) (fun c _ hc => ⟨trivial, by rw [hfC c (by omega), get_alloc_ne (by omega)]⟩)
    apply W.seq
    obtain ⟨d25, hd1, hd2⟩ := und25
    have hl25 : loadF tb1 C.get 25 (.pointer (some ⟨B.next, 0, none⟩)) = .ok (.agg ⟨[.int .i64 (w : Nat), .int .i64 (f : Nat)]⟩) := load_part hd1 hd2 size25 hvC (by simp [headC])
    obtain ⟨D, ⟨gr, hgr⟩, hnD, hfD⟩ := run_right (A := C) (w := w) (f := f) (by omega) (by omega)
    have hvD : Vals D 28 B.next (.var 4) (headC w f q xa) := hvC.same (hfD _ (by omega))
    have lq : loadF tb1 D.get 3 (.pointer (some ⟨B.next, 2, none⟩)) = .ok (.int .i64 (q : Nat)) := load_vals und3 rfl hvD rfl
    have lx : loadF tb1 D.get 26 (.pointer (some ⟨B.next, 3, none⟩)) = .ok xa := load_vals und26 rfl hvD rfl
    have hactsD : ActsR (fun _ => True) D ds xa := hactsC.same hnD (fun c _ hc => ⟨trivial, hfD c hc⟩)
    have hlenx : builtinPF tb1 .len [26] [xa] = .ok (.int .i64 ((ds.length : Nat) : Int)) := by
      obtain ⟨ls, b, _, h, h2, _⟩ := hactsD
      rw [h.len (tb := tb1) (t := 26) und26, h2]
    have z1 : ¬ 65535 < q := by omega
    have z2 : ¬ 60 < ds.length := by omega
    have z3 : ¬ 800 < n := by omega
    apply W.seq
    apply W.runG (gr) 20
    · intro M hM
      simp (config := { maxSteps := 4000000 }) (disch := first | decide +kernel | (rw [wantF_guard]; simp only [wantD_some, dstAt_zero, dstAt_succ, T.get_set, T.get_e, Nat.reduceEqDiff, if_true, if_false, wantV_bool, wantV_unit, unitV, cond_true, cond_false, Bool.not_true, Bool.not_false, List.toList_toArray]) | omega) only [c3, Try.f3, Nat.ble, cond_true, cond_false, T.puts_cons, T.puts_nil, exec_seq, exec_block, nat_beq_self, exec_region, exec_cond, exec_skip, exec_ret, exec_exit, exec_scope, runOps_cons, runOps_nil, opF_move, opF_assign, opF_ari, opF_neq, opF_eql, opF_un, opF_index, opF_indexAddr, opF_fieldAddr, opF_field, opF_build, opF_slice, opF_extract, opF_pick, opF_load, opF_alloc, opF_box, opF_buildSlice, opF_makeSlice, opF_store, opF_conv, opF_len, opF_minmax, opF_builtin, opF_call, resK, ev_tmp, evG_some, ev_int, ev_bool, ev_str, evs, evp, evo, R.ok_bind, putT_some, putT_none, T.get_set, T.get_e, binF_int, op_rem, op_quo_u32, op_xor_u32, op_neq, op_eql, op_lss, op_add_i64, op_sub_u32, op_and_u8, op_xor_u8, op_not_u32, binF_shr_u32, binF_shr_u8, op_mul_i64, op_quo_i64, op_and_u32, binF_shl_u8, wrapF_u8, wrapF_u32, mod_u8, mod_u32, cond_val, Nat.lt_irrefl, Nat.not_lt_zero, if_true, if_false, reduceIte, Nat.reduceEqDiff, Nat.reduceAdd, ne_eq, not_true_eq_false, not_false_eq_true, decide_true, decide_false, Bool.false_eq_true, Bool.not_true, Bool.not_false, sub_nil, sub_seq0, sub_seq1, sub_cond0, sub_cond1, sub_block, sub_loop, sub_scope, sub_range0, sub_range1, Option.getD_some, at_ptr, at_slc, runOps_yes, runOps_no, exec_draw, op_sub_i64, op_sub_neg, op_lss_neg, binF_str, str_add, str_neq, str_eql, takeF, resF, oneOf, pickF, extractF, cells_str, cells_int, cells_agg, bool_eql, bool_neq, op_lssI, bne_self_eq_false, beq_self_eq_true, eq_self, cells_slc, cells_func, builtin_append, ev_nilslice, ev_nilfunc, ev_nilptr, ev_nilmap, opF_makeFunc, opF_callv, callV_func, callV_yield, op_leq, op_gtr, op_geq, cast_le, cast_lt, List.nil_append, List.cons_append, List.append_nil, un_not, fa28_0, fa28_1, fa28_2, hl25, hgr, lq, lx, hlenx, z1, z2, z3]
      with_reducible rfl
    apply W.run 20
    · intro M
      simp (config := { maxSteps := 4000000 }) (disch := first | decide +kernel | (rw [wantF_guard]; simp only [wantD_some, dstAt_zero, dstAt_succ, T.get_set, T.get_e, Nat.reduceEqDiff, if_true, if_false, wantV_bool, wantV_unit, unitV, cond_true, cond_false, Bool.not_true, Bool.not_false, List.toList_toArray]) | omega) only [c3, Try.f3, Nat.ble, cond_true, cond_false, T.puts_cons, T.puts_nil, exec_seq, exec_block, nat_beq_self, exec_region, exec_cond, exec_skip, exec_ret, exec_exit, exec_scope, runOps_cons, runOps_nil, opF_move, opF_assign, opF_ari, opF_neq, opF_eql, opF_un, opF_index, opF_indexAddr, opF_fieldAddr, opF_field, opF_build, opF_slice, opF_extract, opF_pick, opF_load, opF_alloc, opF_box, opF_buildSlice, opF_makeSlice, opF_store, opF_conv, opF_len, opF_minmax, opF_builtin, opF_call, resK, ev_tmp, evG_some, ev_int, ev_bool, ev_str, evs, evp, evo, R.ok_bind, putT_some, putT_none, T.get_set, T.get_e, binF_int, op_rem, op_quo_u32, op_xor_u32, op_neq, op_eql, op_lss, op_add_i64, op_sub_u32, op_and_u8, op_xor_u8, op_not_u32, binF_shr_u32, binF_shr_u8, op_mul_i64, op_quo_i64, op_and_u32, binF_shl_u8, wrapF_u8, wrapF_u32, mod_u8, mod_u32, cond_val, Nat.lt_irrefl, Nat.not_lt_zero, if_true, if_false, reduceIte, Nat.reduceEqDiff, Nat.reduceAdd, ne_eq, not_true_eq_false, not_false_eq_true, decide_true, decide_false, Bool.false_eq_true, Bool.not_true, Bool.not_false, sub_nil, sub_seq0, sub_seq1, sub_cond0, sub_cond1, sub_block, sub_loop, sub_scope, sub_range0, sub_range1, Option.getD_some, at_ptr, at_slc, runOps_yes, runOps_no, exec_draw, op_sub_i64, op_sub_neg, op_lss_neg, binF_str, str_add, str_neq, str_eql, takeF, resF, oneOf, pickF, extractF, cells_str, cells_int, cells_agg, bool_eql, bool_neq, op_lssI, bne_self_eq_false, beq_self_eq_true, eq_self, cells_slc, cells_func, builtin_append, ev_nilslice, ev_nilfunc, ev_nilptr, ev_nilmap, opF_makeFunc, opF_callv, callV_func, callV_yield, op_leq, op_gtr, op_geq, cast_le, cast_lt, List.nil_append, List.cons_append, List.append_nil, un_not]
      with_reducible rfl
    apply W.seq
    apply W.seq
    apply W.run 20
    · intro M
      simp (config := { maxSteps := 4000000 }) (disch := first | decide +kernel | (rw [wantF_guard]; simp only [wantD_some, dstAt_zero, dstAt_succ, T.get_set, T.get_e, Nat.reduceEqDiff, if_true, if_false, wantV_bool, wantV_unit, unitV, cond_true, cond_false, Bool.not_true, Bool.not_false, List.toList_toArray]) | omega) only [c3, Try.f3, Nat.ble, cond_true, cond_false, T.puts_cons, T.puts_nil, exec_seq, exec_block, nat_beq_self, exec_region, exec_cond, exec_skip, exec_ret, exec_exit, exec_scope, runOps_cons, runOps_nil, opF_move, opF_assign, opF_ari, opF_neq, opF_eql, opF_un, opF_index, opF_indexAddr, opF_fieldAddr, opF_field, opF_build, opF_slice, opF_extract, opF_pick, opF_load, opF_alloc, opF_box, opF_buildSlice, opF_makeSlice, opF_store, opF_conv, opF_len, opF_minmax, opF_builtin, opF_call, resK, ev_tmp, evG_some, ev_int, ev_bool, ev_str, evs, evp, evo, R.ok_bind, putT_some, putT_none, T.get_set, T.get_e, binF_int, op_rem, op_quo_u32, op_xor_u32, op_neq, op_eql, op_lss, op_add_i64, op_sub_u32, op_and_u8, op_xor_u8, op_not_u32, binF_shr_u32, binF_shr_u8, op_mul_i64, op_quo_i64, op_and_u32, binF_shl_u8, wrapF_u8, wrapF_u32, mod_u8, mod_u32, cond_val, Nat.lt_irrefl, Nat.not_lt_zero, if_true, if_false, reduceIte, Nat.reduceEqDiff, Nat.reduceAdd, ne_eq, not_true_eq_false, not_false_eq_true, decide_true, decide_false, Bool.false_eq_true, Bool.not_true, Bool.not_false, sub_nil, sub_seq0, sub_seq1, sub_cond0, sub_cond1, sub_block, sub_loop, sub_scope, sub_range0, sub_range1, Option.getD_some, at_ptr, at_slc, runOps_yes, runOps_no, exec_draw, op_sub_i64, op_sub_neg, op_lss_neg, binF_str, str_add, str_neq, str_eql, takeF, resF, oneOf, pickF, extractF, cells_str, cells_int, cells_agg, bool_eql, bool_neq, op_lssI, bne_self_eq_false, beq_self_eq_true, eq_self, cells_slc, cells_func, builtin_append, ev_nilslice, ev_nilfunc, ev_nilptr, ev_nilmap, opF_makeFunc, opF_callv, callV_func, callV_yield, op_leq, op_gtr, op_geq, cast_le, cast_lt, List.nil_append, List.cons_append, List.append_nil, un_not]
      with_reducible rfl
    apply W.block
    refine W.up ds.length (fun i t E => Vals E 28 B.next (.var 4) (headC w f q xa) ∧ ActsR (fun _ => True) E ds xa ∧ B.next < E.next ∧ Sl t [(3, .pointer (some ⟨B.next, 0, none⟩)), (5, .int .i64 (i : Int))]) ?_ (Nat.zero_le _) ⟨hvD, hactsD, by omega, ?_⟩
    · rintro i t E hi ⟨hvE, haE, hnE, g3, g5, -⟩
      have lxE : loadF tb1 E.get 26 (.pointer (some ⟨B.next, 3, none⟩)) = .ok xa := load_vals und26 rfl hvE rfl
      by_cases hlt : i < ds.length
      · have haE' := haE
        obtain ⟨ls, b, -, hx, hll, hall⟩ := haE'
        have hix := hx.idx (tb := tb1) (t := 26) (t' := 39) (kd := .i64) (i := i) und26 size39 (by omega)
        have hdk := hok ds[i] (List.getElem_mem ..)
        obtain ⟨xs, xo, hle, hsr, hor⟩ := hall i ds[i] ls[i] (List.getElem?_eq_getElem hlt) (List.getElem?_eq_getElem (by omega))
        have hlk : ls[i]? = some ls[i] := List.getElem?_eq_getElem (by omega)
        rw [hle] at hlk
        generalize ds[i] = d at hdk hsr hor hlk
        obtain ⟨d39, hd3, hd4⟩ := und39
        have hl39 := hx.load_all (i := i) hd3 hd4 size39 hlk
        have hv6 : Vals (E.alloc (rowOb 39 [.int .i64 0, .string ⟨#[]⟩, .int .u32 0, .int .i64 0, .int .i64 0, .int .i64 0, .bool false, .slice none 0 0, .slice none 0 0])) 39 E.next (.var 9) [.int .i64 0, .string ⟨#[]⟩, .int .u32 0, .int .i64 0, .int .i64 0, .int .i64 0, .bool false, .slice none 0 0, .slice none 0 0] := Go.Am.vals_new E 39 _
        have hcell := ActR.cells (d := d) (P := fun _ => True) (A := E) ⟨xs, xo, rfl, hsr, hor⟩
        obtain ⟨F, hstF, hvF, hnF, hfF⟩ := store_all (tb := tb1) (t := 39) (by rw [size39]; rfl) hv6 (show (cellsD d.kind d.word d.weight d.k d.n d.arm d.cut xs xo).length = _ from rfl) (by simp) hcell.2
        have hnE1 : (E.alloc (rowOb 39 [.int .i64 0, .string ⟨#[]⟩, .int .u32 0, .int .i64 0, .int .i64 0, .int .i64 0, .bool false, .slice none 0 0, .slice none 0 0])).next = E.next + 1 := next_alloc _ _
        have hfEF : ∀ y, y < E.next → F.get y = E.get y := fun y hy => by rw [hfF y (by omega), get_alloc_ne (by omega)]
        have hsF : StR (fun _ => True) F d.stays xs := hsr.same (by omega) (fun c _ hc => ⟨trivial, hfEF c hc⟩)
        have hoF : OpsR (fun _ => True) F d.opening xo := hor.same (by omega) (fun c _ hc => ⟨trivial, hfEF c hc⟩)
        rw [c3b1_eq]
        apply W.seq
        apply W.run 20
        · intro M
          simp (config := { maxSteps := 4000000 }) (disch := first | decide +kernel | (rw [wantF_guard]; simp only [wantD_some, dstAt_zero, dstAt_succ, T.get_set, T.get_e, Nat.reduceEqDiff, if_true, if_false, wantV_bool, wantV_unit, unitV, cond_true, cond_false, Bool.not_true, Bool.not_false, List.toList_toArray]) | omega) only [c3b1, c3, Try.f3, Nat.ble, cond_true, cond_false, T.puts_cons, T.puts_nil, exec_seq, exec_block, nat_beq_self, exec_region, exec_cond, exec_skip, exec_ret, exec_exit, exec_scope, runOps_cons, runOps_nil, opF_move, opF_assign, opF_ari, opF_neq, opF_eql, opF_un, opF_index, opF_indexAddr, opF_fieldAddr, opF_field, opF_build, opF_slice, opF_extract, opF_pick, opF_load, opF_alloc, opF_box, opF_buildSlice, opF_makeSlice, opF_store, opF_conv, opF_len, opF_minmax, opF_builtin, opF_call, resK, ev_tmp, evG_some, ev_int, ev_bool, ev_str, evs, evp, evo, R.ok_bind, putT_some, putT_none, T.get_set, T.get_e, binF_int, op_rem, op_quo_u32, op_xor_u32, op_neq, op_eql, op_lss, op_add_i64, op_sub_u32, op_and_u8, op_xor_u8, op_not_u32, binF_shr_u32, binF_shr_u8, op_mul_i64, op_quo_i64, op_and_u32, binF_shl_u8, wrapF_u8, wrapF_u32, mod_u8, mod_u32, cond_val, Nat.lt_irrefl, Nat.not_lt_zero, if_true, if_false, reduceIte, Nat.reduceEqDiff, Nat.reduceAdd, ne_eq, not_true_eq_false, not_false_eq_true, decide_true, decide_false, Bool.false_eq_true, Bool.not_true, Bool.not_false, sub_nil, sub_seq0, sub_seq1, sub_cond0, sub_cond1, sub_block, sub_loop, sub_scope, sub_range0, sub_range1, Option.getD_some, at_ptr, at_slc, runOps_yes, runOps_no, exec_draw, op_sub_i64, op_sub_neg, op_lss_neg, binF_str, str_add, str_neq, str_eql, takeF, resF, oneOf, pickF, extractF, cells_str, cells_int, cells_agg, bool_eql, bool_neq, op_lssI, bne_self_eq_false, beq_self_eq_true, eq_self, cells_slc, cells_func, builtin_append, ev_nilslice, ev_nilfunc, ev_nilptr, ev_nilmap, opF_makeFunc, opF_callv, callV_func, callV_yield, op_leq, op_gtr, op_geq, cast_le, cast_lt, List.nil_append, List.cons_append, List.append_nil, un_not, g3, g5, fa28_2, lxE, hlenx, hlt]
          with_reducible rfl
        apply W.seq
        apply W.block
        apply W.seq
        apply W.run 20
        · intro M
          simp (config := { maxSteps := 4000000 }) (disch := first | decide +kernel | (rw [wantF_guard]; simp only [wantD_some, dstAt_zero, dstAt_succ, T.get_set, T.get_e, Nat.reduceEqDiff, if_true, if_false, wantV_bool, wantV_unit, unitV, cond_true, cond_false, Bool.not_true, Bool.not_false, List.toList_toArray]) | omega) only [c3b1, c3, Try.f3, Nat.ble, cond_true, cond_false, T.puts_cons, T.puts_nil, exec_seq, exec_block, nat_beq_self, exec_region, exec_cond, exec_skip, exec_ret, exec_exit, exec_scope, runOps_cons, runOps_nil, opF_move, opF_assign, opF_ari, opF_neq, opF_eql, opF_un, opF_index, opF_indexAddr, opF_fieldAddr, opF_field, opF_build, opF_slice, opF_extract, opF_pick, opF_load, opF_alloc, opF_box, opF_buildSlice, opF_makeSlice, opF_store, opF_conv, opF_len, opF_minmax, opF_builtin, opF_call, resK, ev_tmp, evG_some, ev_int, ev_bool, ev_str, evs, evp, evo, R.ok_bind, putT_some, putT_none, T.get_set, T.get_e, binF_int, op_rem, op_quo_u32, op_xor_u32, op_neq, op_eql, op_lss, op_add_i64, op_sub_u32, op_and_u8, op_xor_u8, op_not_u32, binF_shr_u32, binF_shr_u8, op_mul_i64, op_quo_i64, op_and_u32, binF_shl_u8, wrapF_u8, wrapF_u32, mod_u8, mod_u32, cond_val, Nat.lt_irrefl, Nat.not_lt_zero, if_true, if_false, reduceIte, Nat.reduceEqDiff, Nat.reduceAdd, ne_eq, not_true_eq_false, not_false_eq_true, decide_true, decide_false, Bool.false_eq_true, Bool.not_true, Bool.not_false, sub_nil, sub_seq0, sub_seq1, sub_cond0, sub_cond1, sub_block, sub_loop, sub_scope, sub_range0, sub_range1, Option.getD_some, at_ptr, at_slc, runOps_yes, runOps_no, exec_draw, op_sub_i64, op_sub_neg, op_lss_neg, binF_str, str_add, str_neq, str_eql, takeF, resF, oneOf, pickF, extractF, cells_str, cells_int, cells_agg, bool_eql, bool_neq, op_lssI, bne_self_eq_false, beq_self_eq_true, eq_self, cells_slc, cells_func, builtin_append, ev_nilslice, ev_nilfunc, ev_nilptr, ev_nilmap, opF_makeFunc, opF_callv, callV_func, callV_yield, op_leq, op_gtr, op_geq, cast_le, cast_lt, List.nil_append, List.cons_append, List.append_nil, un_not, g3, g5, fa28_2, lxE, hix, hl39, zero39, hstF]
          with_reducible rfl
        apply W.seq
        apply W.seq
        refine right_first (b3 := B.next) (b6 := E.next) (i := i) hdk hvF hsF hoF ?_ ?_
        · unfold rightS; simp only [Sl_cons, Sl_nil, T.get_set, T.puts_cons, T.puts_nil, Nat.reduceEqDiff, Nat.reduceAdd, if_true, if_false, and_true, true_and, g3, g5]
        intro t1 hp1 f114
        show W tb1 _ _ _
        apply W.run 20
        · intro M
          simp (config := { maxSteps := 4000000 }) (disch := first | decide +kernel | (rw [wantF_guard]; simp only [wantD_some, dstAt_zero, dstAt_succ, T.get_set, T.get_e, Nat.reduceEqDiff, if_true, if_false, wantV_bool, wantV_unit, unitV, cond_true, cond_false, Bool.not_true, Bool.not_false, List.toList_toArray]) | omega) only [c3b1, c3, Try.f3, Nat.ble, cond_true, cond_false, T.puts_cons, T.puts_nil, exec_seq, exec_block, nat_beq_self, exec_region, exec_cond, exec_skip, exec_ret, exec_exit, exec_scope, runOps_cons, runOps_nil, opF_move, opF_assign, opF_ari, opF_neq, opF_eql, opF_un, opF_index, opF_indexAddr, opF_fieldAddr, opF_field, opF_build, opF_slice, opF_extract, opF_pick, opF_load, opF_alloc, opF_box, opF_buildSlice, opF_makeSlice, opF_store, opF_conv, opF_len, opF_minmax, opF_builtin, opF_call, resK, ev_tmp, evG_some, ev_int, ev_bool, ev_str, evs, evp, evo, R.ok_bind, putT_some, putT_none, T.get_set, T.get_e, binF_int, op_rem, op_quo_u32, op_xor_u32, op_neq, op_eql, op_lss, op_add_i64, op_sub_u32, op_and_u8, op_xor_u8, op_not_u32, binF_shr_u32, binF_shr_u8, op_mul_i64, op_quo_i64, op_and_u32, binF_shl_u8, wrapF_u8, wrapF_u32, mod_u8, mod_u32, cond_val, Nat.lt_irrefl, Nat.not_lt_zero, if_true, if_false, reduceIte, Nat.reduceEqDiff, Nat.reduceAdd, ne_eq, not_true_eq_false, not_false_eq_true, decide_true, decide_false, Bool.false_eq_true, Bool.not_true, Bool.not_false, sub_nil, sub_seq0, sub_seq1, sub_cond0, sub_cond1, sub_block, sub_loop, sub_scope, sub_range0, sub_range1, Option.getD_some, at_ptr, at_slc, runOps_yes, runOps_no, exec_draw, op_sub_i64, op_sub_neg, op_lss_neg, binF_str, str_add, str_neq, str_eql, takeF, resF, oneOf, pickF, extractF, cells_str, cells_int, cells_agg, bool_eql, bool_neq, op_lssI, bne_self_eq_false, beq_self_eq_true, eq_self, cells_slc, cells_func, builtin_append, ev_nilslice, ev_nilfunc, ev_nilptr, ev_nilmap, opF_makeFunc, opF_callv, callV_func, callV_yield, op_leq, op_gtr, op_geq, cast_le, cast_lt, List.nil_append, List.cons_append, List.append_nil, un_not, f114]
          with_reducible rfl
        show W tb1 _ _ _
        apply W.seq
        apply W.seq
        refine right_second (b3 := B.next) (b6 := E.next) (i := i) hdk hvF hsF hoF hp1 ?_
        intro t2 hp2 f134
        show W tb1 _ _ _
        apply W.run 20
        · intro M
          simp (config := { maxSteps := 4000000 }) (disch := first | decide +kernel | (rw [wantF_guard]; simp only [wantD_some, dstAt_zero, dstAt_succ, T.get_set, T.get_e, Nat.reduceEqDiff, if_true, if_false, wantV_bool, wantV_unit, unitV, cond_true, cond_false, Bool.not_true, Bool.not_false, List.toList_toArray]) | omega) only [c3b1, c3, Try.f3, Nat.ble, cond_true, cond_false, T.puts_cons, T.puts_nil, exec_seq, exec_block, nat_beq_self, exec_region, exec_cond, exec_skip, exec_ret, exec_exit, exec_scope, runOps_cons, runOps_nil, opF_move, opF_assign, opF_ari, opF_neq, opF_eql, opF_un, opF_index, opF_indexAddr, opF_fieldAddr, opF_field, opF_build, opF_slice, opF_extract, opF_pick, opF_load, opF_alloc, opF_box, opF_buildSlice, opF_makeSlice, opF_store, opF_conv, opF_len, opF_minmax, opF_builtin, opF_call, resK, ev_tmp, evG_some, ev_int, ev_bool, ev_str, evs, evp, evo, R.ok_bind, putT_some, putT_none, T.get_set, T.get_e, binF_int, op_rem, op_quo_u32, op_xor_u32, op_neq, op_eql, op_lss, op_add_i64, op_sub_u32, op_and_u8, op_xor_u8, op_not_u32, binF_shr_u32, binF_shr_u8, op_mul_i64, op_quo_i64, op_and_u32, binF_shl_u8, wrapF_u8, wrapF_u32, mod_u8, mod_u32, cond_val, Nat.lt_irrefl, Nat.not_lt_zero, if_true, if_false, reduceIte, Nat.reduceEqDiff, Nat.reduceAdd, ne_eq, not_true_eq_false, not_false_eq_true, decide_true, decide_false, Bool.false_eq_true, Bool.not_true, Bool.not_false, sub_nil, sub_seq0, sub_seq1, sub_cond0, sub_cond1, sub_block, sub_loop, sub_scope, sub_range0, sub_range1, Option.getD_some, at_ptr, at_slc, runOps_yes, runOps_no, exec_draw, op_sub_i64, op_sub_neg, op_lss_neg, binF_str, str_add, str_neq, str_eql, takeF, resF, oneOf, pickF, extractF, cells_str, cells_int, cells_agg, bool_eql, bool_neq, op_lssI, bne_self_eq_false, beq_self_eq_true, eq_self, cells_slc, cells_func, builtin_append, ev_nilslice, ev_nilfunc, ev_nilptr, ev_nilmap, opF_makeFunc, opF_callv, callV_func, callV_yield, op_leq, op_gtr, op_geq, cast_le, cast_lt, List.nil_append, List.cons_append, List.append_nil, un_not, f134]
          with_reducible rfl
        show W tb1 _ _ _
        obtain ⟨u3, u5, u6, -⟩ := hp2
        apply W.seq
        apply W.run 20
        · intro M
          simp (config := { maxSteps := 4000000 }) (disch := first | decide +kernel | (rw [wantF_guard]; simp only [wantD_some, dstAt_zero, dstAt_succ, T.get_set, T.get_e, Nat.reduceEqDiff, if_true, if_false, wantV_bool, wantV_unit, unitV, cond_true, cond_false, Bool.not_true, Bool.not_false, List.toList_toArray]) | omega) only [c3b1, c3, Try.f3, Nat.ble, cond_true, cond_false, T.puts_cons, T.puts_nil, exec_seq, exec_block, nat_beq_self, exec_region, exec_cond, exec_skip, exec_ret, exec_exit, exec_scope, runOps_cons, runOps_nil, opF_move, opF_assign, opF_ari, opF_neq, opF_eql, opF_un, opF_index, opF_indexAddr, opF_fieldAddr, opF_field, opF_build, opF_slice, opF_extract, opF_pick, opF_load, opF_alloc, opF_box, opF_buildSlice, opF_makeSlice, opF_store, opF_conv, opF_len, opF_minmax, opF_builtin, opF_call, resK, ev_tmp, evG_some, ev_int, ev_bool, ev_str, evs, evp, evo, R.ok_bind, putT_some, putT_none, T.get_set, T.get_e, binF_int, op_rem, op_quo_u32, op_xor_u32, op_neq, op_eql, op_lss, op_add_i64, op_sub_u32, op_and_u8, op_xor_u8, op_not_u32, binF_shr_u32, binF_shr_u8, op_mul_i64, op_quo_i64, op_and_u32, binF_shl_u8, wrapF_u8, wrapF_u32, mod_u8, mod_u32, cond_val, Nat.lt_irrefl, Nat.not_lt_zero, if_true, if_false, reduceIte, Nat.reduceEqDiff, Nat.reduceAdd, ne_eq, not_true_eq_false, not_false_eq_true, decide_true, decide_false, Bool.false_eq_true, Bool.not_true, Bool.not_false, sub_nil, sub_seq0, sub_seq1, sub_cond0, sub_cond1, sub_block, sub_loop, sub_scope, sub_range0, sub_range1, Option.getD_some, at_ptr, at_slc, runOps_yes, runOps_no, exec_draw, op_sub_i64, op_sub_neg, op_lss_neg, binF_str, str_add, str_neq, str_eql, takeF, resF, oneOf, pickF, extractF, cells_str, cells_int, cells_agg, bool_eql, bool_neq, op_lssI, bne_self_eq_false, beq_self_eq_true, eq_self, cells_slc, cells_func, builtin_append, ev_nilslice, ev_nilfunc, ev_nilptr, ev_nilmap, opF_makeFunc, opF_callv, callV_func, callV_yield, op_leq, op_gtr, op_geq, cast_le, cast_lt, List.nil_append, List.cons_append, List.append_nil, un_not]
          with_reducible rfl
        apply W.block
        refine right_opens (b3 := B.next) (b6 := E.next) (i := i) hdk hvF hoF ?_ ?_ ?_
        · unfold rightS; simp only [Sl_cons, Sl_nil, T.get_set, T.puts_cons, T.puts_nil, Nat.reduceEqDiff, Nat.reduceAdd, if_true, if_false, and_true, true_and, u3, u5, u6]
        · simp only [T.get_set, Nat.reduceEqDiff, if_true, if_false]
        rintro t4 ⟨v3, v5, v6, -⟩
        show W tb1 _ _ _
        apply W.run 20
        · intro M
          simp (config := { maxSteps := 4000000 }) (disch := first | decide +kernel | (rw [wantF_guard]; simp only [wantD_some, dstAt_zero, dstAt_succ, T.get_set, T.get_e, Nat.reduceEqDiff, if_true, if_false, wantV_bool, wantV_unit, unitV, cond_true, cond_false, Bool.not_true, Bool.not_false, List.toList_toArray]) | omega) only [c3b1, c3, Try.f3, Nat.ble, cond_true, cond_false, T.puts_cons, T.puts_nil, exec_seq, exec_block, nat_beq_self, exec_region, exec_cond, exec_skip, exec_ret, exec_exit, exec_scope, runOps_cons, runOps_nil, opF_move, opF_assign, opF_ari, opF_neq, opF_eql, opF_un, opF_index, opF_indexAddr, opF_fieldAddr, opF_field, opF_build, opF_slice, opF_extract, opF_pick, opF_load, opF_alloc, opF_box, opF_buildSlice, opF_makeSlice, opF_store, opF_conv, opF_len, opF_minmax, opF_builtin, opF_call, resK, ev_tmp, evG_some, ev_int, ev_bool, ev_str, evs, evp, evo, R.ok_bind, putT_some, putT_none, T.get_set, T.get_e, binF_int, op_rem, op_quo_u32, op_xor_u32, op_neq, op_eql, op_lss, op_add_i64, op_sub_u32, op_and_u8, op_xor_u8, op_not_u32, binF_shr_u32, binF_shr_u8, op_mul_i64, op_quo_i64, op_and_u32, binF_shl_u8, wrapF_u8, wrapF_u32, mod_u8, mod_u32, cond_val, Nat.lt_irrefl, Nat.not_lt_zero, if_true, if_false, reduceIte, Nat.reduceEqDiff, Nat.reduceAdd, ne_eq, not_true_eq_false, not_false_eq_true, decide_true, decide_false, Bool.false_eq_true, Bool.not_true, Bool.not_false, sub_nil, sub_seq0, sub_seq1, sub_cond0, sub_cond1, sub_block, sub_loop, sub_scope, sub_range0, sub_range1, Option.getD_some, at_ptr, at_slc, runOps_yes, runOps_no, exec_draw, op_sub_i64, op_sub_neg, op_lss_neg, binF_str, str_add, str_neq, str_eql, takeF, resF, oneOf, pickF, extractF, cells_str, cells_int, cells_agg, bool_eql, bool_neq, op_lssI, bne_self_eq_false, beq_self_eq_true, eq_self, cells_slc, cells_func, builtin_append, ev_nilslice, ev_nilfunc, ev_nilptr, ev_nilmap, opF_makeFunc, opF_callv, callV_func, callV_yield, op_leq, op_gtr, op_geq, cast_le, cast_lt, List.nil_append, List.cons_append, List.append_nil, un_not, v5]
          with_reducible rfl
        refine ⟨hlt, _, _, rfl, hvE.same (hfEF _ (by omega)), haE.same (by omega) (fun c _ hc => ⟨trivial, hfEF c hc⟩), by omega, ?_⟩
        simp only [Sl_cons, Sl_nil, T.get_set, T.puts_cons, T.puts_nil, Nat.reduceEqDiff, Nat.reduceAdd, if_true, if_false, and_true, true_and, v3]
      · apply W.run 20
        · intro M
          simp (config := { maxSteps := 4000000 }) (disch := first | decide +kernel | (rw [wantF_guard]; simp only [wantD_some, dstAt_zero, dstAt_succ, T.get_set, T.get_e, Nat.reduceEqDiff, if_true, if_false, wantV_bool, wantV_unit, unitV, cond_true, cond_false, Bool.not_true, Bool.not_false, List.toList_toArray]) | omega) only [c3b1, c3, Try.f3, Nat.ble, cond_true, cond_false, T.puts_cons, T.puts_nil, exec_seq, exec_block, nat_beq_self, exec_region, exec_cond, exec_skip, exec_ret, exec_exit, exec_scope, runOps_cons, runOps_nil, opF_move, opF_assign, opF_ari, opF_neq, opF_eql, opF_un, opF_index, opF_indexAddr, opF_fieldAddr, opF_field, opF_build, opF_slice, opF_extract, opF_pick, opF_load, opF_alloc, opF_box, opF_buildSlice, opF_makeSlice, opF_store, opF_conv, opF_len, opF_minmax, opF_builtin, opF_call, resK, ev_tmp, evG_some, ev_int, ev_bool, ev_str, evs, evp, evo, R.ok_bind, putT_some, putT_none, T.get_set, T.get_e, binF_int, op_rem, op_quo_u32, op_xor_u32, op_neq, op_eql, op_lss, op_add_i64, op_sub_u32, op_and_u8, op_xor_u8, op_not_u32, binF_shr_u32, binF_shr_u8, op_mul_i64, op_quo_i64, op_and_u32, binF_shl_u8, wrapF_u8, wrapF_u32, mod_u8, mod_u32, cond_val, Nat.lt_irrefl, Nat.not_lt_zero, if_true, if_false, reduceIte, Nat.reduceEqDiff, Nat.reduceAdd, ne_eq, not_true_eq_false, not_false_eq_true, decide_true, decide_false, Bool.false_eq_true, Bool.not_true, Bool.not_false, sub_nil, sub_seq0, sub_seq1, sub_cond0, sub_cond1, sub_block, sub_loop, sub_scope, sub_range0, sub_range1, Option.getD_some, at_ptr, at_slc, runOps_yes, runOps_no, exec_draw, op_sub_i64, op_sub_neg, op_lss_neg, binF_str, str_add, str_neq, str_eql, takeF, resF, oneOf, pickF, extractF, cells_str, cells_int, cells_agg, bool_eql, bool_neq, op_lssI, bne_self_eq_false, beq_self_eq_true, eq_self, cells_slc, cells_func, builtin_append, ev_nilslice, ev_nilfunc, ev_nilptr, ev_nilmap, opF_makeFunc, opF_callv, callV_func, callV_yield, op_leq, op_gtr, op_geq, cast_le, cast_lt, List.nil_append, List.cons_append, List.append_nil, un_not, g3, g5, fa28_2, lxE, hlenx, hlt]
          with_reducible rfl
        show W tb1 _ _ _
        apply W.seq
        apply W.run 20
        · intro M
          simp (config := { maxSteps := 4000000 }) (disch := first | decide +kernel | (rw [wantF_guard]; simp only [wantD_some, dstAt_zero, dstAt_succ, T.get_set, T.get_e, Nat.reduceEqDiff, if_true, if_false, wantV_bool, wantV_unit, unitV, cond_true, cond_false, Bool.not_true, Bool.not_false, List.toList_toArray]) | omega) only [c3, Try.f3, Nat.ble, cond_true, cond_false, T.puts_cons, T.puts_nil, exec_seq, exec_block, nat_beq_self, exec_region, exec_cond, exec_skip, exec_ret, exec_exit, exec_scope, runOps_cons, runOps_nil, opF_move, opF_assign, opF_ari, opF_neq, opF_eql, opF_un, opF_index, opF_indexAddr, opF_fieldAddr, opF_field, opF_build, opF_slice, opF_extract, opF_pick, opF_load, opF_alloc, opF_box, opF_buildSlice, opF_makeSlice, opF_store, opF_conv, opF_len, opF_minmax, opF_builtin, opF_call, resK, ev_tmp, evG_some, ev_int, ev_bool, ev_str, evs, evp, evo, R.ok_bind, putT_some, putT_none, T.get_set, T.get_e, binF_int, op_rem, op_quo_u32, op_xor_u32, op_neq, op_eql, op_lss, op_add_i64, op_sub_u32, op_and_u8, op_xor_u8, op_not_u32, binF_shr_u32, binF_shr_u8, op_mul_i64, op_quo_i64, op_and_u32, binF_shl_u8, wrapF_u8, wrapF_u32, mod_u8, mod_u32, cond_val, Nat.lt_irrefl, Nat.not_lt_zero, if_true, if_false, reduceIte, Nat.reduceEqDiff, Nat.reduceAdd, ne_eq, not_true_eq_false, not_false_eq_true, decide_true, decide_false, Bool.false_eq_true, Bool.not_true, Bool.not_false, sub_nil, sub_seq0, sub_seq1, sub_cond0, sub_cond1, sub_block, sub_loop, sub_scope, sub_range0, sub_range1, Option.getD_some, at_ptr, at_slc, runOps_yes, runOps_no, exec_draw, op_sub_i64, op_sub_neg, op_lss_neg, binF_str, str_add, str_neq, str_eql, takeF, resF, oneOf, pickF, extractF, cells_str, cells_int, cells_agg, bool_eql, bool_neq, op_lssI, bne_self_eq_false, beq_self_eq_true, eq_self, cells_slc, cells_func, builtin_append, ev_nilslice, ev_nilfunc, ev_nilptr, ev_nilmap, opF_makeFunc, opF_callv, callV_func, callV_yield, op_leq, op_gtr, op_geq, cast_le, cast_lt, List.nil_append, List.cons_append, List.append_nil, un_not]
          with_reducible rfl
        apply W.run 20
        · intro M
          simp (config := { maxSteps := 4000000 }) (disch := first | decide +kernel | (rw [wantF_guard]; simp only [wantD_some, dstAt_zero, dstAt_succ, T.get_set, T.get_e, Nat.reduceEqDiff, if_true, if_false, wantV_bool, wantV_unit, unitV, cond_true, cond_false, Bool.not_true, Bool.not_false, List.toList_toArray]) | omega) only [c3, Try.f3, Nat.ble, cond_true, cond_false, T.puts_cons, T.puts_nil, exec_seq, exec_block, nat_beq_self, exec_region, exec_cond, exec_skip, exec_ret, exec_exit, exec_scope, runOps_cons, runOps_nil, opF_move, opF_assign, opF_ari, opF_neq, opF_eql, opF_un, opF_index, opF_indexAddr, opF_fieldAddr, opF_field, opF_build, opF_slice, opF_extract, opF_pick, opF_load, opF_alloc, opF_box, opF_buildSlice, opF_makeSlice, opF_store, opF_conv, opF_len, opF_minmax, opF_builtin, opF_call, resK, ev_tmp, evG_some, ev_int, ev_bool, ev_str, evs, evp, evo, R.ok_bind, putT_some, putT_none, T.get_set, T.get_e, binF_int, op_rem, op_quo_u32, op_xor_u32, op_neq, op_eql, op_lss, op_add_i64, op_sub_u32, op_and_u8, op_xor_u8, op_not_u32, binF_shr_u32, binF_shr_u8, op_mul_i64, op_quo_i64, op_and_u32, binF_shl_u8, wrapF_u8, wrapF_u32, mod_u8, mod_u32, cond_val, Nat.lt_irrefl, Nat.not_lt_zero, if_true, if_false, reduceIte, Nat.reduceEqDiff, Nat.reduceAdd, ne_eq, not_true_eq_false, not_false_eq_true, decide_true, decide_false, Bool.false_eq_true, Bool.not_true, Bool.not_false, sub_nil, sub_seq0, sub_seq1, sub_cond0, sub_cond1, sub_block, sub_loop, sub_scope, sub_range0, sub_range1, Option.getD_some, at_ptr, at_slc, runOps_yes, runOps_no, exec_draw, op_sub_i64, op_sub_neg, op_lss_neg, binF_str, str_add, str_neq, str_eql, takeF, resF, oneOf, pickF, extractF, cells_str, cells_int, cells_agg, bool_eql, bool_neq, op_lssI, bne_self_eq_false, beq_self_eq_true, eq_self, cells_slc, cells_func, builtin_append, ev_nilslice, ev_nilfunc, ev_nilptr, ev_nilmap, opF_makeFunc, opF_callv, callV_func, callV_yield, op_leq, op_gtr, op_geq, cast_le, cast_lt, List.nil_append, List.cons_append, List.append_nil, un_not]
          with_reducible rfl
        refine ⟨.inr rfl, _, [.bool true], rfl, ?_, rfl⟩
        simp only [Try.f3, resF, ev_tmp, T.get_set, Nat.reduceEqDiff, if_true, if_false, evG_some, R.ok_bind]
    · simp only [Sl_cons, Sl_nil, T.get_set, T.puts_cons, T.puts_nil, Nat.reduceEqDiff, Nat.reduceAdd, if_true, if_false, and_true, true_and]
  subst h2
  exact ⟨A', h1⟩
end Go.Proofs.Ytmhldlnlgjpkaaa.scr

namespace Go.Proofs.Ytmhldlnlgjpkaaa.scriptRight
open Go.ChangeShapes Go.WideShapes Go.ChangeAt Go.RowKit Go.Am
open Go.ChangeMaps (open_string shut_string)
set_option linter.unusedVariables false

theorem own : ownKnob Try.prog.godebug = none := by kernel_rfl
theorem laidOut : laidOutB Try.prog = true := by kernel_rfl

/-- A slice of integers that came in. -/
def IsRow (k : IntKind) (w : World) (a : Option Addr) (len cap : Nat) (zs : List Int) : Prop := ParW k w a len cap zs ∧ ∀ n ∈ zs, (Lit.int k n).wf = true
theorem slice_has {P : Program} {w : World} {base : Nat} {t e : TypeId} {x : Addr} {len cap : Nat} (ht : P.underlying t = some (.slice e)) (h : Value.okWide P w .any base t (.slice (some x) len cap)) : x.spot = none ∧ x.block < w.heap.size := by
  simp only [Value.okWide, Cell.okWide, Cell.ok, ht] at h
  obtain ⟨_, _, _, hsp, row, cells, hsh, _⟩ := h
  refine ⟨hsp, ?_⟩
  unfold World.shape? at hsh
  split at hsh
  · rename_i h2
    exact (Array.getElem?_eq_some_iff.1 h2).1
  · cases hsh

/-! ### The run -/
theorem walk (a0 : Option Addr) (len0 cap0 : Nat) (z0 : List Int) (w : World) (w0 : IsRow .u8 w a0 len0 cap0 z0) :
    Calls Try.prog 3 #[.slice a0 len0 cap0] w fun e w' => e = .returned (.bool true) ∧ Below w.heap.size w w' := by
  obtain ⟨hp, hz⟩ := w0
  have hsh : (z0.take len0).map (.int .u8) = scr.byts ((z0.take len0).map fun z => UInt8.ofNat z.toNat) := by
    simp only [scr.byts, List.map_map]
    apply List.map_congr_left
    intro n hn
    obtain ⟨h0, h1⟩ := bounds_u8 (hz n (List.mem_of_mem_take hn))
    simp only [Function.comp]
    congr 1
    rw [UInt8.toNat_ofNat']
    omega
  exact (par_true scr.tb1_ok hp (scr.fn_at Try.func3) scr.c3_eq (pre := []) (pre' := []) (post := []) (post' := []) (fun ι => .nil) (fun ι => .nil) (fun A x hn hwf hP => by
    rw [hsh] at hP
    exact scr.run_scriptRight _ (by omega) (scr.RdS.of_par hP)) (w := w)).mono fun e w' h => ⟨h.1, h.2.below⟩

/-! ### THE ROW's STEP: WRITTEN OUT: LEAVE IT -/
set_option maxRecDepth 100000 in
theorem lifted (os : Os) (started : os.Started) (H : Type) (enc : TypeId × Value → H) :
    ReturnsInHanded {} Try.checked os 3 .any (Rows.scriptRightSpec.pre6 enc Try.prog Try.f3 Rows.scriptRightRow.domain false) (Rows.scriptRightSpec.post enc Try.prog Try.f3 false true false false) := by
  refine returnsInHanded_of_change (C := Try.checked) own started (by kernel_rfl) Try.func3
    (ChangeSpec.witness6 (enc := enc) (C := Try.checked) false ⟨#[], #[.slice none 0 0], []⟩ 8 (by kernel_rfl) (by kernel_rfl) (by kernel_rfl) (by kernel_rfl)) ?_
  intro W base args ds gs before hval0 hW hcnd _
  have hval : ∀ (j : Nat) t v, Try.f3.params[j]? = some t → args[j]? = some v → Value.okWide Try.prog W .any base t v := hval0
  have hW' := hW
  obtain ⟨p, q, hA0, hV, rfl, hfz, hnd⟩ := hW
  have hA : DataW.TrodAll enc Try.prog W 0 (fun _ => true) true Try.f3.params.toList args.toList ds p := hA0
  rw [Try.params3] at hA hval
  obtain ⟨v0, vs0, d0, ds0, p0, q0, hargs, rfl, rfl, h0, r0⟩ := trodAll_cons hA
  obtain ⟨rfl, rfl, rfl⟩ := trodAll_nil r0
  obtain rfl : args = #[v0] := by cases args; simp_all
  obtain ⟨rfl, rfl⟩ := trodVars_none hV
  obtain ⟨a0, len0, cap0, rfl⟩ := okWide_slice Try.underlying22 (hval 0 22 v0 rfl rfl)
  have k0 := h0
  have lt0 : ∀ x ∈ p0, x.block < W.heap.size := by obtain ⟨m, hm⟩ := k0; exact DataW.trod_lt m _ _ _ hm
  obtain ⟨z0, w0⟩ : ∃ zs, IsRow .u8 W a0 len0 cap0 zs := by
    obtain ⟨fuel, hf⟩ := h0
    rcases open_ints Try.underlying22 Try.underlying5 (by kernel_rfl) hf with ⟨hcs, _⟩ | ⟨x, l, c, zs, hcs, _, hl, hm, hz, _, hcell, hwz⟩
    · simp [Value.cells] at hcs
      obtain ⟨rfl, rfl, rfl⟩ := hcs
      exact ⟨[], .inl ⟨rfl, rfl, rfl, rfl⟩, fun n h => by cases h⟩
    · simp [Value.cells] at hcs
      obtain ⟨rfl, rfl, rfl⟩ := hcs
      exact ⟨zs, .inr ⟨_, rfl, (slice_has Try.underlying22 (hval 0 22 _ rfl rfl)).1, (slice_has Try.underlying22 (hval 0 22 _ rfl rfl)).2, hl, Nat.lt_of_le_of_lt hm (by decide), by simpa using hz, hcell⟩, hwz⟩
  clear hA0 hval0
  refine (walk a0 len0 cap0 z0 W w0).mono fun e W' ⟨he, bel⟩ => ?_
  subst he
  exact ⟨_, rfl, _, _, _, [], _, [], hW', trodAll_mk1 (shut_bool Try.underlying4 _), (trodAll_cons_mk (Below.trod laidOut (by kernel_rfl) (of_decide_eq_true (by kernel_rfl)) k0 bel lt0) trodAll_mk0), rfl, bel.frame _, fun h => by cases h⟩

theorem over : Rows.scriptRightRow.holds Try.pinned (OpenSpec.ofChange Rows.scriptRightSpec) :=
  OpenClaim.holds_of_wide 3 Try.f3 rfl rfl rfl rfl rfl rfl rfl ⟨rfl, rfl, rfl, rfl, rfl⟩ rfl rfl rfl rfl rfl (by kernel_rfl) Try.func3 (by kernel_rfl)
    (of_decide_eq_true (by kernel_rfl)) (by unfold Func.isWrapper; first | (rw [if_pos (by decide +kernel)]; kernel_rfl) | (rw [if_neg (by decide +kernel)]; exact ⟨rfl, rfl⟩))
    (fun os started H enc _ => lifted os started H enc)

/-- ████ THE STATEMENT ████ -/
theorem proved : Rows.ScriptRightSaid := over
#print axioms proved
end Go.Proofs.Ytmhldlnlgjpkaaa.scriptRight
