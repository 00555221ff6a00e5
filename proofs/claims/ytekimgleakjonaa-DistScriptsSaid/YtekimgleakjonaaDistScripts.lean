/-
  The statement DistScripts holds, for every input: the program, run on the abstract machine AM on values of which parts are variables, answers true; what AM answers the model answers. No conditions.
-/
import Derived.Test.YtekimgleakjonaaRows
import Derived.Test.YtekimgleakjonaaDistC
import Derived.WalkKit
import Derived.ProofKit
import Derived.OpenShut
import Derived.ShutString
import Derived.ChangeOld
import Derived.Below
namespace Go.Proofs.Ytekimgleakjonaa.dist
open Go.Am Go.Dist
set_option linter.unusedSimpArgs false

theorem made_step {a b : List UInt8} {c : UInt8} {s : List UInt8} {i k n d : Nat} (h : madeS a b (c :: s) i k n = (d, true)) :
    (c = 61 ∧ i + 1 ≤ a.length ∧ k + 1 ≤ b.length ∧ a.getD i 0 = b.getD k 0 ∧ madeS a b s (i + 1) (k + 1) n = (d, true)) ∨ (c = 120 ∧ i + 1 ≤ a.length ∧ k + 1 ≤ b.length ∧ a.getD i 0 ≠ b.getD k 0 ∧ madeS a b s (i + 1) (k + 1) (n + 1) = (d, true)) ∨
    (c = 45 ∧ i + 1 ≤ a.length ∧ k ≤ b.length ∧ madeS a b s (i + 1) k (n + 1) = (d, true)) ∨ (c = 43 ∧ i ≤ a.length ∧ k + 1 ≤ b.length ∧ madeS a b s i (k + 1) (n + 1) = (d, true)) := by
  simp only [madeS] at h
  by_cases hb : a.length < (if c = 43 then i else i + 1) ∨ b.length < (if c = 45 then k else k + 1)
  · rw [if_pos hb] at h; simp at h
  · rw [if_neg hb] at h
    by_cases h1 : c = 61
    · subst h1
      have n1 : ¬ (61 : UInt8) = 43 := by decide
      have n2 : ¬ (61 : UInt8) = 45 := by decide
      rw [if_pos rfl] at h
      simp only [n1, n2, if_false, Nat.add_sub_cancel] at h hb
      by_cases he : a.getD i 0 = b.getD k 0
      · rw [if_neg (fun hn => hn he)] at h
        exact .inl ⟨rfl, by omega, by omega, he, h⟩
      · rw [if_pos he] at h; simp at h
    · rw [if_neg h1] at h
      by_cases h2 : c = 120
      · subst h2
        have n1 : ¬ (120 : UInt8) = 43 := by decide
        have n2 : ¬ (120 : UInt8) = 45 := by decide
        rw [if_pos rfl] at h
        simp only [n1, n2, if_false, Nat.add_sub_cancel] at h hb
        by_cases he : a.getD i 0 = b.getD k 0
        · rw [if_pos he] at h; simp at h
        · rw [if_neg he] at h
          exact .inr (.inl ⟨rfl, by omega, by omega, he, h⟩)
      · rw [if_neg h2] at h
        by_cases h3 : c = 45
        · subst h3
          rw [if_pos (.inl rfl), if_neg (by decide), if_pos rfl] at h
          rw [if_neg (by decide), if_pos rfl] at hb
          exact .inr (.inr (.inl ⟨rfl, by omega, by omega, h⟩))
        · by_cases h4 : c = 43
          · subst h4
            rw [if_pos (.inr rfl), if_pos rfl, if_neg (by decide)] at h
            rw [if_pos rfl, if_neg (by decide)] at hb
            exact .inr (.inr (.inr ⟨rfl, by omega, by omega, h⟩))
          · rw [if_neg (by intro h; rcases h with h | h; exact h3 h; exact h4 h)] at h; simp at h

noncomputable def c18 : Code := Try.f18.body.getD .skip
noncomputable def c18b1 : Code := sub c18 [1,1,0,1,0,0]
theorem c18_eq : Try.f18.body = some (.seq (sub c18 [0]) (.seq (sub c18 [1,0]) (.seq (.seq (sub c18 [1,1,0,0]) (.block 0 (.loop c18b1))) (.seq (sub c18 [1,1,1,0]) (sub c18 [1,1,1,1]))))) := by kernel_rfl

set_option maxHeartbeats 4000000 in
set_option maxRecDepth 20000 in
theorem run_made {a b s : List UInt8} {d : Nat} {A : Mem} (ha : a.length ≤ 900000) (hb : b.length ≤ 900000) (hs : s.length ≤ 900000) (h : madeS a b s 0 0 0 = (d, true)) : Ans tb2 18 [strOf a, strOf b, strOf s] A (.tuple ⟨[.int .i64 (d : Nat), .bool true]⟩) A := by
  obtain ⟨v, A', hans, rfl, rfl⟩ : ∃ v A', Ans tb2 18 [strOf a, strOf b, strOf s] A v A' ∧ v = .tuple ⟨[.int .i64 (d : Nat), .bool true]⟩ ∧ A' = A := by
    refine ans_of_W (fn_at Try.func18) c18_eq (by rw [Try.ntmps18]; simp) (by kernel_rfl) (by kernel_rfl) ?_
    apply W.seq
    apply W.run 20
    · intro M
      simp (config := { maxSteps := 4000000 }) (disch := first | decide +kernel | (rw [wantF_guard]; simp only [wantD_some, dstAt_zero, dstAt_succ, T.get_set, T.get_e, Nat.reduceEqDiff, if_true, if_false, wantV_bool, wantV_unit, unitV, cond_true, cond_false, Bool.not_true, Bool.not_false, List.toList_toArray]) | omega) only [c18, Try.f18, Nat.ble, cond_true, cond_false, T.puts_cons, T.puts_nil, exec_seq, exec_block, nat_beq_self, exec_region, exec_cond, exec_skip, exec_ret, exec_exit, exec_scope, runOps_cons, runOps_nil, opF_move, opF_assign, opF_ari, opF_neq, opF_eql, opF_un, opF_index, opF_indexAddr, opF_fieldAddr, opF_field, opF_build, opF_slice, opF_extract, opF_pick, opF_load, opF_alloc, opF_box, opF_buildSlice, opF_makeSlice, opF_store, opF_conv, opF_len, opF_minmax, opF_builtin, opF_call, resK, ev_tmp, evG_some, ev_int, ev_bool, ev_str, evs, evp, evo, R.ok_bind, putT_some, putT_none, T.get_set, T.get_e, binF_int, op_rem, op_quo_u32, op_xor_u32, op_neq, op_eql, op_lss, op_add_i64, op_sub_u32, op_and_u8, op_xor_u8, op_not_u32, binF_shr_u32, binF_shr_u8, op_mul_i64, op_quo_i64, op_and_u32, binF_shl_u8, wrapF_u8, wrapF_u32, mod_u8, mod_u32, cond_val, Nat.lt_irrefl, Nat.not_lt_zero, if_true, if_false, reduceIte, Nat.reduceEqDiff, Nat.reduceAdd, ne_eq, not_true_eq_false, not_false_eq_true, decide_true, decide_false, Bool.false_eq_true, Bool.not_true, Bool.not_false, sub_nil, sub_seq0, sub_seq1, sub_cond0, sub_cond1, sub_block, sub_loop, sub_scope, sub_range0, sub_range1, Option.getD_some, at_ptr, at_slc, runOps_yes, runOps_no, exec_draw, op_sub_i64, op_sub_neg, op_lss_neg, binF_str, str_add, str_neq, str_eql, takeF, resF, oneOf, pickF, extractF, cells_str, cells_int, cells_agg, bool_eql, bool_neq, op_lssI, bne_self_eq_false, beq_self_eq_true, eq_self, cells_slc, cells_func, builtin_append, ev_nilslice, ev_nilfunc, ev_nilptr, ev_nilmap, opF_makeFunc, opF_callv, callV_func, callV_yield, op_leq, op_gtr, op_geq, cast_le, cast_lt, List.nil_append, List.cons_append, List.append_nil, un_not]
      with_reducible rfl
    apply W.seq
    apply W.run 20
    · intro M
      simp (config := { maxSteps := 4000000 }) (disch := first | decide +kernel | (rw [wantF_guard]; simp only [wantD_some, dstAt_zero, dstAt_succ, T.get_set, T.get_e, Nat.reduceEqDiff, if_true, if_false, wantV_bool, wantV_unit, unitV, cond_true, cond_false, Bool.not_true, Bool.not_false, List.toList_toArray]) | omega) only [c18, Try.f18, Nat.ble, cond_true, cond_false, T.puts_cons, T.puts_nil, exec_seq, exec_block, nat_beq_self, exec_region, exec_cond, exec_skip, exec_ret, exec_exit, exec_scope, runOps_cons, runOps_nil, opF_move, opF_assign, opF_ari, opF_neq, opF_eql, opF_un, opF_index, opF_indexAddr, opF_fieldAddr, opF_field, opF_build, opF_slice, opF_extract, opF_pick, opF_load, opF_alloc, opF_box, opF_buildSlice, opF_makeSlice, opF_store, opF_conv, opF_len, opF_minmax, opF_builtin, opF_call, resK, ev_tmp, evG_some, ev_int, ev_bool, ev_str, evs, evp, evo, R.ok_bind, putT_some, putT_none, T.get_set, T.get_e, binF_int, op_rem, op_quo_u32, op_xor_u32, op_neq, op_eql, op_lss, op_add_i64, op_sub_u32, op_and_u8, op_xor_u8, op_not_u32, binF_shr_u32, binF_shr_u8, op_mul_i64, op_quo_i64, op_and_u32, binF_shl_u8, wrapF_u8, wrapF_u32, mod_u8, mod_u32, cond_val, Nat.lt_irrefl, Nat.not_lt_zero, if_true, if_false, reduceIte, Nat.reduceEqDiff, Nat.reduceAdd, ne_eq, not_true_eq_false, not_false_eq_true, decide_true, decide_false, Bool.false_eq_true, Bool.not_true, Bool.not_false, sub_nil, sub_seq0, sub_seq1, sub_cond0, sub_cond1, sub_block, sub_loop, sub_scope, sub_range0, sub_range1, Option.getD_some, at_ptr, at_slc, runOps_yes, runOps_no, exec_draw, op_sub_i64, op_sub_neg, op_lss_neg, binF_str, str_add, str_neq, str_eql, takeF, resF, oneOf, pickF, extractF, cells_str, cells_int, cells_agg, bool_eql, bool_neq, op_lssI, bne_self_eq_false, beq_self_eq_true, eq_self, cells_slc, cells_func, builtin_append, ev_nilslice, ev_nilfunc, ev_nilptr, ev_nilmap, opF_makeFunc, opF_callv, callV_func, callV_yield, op_leq, op_gtr, op_geq, cast_le, cast_lt, List.nil_append, List.cons_append, List.append_nil, un_not]
      with_reducible rfl
    apply W.seq
    apply W.seq
    apply W.run 20
    · intro M
      simp (config := { maxSteps := 4000000 }) (disch := first | decide +kernel | (rw [wantF_guard]; simp only [wantD_some, dstAt_zero, dstAt_succ, T.get_set, T.get_e, Nat.reduceEqDiff, if_true, if_false, wantV_bool, wantV_unit, unitV, cond_true, cond_false, Bool.not_true, Bool.not_false, List.toList_toArray]) | omega) only [c18, Try.f18, Nat.ble, cond_true, cond_false, T.puts_cons, T.puts_nil, exec_seq, exec_block, nat_beq_self, exec_region, exec_cond, exec_skip, exec_ret, exec_exit, exec_scope, runOps_cons, runOps_nil, opF_move, opF_assign, opF_ari, opF_neq, opF_eql, opF_un, opF_index, opF_indexAddr, opF_fieldAddr, opF_field, opF_build, opF_slice, opF_extract, opF_pick, opF_load, opF_alloc, opF_box, opF_buildSlice, opF_makeSlice, opF_store, opF_conv, opF_len, opF_minmax, opF_builtin, opF_call, resK, ev_tmp, evG_some, ev_int, ev_bool, ev_str, evs, evp, evo, R.ok_bind, putT_some, putT_none, T.get_set, T.get_e, binF_int, op_rem, op_quo_u32, op_xor_u32, op_neq, op_eql, op_lss, op_add_i64, op_sub_u32, op_and_u8, op_xor_u8, op_not_u32, binF_shr_u32, binF_shr_u8, op_mul_i64, op_quo_i64, op_and_u32, binF_shl_u8, wrapF_u8, wrapF_u32, mod_u8, mod_u32, cond_val, Nat.lt_irrefl, Nat.not_lt_zero, if_true, if_false, reduceIte, Nat.reduceEqDiff, Nat.reduceAdd, ne_eq, not_true_eq_false, not_false_eq_true, decide_true, decide_false, Bool.false_eq_true, Bool.not_true, Bool.not_false, sub_nil, sub_seq0, sub_seq1, sub_cond0, sub_cond1, sub_block, sub_loop, sub_scope, sub_range0, sub_range1, Option.getD_some, at_ptr, at_slc, runOps_yes, runOps_no, exec_draw, op_sub_i64, op_sub_neg, op_lss_neg, binF_str, str_add, str_neq, str_eql, takeF, resF, oneOf, pickF, extractF, cells_str, cells_int, cells_agg, bool_eql, bool_neq, op_lssI, bne_self_eq_false, beq_self_eq_true, eq_self, cells_slc, cells_func, builtin_append, ev_nilslice, ev_nilfunc, ev_nilptr, ev_nilmap, opF_makeFunc, opF_callv, callV_func, callV_yield, op_leq, op_gtr, op_geq, cast_le, cast_lt, List.nil_append, List.cons_append, List.append_nil, un_not]
      with_reducible rfl
    apply W.block
    refine W.up s.length (fun n t C => C = A ∧ ∃ i k ch, i ≤ a.length ∧ k ≤ b.length ∧ ch ≤ n ∧ madeS a b (s.drop n) i k ch = (d, true) ∧ Sl t [(0, strOf a), (1, strOf b), (2, strOf s), (8, .int .i64 (i : Int)), (9, .int .i64 (k : Int)), (10, .int .i64 (ch : Int)), (11, .int .i64 (n : Int))]) ?_ (Nat.zero_le _) ⟨rfl, 0, 0, 0, Nat.zero_le _, Nat.zero_le _, Nat.le_refl _, h, ?_⟩
    · rintro n t C hn ⟨rfl, i, k, ch, hi, hk, hch, hm, g0, g1, g2, g8, g9, g10, g11, -⟩
      by_cases hlt : n < s.length
      · have ed : s.drop n = s.getD n 0 :: s.drop (n + 1) := by
          rw [List.drop_eq_getElem_cons hlt]; simp [List.getD, List.getElem?_eq_getElem hlt]
        rw [ed] at hm
        rcases made_step hm with ⟨e, h1, h2, h3, h4⟩ | ⟨e, h1, h2, h3, h4⟩ | ⟨e, h1, h2, h4⟩ | ⟨e, h1, h2, h4⟩
        · have hc : (s.getD n 0).toNat = 61 := by rw [e]; rfl
          have s1 : intOpF .sub .i64 ((i + 1 : Nat) : Int) ((1 : Nat) : Int) = .ok (.int .i64 (i : Int)) := by
            have h := op_sub_i64 (a := i + 1) (b := 1) (by omega) (by omega); rw [Nat.add_sub_cancel] at h; exact h
          have s2 : intOpF .sub .i64 ((k + 1 : Nat) : Int) ((1 : Nat) : Int) = .ok (.int .i64 (k : Int)) := by
            have h := op_sub_i64 (a := k + 1) (b := 1) (by omega) (by omega); rw [Nat.add_sub_cancel] at h; exact h
          have b1 : ¬ a.length < i + 1 := by omega
          have b2 : ¬ b.length < k + 1 := by omega
          have l1 : i < a.length := by omega
          have l2 : k < b.length := by omega
          apply W.run 20
          · intro M
            simp (config := { maxSteps := 4000000 }) (disch := first | decide +kernel | (rw [wantF_guard]; simp only [wantD_some, dstAt_zero, dstAt_succ, T.get_set, T.get_e, Nat.reduceEqDiff, if_true, if_false, wantV_bool, wantV_unit, unitV, cond_true, cond_false, Bool.not_true, Bool.not_false, List.toList_toArray]) | omega) only [c18b1, c18, Try.f18, Nat.ble, cond_true, cond_false, T.puts_cons, T.puts_nil, exec_seq, exec_block, nat_beq_self, exec_region, exec_cond, exec_skip, exec_ret, exec_exit, exec_scope, runOps_cons, runOps_nil, opF_move, opF_assign, opF_ari, opF_neq, opF_eql, opF_un, opF_index, opF_indexAddr, opF_fieldAddr, opF_field, opF_build, opF_slice, opF_extract, opF_pick, opF_load, opF_alloc, opF_box, opF_buildSlice, opF_makeSlice, opF_store, opF_conv, opF_len, opF_minmax, opF_builtin, opF_call, resK, ev_tmp, evG_some, ev_int, ev_bool, ev_str, evs, evp, evo, R.ok_bind, putT_some, putT_none, T.get_set, T.get_e, binF_int, op_rem, op_quo_u32, op_xor_u32, op_neq, op_eql, op_lss, op_add_i64, op_sub_u32, op_and_u8, op_xor_u8, op_not_u32, binF_shr_u32, binF_shr_u8, op_mul_i64, op_quo_i64, op_and_u32, binF_shl_u8, wrapF_u8, wrapF_u32, mod_u8, mod_u32, cond_val, Nat.lt_irrefl, Nat.not_lt_zero, if_true, if_false, reduceIte, Nat.reduceEqDiff, Nat.reduceAdd, ne_eq, not_true_eq_false, not_false_eq_true, decide_true, decide_false, Bool.false_eq_true, Bool.not_true, Bool.not_false, sub_nil, sub_seq0, sub_seq1, sub_cond0, sub_cond1, sub_block, sub_loop, sub_scope, sub_range0, sub_range1, Option.getD_some, at_ptr, at_slc, runOps_yes, runOps_no, exec_draw, op_sub_i64, op_sub_neg, op_lss_neg, binF_str, str_add, str_neq, str_eql, takeF, resF, oneOf, pickF, extractF, cells_str, cells_int, cells_agg, bool_eql, bool_neq, op_lssI, bne_self_eq_false, beq_self_eq_true, eq_self, cells_slc, cells_func, builtin_append, ev_nilslice, ev_nilfunc, ev_nilptr, ev_nilmap, opF_makeFunc, opF_callv, callV_func, callV_yield, op_leq, op_gtr, op_geq, cast_le, cast_lt, List.nil_append, List.cons_append, List.append_nil, un_not, g0, g1, g2, g8, g9, g10, g11, len_str wnd9, hlt, index_str wnd9, hc, b1, b2, l1, l2, s1, s2, h3]
            with_reducible rfl
          refine ⟨hlt, _, _, rfl, rfl, i + 1, k + 1, ch, h1, h2, by omega, h4, ?_⟩
          simp only [Sl_cons, Sl_nil, T.get_set, T.puts_cons, T.puts_nil, Nat.reduceEqDiff, Nat.reduceAdd, if_true, if_false, and_true, true_and, g0, g1, g2, g10]
        · have hc : (s.getD n 0).toNat = 120 := by rw [e]; rfl
          have s1 : intOpF .sub .i64 ((i + 1 : Nat) : Int) ((1 : Nat) : Int) = .ok (.int .i64 (i : Int)) := by
            have h := op_sub_i64 (a := i + 1) (b := 1) (by omega) (by omega); rw [Nat.add_sub_cancel] at h; exact h
          have s2 : intOpF .sub .i64 ((k + 1 : Nat) : Int) ((1 : Nat) : Int) = .ok (.int .i64 (k : Int)) := by
            have h := op_sub_i64 (a := k + 1) (b := 1) (by omega) (by omega); rw [Nat.add_sub_cancel] at h; exact h
          have b1 : ¬ a.length < i + 1 := by omega
          have b2 : ¬ b.length < k + 1 := by omega
          have l1 : i < a.length := by omega
          have l2 : k < b.length := by omega
          have hne : ¬ (a.getD i 0).toNat = (b.getD k 0).toNat := fun h => h3 (UInt8.toNat_inj.1 h)
          apply W.run 20
          · intro M
            simp (config := { maxSteps := 4000000 }) (disch := first | decide +kernel | (rw [wantF_guard]; simp only [wantD_some, dstAt_zero, dstAt_succ, T.get_set, T.get_e, Nat.reduceEqDiff, if_true, if_false, wantV_bool, wantV_unit, unitV, cond_true, cond_false, Bool.not_true, Bool.not_false, List.toList_toArray]) | omega) only [c18b1, c18, Try.f18, Nat.ble, cond_true, cond_false, T.puts_cons, T.puts_nil, exec_seq, exec_block, nat_beq_self, exec_region, exec_cond, exec_skip, exec_ret, exec_exit, exec_scope, runOps_cons, runOps_nil, opF_move, opF_assign, opF_ari, opF_neq, opF_eql, opF_un, opF_index, opF_indexAddr, opF_fieldAddr, opF_field, opF_build, opF_slice, opF_extract, opF_pick, opF_load, opF_alloc, opF_box, opF_buildSlice, opF_makeSlice, opF_store, opF_conv, opF_len, opF_minmax, opF_builtin, opF_call, resK, ev_tmp, evG_some, ev_int, ev_bool, ev_str, evs, evp, evo, R.ok_bind, putT_some, putT_none, T.get_set, T.get_e, binF_int, op_rem, op_quo_u32, op_xor_u32, op_neq, op_eql, op_lss, op_add_i64, op_sub_u32, op_and_u8, op_xor_u8, op_not_u32, binF_shr_u32, binF_shr_u8, op_mul_i64, op_quo_i64, op_and_u32, binF_shl_u8, wrapF_u8, wrapF_u32, mod_u8, mod_u32, cond_val, Nat.lt_irrefl, Nat.not_lt_zero, if_true, if_false, reduceIte, Nat.reduceEqDiff, Nat.reduceAdd, ne_eq, not_true_eq_false, not_false_eq_true, decide_true, decide_false, Bool.false_eq_true, Bool.not_true, Bool.not_false, sub_nil, sub_seq0, sub_seq1, sub_cond0, sub_cond1, sub_block, sub_loop, sub_scope, sub_range0, sub_range1, Option.getD_some, at_ptr, at_slc, runOps_yes, runOps_no, exec_draw, op_sub_i64, op_sub_neg, op_lss_neg, binF_str, str_add, str_neq, str_eql, takeF, resF, oneOf, pickF, extractF, cells_str, cells_int, cells_agg, bool_eql, bool_neq, op_lssI, bne_self_eq_false, beq_self_eq_true, eq_self, cells_slc, cells_func, builtin_append, ev_nilslice, ev_nilfunc, ev_nilptr, ev_nilmap, opF_makeFunc, opF_callv, callV_func, callV_yield, op_leq, op_gtr, op_geq, cast_le, cast_lt, List.nil_append, List.cons_append, List.append_nil, un_not, g0, g1, g2, g8, g9, g10, g11, len_str wnd9, hlt, index_str wnd9, hc, b1, b2, l1, l2, s1, s2, hne]
            with_reducible rfl
          refine ⟨hlt, _, _, rfl, rfl, i + 1, k + 1, ch + 1, h1, h2, by omega, h4, ?_⟩
          simp only [Sl_cons, Sl_nil, T.get_set, T.puts_cons, T.puts_nil, Nat.reduceEqDiff, Nat.reduceAdd, if_true, if_false, and_true, true_and, g0, g1, g2]
        · have hc : (s.getD n 0).toNat = 45 := by rw [e]; rfl
          have b1 : ¬ a.length < i + 1 := by omega
          have b2 : ¬ b.length < k := by omega
          apply W.run 20
          · intro M
            simp (config := { maxSteps := 4000000 }) (disch := first | decide +kernel | (rw [wantF_guard]; simp only [wantD_some, dstAt_zero, dstAt_succ, T.get_set, T.get_e, Nat.reduceEqDiff, if_true, if_false, wantV_bool, wantV_unit, unitV, cond_true, cond_false, Bool.not_true, Bool.not_false, List.toList_toArray]) | omega) only [c18b1, c18, Try.f18, Nat.ble, cond_true, cond_false, T.puts_cons, T.puts_nil, exec_seq, exec_block, nat_beq_self, exec_region, exec_cond, exec_skip, exec_ret, exec_exit, exec_scope, runOps_cons, runOps_nil, opF_move, opF_assign, opF_ari, opF_neq, opF_eql, opF_un, opF_index, opF_indexAddr, opF_fieldAddr, opF_field, opF_build, opF_slice, opF_extract, opF_pick, opF_load, opF_alloc, opF_box, opF_buildSlice, opF_makeSlice, opF_store, opF_conv, opF_len, opF_minmax, opF_builtin, opF_call, resK, ev_tmp, evG_some, ev_int, ev_bool, ev_str, evs, evp, evo, R.ok_bind, putT_some, putT_none, T.get_set, T.get_e, binF_int, op_rem, op_quo_u32, op_xor_u32, op_neq, op_eql, op_lss, op_add_i64, op_sub_u32, op_and_u8, op_xor_u8, op_not_u32, binF_shr_u32, binF_shr_u8, op_mul_i64, op_quo_i64, op_and_u32, binF_shl_u8, wrapF_u8, wrapF_u32, mod_u8, mod_u32, cond_val, Nat.lt_irrefl, Nat.not_lt_zero, if_true, if_false, reduceIte, Nat.reduceEqDiff, Nat.reduceAdd, ne_eq, not_true_eq_false, not_false_eq_true, decide_true, decide_false, Bool.false_eq_true, Bool.not_true, Bool.not_false, sub_nil, sub_seq0, sub_seq1, sub_cond0, sub_cond1, sub_block, sub_loop, sub_scope, sub_range0, sub_range1, Option.getD_some, at_ptr, at_slc, runOps_yes, runOps_no, exec_draw, op_sub_i64, op_sub_neg, op_lss_neg, binF_str, str_add, str_neq, str_eql, takeF, resF, oneOf, pickF, extractF, cells_str, cells_int, cells_agg, bool_eql, bool_neq, op_lssI, bne_self_eq_false, beq_self_eq_true, eq_self, cells_slc, cells_func, builtin_append, ev_nilslice, ev_nilfunc, ev_nilptr, ev_nilmap, opF_makeFunc, opF_callv, callV_func, callV_yield, op_leq, op_gtr, op_geq, cast_le, cast_lt, List.nil_append, List.cons_append, List.append_nil, un_not, g0, g1, g2, g8, g9, g10, g11, len_str wnd9, hlt, index_str wnd9, hc, b1, b2]
            with_reducible rfl
          refine ⟨hlt, _, _, rfl, rfl, i + 1, k, ch + 1, h1, h2, by omega, h4, ?_⟩
          simp only [Sl_cons, Sl_nil, T.get_set, T.puts_cons, T.puts_nil, Nat.reduceEqDiff, Nat.reduceAdd, if_true, if_false, and_true, true_and, g0, g1, g2, g9]
        · have hc : (s.getD n 0).toNat = 43 := by rw [e]; rfl
          have b1 : ¬ a.length < i := by omega
          have b2 : ¬ b.length < k + 1 := by omega
          apply W.run 20
          · intro M
            simp (config := { maxSteps := 4000000 }) (disch := first | decide +kernel | (rw [wantF_guard]; simp only [wantD_some, dstAt_zero, dstAt_succ, T.get_set, T.get_e, Nat.reduceEqDiff, if_true, if_false, wantV_bool, wantV_unit, unitV, cond_true, cond_false, Bool.not_true, Bool.not_false, List.toList_toArray]) | omega) only [c18b1, c18, Try.f18, Nat.ble, cond_true, cond_false, T.puts_cons, T.puts_nil, exec_seq, exec_block, nat_beq_self, exec_region, exec_cond, exec_skip, exec_ret, exec_exit, exec_scope, runOps_cons, runOps_nil, opF_move, opF_assign, opF_ari, opF_neq, opF_eql, opF_un, opF_index, opF_indexAddr, opF_fieldAddr, opF_field, opF_build, opF_slice, opF_extract, opF_pick, opF_load, opF_alloc, opF_box, opF_buildSlice, opF_makeSlice, opF_store, opF_conv, opF_len, opF_minmax, opF_builtin, opF_call, resK, ev_tmp, evG_some, ev_int, ev_bool, ev_str, evs, evp, evo, R.ok_bind, putT_some, putT_none, T.get_set, T.get_e, binF_int, op_rem, op_quo_u32, op_xor_u32, op_neq, op_eql, op_lss, op_add_i64, op_sub_u32, op_and_u8, op_xor_u8, op_not_u32, binF_shr_u32, binF_shr_u8, op_mul_i64, op_quo_i64, op_and_u32, binF_shl_u8, wrapF_u8, wrapF_u32, mod_u8, mod_u32, cond_val, Nat.lt_irrefl, Nat.not_lt_zero, if_true, if_false, reduceIte, Nat.reduceEqDiff, Nat.reduceAdd, ne_eq, not_true_eq_false, not_false_eq_true, decide_true, decide_false, Bool.false_eq_true, Bool.not_true, Bool.not_false, sub_nil, sub_seq0, sub_seq1, sub_cond0, sub_cond1, sub_block, sub_loop, sub_scope, sub_range0, sub_range1, Option.getD_some, at_ptr, at_slc, runOps_yes, runOps_no, exec_draw, op_sub_i64, op_sub_neg, op_lss_neg, binF_str, str_add, str_neq, str_eql, takeF, resF, oneOf, pickF, extractF, cells_str, cells_int, cells_agg, bool_eql, bool_neq, op_lssI, bne_self_eq_false, beq_self_eq_true, eq_self, cells_slc, cells_func, builtin_append, ev_nilslice, ev_nilfunc, ev_nilptr, ev_nilmap, opF_makeFunc, opF_callv, callV_func, callV_yield, op_leq, op_gtr, op_geq, cast_le, cast_lt, List.nil_append, List.cons_append, List.append_nil, un_not, g0, g1, g2, g8, g9, g10, g11, len_str wnd9, hlt, index_str wnd9, hc, b1, b2]
            with_reducible rfl
          refine ⟨hlt, _, _, rfl, rfl, i, k + 1, ch + 1, h1, h2, by omega, h4, ?_⟩
          simp only [Sl_cons, Sl_nil, T.get_set, T.puts_cons, T.puts_nil, Nat.reduceEqDiff, Nat.reduceAdd, if_true, if_false, and_true, true_and, g0, g1, g2, g8]
      · have hns : n = s.length := by omega
        rw [List.drop_of_length_le (by omega)] at hm
        simp only [madeS, Prod.mk.injEq, decide_eq_true_eq] at hm
        obtain ⟨rfl, e1, e2⟩ := hm
        apply W.run 20
        · intro M
          simp (config := { maxSteps := 4000000 }) (disch := first | decide +kernel | (rw [wantF_guard]; simp only [wantD_some, dstAt_zero, dstAt_succ, T.get_set, T.get_e, Nat.reduceEqDiff, if_true, if_false, wantV_bool, wantV_unit, unitV, cond_true, cond_false, Bool.not_true, Bool.not_false, List.toList_toArray]) | omega) only [c18b1, c18, Try.f18, Nat.ble, cond_true, cond_false, T.puts_cons, T.puts_nil, exec_seq, exec_block, nat_beq_self, exec_region, exec_cond, exec_skip, exec_ret, exec_exit, exec_scope, runOps_cons, runOps_nil, opF_move, opF_assign, opF_ari, opF_neq, opF_eql, opF_un, opF_index, opF_indexAddr, opF_fieldAddr, opF_field, opF_build, opF_slice, opF_extract, opF_pick, opF_load, opF_alloc, opF_box, opF_buildSlice, opF_makeSlice, opF_store, opF_conv, opF_len, opF_minmax, opF_builtin, opF_call, resK, ev_tmp, evG_some, ev_int, ev_bool, ev_str, evs, evp, evo, R.ok_bind, putT_some, putT_none, T.get_set, T.get_e, binF_int, op_rem, op_quo_u32, op_xor_u32, op_neq, op_eql, op_lss, op_add_i64, op_sub_u32, op_and_u8, op_xor_u8, op_not_u32, binF_shr_u32, binF_shr_u8, op_mul_i64, op_quo_i64, op_and_u32, binF_shl_u8, wrapF_u8, wrapF_u32, mod_u8, mod_u32, cond_val, Nat.lt_irrefl, Nat.not_lt_zero, if_true, if_false, reduceIte, Nat.reduceEqDiff, Nat.reduceAdd, ne_eq, not_true_eq_false, not_false_eq_true, decide_true, decide_false, Bool.false_eq_true, Bool.not_true, Bool.not_false, sub_nil, sub_seq0, sub_seq1, sub_cond0, sub_cond1, sub_block, sub_loop, sub_scope, sub_range0, sub_range1, Option.getD_some, at_ptr, at_slc, runOps_yes, runOps_no, exec_draw, op_sub_i64, op_sub_neg, op_lss_neg, binF_str, str_add, str_neq, str_eql, takeF, resF, oneOf, pickF, extractF, cells_str, cells_int, cells_agg, bool_eql, bool_neq, op_lssI, bne_self_eq_false, beq_self_eq_true, eq_self, cells_slc, cells_func, builtin_append, ev_nilslice, ev_nilfunc, ev_nilptr, ev_nilmap, opF_makeFunc, opF_callv, callV_func, callV_yield, op_leq, op_gtr, op_geq, cast_le, cast_lt, List.nil_append, List.cons_append, List.append_nil, un_not, g2, g11, len_str wnd9, hlt]
          with_reducible rfl
        show W tb2 _ _ _
        apply W.seq
        apply W.run 20
        · intro M
          simp (config := { maxSteps := 4000000 }) (disch := first | decide +kernel | (rw [wantF_guard]; simp only [wantD_some, dstAt_zero, dstAt_succ, T.get_set, T.get_e, Nat.reduceEqDiff, if_true, if_false, wantV_bool, wantV_unit, unitV, cond_true, cond_false, Bool.not_true, Bool.not_false, List.toList_toArray]) | omega) only [c18, Try.f18, Nat.ble, cond_true, cond_false, T.puts_cons, T.puts_nil, exec_seq, exec_block, nat_beq_self, exec_region, exec_cond, exec_skip, exec_ret, exec_exit, exec_scope, runOps_cons, runOps_nil, opF_move, opF_assign, opF_ari, opF_neq, opF_eql, opF_un, opF_index, opF_indexAddr, opF_fieldAddr, opF_field, opF_build, opF_slice, opF_extract, opF_pick, opF_load, opF_alloc, opF_box, opF_buildSlice, opF_makeSlice, opF_store, opF_conv, opF_len, opF_minmax, opF_builtin, opF_call, resK, ev_tmp, evG_some, ev_int, ev_bool, ev_str, evs, evp, evo, R.ok_bind, putT_some, putT_none, T.get_set, T.get_e, binF_int, op_rem, op_quo_u32, op_xor_u32, op_neq, op_eql, op_lss, op_add_i64, op_sub_u32, op_and_u8, op_xor_u8, op_not_u32, binF_shr_u32, binF_shr_u8, op_mul_i64, op_quo_i64, op_and_u32, binF_shl_u8, wrapF_u8, wrapF_u32, mod_u8, mod_u32, cond_val, Nat.lt_irrefl, Nat.not_lt_zero, if_true, if_false, reduceIte, Nat.reduceEqDiff, Nat.reduceAdd, ne_eq, not_true_eq_false, not_false_eq_true, decide_true, decide_false, Bool.false_eq_true, Bool.not_true, Bool.not_false, sub_nil, sub_seq0, sub_seq1, sub_cond0, sub_cond1, sub_block, sub_loop, sub_scope, sub_range0, sub_range1, Option.getD_some, at_ptr, at_slc, runOps_yes, runOps_no, exec_draw, op_sub_i64, op_sub_neg, op_lss_neg, binF_str, str_add, str_neq, str_eql, takeF, resF, oneOf, pickF, extractF, cells_str, cells_int, cells_agg, bool_eql, bool_neq, op_lssI, bne_self_eq_false, beq_self_eq_true, eq_self, cells_slc, cells_func, builtin_append, ev_nilslice, ev_nilfunc, ev_nilptr, ev_nilmap, opF_makeFunc, opF_callv, callV_func, callV_yield, op_leq, op_gtr, op_geq, cast_le, cast_lt, List.nil_append, List.cons_append, List.append_nil, un_not, g0, g1, g8, g9, g10, len_str wnd9, e1, e2]
          with_reducible rfl
        apply W.run 20
        · intro M
          simp (config := { maxSteps := 4000000 }) (disch := first | decide +kernel | (rw [wantF_guard]; simp only [wantD_some, dstAt_zero, dstAt_succ, T.get_set, T.get_e, Nat.reduceEqDiff, if_true, if_false, wantV_bool, wantV_unit, unitV, cond_true, cond_false, Bool.not_true, Bool.not_false, List.toList_toArray]) | omega) only [c18, Try.f18, Nat.ble, cond_true, cond_false, T.puts_cons, T.puts_nil, exec_seq, exec_block, nat_beq_self, exec_region, exec_cond, exec_skip, exec_ret, exec_exit, exec_scope, runOps_cons, runOps_nil, opF_move, opF_assign, opF_ari, opF_neq, opF_eql, opF_un, opF_index, opF_indexAddr, opF_fieldAddr, opF_field, opF_build, opF_slice, opF_extract, opF_pick, opF_load, opF_alloc, opF_box, opF_buildSlice, opF_makeSlice, opF_store, opF_conv, opF_len, opF_minmax, opF_builtin, opF_call, resK, ev_tmp, evG_some, ev_int, ev_bool, ev_str, evs, evp, evo, R.ok_bind, putT_some, putT_none, T.get_set, T.get_e, binF_int, op_rem, op_quo_u32, op_xor_u32, op_neq, op_eql, op_lss, op_add_i64, op_sub_u32, op_and_u8, op_xor_u8, op_not_u32, binF_shr_u32, binF_shr_u8, op_mul_i64, op_quo_i64, op_and_u32, binF_shl_u8, wrapF_u8, wrapF_u32, mod_u8, mod_u32, cond_val, Nat.lt_irrefl, Nat.not_lt_zero, if_true, if_false, reduceIte, Nat.reduceEqDiff, Nat.reduceAdd, ne_eq, not_true_eq_false, not_false_eq_true, decide_true, decide_false, Bool.false_eq_true, Bool.not_true, Bool.not_false, sub_nil, sub_seq0, sub_seq1, sub_cond0, sub_cond1, sub_block, sub_loop, sub_scope, sub_range0, sub_range1, Option.getD_some, at_ptr, at_slc, runOps_yes, runOps_no, exec_draw, op_sub_i64, op_sub_neg, op_lss_neg, binF_str, str_add, str_neq, str_eql, takeF, resF, oneOf, pickF, extractF, cells_str, cells_int, cells_agg, bool_eql, bool_neq, op_lssI, bne_self_eq_false, beq_self_eq_true, eq_self, cells_slc, cells_func, builtin_append, ev_nilslice, ev_nilfunc, ev_nilptr, ev_nilmap, opF_makeFunc, opF_callv, callV_func, callV_yield, op_leq, op_gtr, op_geq, cast_le, cast_lt, List.nil_append, List.cons_append, List.append_nil, un_not]
          with_reducible rfl
        refine ⟨.inr rfl, _, [.int .i64 (ch : Nat), .bool true], rfl, ?_, rfl, rfl⟩
        simp only [Try.f18, resF, ev_tmp, T.get_set, Nat.reduceEqDiff, if_true, if_false, evG_some, R.ok_bind]
    · simp only [Sl_cons, Sl_nil, T.get_set, T.puts_cons, T.puts_nil, Nat.reduceEqDiff, Nat.reduceAdd, if_true, if_false, and_true, true_and]
  exact hans

/-! ### The law -/
noncomputable def c5 : Code := Try.f5.body.getD .skip
noncomputable def c5b1 : Code := sub c5 [1,1,1,1,1,1,1,0,1,0,0]
theorem c5_eq : Try.f5.body = some (.seq (sub c5 [0]) (.seq (.seq (sub c5 [1,0,0]) (sub c5 [1,0,1])) (.seq (sub c5 [1,1,0]) (.seq (sub c5 [1,1,1,0]) (.seq (.seq (sub c5 [1,1,1,1,0,0]) (sub c5 [1,1,1,1,0,1])) (.seq (sub c5 [1,1,1,1,1,0]) (.seq (sub c5 [1,1,1,1,1,1,0]) (.seq (.seq (sub c5 [1,1,1,1,1,1,1,0,0]) (.block 0 (.loop c5b1))) (.seq (sub c5 [1,1,1,1,1,1,1,1,0]) (sub c5 [1,1,1,1,1,1,1,1,1])))))))))) := by kernel_rfl
theorem wnd37 : tb2.und 37 = some (.slice 39) := by kernel_rfl
theorem wnd39 : tb2.und 39 = some (.int .u16) := by kernel_rfl
theorem wize39 : sizeF tb2 39 = .ok 1 := by kernel_rfl
theorem ws35 (a : Int) : buildSliceF tb2 35 1 [(0, .int .u8 a)] = .ok (rowOb 5 [.int .u8 a], .slc 1 2) := by kernel_rfl
def shorts (l : List Nat) : List Value := l.map fun n : Nat => Value.int .u16 (n : Int)
theorem shorts_len (l : List Nat) : (shorts l).length = l.length := by simp [shorts]
theorem shorts_get {l : List Nat} {i n : Nat} (h : l[i]? = some n) : (shorts l)[i]? = some (.int .u16 (n : Int)) := by simp [shorts, h]
theorem near_more (x : UInt8) (p q : List UInt8) : Go.Dist.dist (p ++ q) (p ++ [x] ++ q) ≤ 1 := by
  have h := (Ed.refl p).append ((Ed.ins x .nil).append (Ed.refl q))
  rw [List.append_assoc]
  exact dist_le (by simpa using h)
theorem near_less (x : UInt8) (p q : List UInt8) : Go.Dist.dist (p ++ x :: q) (p ++ q) ≤ 1 := by
  have h := (Ed.refl p).append (Ed.del x (Ed.refl q))
  exact dist_le (by simpa using h)
theorem near_other (x y : UInt8) (p q : List UInt8) : Go.Dist.dist (p ++ x :: q) (p ++ [y] ++ q) ≤ 1 := by
  have h := (Ed.refl p).append (Ed.sub x y (Ed.refl q))
  rw [List.append_assoc]
  exact dist_le (by simpa using h)
/-- The slots of a round. -/
def scrS (a b c : List UInt8) (x : Value) (many i : Nat) : List (Nat × Value) :=
  [(0, strOf a), (1, strOf b), (2, x), (9, strOf c), (10, .int .i64 (many : Int)), (11, .int .i64 (i : Int))]

set_option maxHeartbeats 8000000 in
set_option maxRecDepth 20000 in
theorem scr_loop {a b : List UInt8} {x : Value} {ns : List Nat} {A : Mem} {t : T Value} {K : Ex → St → Prop} (ha : a.length ≤ 40) (hns : ∀ n ∈ ns, n < 65536) (hp : ParS A (shorts ns) x) (h : Sl t (scrS a b a x 0 0))
    (hK : ∀ t' A' c many, Go.Dist.dist a c ≤ many → c.length ≤ 46 → Sl t' (scrS a b c x many 0 |>.take 5) → K (.exit 0) ⟨t', 122, [], A', none⟩) : W tb2 (.loop c5b1) ⟨t, 122, [], A, none⟩ K := by
  refine W.up (min ns.length 6) (fun i t C => ∃ c many, Go.Dist.dist a c ≤ many ∧ c.length ≤ 40 + i ∧ many ≤ i ∧ ParS C (shorts ns) x ∧ Sl t (scrS a b c x many i)) ?_ (Nat.zero_le _) ⟨a, 0, by rw [(dist_zero a a).2 rfl]; exact Nat.le_refl _, ha, Nat.le_refl _, hp, h⟩
  rintro i t C hi ⟨c, many, hd, hcl, hmi, hpC, g0, g1, g2, g9, g10, g11, -⟩
  have hlen := hpC.len (tb := tb2) (t := 37) wnd37
  by_cases hlt : i < min ns.length 6
  · have h1 : i < ns.length := by omega
    have h2 : i < 6 := by omega
    have hix := hpC.idx (tb := tb2) (t := 37) (i := i) (kd := .i64) wnd37 wize39 (by rw [shorts_len]; omega)
    have hld := hpC.load (tb := tb2) (t := 39) (o := i) wnd39 rfl (shorts_get (getD_some h1))
    have hz : ns.getD i 0 < 65536 := hns _ (by rw [List.getD, List.getElem?_eq_getElem h1]; exact List.getElem_mem ..)
    generalize ns.getD i 0 = z at hld hz
    have hat : z / 16 % (c.length + 1) ≤ c.length := Nat.le_of_lt_succ (Nat.mod_lt _ (by omega))
    have hchar : 97 + z % 4 < 256 := by omega
    have hq16 : z / 16 < 65536 := by omega
    have hcv : convRF tb2 (C.alloc (rowOb 5 [.int .u8 ((97 + z % 4 : Nat) : Int)])).get 35 9 (.slice (some ⟨C.next, 0, none⟩) 1 2) = .ok (strOf [UInt8.ofNat (97 + z % 4)]) :=
      str_of_bytes (tb := tb2) (l := [UInt8.ofNat (97 + z % 4)]) wnd35 wnd9 wnd5 (k := .var 1) (by
        unfold Bytes; rw [get_alloc_self]
        have e : byteV (UInt8.ofNat (97 + z % 4)) = .int .u8 ((97 + z % 4 : Nat) : Int) := (byteV_ofNat hchar).symm
        show some (rowOb 5 [_]) = some (Ob.cells 5 (.var 1) 0 (T.puts .e 0 [byteV (UInt8.ofNat (97 + z % 4))]))
        rw [e]; rfl)
    generalize UInt8.ofNat (97 + z % 4) = ch at hcv
    have hp2 : ParS (C.alloc (rowOb 5 [.int .u8 ((97 + z % 4 : Nat) : Int)])) (shorts ns) x := hpC.same (by rw [next_alloc]; omega) (fun h0 => get_alloc_ne (by omega))
    have l0 : ([ch] : List UInt8).length = 1 := rfl
    have e34 : z / 4 % 3 < 3 := Nat.mod_lt _ (by omega)
    generalize hatd : z / 16 % (c.length + 1) = at_ at hat
    have l6 : (c.take at_).length = at_ := by rw [List.length_take]; omega
    have l7 : (c.drop at_).length = c.length - at_ := List.length_drop
    have l8 : (c.take at_ ++ [ch]).length = at_ + 1 := by rw [List.length_append, l6]; rfl
    by_cases h30 : z / 4 % 3 = 0
    · have hn := near_more ch (c.take at_) (c.drop at_)
      rw [List.take_append_drop] at hn
      have ht := dist_tri a c (c.take at_ ++ [ch] ++ c.drop at_)
      apply W.run 20
      · intro M
        simp (config := { maxSteps := 4000000 }) (disch := first | decide +kernel | (rw [wantF_guard]; simp only [wantD_some, dstAt_zero, dstAt_succ, T.get_set, T.get_e, Nat.reduceEqDiff, if_true, if_false, wantV_bool, wantV_unit, unitV, cond_true, cond_false, Bool.not_true, Bool.not_false, List.toList_toArray]) | omega) only [c5b1, c5, Try.f5, Nat.ble, cond_true, cond_false, T.puts_cons, T.puts_nil, exec_seq, exec_block, nat_beq_self, exec_region, exec_cond, exec_skip, exec_ret, exec_exit, exec_scope, runOps_cons, runOps_nil, opF_move, opF_assign, opF_ari, opF_neq, opF_eql, opF_un, opF_index, opF_indexAddr, opF_fieldAddr, opF_field, opF_build, opF_slice, opF_extract, opF_pick, opF_load, opF_alloc, opF_box, opF_buildSlice, opF_makeSlice, opF_store, opF_conv, opF_len, opF_minmax, opF_builtin, opF_call, resK, ev_tmp, evG_some, ev_int, ev_bool, ev_str, evs, evp, evo, R.ok_bind, putT_some, putT_none, T.get_set, T.get_e, binF_int, op_rem, op_quo_u32, op_xor_u32, op_neq, op_eql, op_lss, op_add_i64, op_sub_u32, op_and_u8, op_xor_u8, op_not_u32, binF_shr_u32, binF_shr_u8, op_mul_i64, op_quo_i64, op_and_u32, binF_shl_u8, wrapF_u8, wrapF_u32, mod_u8, mod_u32, cond_val, Nat.lt_irrefl, Nat.not_lt_zero, if_true, if_false, reduceIte, Nat.reduceEqDiff, Nat.reduceAdd, ne_eq, not_true_eq_false, not_false_eq_true, decide_true, decide_false, Bool.false_eq_true, Bool.not_true, Bool.not_false, sub_nil, sub_seq0, sub_seq1, sub_cond0, sub_cond1, sub_block, sub_loop, sub_scope, sub_range0, sub_range1, Option.getD_some, at_ptr, at_slc, runOps_yes, runOps_no, exec_draw, op_sub_i64, op_sub_neg, op_lss_neg, binF_str, str_add, str_neq, str_eql, takeF, resF, oneOf, pickF, extractF, cells_str, cells_int, cells_agg, bool_eql, bool_neq, op_lssI, bne_self_eq_false, beq_self_eq_true, eq_self, cells_slc, cells_func, builtin_append, ev_nilslice, ev_nilfunc, ev_nilptr, ev_nilmap, opF_makeFunc, opF_callv, callV_func, callV_yield, op_leq, op_gtr, op_geq, cast_le, cast_lt, List.nil_append, List.cons_append, List.append_nil, un_not, g2, g9, g10, g11, hlen, shorts_len, h1, h2, hix, hld, convPF, wnd39, wnd3, wnd5, wrapF_i64, wrapF_u8, len_str wnd9, hatd, ws35, opF_convStr _ _ _ _ _ _ _ _ _ _ wnd35 wnd9, hcv, h30, slice_to wnd9, slice_from wnd9]
        with_reducible rfl
      refine ⟨hlt, _, _, rfl, c.take at_ ++ [ch] ++ c.drop at_, many + 1, by omega, by rw [List.length_append, l8, l7]; omega, by omega, hp2, ?_⟩
      unfold scrS; simp only [Sl_cons, Sl_nil, T.get_set, T.puts_cons, T.puts_nil, Nat.reduceEqDiff, Nat.reduceAdd, if_true, if_false, and_true, true_and, g0, g1, g2]
    · by_cases hend : at_ = c.length
      · apply W.run 20
        · intro M
          simp (config := { maxSteps := 4000000 }) (disch := first | decide +kernel | (rw [wantF_guard]; simp only [wantD_some, dstAt_zero, dstAt_succ, T.get_set, T.get_e, Nat.reduceEqDiff, if_true, if_false, wantV_bool, wantV_unit, unitV, cond_true, cond_false, Bool.not_true, Bool.not_false, List.toList_toArray]) | omega) only [c5b1, c5, Try.f5, Nat.ble, cond_true, cond_false, T.puts_cons, T.puts_nil, exec_seq, exec_block, nat_beq_self, exec_region, exec_cond, exec_skip, exec_ret, exec_exit, exec_scope, runOps_cons, runOps_nil, opF_move, opF_assign, opF_ari, opF_neq, opF_eql, opF_un, opF_index, opF_indexAddr, opF_fieldAddr, opF_field, opF_build, opF_slice, opF_extract, opF_pick, opF_load, opF_alloc, opF_box, opF_buildSlice, opF_makeSlice, opF_store, opF_conv, opF_len, opF_minmax, opF_builtin, opF_call, resK, ev_tmp, evG_some, ev_int, ev_bool, ev_str, evs, evp, evo, R.ok_bind, putT_some, putT_none, T.get_set, T.get_e, binF_int, op_rem, op_quo_u32, op_xor_u32, op_neq, op_eql, op_lss, op_add_i64, op_sub_u32, op_and_u8, op_xor_u8, op_not_u32, binF_shr_u32, binF_shr_u8, op_mul_i64, op_quo_i64, op_and_u32, binF_shl_u8, wrapF_u8, wrapF_u32, mod_u8, mod_u32, cond_val, Nat.lt_irrefl, Nat.not_lt_zero, if_true, if_false, reduceIte, Nat.reduceEqDiff, Nat.reduceAdd, ne_eq, not_true_eq_false, not_false_eq_true, decide_true, decide_false, Bool.false_eq_true, Bool.not_true, Bool.not_false, sub_nil, sub_seq0, sub_seq1, sub_cond0, sub_cond1, sub_block, sub_loop, sub_scope, sub_range0, sub_range1, Option.getD_some, at_ptr, at_slc, runOps_yes, runOps_no, exec_draw, op_sub_i64, op_sub_neg, op_lss_neg, binF_str, str_add, str_neq, str_eql, takeF, resF, oneOf, pickF, extractF, cells_str, cells_int, cells_agg, bool_eql, bool_neq, op_lssI, bne_self_eq_false, beq_self_eq_true, eq_self, cells_slc, cells_func, builtin_append, ev_nilslice, ev_nilfunc, ev_nilptr, ev_nilmap, opF_makeFunc, opF_callv, callV_func, callV_yield, op_leq, op_gtr, op_geq, cast_le, cast_lt, List.nil_append, List.cons_append, List.append_nil, un_not, g2, g9, g10, g11, hlen, shorts_len, h1, h2, hix, hld, convPF, wnd39, wnd3, wnd5, wrapF_i64, wrapF_u8, len_str wnd9, hatd, ws35, opF_convStr _ _ _ _ _ _ _ _ _ _ wnd35 wnd9, hcv, h30, hend, (show Nat.beq 1 2 = false from rfl)]
          with_reducible rfl
        refine ⟨hlt, _, _, rfl, c, many, hd, by omega, by omega, hp2, ?_⟩
        unfold scrS; simp only [Sl_cons, Sl_nil, T.get_set, T.puts_cons, T.puts_nil, Nat.reduceEqDiff, Nat.reduceAdd, if_true, if_false, and_true, true_and, g0, g1, g2, g9, g10]
      · have hcd : c.drop at_ = c.getD at_ 0 :: c.drop (at_ + 1) := by
          rw [List.drop_eq_getElem_cons (by omega)]; simp [List.getD, List.getElem?_eq_getElem (show at_ < c.length by omega)]
        have hcc : c.take at_ ++ c.getD at_ 0 :: c.drop (at_ + 1) = c := by rw [← hcd, List.take_append_drop]
        have l9 : (c.drop (at_ + 1)).length = c.length - (at_ + 1) := List.length_drop
        by_cases h31 : z / 4 % 3 = 1
        · have hn := near_less (c.getD at_ 0) (c.take at_) (c.drop (at_ + 1))
          rw [hcc] at hn
          have ht := dist_tri a c (c.take at_ ++ c.drop (at_ + 1))
          apply W.run 20
          · intro M
            simp (config := { maxSteps := 4000000 }) (disch := first | decide +kernel | (rw [wantF_guard]; simp only [wantD_some, dstAt_zero, dstAt_succ, T.get_set, T.get_e, Nat.reduceEqDiff, if_true, if_false, wantV_bool, wantV_unit, unitV, cond_true, cond_false, Bool.not_true, Bool.not_false, List.toList_toArray]) | omega) only [c5b1, c5, Try.f5, Nat.ble, cond_true, cond_false, T.puts_cons, T.puts_nil, exec_seq, exec_block, nat_beq_self, exec_region, exec_cond, exec_skip, exec_ret, exec_exit, exec_scope, runOps_cons, runOps_nil, opF_move, opF_assign, opF_ari, opF_neq, opF_eql, opF_un, opF_index, opF_indexAddr, opF_fieldAddr, opF_field, opF_build, opF_slice, opF_extract, opF_pick, opF_load, opF_alloc, opF_box, opF_buildSlice, opF_makeSlice, opF_store, opF_conv, opF_len, opF_minmax, opF_builtin, opF_call, resK, ev_tmp, evG_some, ev_int, ev_bool, ev_str, evs, evp, evo, R.ok_bind, putT_some, putT_none, T.get_set, T.get_e, binF_int, op_rem, op_quo_u32, op_xor_u32, op_neq, op_eql, op_lss, op_add_i64, op_sub_u32, op_and_u8, op_xor_u8, op_not_u32, binF_shr_u32, binF_shr_u8, op_mul_i64, op_quo_i64, op_and_u32, binF_shl_u8, wrapF_u8, wrapF_u32, mod_u8, mod_u32, cond_val, Nat.lt_irrefl, Nat.not_lt_zero, if_true, if_false, reduceIte, Nat.reduceEqDiff, Nat.reduceAdd, ne_eq, not_true_eq_false, not_false_eq_true, decide_true, decide_false, Bool.false_eq_true, Bool.not_true, Bool.not_false, sub_nil, sub_seq0, sub_seq1, sub_cond0, sub_cond1, sub_block, sub_loop, sub_scope, sub_range0, sub_range1, Option.getD_some, at_ptr, at_slc, runOps_yes, runOps_no, exec_draw, op_sub_i64, op_sub_neg, op_lss_neg, binF_str, str_add, str_neq, str_eql, takeF, resF, oneOf, pickF, extractF, cells_str, cells_int, cells_agg, bool_eql, bool_neq, op_lssI, bne_self_eq_false, beq_self_eq_true, eq_self, cells_slc, cells_func, builtin_append, ev_nilslice, ev_nilfunc, ev_nilptr, ev_nilmap, opF_makeFunc, opF_callv, callV_func, callV_yield, op_leq, op_gtr, op_geq, cast_le, cast_lt, List.nil_append, List.cons_append, List.append_nil, un_not, g2, g9, g10, g11, hlen, shorts_len, h1, h2, hix, hld, convPF, wnd39, wnd3, wnd5, wrapF_i64, wrapF_u8, len_str wnd9, hatd, ws35, opF_convStr _ _ _ _ _ _ _ _ _ _ wnd35 wnd9, hcv, h30, h31, hend, slice_to wnd9, slice_from wnd9]
            with_reducible rfl
          refine ⟨hlt, _, _, rfl, c.take at_ ++ c.drop (at_ + 1), many + 1, by omega, by rw [List.length_append, l6, l9]; omega, by omega, hp2, ?_⟩
          unfold scrS; simp only [Sl_cons, Sl_nil, T.get_set, T.puts_cons, T.puts_nil, Nat.reduceEqDiff, Nat.reduceAdd, if_true, if_false, and_true, true_and, g0, g1, g2]
        · have hn := near_other (c.getD at_ 0) ch (c.take at_) (c.drop (at_ + 1))
          rw [hcc] at hn
          have ht := dist_tri a c (c.take at_ ++ [ch] ++ c.drop (at_ + 1))
          apply W.run 20
          · intro M
            simp (config := { maxSteps := 4000000 }) (disch := first | decide +kernel | (rw [wantF_guard]; simp only [wantD_some, dstAt_zero, dstAt_succ, T.get_set, T.get_e, Nat.reduceEqDiff, if_true, if_false, wantV_bool, wantV_unit, unitV, cond_true, cond_false, Bool.not_true, Bool.not_false, List.toList_toArray]) | omega) only [c5b1, c5, Try.f5, Nat.ble, cond_true, cond_false, T.puts_cons, T.puts_nil, exec_seq, exec_block, nat_beq_self, exec_region, exec_cond, exec_skip, exec_ret, exec_exit, exec_scope, runOps_cons, runOps_nil, opF_move, opF_assign, opF_ari, opF_neq, opF_eql, opF_un, opF_index, opF_indexAddr, opF_fieldAddr, opF_field, opF_build, opF_slice, opF_extract, opF_pick, opF_load, opF_alloc, opF_box, opF_buildSlice, opF_makeSlice, opF_store, opF_conv, opF_len, opF_minmax, opF_builtin, opF_call, resK, ev_tmp, evG_some, ev_int, ev_bool, ev_str, evs, evp, evo, R.ok_bind, putT_some, putT_none, T.get_set, T.get_e, binF_int, op_rem, op_quo_u32, op_xor_u32, op_neq, op_eql, op_lss, op_add_i64, op_sub_u32, op_and_u8, op_xor_u8, op_not_u32, binF_shr_u32, binF_shr_u8, op_mul_i64, op_quo_i64, op_and_u32, binF_shl_u8, wrapF_u8, wrapF_u32, mod_u8, mod_u32, cond_val, Nat.lt_irrefl, Nat.not_lt_zero, if_true, if_false, reduceIte, Nat.reduceEqDiff, Nat.reduceAdd, ne_eq, not_true_eq_false, not_false_eq_true, decide_true, decide_false, Bool.false_eq_true, Bool.not_true, Bool.not_false, sub_nil, sub_seq0, sub_seq1, sub_cond0, sub_cond1, sub_block, sub_loop, sub_scope, sub_range0, sub_range1, Option.getD_some, at_ptr, at_slc, runOps_yes, runOps_no, exec_draw, op_sub_i64, op_sub_neg, op_lss_neg, binF_str, str_add, str_neq, str_eql, takeF, resF, oneOf, pickF, extractF, cells_str, cells_int, cells_agg, bool_eql, bool_neq, op_lssI, bne_self_eq_false, beq_self_eq_true, eq_self, cells_slc, cells_func, builtin_append, ev_nilslice, ev_nilfunc, ev_nilptr, ev_nilmap, opF_makeFunc, opF_callv, callV_func, callV_yield, op_leq, op_gtr, op_geq, cast_le, cast_lt, List.nil_append, List.cons_append, List.append_nil, un_not, g2, g9, g10, g11, hlen, shorts_len, h1, h2, hix, hld, convPF, wnd39, wnd3, wnd5, wrapF_i64, wrapF_u8, len_str wnd9, hatd, ws35, opF_convStr _ _ _ _ _ _ _ _ _ _ wnd35 wnd9, hcv, h30, h31, hend, slice_to wnd9, slice_from wnd9]
            with_reducible rfl
          refine ⟨hlt, _, _, rfl, c.take at_ ++ [ch] ++ c.drop (at_ + 1), many + 1, by omega, by rw [List.length_append, l8, l9]; omega, by omega, hp2, ?_⟩
          unfold scrS; simp only [Sl_cons, Sl_nil, T.get_set, T.puts_cons, T.puts_nil, Nat.reduceEqDiff, Nat.reduceAdd, if_true, if_false, and_true, true_and, g0, g1, g2]
  · by_cases h1 : i < ns.length
    · have h2 : ¬ i < 6 := by omega
      apply W.run 20
      · intro M
        simp (config := { maxSteps := 4000000 }) (disch := first | decide +kernel | (rw [wantF_guard]; simp only [wantD_some, dstAt_zero, dstAt_succ, T.get_set, T.get_e, Nat.reduceEqDiff, if_true, if_false, wantV_bool, wantV_unit, unitV, cond_true, cond_false, Bool.not_true, Bool.not_false, List.toList_toArray]) | omega) only [c5b1, c5, Try.f5, Nat.ble, cond_true, cond_false, T.puts_cons, T.puts_nil, exec_seq, exec_block, nat_beq_self, exec_region, exec_cond, exec_skip, exec_ret, exec_exit, exec_scope, runOps_cons, runOps_nil, opF_move, opF_assign, opF_ari, opF_neq, opF_eql, opF_un, opF_index, opF_indexAddr, opF_fieldAddr, opF_field, opF_build, opF_slice, opF_extract, opF_pick, opF_load, opF_alloc, opF_box, opF_buildSlice, opF_makeSlice, opF_store, opF_conv, opF_len, opF_minmax, opF_builtin, opF_call, resK, ev_tmp, evG_some, ev_int, ev_bool, ev_str, evs, evp, evo, R.ok_bind, putT_some, putT_none, T.get_set, T.get_e, binF_int, op_rem, op_quo_u32, op_xor_u32, op_neq, op_eql, op_lss, op_add_i64, op_sub_u32, op_and_u8, op_xor_u8, op_not_u32, binF_shr_u32, binF_shr_u8, op_mul_i64, op_quo_i64, op_and_u32, binF_shl_u8, wrapF_u8, wrapF_u32, mod_u8, mod_u32, cond_val, Nat.lt_irrefl, Nat.not_lt_zero, if_true, if_false, reduceIte, Nat.reduceEqDiff, Nat.reduceAdd, ne_eq, not_true_eq_false, not_false_eq_true, decide_true, decide_false, Bool.false_eq_true, Bool.not_true, Bool.not_false, sub_nil, sub_seq0, sub_seq1, sub_cond0, sub_cond1, sub_block, sub_loop, sub_scope, sub_range0, sub_range1, Option.getD_some, at_ptr, at_slc, runOps_yes, runOps_no, exec_draw, op_sub_i64, op_sub_neg, op_lss_neg, binF_str, str_add, str_neq, str_eql, takeF, resF, oneOf, pickF, extractF, cells_str, cells_int, cells_agg, bool_eql, bool_neq, op_lssI, bne_self_eq_false, beq_self_eq_true, eq_self, cells_slc, cells_func, builtin_append, ev_nilslice, ev_nilfunc, ev_nilptr, ev_nilmap, opF_makeFunc, opF_callv, callV_func, callV_yield, op_leq, op_gtr, op_geq, cast_le, cast_lt, List.nil_append, List.cons_append, List.append_nil, un_not, g2, g11, hlen, shorts_len, h1, h2]
        with_reducible rfl
      refine hK _ _ c many hd (by omega) ?_
      unfold scrS; simp only [Sl_cons, Sl_nil, T.get_set, T.puts_cons, T.puts_nil, Nat.reduceEqDiff, Nat.reduceAdd, if_true, if_false, and_true, true_and, g0, g1, g2, g9, g10, List.take_succ_cons, List.take_zero]
    · apply W.run 20
      · intro M
        simp (config := { maxSteps := 4000000 }) (disch := first | decide +kernel | (rw [wantF_guard]; simp only [wantD_some, dstAt_zero, dstAt_succ, T.get_set, T.get_e, Nat.reduceEqDiff, if_true, if_false, wantV_bool, wantV_unit, unitV, cond_true, cond_false, Bool.not_true, Bool.not_false, List.toList_toArray]) | omega) only [c5b1, c5, Try.f5, Nat.ble, cond_true, cond_false, T.puts_cons, T.puts_nil, exec_seq, exec_block, nat_beq_self, exec_region, exec_cond, exec_skip, exec_ret, exec_exit, exec_scope, runOps_cons, runOps_nil, opF_move, opF_assign, opF_ari, opF_neq, opF_eql, opF_un, opF_index, opF_indexAddr, opF_fieldAddr, opF_field, opF_build, opF_slice, opF_extract, opF_pick, opF_load, opF_alloc, opF_box, opF_buildSlice, opF_makeSlice, opF_store, opF_conv, opF_len, opF_minmax, opF_builtin, opF_call, resK, ev_tmp, evG_some, ev_int, ev_bool, ev_str, evs, evp, evo, R.ok_bind, putT_some, putT_none, T.get_set, T.get_e, binF_int, op_rem, op_quo_u32, op_xor_u32, op_neq, op_eql, op_lss, op_add_i64, op_sub_u32, op_and_u8, op_xor_u8, op_not_u32, binF_shr_u32, binF_shr_u8, op_mul_i64, op_quo_i64, op_and_u32, binF_shl_u8, wrapF_u8, wrapF_u32, mod_u8, mod_u32, cond_val, Nat.lt_irrefl, Nat.not_lt_zero, if_true, if_false, reduceIte, Nat.reduceEqDiff, Nat.reduceAdd, ne_eq, not_true_eq_false, not_false_eq_true, decide_true, decide_false, Bool.false_eq_true, Bool.not_true, Bool.not_false, sub_nil, sub_seq0, sub_seq1, sub_cond0, sub_cond1, sub_block, sub_loop, sub_scope, sub_range0, sub_range1, Option.getD_some, at_ptr, at_slc, runOps_yes, runOps_no, exec_draw, op_sub_i64, op_sub_neg, op_lss_neg, binF_str, str_add, str_neq, str_eql, takeF, resF, oneOf, pickF, extractF, cells_str, cells_int, cells_agg, bool_eql, bool_neq, op_lssI, bne_self_eq_false, beq_self_eq_true, eq_self, cells_slc, cells_func, builtin_append, ev_nilslice, ev_nilfunc, ev_nilptr, ev_nilmap, opF_makeFunc, opF_callv, callV_func, callV_yield, op_leq, op_gtr, op_geq, cast_le, cast_lt, List.nil_append, List.cons_append, List.append_nil, un_not, g2, g11, hlen, shorts_len, h1]
        with_reducible rfl
      refine hK _ _ c many hd (by omega) ?_
      unfold scrS; simp only [Sl_cons, Sl_nil, T.get_set, T.puts_cons, T.puts_nil, Nat.reduceEqDiff, Nat.reduceAdd, if_true, if_false, and_true, true_and, g0, g1, g2, g9, g10, List.take_succ_cons, List.take_zero]

set_option maxHeartbeats 4000000 in
set_option maxRecDepth 20000 in
theorem run_scripts (a0 b0 : List UInt8) (ns : List Nat) (hns : ∀ n ∈ ns, n < 65536) {A : Mem} {x : Value} (hp : ParS A (shorts ns) x) : ∃ A', CallsTo tb2 5 [strOf a0, strOf b0, x] A (.bool true) A' := by
  have ha := cut_len 40 a0
  have hb := cut_len 40 b0
  have hm1 : min a0.length 40 ≤ a0.length := Nat.min_le_left _ _
  have hm2 : min b0.length 40 ≤ b0.length := Nat.min_le_left _ _
  have hc1 : a0.take (min a0.length 40) = cut 40 a0 := rfl
  have hc2 : b0.take (min b0.length 40) = cut 40 b0 := rfl
  obtain ⟨v, A', h1, h2⟩ : ∃ v A', CallsTo tb2 5 [strOf a0, strOf b0, x] A v A' ∧ v = .bool true := by
    refine call_of_W (fn_at Try.func5) c5_eq (by rw [Try.ntmps5]; simp) ?_
    apply W.seq
    apply W.run 20
    · intro M
      simp (config := { maxSteps := 4000000 }) (disch := first | decide +kernel | (rw [wantF_guard]; simp only [wantD_some, dstAt_zero, dstAt_succ, T.get_set, T.get_e, Nat.reduceEqDiff, if_true, if_false, wantV_bool, wantV_unit, unitV, cond_true, cond_false, Bool.not_true, Bool.not_false, List.toList_toArray]) | omega) only [c5, Try.f5, Nat.ble, cond_true, cond_false, T.puts_cons, T.puts_nil, exec_seq, exec_block, nat_beq_self, exec_region, exec_cond, exec_skip, exec_ret, exec_exit, exec_scope, runOps_cons, runOps_nil, opF_move, opF_assign, opF_ari, opF_neq, opF_eql, opF_un, opF_index, opF_indexAddr, opF_fieldAddr, opF_field, opF_build, opF_slice, opF_extract, opF_pick, opF_load, opF_alloc, opF_box, opF_buildSlice, opF_makeSlice, opF_store, opF_conv, opF_len, opF_minmax, opF_builtin, opF_call, resK, ev_tmp, evG_some, ev_int, ev_bool, ev_str, evs, evp, evo, R.ok_bind, putT_some, putT_none, T.get_set, T.get_e, binF_int, op_rem, op_quo_u32, op_xor_u32, op_neq, op_eql, op_lss, op_add_i64, op_sub_u32, op_and_u8, op_xor_u8, op_not_u32, binF_shr_u32, binF_shr_u8, op_mul_i64, op_quo_i64, op_and_u32, binF_shl_u8, wrapF_u8, wrapF_u32, mod_u8, mod_u32, cond_val, Nat.lt_irrefl, Nat.not_lt_zero, if_true, if_false, reduceIte, Nat.reduceEqDiff, Nat.reduceAdd, ne_eq, not_true_eq_false, not_false_eq_true, decide_true, decide_false, Bool.false_eq_true, Bool.not_true, Bool.not_false, sub_nil, sub_seq0, sub_seq1, sub_cond0, sub_cond1, sub_block, sub_loop, sub_scope, sub_range0, sub_range1, Option.getD_some, at_ptr, at_slc, runOps_yes, runOps_no, exec_draw, op_sub_i64, op_sub_neg, op_lss_neg, binF_str, str_add, str_neq, str_eql, takeF, resF, oneOf, pickF, extractF, cells_str, cells_int, cells_agg, bool_eql, bool_neq, op_lssI, bne_self_eq_false, beq_self_eq_true, eq_self, cells_slc, cells_func, builtin_append, ev_nilslice, ev_nilfunc, ev_nilptr, ev_nilmap, opF_makeFunc, opF_callv, callV_func, callV_yield, op_leq, op_gtr, op_geq, cast_le, cast_lt, List.nil_append, List.cons_append, List.append_nil, un_not]
      with_reducible rfl
    apply W.seq
    apply W.seq
    apply W.run 20
    · intro M
      simp (config := { maxSteps := 4000000 }) (disch := first | decide +kernel | (rw [wantF_guard]; simp only [wantD_some, dstAt_zero, dstAt_succ, T.get_set, T.get_e, Nat.reduceEqDiff, if_true, if_false, wantV_bool, wantV_unit, unitV, cond_true, cond_false, Bool.not_true, Bool.not_false, List.toList_toArray]) | omega) only [c5, Try.f5, Nat.ble, cond_true, cond_false, T.puts_cons, T.puts_nil, exec_seq, exec_block, nat_beq_self, exec_region, exec_cond, exec_skip, exec_ret, exec_exit, exec_scope, runOps_cons, runOps_nil, opF_move, opF_assign, opF_ari, opF_neq, opF_eql, opF_un, opF_index, opF_indexAddr, opF_fieldAddr, opF_field, opF_build, opF_slice, opF_extract, opF_pick, opF_load, opF_alloc, opF_box, opF_buildSlice, opF_makeSlice, opF_store, opF_conv, opF_len, opF_minmax, opF_builtin, opF_call, resK, ev_tmp, evG_some, ev_int, ev_bool, ev_str, evs, evp, evo, R.ok_bind, putT_some, putT_none, T.get_set, T.get_e, binF_int, op_rem, op_quo_u32, op_xor_u32, op_neq, op_eql, op_lss, op_add_i64, op_sub_u32, op_and_u8, op_xor_u8, op_not_u32, binF_shr_u32, binF_shr_u8, op_mul_i64, op_quo_i64, op_and_u32, binF_shl_u8, wrapF_u8, wrapF_u32, mod_u8, mod_u32, cond_val, Nat.lt_irrefl, Nat.not_lt_zero, if_true, if_false, reduceIte, Nat.reduceEqDiff, Nat.reduceAdd, ne_eq, not_true_eq_false, not_false_eq_true, decide_true, decide_false, Bool.false_eq_true, Bool.not_true, Bool.not_false, sub_nil, sub_seq0, sub_seq1, sub_cond0, sub_cond1, sub_block, sub_loop, sub_scope, sub_range0, sub_range1, Option.getD_some, at_ptr, at_slc, runOps_yes, runOps_no, exec_draw, op_sub_i64, op_sub_neg, op_lss_neg, binF_str, str_add, str_neq, str_eql, takeF, resF, oneOf, pickF, extractF, cells_str, cells_int, cells_agg, bool_eql, bool_neq, op_lssI, bne_self_eq_false, beq_self_eq_true, eq_self, cells_slc, cells_func, builtin_append, ev_nilslice, ev_nilfunc, ev_nilptr, ev_nilmap, opF_makeFunc, opF_callv, callV_func, callV_yield, op_leq, op_gtr, op_geq, cast_le, cast_lt, List.nil_append, List.cons_append, List.append_nil, un_not, p17]
      with_reducible rfl
    apply W.run 20
    · intro M
      simp (config := { maxSteps := 4000000 }) (disch := first | decide +kernel | (rw [wantF_guard]; simp only [wantD_some, dstAt_zero, dstAt_succ, T.get_set, T.get_e, Nat.reduceEqDiff, if_true, if_false, wantV_bool, wantV_unit, unitV, cond_true, cond_false, Bool.not_true, Bool.not_false, List.toList_toArray]) | omega) only [c5, Try.f5, Nat.ble, cond_true, cond_false, T.puts_cons, T.puts_nil, exec_seq, exec_block, nat_beq_self, exec_region, exec_cond, exec_skip, exec_ret, exec_exit, exec_scope, runOps_cons, runOps_nil, opF_move, opF_assign, opF_ari, opF_neq, opF_eql, opF_un, opF_index, opF_indexAddr, opF_fieldAddr, opF_field, opF_build, opF_slice, opF_extract, opF_pick, opF_load, opF_alloc, opF_box, opF_buildSlice, opF_makeSlice, opF_store, opF_conv, opF_len, opF_minmax, opF_builtin, opF_call, resK, ev_tmp, evG_some, ev_int, ev_bool, ev_str, evs, evp, evo, R.ok_bind, putT_some, putT_none, T.get_set, T.get_e, binF_int, op_rem, op_quo_u32, op_xor_u32, op_neq, op_eql, op_lss, op_add_i64, op_sub_u32, op_and_u8, op_xor_u8, op_not_u32, binF_shr_u32, binF_shr_u8, op_mul_i64, op_quo_i64, op_and_u32, binF_shl_u8, wrapF_u8, wrapF_u32, mod_u8, mod_u32, cond_val, Nat.lt_irrefl, Nat.not_lt_zero, if_true, if_false, reduceIte, Nat.reduceEqDiff, Nat.reduceAdd, ne_eq, not_true_eq_false, not_false_eq_true, decide_true, decide_false, Bool.false_eq_true, Bool.not_true, Bool.not_false, sub_nil, sub_seq0, sub_seq1, sub_cond0, sub_cond1, sub_block, sub_loop, sub_scope, sub_range0, sub_range1, Option.getD_some, at_ptr, at_slc, runOps_yes, runOps_no, exec_draw, op_sub_i64, op_sub_neg, op_lss_neg, binF_str, str_add, str_neq, str_eql, takeF, resF, oneOf, pickF, extractF, cells_str, cells_int, cells_agg, bool_eql, bool_neq, op_lssI, bne_self_eq_false, beq_self_eq_true, eq_self, cells_slc, cells_func, builtin_append, ev_nilslice, ev_nilfunc, ev_nilptr, ev_nilmap, opF_makeFunc, opF_callv, callV_func, callV_yield, op_leq, op_gtr, op_geq, cast_le, cast_lt, List.nil_append, List.cons_append, List.append_nil, un_not]
      with_reducible rfl
    apply W.seq
    apply W.run 20
    · intro M
      simp (config := { maxSteps := 4000000 }) (disch := first | decide +kernel | (rw [wantF_guard]; simp only [wantD_some, dstAt_zero, dstAt_succ, T.get_set, T.get_e, Nat.reduceEqDiff, if_true, if_false, wantV_bool, wantV_unit, unitV, cond_true, cond_false, Bool.not_true, Bool.not_false, List.toList_toArray]) | omega) only [c5, Try.f5, Nat.ble, cond_true, cond_false, T.puts_cons, T.puts_nil, exec_seq, exec_block, nat_beq_self, exec_region, exec_cond, exec_skip, exec_ret, exec_exit, exec_scope, runOps_cons, runOps_nil, opF_move, opF_assign, opF_ari, opF_neq, opF_eql, opF_un, opF_index, opF_indexAddr, opF_fieldAddr, opF_field, opF_build, opF_slice, opF_extract, opF_pick, opF_load, opF_alloc, opF_box, opF_buildSlice, opF_makeSlice, opF_store, opF_conv, opF_len, opF_minmax, opF_builtin, opF_call, resK, ev_tmp, evG_some, ev_int, ev_bool, ev_str, evs, evp, evo, R.ok_bind, putT_some, putT_none, T.get_set, T.get_e, binF_int, op_rem, op_quo_u32, op_xor_u32, op_neq, op_eql, op_lss, op_add_i64, op_sub_u32, op_and_u8, op_xor_u8, op_not_u32, binF_shr_u32, binF_shr_u8, op_mul_i64, op_quo_i64, op_and_u32, binF_shl_u8, wrapF_u8, wrapF_u32, mod_u8, mod_u32, cond_val, Nat.lt_irrefl, Nat.not_lt_zero, if_true, if_false, reduceIte, Nat.reduceEqDiff, Nat.reduceAdd, ne_eq, not_true_eq_false, not_false_eq_true, decide_true, decide_false, Bool.false_eq_true, Bool.not_true, Bool.not_false, sub_nil, sub_seq0, sub_seq1, sub_cond0, sub_cond1, sub_block, sub_loop, sub_scope, sub_range0, sub_range1, Option.getD_some, at_ptr, at_slc, runOps_yes, runOps_no, exec_draw, op_sub_i64, op_sub_neg, op_lss_neg, binF_str, str_add, str_neq, str_eql, takeF, resF, oneOf, pickF, extractF, cells_str, cells_int, cells_agg, bool_eql, bool_neq, op_lssI, bne_self_eq_false, beq_self_eq_true, eq_self, cells_slc, cells_func, builtin_append, ev_nilslice, ev_nilfunc, ev_nilptr, ev_nilmap, opF_makeFunc, opF_callv, callV_func, callV_yield, op_leq, op_gtr, op_geq, cast_le, cast_lt, List.nil_append, List.cons_append, List.append_nil, un_not, len_str wnd9, min_i64, slice_to wnd9, hc1, hc2]
      with_reducible rfl
    revert ha hb
    generalize cut 40 a0 = a
    generalize cut 40 b0 = b
    intro ha hb
    have hsl := script_len a b
    obtain ⟨g, hg⟩ := run_made (A := A) (by omega) (by omega) (by omega) (made_script a b)
    apply W.seq
    apply W.runG (g) 20
    · intro M hM
      simp (config := { maxSteps := 4000000 }) (disch := first | decide +kernel | (rw [wantF_guard]; simp only [wantD_some, dstAt_zero, dstAt_succ, T.get_set, T.get_e, Nat.reduceEqDiff, if_true, if_false, wantV_bool, wantV_unit, unitV, cond_true, cond_false, Bool.not_true, Bool.not_false, List.toList_toArray]) | omega) only [c5, Try.f5, Nat.ble, cond_true, cond_false, T.puts_cons, T.puts_nil, exec_seq, exec_block, nat_beq_self, exec_region, exec_cond, exec_skip, exec_ret, exec_exit, exec_scope, runOps_cons, runOps_nil, opF_move, opF_assign, opF_ari, opF_neq, opF_eql, opF_un, opF_index, opF_indexAddr, opF_fieldAddr, opF_field, opF_build, opF_slice, opF_extract, opF_pick, opF_load, opF_alloc, opF_box, opF_buildSlice, opF_makeSlice, opF_store, opF_conv, opF_len, opF_minmax, opF_builtin, opF_call, resK, ev_tmp, evG_some, ev_int, ev_bool, ev_str, evs, evp, evo, R.ok_bind, putT_some, putT_none, T.get_set, T.get_e, binF_int, op_rem, op_quo_u32, op_xor_u32, op_neq, op_eql, op_lss, op_add_i64, op_sub_u32, op_and_u8, op_xor_u8, op_not_u32, binF_shr_u32, binF_shr_u8, op_mul_i64, op_quo_i64, op_and_u32, binF_shl_u8, wrapF_u8, wrapF_u32, mod_u8, mod_u32, cond_val, Nat.lt_irrefl, Nat.not_lt_zero, if_true, if_false, reduceIte, Nat.reduceEqDiff, Nat.reduceAdd, ne_eq, not_true_eq_false, not_false_eq_true, decide_true, decide_false, Bool.false_eq_true, Bool.not_true, Bool.not_false, sub_nil, sub_seq0, sub_seq1, sub_cond0, sub_cond1, sub_block, sub_loop, sub_scope, sub_range0, sub_range1, Option.getD_some, at_ptr, at_slc, runOps_yes, runOps_no, exec_draw, op_sub_i64, op_sub_neg, op_lss_neg, binF_str, str_add, str_neq, str_eql, takeF, resF, oneOf, pickF, extractF, cells_str, cells_int, cells_agg, bool_eql, bool_neq, op_lssI, bne_self_eq_false, beq_self_eq_true, eq_self, cells_slc, cells_func, builtin_append, ev_nilslice, ev_nilfunc, ev_nilptr, ev_nilmap, opF_makeFunc, opF_callv, callV_func, callV_yield, op_leq, op_gtr, op_geq, cast_le, cast_lt, List.nil_append, List.cons_append, List.append_nil, un_not, p10, hg, List.getElem?_cons_zero, List.getElem?_cons_succ]
      with_reducible rfl
    apply W.seq
    apply W.seq
    apply W.run 20
    · intro M
      simp (config := { maxSteps := 4000000 }) (disch := first | decide +kernel | (rw [wantF_guard]; simp only [wantD_some, dstAt_zero, dstAt_succ, T.get_set, T.get_e, Nat.reduceEqDiff, if_true, if_false, wantV_bool, wantV_unit, unitV, cond_true, cond_false, Bool.not_true, Bool.not_false, List.toList_toArray]) | omega) only [c5, Try.f5, Nat.ble, cond_true, cond_false, T.puts_cons, T.puts_nil, exec_seq, exec_block, nat_beq_self, exec_region, exec_cond, exec_skip, exec_ret, exec_exit, exec_scope, runOps_cons, runOps_nil, opF_move, opF_assign, opF_ari, opF_neq, opF_eql, opF_un, opF_index, opF_indexAddr, opF_fieldAddr, opF_field, opF_build, opF_slice, opF_extract, opF_pick, opF_load, opF_alloc, opF_box, opF_buildSlice, opF_makeSlice, opF_store, opF_conv, opF_len, opF_minmax, opF_builtin, opF_call, resK, ev_tmp, evG_some, ev_int, ev_bool, ev_str, evs, evp, evo, R.ok_bind, putT_some, putT_none, T.get_set, T.get_e, binF_int, op_rem, op_quo_u32, op_xor_u32, op_neq, op_eql, op_lss, op_add_i64, op_sub_u32, op_and_u8, op_xor_u8, op_not_u32, binF_shr_u32, binF_shr_u8, op_mul_i64, op_quo_i64, op_and_u32, binF_shl_u8, wrapF_u8, wrapF_u32, mod_u8, mod_u32, cond_val, Nat.lt_irrefl, Nat.not_lt_zero, if_true, if_false, reduceIte, Nat.reduceEqDiff, Nat.reduceAdd, ne_eq, not_true_eq_false, not_false_eq_true, decide_true, decide_false, Bool.false_eq_true, Bool.not_true, Bool.not_false, sub_nil, sub_seq0, sub_seq1, sub_cond0, sub_cond1, sub_block, sub_loop, sub_scope, sub_range0, sub_range1, Option.getD_some, at_ptr, at_slc, runOps_yes, runOps_no, exec_draw, op_sub_i64, op_sub_neg, op_lss_neg, binF_str, str_add, str_neq, str_eql, takeF, resF, oneOf, pickF, extractF, cells_str, cells_int, cells_agg, bool_eql, bool_neq, op_lssI, bne_self_eq_false, beq_self_eq_true, eq_self, cells_slc, cells_func, builtin_append, ev_nilslice, ev_nilfunc, ev_nilptr, ev_nilmap, opF_makeFunc, opF_callv, callV_func, callV_yield, op_leq, op_gtr, op_geq, cast_le, cast_lt, List.nil_append, List.cons_append, List.append_nil, un_not, p9]
      with_reducible rfl
    apply W.run 20
    · intro M
      simp (config := { maxSteps := 4000000 }) (disch := first | decide +kernel | (rw [wantF_guard]; simp only [wantD_some, dstAt_zero, dstAt_succ, T.get_set, T.get_e, Nat.reduceEqDiff, if_true, if_false, wantV_bool, wantV_unit, unitV, cond_true, cond_false, Bool.not_true, Bool.not_false, List.toList_toArray]) | omega) only [c5, Try.f5, Nat.ble, cond_true, cond_false, T.puts_cons, T.puts_nil, exec_seq, exec_block, nat_beq_self, exec_region, exec_cond, exec_skip, exec_ret, exec_exit, exec_scope, runOps_cons, runOps_nil, opF_move, opF_assign, opF_ari, opF_neq, opF_eql, opF_un, opF_index, opF_indexAddr, opF_fieldAddr, opF_field, opF_build, opF_slice, opF_extract, opF_pick, opF_load, opF_alloc, opF_box, opF_buildSlice, opF_makeSlice, opF_store, opF_conv, opF_len, opF_minmax, opF_builtin, opF_call, resK, ev_tmp, evG_some, ev_int, ev_bool, ev_str, evs, evp, evo, R.ok_bind, putT_some, putT_none, T.get_set, T.get_e, binF_int, op_rem, op_quo_u32, op_xor_u32, op_neq, op_eql, op_lss, op_add_i64, op_sub_u32, op_and_u8, op_xor_u8, op_not_u32, binF_shr_u32, binF_shr_u8, op_mul_i64, op_quo_i64, op_and_u32, binF_shl_u8, wrapF_u8, wrapF_u32, mod_u8, mod_u32, cond_val, Nat.lt_irrefl, Nat.not_lt_zero, if_true, if_false, reduceIte, Nat.reduceEqDiff, Nat.reduceAdd, ne_eq, not_true_eq_false, not_false_eq_true, decide_true, decide_false, Bool.false_eq_true, Bool.not_true, Bool.not_false, sub_nil, sub_seq0, sub_seq1, sub_cond0, sub_cond1, sub_block, sub_loop, sub_scope, sub_range0, sub_range1, Option.getD_some, at_ptr, at_slc, runOps_yes, runOps_no, exec_draw, op_sub_i64, op_sub_neg, op_lss_neg, binF_str, str_add, str_neq, str_eql, takeF, resF, oneOf, pickF, extractF, cells_str, cells_int, cells_agg, bool_eql, bool_neq, op_lssI, bne_self_eq_false, beq_self_eq_true, eq_self, cells_slc, cells_func, builtin_append, ev_nilslice, ev_nilfunc, ev_nilptr, ev_nilmap, opF_makeFunc, opF_callv, callV_func, callV_yield, op_leq, op_gtr, op_geq, cast_le, cast_lt, List.nil_append, List.cons_append, List.append_nil, un_not]
      with_reducible rfl
    apply W.seq
    apply W.run 20
    · intro M
      simp (config := { maxSteps := 4000000 }) (disch := first | decide +kernel | (rw [wantF_guard]; simp only [wantD_some, dstAt_zero, dstAt_succ, T.get_set, T.get_e, Nat.reduceEqDiff, if_true, if_false, wantV_bool, wantV_unit, unitV, cond_true, cond_false, Bool.not_true, Bool.not_false, List.toList_toArray]) | omega) only [c5, Try.f5, Nat.ble, cond_true, cond_false, T.puts_cons, T.puts_nil, exec_seq, exec_block, nat_beq_self, exec_region, exec_cond, exec_skip, exec_ret, exec_exit, exec_scope, runOps_cons, runOps_nil, opF_move, opF_assign, opF_ari, opF_neq, opF_eql, opF_un, opF_index, opF_indexAddr, opF_fieldAddr, opF_field, opF_build, opF_slice, opF_extract, opF_pick, opF_load, opF_alloc, opF_box, opF_buildSlice, opF_makeSlice, opF_store, opF_conv, opF_len, opF_minmax, opF_builtin, opF_call, resK, ev_tmp, evG_some, ev_int, ev_bool, ev_str, evs, evp, evo, R.ok_bind, putT_some, putT_none, T.get_set, T.get_e, binF_int, op_rem, op_quo_u32, op_xor_u32, op_neq, op_eql, op_lss, op_add_i64, op_sub_u32, op_and_u8, op_xor_u8, op_not_u32, binF_shr_u32, binF_shr_u8, op_mul_i64, op_quo_i64, op_and_u32, binF_shl_u8, wrapF_u8, wrapF_u32, mod_u8, mod_u32, cond_val, Nat.lt_irrefl, Nat.not_lt_zero, if_true, if_false, reduceIte, Nat.reduceEqDiff, Nat.reduceAdd, ne_eq, not_true_eq_false, not_false_eq_true, decide_true, decide_false, Bool.false_eq_true, Bool.not_true, Bool.not_false, sub_nil, sub_seq0, sub_seq1, sub_cond0, sub_cond1, sub_block, sub_loop, sub_scope, sub_range0, sub_range1, Option.getD_some, at_ptr, at_slc, runOps_yes, runOps_no, exec_draw, op_sub_i64, op_sub_neg, op_lss_neg, binF_str, str_add, str_neq, str_eql, takeF, resF, oneOf, pickF, extractF, cells_str, cells_int, cells_agg, bool_eql, bool_neq, op_lssI, bne_self_eq_false, beq_self_eq_true, eq_self, cells_slc, cells_func, builtin_append, ev_nilslice, ev_nilfunc, ev_nilptr, ev_nilmap, opF_makeFunc, opF_callv, callV_func, callV_yield, op_leq, op_gtr, op_geq, cast_le, cast_lt, List.nil_append, List.cons_append, List.append_nil, un_not]
      with_reducible rfl
    apply W.seq
    apply W.run 20
    · intro M
      simp (config := { maxSteps := 4000000 }) (disch := first | decide +kernel | (rw [wantF_guard]; simp only [wantD_some, dstAt_zero, dstAt_succ, T.get_set, T.get_e, Nat.reduceEqDiff, if_true, if_false, wantV_bool, wantV_unit, unitV, cond_true, cond_false, Bool.not_true, Bool.not_false, List.toList_toArray]) | omega) only [c5, Try.f5, Nat.ble, cond_true, cond_false, T.puts_cons, T.puts_nil, exec_seq, exec_block, nat_beq_self, exec_region, exec_cond, exec_skip, exec_ret, exec_exit, exec_scope, runOps_cons, runOps_nil, opF_move, opF_assign, opF_ari, opF_neq, opF_eql, opF_un, opF_index, opF_indexAddr, opF_fieldAddr, opF_field, opF_build, opF_slice, opF_extract, opF_pick, opF_load, opF_alloc, opF_box, opF_buildSlice, opF_makeSlice, opF_store, opF_conv, opF_len, opF_minmax, opF_builtin, opF_call, resK, ev_tmp, evG_some, ev_int, ev_bool, ev_str, evs, evp, evo, R.ok_bind, putT_some, putT_none, T.get_set, T.get_e, binF_int, op_rem, op_quo_u32, op_xor_u32, op_neq, op_eql, op_lss, op_add_i64, op_sub_u32, op_and_u8, op_xor_u8, op_not_u32, binF_shr_u32, binF_shr_u8, op_mul_i64, op_quo_i64, op_and_u32, binF_shl_u8, wrapF_u8, wrapF_u32, mod_u8, mod_u32, cond_val, Nat.lt_irrefl, Nat.not_lt_zero, if_true, if_false, reduceIte, Nat.reduceEqDiff, Nat.reduceAdd, ne_eq, not_true_eq_false, not_false_eq_true, decide_true, decide_false, Bool.false_eq_true, Bool.not_true, Bool.not_false, sub_nil, sub_seq0, sub_seq1, sub_cond0, sub_cond1, sub_block, sub_loop, sub_scope, sub_range0, sub_range1, Option.getD_some, at_ptr, at_slc, runOps_yes, runOps_no, exec_draw, op_sub_i64, op_sub_neg, op_lss_neg, binF_str, str_add, str_neq, str_eql, takeF, resF, oneOf, pickF, extractF, cells_str, cells_int, cells_agg, bool_eql, bool_neq, op_lssI, bne_self_eq_false, beq_self_eq_true, eq_self, cells_slc, cells_func, builtin_append, ev_nilslice, ev_nilfunc, ev_nilptr, ev_nilmap, opF_makeFunc, opF_callv, callV_func, callV_yield, op_leq, op_gtr, op_geq, cast_le, cast_lt, List.nil_append, List.cons_append, List.append_nil, un_not]
      with_reducible rfl
    apply W.seq
    apply W.seq
    apply W.run 20
    · intro M
      simp (config := { maxSteps := 4000000 }) (disch := first | decide +kernel | (rw [wantF_guard]; simp only [wantD_some, dstAt_zero, dstAt_succ, T.get_set, T.get_e, Nat.reduceEqDiff, if_true, if_false, wantV_bool, wantV_unit, unitV, cond_true, cond_false, Bool.not_true, Bool.not_false, List.toList_toArray]) | omega) only [c5, Try.f5, Nat.ble, cond_true, cond_false, T.puts_cons, T.puts_nil, exec_seq, exec_block, nat_beq_self, exec_region, exec_cond, exec_skip, exec_ret, exec_exit, exec_scope, runOps_cons, runOps_nil, opF_move, opF_assign, opF_ari, opF_neq, opF_eql, opF_un, opF_index, opF_indexAddr, opF_fieldAddr, opF_field, opF_build, opF_slice, opF_extract, opF_pick, opF_load, opF_alloc, opF_box, opF_buildSlice, opF_makeSlice, opF_store, opF_conv, opF_len, opF_minmax, opF_builtin, opF_call, resK, ev_tmp, evG_some, ev_int, ev_bool, ev_str, evs, evp, evo, R.ok_bind, putT_some, putT_none, T.get_set, T.get_e, binF_int, op_rem, op_quo_u32, op_xor_u32, op_neq, op_eql, op_lss, op_add_i64, op_sub_u32, op_and_u8, op_xor_u8, op_not_u32, binF_shr_u32, binF_shr_u8, op_mul_i64, op_quo_i64, op_and_u32, binF_shl_u8, wrapF_u8, wrapF_u32, mod_u8, mod_u32, cond_val, Nat.lt_irrefl, Nat.not_lt_zero, if_true, if_false, reduceIte, Nat.reduceEqDiff, Nat.reduceAdd, ne_eq, not_true_eq_false, not_false_eq_true, decide_true, decide_false, Bool.false_eq_true, Bool.not_true, Bool.not_false, sub_nil, sub_seq0, sub_seq1, sub_cond0, sub_cond1, sub_block, sub_loop, sub_scope, sub_range0, sub_range1, Option.getD_some, at_ptr, at_slc, runOps_yes, runOps_no, exec_draw, op_sub_i64, op_sub_neg, op_lss_neg, binF_str, str_add, str_neq, str_eql, takeF, resF, oneOf, pickF, extractF, cells_str, cells_int, cells_agg, bool_eql, bool_neq, op_lssI, bne_self_eq_false, beq_self_eq_true, eq_self, cells_slc, cells_func, builtin_append, ev_nilslice, ev_nilfunc, ev_nilptr, ev_nilmap, opF_makeFunc, opF_callv, callV_func, callV_yield, op_leq, op_gtr, op_geq, cast_le, cast_lt, List.nil_append, List.cons_append, List.append_nil, un_not]
      with_reducible rfl
    apply W.block
    refine scr_loop (b := b) (x := x) ha hns hp ?_ ?_
    · unfold scrS; simp only [Sl_cons, Sl_nil, T.get_set, T.puts_cons, T.puts_nil, Nat.reduceEqDiff, Nat.reduceAdd, if_true, if_false, and_true, true_and]
    intro t C c many hd hcl hs
    simp only [scrS, List.take_succ_cons, List.take_zero, Sl_cons, Sl_nil, and_true] at hs
    obtain ⟨g0, g1, g2, g9, g10⟩ := hs
    show W tb2 _ _ _
    apply W.seq
    apply W.run 20
    · intro M
      simp (config := { maxSteps := 4000000 }) (disch := first | decide +kernel | (rw [wantF_guard]; simp only [wantD_some, dstAt_zero, dstAt_succ, T.get_set, T.get_e, Nat.reduceEqDiff, if_true, if_false, wantV_bool, wantV_unit, unitV, cond_true, cond_false, Bool.not_true, Bool.not_false, List.toList_toArray]) | omega) only [c5, Try.f5, Nat.ble, cond_true, cond_false, T.puts_cons, T.puts_nil, exec_seq, exec_block, nat_beq_self, exec_region, exec_cond, exec_skip, exec_ret, exec_exit, exec_scope, runOps_cons, runOps_nil, opF_move, opF_assign, opF_ari, opF_neq, opF_eql, opF_un, opF_index, opF_indexAddr, opF_fieldAddr, opF_field, opF_build, opF_slice, opF_extract, opF_pick, opF_load, opF_alloc, opF_box, opF_buildSlice, opF_makeSlice, opF_store, opF_conv, opF_len, opF_minmax, opF_builtin, opF_call, resK, ev_tmp, evG_some, ev_int, ev_bool, ev_str, evs, evp, evo, R.ok_bind, putT_some, putT_none, T.get_set, T.get_e, binF_int, op_rem, op_quo_u32, op_xor_u32, op_neq, op_eql, op_lss, op_add_i64, op_sub_u32, op_and_u8, op_xor_u8, op_not_u32, binF_shr_u32, binF_shr_u8, op_mul_i64, op_quo_i64, op_and_u32, binF_shl_u8, wrapF_u8, wrapF_u32, mod_u8, mod_u32, cond_val, Nat.lt_irrefl, Nat.not_lt_zero, if_true, if_false, reduceIte, Nat.reduceEqDiff, Nat.reduceAdd, ne_eq, not_true_eq_false, not_false_eq_true, decide_true, decide_false, Bool.false_eq_true, Bool.not_true, Bool.not_false, sub_nil, sub_seq0, sub_seq1, sub_cond0, sub_cond1, sub_block, sub_loop, sub_scope, sub_range0, sub_range1, Option.getD_some, at_ptr, at_slc, runOps_yes, runOps_no, exec_draw, op_sub_i64, op_sub_neg, op_lss_neg, binF_str, str_add, str_neq, str_eql, takeF, resF, oneOf, pickF, extractF, cells_str, cells_int, cells_agg, bool_eql, bool_neq, op_lssI, bne_self_eq_false, beq_self_eq_true, eq_self, cells_slc, cells_func, builtin_append, ev_nilslice, ev_nilfunc, ev_nilptr, ev_nilmap, opF_makeFunc, opF_callv, callV_func, callV_yield, op_leq, op_gtr, op_geq, cast_le, cast_lt, List.nil_append, List.cons_append, List.append_nil, un_not, g0, g9, g10, p9, hd]
      with_reducible rfl
    apply W.run 20
    · intro M
      simp (config := { maxSteps := 4000000 }) (disch := first | decide +kernel | (rw [wantF_guard]; simp only [wantD_some, dstAt_zero, dstAt_succ, T.get_set, T.get_e, Nat.reduceEqDiff, if_true, if_false, wantV_bool, wantV_unit, unitV, cond_true, cond_false, Bool.not_true, Bool.not_false, List.toList_toArray]) | omega) only [c5, Try.f5, Nat.ble, cond_true, cond_false, T.puts_cons, T.puts_nil, exec_seq, exec_block, nat_beq_self, exec_region, exec_cond, exec_skip, exec_ret, exec_exit, exec_scope, runOps_cons, runOps_nil, opF_move, opF_assign, opF_ari, opF_neq, opF_eql, opF_un, opF_index, opF_indexAddr, opF_fieldAddr, opF_field, opF_build, opF_slice, opF_extract, opF_pick, opF_load, opF_alloc, opF_box, opF_buildSlice, opF_makeSlice, opF_store, opF_conv, opF_len, opF_minmax, opF_builtin, opF_call, resK, ev_tmp, evG_some, ev_int, ev_bool, ev_str, evs, evp, evo, R.ok_bind, putT_some, putT_none, T.get_set, T.get_e, binF_int, op_rem, op_quo_u32, op_xor_u32, op_neq, op_eql, op_lss, op_add_i64, op_sub_u32, op_and_u8, op_xor_u8, op_not_u32, binF_shr_u32, binF_shr_u8, op_mul_i64, op_quo_i64, op_and_u32, binF_shl_u8, wrapF_u8, wrapF_u32, mod_u8, mod_u32, cond_val, Nat.lt_irrefl, Nat.not_lt_zero, if_true, if_false, reduceIte, Nat.reduceEqDiff, Nat.reduceAdd, ne_eq, not_true_eq_false, not_false_eq_true, decide_true, decide_false, Bool.false_eq_true, Bool.not_true, Bool.not_false, sub_nil, sub_seq0, sub_seq1, sub_cond0, sub_cond1, sub_block, sub_loop, sub_scope, sub_range0, sub_range1, Option.getD_some, at_ptr, at_slc, runOps_yes, runOps_no, exec_draw, op_sub_i64, op_sub_neg, op_lss_neg, binF_str, str_add, str_neq, str_eql, takeF, resF, oneOf, pickF, extractF, cells_str, cells_int, cells_agg, bool_eql, bool_neq, op_lssI, bne_self_eq_false, beq_self_eq_true, eq_self, cells_slc, cells_func, builtin_append, ev_nilslice, ev_nilfunc, ev_nilptr, ev_nilmap, opF_makeFunc, opF_callv, callV_func, callV_yield, op_leq, op_gtr, op_geq, cast_le, cast_lt, List.nil_append, List.cons_append, List.append_nil, un_not]
      with_reducible rfl
    refine ⟨.inr rfl, _, [.bool true], rfl, ?_, rfl⟩
    simp only [Try.f5, resF, ev_tmp, T.get_set, Nat.reduceEqDiff, if_true, if_false, evG_some, R.ok_bind]
  subst h2
  exact ⟨A', h1⟩
end Go.Proofs.Ytekimgleakjonaa.dist

namespace Go.Proofs.Ytekimgleakjonaa.distScripts
open Go.ChangeShapes Go.WideShapes Go.ChangeAt Go.RowKit Go.Am
open Go.ChangeMaps (open_string shut_string)
set_option linter.unusedVariables false

theorem own : ownKnob Try.prog.godebug = none := by kernel_rfl
theorem laidOut : laidOutB Try.prog = true := by kernel_rfl

/-- A slice of integers that came in. -/
def IsRow (k : IntKind) (w : World) (a : Option Addr) (len cap : Nat) (zs : List Int) : Prop := ParW k w a len cap zs ∧ ∀ n ∈ zs, (Lit.int k n).wf = true
theorem slice_has {P : Program} {w : World} {base : Nat} {t e : TypeId} {x : Addr} {len cap : Nat} (ht : P.underlying t = some (.slice e)) (h : Value.okWide P w .any base t (.slice (some x) len cap)) : x.spot = none ∧ x.block < w.heap.size := by
  simp only [Value.okWide, Cell.okWide, Cell.ok, ht] at h
  obtain ⟨_, _, _, hsp, row, cells, hsh, _⟩ := h
  refine ⟨hsp, ?_⟩
  unfold World.shape? at hsh
  split at hsh
  · rename_i h2
    exact (Array.getElem?_eq_some_iff.1 h2).1
  · cases hsh

/-! ### The run -/
theorem walk (a0 : ByteArray) (a1 : ByteArray) (a2 : Option Addr) (len2 cap2 : Nat) (z2 : List Int) (w : World) (w0 : a0.size ≤ maxLen) (w1 : a1.size ≤ maxLen) (w2 : IsRow .u16 w a2 len2 cap2 z2) :
    Calls Try.prog 5 #[.string a0, .string a1, .slice a2 len2 cap2] w fun e w' => e = .returned (.bool true) ∧ Below w.heap.size w w' := by
  obtain ⟨hp, hz⟩ := w2
  have hnn : ∀ n ∈ z2.take len2, 0 ≤ n ∧ n < 65536 := fun n hn => by
    obtain ⟨h0, h1⟩ := bounds_u16 (hz n (List.mem_of_mem_take hn))
    omega
  have hsh : (z2.take len2).map (.int .u16) = dist.shorts ((z2.take len2).map Int.toNat) := by
    simp only [dist.shorts, List.map_map]
    apply List.map_congr_left
    intro n hn
    have h := hnn n hn
    simp only [Function.comp]
    rw [Int.toNat_of_nonneg h.1]
  exact (par_true dist.tb2_ok hp (dist.fn_at Try.func5) dist.c5_eq (pre := [strOf a0.data.toList, strOf a1.data.toList]) (pre' := [.string a0, .string a1]) (post := []) (post' := []) (fun ι => .cons (.string _) (.cons (.string _) .nil)) (fun ι => .nil) (fun A x hn hwf hP => by
    rw [hsh] at hP
    exact dist.run_scripts a0.data.toList a1.data.toList _ (fun n hn => by
      obtain ⟨m, hm, rfl⟩ := List.mem_map.1 hn
      have h := hnn m hm
      omega) hP) (w := w)).mono fun e w' h => ⟨h.1, h.2.below⟩

/-! ### THE ROW's STEP: WRITTEN OUT: LEAVE IT -/
set_option maxRecDepth 100000 in
theorem lifted (os : Os) (started : os.Started) (H : Type) (enc : TypeId × Value → H) :
    ReturnsInHanded {} Try.checked os 5 .any (Rows.distScriptsSpec.pre6 enc Try.prog Try.f5 Rows.distScriptsRow.domain false) (Rows.distScriptsSpec.post enc Try.prog Try.f5 false true false false) := by
  refine returnsInHanded_of_change (C := Try.checked) own started (by kernel_rfl) Try.func5
    (ChangeSpec.witness6 (enc := enc) (C := Try.checked) false ⟨#[], #[.string ByteArray.empty, .string ByteArray.empty, .slice none 0 0], []⟩ 8 (by kernel_rfl) (by kernel_rfl) (by kernel_rfl) (by kernel_rfl)) ?_
  intro W base args ds gs before hval0 hW hcnd _
  have hval : ∀ (j : Nat) t v, Try.f5.params[j]? = some t → args[j]? = some v → Value.okWide Try.prog W .any base t v := hval0
  have hW' := hW
  obtain ⟨p, q, hA0, hV, rfl, hfz, hnd⟩ := hW
  have hA : DataW.TrodAll enc Try.prog W 0 (fun _ => true) true Try.f5.params.toList args.toList ds p := hA0
  rw [Try.params5] at hA hval
  obtain ⟨v0, vs0, d0, ds0, p0, q0, hargs, rfl, rfl, h0, r0⟩ := trodAll_cons hA
  obtain ⟨v1, vs1, d1, ds1, p1, q1, rfl, rfl, rfl, h1, r1⟩ := trodAll_cons r0
  obtain ⟨v2, vs2, d2, ds2, p2, q2, rfl, rfl, rfl, h2, r2⟩ := trodAll_cons r1
  obtain ⟨rfl, rfl, rfl⟩ := trodAll_nil r2
  obtain rfl : args = #[v0, v1, v2] := by cases args; simp_all
  obtain ⟨rfl, rfl⟩ := trodVars_none hV
  obtain ⟨a0, rfl, rfl, rfl, w0⟩ := open_string Try.underlying9 (hval 0 9 v0 rfl rfl) h0
  obtain ⟨a1, rfl, rfl, rfl, w1⟩ := open_string Try.underlying9 (hval 1 9 v1 rfl rfl) h1
  obtain ⟨a2, len2, cap2, rfl⟩ := okWide_slice Try.underlying37 (hval 2 37 v2 rfl rfl)
  have k2 := h2
  have lt2 : ∀ x ∈ p2, x.block < W.heap.size := by obtain ⟨m, hm⟩ := k2; exact DataW.trod_lt m _ _ _ hm
  obtain ⟨z2, w2⟩ : ∃ zs, IsRow .u16 W a2 len2 cap2 zs := by
    obtain ⟨fuel, hf⟩ := h2
    rcases open_ints Try.underlying37 Try.underlying39 (by kernel_rfl) hf with ⟨hcs, _⟩ | ⟨x, l, c, zs, hcs, _, hl, hm, hz, _, hcell, hwz⟩
    · simp [Value.cells] at hcs
      obtain ⟨rfl, rfl, rfl⟩ := hcs
      exact ⟨[], .inl ⟨rfl, rfl, rfl, rfl⟩, fun n h => by cases h⟩
    · simp [Value.cells] at hcs
      obtain ⟨rfl, rfl, rfl⟩ := hcs
      exact ⟨zs, .inr ⟨_, rfl, (slice_has Try.underlying37 (hval 2 37 _ rfl rfl)).1, (slice_has Try.underlying37 (hval 2 37 _ rfl rfl)).2, hl, Nat.lt_of_le_of_lt hm (by decide), by simpa using hz, hcell⟩, hwz⟩
  clear hA0 hval0
  refine (walk a0 a1 a2 len2 cap2 z2 W w0 w1 w2).mono fun e W' ⟨he, bel⟩ => ?_
  subst he
  exact ⟨_, rfl, _, _, _, [], _, [], hW', trodAll_mk1 (shut_bool Try.underlying4 _), (trodAll_cons_mk (shut_string Try.underlying9 w0) (trodAll_cons_mk (shut_string Try.underlying9 w1) (trodAll_cons_mk (Below.trod laidOut (by kernel_rfl) (of_decide_eq_true (by kernel_rfl)) k2 bel lt2) trodAll_mk0))), rfl, bel.frame _, fun h => by cases h⟩

theorem over : Rows.distScriptsRow.holds Try.pinned (OpenSpec.ofChange Rows.distScriptsSpec) :=
  OpenClaim.holds_of_wide 5 Try.f5 rfl rfl rfl rfl rfl rfl rfl ⟨rfl, rfl, rfl, rfl, rfl⟩ rfl rfl rfl rfl rfl (by kernel_rfl) Try.func5 (by kernel_rfl)
    (of_decide_eq_true (by kernel_rfl)) (by unfold Func.isWrapper; first | (rw [if_pos (by decide +kernel)]; kernel_rfl) | (rw [if_neg (by decide +kernel)]; exact ⟨rfl, rfl⟩))
    (fun os started H enc _ => lifted os started H enc)

/-- ████ THE STATEMENT ████ -/
theorem proved : Rows.DistScriptsSaid := over
#print axioms proved
end Go.Proofs.Ytekimgleakjonaa.distScripts
