/-
  The statement DistTells holds, for every input: the program, run on the abstract machine AM on values of which parts are variables, answers true; what AM answers the model answers. No conditions.
-/
import Derived.Test.YtekimgleakjonaaRows
import Derived.Test.YtekimgleakjonaaDistC
import Derived.WalkKit
import Derived.ProofKit
import Derived.OpenShut
import Derived.ShutString
namespace Go.Proofs.Ytekimgleakjonaa.dist
open Go.Am Go.Dist
set_option linter.unusedSimpArgs false

/-- All of a slice, behind an empty one. -/
theorem append_all {tb : Tab} {A : Mem} {st xt e : TypeId} {i : TypeInfo} {z : Value} {b b0 : Nat} {l : List Value} {x : Value} (h : Slc A e b l x) (hst : tb.und st = some (.slice e)) (hxt : tb.und xt = some (.slice e)) (hz : zcellsF tb e = .ok (1, [z])) (hi : tb.ty.get e = some i) (hib : 0 < i.bytes) (hib' : i.bytes ≤ 65536)
    (hl : l.length < 16777216) (hl0 : 0 < l.length) : appendF tb A st xt (.slice (some ⟨b0, 0, none⟩) 0 0) x = .ok (.slice (some ⟨A.next, 0, none⟩) l.length (mkX l.length 1), A.alloc (.cells e .row 0 (T.puts .e 0 l))) := by
  have hlim : (Nat.ble (0 + l.length) 16777216 && Nat.ble i.bytes 65536 && Nat.blt 0 i.bytes && Nat.blt 0 1 && Nat.blt 1 65536) = true := by
    have a1 : Nat.ble (0 + l.length) 16777216 = true := Nat.ble_eq_true_of_le (by omega)
    have a2 : Nat.ble i.bytes 65536 = true := Nat.ble_eq_true_of_le hib'
    have a3 : Nat.blt 0 i.bytes = true := by rw [Nat.blt_eq]; exact hib
    rw [a1, a2, a3]; rfl
  rcases h with ⟨rfl, rfl⟩ | ⟨k, c, rfl, h2, h3, h4⟩
  · simp at hl0
  · have hel : elemsF A.get 1 l.length (some ⟨b, 0, none⟩) = .ok l := elemsF_vals h3
    have hel0 : elemsF A.get 1 0 (some ⟨b0, 0, none⟩) = .ok [] := rfl
    have hnew : firstF A.get 1 l.length (.slice (some ⟨b, 0, none⟩) l.length c) = .ok l := hel
    have hble : Nat.ble (0 + l.length) (capN 0) = false := by
      show Nat.ble (0 + l.length) 0 = false
      cases hq : Nat.ble (0 + l.length) 0 with
      | false => rfl
      | true => have := Nat.le_of_ble_eq_true hq; omega
    have hx : capX 0 = true := rfl
    rw [Nat.zero_add] at hlim hble
    unfold appendF
    simp only [hst, hxt, isIntD, cond_false, hz, R.ok_bind, lenF, hnew, hble, hi, hlim, cond_true, hel0, hx, List.nil_append, Nat.zero_add]

noncomputable def c3 : Code := Try.f3.body.getD .skip
noncomputable def c3b1 : Code := sub c3 [1,1,1,1,0,1,0,0]
noncomputable def c3b2 : Code := sub c3 [1,1,1,1,1,1,0,1,0,0]
theorem c3_eq : Try.f3.body = some (.seq (sub c3 [0]) (.seq (sub c3 [1,0]) (.seq (sub c3 [1,1,0]) (.seq (.seq (sub c3 [1,1,1,0,0]) (sub c3 [1,1,1,0,1])) (.seq (.seq (sub c3 [1,1,1,1,0,0]) (.block 0 (.loop c3b1))) (.seq (sub c3 [1,1,1,1,1,0]) (.seq (.seq (sub c3 [1,1,1,1,1,1,0,0]) (.block 2 (.loop c3b2))) (.seq (sub c3 [1,1,1,1,1,1,1,0]) (sub c3 [1,1,1,1,1,1,1,1]))))))))) := by kernel_rfl
theorem bf4 (a b c d : Int) : buildF tb2 24 [(0, .int .i64 a), (1, .int .i64 b), (2, .int .i64 c), (3, .int .i64 d)] = .ok (.agg ⟨[.int .i64 a, .int .i64 b, .int .i64 c, .int .i64 d]⟩) := by kernel_rfl
def pickI (a b c d : Int) (k : Nat) : Int := match k with | 0 => a | 1 => b | 2 => c | _ => d
theorem ix4 (a b c d : Int) {k : Nat} (h : k < 4) : indexF tb2 24 (.agg ⟨[.int .i64 a, .int .i64 b, .int .i64 c, .int .i64 d]⟩) (.int .i64 (k : Int)) = .ok (.int .i64 (pickI a b c d k)) := by
  obtain rfl | rfl | rfl | rfl : k = 0 ∨ k = 1 ∨ k = 2 ∨ k = 3 := by omega
  all_goals kernel_rfl
theorem bs0 : buildSliceF tb2 27 0 [] = .ok (rowOb 3 [], .slc 0 0) := by kernel_rfl

section
variable {a b : List UInt8} {kk : Int} {A : Mem} {K : Ex → St → Prop}
set_option maxHeartbeats 4000000 in
set_option maxRecDepth 20000 in
/-- Is it within? -/
theorem tells_within (ha : a.length ≤ 40) (hb : b.length ≤ 40) (m1 m2 m3 m4 : Int) {t : T Value} (h : Sl t [(0, strOf a), (1, strOf b), (2, .int .i64 kk), (7, .int .i64 (Go.Dist.dist a b : Nat)), (49, .agg ⟨[.int .i64 m1, .int .i64 m2, .int .i64 m3, .int .i64 m4]⟩), (50, .int .i64 ((0 : Nat) : Int))])
    (hK : ∀ t' : T Value, Sl t' [(0, strOf a), (1, strOf b), (2, .int .i64 kk), (7, .int .i64 (Go.Dist.dist a b : Nat))] → K (.exit 0) ⟨t', 126, [], A, none⟩) : W tb2 (.loop c3b1) ⟨t, 126, [], A, none⟩ K := by
  refine W.up 4 (fun i t C => C = A ∧ Sl t [(0, strOf a), (1, strOf b), (2, .int .i64 kk), (7, .int .i64 (Go.Dist.dist a b : Nat)), (49, .agg ⟨[.int .i64 m1, .int .i64 m2, .int .i64 m3, .int .i64 m4]⟩), (50, .int .i64 (i : Int))]) ?_ (Nat.zero_le _) ⟨rfl, h⟩
  rintro i t C hi ⟨rfl, g0, g1, g2, g7, g49, g50, -⟩
  by_cases hlt : i < 4
  · have hix := ix4 m1 m2 m3 m4 hlt
    generalize pickI m1 m2 m3 m4 i = m at hix
    by_cases hm : (Go.Dist.dist a b : Int) ≤ m
    · have hw : withinD a b m = .tuple ⟨[.int .i64 (Go.Dist.dist a b : Nat), .bool true]⟩ := by unfold withinD; rw [if_pos hm]
      apply W.run 20
      · intro M
        simp (config := { maxSteps := 4000000 }) (disch := first | decide +kernel | (rw [wantF_guard]; simp only [wantD_some, dstAt_zero, dstAt_succ, T.get_set, T.get_e, Nat.reduceEqDiff, if_true, if_false, wantV_bool, wantV_unit, unitV, cond_true, cond_false, Bool.not_true, Bool.not_false, List.toList_toArray]) | omega) only [c3b1, c3, Try.f3, Nat.ble, cond_true, cond_false, T.puts_cons, T.puts_nil, exec_seq, exec_block, nat_beq_self, exec_region, exec_cond, exec_skip, exec_ret, exec_exit, exec_scope, runOps_cons, runOps_nil, opF_move, opF_assign, opF_ari, opF_neq, opF_eql, opF_un, opF_index, opF_indexAddr, opF_fieldAddr, opF_field, opF_build, opF_slice, opF_extract, opF_pick, opF_load, opF_alloc, opF_box, opF_buildSlice, opF_makeSlice, opF_store, opF_conv, opF_len, opF_minmax, opF_builtin, opF_call, resK, ev_tmp, evG_some, ev_int, ev_bool, ev_str, evs, evp, evo, R.ok_bind, putT_some, putT_none, T.get_set, T.get_e, binF_int, op_rem, op_quo_u32, op_xor_u32, op_neq, op_eql, op_lss, op_add_i64, op_sub_u32, op_and_u8, op_xor_u8, op_not_u32, binF_shr_u32, binF_shr_u8, op_mul_i64, op_quo_i64, op_and_u32, binF_shl_u8, wrapF_u8, wrapF_u32, mod_u8, mod_u32, cond_val, Nat.lt_irrefl, Nat.not_lt_zero, if_true, if_false, reduceIte, Nat.reduceEqDiff, Nat.reduceAdd, ne_eq, not_true_eq_false, not_false_eq_true, decide_true, decide_false, Bool.false_eq_true, Bool.not_true, Bool.not_false, sub_nil, sub_seq0, sub_seq1, sub_cond0, sub_cond1, sub_block, sub_loop, sub_scope, sub_range0, sub_range1, Option.getD_some, at_ptr, at_slc, runOps_yes, runOps_no, exec_draw, op_sub_i64, op_sub_neg, op_lss_neg, binF_str, str_add, str_neq, str_eql, takeF, resF, oneOf, pickF, extractF, cells_str, cells_int, cells_agg, bool_eql, bool_neq, op_lssI, bne_self_eq_false, beq_self_eq_true, eq_self, cells_slc, cells_func, builtin_append, ev_nilslice, ev_nilfunc, ev_nilptr, ev_nilmap, opF_makeFunc, opF_callv, callV_func, callV_yield, op_leq, op_gtr, op_geq, cast_le, cast_lt, List.nil_append, List.cons_append, List.append_nil, un_not, g0, g1, g7, g49, g50, hlt, hix, p12, hw, List.getElem?_cons_zero, List.getElem?_cons_succ, wnd4, hm]
        with_reducible rfl
      refine ⟨hlt, _, _, rfl, rfl, ?_⟩
      simp only [Sl_cons, Sl_nil, T.get_set, T.puts_cons, T.puts_nil, Nat.reduceEqDiff, Nat.reduceAdd, if_true, if_false, and_true, true_and, g0, g1, g2, g7, g49]
    · have hw : withinD a b m = .tuple ⟨[.int .i64 ((0 : Nat) : Int), .bool false]⟩ := by unfold withinD; rw [if_neg hm]
      apply W.run 20
      · intro M
        simp (config := { maxSteps := 4000000 }) (disch := first | decide +kernel | (rw [wantF_guard]; simp only [wantD_some, dstAt_zero, dstAt_succ, T.get_set, T.get_e, Nat.reduceEqDiff, if_true, if_false, wantV_bool, wantV_unit, unitV, cond_true, cond_false, Bool.not_true, Bool.not_false, List.toList_toArray]) | omega) only [c3b1, c3, Try.f3, Nat.ble, cond_true, cond_false, T.puts_cons, T.puts_nil, exec_seq, exec_block, nat_beq_self, exec_region, exec_cond, exec_skip, exec_ret, exec_exit, exec_scope, runOps_cons, runOps_nil, opF_move, opF_assign, opF_ari, opF_neq, opF_eql, opF_un, opF_index, opF_indexAddr, opF_fieldAddr, opF_field, opF_build, opF_slice, opF_extract, opF_pick, opF_load, opF_alloc, opF_box, opF_buildSlice, opF_makeSlice, opF_store, opF_conv, opF_len, opF_minmax, opF_builtin, opF_call, resK, ev_tmp, evG_some, ev_int, ev_bool, ev_str, evs, evp, evo, R.ok_bind, putT_some, putT_none, T.get_set, T.get_e, binF_int, op_rem, op_quo_u32, op_xor_u32, op_neq, op_eql, op_lss, op_add_i64, op_sub_u32, op_and_u8, op_xor_u8, op_not_u32, binF_shr_u32, binF_shr_u8, op_mul_i64, op_quo_i64, op_and_u32, binF_shl_u8, wrapF_u8, wrapF_u32, mod_u8, mod_u32, cond_val, Nat.lt_irrefl, Nat.not_lt_zero, if_true, if_false, reduceIte, Nat.reduceEqDiff, Nat.reduceAdd, ne_eq, not_true_eq_false, not_false_eq_true, decide_true, decide_false, Bool.false_eq_true, Bool.not_true, Bool.not_false, sub_nil, sub_seq0, sub_seq1, sub_cond0, sub_cond1, sub_block, sub_loop, sub_scope, sub_range0, sub_range1, Option.getD_some, at_ptr, at_slc, runOps_yes, runOps_no, exec_draw, op_sub_i64, op_sub_neg, op_lss_neg, binF_str, str_add, str_neq, str_eql, takeF, resF, oneOf, pickF, extractF, cells_str, cells_int, cells_agg, bool_eql, bool_neq, op_lssI, bne_self_eq_false, beq_self_eq_true, eq_self, cells_slc, cells_func, builtin_append, ev_nilslice, ev_nilfunc, ev_nilptr, ev_nilmap, opF_makeFunc, opF_callv, callV_func, callV_yield, op_leq, op_gtr, op_geq, cast_le, cast_lt, List.nil_append, List.cons_append, List.append_nil, un_not, g0, g1, g7, g49, g50, hlt, hix, p12, hw, List.getElem?_cons_zero, List.getElem?_cons_succ, wnd4, hm]
        with_reducible rfl
      refine ⟨hlt, _, _, rfl, rfl, ?_⟩
      simp only [Sl_cons, Sl_nil, T.get_set, T.puts_cons, T.puts_nil, Nat.reduceEqDiff, Nat.reduceAdd, if_true, if_false, and_true, true_and, g0, g1, g2, g7, g49]
  · have hi4 : i = 4 := by omega
    subst hi4
    apply W.run 20
    · intro M
      simp (config := { maxSteps := 4000000 }) (disch := first | decide +kernel | (rw [wantF_guard]; simp only [wantD_some, dstAt_zero, dstAt_succ, T.get_set, T.get_e, Nat.reduceEqDiff, if_true, if_false, wantV_bool, wantV_unit, unitV, cond_true, cond_false, Bool.not_true, Bool.not_false, List.toList_toArray]) | omega) only [c3b1, c3, Try.f3, Nat.ble, cond_true, cond_false, T.puts_cons, T.puts_nil, exec_seq, exec_block, nat_beq_self, exec_region, exec_cond, exec_skip, exec_ret, exec_exit, exec_scope, runOps_cons, runOps_nil, opF_move, opF_assign, opF_ari, opF_neq, opF_eql, opF_un, opF_index, opF_indexAddr, opF_fieldAddr, opF_field, opF_build, opF_slice, opF_extract, opF_pick, opF_load, opF_alloc, opF_box, opF_buildSlice, opF_makeSlice, opF_store, opF_conv, opF_len, opF_minmax, opF_builtin, opF_call, resK, ev_tmp, evG_some, ev_int, ev_bool, ev_str, evs, evp, evo, R.ok_bind, putT_some, putT_none, T.get_set, T.get_e, binF_int, op_rem, op_quo_u32, op_xor_u32, op_neq, op_eql, op_lss, op_add_i64, op_sub_u32, op_and_u8, op_xor_u8, op_not_u32, binF_shr_u32, binF_shr_u8, op_mul_i64, op_quo_i64, op_and_u32, binF_shl_u8, wrapF_u8, wrapF_u32, mod_u8, mod_u32, cond_val, Nat.lt_irrefl, Nat.not_lt_zero, if_true, if_false, reduceIte, Nat.reduceEqDiff, Nat.reduceAdd, ne_eq, not_true_eq_false, not_false_eq_true, decide_true, decide_false, Bool.false_eq_true, Bool.not_true, Bool.not_false, sub_nil, sub_seq0, sub_seq1, sub_cond0, sub_cond1, sub_block, sub_loop, sub_scope, sub_range0, sub_range1, Option.getD_some, at_ptr, at_slc, runOps_yes, runOps_no, exec_draw, op_sub_i64, op_sub_neg, op_lss_neg, binF_str, str_add, str_neq, str_eql, takeF, resF, oneOf, pickF, extractF, cells_str, cells_int, cells_agg, bool_eql, bool_neq, op_lssI, bne_self_eq_false, beq_self_eq_true, eq_self, cells_slc, cells_func, builtin_append, ev_nilslice, ev_nilfunc, ev_nilptr, ev_nilmap, opF_makeFunc, opF_callv, callV_func, callV_yield, op_leq, op_gtr, op_geq, cast_le, cast_lt, List.nil_append, List.cons_append, List.append_nil, un_not, g50]
      with_reducible rfl
    apply hK
    simp only [Sl_cons, Sl_nil, T.get_set, T.puts_cons, T.puts_nil, Nat.reduceEqDiff, Nat.reduceAdd, if_true, if_false, and_true, true_and, g0, g1, g2, g7]

set_option maxHeartbeats 4000000 in
set_option maxRecDepth 20000 in
/-- The rows. -/
theorem tells_rows (ha : a.length ≤ 40) (hb : b.length ≤ 40) {t : T Value} {B : Mem} (h : ∃ x br, Slc B 3 br (ints (rowOf a [])) x ∧ Sl t [(0, strOf a), (1, strOf b), (12, x), (13, .int .i64 ((0 : Nat) : Int))])
    (hK : ∀ (t' : T Value) (C : Mem) (x : Value) (br : Nat), Slc C 3 br (ints (rowOf a b)) x → Sl t' [(0, strOf a), (12, x)] → K (.exit 2) ⟨t', 126, [], C, none⟩) : W tb2 (.loop c3b2) ⟨t, 126, [], B, none⟩ K := by
  refine W.up (b.length + 1) (fun i t C => ∃ x br, Slc C 3 br (ints (rowOf a (b.take i))) x ∧ Sl t [(0, strOf a), (1, strOf b), (12, x), (13, .int .i64 (i : Int))]) ?_ (Nat.zero_le _) h
  rintro i t C hi ⟨x, br, hx, g0, g1, g12, g13, -⟩
  by_cases hle : i ≤ b.length
  · have l1 : (b.take i).length = i := by rw [List.length_take]; omega
    obtain ⟨y, C1, ⟨gy, hgy⟩, ⟨by_, hby, hy⟩, hE1⟩ := run_behind a (b.take i) (by omega) (by omega) C
    obtain ⟨g1', hg1⟩ := run_alike (by rw [rowOf_len]; omega) (hE1.slc hx) hy
    by_cases hlt : i < b.length
    · have hxC1 := hE1.slc hx
      have hE2 := Ext.alloc C1 (rowOb 3 [])
      have hE3 := Ext.alloc (C1.alloc (rowOb 3 [])) (.cells 3 .row 0 (T.puts .e 0 (ints (rowOf a (b.take i)))))
      obtain ⟨ti, ht1, ht2⟩ := wy3
      have happ := append_all (tb := tb2) (st := 27) (xt := 27) (b0 := C1.next) (hE2.slc hxC1) wnd27 wnd27 wc3 ht1 (by omega) (by omega) (by rw [ints_len, rowOf_len]; omega) (by rw [ints_len, rowOf_len]; omega)
      have hkept : Slc ((C1.alloc (rowOb 3 [])).alloc (.cells 3 .row 0 (T.puts .e 0 (ints (rowOf a (b.take i)))))) 3 (C1.alloc (rowOb 3 [])).next (ints (rowOf a (b.take i))) (.slice (some ⟨(C1.alloc (rowOb 3 [])).next, 0, none⟩) (ints (rowOf a (b.take i))).length (mkX (ints (rowOf a (b.take i))).length 1)) :=
        .inr ⟨.row, _, rfl, by simp only [next_alloc]; omega, vals_puts (get_alloc_self _ _), .inr ⟨rfl, .inl rfl⟩⟩
      have hx3 := hE3.slc (hE2.slc hxC1)
      obtain ⟨v, D, hca, hE4, bd, hbd, hv⟩ := p16 (q := a) (b.getD i 0) (by omega) (rowOf_small (by omega) (by omega)) hx3
      rw [if_pos (rowOf_len _ _), nextD_eq, ← take_getD hlt] at hv
      obtain ⟨g2', hg2⟩ := run_alike (by rw [rowOf_len]; omega) (hE4.slc hkept) (hE4.slc hx3)
      rw [ints_len, rowOf_len] at happ hg2
      apply W.runG ((gy+g1'+g2')) 20
      · intro M hM
        simp (config := { maxSteps := 4000000 }) (disch := first | decide +kernel | (rw [wantF_guard]; simp only [wantD_some, dstAt_zero, dstAt_succ, T.get_set, T.get_e, Nat.reduceEqDiff, if_true, if_false, wantV_bool, wantV_unit, unitV, cond_true, cond_false, Bool.not_true, Bool.not_false, List.toList_toArray]) | omega) only [c3b2, c3, Try.f3, Nat.ble, cond_true, cond_false, T.puts_cons, T.puts_nil, exec_seq, exec_block, nat_beq_self, exec_region, exec_cond, exec_skip, exec_ret, exec_exit, exec_scope, runOps_cons, runOps_nil, opF_move, opF_assign, opF_ari, opF_neq, opF_eql, opF_un, opF_index, opF_indexAddr, opF_fieldAddr, opF_field, opF_build, opF_slice, opF_extract, opF_pick, opF_load, opF_alloc, opF_box, opF_buildSlice, opF_makeSlice, opF_store, opF_conv, opF_len, opF_minmax, opF_builtin, opF_call, resK, ev_tmp, evG_some, ev_int, ev_bool, ev_str, evs, evp, evo, R.ok_bind, putT_some, putT_none, T.get_set, T.get_e, binF_int, op_rem, op_quo_u32, op_xor_u32, op_neq, op_eql, op_lss, op_add_i64, op_sub_u32, op_and_u8, op_xor_u8, op_not_u32, binF_shr_u32, binF_shr_u8, op_mul_i64, op_quo_i64, op_and_u32, binF_shl_u8, wrapF_u8, wrapF_u32, mod_u8, mod_u32, cond_val, Nat.lt_irrefl, Nat.not_lt_zero, if_true, if_false, reduceIte, Nat.reduceEqDiff, Nat.reduceAdd, ne_eq, not_true_eq_false, not_false_eq_true, decide_true, decide_false, Bool.false_eq_true, Bool.not_true, Bool.not_false, sub_nil, sub_seq0, sub_seq1, sub_cond0, sub_cond1, sub_block, sub_loop, sub_scope, sub_range0, sub_range1, Option.getD_some, at_ptr, at_slc, runOps_yes, runOps_no, exec_draw, op_sub_i64, op_sub_neg, op_lss_neg, binF_str, str_add, str_neq, str_eql, takeF, resF, oneOf, pickF, extractF, cells_str, cells_int, cells_agg, bool_eql, bool_neq, op_lssI, bne_self_eq_false, beq_self_eq_true, eq_self, cells_slc, cells_func, builtin_append, ev_nilslice, ev_nilfunc, ev_nilptr, ev_nilmap, opF_makeFunc, opF_callv, callV_func, callV_yield, op_leq, op_gtr, op_geq, cast_le, cast_lt, List.nil_append, List.cons_append, List.append_nil, un_not, g0, g1, g12, g13, len_str wnd9, hle, hlt, slice_to wnd9, hgy, hg1, bs0, happ, index_str wnd9, hca, hg2]
        with_reducible rfl
      refine ⟨by omega, _, _, rfl, v, bd, hv, ?_⟩
      simp only [Sl_cons, Sl_nil, T.get_set, T.puts_cons, T.puts_nil, Nat.reduceEqDiff, Nat.reduceAdd, if_true, if_false, and_true, true_and, g0, g1]
    · have hib : i = b.length := by omega
      apply W.runG ((gy+g1')) 20
      · intro M hM
        simp (config := { maxSteps := 4000000 }) (disch := first | decide +kernel | (rw [wantF_guard]; simp only [wantD_some, dstAt_zero, dstAt_succ, T.get_set, T.get_e, Nat.reduceEqDiff, if_true, if_false, wantV_bool, wantV_unit, unitV, cond_true, cond_false, Bool.not_true, Bool.not_false, List.toList_toArray]) | omega) only [c3b2, c3, Try.f3, Nat.ble, cond_true, cond_false, T.puts_cons, T.puts_nil, exec_seq, exec_block, nat_beq_self, exec_region, exec_cond, exec_skip, exec_ret, exec_exit, exec_scope, runOps_cons, runOps_nil, opF_move, opF_assign, opF_ari, opF_neq, opF_eql, opF_un, opF_index, opF_indexAddr, opF_fieldAddr, opF_field, opF_build, opF_slice, opF_extract, opF_pick, opF_load, opF_alloc, opF_box, opF_buildSlice, opF_makeSlice, opF_store, opF_conv, opF_len, opF_minmax, opF_builtin, opF_call, resK, ev_tmp, evG_some, ev_int, ev_bool, ev_str, evs, evp, evo, R.ok_bind, putT_some, putT_none, T.get_set, T.get_e, binF_int, op_rem, op_quo_u32, op_xor_u32, op_neq, op_eql, op_lss, op_add_i64, op_sub_u32, op_and_u8, op_xor_u8, op_not_u32, binF_shr_u32, binF_shr_u8, op_mul_i64, op_quo_i64, op_and_u32, binF_shl_u8, wrapF_u8, wrapF_u32, mod_u8, mod_u32, cond_val, Nat.lt_irrefl, Nat.not_lt_zero, if_true, if_false, reduceIte, Nat.reduceEqDiff, Nat.reduceAdd, ne_eq, not_true_eq_false, not_false_eq_true, decide_true, decide_false, Bool.false_eq_true, Bool.not_true, Bool.not_false, sub_nil, sub_seq0, sub_seq1, sub_cond0, sub_cond1, sub_block, sub_loop, sub_scope, sub_range0, sub_range1, Option.getD_some, at_ptr, at_slc, runOps_yes, runOps_no, exec_draw, op_sub_i64, op_sub_neg, op_lss_neg, binF_str, str_add, str_neq, str_eql, takeF, resF, oneOf, pickF, extractF, cells_str, cells_int, cells_agg, bool_eql, bool_neq, op_lssI, bne_self_eq_false, beq_self_eq_true, eq_self, cells_slc, cells_func, builtin_append, ev_nilslice, ev_nilfunc, ev_nilptr, ev_nilmap, opF_makeFunc, opF_callv, callV_func, callV_yield, op_leq, op_gtr, op_geq, cast_le, cast_lt, List.nil_append, List.cons_append, List.append_nil, un_not, g0, g1, g12, g13, len_str wnd9, hle, hlt, slice_to wnd9, hgy, hg1]
        with_reducible rfl
      refine ⟨by omega, _, _, rfl, x, br, ?_, ?_⟩
      · have e : b.take (i + 1) = b.take i := by rw [hib, List.take_length, List.take_of_length_le (by omega)]
        rw [e]; exact hE1.slc hx
      · simp only [Sl_cons, Sl_nil, T.get_set, T.puts_cons, T.puts_nil, Nat.reduceEqDiff, Nat.reduceAdd, if_true, if_false, and_true, true_and, g0, g1, g12]
  · have hin : i = b.length + 1 := by omega
    have e : b.take i = b := List.take_of_length_le (by omega)
    rw [e] at hx
    apply W.run 20
    · intro M
      simp (config := { maxSteps := 4000000 }) (disch := first | decide +kernel | (rw [wantF_guard]; simp only [wantD_some, dstAt_zero, dstAt_succ, T.get_set, T.get_e, Nat.reduceEqDiff, if_true, if_false, wantV_bool, wantV_unit, unitV, cond_true, cond_false, Bool.not_true, Bool.not_false, List.toList_toArray]) | omega) only [c3b2, c3, Try.f3, Nat.ble, cond_true, cond_false, T.puts_cons, T.puts_nil, exec_seq, exec_block, nat_beq_self, exec_region, exec_cond, exec_skip, exec_ret, exec_exit, exec_scope, runOps_cons, runOps_nil, opF_move, opF_assign, opF_ari, opF_neq, opF_eql, opF_un, opF_index, opF_indexAddr, opF_fieldAddr, opF_field, opF_build, opF_slice, opF_extract, opF_pick, opF_load, opF_alloc, opF_box, opF_buildSlice, opF_makeSlice, opF_store, opF_conv, opF_len, opF_minmax, opF_builtin, opF_call, resK, ev_tmp, evG_some, ev_int, ev_bool, ev_str, evs, evp, evo, R.ok_bind, putT_some, putT_none, T.get_set, T.get_e, binF_int, op_rem, op_quo_u32, op_xor_u32, op_neq, op_eql, op_lss, op_add_i64, op_sub_u32, op_and_u8, op_xor_u8, op_not_u32, binF_shr_u32, binF_shr_u8, op_mul_i64, op_quo_i64, op_and_u32, binF_shl_u8, wrapF_u8, wrapF_u32, mod_u8, mod_u32, cond_val, Nat.lt_irrefl, Nat.not_lt_zero, if_true, if_false, reduceIte, Nat.reduceEqDiff, Nat.reduceAdd, ne_eq, not_true_eq_false, not_false_eq_true, decide_true, decide_false, Bool.false_eq_true, Bool.not_true, Bool.not_false, sub_nil, sub_seq0, sub_seq1, sub_cond0, sub_cond1, sub_block, sub_loop, sub_scope, sub_range0, sub_range1, Option.getD_some, at_ptr, at_slc, runOps_yes, runOps_no, exec_draw, op_sub_i64, op_sub_neg, op_lss_neg, binF_str, str_add, str_neq, str_eql, takeF, resF, oneOf, pickF, extractF, cells_str, cells_int, cells_agg, bool_eql, bool_neq, op_lssI, bne_self_eq_false, beq_self_eq_true, eq_self, cells_slc, cells_func, builtin_append, ev_nilslice, ev_nilfunc, ev_nilptr, ev_nilmap, opF_makeFunc, opF_callv, callV_func, callV_yield, op_leq, op_gtr, op_geq, cast_le, cast_lt, List.nil_append, List.cons_append, List.append_nil, un_not, g1, g13, len_str wnd9, hle]
      with_reducible rfl
    refine hK _ _ x br hx ?_
    simp only [Sl_cons, Sl_nil, T.get_set, T.puts_cons, T.puts_nil, Nat.reduceEqDiff, Nat.reduceAdd, if_true, if_false, and_true, true_and, g0, g12]
end

set_option maxHeartbeats 4000000 in
set_option maxRecDepth 20000 in
theorem run_tells (a0 b0 : List UInt8) (kk : Int) : ∃ A, CallsTo tb2 3 [strOf a0, strOf b0, .int .i64 kk] mem0 (.bool true) A := by
  have ha := cut_len 40 a0
  have hb := cut_len 40 b0
  have hm1 : min a0.length 40 ≤ a0.length := Nat.min_le_left _ _
  have hm2 : min b0.length 40 ≤ b0.length := Nat.min_le_left _ _
  have hc1 : a0.take (min a0.length 40) = cut 40 a0 := rfl
  have hc2 : b0.take (min b0.length 40) = cut 40 b0 := rfl
  obtain ⟨v, A', h1, h2⟩ : ∃ v A', CallsTo tb2 3 [strOf a0, strOf b0, .int .i64 kk] mem0 v A' ∧ v = .bool true := by
    refine call_of_W (fn_at Try.func3) c3_eq (by rw [Try.ntmps3]; simp) ?_
    apply W.seq
    apply W.run 20
    · intro M
      simp (config := { maxSteps := 4000000 }) (disch := first | decide +kernel | (rw [wantF_guard]; simp only [wantD_some, dstAt_zero, dstAt_succ, T.get_set, T.get_e, Nat.reduceEqDiff, if_true, if_false, wantV_bool, wantV_unit, unitV, cond_true, cond_false, Bool.not_true, Bool.not_false, List.toList_toArray]) | omega) only [c3, Try.f3, Nat.ble, cond_true, cond_false, T.puts_cons, T.puts_nil, exec_seq, exec_block, nat_beq_self, exec_region, exec_cond, exec_skip, exec_ret, exec_exit, exec_scope, runOps_cons, runOps_nil, opF_move, opF_assign, opF_ari, opF_neq, opF_eql, opF_un, opF_index, opF_indexAddr, opF_fieldAddr, opF_field, opF_build, opF_slice, opF_extract, opF_pick, opF_load, opF_alloc, opF_box, opF_buildSlice, opF_makeSlice, opF_store, opF_conv, opF_len, opF_minmax, opF_builtin, opF_call, resK, ev_tmp, evG_some, ev_int, ev_bool, ev_str, evs, evp, evo, R.ok_bind, putT_some, putT_none, T.get_set, T.get_e, binF_int, op_rem, op_quo_u32, op_xor_u32, op_neq, op_eql, op_lss, op_add_i64, op_sub_u32, op_and_u8, op_xor_u8, op_not_u32, binF_shr_u32, binF_shr_u8, op_mul_i64, op_quo_i64, op_and_u32, binF_shl_u8, wrapF_u8, wrapF_u32, mod_u8, mod_u32, cond_val, Nat.lt_irrefl, Nat.not_lt_zero, if_true, if_false, reduceIte, Nat.reduceEqDiff, Nat.reduceAdd, ne_eq, not_true_eq_false, not_false_eq_true, decide_true, decide_false, Bool.false_eq_true, Bool.not_true, Bool.not_false, sub_nil, sub_seq0, sub_seq1, sub_cond0, sub_cond1, sub_block, sub_loop, sub_scope, sub_range0, sub_range1, Option.getD_some, at_ptr, at_slc, runOps_yes, runOps_no, exec_draw, op_sub_i64, op_sub_neg, op_lss_neg, binF_str, str_add, str_neq, str_eql, takeF, resF, oneOf, pickF, extractF, cells_str, cells_int, cells_agg, bool_eql, bool_neq, op_lssI, bne_self_eq_false, beq_self_eq_true, eq_self, cells_slc, cells_func, builtin_append, ev_nilslice, ev_nilfunc, ev_nilptr, ev_nilmap, opF_makeFunc, opF_callv, callV_func, callV_yield, op_leq, op_gtr, op_geq, cast_le, cast_lt, List.nil_append, List.cons_append, List.append_nil, un_not]
      with_reducible rfl
    apply W.seq
    apply W.run 20
    · intro M
      simp (config := { maxSteps := 4000000 }) (disch := first | decide +kernel | (rw [wantF_guard]; simp only [wantD_some, dstAt_zero, dstAt_succ, T.get_set, T.get_e, Nat.reduceEqDiff, if_true, if_false, wantV_bool, wantV_unit, unitV, cond_true, cond_false, Bool.not_true, Bool.not_false, List.toList_toArray]) | omega) only [c3, Try.f3, Nat.ble, cond_true, cond_false, T.puts_cons, T.puts_nil, exec_seq, exec_block, nat_beq_self, exec_region, exec_cond, exec_skip, exec_ret, exec_exit, exec_scope, runOps_cons, runOps_nil, opF_move, opF_assign, opF_ari, opF_neq, opF_eql, opF_un, opF_index, opF_indexAddr, opF_fieldAddr, opF_field, opF_build, opF_slice, opF_extract, opF_pick, opF_load, opF_alloc, opF_box, opF_buildSlice, opF_makeSlice, opF_store, opF_conv, opF_len, opF_minmax, opF_builtin, opF_call, resK, ev_tmp, evG_some, ev_int, ev_bool, ev_str, evs, evp, evo, R.ok_bind, putT_some, putT_none, T.get_set, T.get_e, binF_int, op_rem, op_quo_u32, op_xor_u32, op_neq, op_eql, op_lss, op_add_i64, op_sub_u32, op_and_u8, op_xor_u8, op_not_u32, binF_shr_u32, binF_shr_u8, op_mul_i64, op_quo_i64, op_and_u32, binF_shl_u8, wrapF_u8, wrapF_u32, mod_u8, mod_u32, cond_val, Nat.lt_irrefl, Nat.not_lt_zero, if_true, if_false, reduceIte, Nat.reduceEqDiff, Nat.reduceAdd, ne_eq, not_true_eq_false, not_false_eq_true, decide_true, decide_false, Bool.false_eq_true, Bool.not_true, Bool.not_false, sub_nil, sub_seq0, sub_seq1, sub_cond0, sub_cond1, sub_block, sub_loop, sub_scope, sub_range0, sub_range1, Option.getD_some, at_ptr, at_slc, runOps_yes, runOps_no, exec_draw, op_sub_i64, op_sub_neg, op_lss_neg, binF_str, str_add, str_neq, str_eql, takeF, resF, oneOf, pickF, extractF, cells_str, cells_int, cells_agg, bool_eql, bool_neq, op_lssI, bne_self_eq_false, beq_self_eq_true, eq_self, cells_slc, cells_func, builtin_append, ev_nilslice, ev_nilfunc, ev_nilptr, ev_nilmap, opF_makeFunc, opF_callv, callV_func, callV_yield, op_leq, op_gtr, op_geq, cast_le, cast_lt, List.nil_append, List.cons_append, List.append_nil, un_not, len_str wnd9, min_i64, slice_to wnd9, hc1, hc2]
      with_reducible rfl
    revert ha hb
    generalize cut 40 a0 = a
    generalize cut 40 b0 = b
    intro ha hb
    apply W.seq
    apply W.run 20
    · intro M
      simp (config := { maxSteps := 4000000 }) (disch := first | decide +kernel | (rw [wantF_guard]; simp only [wantD_some, dstAt_zero, dstAt_succ, T.get_set, T.get_e, Nat.reduceEqDiff, if_true, if_false, wantV_bool, wantV_unit, unitV, cond_true, cond_false, Bool.not_true, Bool.not_false, List.toList_toArray]) | omega) only [c3, Try.f3, Nat.ble, cond_true, cond_false, T.puts_cons, T.puts_nil, exec_seq, exec_block, nat_beq_self, exec_region, exec_cond, exec_skip, exec_ret, exec_exit, exec_scope, runOps_cons, runOps_nil, opF_move, opF_assign, opF_ari, opF_neq, opF_eql, opF_un, opF_index, opF_indexAddr, opF_fieldAddr, opF_field, opF_build, opF_slice, opF_extract, opF_pick, opF_load, opF_alloc, opF_box, opF_buildSlice, opF_makeSlice, opF_store, opF_conv, opF_len, opF_minmax, opF_builtin, opF_call, resK, ev_tmp, evG_some, ev_int, ev_bool, ev_str, evs, evp, evo, R.ok_bind, putT_some, putT_none, T.get_set, T.get_e, binF_int, op_rem, op_quo_u32, op_xor_u32, op_neq, op_eql, op_lss, op_add_i64, op_sub_u32, op_and_u8, op_xor_u8, op_not_u32, binF_shr_u32, binF_shr_u8, op_mul_i64, op_quo_i64, op_and_u32, binF_shl_u8, wrapF_u8, wrapF_u32, mod_u8, mod_u32, cond_val, Nat.lt_irrefl, Nat.not_lt_zero, if_true, if_false, reduceIte, Nat.reduceEqDiff, Nat.reduceAdd, ne_eq, not_true_eq_false, not_false_eq_true, decide_true, decide_false, Bool.false_eq_true, Bool.not_true, Bool.not_false, sub_nil, sub_seq0, sub_seq1, sub_cond0, sub_cond1, sub_block, sub_loop, sub_scope, sub_range0, sub_range1, Option.getD_some, at_ptr, at_slc, runOps_yes, runOps_no, exec_draw, op_sub_i64, op_sub_neg, op_lss_neg, binF_str, str_add, str_neq, str_eql, takeF, resF, oneOf, pickF, extractF, cells_str, cells_int, cells_agg, bool_eql, bool_neq, op_lssI, bne_self_eq_false, beq_self_eq_true, eq_self, cells_slc, cells_func, builtin_append, ev_nilslice, ev_nilfunc, ev_nilptr, ev_nilmap, opF_makeFunc, opF_callv, callV_func, callV_yield, op_leq, op_gtr, op_geq, cast_le, cast_lt, List.nil_append, List.cons_append, List.append_nil, un_not, p8]
      with_reducible rfl
    apply W.seq
    apply W.seq
    apply W.run 20
    · intro M
      simp (config := { maxSteps := 4000000 }) (disch := first | decide +kernel | (rw [wantF_guard]; simp only [wantD_some, dstAt_zero, dstAt_succ, T.get_set, T.get_e, Nat.reduceEqDiff, if_true, if_false, wantV_bool, wantV_unit, unitV, cond_true, cond_false, Bool.not_true, Bool.not_false, List.toList_toArray]) | omega) only [c3, Try.f3, Nat.ble, cond_true, cond_false, T.puts_cons, T.puts_nil, exec_seq, exec_block, nat_beq_self, exec_region, exec_cond, exec_skip, exec_ret, exec_exit, exec_scope, runOps_cons, runOps_nil, opF_move, opF_assign, opF_ari, opF_neq, opF_eql, opF_un, opF_index, opF_indexAddr, opF_fieldAddr, opF_field, opF_build, opF_slice, opF_extract, opF_pick, opF_load, opF_alloc, opF_box, opF_buildSlice, opF_makeSlice, opF_store, opF_conv, opF_len, opF_minmax, opF_builtin, opF_call, resK, ev_tmp, evG_some, ev_int, ev_bool, ev_str, evs, evp, evo, R.ok_bind, putT_some, putT_none, T.get_set, T.get_e, binF_int, op_rem, op_quo_u32, op_xor_u32, op_neq, op_eql, op_lss, op_add_i64, op_sub_u32, op_and_u8, op_xor_u8, op_not_u32, binF_shr_u32, binF_shr_u8, op_mul_i64, op_quo_i64, op_and_u32, binF_shl_u8, wrapF_u8, wrapF_u32, mod_u8, mod_u32, cond_val, Nat.lt_irrefl, Nat.not_lt_zero, if_true, if_false, reduceIte, Nat.reduceEqDiff, Nat.reduceAdd, ne_eq, not_true_eq_false, not_false_eq_true, decide_true, decide_false, Bool.false_eq_true, Bool.not_true, Bool.not_false, sub_nil, sub_seq0, sub_seq1, sub_cond0, sub_cond1, sub_block, sub_loop, sub_scope, sub_range0, sub_range1, Option.getD_some, at_ptr, at_slc, runOps_yes, runOps_no, exec_draw, op_sub_i64, op_sub_neg, op_lss_neg, binF_str, str_add, str_neq, str_eql, takeF, resF, oneOf, pickF, extractF, cells_str, cells_int, cells_agg, bool_eql, bool_neq, op_lssI, bne_self_eq_false, beq_self_eq_true, eq_self, cells_slc, cells_func, builtin_append, ev_nilslice, ev_nilfunc, ev_nilptr, ev_nilmap, opF_makeFunc, opF_callv, callV_func, callV_yield, op_leq, op_gtr, op_geq, cast_le, cast_lt, List.nil_append, List.cons_append, List.append_nil, un_not, p9, p10, p11]
      with_reducible rfl
    apply W.run 20
    · intro M
      simp (config := { maxSteps := 4000000 }) (disch := first | decide +kernel | (rw [wantF_guard]; simp only [wantD_some, dstAt_zero, dstAt_succ, T.get_set, T.get_e, Nat.reduceEqDiff, if_true, if_false, wantV_bool, wantV_unit, unitV, cond_true, cond_false, Bool.not_true, Bool.not_false, List.toList_toArray]) | omega) only [c3, Try.f3, Nat.ble, cond_true, cond_false, T.puts_cons, T.puts_nil, exec_seq, exec_block, nat_beq_self, exec_region, exec_cond, exec_skip, exec_ret, exec_exit, exec_scope, runOps_cons, runOps_nil, opF_move, opF_assign, opF_ari, opF_neq, opF_eql, opF_un, opF_index, opF_indexAddr, opF_fieldAddr, opF_field, opF_build, opF_slice, opF_extract, opF_pick, opF_load, opF_alloc, opF_box, opF_buildSlice, opF_makeSlice, opF_store, opF_conv, opF_len, opF_minmax, opF_builtin, opF_call, resK, ev_tmp, evG_some, ev_int, ev_bool, ev_str, evs, evp, evo, R.ok_bind, putT_some, putT_none, T.get_set, T.get_e, binF_int, op_rem, op_quo_u32, op_xor_u32, op_neq, op_eql, op_lss, op_add_i64, op_sub_u32, op_and_u8, op_xor_u8, op_not_u32, binF_shr_u32, binF_shr_u8, op_mul_i64, op_quo_i64, op_and_u32, binF_shl_u8, wrapF_u8, wrapF_u32, mod_u8, mod_u32, cond_val, Nat.lt_irrefl, Nat.not_lt_zero, if_true, if_false, reduceIte, Nat.reduceEqDiff, Nat.reduceAdd, ne_eq, not_true_eq_false, not_false_eq_true, decide_true, decide_false, Bool.false_eq_true, Bool.not_true, Bool.not_false, sub_nil, sub_seq0, sub_seq1, sub_cond0, sub_cond1, sub_block, sub_loop, sub_scope, sub_range0, sub_range1, Option.getD_some, at_ptr, at_slc, runOps_yes, runOps_no, exec_draw, op_sub_i64, op_sub_neg, op_lss_neg, binF_str, str_add, str_neq, str_eql, takeF, resF, oneOf, pickF, extractF, cells_str, cells_int, cells_agg, bool_eql, bool_neq, op_lssI, bne_self_eq_false, beq_self_eq_true, eq_self, cells_slc, cells_func, builtin_append, ev_nilslice, ev_nilfunc, ev_nilptr, ev_nilmap, opF_makeFunc, opF_callv, callV_func, callV_yield, op_leq, op_gtr, op_geq, cast_le, cast_lt, List.nil_append, List.cons_append, List.append_nil, un_not]
      with_reducible rfl
    apply W.seq
    apply W.seq
    have hds := dist_max a b
    have hsub : intOpF .sub .i64 ((Go.Dist.dist a b : Nat) : Int) ((1 : Nat) : Int) = .ok (.int .i64 (((Go.Dist.dist a b : Nat) : Int) - ((1 : Nat) : Int))) := op_subI (by omega) (by omega)
    have hrem : intOpF .rem .i64 kk ((4 : Nat) : Int) = .ok (.int .i64 (kk.tmod ((4 : Nat) : Int))) := op_remI (by omega)
    apply W.run 20
    · intro M
      simp (config := { maxSteps := 4000000 }) (disch := first | decide +kernel | (rw [wantF_guard]; simp only [wantD_some, dstAt_zero, dstAt_succ, T.get_set, T.get_e, Nat.reduceEqDiff, if_true, if_false, wantV_bool, wantV_unit, unitV, cond_true, cond_false, Bool.not_true, Bool.not_false, List.toList_toArray]) | omega) only [c3, Try.f3, Nat.ble, cond_true, cond_false, T.puts_cons, T.puts_nil, exec_seq, exec_block, nat_beq_self, exec_region, exec_cond, exec_skip, exec_ret, exec_exit, exec_scope, runOps_cons, runOps_nil, opF_move, opF_assign, opF_ari, opF_neq, opF_eql, opF_un, opF_index, opF_indexAddr, opF_fieldAddr, opF_field, opF_build, opF_slice, opF_extract, opF_pick, opF_load, opF_alloc, opF_box, opF_buildSlice, opF_makeSlice, opF_store, opF_conv, opF_len, opF_minmax, opF_builtin, opF_call, resK, ev_tmp, evG_some, ev_int, ev_bool, ev_str, evs, evp, evo, R.ok_bind, putT_some, putT_none, T.get_set, T.get_e, binF_int, op_rem, op_quo_u32, op_xor_u32, op_neq, op_eql, op_lss, op_add_i64, op_sub_u32, op_and_u8, op_xor_u8, op_not_u32, binF_shr_u32, binF_shr_u8, op_mul_i64, op_quo_i64, op_and_u32, binF_shl_u8, wrapF_u8, wrapF_u32, mod_u8, mod_u32, cond_val, Nat.lt_irrefl, Nat.not_lt_zero, if_true, if_false, reduceIte, Nat.reduceEqDiff, Nat.reduceAdd, ne_eq, not_true_eq_false, not_false_eq_true, decide_true, decide_false, Bool.false_eq_true, Bool.not_true, Bool.not_false, sub_nil, sub_seq0, sub_seq1, sub_cond0, sub_cond1, sub_block, sub_loop, sub_scope, sub_range0, sub_range1, Option.getD_some, at_ptr, at_slc, runOps_yes, runOps_no, exec_draw, op_sub_i64, op_sub_neg, op_lss_neg, binF_str, str_add, str_neq, str_eql, takeF, resF, oneOf, pickF, extractF, cells_str, cells_int, cells_agg, bool_eql, bool_neq, op_lssI, bne_self_eq_false, beq_self_eq_true, eq_self, cells_slc, cells_func, builtin_append, ev_nilslice, ev_nilfunc, ev_nilptr, ev_nilmap, opF_makeFunc, opF_callv, callV_func, callV_yield, op_leq, op_gtr, op_geq, cast_le, cast_lt, List.nil_append, List.cons_append, List.append_nil, un_not, hsub, hrem, bf4]
      with_reducible rfl
    apply W.block
    refine tells_within ha hb kk (Go.Dist.dist a b : Nat) (((Go.Dist.dist a b : Nat) : Int) - ((1 : Nat) : Int)) (kk.tmod ((4 : Nat) : Int)) (kk := kk) ?_ ?_
    · simp only [Sl_cons, Sl_nil, T.get_set, T.puts_cons, T.puts_nil, Nat.reduceEqDiff, Nat.reduceAdd, if_true, if_false, and_true, true_and]
    rintro t ⟨g0, g1, g2, g7, -⟩
    show W tb2 _ _ _
    obtain ⟨x, B, hrow, hsl, hE⟩ := p13 a mem0 (by omega)
    apply W.seq
    apply W.run 20
    · intro M
      simp (config := { maxSteps := 4000000 }) (disch := first | decide +kernel | (rw [wantF_guard]; simp only [wantD_some, dstAt_zero, dstAt_succ, T.get_set, T.get_e, Nat.reduceEqDiff, if_true, if_false, wantV_bool, wantV_unit, unitV, cond_true, cond_false, Bool.not_true, Bool.not_false, List.toList_toArray]) | omega) only [c3, Try.f3, Nat.ble, cond_true, cond_false, T.puts_cons, T.puts_nil, exec_seq, exec_block, nat_beq_self, exec_region, exec_cond, exec_skip, exec_ret, exec_exit, exec_scope, runOps_cons, runOps_nil, opF_move, opF_assign, opF_ari, opF_neq, opF_eql, opF_un, opF_index, opF_indexAddr, opF_fieldAddr, opF_field, opF_build, opF_slice, opF_extract, opF_pick, opF_load, opF_alloc, opF_box, opF_buildSlice, opF_makeSlice, opF_store, opF_conv, opF_len, opF_minmax, opF_builtin, opF_call, resK, ev_tmp, evG_some, ev_int, ev_bool, ev_str, evs, evp, evo, R.ok_bind, putT_some, putT_none, T.get_set, T.get_e, binF_int, op_rem, op_quo_u32, op_xor_u32, op_neq, op_eql, op_lss, op_add_i64, op_sub_u32, op_and_u8, op_xor_u8, op_not_u32, binF_shr_u32, binF_shr_u8, op_mul_i64, op_quo_i64, op_and_u32, binF_shl_u8, wrapF_u8, wrapF_u32, mod_u8, mod_u32, cond_val, Nat.lt_irrefl, Nat.not_lt_zero, if_true, if_false, reduceIte, Nat.reduceEqDiff, Nat.reduceAdd, ne_eq, not_true_eq_false, not_false_eq_true, decide_true, decide_false, Bool.false_eq_true, Bool.not_true, Bool.not_false, sub_nil, sub_seq0, sub_seq1, sub_cond0, sub_cond1, sub_block, sub_loop, sub_scope, sub_range0, sub_range1, Option.getD_some, at_ptr, at_slc, runOps_yes, runOps_no, exec_draw, op_sub_i64, op_sub_neg, op_lss_neg, binF_str, str_add, str_neq, str_eql, takeF, resF, oneOf, pickF, extractF, cells_str, cells_int, cells_agg, bool_eql, bool_neq, op_lssI, bne_self_eq_false, beq_self_eq_true, eq_self, cells_slc, cells_func, builtin_append, ev_nilslice, ev_nilfunc, ev_nilptr, ev_nilmap, opF_makeFunc, opF_callv, callV_func, callV_yield, op_leq, op_gtr, op_geq, cast_le, cast_lt, List.nil_append, List.cons_append, List.append_nil, un_not, g0, hrow]
      with_reducible rfl
    apply W.seq
    apply W.seq
    apply W.run 20
    · intro M
      simp (config := { maxSteps := 4000000 }) (disch := first | decide +kernel | (rw [wantF_guard]; simp only [wantD_some, dstAt_zero, dstAt_succ, T.get_set, T.get_e, Nat.reduceEqDiff, if_true, if_false, wantV_bool, wantV_unit, unitV, cond_true, cond_false, Bool.not_true, Bool.not_false, List.toList_toArray]) | omega) only [c3, Try.f3, Nat.ble, cond_true, cond_false, T.puts_cons, T.puts_nil, exec_seq, exec_block, nat_beq_self, exec_region, exec_cond, exec_skip, exec_ret, exec_exit, exec_scope, runOps_cons, runOps_nil, opF_move, opF_assign, opF_ari, opF_neq, opF_eql, opF_un, opF_index, opF_indexAddr, opF_fieldAddr, opF_field, opF_build, opF_slice, opF_extract, opF_pick, opF_load, opF_alloc, opF_box, opF_buildSlice, opF_makeSlice, opF_store, opF_conv, opF_len, opF_minmax, opF_builtin, opF_call, resK, ev_tmp, evG_some, ev_int, ev_bool, ev_str, evs, evp, evo, R.ok_bind, putT_some, putT_none, T.get_set, T.get_e, binF_int, op_rem, op_quo_u32, op_xor_u32, op_neq, op_eql, op_lss, op_add_i64, op_sub_u32, op_and_u8, op_xor_u8, op_not_u32, binF_shr_u32, binF_shr_u8, op_mul_i64, op_quo_i64, op_and_u32, binF_shl_u8, wrapF_u8, wrapF_u32, mod_u8, mod_u32, cond_val, Nat.lt_irrefl, Nat.not_lt_zero, if_true, if_false, reduceIte, Nat.reduceEqDiff, Nat.reduceAdd, ne_eq, not_true_eq_false, not_false_eq_true, decide_true, decide_false, Bool.false_eq_true, Bool.not_true, Bool.not_false, sub_nil, sub_seq0, sub_seq1, sub_cond0, sub_cond1, sub_block, sub_loop, sub_scope, sub_range0, sub_range1, Option.getD_some, at_ptr, at_slc, runOps_yes, runOps_no, exec_draw, op_sub_i64, op_sub_neg, op_lss_neg, binF_str, str_add, str_neq, str_eql, takeF, resF, oneOf, pickF, extractF, cells_str, cells_int, cells_agg, bool_eql, bool_neq, op_lssI, bne_self_eq_false, beq_self_eq_true, eq_self, cells_slc, cells_func, builtin_append, ev_nilslice, ev_nilfunc, ev_nilptr, ev_nilmap, opF_makeFunc, opF_callv, callV_func, callV_yield, op_leq, op_gtr, op_geq, cast_le, cast_lt, List.nil_append, List.cons_append, List.append_nil, un_not]
      with_reducible rfl
    apply W.block
    refine tells_rows ha hb ⟨x, mem0.next, by rw [rowOf_nil]; exact hsl, ?_⟩ ?_
    · simp only [Sl_cons, Sl_nil, T.get_set, T.puts_cons, T.puts_nil, Nat.reduceEqDiff, Nat.reduceAdd, if_true, if_false, and_true, true_and, g0, g1]
    rintro t2 C y br hy ⟨q0, q12, -⟩
    show W tb2 _ _ _
    have hE1 := Ext.alloc C (rowOb 3 [.int .i64 ((1 : Nat) : Int)])
    obtain ⟨ti, ht1, ht2⟩ := wy3
    obtain ⟨y', D, happ, hs3, hn3, hf3⟩ := (hE1.slc hy).append (tb := tb2) (st := 27) (xt := 27) wnd27 wnd27 wc3 ht1 (by omega) (by omega) (by rw [ints_len, rowOf_len]; omega) (get_alloc_self C _) rfl
    have e : ints (rowOf a b) ++ [.int .i64 ((1 : Nat) : Int)] = ints (rowOf a b ++ [1]) := by rw [← ints_append]; rfl
    rw [e] at hs3
    obtain ⟨z, D2, hca, hE5, bz, hbz, hz⟩ := p16 (q := a) 120 (by omega) (fun n hn => by
      rcases List.mem_append.1 hn with h | h
      · exact rowOf_small (by omega) (by omega) n h
      · simp at h; omega) hs3
    rw [if_neg (by rw [List.length_append, rowOf_len]; simp)] at hz
    have hlz := hz.len (tb := tb2) (t := 27) wnd27
    have et : ((120 : UInt8).toNat : Nat) = 120 := rfl
    have e0 : (ints []).length = 0 := rfl
    rw [et] at hca
    apply W.seq
    apply W.run 20
    · intro M
      simp (config := { maxSteps := 4000000 }) (disch := first | decide +kernel | (rw [wantF_guard]; simp only [wantD_some, dstAt_zero, dstAt_succ, T.get_set, T.get_e, Nat.reduceEqDiff, if_true, if_false, wantV_bool, wantV_unit, unitV, cond_true, cond_false, Bool.not_true, Bool.not_false, List.toList_toArray]) | omega) only [c3, Try.f3, Nat.ble, cond_true, cond_false, T.puts_cons, T.puts_nil, exec_seq, exec_block, nat_beq_self, exec_region, exec_cond, exec_skip, exec_ret, exec_exit, exec_scope, runOps_cons, runOps_nil, opF_move, opF_assign, opF_ari, opF_neq, opF_eql, opF_un, opF_index, opF_indexAddr, opF_fieldAddr, opF_field, opF_build, opF_slice, opF_extract, opF_pick, opF_load, opF_alloc, opF_box, opF_buildSlice, opF_makeSlice, opF_store, opF_conv, opF_len, opF_minmax, opF_builtin, opF_call, resK, ev_tmp, evG_some, ev_int, ev_bool, ev_str, evs, evp, evo, R.ok_bind, putT_some, putT_none, T.get_set, T.get_e, binF_int, op_rem, op_quo_u32, op_xor_u32, op_neq, op_eql, op_lss, op_add_i64, op_sub_u32, op_and_u8, op_xor_u8, op_not_u32, binF_shr_u32, binF_shr_u8, op_mul_i64, op_quo_i64, op_and_u32, binF_shl_u8, wrapF_u8, wrapF_u32, mod_u8, mod_u32, cond_val, Nat.lt_irrefl, Nat.not_lt_zero, if_true, if_false, reduceIte, Nat.reduceEqDiff, Nat.reduceAdd, ne_eq, not_true_eq_false, not_false_eq_true, decide_true, decide_false, Bool.false_eq_true, Bool.not_true, Bool.not_false, sub_nil, sub_seq0, sub_seq1, sub_cond0, sub_cond1, sub_block, sub_loop, sub_scope, sub_range0, sub_range1, Option.getD_some, at_ptr, at_slc, runOps_yes, runOps_no, exec_draw, op_sub_i64, op_sub_neg, op_lss_neg, binF_str, str_add, str_neq, str_eql, takeF, resF, oneOf, pickF, extractF, cells_str, cells_int, cells_agg, bool_eql, bool_neq, op_lssI, bne_self_eq_false, beq_self_eq_true, eq_self, cells_slc, cells_func, builtin_append, ev_nilslice, ev_nilfunc, ev_nilptr, ev_nilmap, opF_makeFunc, opF_callv, callV_func, callV_yield, op_leq, op_gtr, op_geq, cast_le, cast_lt, List.nil_append, List.cons_append, List.append_nil, un_not, q0, q12, ws27, happ, hca, hlz, e0, p17]
      with_reducible rfl
    apply W.run 20
    · intro M
      simp (config := { maxSteps := 4000000 }) (disch := first | decide +kernel | (rw [wantF_guard]; simp only [wantD_some, dstAt_zero, dstAt_succ, T.get_set, T.get_e, Nat.reduceEqDiff, if_true, if_false, wantV_bool, wantV_unit, unitV, cond_true, cond_false, Bool.not_true, Bool.not_false, List.toList_toArray]) | omega) only [c3, Try.f3, Nat.ble, cond_true, cond_false, T.puts_cons, T.puts_nil, exec_seq, exec_block, nat_beq_self, exec_region, exec_cond, exec_skip, exec_ret, exec_exit, exec_scope, runOps_cons, runOps_nil, opF_move, opF_assign, opF_ari, opF_neq, opF_eql, opF_un, opF_index, opF_indexAddr, opF_fieldAddr, opF_field, opF_build, opF_slice, opF_extract, opF_pick, opF_load, opF_alloc, opF_box, opF_buildSlice, opF_makeSlice, opF_store, opF_conv, opF_len, opF_minmax, opF_builtin, opF_call, resK, ev_tmp, evG_some, ev_int, ev_bool, ev_str, evs, evp, evo, R.ok_bind, putT_some, putT_none, T.get_set, T.get_e, binF_int, op_rem, op_quo_u32, op_xor_u32, op_neq, op_eql, op_lss, op_add_i64, op_sub_u32, op_and_u8, op_xor_u8, op_not_u32, binF_shr_u32, binF_shr_u8, op_mul_i64, op_quo_i64, op_and_u32, binF_shl_u8, wrapF_u8, wrapF_u32, mod_u8, mod_u32, cond_val, Nat.lt_irrefl, Nat.not_lt_zero, if_true, if_false, reduceIte, Nat.reduceEqDiff, Nat.reduceAdd, ne_eq, not_true_eq_false, not_false_eq_true, decide_true, decide_false, Bool.false_eq_true, Bool.not_true, Bool.not_false, sub_nil, sub_seq0, sub_seq1, sub_cond0, sub_cond1, sub_block, sub_loop, sub_scope, sub_range0, sub_range1, Option.getD_some, at_ptr, at_slc, runOps_yes, runOps_no, exec_draw, op_sub_i64, op_sub_neg, op_lss_neg, binF_str, str_add, str_neq, str_eql, takeF, resF, oneOf, pickF, extractF, cells_str, cells_int, cells_agg, bool_eql, bool_neq, op_lssI, bne_self_eq_false, beq_self_eq_true, eq_self, cells_slc, cells_func, builtin_append, ev_nilslice, ev_nilfunc, ev_nilptr, ev_nilmap, opF_makeFunc, opF_callv, callV_func, callV_yield, op_leq, op_gtr, op_geq, cast_le, cast_lt, List.nil_append, List.cons_append, List.append_nil, un_not]
      with_reducible rfl
    refine ⟨.inr rfl, _, [.bool true], rfl, ?_, rfl⟩
    simp only [Try.f3, resF, ev_tmp, T.get_set, Nat.reduceEqDiff, if_true, if_false, evG_some, R.ok_bind]
  subst h2
  exact ⟨A', h1⟩
end Go.Proofs.Ytekimgleakjonaa.dist

namespace Go.Proofs.Ytekimgleakjonaa.distTells
open Go.ChangeShapes Go.WideShapes Go.ChangeAt Go.RowKit Go.Am
open Go.ChangeMaps (open_string shut_string)
set_option linter.unusedVariables false      -- a walk need not use every 'w<i>' (that an integer argument fits its kind)

theorem own : ownKnob Try.prog.godebug = none := by kernel_rfl

/-! ### The run -/
theorem walk (a0 : ByteArray) (a1 : ByteArray) (a2 : Int) (w0 : a0.size ≤ maxLen) (w1 : a1.size ≤ maxLen) (w2 : (Lit.int .i64 a2).wf = true) (w : World) :
    Calls Try.prog 3 #[.string a0, .string a1, .int .i64 a2] w fun e w' => e = .returned (.bool true) ∧ Go.Am.Leaves w w' := by
  exact dist.walk_of2 Try.func3 dist.c3_eq (dist.run_tells a0.data.toList a1.data.toList a2) _ (.cons (.string _) (.cons (.string _) (.cons (.int _ _) .nil))) w

/-! ### THE ROW's STEP: WRITTEN OUT: LEAVE IT -/
set_option maxRecDepth 100000 in
theorem lifted (os : Os) (started : os.Started) (H : Type) (enc : TypeId × Value → H) :
    ReturnsInHanded {} Try.checked os 3 .any (Rows.distTellsSpec.pre6 enc Try.prog Try.f3 Rows.distTellsRow.domain false) (Rows.distTellsSpec.post enc Try.prog Try.f3 false true false false) := by
  refine returnsInHanded_of_change (C := Try.checked) own started (by kernel_rfl) Try.func3
    (ChangeSpec.witness6 (enc := enc) (C := Try.checked) false ⟨#[], #[.string ByteArray.empty, .string ByteArray.empty, .int .i64 0], []⟩ 8 (by kernel_rfl) (by kernel_rfl) (by kernel_rfl) (by kernel_rfl)) ?_
  intro W base args ds gs before hval0 hW hcnd _
  have hval : ∀ (j : Nat) t v, Try.f3.params[j]? = some t → args[j]? = some v → Value.okWide Try.prog W .any base t v := hval0
  have hW' := hW
  obtain ⟨p, q, hA0, hV, rfl, hfz, hnd⟩ := hW
  have hA : DataW.TrodAll enc Try.prog W 0 (fun _ => true) true Try.f3.params.toList args.toList ds p := hA0
  rw [Try.params3] at hA hval
  obtain ⟨v0, vs0, d0, ds0, p0, q0, hargs, rfl, rfl, h0, r0⟩ := trodAll_cons hA
  obtain ⟨v1, vs1, d1, ds1, p1, q1, rfl, rfl, rfl, h1, r1⟩ := trodAll_cons r0
  obtain ⟨v2, vs2, d2, ds2, p2, q2, rfl, rfl, rfl, h2, r2⟩ := trodAll_cons r1
  obtain ⟨rfl, rfl, rfl⟩ := trodAll_nil r2
  obtain rfl : args = #[v0, v1, v2] := by cases args; simp_all
  obtain ⟨rfl, rfl⟩ := trodVars_none hV
  obtain ⟨a0, rfl, rfl, rfl, w0⟩ := open_string Try.underlying9 (hval 0 9 v0 rfl rfl) h0
  obtain ⟨a1, rfl, rfl, rfl, w1⟩ := open_string Try.underlying9 (hval 1 9 v1 rfl rfl) h1
  obtain ⟨a2, rfl, rfl, rfl, w2⟩ := open_int Try.underlying3 (hval 2 3 v2 rfl rfl) h2
  clear hA0 hval0
  simp only [List.append_nil] at hW'
  refine (walk a0 a1 a2 w0 w1 w2 W).mono fun e W' ⟨he, hg⟩ => ?_
  subst he
  exact ⟨_, rfl, postLaw (pa := []) (pv := []) hg hW' rfl (fun _ _ _ => (trodAll_cons_mk (shut_bool Try.underlying4 _) trodAll_mk0)) (fun sp _ => (trodAll_cons_mk (shut_string Try.underlying9 w0) (trodAll_cons_mk (shut_string Try.underlying9 w1) (trodAll_cons_mk (shut_int Try.underlying3 w2) trodAll_mk0)))) (fun _ _ => rfl)
    (ok_one (by kernel_rfl) rfl (okWide_bool_mk Try.underlying4 _))⟩

theorem over : Rows.distTellsRow.holds Try.pinned (OpenSpec.ofChange Rows.distTellsSpec) :=
  OpenClaim.holds_of_wide 3 Try.f3 rfl rfl rfl rfl rfl rfl rfl ⟨rfl, rfl, rfl, rfl, rfl⟩ rfl rfl rfl rfl rfl (by kernel_rfl) Try.func3 (by kernel_rfl)
    (of_decide_eq_true (by kernel_rfl)) (by unfold Func.isWrapper; first | (rw [if_pos (by decide +kernel)]; kernel_rfl) | (rw [if_neg (by decide +kernel)]; exact ⟨rfl, rfl⟩))
    (fun os started H enc _ => lifted os started H enc)

/-- ████ THE STATEMENT ████ -/
theorem proved : Rows.DistTellsSaid :=
  over
#print axioms proved
end Go.Proofs.Ytekimgleakjonaa.distTells
