/-
  What the functions of this group compute on the abstract machine, and the plain laws of it. Part B: conditions stand in each theorem.
-/
import Derived.Test.YtmhldlnlgjpkaaaScrA

/-
  Script: some openings; which operations have a weight.
-/
namespace Go.Proofs.Ytmhldlnlgjpkaaa.scr
open Go.Am
variable {q : Nat}
set_option linter.unusedSimpArgs false

def opensRest (rem : List UInt8) : Nat → List UInt8
  | 0 => rem
  | k + 1 => openRest (opensRest rem k)
def opensL (rem : List UInt8) (k : Nat) : List (Nat × List Nat) := (List.range k).map fun i => openV (opensRest rem i)
theorem opensL_len (rem : List UInt8) (k : Nat) : (opensL rem k).length = k := by simp [opensL]
theorem opensL_succ (rem : List UInt8) (k : Nat) : opensL rem (k + 1) = opensL rem k ++ [openV (opensRest rem k)] := by simp [opensL, List.range_succ]
def OpsR (P : Nat → Prop) (A : Mem) (ds : List (Nat × List Nat)) (x : Value) : Prop :=
  ∃ ls b, (x = .slice none 0 0 ∨ P b) ∧ SlcM A 41 2 b ls x ∧ ls.length = ds.length ∧ ∀ (i : Nat) (d : Nat × List Nat) (l : List Value), ds[i]? = some d → ls[i]? = some l → OpR P A d l
theorem SlcM.lt {A : Mem} {e : TypeId} {n b : Nat} {ls : List (List Value)} {x : Value} (h : SlcM A e n b ls x) : x = .slice none 0 0 ∨ b < A.next := by
  rcases h with h | ⟨k, c, _, h, _⟩
  · exact .inl h.1
  · exact .inr h
theorem SlcM.cells {A : Mem} {e : TypeId} {n b : Nat} {ls : List (List Value)} {x : Value} (h : SlcM A e n b ls x) : x.cells.toList = [x] ∧ oneCell x = true ∧ sameV 100 x x = true := by
  rcases h with ⟨rfl, -⟩ | ⟨k, c, rfl, -⟩
  · exact ⟨rfl, rfl, rfl⟩
  · exact ⟨rfl, rfl, sameV_slc _ _ _ _⟩
theorem OpsR.same {P Q : Nat → Prop} {A A' : Mem} {ds : List (Nat × List Nat)} {x : Value} (h : OpsR P A ds x) (hn : A.next ≤ A'.next) (hg : ∀ b, P b → b < A.next → Q b ∧ A'.get b = A.get b) : OpsR Q A' ds x := by
  obtain ⟨ls, b, h1, h2, h3, h4⟩ := h
  have hall : ∀ (i : Nat) (d : Nat × List Nat) (l : List Value), ds[i]? = some d → ls[i]? = some l → OpR Q A' d l := fun i d l hd hl => (h4 i d l hd hl).same hn hg
  rcases SlcM.lt h2 with hx | hb
  · subst hx
    rcases h2 with h2 | ⟨k, c, h2, _⟩
    · exact ⟨ls, b, .inl rfl, .inl h2, h3, hall⟩
    · cases h2
  · rcases h1 with hx | hp
    · subst hx
      rcases h2 with h2 | ⟨k, c, h2, _⟩
      · exact ⟨ls, b, .inl rfl, .inl h2, h3, hall⟩
      · cases h2
    · exact ⟨ls, b, .inr (hg b hp hb).1, h2.same hn (fun _ => (hg b hp hb).2), h3, hall⟩

theorem bs37 (a xs : Value) : buildSliceF tb1 37 1 [(0, .agg ⟨[a, xs]⟩)] = .ok (rowOb 41 [a, xs], .slc 1 2) := by kernel_rfl
theorem zc41 : zcellsF tb1 41 = .ok (2, [.int .i64 0, .slice none 0 0]) := by kernel_rfl
theorem ty41 : ∃ i, tb1.ty.get 41 = some i ∧ 0 < i.bytes ∧ i.bytes ≤ 65536 := by
  have h : ((tb1.ty.get 41).map fun i => decide (0 < i.bytes) && decide (i.bytes ≤ 65536)) = some true := by kernel_rfl
  cases hq : tb1.ty.get 41 with
  | none => rw [hq] at h; cases h
  | some i =>
    rw [hq] at h
    simp only [Option.map_some, Option.some.injEq, Bool.and_eq_true, decide_eq_true_eq] at h
    exact ⟨i, rfl, h⟩
noncomputable def c45 : Code := Try.f45.body.getD .skip
noncomputable def c45b1 : Code := sub c45 [1,0,1,0,0]
theorem c45_eq : Try.f45.body = some (.seq (sub c45 [0]) (.seq (.seq (sub c45 [1,0,0]) (.block 0 (.loop c45b1))) (.seq (sub c45 [1,1,0]) (sub c45 [1,1,1])))) := by kernel_rfl
set_option maxHeartbeats 2000000 in
theorem run_opens {A : Mem} {bb : Nat} {rem : List UInt8} (h : Rd q A bb rem) (n : Nat) (hn : n ≤ 1000) : ∃ x A', Ans tb1 45 [.int .i64 (n : Nat), .func (.func 46) ⟨[.agg ⟨rdV bb⟩]⟩ ⟨[]⟩] A x A' ∧ OpsR (fun b => A.next ≤ b) A' (opensL rem n) x ∧ Rd q A' bb (opensRest rem n) ∧ Kp bb A A' := by
  have hq := h.qlt
  refine ans_of_W (fn_at Try.func45) c45_eq (by rw [Try.ntmps45]; simp) (by kernel_rfl) (by kernel_rfl) ?_
  have hbb := h.1
  apply W.seq
  apply W.run 20
  · intro M
    simp (config := { maxSteps := 4000000 }) (disch := first | decide +kernel | (rw [wantF_guard]; simp only [wantD_some, dstAt_zero, dstAt_succ, T.get_set, T.get_e, Nat.reduceEqDiff, if_true, if_false, wantV_bool, wantV_unit, unitV, cond_true, cond_false, Bool.not_true, Bool.not_false, List.toList_toArray]) | omega) only [c45, Try.f45, Nat.ble, cond_true, cond_false, T.puts_cons, T.puts_nil, exec_seq, exec_block, nat_beq_self, exec_region, exec_cond, exec_skip, exec_ret, exec_exit, exec_scope, runOps_cons, runOps_nil, opF_move, opF_assign, opF_ari, opF_neq, opF_eql, opF_un, opF_index, opF_indexAddr, opF_fieldAddr, opF_field, opF_build, opF_slice, opF_extract, opF_pick, opF_load, opF_alloc, opF_box, opF_buildSlice, opF_makeSlice, opF_store, opF_conv, opF_len, opF_minmax, opF_builtin, opF_call, resK, ev_tmp, evG_some, ev_int, ev_bool, ev_str, evs, evp, evo, R.ok_bind, putT_some, putT_none, T.get_set, T.get_e, binF_int, op_rem, op_quo_u32, op_xor_u32, op_neq, op_eql, op_lss, op_add_i64, op_sub_u32, op_and_u8, op_xor_u8, op_not_u32, binF_shr_u32, binF_shr_u8, op_mul_i64, op_quo_i64, op_and_u32, binF_shl_u8, wrapF_u8, wrapF_u32, mod_u8, mod_u32, cond_val, Nat.lt_irrefl, Nat.not_lt_zero, if_true, if_false, reduceIte, Nat.reduceEqDiff, Nat.reduceAdd, ne_eq, not_true_eq_false, not_false_eq_true, decide_true, decide_false, Bool.false_eq_true, Bool.not_true, Bool.not_false, sub_nil, sub_seq0, sub_seq1, sub_cond0, sub_cond1, sub_block, sub_loop, sub_scope, sub_range0, sub_range1, Option.getD_some, at_ptr, at_slc, runOps_yes, runOps_no, exec_draw, op_sub_i64, op_sub_neg, op_lss_neg, binF_str, str_add, str_neq, str_eql, takeF, resF, oneOf, pickF, extractF, cells_str, cells_int, cells_agg, bool_eql, bool_neq, op_lssI, bne_self_eq_false, beq_self_eq_true, eq_self, cells_slc, cells_func, builtin_append, ev_nilslice, ev_nilfunc, ev_nilptr, ev_nilmap, opF_makeFunc, opF_callv, callV_func, callV_yield, op_leq, op_gtr, op_geq, cast_le, cast_lt, List.nil_append, List.cons_append, List.append_nil, un_not]
    with_reducible rfl
  apply W.seq
  apply W.seq
  apply W.run 20
  · intro M
    simp (config := { maxSteps := 4000000 }) (disch := first | decide +kernel | (rw [wantF_guard]; simp only [wantD_some, dstAt_zero, dstAt_succ, T.get_set, T.get_e, Nat.reduceEqDiff, if_true, if_false, wantV_bool, wantV_unit, unitV, cond_true, cond_false, Bool.not_true, Bool.not_false, List.toList_toArray]) | omega) only [c45, Try.f45, Nat.ble, cond_true, cond_false, T.puts_cons, T.puts_nil, exec_seq, exec_block, nat_beq_self, exec_region, exec_cond, exec_skip, exec_ret, exec_exit, exec_scope, runOps_cons, runOps_nil, opF_move, opF_assign, opF_ari, opF_neq, opF_eql, opF_un, opF_index, opF_indexAddr, opF_fieldAddr, opF_field, opF_build, opF_slice, opF_extract, opF_pick, opF_load, opF_alloc, opF_box, opF_buildSlice, opF_makeSlice, opF_store, opF_conv, opF_len, opF_minmax, opF_builtin, opF_call, resK, ev_tmp, evG_some, ev_int, ev_bool, ev_str, evs, evp, evo, R.ok_bind, putT_some, putT_none, T.get_set, T.get_e, binF_int, op_rem, op_quo_u32, op_xor_u32, op_neq, op_eql, op_lss, op_add_i64, op_sub_u32, op_and_u8, op_xor_u8, op_not_u32, binF_shr_u32, binF_shr_u8, op_mul_i64, op_quo_i64, op_and_u32, binF_shl_u8, wrapF_u8, wrapF_u32, mod_u8, mod_u32, cond_val, Nat.lt_irrefl, Nat.not_lt_zero, if_true, if_false, reduceIte, Nat.reduceEqDiff, Nat.reduceAdd, ne_eq, not_true_eq_false, not_false_eq_true, decide_true, decide_false, Bool.false_eq_true, Bool.not_true, Bool.not_false, sub_nil, sub_seq0, sub_seq1, sub_cond0, sub_cond1, sub_block, sub_loop, sub_scope, sub_range0, sub_range1, Option.getD_some, at_ptr, at_slc, runOps_yes, runOps_no, exec_draw, op_sub_i64, op_sub_neg, op_lss_neg, binF_str, str_add, str_neq, str_eql, takeF, resF, oneOf, pickF, extractF, cells_str, cells_int, cells_agg, bool_eql, bool_neq, op_lssI, bne_self_eq_false, beq_self_eq_true, eq_self, cells_slc, cells_func, builtin_append, ev_nilslice, ev_nilfunc, ev_nilptr, ev_nilmap, opF_makeFunc, opF_callv, callV_func, callV_yield, op_leq, op_gtr, op_geq, cast_le, cast_lt, List.nil_append, List.cons_append, List.append_nil, un_not]
    with_reducible rfl
  apply W.block
  refine W.up n (fun i t C => ∃ x ls b, SlcM C 41 2 b ls x ∧ (x = .slice none 0 0 ∨ A.next ≤ b) ∧ ls.length = i ∧ (∀ (j : Nat) (d : Nat × List Nat) (l : List Value), (opensL rem i)[j]? = some d → ls[j]? = some l → OpR (fun c => A.next ≤ c ∧ (x = .slice none 0 0 ∨ c ≠ b)) C d l) ∧ Rd q C bb (opensRest rem i) ∧ Kp bb A C ∧
    Sl t [(1, .func (.func 46) ⟨[.agg ⟨rdV bb⟩]⟩ ⟨[]⟩), (4, x), (5, .int .i64 (n : Int)), (6, .int .i64 (i : Int))]) ?_ (Nat.zero_le _) ⟨.slice none 0 0, [], 0, SlcM.nil _ _ _ _, .inl rfl, rfl, fun j d l _ hl => by simp at hl, h, Kp.refl _ _, ?_⟩
  · rintro i t C hi ⟨x, ls, b, hx, hb, hls, hall, hr, hk, g1, g4, g5, g6, -⟩
    by_cases hlt : i < n
    · obtain ⟨l, C1, ⟨g, hg⟩, ho, hr1, hk1⟩ := run_opening hr
      have hn0 := hk.1
      have hn1 := hk1.1
      have hbl := SlcM.lt hx
      have hbne : x ≠ .slice none 0 0 → A.next ≤ b ∧ b < C.next := fun hne => ⟨hb.resolve_left hne, hbl.resolve_left hne⟩
      have hx1 : SlcM C1 41 2 b ls x := by
        rcases hbl with he | hlt2
        · subst he
          rcases hx with hx | ⟨k, c, hx, _⟩
          · exact .inl hx
          · cases hx
        · rcases hb with he | hb2
          · subst he
            rcases hx with hx | ⟨k, c, hx, _⟩
            · exact .inl hx
            · cases hx
          · exact hx.same hn1 (fun hl => hk1.2 b hlt2 (by omega))
      obtain ⟨hl2, hl1⟩ := ho.cells
      have hsh : ∃ v1 xs, l = [v1, xs] := by obtain ⟨xs, e, _⟩ := ho; exact ⟨_, xs, e⟩
      obtain ⟨v1, xs, hle⟩ := hsh
      have hbsl : buildSliceF tb1 37 1 [(0, .agg ⟨l⟩)] = .ok (rowOb 41 l, .slc 1 2) := by rw [hle]; exact bs37 v1 xs
      have hn2 : (C1.alloc (rowOb 41 l)).next = C1.next + 1 := next_alloc _ _
      obtain ⟨ti, ht1, ht2, ht3⟩ := ty41
      have hx2 : SlcM (C1.alloc (rowOb 41 l)) 41 2 b ls x := hx1.same (by omega) (fun hl => get_alloc_ne (by omega))
      obtain ⟨x', C3, happ, hs3, hn3, hf3⟩ := hx2.append (tb := tb1) (st := 37) (xt := 37) und37 und37 zc41 ht1 ht2 ht3 (by omega) (by omega) (by omega) (get_alloc_self C1 _) hl2 hl1
      have hfr : ∀ y, (y = b → x = .slice none 0 0) → y < C1.next → C3.get y = C1.get y := fun y h1 h2 => by rw [hf3 y h1 (by omega), get_alloc_ne (by omega)]
      apply W.runG (g) 20
      · intro M hM
        simp (config := { maxSteps := 4000000 }) (disch := first | decide +kernel | (rw [wantF_guard]; simp only [wantD_some, dstAt_zero, dstAt_succ, T.get_set, T.get_e, Nat.reduceEqDiff, if_true, if_false, wantV_bool, wantV_unit, unitV, cond_true, cond_false, Bool.not_true, Bool.not_false, List.toList_toArray]) | omega) only [c45b1, c45, Try.f45, Nat.ble, cond_true, cond_false, T.puts_cons, T.puts_nil, exec_seq, exec_block, nat_beq_self, exec_region, exec_cond, exec_skip, exec_ret, exec_exit, exec_scope, runOps_cons, runOps_nil, opF_move, opF_assign, opF_ari, opF_neq, opF_eql, opF_un, opF_index, opF_indexAddr, opF_fieldAddr, opF_field, opF_build, opF_slice, opF_extract, opF_pick, opF_load, opF_alloc, opF_box, opF_buildSlice, opF_makeSlice, opF_store, opF_conv, opF_len, opF_minmax, opF_builtin, opF_call, resK, ev_tmp, evG_some, ev_int, ev_bool, ev_str, evs, evp, evo, R.ok_bind, putT_some, putT_none, T.get_set, T.get_e, binF_int, op_rem, op_quo_u32, op_xor_u32, op_neq, op_eql, op_lss, op_add_i64, op_sub_u32, op_and_u8, op_xor_u8, op_not_u32, binF_shr_u32, binF_shr_u8, op_mul_i64, op_quo_i64, op_and_u32, binF_shl_u8, wrapF_u8, wrapF_u32, mod_u8, mod_u32, cond_val, Nat.lt_irrefl, Nat.not_lt_zero, if_true, if_false, reduceIte, Nat.reduceEqDiff, Nat.reduceAdd, ne_eq, not_true_eq_false, not_false_eq_true, decide_true, decide_false, Bool.false_eq_true, Bool.not_true, Bool.not_false, sub_nil, sub_seq0, sub_seq1, sub_cond0, sub_cond1, sub_block, sub_loop, sub_scope, sub_range0, sub_range1, Option.getD_some, at_ptr, at_slc, runOps_yes, runOps_no, exec_draw, op_sub_i64, op_sub_neg, op_lss_neg, binF_str, str_add, str_neq, str_eql, takeF, resF, oneOf, pickF, extractF, cells_str, cells_int, cells_agg, bool_eql, bool_neq, op_lssI, bne_self_eq_false, beq_self_eq_true, eq_self, cells_slc, cells_func, builtin_append, ev_nilslice, ev_nilfunc, ev_nilptr, ev_nilmap, opF_makeFunc, opF_callv, callV_func, callV_yield, op_leq, op_gtr, op_geq, cast_le, cast_lt, List.nil_append, List.cons_append, List.append_nil, un_not, g1, g4, g5, g6, hlt, hg, hbsl, happ]
        with_reducible rfl
      refine ⟨hlt, _, _, rfl, x', ls ++ [l], (C1.alloc (rowOb 41 l)).next, hs3, .inr (by omega), by rw [List.length_append, hls]; rfl, fun j d l' hd hl' => ?_, ?_, ⟨by omega, ?_⟩, ?_⟩
      · rw [opensL_succ] at hd
        by_cases hj : j < i
        · rw [List.getElem?_append_left (by rw [opensL_len]; exact hj)] at hd
          rw [List.getElem?_append_left (by rw [hls]; exact hj)] at hl'
          refine (hall j d l' hd hl').same (by omega) (fun c hc hcl => ⟨⟨hc.1, .inr (by omega)⟩, ?_⟩)
          rw [hfr c (fun e => hc.2.resolve_right (fun hne => hne e)) (by omega), hk1.2 c hcl (by omega)]
        · have hji : j = i := by
            have := (List.getElem?_eq_some_iff.1 hd).1
            rw [List.length_append, opensL_len] at this
            simp at this; omega
          subst hji
          rw [List.getElem?_append_right (by rw [opensL_len]; omega), opensL_len, Nat.sub_self] at hd
          rw [List.getElem?_append_right (by rw [hls]; omega), hls, Nat.sub_self] at hl'
          simp only [List.getElem?_cons_zero, Option.some.injEq] at hd hl'
          subst hd hl'
          refine ho.same (by omega) (fun c hc hcl => ⟨⟨by omega, .inr (by omega)⟩, hfr c (fun e => ?_) hcl⟩)
          rcases hbl with he | hlt2
          · exact he
          · omega
      · refine hr1.same (by omega) (fun y hy hyb => hfr y (fun e => ?_) hy)
        rcases hb with he | hb2
        · exact he
        · rcases hyb with rfl | rfl <;> omega
      · intro y hy hyb
        rw [hfr y (fun e => ?_) (by omega), hk1.2 y (by omega) hyb, hk.2 y hy hyb]
        rcases hb with he | hb2
        · exact he
        · omega
      · simp only [Sl_cons, Sl_nil, T.get_set, T.puts_cons, T.puts_nil, Nat.reduceEqDiff, Nat.reduceAdd, if_true, if_false, and_true, true_and, g1, g5]
    · have hin : i = n := by omega
      subst hin
      apply W.run 20
      · intro M
        simp (config := { maxSteps := 4000000 }) (disch := first | decide +kernel | (rw [wantF_guard]; simp only [wantD_some, dstAt_zero, dstAt_succ, T.get_set, T.get_e, Nat.reduceEqDiff, if_true, if_false, wantV_bool, wantV_unit, unitV, cond_true, cond_false, Bool.not_true, Bool.not_false, List.toList_toArray]) | omega) only [c45b1, c45, Try.f45, Nat.ble, cond_true, cond_false, T.puts_cons, T.puts_nil, exec_seq, exec_block, nat_beq_self, exec_region, exec_cond, exec_skip, exec_ret, exec_exit, exec_scope, runOps_cons, runOps_nil, opF_move, opF_assign, opF_ari, opF_neq, opF_eql, opF_un, opF_index, opF_indexAddr, opF_fieldAddr, opF_field, opF_build, opF_slice, opF_extract, opF_pick, opF_load, opF_alloc, opF_box, opF_buildSlice, opF_makeSlice, opF_store, opF_conv, opF_len, opF_minmax, opF_builtin, opF_call, resK, ev_tmp, evG_some, ev_int, ev_bool, ev_str, evs, evp, evo, R.ok_bind, putT_some, putT_none, T.get_set, T.get_e, binF_int, op_rem, op_quo_u32, op_xor_u32, op_neq, op_eql, op_lss, op_add_i64, op_sub_u32, op_and_u8, op_xor_u8, op_not_u32, binF_shr_u32, binF_shr_u8, op_mul_i64, op_quo_i64, op_and_u32, binF_shl_u8, wrapF_u8, wrapF_u32, mod_u8, mod_u32, cond_val, Nat.lt_irrefl, Nat.not_lt_zero, if_true, if_false, reduceIte, Nat.reduceEqDiff, Nat.reduceAdd, ne_eq, not_true_eq_false, not_false_eq_true, decide_true, decide_false, Bool.false_eq_true, Bool.not_true, Bool.not_false, sub_nil, sub_seq0, sub_seq1, sub_cond0, sub_cond1, sub_block, sub_loop, sub_scope, sub_range0, sub_range1, Option.getD_some, at_ptr, at_slc, runOps_yes, runOps_no, exec_draw, op_sub_i64, op_sub_neg, op_lss_neg, binF_str, str_add, str_neq, str_eql, takeF, resF, oneOf, pickF, extractF, cells_str, cells_int, cells_agg, bool_eql, bool_neq, op_lssI, bne_self_eq_false, beq_self_eq_true, eq_self, cells_slc, cells_func, builtin_append, ev_nilslice, ev_nilfunc, ev_nilptr, ev_nilmap, opF_makeFunc, opF_callv, callV_func, callV_yield, op_leq, op_gtr, op_geq, cast_le, cast_lt, List.nil_append, List.cons_append, List.append_nil, un_not, g5, g6]
        with_reducible rfl
      show W tb1 _ _ _
      apply W.seq
      apply W.run 20
      · intro M
        simp (config := { maxSteps := 4000000 }) (disch := first | decide +kernel | (rw [wantF_guard]; simp only [wantD_some, dstAt_zero, dstAt_succ, T.get_set, T.get_e, Nat.reduceEqDiff, if_true, if_false, wantV_bool, wantV_unit, unitV, cond_true, cond_false, Bool.not_true, Bool.not_false, List.toList_toArray]) | omega) only [c45, Try.f45, Nat.ble, cond_true, cond_false, T.puts_cons, T.puts_nil, exec_seq, exec_block, nat_beq_self, exec_region, exec_cond, exec_skip, exec_ret, exec_exit, exec_scope, runOps_cons, runOps_nil, opF_move, opF_assign, opF_ari, opF_neq, opF_eql, opF_un, opF_index, opF_indexAddr, opF_fieldAddr, opF_field, opF_build, opF_slice, opF_extract, opF_pick, opF_load, opF_alloc, opF_box, opF_buildSlice, opF_makeSlice, opF_store, opF_conv, opF_len, opF_minmax, opF_builtin, opF_call, resK, ev_tmp, evG_some, ev_int, ev_bool, ev_str, evs, evp, evo, R.ok_bind, putT_some, putT_none, T.get_set, T.get_e, binF_int, op_rem, op_quo_u32, op_xor_u32, op_neq, op_eql, op_lss, op_add_i64, op_sub_u32, op_and_u8, op_xor_u8, op_not_u32, binF_shr_u32, binF_shr_u8, op_mul_i64, op_quo_i64, op_and_u32, binF_shl_u8, wrapF_u8, wrapF_u32, mod_u8, mod_u32, cond_val, Nat.lt_irrefl, Nat.not_lt_zero, if_true, if_false, reduceIte, Nat.reduceEqDiff, Nat.reduceAdd, ne_eq, not_true_eq_false, not_false_eq_true, decide_true, decide_false, Bool.false_eq_true, Bool.not_true, Bool.not_false, sub_nil, sub_seq0, sub_seq1, sub_cond0, sub_cond1, sub_block, sub_loop, sub_scope, sub_range0, sub_range1, Option.getD_some, at_ptr, at_slc, runOps_yes, runOps_no, exec_draw, op_sub_i64, op_sub_neg, op_lss_neg, binF_str, str_add, str_neq, str_eql, takeF, resF, oneOf, pickF, extractF, cells_str, cells_int, cells_agg, bool_eql, bool_neq, op_lssI, bne_self_eq_false, beq_self_eq_true, eq_self, cells_slc, cells_func, builtin_append, ev_nilslice, ev_nilfunc, ev_nilptr, ev_nilmap, opF_makeFunc, opF_callv, callV_func, callV_yield, op_leq, op_gtr, op_geq, cast_le, cast_lt, List.nil_append, List.cons_append, List.append_nil, un_not, g4]
        with_reducible rfl
      apply W.run 20
      · intro M
        simp (config := { maxSteps := 4000000 }) (disch := first | decide +kernel | (rw [wantF_guard]; simp only [wantD_some, dstAt_zero, dstAt_succ, T.get_set, T.get_e, Nat.reduceEqDiff, if_true, if_false, wantV_bool, wantV_unit, unitV, cond_true, cond_false, Bool.not_true, Bool.not_false, List.toList_toArray]) | omega) only [c45, Try.f45, Nat.ble, cond_true, cond_false, T.puts_cons, T.puts_nil, exec_seq, exec_block, nat_beq_self, exec_region, exec_cond, exec_skip, exec_ret, exec_exit, exec_scope, runOps_cons, runOps_nil, opF_move, opF_assign, opF_ari, opF_neq, opF_eql, opF_un, opF_index, opF_indexAddr, opF_fieldAddr, opF_field, opF_build, opF_slice, opF_extract, opF_pick, opF_load, opF_alloc, opF_box, opF_buildSlice, opF_makeSlice, opF_store, opF_conv, opF_len, opF_minmax, opF_builtin, opF_call, resK, ev_tmp, evG_some, ev_int, ev_bool, ev_str, evs, evp, evo, R.ok_bind, putT_some, putT_none, T.get_set, T.get_e, binF_int, op_rem, op_quo_u32, op_xor_u32, op_neq, op_eql, op_lss, op_add_i64, op_sub_u32, op_and_u8, op_xor_u8, op_not_u32, binF_shr_u32, binF_shr_u8, op_mul_i64, op_quo_i64, op_and_u32, binF_shl_u8, wrapF_u8, wrapF_u32, mod_u8, mod_u32, cond_val, Nat.lt_irrefl, Nat.not_lt_zero, if_true, if_false, reduceIte, Nat.reduceEqDiff, Nat.reduceAdd, ne_eq, not_true_eq_false, not_false_eq_true, decide_true, decide_false, Bool.false_eq_true, Bool.not_true, Bool.not_false, sub_nil, sub_seq0, sub_seq1, sub_cond0, sub_cond1, sub_block, sub_loop, sub_scope, sub_range0, sub_range1, Option.getD_some, at_ptr, at_slc, runOps_yes, runOps_no, exec_draw, op_sub_i64, op_sub_neg, op_lss_neg, binF_str, str_add, str_neq, str_eql, takeF, resF, oneOf, pickF, extractF, cells_str, cells_int, cells_agg, bool_eql, bool_neq, op_lssI, bne_self_eq_false, beq_self_eq_true, eq_self, cells_slc, cells_func, builtin_append, ev_nilslice, ev_nilfunc, ev_nilptr, ev_nilmap, opF_makeFunc, opF_callv, callV_func, callV_yield, op_leq, op_gtr, op_geq, cast_le, cast_lt, List.nil_append, List.cons_append, List.append_nil, un_not]
        with_reducible rfl
      refine ⟨.inr rfl, _, [x], rfl, ?_, ⟨ls, b, hb, hx, by rw [hls, opensL_len], fun j d l hd hl => ?_⟩, hr, hk⟩
      · simp only [Try.f45, resF, ev_tmp, T.get_set, Nat.reduceEqDiff, if_true, if_false, evG_some, R.ok_bind]
      · exact (hall j d l hd hl).same (Nat.le_refl _) (fun c hc _ => ⟨hc.1, rfl⟩)
  · simp only [Sl_cons, Sl_nil, T.get_set, T.puts_cons, T.puts_nil, Nat.reduceEqDiff, Nat.reduceAdd, if_true, if_false, and_true, true_and]

noncomputable def c42 : Code := Try.f42.body.getD .skip
theorem c42_eq : Try.f42.body = some (.seq (sub c42 [0]) (.seq (sub c42 [1,0]) (sub c42 [1,1]))) := by kernel_rfl
def weighs (k : Nat) : Bool := decide (k = 0 ∨ k = 2)
theorem run_weighs (k : Nat) (A : Mem) : Ans tb1 42 [.int .i64 (k : Nat)] A (.bool (weighs k)) A := by
  obtain ⟨v, A', ha, rfl, rfl⟩ : ∃ v A', Ans tb1 42 [.int .i64 (k : Nat)] A v A' ∧ v = .bool (weighs k) ∧ A' = A := by
    refine ans_of_W (fn_at Try.func42) c42_eq (by rw [Try.ntmps42]; simp) (by kernel_rfl) (by kernel_rfl) ?_
    apply W.seq
    apply W.run 20
    · intro M
      simp (config := { maxSteps := 4000000 }) (disch := first | decide +kernel | (rw [wantF_guard]; simp only [wantD_some, dstAt_zero, dstAt_succ, T.get_set, T.get_e, Nat.reduceEqDiff, if_true, if_false, wantV_bool, wantV_unit, unitV, cond_true, cond_false, Bool.not_true, Bool.not_false, List.toList_toArray]) | omega) only [c42, Try.f42, Nat.ble, cond_true, cond_false, T.puts_cons, T.puts_nil, exec_seq, exec_block, nat_beq_self, exec_region, exec_cond, exec_skip, exec_ret, exec_exit, exec_scope, runOps_cons, runOps_nil, opF_move, opF_assign, opF_ari, opF_neq, opF_eql, opF_un, opF_index, opF_indexAddr, opF_fieldAddr, opF_field, opF_build, opF_slice, opF_extract, opF_pick, opF_load, opF_alloc, opF_box, opF_buildSlice, opF_makeSlice, opF_store, opF_conv, opF_len, opF_minmax, opF_builtin, opF_call, resK, ev_tmp, evG_some, ev_int, ev_bool, ev_str, evs, evp, evo, R.ok_bind, putT_some, putT_none, T.get_set, T.get_e, binF_int, op_rem, op_quo_u32, op_xor_u32, op_neq, op_eql, op_lss, op_add_i64, op_sub_u32, op_and_u8, op_xor_u8, op_not_u32, binF_shr_u32, binF_shr_u8, op_mul_i64, op_quo_i64, op_and_u32, binF_shl_u8, wrapF_u8, wrapF_u32, mod_u8, mod_u32, cond_val, Nat.lt_irrefl, Nat.not_lt_zero, if_true, if_false, reduceIte, Nat.reduceEqDiff, Nat.reduceAdd, ne_eq, not_true_eq_false, not_false_eq_true, decide_true, decide_false, Bool.false_eq_true, Bool.not_true, Bool.not_false, sub_nil, sub_seq0, sub_seq1, sub_cond0, sub_cond1, sub_block, sub_loop, sub_scope, sub_range0, sub_range1, Option.getD_some, at_ptr, at_slc, runOps_yes, runOps_no, exec_draw, op_sub_i64, op_sub_neg, op_lss_neg, binF_str, str_add, str_neq, str_eql, takeF, resF, oneOf, pickF, extractF, cells_str, cells_int, cells_agg, bool_eql, bool_neq, op_lssI, bne_self_eq_false, beq_self_eq_true, eq_self, cells_slc, cells_func, builtin_append, ev_nilslice, ev_nilfunc, ev_nilptr, ev_nilmap, opF_makeFunc, opF_callv, callV_func, callV_yield, op_leq, op_gtr, op_geq, cast_le, cast_lt, List.nil_append, List.cons_append, List.append_nil, un_not]
      with_reducible rfl
    apply W.seq
    by_cases h0 : k = 0
    · apply W.run 20
      · intro M
        simp (config := { maxSteps := 4000000 }) (disch := first | decide +kernel | (rw [wantF_guard]; simp only [wantD_some, dstAt_zero, dstAt_succ, T.get_set, T.get_e, Nat.reduceEqDiff, if_true, if_false, wantV_bool, wantV_unit, unitV, cond_true, cond_false, Bool.not_true, Bool.not_false, List.toList_toArray]) | omega) only [c42, Try.f42, Nat.ble, cond_true, cond_false, T.puts_cons, T.puts_nil, exec_seq, exec_block, nat_beq_self, exec_region, exec_cond, exec_skip, exec_ret, exec_exit, exec_scope, runOps_cons, runOps_nil, opF_move, opF_assign, opF_ari, opF_neq, opF_eql, opF_un, opF_index, opF_indexAddr, opF_fieldAddr, opF_field, opF_build, opF_slice, opF_extract, opF_pick, opF_load, opF_alloc, opF_box, opF_buildSlice, opF_makeSlice, opF_store, opF_conv, opF_len, opF_minmax, opF_builtin, opF_call, resK, ev_tmp, evG_some, ev_int, ev_bool, ev_str, evs, evp, evo, R.ok_bind, putT_some, putT_none, T.get_set, T.get_e, binF_int, op_rem, op_quo_u32, op_xor_u32, op_neq, op_eql, op_lss, op_add_i64, op_sub_u32, op_and_u8, op_xor_u8, op_not_u32, binF_shr_u32, binF_shr_u8, op_mul_i64, op_quo_i64, op_and_u32, binF_shl_u8, wrapF_u8, wrapF_u32, mod_u8, mod_u32, cond_val, Nat.lt_irrefl, Nat.not_lt_zero, if_true, if_false, reduceIte, Nat.reduceEqDiff, Nat.reduceAdd, ne_eq, not_true_eq_false, not_false_eq_true, decide_true, decide_false, Bool.false_eq_true, Bool.not_true, Bool.not_false, sub_nil, sub_seq0, sub_seq1, sub_cond0, sub_cond1, sub_block, sub_loop, sub_scope, sub_range0, sub_range1, Option.getD_some, at_ptr, at_slc, runOps_yes, runOps_no, exec_draw, op_sub_i64, op_sub_neg, op_lss_neg, binF_str, str_add, str_neq, str_eql, takeF, resF, oneOf, pickF, extractF, cells_str, cells_int, cells_agg, bool_eql, bool_neq, op_lssI, bne_self_eq_false, beq_self_eq_true, eq_self, cells_slc, cells_func, builtin_append, ev_nilslice, ev_nilfunc, ev_nilptr, ev_nilmap, opF_makeFunc, opF_callv, callV_func, callV_yield, op_leq, op_gtr, op_geq, cast_le, cast_lt, List.nil_append, List.cons_append, List.append_nil, un_not, h0]
        with_reducible rfl
      apply W.run 20
      · intro M
        simp (config := { maxSteps := 4000000 }) (disch := first | decide +kernel | (rw [wantF_guard]; simp only [wantD_some, dstAt_zero, dstAt_succ, T.get_set, T.get_e, Nat.reduceEqDiff, if_true, if_false, wantV_bool, wantV_unit, unitV, cond_true, cond_false, Bool.not_true, Bool.not_false, List.toList_toArray]) | omega) only [c42, Try.f42, Nat.ble, cond_true, cond_false, T.puts_cons, T.puts_nil, exec_seq, exec_block, nat_beq_self, exec_region, exec_cond, exec_skip, exec_ret, exec_exit, exec_scope, runOps_cons, runOps_nil, opF_move, opF_assign, opF_ari, opF_neq, opF_eql, opF_un, opF_index, opF_indexAddr, opF_fieldAddr, opF_field, opF_build, opF_slice, opF_extract, opF_pick, opF_load, opF_alloc, opF_box, opF_buildSlice, opF_makeSlice, opF_store, opF_conv, opF_len, opF_minmax, opF_builtin, opF_call, resK, ev_tmp, evG_some, ev_int, ev_bool, ev_str, evs, evp, evo, R.ok_bind, putT_some, putT_none, T.get_set, T.get_e, binF_int, op_rem, op_quo_u32, op_xor_u32, op_neq, op_eql, op_lss, op_add_i64, op_sub_u32, op_and_u8, op_xor_u8, op_not_u32, binF_shr_u32, binF_shr_u8, op_mul_i64, op_quo_i64, op_and_u32, binF_shl_u8, wrapF_u8, wrapF_u32, mod_u8, mod_u32, cond_val, Nat.lt_irrefl, Nat.not_lt_zero, if_true, if_false, reduceIte, Nat.reduceEqDiff, Nat.reduceAdd, ne_eq, not_true_eq_false, not_false_eq_true, decide_true, decide_false, Bool.false_eq_true, Bool.not_true, Bool.not_false, sub_nil, sub_seq0, sub_seq1, sub_cond0, sub_cond1, sub_block, sub_loop, sub_scope, sub_range0, sub_range1, Option.getD_some, at_ptr, at_slc, runOps_yes, runOps_no, exec_draw, op_sub_i64, op_sub_neg, op_lss_neg, binF_str, str_add, str_neq, str_eql, takeF, resF, oneOf, pickF, extractF, cells_str, cells_int, cells_agg, bool_eql, bool_neq, op_lssI, bne_self_eq_false, beq_self_eq_true, eq_self, cells_slc, cells_func, builtin_append, ev_nilslice, ev_nilfunc, ev_nilptr, ev_nilmap, opF_makeFunc, opF_callv, callV_func, callV_yield, op_leq, op_gtr, op_geq, cast_le, cast_lt, List.nil_append, List.cons_append, List.append_nil, un_not]
        with_reducible rfl
      refine ⟨.inr rfl, _, [.bool true], rfl, ?_, ?_, rfl⟩
      · simp only [Try.f42, resF, ev_tmp, T.get_set, Nat.reduceEqDiff, if_true, if_false, evG_some, R.ok_bind]
      · simp [oneOf, weighs, h0]
    · by_cases h2 : k = 2
      · apply W.run 20
        · intro M
          simp (config := { maxSteps := 4000000 }) (disch := first | decide +kernel | (rw [wantF_guard]; simp only [wantD_some, dstAt_zero, dstAt_succ, T.get_set, T.get_e, Nat.reduceEqDiff, if_true, if_false, wantV_bool, wantV_unit, unitV, cond_true, cond_false, Bool.not_true, Bool.not_false, List.toList_toArray]) | omega) only [c42, Try.f42, Nat.ble, cond_true, cond_false, T.puts_cons, T.puts_nil, exec_seq, exec_block, nat_beq_self, exec_region, exec_cond, exec_skip, exec_ret, exec_exit, exec_scope, runOps_cons, runOps_nil, opF_move, opF_assign, opF_ari, opF_neq, opF_eql, opF_un, opF_index, opF_indexAddr, opF_fieldAddr, opF_field, opF_build, opF_slice, opF_extract, opF_pick, opF_load, opF_alloc, opF_box, opF_buildSlice, opF_makeSlice, opF_store, opF_conv, opF_len, opF_minmax, opF_builtin, opF_call, resK, ev_tmp, evG_some, ev_int, ev_bool, ev_str, evs, evp, evo, R.ok_bind, putT_some, putT_none, T.get_set, T.get_e, binF_int, op_rem, op_quo_u32, op_xor_u32, op_neq, op_eql, op_lss, op_add_i64, op_sub_u32, op_and_u8, op_xor_u8, op_not_u32, binF_shr_u32, binF_shr_u8, op_mul_i64, op_quo_i64, op_and_u32, binF_shl_u8, wrapF_u8, wrapF_u32, mod_u8, mod_u32, cond_val, Nat.lt_irrefl, Nat.not_lt_zero, if_true, if_false, reduceIte, Nat.reduceEqDiff, Nat.reduceAdd, ne_eq, not_true_eq_false, not_false_eq_true, decide_true, decide_false, Bool.false_eq_true, Bool.not_true, Bool.not_false, sub_nil, sub_seq0, sub_seq1, sub_cond0, sub_cond1, sub_block, sub_loop, sub_scope, sub_range0, sub_range1, Option.getD_some, at_ptr, at_slc, runOps_yes, runOps_no, exec_draw, op_sub_i64, op_sub_neg, op_lss_neg, binF_str, str_add, str_neq, str_eql, takeF, resF, oneOf, pickF, extractF, cells_str, cells_int, cells_agg, bool_eql, bool_neq, op_lssI, bne_self_eq_false, beq_self_eq_true, eq_self, cells_slc, cells_func, builtin_append, ev_nilslice, ev_nilfunc, ev_nilptr, ev_nilmap, opF_makeFunc, opF_callv, callV_func, callV_yield, op_leq, op_gtr, op_geq, cast_le, cast_lt, List.nil_append, List.cons_append, List.append_nil, un_not, h0, h2]
          with_reducible rfl
        apply W.run 20
        · intro M
          simp (config := { maxSteps := 4000000 }) (disch := first | decide +kernel | (rw [wantF_guard]; simp only [wantD_some, dstAt_zero, dstAt_succ, T.get_set, T.get_e, Nat.reduceEqDiff, if_true, if_false, wantV_bool, wantV_unit, unitV, cond_true, cond_false, Bool.not_true, Bool.not_false, List.toList_toArray]) | omega) only [c42, Try.f42, Nat.ble, cond_true, cond_false, T.puts_cons, T.puts_nil, exec_seq, exec_block, nat_beq_self, exec_region, exec_cond, exec_skip, exec_ret, exec_exit, exec_scope, runOps_cons, runOps_nil, opF_move, opF_assign, opF_ari, opF_neq, opF_eql, opF_un, opF_index, opF_indexAddr, opF_fieldAddr, opF_field, opF_build, opF_slice, opF_extract, opF_pick, opF_load, opF_alloc, opF_box, opF_buildSlice, opF_makeSlice, opF_store, opF_conv, opF_len, opF_minmax, opF_builtin, opF_call, resK, ev_tmp, evG_some, ev_int, ev_bool, ev_str, evs, evp, evo, R.ok_bind, putT_some, putT_none, T.get_set, T.get_e, binF_int, op_rem, op_quo_u32, op_xor_u32, op_neq, op_eql, op_lss, op_add_i64, op_sub_u32, op_and_u8, op_xor_u8, op_not_u32, binF_shr_u32, binF_shr_u8, op_mul_i64, op_quo_i64, op_and_u32, binF_shl_u8, wrapF_u8, wrapF_u32, mod_u8, mod_u32, cond_val, Nat.lt_irrefl, Nat.not_lt_zero, if_true, if_false, reduceIte, Nat.reduceEqDiff, Nat.reduceAdd, ne_eq, not_true_eq_false, not_false_eq_true, decide_true, decide_false, Bool.false_eq_true, Bool.not_true, Bool.not_false, sub_nil, sub_seq0, sub_seq1, sub_cond0, sub_cond1, sub_block, sub_loop, sub_scope, sub_range0, sub_range1, Option.getD_some, at_ptr, at_slc, runOps_yes, runOps_no, exec_draw, op_sub_i64, op_sub_neg, op_lss_neg, binF_str, str_add, str_neq, str_eql, takeF, resF, oneOf, pickF, extractF, cells_str, cells_int, cells_agg, bool_eql, bool_neq, op_lssI, bne_self_eq_false, beq_self_eq_true, eq_self, cells_slc, cells_func, builtin_append, ev_nilslice, ev_nilfunc, ev_nilptr, ev_nilmap, opF_makeFunc, opF_callv, callV_func, callV_yield, op_leq, op_gtr, op_geq, cast_le, cast_lt, List.nil_append, List.cons_append, List.append_nil, un_not]
          with_reducible rfl
        refine ⟨.inr rfl, _, [.bool true], rfl, ?_, ?_, rfl⟩
        · simp only [Try.f42, resF, ev_tmp, T.get_set, Nat.reduceEqDiff, if_true, if_false, evG_some, R.ok_bind]
        · simp [oneOf, weighs, h2]
      · apply W.run 20
        · intro M
          simp (config := { maxSteps := 4000000 }) (disch := first | decide +kernel | (rw [wantF_guard]; simp only [wantD_some, dstAt_zero, dstAt_succ, T.get_set, T.get_e, Nat.reduceEqDiff, if_true, if_false, wantV_bool, wantV_unit, unitV, cond_true, cond_false, Bool.not_true, Bool.not_false, List.toList_toArray]) | omega) only [c42, Try.f42, Nat.ble, cond_true, cond_false, T.puts_cons, T.puts_nil, exec_seq, exec_block, nat_beq_self, exec_region, exec_cond, exec_skip, exec_ret, exec_exit, exec_scope, runOps_cons, runOps_nil, opF_move, opF_assign, opF_ari, opF_neq, opF_eql, opF_un, opF_index, opF_indexAddr, opF_fieldAddr, opF_field, opF_build, opF_slice, opF_extract, opF_pick, opF_load, opF_alloc, opF_box, opF_buildSlice, opF_makeSlice, opF_store, opF_conv, opF_len, opF_minmax, opF_builtin, opF_call, resK, ev_tmp, evG_some, ev_int, ev_bool, ev_str, evs, evp, evo, R.ok_bind, putT_some, putT_none, T.get_set, T.get_e, binF_int, op_rem, op_quo_u32, op_xor_u32, op_neq, op_eql, op_lss, op_add_i64, op_sub_u32, op_and_u8, op_xor_u8, op_not_u32, binF_shr_u32, binF_shr_u8, op_mul_i64, op_quo_i64, op_and_u32, binF_shl_u8, wrapF_u8, wrapF_u32, mod_u8, mod_u32, cond_val, Nat.lt_irrefl, Nat.not_lt_zero, if_true, if_false, reduceIte, Nat.reduceEqDiff, Nat.reduceAdd, ne_eq, not_true_eq_false, not_false_eq_true, decide_true, decide_false, Bool.false_eq_true, Bool.not_true, Bool.not_false, sub_nil, sub_seq0, sub_seq1, sub_cond0, sub_cond1, sub_block, sub_loop, sub_scope, sub_range0, sub_range1, Option.getD_some, at_ptr, at_slc, runOps_yes, runOps_no, exec_draw, op_sub_i64, op_sub_neg, op_lss_neg, binF_str, str_add, str_neq, str_eql, takeF, resF, oneOf, pickF, extractF, cells_str, cells_int, cells_agg, bool_eql, bool_neq, op_lssI, bne_self_eq_false, beq_self_eq_true, eq_self, cells_slc, cells_func, builtin_append, ev_nilslice, ev_nilfunc, ev_nilptr, ev_nilmap, opF_makeFunc, opF_callv, callV_func, callV_yield, op_leq, op_gtr, op_geq, cast_le, cast_lt, List.nil_append, List.cons_append, List.append_nil, un_not, h0, h2]
          with_reducible rfl
        apply W.run 20
        · intro M
          simp (config := { maxSteps := 4000000 }) (disch := first | decide +kernel | (rw [wantF_guard]; simp only [wantD_some, dstAt_zero, dstAt_succ, T.get_set, T.get_e, Nat.reduceEqDiff, if_true, if_false, wantV_bool, wantV_unit, unitV, cond_true, cond_false, Bool.not_true, Bool.not_false, List.toList_toArray]) | omega) only [c42, Try.f42, Nat.ble, cond_true, cond_false, T.puts_cons, T.puts_nil, exec_seq, exec_block, nat_beq_self, exec_region, exec_cond, exec_skip, exec_ret, exec_exit, exec_scope, runOps_cons, runOps_nil, opF_move, opF_assign, opF_ari, opF_neq, opF_eql, opF_un, opF_index, opF_indexAddr, opF_fieldAddr, opF_field, opF_build, opF_slice, opF_extract, opF_pick, opF_load, opF_alloc, opF_box, opF_buildSlice, opF_makeSlice, opF_store, opF_conv, opF_len, opF_minmax, opF_builtin, opF_call, resK, ev_tmp, evG_some, ev_int, ev_bool, ev_str, evs, evp, evo, R.ok_bind, putT_some, putT_none, T.get_set, T.get_e, binF_int, op_rem, op_quo_u32, op_xor_u32, op_neq, op_eql, op_lss, op_add_i64, op_sub_u32, op_and_u8, op_xor_u8, op_not_u32, binF_shr_u32, binF_shr_u8, op_mul_i64, op_quo_i64, op_and_u32, binF_shl_u8, wrapF_u8, wrapF_u32, mod_u8, mod_u32, cond_val, Nat.lt_irrefl, Nat.not_lt_zero, if_true, if_false, reduceIte, Nat.reduceEqDiff, Nat.reduceAdd, ne_eq, not_true_eq_false, not_false_eq_true, decide_true, decide_false, Bool.false_eq_true, Bool.not_true, Bool.not_false, sub_nil, sub_seq0, sub_seq1, sub_cond0, sub_cond1, sub_block, sub_loop, sub_scope, sub_range0, sub_range1, Option.getD_some, at_ptr, at_slc, runOps_yes, runOps_no, exec_draw, op_sub_i64, op_sub_neg, op_lss_neg, binF_str, str_add, str_neq, str_eql, takeF, resF, oneOf, pickF, extractF, cells_str, cells_int, cells_agg, bool_eql, bool_neq, op_lssI, bne_self_eq_false, beq_self_eq_true, eq_self, cells_slc, cells_func, builtin_append, ev_nilslice, ev_nilfunc, ev_nilptr, ev_nilmap, opF_makeFunc, opF_callv, callV_func, callV_yield, op_leq, op_gtr, op_geq, cast_le, cast_lt, List.nil_append, List.cons_append, List.append_nil, un_not]
          with_reducible rfl
        refine ⟨.inr rfl, _, [.bool false], rfl, ?_, ?_, rfl⟩
        · simp only [Try.f42, resF, ev_tmp, T.get_set, Nat.reduceEqDiff, if_true, if_false, evG_some, R.ok_bind]
        · simp [oneOf, weighs, h0, h2]
  exact ha
end Go.Proofs.Ytmhldlnlgjpkaaa.scr

/-
  Script: an act.
-/
namespace Go.Proofs.Ytmhldlnlgjpkaaa.scr
open Go.Am
variable {q : Nat}
set_option linter.unusedSimpArgs false

structure ActD where
  kind : Nat
  word : List UInt8
  weight : Nat
  k : Int
  n : Int
  arm : Nat
  cut : Bool
  stays : List Nat
  opening : List (Nat × List Nat)

def armD (k : Nat) (r : List UInt8) : Nat × List UInt8 := if k / 20 % 2 = 1 then (1 + nx r, r.tail) else (0, r)
def moreD (kind : Nat) (r : List UInt8) : Nat × Int × Int × List UInt8 :=
  if weighs kind = true then (if nx r = 255 then 4294967295 else nx r, 0, 0, r.tail)
  else if kind = 7 then (0, ((nx r % 6 : Nat) : Int) - ((1 : Nat) : Int), ((nx r / 6 % 12 : Nat) : Int) - ((1 : Nat) : Int), r.tail)
  else (0, 0, 0, r)
def stopD (c : Bool) (r : List UInt8) : List Nat × List (Nat × List Nat) × List UInt8 :=
  if c = true then (numbersD r.tail (nx r % 6), opensL (r.tail.drop (nx r % 6)) (nx r / 6 % 4), opensRest (r.tail.drop (nx r % 6)) (nx r / 6 % 4)) else ([], [], r)
def cutD (k : Nat) : Bool := decide (k / 10 % 2 = 1)
def actD (r : List UInt8) : ActD × List UInt8 :=
  let k := nx r
  let a := armD k r.tail
  let w := wordD a.2
  let m := moreD (k % 10) w.2
  let s := stopD (cutD k || decide (0 < a.1)) m.2.2.2
  (⟨k % 10, w.1, m.1, m.2.1, m.2.2.1, a.1, cutD k, s.1, s.2.1⟩, s.2.2)

/-- The cells of an act. -/
def cellsD (kind : Nat) (word : List UInt8) (weight : Nat) (k n : Int) (arm : Nat) (cut : Bool) (xs xo : Value) : List Value :=
  [.int .i64 (kind : Int), strOf word, .int .u32 (weight : Int), .int .i64 k, .int .i64 n, .int .i64 (arm : Int), .bool cut, xs, xo]
def ActR (P : Nat → Prop) (A : Mem) (d : ActD) (l : List Value) : Prop := ∃ xs xo, l = cellsD d.kind d.word d.weight d.k d.n d.arm d.cut xs xo ∧ StR P A d.stays xs ∧ OpsR P A d.opening xo
theorem OpsR.cells {P : Nat → Prop} {A : Mem} {ds : List (Nat × List Nat)} {x : Value} (h : OpsR P A ds x) : x.cells.toList = [x] ∧ oneCell x = true := by
  obtain ⟨ls, b, -, h2, -⟩ := h
  exact ⟨(SlcM.cells h2).1, (SlcM.cells h2).2.1⟩
theorem OpsR.nil (P : Nat → Prop) (A : Mem) : OpsR P A [] (.slice none 0 0) := ⟨[], 0, .inl rfl, SlcM.nil _ _ _ _, rfl, fun i d l hd _ => by simp at hd⟩
theorem ActR.same {P Q : Nat → Prop} {A A' : Mem} {d : ActD} {l : List Value} (h : ActR P A d l) (hn : A.next ≤ A'.next) (hg : ∀ b, P b → b < A.next → Q b ∧ A'.get b = A.get b) : ActR Q A' d l := by
  obtain ⟨xs, xo, h1, h2, h3⟩ := h
  exact ⟨xs, xo, h1, h2.same hn hg, h3.same hn hg⟩
theorem ActR.cells {P : Nat → Prop} {A : Mem} {d : ActD} {l : List Value} (h : ActR P A d l) : l.length = 9 ∧ ∀ v ∈ l, oneCell v = true := by
  obtain ⟨xs, xo, rfl, h2, h3⟩ := h
  refine ⟨rfl, fun v hv => ?_⟩
  simp only [cellsD, List.mem_cons, List.not_mem_nil, or_false] at hv
  rcases hv with rfl | rfl | rfl | rfl | rfl | rfl | rfl | rfl | rfl <;> first | rfl | exact h2.cells.2 | exact h3.cells.2

theorem und39 : ∃ d, tb1.und 39 = some d ∧ isAggD d = true := by
  have h : (tb1.und 39).map isAggD = some true := by kernel_rfl
  cases hq : tb1.und 39 with
  | none => rw [hq] at h; cases h
  | some d => rw [hq] at h; exact ⟨d, rfl, by simpa using h⟩
theorem zero39 : zeroF tb1 39 = .ok (.agg ⟨[.int .i64 0, .string ⟨#[]⟩, .int .u32 0, .int .i64 0, .int .i64 0, .int .i64 0, .bool false, .slice none 0 0, .slice none 0 0]⟩) := by kernel_rfl
section
variable (b : Nat)
theorem fa39_0 : fieldAddrF tb1 39 (.pointer (some ⟨b, 0, none⟩)) 0 = .ok (.pointer (some ⟨b, 0, none⟩)) := by kernel_rfl
theorem fa39_1 : fieldAddrF tb1 39 (.pointer (some ⟨b, 0, none⟩)) 1 = .ok (.pointer (some ⟨b, 5, none⟩)) := by kernel_rfl
theorem fa39_2 : fieldAddrF tb1 39 (.pointer (some ⟨b, 0, none⟩)) 2 = .ok (.pointer (some ⟨b, 6, none⟩)) := by kernel_rfl
theorem fa39_3 : fieldAddrF tb1 39 (.pointer (some ⟨b, 0, none⟩)) 3 = .ok (.pointer (some ⟨b, 7, none⟩)) := by kernel_rfl
theorem fa39_4 : fieldAddrF tb1 39 (.pointer (some ⟨b, 0, none⟩)) 4 = .ok (.pointer (some ⟨b, 8, none⟩)) := by kernel_rfl
theorem fa35_0 : fieldAddrF tb1 35 (.pointer (some ⟨b, 0, none⟩)) 0 = .ok (.pointer (some ⟨b, 0, none⟩)) := by kernel_rfl
theorem fa35_1 : fieldAddrF tb1 35 (.pointer (some ⟨b, 0, none⟩)) 1 = .ok (.pointer (some ⟨b, 1, none⟩)) := by kernel_rfl
theorem fa35_2 : fieldAddrF tb1 35 (.pointer (some ⟨b, 0, none⟩)) 2 = .ok (.pointer (some ⟨b, 2, none⟩)) := by kernel_rfl
theorem fa35_3 : fieldAddrF tb1 35 (.pointer (some ⟨b, 0, none⟩)) 3 = .ok (.pointer (some ⟨b, 3, none⟩)) := by kernel_rfl
theorem fa35_4 : fieldAddrF tb1 35 (.pointer (some ⟨b, 0, none⟩)) 4 = .ok (.pointer (some ⟨b, 4, none⟩)) := by kernel_rfl
end
theorem size4 : sizeF tb1 4 = .ok 1 := by kernel_rfl
theorem size9 : sizeF tb1 9 = .ok 1 := by kernel_rfl
theorem size33 : sizeF tb1 33 = .ok 1 := by kernel_rfl
theorem size37 : sizeF tb1 37 = .ok 1 := by kernel_rfl

/-- Memory while an act is read. -/
structure ActM (q : Nat) (A : Mem) (bb : Nat) (l : List Value) (rem : List UInt8) (C : Mem) : Prop where
  h1 : Vals C 68 A.next (.var 2) (rdV bb)
  h2 : Vals C 39 (A.next + 1) (.var 9) l
  hr : Rd q C bb rem
  hk : Kp bb A C
  hn : A.next + 2 ≤ C.next
  hb : bb < A.next ∧ q < A.next
theorem ActM.step {A : Mem} {bb : Nat} {l : List Value} {rem rem' : List UInt8} {C C' : Mem} (h : ActM q A bb l rem C) (hr : Rd q C' bb rem') (hk : Kp bb C C') : ActM q A bb l rem' C' := by
  have hn := h.hn
  have hb := h.hb
  have hn' := hk.1
  exact ⟨h.h1.same (hk.2 _ (by omega) (by omega)), h.h2.same (hk.2 _ (by omega) (by omega)), hr, h.hk.trans hk, by omega, hb⟩
theorem ActM.put {A : Mem} {bb : Nat} {l : List Value} {rem : List UInt8} {C : Mem} (h : ActM q A bb l rem C) {t : TypeId} {o : Nat} {v : Value} (hs : sizeF tb1 t = .ok 1) (ho : o < l.length) (hv : v.cells.toList = [v]) (h1c : oneCell v = true) :
    ∃ C', storeF tb1 C t (.pointer (some ⟨A.next + 1, o, none⟩)) v = .ok C' ∧ ActM q A bb (l.set o v) rem C' ∧ C'.next = C.next ∧ ∀ y, y ≠ A.next + 1 → C'.get y = C.get y := by
  obtain ⟨C', e1, e2, e3, e4⟩ := store_vals (tb := tb1) (t := t) hs h.h2 ho hv h1c
  have hn := h.hn
  have hb := h.hb
  refine ⟨C', e1, ⟨h.h1.same (e4 _ (by omega)), e2, h.hr.same (by omega) (fun y _ hy => e4 y (by rcases hy with rfl | rfl <;> omega)), ⟨by have := h.hk.1; omega, fun y hy hyb => by rw [e4 y (by omega), h.hk.2 y hy hyb]⟩, by omega, hb⟩, e3, e4⟩

noncomputable def c22 : Code := Try.f22.body.getD .skip
theorem c22_eq : Try.f22.body = some (.seq (sub c22 [0]) (.seq (sub c22 [1,0]) (.seq (sub c22 [1,1,0]) (.seq (.seq (sub c22 [1,1,1,0,0]) (sub c22 [1,1,1,0,1])) (.seq (sub c22 [1,1,1,1,0]) (.seq (sub c22 [1,1,1,1,1,0]) (.seq (.seq (sub c22 [1,1,1,1,1,1,0,0]) (sub c22 [1,1,1,1,1,1,0,1])) (.seq (sub c22 [1,1,1,1,1,1,1,0]) (sub c22 [1,1,1,1,1,1,1,1]))))))))) := by kernel_rfl
section
variable {A : Mem} {bb : Nat} {rem : List UInt8} {C : Mem} {t : T Value} {K : Ex → St → Prop}
def actS (A : Mem) (k : Nat) : List (Nat × Value) := [(1, .pointer (some ⟨A.next, 0, none⟩)), (2, .pointer (some ⟨A.next + 1, 0, none⟩)), (3, .int .i64 (k : Int))]
set_option maxHeartbeats 2000000 in
theorem act_arm {kind k : Nat} {cut : Bool} (hkd : k < 256) (hM : ActM q A bb (cellsD kind [] 0 0 0 0 cut (.slice none 0 0) (.slice none 0 0)) rem C) (hp : Sl t (actS A k))
    (hK : ∀ t' C', ActM q A bb (cellsD kind [] 0 0 0 (armD k rem).1 cut (.slice none 0 0) (.slice none 0 0)) (armD k rem).2 C' → Sl t' (actS A k) → K .nrm ⟨t', 91, [], C', none⟩) : W tb1 (.seq (sub c22 [1,1,1,0,0]) (sub c22 [1,1,1,0,1])) ⟨t, 91, [], C, none⟩ K := by
  obtain ⟨g1, g2, g3, -⟩ := hp
  have hlt := nx_lt rem
  apply W.seq
  by_cases h : k / 20 % 2 = 1
  · have e : armD k rem = (1 + nx rem, rem.tail) := by unfold armD; rw [if_pos h]
    rw [e] at hK
    obtain ⟨C1, ⟨g, hg⟩, hr, hk⟩ := run_next hM.hr
    have hnv := next_val hM.h1
    obtain ⟨C2, hst, hM2, -, -⟩ := (hM.step hr hk).put (t := 3) (o := 5) (v := .int .i64 ((1 + nx rem : Nat) : Int)) size3 (by simp [cellsD]) rfl rfl
    apply W.run 20
    · intro M
      simp (config := { maxSteps := 4000000 }) (disch := first | decide +kernel | (rw [wantF_guard]; simp only [wantD_some, dstAt_zero, dstAt_succ, T.get_set, T.get_e, Nat.reduceEqDiff, if_true, if_false, wantV_bool, wantV_unit, unitV, cond_true, cond_false, Bool.not_true, Bool.not_false, List.toList_toArray]) | omega) only [c22, Try.f22, Nat.ble, cond_true, cond_false, T.puts_cons, T.puts_nil, exec_seq, exec_block, nat_beq_self, exec_region, exec_cond, exec_skip, exec_ret, exec_exit, exec_scope, runOps_cons, runOps_nil, opF_move, opF_assign, opF_ari, opF_neq, opF_eql, opF_un, opF_index, opF_indexAddr, opF_fieldAddr, opF_field, opF_build, opF_slice, opF_extract, opF_pick, opF_load, opF_alloc, opF_box, opF_buildSlice, opF_makeSlice, opF_store, opF_conv, opF_len, opF_minmax, opF_builtin, opF_call, resK, ev_tmp, evG_some, ev_int, ev_bool, ev_str, evs, evp, evo, R.ok_bind, putT_some, putT_none, T.get_set, T.get_e, binF_int, op_rem, op_quo_u32, op_xor_u32, op_neq, op_eql, op_lss, op_add_i64, op_sub_u32, op_and_u8, op_xor_u8, op_not_u32, binF_shr_u32, binF_shr_u8, op_mul_i64, op_quo_i64, op_and_u32, binF_shl_u8, wrapF_u8, wrapF_u32, mod_u8, mod_u32, cond_val, Nat.lt_irrefl, Nat.not_lt_zero, if_true, if_false, reduceIte, Nat.reduceEqDiff, Nat.reduceAdd, ne_eq, not_true_eq_false, not_false_eq_true, decide_true, decide_false, Bool.false_eq_true, Bool.not_true, Bool.not_false, sub_nil, sub_seq0, sub_seq1, sub_cond0, sub_cond1, sub_block, sub_loop, sub_scope, sub_range0, sub_range1, Option.getD_some, at_ptr, at_slc, runOps_yes, runOps_no, exec_draw, op_sub_i64, op_sub_neg, op_lss_neg, binF_str, str_add, str_neq, str_eql, takeF, resF, oneOf, pickF, extractF, cells_str, cells_int, cells_agg, bool_eql, bool_neq, op_lssI, bne_self_eq_false, beq_self_eq_true, eq_self, cells_slc, cells_func, builtin_append, ev_nilslice, ev_nilfunc, ev_nilptr, ev_nilmap, opF_makeFunc, opF_callv, callV_func, callV_yield, op_leq, op_gtr, op_geq, cast_le, cast_lt, List.nil_append, List.cons_append, List.append_nil, un_not, g3, h]
      with_reducible rfl
    apply W.runG (g) 20
    · intro M hM
      simp (config := { maxSteps := 4000000 }) (disch := first | decide +kernel | (rw [wantF_guard]; simp only [wantD_some, dstAt_zero, dstAt_succ, T.get_set, T.get_e, Nat.reduceEqDiff, if_true, if_false, wantV_bool, wantV_unit, unitV, cond_true, cond_false, Bool.not_true, Bool.not_false, List.toList_toArray]) | omega) only [c22, Try.f22, Nat.ble, cond_true, cond_false, T.puts_cons, T.puts_nil, exec_seq, exec_block, nat_beq_self, exec_region, exec_cond, exec_skip, exec_ret, exec_exit, exec_scope, runOps_cons, runOps_nil, opF_move, opF_assign, opF_ari, opF_neq, opF_eql, opF_un, opF_index, opF_indexAddr, opF_fieldAddr, opF_field, opF_build, opF_slice, opF_extract, opF_pick, opF_load, opF_alloc, opF_box, opF_buildSlice, opF_makeSlice, opF_store, opF_conv, opF_len, opF_minmax, opF_builtin, opF_call, resK, ev_tmp, evG_some, ev_int, ev_bool, ev_str, evs, evp, evo, R.ok_bind, putT_some, putT_none, T.get_set, T.get_e, binF_int, op_rem, op_quo_u32, op_xor_u32, op_neq, op_eql, op_lss, op_add_i64, op_sub_u32, op_and_u8, op_xor_u8, op_not_u32, binF_shr_u32, binF_shr_u8, op_mul_i64, op_quo_i64, op_and_u32, binF_shl_u8, wrapF_u8, wrapF_u32, mod_u8, mod_u32, cond_val, Nat.lt_irrefl, Nat.not_lt_zero, if_true, if_false, reduceIte, Nat.reduceEqDiff, Nat.reduceAdd, ne_eq, not_true_eq_false, not_false_eq_true, decide_true, decide_false, Bool.false_eq_true, Bool.not_true, Bool.not_false, sub_nil, sub_seq0, sub_seq1, sub_cond0, sub_cond1, sub_block, sub_loop, sub_scope, sub_range0, sub_range1, Option.getD_some, at_ptr, at_slc, runOps_yes, runOps_no, exec_draw, op_sub_i64, op_sub_neg, op_lss_neg, binF_str, str_add, str_neq, str_eql, takeF, resF, oneOf, pickF, extractF, cells_str, cells_int, cells_agg, bool_eql, bool_neq, op_lssI, bne_self_eq_false, beq_self_eq_true, eq_self, cells_slc, cells_func, builtin_append, ev_nilslice, ev_nilfunc, ev_nilptr, ev_nilmap, opF_makeFunc, opF_callv, callV_func, callV_yield, op_leq, op_gtr, op_geq, cast_le, cast_lt, List.nil_append, List.cons_append, List.append_nil, un_not, g1, g2, fa68_0, hnv, hg, fa39_1, hst]
      with_reducible rfl
    refine hK _ _ hM2 ?_
    unfold actS; simp only [Sl_cons, Sl_nil, T.get_set, T.puts_cons, T.puts_nil, Nat.reduceEqDiff, Nat.reduceAdd, if_true, if_false, and_true, true_and, g1, g2, g3]
  · have e : armD k rem = (0, rem) := by unfold armD; rw [if_neg h]
    rw [e] at hK
    apply W.run 20
    · intro M
      simp (config := { maxSteps := 4000000 }) (disch := first | decide +kernel | (rw [wantF_guard]; simp only [wantD_some, dstAt_zero, dstAt_succ, T.get_set, T.get_e, Nat.reduceEqDiff, if_true, if_false, wantV_bool, wantV_unit, unitV, cond_true, cond_false, Bool.not_true, Bool.not_false, List.toList_toArray]) | omega) only [c22, Try.f22, Nat.ble, cond_true, cond_false, T.puts_cons, T.puts_nil, exec_seq, exec_block, nat_beq_self, exec_region, exec_cond, exec_skip, exec_ret, exec_exit, exec_scope, runOps_cons, runOps_nil, opF_move, opF_assign, opF_ari, opF_neq, opF_eql, opF_un, opF_index, opF_indexAddr, opF_fieldAddr, opF_field, opF_build, opF_slice, opF_extract, opF_pick, opF_load, opF_alloc, opF_box, opF_buildSlice, opF_makeSlice, opF_store, opF_conv, opF_len, opF_minmax, opF_builtin, opF_call, resK, ev_tmp, evG_some, ev_int, ev_bool, ev_str, evs, evp, evo, R.ok_bind, putT_some, putT_none, T.get_set, T.get_e, binF_int, op_rem, op_quo_u32, op_xor_u32, op_neq, op_eql, op_lss, op_add_i64, op_sub_u32, op_and_u8, op_xor_u8, op_not_u32, binF_shr_u32, binF_shr_u8, op_mul_i64, op_quo_i64, op_and_u32, binF_shl_u8, wrapF_u8, wrapF_u32, mod_u8, mod_u32, cond_val, Nat.lt_irrefl, Nat.not_lt_zero, if_true, if_false, reduceIte, Nat.reduceEqDiff, Nat.reduceAdd, ne_eq, not_true_eq_false, not_false_eq_true, decide_true, decide_false, Bool.false_eq_true, Bool.not_true, Bool.not_false, sub_nil, sub_seq0, sub_seq1, sub_cond0, sub_cond1, sub_block, sub_loop, sub_scope, sub_range0, sub_range1, Option.getD_some, at_ptr, at_slc, runOps_yes, runOps_no, exec_draw, op_sub_i64, op_sub_neg, op_lss_neg, binF_str, str_add, str_neq, str_eql, takeF, resF, oneOf, pickF, extractF, cells_str, cells_int, cells_agg, bool_eql, bool_neq, op_lssI, bne_self_eq_false, beq_self_eq_true, eq_self, cells_slc, cells_func, builtin_append, ev_nilslice, ev_nilfunc, ev_nilptr, ev_nilmap, opF_makeFunc, opF_callv, callV_func, callV_yield, op_leq, op_gtr, op_geq, cast_le, cast_lt, List.nil_append, List.cons_append, List.append_nil, un_not, g3, h]
      with_reducible rfl
    apply W.run 20
    · intro M
      simp (config := { maxSteps := 4000000 }) (disch := first | decide +kernel | (rw [wantF_guard]; simp only [wantD_some, dstAt_zero, dstAt_succ, T.get_set, T.get_e, Nat.reduceEqDiff, if_true, if_false, wantV_bool, wantV_unit, unitV, cond_true, cond_false, Bool.not_true, Bool.not_false, List.toList_toArray]) | omega) only [c22, Try.f22, Nat.ble, cond_true, cond_false, T.puts_cons, T.puts_nil, exec_seq, exec_block, nat_beq_self, exec_region, exec_cond, exec_skip, exec_ret, exec_exit, exec_scope, runOps_cons, runOps_nil, opF_move, opF_assign, opF_ari, opF_neq, opF_eql, opF_un, opF_index, opF_indexAddr, opF_fieldAddr, opF_field, opF_build, opF_slice, opF_extract, opF_pick, opF_load, opF_alloc, opF_box, opF_buildSlice, opF_makeSlice, opF_store, opF_conv, opF_len, opF_minmax, opF_builtin, opF_call, resK, ev_tmp, evG_some, ev_int, ev_bool, ev_str, evs, evp, evo, R.ok_bind, putT_some, putT_none, T.get_set, T.get_e, binF_int, op_rem, op_quo_u32, op_xor_u32, op_neq, op_eql, op_lss, op_add_i64, op_sub_u32, op_and_u8, op_xor_u8, op_not_u32, binF_shr_u32, binF_shr_u8, op_mul_i64, op_quo_i64, op_and_u32, binF_shl_u8, wrapF_u8, wrapF_u32, mod_u8, mod_u32, cond_val, Nat.lt_irrefl, Nat.not_lt_zero, if_true, if_false, reduceIte, Nat.reduceEqDiff, Nat.reduceAdd, ne_eq, not_true_eq_false, not_false_eq_true, decide_true, decide_false, Bool.false_eq_true, Bool.not_true, Bool.not_false, sub_nil, sub_seq0, sub_seq1, sub_cond0, sub_cond1, sub_block, sub_loop, sub_scope, sub_range0, sub_range1, Option.getD_some, at_ptr, at_slc, runOps_yes, runOps_no, exec_draw, op_sub_i64, op_sub_neg, op_lss_neg, binF_str, str_add, str_neq, str_eql, takeF, resF, oneOf, pickF, extractF, cells_str, cells_int, cells_agg, bool_eql, bool_neq, op_lssI, bne_self_eq_false, beq_self_eq_true, eq_self, cells_slc, cells_func, builtin_append, ev_nilslice, ev_nilfunc, ev_nilptr, ev_nilmap, opF_makeFunc, opF_callv, callV_func, callV_yield, op_leq, op_gtr, op_geq, cast_le, cast_lt, List.nil_append, List.cons_append, List.append_nil, un_not]
      with_reducible rfl
    refine hK _ _ hM ?_
    unfold actS; simp only [Sl_cons, Sl_nil, T.get_set, T.puts_cons, T.puts_nil, Nat.reduceEqDiff, Nat.reduceAdd, if_true, if_false, and_true, true_and, g1, g2, g3]

set_option maxHeartbeats 4000000 in
set_option maxRecDepth 20000 in
theorem act_more {kind k : Nat} {word : List UInt8} {arm : Nat} {cut : Bool} (hM : ActM q A bb (cellsD kind word 0 0 0 arm cut (.slice none 0 0) (.slice none 0 0)) rem C) (hp : Sl t (actS A k))
    (hK : ∀ t' C', ActM q A bb (cellsD kind word (moreD kind rem).1 (moreD kind rem).2.1 (moreD kind rem).2.2.1 arm cut (.slice none 0 0) (.slice none 0 0)) (moreD kind rem).2.2.2 C' → Sl t' (actS A k) → K .nrm ⟨t', 91, [], C', none⟩) : W tb1 (sub c22 [1,1,1,1,1,0]) ⟨t, 91, [], C, none⟩ K := by
  obtain ⟨g1, g2, g3, -⟩ := hp
  have hlt := nx_lt rem
  obtain ⟨gw, hw⟩ := run_weighs kind C
  have hkd : loadF tb1 C.get 3 (.pointer (some ⟨A.next + 1, 0, none⟩)) = .ok (.int .i64 (kind : Int)) := load_vals und3 rfl hM.h2 rfl
  have hnv := next_val hM.h1
  obtain ⟨C1, ⟨g, hg⟩, hr, hk⟩ := run_next hM.hr
  have hM1 := hM.step hr hk
  have hw32 : wrapF .u32 ((nx rem : Nat) : Int) = ((nx rem : Nat) : Int) := by rw [wrapF_u32, Nat.mod_eq_of_lt (by omega)]
  cases hwg : weighs kind with
  | true =>
    rw [hwg] at hw
    obtain ⟨C2, hst, hM2, -, -⟩ := hM1.put (t := 33) (o := 2) (v := .int .u32 ((nx rem : Nat) : Int)) size33 (by simp [cellsD]) rfl rfl
    by_cases h255 : nx rem = 255
    · have e : moreD kind rem = (4294967295, 0, 0, rem.tail) := by unfold moreD; rw [if_pos hwg, if_pos h255]
      rw [e] at hK
      obtain ⟨C3, hst3, hM3, -, -⟩ := hM2.put (t := 33) (o := 2) (v := .int .u32 ((4294967295 : Nat) : Int)) size33 (by simp [cellsD]) rfl rfl
      rw [h255] at hg hst hw32
      apply W.runG ((g+gw)) 20
      · intro M hM
        simp (config := { maxSteps := 4000000 }) (disch := first | decide +kernel | (rw [wantF_guard]; simp only [wantD_some, dstAt_zero, dstAt_succ, T.get_set, T.get_e, Nat.reduceEqDiff, if_true, if_false, wantV_bool, wantV_unit, unitV, cond_true, cond_false, Bool.not_true, Bool.not_false, List.toList_toArray]) | omega) only [c22, Try.f22, Nat.ble, cond_true, cond_false, T.puts_cons, T.puts_nil, exec_seq, exec_block, nat_beq_self, exec_region, exec_cond, exec_skip, exec_ret, exec_exit, exec_scope, runOps_cons, runOps_nil, opF_move, opF_assign, opF_ari, opF_neq, opF_eql, opF_un, opF_index, opF_indexAddr, opF_fieldAddr, opF_field, opF_build, opF_slice, opF_extract, opF_pick, opF_load, opF_alloc, opF_box, opF_buildSlice, opF_makeSlice, opF_store, opF_conv, opF_len, opF_minmax, opF_builtin, opF_call, resK, ev_tmp, evG_some, ev_int, ev_bool, ev_str, evs, evp, evo, R.ok_bind, putT_some, putT_none, T.get_set, T.get_e, binF_int, op_rem, op_quo_u32, op_xor_u32, op_neq, op_eql, op_lss, op_add_i64, op_sub_u32, op_and_u8, op_xor_u8, op_not_u32, binF_shr_u32, binF_shr_u8, op_mul_i64, op_quo_i64, op_and_u32, binF_shl_u8, wrapF_u8, wrapF_u32, mod_u8, mod_u32, cond_val, Nat.lt_irrefl, Nat.not_lt_zero, if_true, if_false, reduceIte, Nat.reduceEqDiff, Nat.reduceAdd, ne_eq, not_true_eq_false, not_false_eq_true, decide_true, decide_false, Bool.false_eq_true, Bool.not_true, Bool.not_false, sub_nil, sub_seq0, sub_seq1, sub_cond0, sub_cond1, sub_block, sub_loop, sub_scope, sub_range0, sub_range1, Option.getD_some, at_ptr, at_slc, runOps_yes, runOps_no, exec_draw, op_sub_i64, op_sub_neg, op_lss_neg, binF_str, str_add, str_neq, str_eql, takeF, resF, oneOf, pickF, extractF, cells_str, cells_int, cells_agg, bool_eql, bool_neq, op_lssI, bne_self_eq_false, beq_self_eq_true, eq_self, cells_slc, cells_func, builtin_append, ev_nilslice, ev_nilfunc, ev_nilptr, ev_nilmap, opF_makeFunc, opF_callv, callV_func, callV_yield, op_leq, op_gtr, op_geq, cast_le, cast_lt, List.nil_append, List.cons_append, List.append_nil, un_not, g1, g2, fa39_0, fa35_0, hkd, hw, fa68_0, hnv, hg, convPF, und3, und33, hw32, fa35_2, hst, hst3]
        with_reducible rfl
      refine hK _ _ hM3 ?_
      unfold actS; simp only [Sl_cons, Sl_nil, T.get_set, T.puts_cons, T.puts_nil, Nat.reduceEqDiff, Nat.reduceAdd, if_true, if_false, and_true, true_and, g1, g2, g3]
    · have e : moreD kind rem = (nx rem, 0, 0, rem.tail) := by unfold moreD; rw [if_pos hwg, if_neg h255]
      rw [e] at hK
      apply W.runG ((g+gw)) 20
      · intro M hM
        simp (config := { maxSteps := 4000000 }) (disch := first | decide +kernel | (rw [wantF_guard]; simp only [wantD_some, dstAt_zero, dstAt_succ, T.get_set, T.get_e, Nat.reduceEqDiff, if_true, if_false, wantV_bool, wantV_unit, unitV, cond_true, cond_false, Bool.not_true, Bool.not_false, List.toList_toArray]) | omega) only [c22, Try.f22, Nat.ble, cond_true, cond_false, T.puts_cons, T.puts_nil, exec_seq, exec_block, nat_beq_self, exec_region, exec_cond, exec_skip, exec_ret, exec_exit, exec_scope, runOps_cons, runOps_nil, opF_move, opF_assign, opF_ari, opF_neq, opF_eql, opF_un, opF_index, opF_indexAddr, opF_fieldAddr, opF_field, opF_build, opF_slice, opF_extract, opF_pick, opF_load, opF_alloc, opF_box, opF_buildSlice, opF_makeSlice, opF_store, opF_conv, opF_len, opF_minmax, opF_builtin, opF_call, resK, ev_tmp, evG_some, ev_int, ev_bool, ev_str, evs, evp, evo, R.ok_bind, putT_some, putT_none, T.get_set, T.get_e, binF_int, op_rem, op_quo_u32, op_xor_u32, op_neq, op_eql, op_lss, op_add_i64, op_sub_u32, op_and_u8, op_xor_u8, op_not_u32, binF_shr_u32, binF_shr_u8, op_mul_i64, op_quo_i64, op_and_u32, binF_shl_u8, wrapF_u8, wrapF_u32, mod_u8, mod_u32, cond_val, Nat.lt_irrefl, Nat.not_lt_zero, if_true, if_false, reduceIte, Nat.reduceEqDiff, Nat.reduceAdd, ne_eq, not_true_eq_false, not_false_eq_true, decide_true, decide_false, Bool.false_eq_true, Bool.not_true, Bool.not_false, sub_nil, sub_seq0, sub_seq1, sub_cond0, sub_cond1, sub_block, sub_loop, sub_scope, sub_range0, sub_range1, Option.getD_some, at_ptr, at_slc, runOps_yes, runOps_no, exec_draw, op_sub_i64, op_sub_neg, op_lss_neg, binF_str, str_add, str_neq, str_eql, takeF, resF, oneOf, pickF, extractF, cells_str, cells_int, cells_agg, bool_eql, bool_neq, op_lssI, bne_self_eq_false, beq_self_eq_true, eq_self, cells_slc, cells_func, builtin_append, ev_nilslice, ev_nilfunc, ev_nilptr, ev_nilmap, opF_makeFunc, opF_callv, callV_func, callV_yield, op_leq, op_gtr, op_geq, cast_le, cast_lt, List.nil_append, List.cons_append, List.append_nil, un_not, g1, g2, fa39_0, fa35_0, hkd, hw, fa68_0, hnv, hg, convPF, und3, und33, hw32, fa35_2, hst, h255]
        with_reducible rfl
      refine hK _ _ hM2 ?_
      unfold actS; simp only [Sl_cons, Sl_nil, T.get_set, T.puts_cons, T.puts_nil, Nat.reduceEqDiff, Nat.reduceAdd, if_true, if_false, and_true, true_and, g1, g2, g3]
  | false =>
    rw [hwg] at hw
    by_cases h7 : kind = 7
    · subst h7
      have e : moreD 7 rem = (0, ((nx rem % 6 : Nat) : Int) - ((1 : Nat) : Int), ((nx rem / 6 % 12 : Nat) : Int) - ((1 : Nat) : Int), rem.tail) := by unfold moreD; rw [if_neg (by rw [hwg]; simp), if_pos rfl]
      rw [e] at hK
      obtain ⟨C2, hst, hM2, -, -⟩ := hM1.put (t := 3) (o := 3) (v := .int .i64 (((nx rem % 6 : Nat) : Int) - ((1 : Nat) : Int))) size3 (by simp [cellsD]) rfl rfl
      obtain ⟨C3, hst3, hM3, -, -⟩ := hM2.put (t := 3) (o := 4) (v := .int .i64 (((nx rem / 6 % 12 : Nat) : Int) - ((1 : Nat) : Int))) size3 (by simp [cellsD]) rfl rfl
      have s1 : intOpF .sub .i64 ((nx rem % 6 : Nat) : Int) ((1 : Nat) : Int) = .ok (.int .i64 (((nx rem % 6 : Nat) : Int) - ((1 : Nat) : Int))) := op_subI (by omega) (by omega)
      have s2 : intOpF .sub .i64 ((nx rem / 6 % 12 : Nat) : Int) ((1 : Nat) : Int) = .ok (.int .i64 (((nx rem / 6 % 12 : Nat) : Int) - ((1 : Nat) : Int))) := op_subI (by omega) (by omega)
      apply W.runG ((g+gw)) 20
      · intro M hM
        simp (config := { maxSteps := 4000000 }) (disch := first | decide +kernel | (rw [wantF_guard]; simp only [wantD_some, dstAt_zero, dstAt_succ, T.get_set, T.get_e, Nat.reduceEqDiff, if_true, if_false, wantV_bool, wantV_unit, unitV, cond_true, cond_false, Bool.not_true, Bool.not_false, List.toList_toArray]) | omega) only [c22, Try.f22, Nat.ble, cond_true, cond_false, T.puts_cons, T.puts_nil, exec_seq, exec_block, nat_beq_self, exec_region, exec_cond, exec_skip, exec_ret, exec_exit, exec_scope, runOps_cons, runOps_nil, opF_move, opF_assign, opF_ari, opF_neq, opF_eql, opF_un, opF_index, opF_indexAddr, opF_fieldAddr, opF_field, opF_build, opF_slice, opF_extract, opF_pick, opF_load, opF_alloc, opF_box, opF_buildSlice, opF_makeSlice, opF_store, opF_conv, opF_len, opF_minmax, opF_builtin, opF_call, resK, ev_tmp, evG_some, ev_int, ev_bool, ev_str, evs, evp, evo, R.ok_bind, putT_some, putT_none, T.get_set, T.get_e, binF_int, op_rem, op_quo_u32, op_xor_u32, op_neq, op_eql, op_lss, op_add_i64, op_sub_u32, op_and_u8, op_xor_u8, op_not_u32, binF_shr_u32, binF_shr_u8, op_mul_i64, op_quo_i64, op_and_u32, binF_shl_u8, wrapF_u8, wrapF_u32, mod_u8, mod_u32, cond_val, Nat.lt_irrefl, Nat.not_lt_zero, if_true, if_false, reduceIte, Nat.reduceEqDiff, Nat.reduceAdd, ne_eq, not_true_eq_false, not_false_eq_true, decide_true, decide_false, Bool.false_eq_true, Bool.not_true, Bool.not_false, sub_nil, sub_seq0, sub_seq1, sub_cond0, sub_cond1, sub_block, sub_loop, sub_scope, sub_range0, sub_range1, Option.getD_some, at_ptr, at_slc, runOps_yes, runOps_no, exec_draw, op_sub_i64, op_sub_neg, op_lss_neg, binF_str, str_add, str_neq, str_eql, takeF, resF, oneOf, pickF, extractF, cells_str, cells_int, cells_agg, bool_eql, bool_neq, op_lssI, bne_self_eq_false, beq_self_eq_true, eq_self, cells_slc, cells_func, builtin_append, ev_nilslice, ev_nilfunc, ev_nilptr, ev_nilmap, opF_makeFunc, opF_callv, callV_func, callV_yield, op_leq, op_gtr, op_geq, cast_le, cast_lt, List.nil_append, List.cons_append, List.append_nil, un_not, g1, g2, fa39_0, fa35_0, hkd, hw, fa68_0, hnv, hg, s1, s2, fa35_3, fa35_4, hst, hst3]
        with_reducible rfl
      refine hK _ _ hM3 ?_
      unfold actS; simp only [Sl_cons, Sl_nil, T.get_set, T.puts_cons, T.puts_nil, Nat.reduceEqDiff, Nat.reduceAdd, if_true, if_false, and_true, true_and, g1, g2, g3]
    · have e : moreD kind rem = (0, 0, 0, rem) := by unfold moreD; rw [if_neg (by rw [hwg]; simp), if_neg h7]
      rw [e] at hK
      apply W.runG (gw) 20
      · intro M hM
        simp (config := { maxSteps := 4000000 }) (disch := first | decide +kernel | (rw [wantF_guard]; simp only [wantD_some, dstAt_zero, dstAt_succ, T.get_set, T.get_e, Nat.reduceEqDiff, if_true, if_false, wantV_bool, wantV_unit, unitV, cond_true, cond_false, Bool.not_true, Bool.not_false, List.toList_toArray]) | omega) only [c22, Try.f22, Nat.ble, cond_true, cond_false, T.puts_cons, T.puts_nil, exec_seq, exec_block, nat_beq_self, exec_region, exec_cond, exec_skip, exec_ret, exec_exit, exec_scope, runOps_cons, runOps_nil, opF_move, opF_assign, opF_ari, opF_neq, opF_eql, opF_un, opF_index, opF_indexAddr, opF_fieldAddr, opF_field, opF_build, opF_slice, opF_extract, opF_pick, opF_load, opF_alloc, opF_box, opF_buildSlice, opF_makeSlice, opF_store, opF_conv, opF_len, opF_minmax, opF_builtin, opF_call, resK, ev_tmp, evG_some, ev_int, ev_bool, ev_str, evs, evp, evo, R.ok_bind, putT_some, putT_none, T.get_set, T.get_e, binF_int, op_rem, op_quo_u32, op_xor_u32, op_neq, op_eql, op_lss, op_add_i64, op_sub_u32, op_and_u8, op_xor_u8, op_not_u32, binF_shr_u32, binF_shr_u8, op_mul_i64, op_quo_i64, op_and_u32, binF_shl_u8, wrapF_u8, wrapF_u32, mod_u8, mod_u32, cond_val, Nat.lt_irrefl, Nat.not_lt_zero, if_true, if_false, reduceIte, Nat.reduceEqDiff, Nat.reduceAdd, ne_eq, not_true_eq_false, not_false_eq_true, decide_true, decide_false, Bool.false_eq_true, Bool.not_true, Bool.not_false, sub_nil, sub_seq0, sub_seq1, sub_cond0, sub_cond1, sub_block, sub_loop, sub_scope, sub_range0, sub_range1, Option.getD_some, at_ptr, at_slc, runOps_yes, runOps_no, exec_draw, op_sub_i64, op_sub_neg, op_lss_neg, binF_str, str_add, str_neq, str_eql, takeF, resF, oneOf, pickF, extractF, cells_str, cells_int, cells_agg, bool_eql, bool_neq, op_lssI, bne_self_eq_false, beq_self_eq_true, eq_self, cells_slc, cells_func, builtin_append, ev_nilslice, ev_nilfunc, ev_nilptr, ev_nilmap, opF_makeFunc, opF_callv, callV_func, callV_yield, op_leq, op_gtr, op_geq, cast_le, cast_lt, List.nil_append, List.cons_append, List.append_nil, un_not, g1, g2, fa39_0, fa35_0, hkd, hw, h7]
        with_reducible rfl
      refine hK _ _ hM ?_
      unfold actS; simp only [Sl_cons, Sl_nil, T.get_set, T.puts_cons, T.puts_nil, Nat.reduceEqDiff, Nat.reduceAdd, if_true, if_false, and_true, true_and, g1, g2, g3]
end
end Go.Proofs.Ytmhldlnlgjpkaaa.scr

/-
  Script: an act, whole.
-/
namespace Go.Proofs.Ytmhldlnlgjpkaaa.scr
open Go.Am
variable {q : Nat}
set_option linter.unusedSimpArgs false

section
variable {A : Mem} {bb : Nat} {rem : List UInt8} {C : Mem} {t : T Value} {K : Ex → St → Prop}
set_option maxHeartbeats 4000000 in
set_option maxRecDepth 20000 in
theorem act_stop {kind k weight arm : Nat} {word : List UInt8} {kk nn : Int} {cut : Bool} (hM : ActM q A bb (cellsD kind word weight kk nn arm cut (.slice none 0 0) (.slice none 0 0)) rem C) (hp : Sl t (actS A k))
    (hK : ∀ t' C' xs xo, ActM q A bb (cellsD kind word weight kk nn arm cut xs xo) (stopD (cut || decide (0 < arm)) rem).2.2 C' → StR (fun b => A.next + 2 ≤ b) C' (stopD (cut || decide (0 < arm)) rem).1 xs → OpsR (fun b => A.next + 2 ≤ b) C' (stopD (cut || decide (0 < arm)) rem).2.1 xo → Sl t' (actS A k) → K .nrm ⟨t', 91, [], C', none⟩) :
    W tb1 (.seq (sub c22 [1,1,1,1,1,1,0,0]) (sub c22 [1,1,1,1,1,1,0,1])) ⟨t, 91, [], C, none⟩ K := by
  obtain ⟨g1, g2, g3, -⟩ := hp
  have hlt := nx_lt rem
  have hcut : loadF tb1 C.get 4 (.pointer (some ⟨A.next + 1, 6, none⟩)) = .ok (.bool cut) := load_vals und4 rfl hM.h2 rfl
  have harm : loadF tb1 C.get 3 (.pointer (some ⟨A.next + 1, 5, none⟩)) = .ok (.int .i64 (arm : Int)) := load_vals und3 rfl hM.h2 rfl
  apply W.seq
  have first : ∀ {K : Ex → St → Prop}, (∀ t' : T Value, Sl t' (actS A k) → t'.get 73 = some (.bool (cut || decide (0 < arm))) → K .nrm ⟨t', 91, [], C, none⟩) → W tb1 (sub c22 [1,1,1,1,1,1,0,0]) ⟨t, 91, [], C, none⟩ K := by
    intro K hK
    cases cut with
    | true =>
      apply W.run 20
      · intro M
        simp (config := { maxSteps := 4000000 }) (disch := first | decide +kernel | (rw [wantF_guard]; simp only [wantD_some, dstAt_zero, dstAt_succ, T.get_set, T.get_e, Nat.reduceEqDiff, if_true, if_false, wantV_bool, wantV_unit, unitV, cond_true, cond_false, Bool.not_true, Bool.not_false, List.toList_toArray]) | omega) only [c22, Try.f22, Nat.ble, cond_true, cond_false, T.puts_cons, T.puts_nil, exec_seq, exec_block, nat_beq_self, exec_region, exec_cond, exec_skip, exec_ret, exec_exit, exec_scope, runOps_cons, runOps_nil, opF_move, opF_assign, opF_ari, opF_neq, opF_eql, opF_un, opF_index, opF_indexAddr, opF_fieldAddr, opF_field, opF_build, opF_slice, opF_extract, opF_pick, opF_load, opF_alloc, opF_box, opF_buildSlice, opF_makeSlice, opF_store, opF_conv, opF_len, opF_minmax, opF_builtin, opF_call, resK, ev_tmp, evG_some, ev_int, ev_bool, ev_str, evs, evp, evo, R.ok_bind, putT_some, putT_none, T.get_set, T.get_e, binF_int, op_rem, op_quo_u32, op_xor_u32, op_neq, op_eql, op_lss, op_add_i64, op_sub_u32, op_and_u8, op_xor_u8, op_not_u32, binF_shr_u32, binF_shr_u8, op_mul_i64, op_quo_i64, op_and_u32, binF_shl_u8, wrapF_u8, wrapF_u32, mod_u8, mod_u32, cond_val, Nat.lt_irrefl, Nat.not_lt_zero, if_true, if_false, reduceIte, Nat.reduceEqDiff, Nat.reduceAdd, ne_eq, not_true_eq_false, not_false_eq_true, decide_true, decide_false, Bool.false_eq_true, Bool.not_true, Bool.not_false, sub_nil, sub_seq0, sub_seq1, sub_cond0, sub_cond1, sub_block, sub_loop, sub_scope, sub_range0, sub_range1, Option.getD_some, at_ptr, at_slc, runOps_yes, runOps_no, exec_draw, op_sub_i64, op_sub_neg, op_lss_neg, binF_str, str_add, str_neq, str_eql, takeF, resF, oneOf, pickF, extractF, cells_str, cells_int, cells_agg, bool_eql, bool_neq, op_lssI, bne_self_eq_false, beq_self_eq_true, eq_self, cells_slc, cells_func, builtin_append, ev_nilslice, ev_nilfunc, ev_nilptr, ev_nilmap, opF_makeFunc, opF_callv, callV_func, callV_yield, op_leq, op_gtr, op_geq, cast_le, cast_lt, List.nil_append, List.cons_append, List.append_nil, un_not, g2, fa39_2, hcut]
        with_reducible rfl
      apply hK
      · unfold actS; simp only [Sl_cons, Sl_nil, T.get_set, T.puts_cons, T.puts_nil, Nat.reduceEqDiff, Nat.reduceAdd, if_true, if_false, and_true, true_and, g1, g2, g3]
      · simp only [T.get_set, Nat.reduceEqDiff, if_true, if_false, Bool.true_or]
    | false =>
      apply W.run 20
      · intro M
        simp (config := { maxSteps := 4000000 }) (disch := first | decide +kernel | (rw [wantF_guard]; simp only [wantD_some, dstAt_zero, dstAt_succ, T.get_set, T.get_e, Nat.reduceEqDiff, if_true, if_false, wantV_bool, wantV_unit, unitV, cond_true, cond_false, Bool.not_true, Bool.not_false, List.toList_toArray]) | omega) only [c22, Try.f22, Nat.ble, cond_true, cond_false, T.puts_cons, T.puts_nil, exec_seq, exec_block, nat_beq_self, exec_region, exec_cond, exec_skip, exec_ret, exec_exit, exec_scope, runOps_cons, runOps_nil, opF_move, opF_assign, opF_ari, opF_neq, opF_eql, opF_un, opF_index, opF_indexAddr, opF_fieldAddr, opF_field, opF_build, opF_slice, opF_extract, opF_pick, opF_load, opF_alloc, opF_box, opF_buildSlice, opF_makeSlice, opF_store, opF_conv, opF_len, opF_minmax, opF_builtin, opF_call, resK, ev_tmp, evG_some, ev_int, ev_bool, ev_str, evs, evp, evo, R.ok_bind, putT_some, putT_none, T.get_set, T.get_e, binF_int, op_rem, op_quo_u32, op_xor_u32, op_neq, op_eql, op_lss, op_add_i64, op_sub_u32, op_and_u8, op_xor_u8, op_not_u32, binF_shr_u32, binF_shr_u8, op_mul_i64, op_quo_i64, op_and_u32, binF_shl_u8, wrapF_u8, wrapF_u32, mod_u8, mod_u32, cond_val, Nat.lt_irrefl, Nat.not_lt_zero, if_true, if_false, reduceIte, Nat.reduceEqDiff, Nat.reduceAdd, ne_eq, not_true_eq_false, not_false_eq_true, decide_true, decide_false, Bool.false_eq_true, Bool.not_true, Bool.not_false, sub_nil, sub_seq0, sub_seq1, sub_cond0, sub_cond1, sub_block, sub_loop, sub_scope, sub_range0, sub_range1, Option.getD_some, at_ptr, at_slc, runOps_yes, runOps_no, exec_draw, op_sub_i64, op_sub_neg, op_lss_neg, binF_str, str_add, str_neq, str_eql, takeF, resF, oneOf, pickF, extractF, cells_str, cells_int, cells_agg, bool_eql, bool_neq, op_lssI, bne_self_eq_false, beq_self_eq_true, eq_self, cells_slc, cells_func, builtin_append, ev_nilslice, ev_nilfunc, ev_nilptr, ev_nilmap, opF_makeFunc, opF_callv, callV_func, callV_yield, op_leq, op_gtr, op_geq, cast_le, cast_lt, List.nil_append, List.cons_append, List.append_nil, un_not, g2, fa39_2, hcut, fa39_1, harm]
        with_reducible rfl
      apply hK
      · unfold actS; simp only [Sl_cons, Sl_nil, T.get_set, T.puts_cons, T.puts_nil, Nat.reduceEqDiff, Nat.reduceAdd, if_true, if_false, and_true, true_and, g1, g2, g3]
      · simp only [T.get_set, Nat.reduceEqDiff, if_true, if_false, Bool.false_or]
  refine first ?_
  rintro t1 ⟨f1, f2, f3, -⟩ f73
  show W tb1 _ _ _
  cases hc : (cut || decide (0 < arm)) with
  | false =>
    rw [hc] at f73 hK
    have e : stopD false rem = ([], [], rem) := rfl
    rw [e] at hK
    apply W.run 20
    · intro M
      simp (config := { maxSteps := 4000000 }) (disch := first | decide +kernel | (rw [wantF_guard]; simp only [wantD_some, dstAt_zero, dstAt_succ, T.get_set, T.get_e, Nat.reduceEqDiff, if_true, if_false, wantV_bool, wantV_unit, unitV, cond_true, cond_false, Bool.not_true, Bool.not_false, List.toList_toArray]) | omega) only [c22, Try.f22, Nat.ble, cond_true, cond_false, T.puts_cons, T.puts_nil, exec_seq, exec_block, nat_beq_self, exec_region, exec_cond, exec_skip, exec_ret, exec_exit, exec_scope, runOps_cons, runOps_nil, opF_move, opF_assign, opF_ari, opF_neq, opF_eql, opF_un, opF_index, opF_indexAddr, opF_fieldAddr, opF_field, opF_build, opF_slice, opF_extract, opF_pick, opF_load, opF_alloc, opF_box, opF_buildSlice, opF_makeSlice, opF_store, opF_conv, opF_len, opF_minmax, opF_builtin, opF_call, resK, ev_tmp, evG_some, ev_int, ev_bool, ev_str, evs, evp, evo, R.ok_bind, putT_some, putT_none, T.get_set, T.get_e, binF_int, op_rem, op_quo_u32, op_xor_u32, op_neq, op_eql, op_lss, op_add_i64, op_sub_u32, op_and_u8, op_xor_u8, op_not_u32, binF_shr_u32, binF_shr_u8, op_mul_i64, op_quo_i64, op_and_u32, binF_shl_u8, wrapF_u8, wrapF_u32, mod_u8, mod_u32, cond_val, Nat.lt_irrefl, Nat.not_lt_zero, if_true, if_false, reduceIte, Nat.reduceEqDiff, Nat.reduceAdd, ne_eq, not_true_eq_false, not_false_eq_true, decide_true, decide_false, Bool.false_eq_true, Bool.not_true, Bool.not_false, sub_nil, sub_seq0, sub_seq1, sub_cond0, sub_cond1, sub_block, sub_loop, sub_scope, sub_range0, sub_range1, Option.getD_some, at_ptr, at_slc, runOps_yes, runOps_no, exec_draw, op_sub_i64, op_sub_neg, op_lss_neg, binF_str, str_add, str_neq, str_eql, takeF, resF, oneOf, pickF, extractF, cells_str, cells_int, cells_agg, bool_eql, bool_neq, op_lssI, bne_self_eq_false, beq_self_eq_true, eq_self, cells_slc, cells_func, builtin_append, ev_nilslice, ev_nilfunc, ev_nilptr, ev_nilmap, opF_makeFunc, opF_callv, callV_func, callV_yield, op_leq, op_gtr, op_geq, cast_le, cast_lt, List.nil_append, List.cons_append, List.append_nil, un_not, f73]
      with_reducible rfl
    refine hK _ _ _ _ hM (.inl ⟨rfl, rfl⟩) (OpsR.nil _ _) ?_
    unfold actS; simp only [Sl_cons, Sl_nil, T.get_set, T.puts_cons, T.puts_nil, Nat.reduceEqDiff, Nat.reduceAdd, if_true, if_false, and_true, true_and, f1, f2, f3]
  | true =>
    rw [hc] at f73 hK
    have e : stopD true rem = (numbersD rem.tail (nx rem % 6), opensL (rem.tail.drop (nx rem % 6)) (nx rem / 6 % 4), opensRest (rem.tail.drop (nx rem % 6)) (nx rem / 6 % 4)) := rfl
    rw [e] at hK
    have hnv := next_val hM.h1
    obtain ⟨C1, ⟨g, hg⟩, hr1, hk1⟩ := run_next hM.hr
    have hM1 := hM.step hr1 hk1
    have hl1 := rd_load hM1.h1
    obtain ⟨xs, C2, ⟨g2', hg2⟩, hr2, hk2, b, hb, hx⟩ := run_numbers hM1.hr (nx rem % 6) (by omega)
    have hM2 := hM1.step hr2 hk2
    have hn1 := hM1.hn
    have hsR : StR (fun b => A.next + 2 ≤ b) C2 (numbersD rem.tail (nx rem % 6)) xs := StR.of hx (by omega)
    obtain ⟨C3, hst3, hM3, hn3, hf3⟩ := hM2.put (t := 36) (o := 7) size36 (by simp [cellsD]) hsR.cells.1 hsR.cells.2
    have hsR3 : StR (fun b => A.next + 2 ≤ b) C3 (numbersD rem.tail (nx rem % 6)) xs := hsR.same (by omega) (fun y hy _ => ⟨hy, hf3 y (by omega)⟩)
    have hl3 := rd_load hM3.h1
    obtain ⟨xo, C4, ⟨g4, hg4⟩, hoR, hr4, hk4⟩ := run_opens hM3.hr (nx rem / 6 % 4) (by omega)
    have hM4 := hM3.step hr4 hk4
    have hb4 := hM4.hb
    have hn4 := hM3.hn
    have hoR4 : OpsR (fun b => A.next + 2 ≤ b) C4 (opensL (rem.tail.drop (nx rem % 6)) (nx rem / 6 % 4)) xo := hoR.same (Nat.le_refl _) (fun y hy _ => ⟨by omega, rfl⟩)
    have hsR4 : StR (fun b => A.next + 2 ≤ b) C4 (numbersD rem.tail (nx rem % 6)) xs := hsR3.same hk4.1 (fun y hy hyl => ⟨hy, hk4.2 y hyl (by omega)⟩)
    obtain ⟨C5, hst5, hM5, hn5, hf5⟩ := hM4.put (t := 37) (o := 8) size37 (by simp [cellsD]) hoR4.cells.1 hoR4.cells.2
    apply W.runG ((g+g2'+g4)) 20
    · intro M hM
      simp (config := { maxSteps := 4000000 }) (disch := first | decide +kernel | (rw [wantF_guard]; simp only [wantD_some, dstAt_zero, dstAt_succ, T.get_set, T.get_e, Nat.reduceEqDiff, if_true, if_false, wantV_bool, wantV_unit, unitV, cond_true, cond_false, Bool.not_true, Bool.not_false, List.toList_toArray]) | omega) only [c22, Try.f22, Nat.ble, cond_true, cond_false, T.puts_cons, T.puts_nil, exec_seq, exec_block, nat_beq_self, exec_region, exec_cond, exec_skip, exec_ret, exec_exit, exec_scope, runOps_cons, runOps_nil, opF_move, opF_assign, opF_ari, opF_neq, opF_eql, opF_un, opF_index, opF_indexAddr, opF_fieldAddr, opF_field, opF_build, opF_slice, opF_extract, opF_pick, opF_load, opF_alloc, opF_box, opF_buildSlice, opF_makeSlice, opF_store, opF_conv, opF_len, opF_minmax, opF_builtin, opF_call, resK, ev_tmp, evG_some, ev_int, ev_bool, ev_str, evs, evp, evo, R.ok_bind, putT_some, putT_none, T.get_set, T.get_e, binF_int, op_rem, op_quo_u32, op_xor_u32, op_neq, op_eql, op_lss, op_add_i64, op_sub_u32, op_and_u8, op_xor_u8, op_not_u32, binF_shr_u32, binF_shr_u8, op_mul_i64, op_quo_i64, op_and_u32, binF_shl_u8, wrapF_u8, wrapF_u32, mod_u8, mod_u32, cond_val, Nat.lt_irrefl, Nat.not_lt_zero, if_true, if_false, reduceIte, Nat.reduceEqDiff, Nat.reduceAdd, ne_eq, not_true_eq_false, not_false_eq_true, decide_true, decide_false, Bool.false_eq_true, Bool.not_true, Bool.not_false, sub_nil, sub_seq0, sub_seq1, sub_cond0, sub_cond1, sub_block, sub_loop, sub_scope, sub_range0, sub_range1, Option.getD_some, at_ptr, at_slc, runOps_yes, runOps_no, exec_draw, op_sub_i64, op_sub_neg, op_lss_neg, binF_str, str_add, str_neq, str_eql, takeF, resF, oneOf, pickF, extractF, cells_str, cells_int, cells_agg, bool_eql, bool_neq, op_lssI, bne_self_eq_false, beq_self_eq_true, eq_self, cells_slc, cells_func, builtin_append, ev_nilslice, ev_nilfunc, ev_nilptr, ev_nilmap, opF_makeFunc, opF_callv, callV_func, callV_yield, op_leq, op_gtr, op_geq, cast_le, cast_lt, List.nil_append, List.cons_append, List.append_nil, un_not, f1, f2, f73, fa68_0, hnv, hg, hl1, hg2, fa39_3, hst3, hl3, hg4, fa39_4, hst5]
      with_reducible rfl
    refine hK _ _ xs xo hM5 (hsR4.same (by omega) (fun y hy _ => ⟨hy, hf5 y (by omega)⟩)) (hoR4.same (by omega) (fun y hy _ => ⟨hy, hf5 y (by omega)⟩)) ?_
    unfold actS; simp only [Sl_cons, Sl_nil, T.get_set, T.puts_cons, T.puts_nil, Nat.reduceEqDiff, Nat.reduceAdd, if_true, if_false, and_true, true_and, f1, f2, f3]
end

set_option maxHeartbeats 4000000 in
set_option maxRecDepth 20000 in
theorem run_act {A : Mem} {bb : Nat} {rem : List UInt8} (h : Rd q A bb rem) : ∃ l A', Ans tb1 22 [.agg ⟨rdV bb⟩] A (.agg ⟨l⟩) A' ∧ ActR (fun b => A.next ≤ b) A' (actD rem).1 l ∧ Rd q A' bb (actD rem).2 ∧ Kp bb A A' := by
  have hq := h.qlt
  obtain ⟨v, A', ha, l, hv, ho, hr, hk⟩ : ∃ v A', Ans tb1 22 [.agg ⟨rdV bb⟩] A v A' ∧ ∃ l, v = .agg ⟨l⟩ ∧ ActR (fun b => A.next ≤ b) A' (actD rem).1 l ∧ Rd q A' bb (actD rem).2 ∧ Kp bb A A' := by
    refine ans_of_W (fn_at Try.func22) c22_eq (by rw [Try.ntmps22]; simp) (by kernel_rfl) (by kernel_rfl) ?_
    have hbb := h.1
    have hlt := nx_lt rem
    apply W.seq
    apply W.run 20
    · intro M
      simp (config := { maxSteps := 4000000 }) (disch := first | decide +kernel | (rw [wantF_guard]; simp only [wantD_some, dstAt_zero, dstAt_succ, T.get_set, T.get_e, Nat.reduceEqDiff, if_true, if_false, wantV_bool, wantV_unit, unitV, cond_true, cond_false, Bool.not_true, Bool.not_false, List.toList_toArray]) | omega) only [c22, Try.f22, Nat.ble, cond_true, cond_false, T.puts_cons, T.puts_nil, exec_seq, exec_block, nat_beq_self, exec_region, exec_cond, exec_skip, exec_ret, exec_exit, exec_scope, runOps_cons, runOps_nil, opF_move, opF_assign, opF_ari, opF_neq, opF_eql, opF_un, opF_index, opF_indexAddr, opF_fieldAddr, opF_field, opF_build, opF_slice, opF_extract, opF_pick, opF_load, opF_alloc, opF_box, opF_buildSlice, opF_makeSlice, opF_store, opF_conv, opF_len, opF_minmax, opF_builtin, opF_call, resK, ev_tmp, evG_some, ev_int, ev_bool, ev_str, evs, evp, evo, R.ok_bind, putT_some, putT_none, T.get_set, T.get_e, binF_int, op_rem, op_quo_u32, op_xor_u32, op_neq, op_eql, op_lss, op_add_i64, op_sub_u32, op_and_u8, op_xor_u8, op_not_u32, binF_shr_u32, binF_shr_u8, op_mul_i64, op_quo_i64, op_and_u32, binF_shl_u8, wrapF_u8, wrapF_u32, mod_u8, mod_u32, cond_val, Nat.lt_irrefl, Nat.not_lt_zero, if_true, if_false, reduceIte, Nat.reduceEqDiff, Nat.reduceAdd, ne_eq, not_true_eq_false, not_false_eq_true, decide_true, decide_false, Bool.false_eq_true, Bool.not_true, Bool.not_false, sub_nil, sub_seq0, sub_seq1, sub_cond0, sub_cond1, sub_block, sub_loop, sub_scope, sub_range0, sub_range1, Option.getD_some, at_ptr, at_slc, runOps_yes, runOps_no, exec_draw, op_sub_i64, op_sub_neg, op_lss_neg, binF_str, str_add, str_neq, str_eql, takeF, resF, oneOf, pickF, extractF, cells_str, cells_int, cells_agg, bool_eql, bool_neq, op_lssI, bne_self_eq_false, beq_self_eq_true, eq_self, cells_slc, cells_func, builtin_append, ev_nilslice, ev_nilfunc, ev_nilptr, ev_nilmap, opF_makeFunc, opF_callv, callV_func, callV_yield, op_leq, op_gtr, op_geq, cast_le, cast_lt, List.nil_append, List.cons_append, List.append_nil, un_not, zero39, next_alloc]
      with_reducible rfl
    have hM0 : ActM q A bb (cellsD 0 [] 0 0 0 0 false (.slice none 0 0) (.slice none 0 0)) rem ((A.alloc (rowOb 68 (rdV bb))).alloc (rowOb 39 [.int .i64 0, .string ⟨#[]⟩, .int .u32 0, .int .i64 0, .int .i64 0, .int .i64 0, .bool false, .slice none 0 0, .slice none 0 0])) :=
      ⟨(Go.Am.vals_new A 68 (rdV bb)).same (get_alloc_ne (by rw [next_alloc]; omega)), Go.Am.vals_new (A.alloc (rowOb 68 (rdV bb))) 39 _, (h.alloc _).alloc _, (Kp.alloc bb A _).trans (Kp.alloc bb _ _), by simp [next_alloc], hbb, hq⟩
    revert hM0
    generalize (A.alloc (rowOb 68 (rdV bb))).alloc (rowOb 39 [.int .i64 0, .string ⟨#[]⟩, .int .u32 0, .int .i64 0, .int .i64 0, .int .i64 0, .bool false, .slice none 0 0, .slice none 0 0]) = B
    intro hM0
    obtain ⟨C, ⟨g, hg⟩, hr1, hk1⟩ := run_next hM0.hr
    have hnv := next_val hM0.h1
    have hM1 := hM0.step hr1 hk1
    apply W.seq
    apply W.runG (g) 20
    · intro M hM
      simp (config := { maxSteps := 4000000 }) (disch := first | decide +kernel | (rw [wantF_guard]; simp only [wantD_some, dstAt_zero, dstAt_succ, T.get_set, T.get_e, Nat.reduceEqDiff, if_true, if_false, wantV_bool, wantV_unit, unitV, cond_true, cond_false, Bool.not_true, Bool.not_false, List.toList_toArray]) | omega) only [c22, Try.f22, Nat.ble, cond_true, cond_false, T.puts_cons, T.puts_nil, exec_seq, exec_block, nat_beq_self, exec_region, exec_cond, exec_skip, exec_ret, exec_exit, exec_scope, runOps_cons, runOps_nil, opF_move, opF_assign, opF_ari, opF_neq, opF_eql, opF_un, opF_index, opF_indexAddr, opF_fieldAddr, opF_field, opF_build, opF_slice, opF_extract, opF_pick, opF_load, opF_alloc, opF_box, opF_buildSlice, opF_makeSlice, opF_store, opF_conv, opF_len, opF_minmax, opF_builtin, opF_call, resK, ev_tmp, evG_some, ev_int, ev_bool, ev_str, evs, evp, evo, R.ok_bind, putT_some, putT_none, T.get_set, T.get_e, binF_int, op_rem, op_quo_u32, op_xor_u32, op_neq, op_eql, op_lss, op_add_i64, op_sub_u32, op_and_u8, op_xor_u8, op_not_u32, binF_shr_u32, binF_shr_u8, op_mul_i64, op_quo_i64, op_and_u32, binF_shl_u8, wrapF_u8, wrapF_u32, mod_u8, mod_u32, cond_val, Nat.lt_irrefl, Nat.not_lt_zero, if_true, if_false, reduceIte, Nat.reduceEqDiff, Nat.reduceAdd, ne_eq, not_true_eq_false, not_false_eq_true, decide_true, decide_false, Bool.false_eq_true, Bool.not_true, Bool.not_false, sub_nil, sub_seq0, sub_seq1, sub_cond0, sub_cond1, sub_block, sub_loop, sub_scope, sub_range0, sub_range1, Option.getD_some, at_ptr, at_slc, runOps_yes, runOps_no, exec_draw, op_sub_i64, op_sub_neg, op_lss_neg, binF_str, str_add, str_neq, str_eql, takeF, resF, oneOf, pickF, extractF, cells_str, cells_int, cells_agg, bool_eql, bool_neq, op_lssI, bne_self_eq_false, beq_self_eq_true, eq_self, cells_slc, cells_func, builtin_append, ev_nilslice, ev_nilfunc, ev_nilptr, ev_nilmap, opF_makeFunc, opF_callv, callV_func, callV_yield, op_leq, op_gtr, op_geq, cast_le, cast_lt, List.nil_append, List.cons_append, List.append_nil, un_not, fa68_0, hnv, hg]
      with_reducible rfl
    obtain ⟨C2, hst2, hM2, -, -⟩ := hM1.put (t := 3) (o := 0) (v := .int .i64 ((nx rem % 10 : Nat) : Int)) size3 (by simp [cellsD]) rfl rfl
    obtain ⟨C3, hst3, hM3, -, -⟩ := hM2.put (t := 4) (o := 6) (v := .bool (decide (nx rem / 10 % 2 = 1))) size4 (by simp [cellsD]) rfl rfl
    apply W.seq
    apply W.run 20
    · intro M
      simp (config := { maxSteps := 4000000 }) (disch := first | decide +kernel | (rw [wantF_guard]; simp only [wantD_some, dstAt_zero, dstAt_succ, T.get_set, T.get_e, Nat.reduceEqDiff, if_true, if_false, wantV_bool, wantV_unit, unitV, cond_true, cond_false, Bool.not_true, Bool.not_false, List.toList_toArray]) | omega) only [c22, Try.f22, Nat.ble, cond_true, cond_false, T.puts_cons, T.puts_nil, exec_seq, exec_block, nat_beq_self, exec_region, exec_cond, exec_skip, exec_ret, exec_exit, exec_scope, runOps_cons, runOps_nil, opF_move, opF_assign, opF_ari, opF_neq, opF_eql, opF_un, opF_index, opF_indexAddr, opF_fieldAddr, opF_field, opF_build, opF_slice, opF_extract, opF_pick, opF_load, opF_alloc, opF_box, opF_buildSlice, opF_makeSlice, opF_store, opF_conv, opF_len, opF_minmax, opF_builtin, opF_call, resK, ev_tmp, evG_some, ev_int, ev_bool, ev_str, evs, evp, evo, R.ok_bind, putT_some, putT_none, T.get_set, T.get_e, binF_int, op_rem, op_quo_u32, op_xor_u32, op_neq, op_eql, op_lss, op_add_i64, op_sub_u32, op_and_u8, op_xor_u8, op_not_u32, binF_shr_u32, binF_shr_u8, op_mul_i64, op_quo_i64, op_and_u32, binF_shl_u8, wrapF_u8, wrapF_u32, mod_u8, mod_u32, cond_val, Nat.lt_irrefl, Nat.not_lt_zero, if_true, if_false, reduceIte, Nat.reduceEqDiff, Nat.reduceAdd, ne_eq, not_true_eq_false, not_false_eq_true, decide_true, decide_false, Bool.false_eq_true, Bool.not_true, Bool.not_false, sub_nil, sub_seq0, sub_seq1, sub_cond0, sub_cond1, sub_block, sub_loop, sub_scope, sub_range0, sub_range1, Option.getD_some, at_ptr, at_slc, runOps_yes, runOps_no, exec_draw, op_sub_i64, op_sub_neg, op_lss_neg, binF_str, str_add, str_neq, str_eql, takeF, resF, oneOf, pickF, extractF, cells_str, cells_int, cells_agg, bool_eql, bool_neq, op_lssI, bne_self_eq_false, beq_self_eq_true, eq_self, cells_slc, cells_func, builtin_append, ev_nilslice, ev_nilfunc, ev_nilptr, ev_nilmap, opF_makeFunc, opF_callv, callV_func, callV_yield, op_leq, op_gtr, op_geq, cast_le, cast_lt, List.nil_append, List.cons_append, List.append_nil, un_not, fa39_0, fa35_0, hst2, fa39_2, hst3]
      with_reducible rfl
    apply W.seq
    refine act_arm (kind := nx rem % 10) (cut := cutD (nx rem)) hlt hM3 (k := nx rem) ?_ ?_
    · unfold actS; simp only [Sl_cons, Sl_nil, T.get_set, T.puts_cons, T.puts_nil, Nat.reduceEqDiff, Nat.reduceAdd, if_true, if_false, and_true, true_and]
    intro t4 C4 hM4 hp4
    have hp4' := hp4
    obtain ⟨p1, p2, p3, -⟩ := hp4'
    show W tb1 _ _ _
    have hrl := rd_load hM4.h1
    obtain ⟨C5, ⟨g5, hg5⟩, hr5, hk5⟩ := run_word hM4.hr
    have hM5 := hM4.step hr5 hk5
    obtain ⟨C6, hst6, hM6, -, -⟩ := hM5.put (t := 9) (o := 1) (v := strOf (wordD (armD (nx rem) rem.tail).2).1) size9 (by simp [cellsD]) rfl rfl
    apply W.seq
    apply W.runG (g5) 20
    · intro M hM
      simp (config := { maxSteps := 4000000 }) (disch := first | decide +kernel | (rw [wantF_guard]; simp only [wantD_some, dstAt_zero, dstAt_succ, T.get_set, T.get_e, Nat.reduceEqDiff, if_true, if_false, wantV_bool, wantV_unit, unitV, cond_true, cond_false, Bool.not_true, Bool.not_false, List.toList_toArray]) | omega) only [c22, Try.f22, Nat.ble, cond_true, cond_false, T.puts_cons, T.puts_nil, exec_seq, exec_block, nat_beq_self, exec_region, exec_cond, exec_skip, exec_ret, exec_exit, exec_scope, runOps_cons, runOps_nil, opF_move, opF_assign, opF_ari, opF_neq, opF_eql, opF_un, opF_index, opF_indexAddr, opF_fieldAddr, opF_field, opF_build, opF_slice, opF_extract, opF_pick, opF_load, opF_alloc, opF_box, opF_buildSlice, opF_makeSlice, opF_store, opF_conv, opF_len, opF_minmax, opF_builtin, opF_call, resK, ev_tmp, evG_some, ev_int, ev_bool, ev_str, evs, evp, evo, R.ok_bind, putT_some, putT_none, T.get_set, T.get_e, binF_int, op_rem, op_quo_u32, op_xor_u32, op_neq, op_eql, op_lss, op_add_i64, op_sub_u32, op_and_u8, op_xor_u8, op_not_u32, binF_shr_u32, binF_shr_u8, op_mul_i64, op_quo_i64, op_and_u32, binF_shl_u8, wrapF_u8, wrapF_u32, mod_u8, mod_u32, cond_val, Nat.lt_irrefl, Nat.not_lt_zero, if_true, if_false, reduceIte, Nat.reduceEqDiff, Nat.reduceAdd, ne_eq, not_true_eq_false, not_false_eq_true, decide_true, decide_false, Bool.false_eq_true, Bool.not_true, Bool.not_false, sub_nil, sub_seq0, sub_seq1, sub_cond0, sub_cond1, sub_block, sub_loop, sub_scope, sub_range0, sub_range1, Option.getD_some, at_ptr, at_slc, runOps_yes, runOps_no, exec_draw, op_sub_i64, op_sub_neg, op_lss_neg, binF_str, str_add, str_neq, str_eql, takeF, resF, oneOf, pickF, extractF, cells_str, cells_int, cells_agg, bool_eql, bool_neq, op_lssI, bne_self_eq_false, beq_self_eq_true, eq_self, cells_slc, cells_func, builtin_append, ev_nilslice, ev_nilfunc, ev_nilptr, ev_nilmap, opF_makeFunc, opF_callv, callV_func, callV_yield, op_leq, op_gtr, op_geq, cast_le, cast_lt, List.nil_append, List.cons_append, List.append_nil, un_not, p1, p2, hrl, hg5, fa39_0, fa35_1, hst6]
      with_reducible rfl
    apply W.seq
    refine act_more (kind := nx rem % 10) (word := (wordD (armD (nx rem) rem.tail).2).1) (arm := (armD (nx rem) rem.tail).1) (cut := cutD (nx rem)) (k := nx rem) hM6 ?_ ?_
    · unfold actS; simp only [Sl_cons, Sl_nil, T.get_set, T.puts_cons, T.puts_nil, Nat.reduceEqDiff, Nat.reduceAdd, if_true, if_false, and_true, true_and, p1, p2, p3]
    intro t7 C7 hM7 hp7
    show W tb1 _ _ _
    apply W.seq
    refine act_stop (k := nx rem) hM7 hp7 ?_
    rintro t8 C8 xs xo hM8 hsR hoR ⟨q1, q2, q3, -⟩
    show W tb1 _ _ _
    obtain ⟨d39, hd1, hd2⟩ := und39
    have hl8 := Go.Am.load_all hd1 hd2 (by rw [size39]; rfl) hM8.h2
    have hcell := ActR.cells (d := (actD rem).1) ⟨xs, xo, rfl, hsR, hoR⟩
    obtain ⟨C9, hst9, hv9, hn9, hf9⟩ := store_all (tb := tb1) (t := 39) (by rw [size39]; rfl) hM8.h2 rfl (by simp [cellsD]) hcell.2
    apply W.seq
    apply W.run 20
    · intro M
      simp (config := { maxSteps := 4000000 }) (disch := first | decide +kernel | (rw [wantF_guard]; simp only [wantD_some, dstAt_zero, dstAt_succ, T.get_set, T.get_e, Nat.reduceEqDiff, if_true, if_false, wantV_bool, wantV_unit, unitV, cond_true, cond_false, Bool.not_true, Bool.not_false, List.toList_toArray]) | omega) only [c22, Try.f22, Nat.ble, cond_true, cond_false, T.puts_cons, T.puts_nil, exec_seq, exec_block, nat_beq_self, exec_region, exec_cond, exec_skip, exec_ret, exec_exit, exec_scope, runOps_cons, runOps_nil, opF_move, opF_assign, opF_ari, opF_neq, opF_eql, opF_un, opF_index, opF_indexAddr, opF_fieldAddr, opF_field, opF_build, opF_slice, opF_extract, opF_pick, opF_load, opF_alloc, opF_box, opF_buildSlice, opF_makeSlice, opF_store, opF_conv, opF_len, opF_minmax, opF_builtin, opF_call, resK, ev_tmp, evG_some, ev_int, ev_bool, ev_str, evs, evp, evo, R.ok_bind, putT_some, putT_none, T.get_set, T.get_e, binF_int, op_rem, op_quo_u32, op_xor_u32, op_neq, op_eql, op_lss, op_add_i64, op_sub_u32, op_and_u8, op_xor_u8, op_not_u32, binF_shr_u32, binF_shr_u8, op_mul_i64, op_quo_i64, op_and_u32, binF_shl_u8, wrapF_u8, wrapF_u32, mod_u8, mod_u32, cond_val, Nat.lt_irrefl, Nat.not_lt_zero, if_true, if_false, reduceIte, Nat.reduceEqDiff, Nat.reduceAdd, ne_eq, not_true_eq_false, not_false_eq_true, decide_true, decide_false, Bool.false_eq_true, Bool.not_true, Bool.not_false, sub_nil, sub_seq0, sub_seq1, sub_cond0, sub_cond1, sub_block, sub_loop, sub_scope, sub_range0, sub_range1, Option.getD_some, at_ptr, at_slc, runOps_yes, runOps_no, exec_draw, op_sub_i64, op_sub_neg, op_lss_neg, binF_str, str_add, str_neq, str_eql, takeF, resF, oneOf, pickF, extractF, cells_str, cells_int, cells_agg, bool_eql, bool_neq, op_lssI, bne_self_eq_false, beq_self_eq_true, eq_self, cells_slc, cells_func, builtin_append, ev_nilslice, ev_nilfunc, ev_nilptr, ev_nilmap, opF_makeFunc, opF_callv, callV_func, callV_yield, op_leq, op_gtr, op_geq, cast_le, cast_lt, List.nil_append, List.cons_append, List.append_nil, un_not, q2, hl8, hst9]
      with_reducible rfl
    apply W.run 20
    · intro M
      simp (config := { maxSteps := 4000000 }) (disch := first | decide +kernel | (rw [wantF_guard]; simp only [wantD_some, dstAt_zero, dstAt_succ, T.get_set, T.get_e, Nat.reduceEqDiff, if_true, if_false, wantV_bool, wantV_unit, unitV, cond_true, cond_false, Bool.not_true, Bool.not_false, List.toList_toArray]) | omega) only [c22, Try.f22, Nat.ble, cond_true, cond_false, T.puts_cons, T.puts_nil, exec_seq, exec_block, nat_beq_self, exec_region, exec_cond, exec_skip, exec_ret, exec_exit, exec_scope, runOps_cons, runOps_nil, opF_move, opF_assign, opF_ari, opF_neq, opF_eql, opF_un, opF_index, opF_indexAddr, opF_fieldAddr, opF_field, opF_build, opF_slice, opF_extract, opF_pick, opF_load, opF_alloc, opF_box, opF_buildSlice, opF_makeSlice, opF_store, opF_conv, opF_len, opF_minmax, opF_builtin, opF_call, resK, ev_tmp, evG_some, ev_int, ev_bool, ev_str, evs, evp, evo, R.ok_bind, putT_some, putT_none, T.get_set, T.get_e, binF_int, op_rem, op_quo_u32, op_xor_u32, op_neq, op_eql, op_lss, op_add_i64, op_sub_u32, op_and_u8, op_xor_u8, op_not_u32, binF_shr_u32, binF_shr_u8, op_mul_i64, op_quo_i64, op_and_u32, binF_shl_u8, wrapF_u8, wrapF_u32, mod_u8, mod_u32, cond_val, Nat.lt_irrefl, Nat.not_lt_zero, if_true, if_false, reduceIte, Nat.reduceEqDiff, Nat.reduceAdd, ne_eq, not_true_eq_false, not_false_eq_true, decide_true, decide_false, Bool.false_eq_true, Bool.not_true, Bool.not_false, sub_nil, sub_seq0, sub_seq1, sub_cond0, sub_cond1, sub_block, sub_loop, sub_scope, sub_range0, sub_range1, Option.getD_some, at_ptr, at_slc, runOps_yes, runOps_no, exec_draw, op_sub_i64, op_sub_neg, op_lss_neg, binF_str, str_add, str_neq, str_eql, takeF, resF, oneOf, pickF, extractF, cells_str, cells_int, cells_agg, bool_eql, bool_neq, op_lssI, bne_self_eq_false, beq_self_eq_true, eq_self, cells_slc, cells_func, builtin_append, ev_nilslice, ev_nilfunc, ev_nilptr, ev_nilmap, opF_makeFunc, opF_callv, callV_func, callV_yield, op_leq, op_gtr, op_geq, cast_le, cast_lt, List.nil_append, List.cons_append, List.append_nil, un_not]
      with_reducible rfl
    have hn8 := hM8.hn
    have hb8 := hM8.hb
    refine ⟨.inr rfl, C9, [.agg ⟨cellsD (nx rem % 10) (wordD (armD (nx rem) rem.tail).2).1 (moreD (nx rem % 10) (wordD (armD (nx rem) rem.tail).2).2).1 (moreD (nx rem % 10) (wordD (armD (nx rem) rem.tail).2).2).2.1 (moreD (nx rem % 10) (wordD (armD (nx rem) rem.tail).2).2).2.2.1 (armD (nx rem) rem.tail).1 (cutD (nx rem)) xs xo⟩], rfl, ?_, _, rfl, ⟨xs, xo, rfl, hsR.same (by omega) (fun y hy _ => ⟨by omega, hf9 y (by omega)⟩), hoR.same (by omega) (fun y hy _ => ⟨by omega, hf9 y (by omega)⟩)⟩, ?_, ⟨by have := hM8.hk.1; omega, fun y hy hyb => by rw [hf9 y (by omega), hM8.hk.2 y hy hyb]⟩⟩
    · have hl9 := Go.Am.load_all hd1 hd2 (by rw [size39]; rfl) hv9
      simp only [Try.f22, resF, ev_tmp, T.get_set, Nat.reduceEqDiff, if_true, if_false, evG_some, R.ok_bind, q2, hl9]
    · exact hM8.hr.same (by omega) (fun y _ hy => hf9 y (by rcases hy with rfl | rfl <;> omega))
  subst hv
  exact ⟨l, A', ha, ho, hr, hk⟩
end Go.Proofs.Ytmhldlnlgjpkaaa.scr

/-
  Script: a setting's head.
-/
namespace Go.Proofs.Ytmhldlnlgjpkaaa.scr
open Go.Am
variable {q : Nat}
set_option linter.unusedSimpArgs false

theorem zero68 : zeroF tb1 68 = .ok (.agg ⟨[.nilFunc, .nilFunc]⟩) := by kernel_rfl
theorem bf68 (bb : Nat) : buildF tb1 68 [(0, .func (.func 39) ⟨[]⟩ ⟨[.pointer (some ⟨bb, 0, none⟩)]⟩), (1, .func (.func 40) ⟨[]⟩ ⟨[.pointer (some ⟨bb, 0, none⟩)]⟩)] = .ok (.agg ⟨rdV bb⟩) := by kernel_rfl
theorem rdV_one (bb : Nat) : ∀ v ∈ rdV bb, oneCell v = true := fun v hv => by
  simp only [rdV, List.mem_cons, List.not_mem_nil, or_false] at hv
  rcases hv with rfl | rfl <;> rfl
noncomputable def c21 : Code := Try.f21.body.getD .skip
theorem c21_eq : Try.f21.body = some (.seq (sub c21 [0]) (.seq (sub c21 [1,0]) (sub c21 [1,1]))) := by kernel_rfl
theorem run_reading {A : Mem} {rem : List UInt8} {x : Value} (h : RdS q A rem x) : ∃ A', Ans tb1 21 [x] A (.agg ⟨rdV A.next⟩) A' ∧ Rd q A' A.next rem ∧ A.next + 2 ≤ A'.next ∧ ∀ y, y < A.next → A'.get y = A.get y := by
  have hq := h.1
  obtain ⟨v, A', ha, hv, hr, hn, hf⟩ : ∃ v A', Ans tb1 21 [x] A v A' ∧ v = .agg ⟨rdV A.next⟩ ∧ Rd q A' A.next rem ∧ A.next + 2 ≤ A'.next ∧ ∀ y, y < A.next → A'.get y = A.get y := by
    refine ans_of_W (fn_at Try.func21) c21_eq (by rw [Try.ntmps21]; simp) (by kernel_rfl) (by kernel_rfl) ?_
    obtain ⟨e1, e2, -⟩ := h.self_cells
    apply W.seq
    apply W.run 20
    · intro M
      simp (config := { maxSteps := 4000000 }) (disch := first | decide +kernel | (rw [wantF_guard]; simp only [wantD_some, dstAt_zero, dstAt_succ, T.get_set, T.get_e, Nat.reduceEqDiff, if_true, if_false, wantV_bool, wantV_unit, unitV, cond_true, cond_false, Bool.not_true, Bool.not_false, List.toList_toArray]) | omega) only [c21, Try.f21, Nat.ble, cond_true, cond_false, T.puts_cons, T.puts_nil, exec_seq, exec_block, nat_beq_self, exec_region, exec_cond, exec_skip, exec_ret, exec_exit, exec_scope, runOps_cons, runOps_nil, opF_move, opF_assign, opF_ari, opF_neq, opF_eql, opF_un, opF_index, opF_indexAddr, opF_fieldAddr, opF_field, opF_build, opF_slice, opF_extract, opF_pick, opF_load, opF_alloc, opF_box, opF_buildSlice, opF_makeSlice, opF_store, opF_conv, opF_len, opF_minmax, opF_builtin, opF_call, resK, ev_tmp, evG_some, ev_int, ev_bool, ev_str, evs, evp, evo, R.ok_bind, putT_some, putT_none, T.get_set, T.get_e, binF_int, op_rem, op_quo_u32, op_xor_u32, op_neq, op_eql, op_lss, op_add_i64, op_sub_u32, op_and_u8, op_xor_u8, op_not_u32, binF_shr_u32, binF_shr_u8, op_mul_i64, op_quo_i64, op_and_u32, binF_shl_u8, wrapF_u8, wrapF_u32, mod_u8, mod_u32, cond_val, Nat.lt_irrefl, Nat.not_lt_zero, if_true, if_false, reduceIte, Nat.reduceEqDiff, Nat.reduceAdd, ne_eq, not_true_eq_false, not_false_eq_true, decide_true, decide_false, Bool.false_eq_true, Bool.not_true, Bool.not_false, sub_nil, sub_seq0, sub_seq1, sub_cond0, sub_cond1, sub_block, sub_loop, sub_scope, sub_range0, sub_range1, Option.getD_some, at_ptr, at_slc, runOps_yes, runOps_no, exec_draw, op_sub_i64, op_sub_neg, op_lss_neg, binF_str, str_add, str_neq, str_eql, takeF, resF, oneOf, pickF, extractF, cells_str, cells_int, cells_agg, bool_eql, bool_neq, op_lssI, bne_self_eq_false, beq_self_eq_true, eq_self, cells_slc, cells_func, builtin_append, ev_nilslice, ev_nilfunc, ev_nilptr, ev_nilmap, opF_makeFunc, opF_callv, callV_func, callV_yield, op_leq, op_gtr, op_geq, cast_le, cast_lt, List.nil_append, List.cons_append, List.append_nil, un_not, e1, zero68, next_alloc]
      with_reducible rfl
    have hv0 : Vals ((A.alloc (rowOb 22 [x])).alloc (rowOb 68 [.nilFunc, .nilFunc])) 68 (A.next + 1) (.var 2) [.nilFunc, .nilFunc] := Go.Am.vals_new (A.alloc (rowOb 22 [x])) 68 _
    have hvx : Vals ((A.alloc (rowOb 22 [x])).alloc (rowOb 68 [.nilFunc, .nilFunc])) 22 A.next (.var 1) [x] := (Go.Am.vals_new A 22 [x]).same (get_alloc_ne (by rw [next_alloc]; omega))
    have hn0 : ((A.alloc (rowOb 22 [x])).alloc (rowOb 68 [.nilFunc, .nilFunc])).next = A.next + 2 := by simp [next_alloc]
    have hf0 : ∀ y, y < A.next → ((A.alloc (rowOb 22 [x])).alloc (rowOb 68 [.nilFunc, .nilFunc])).get y = A.get y := fun y hy => by rw [get_alloc_ne (by rw [next_alloc]; omega), get_alloc_ne (by omega)]
    obtain ⟨C, hst, hv1, hn1, hf1⟩ := store_all (tb := tb1) (t := 68) (by rw [size68]; rfl) hv0 (show (rdV A.next).length = _ from rfl) (by simp) (rdV_one A.next)
    apply W.seq
    apply W.run 20
    · intro M
      simp (config := { maxSteps := 4000000 }) (disch := first | decide +kernel | (rw [wantF_guard]; simp only [wantD_some, dstAt_zero, dstAt_succ, T.get_set, T.get_e, Nat.reduceEqDiff, if_true, if_false, wantV_bool, wantV_unit, unitV, cond_true, cond_false, Bool.not_true, Bool.not_false, List.toList_toArray]) | omega) only [c21, Try.f21, Nat.ble, cond_true, cond_false, T.puts_cons, T.puts_nil, exec_seq, exec_block, nat_beq_self, exec_region, exec_cond, exec_skip, exec_ret, exec_exit, exec_scope, runOps_cons, runOps_nil, opF_move, opF_assign, opF_ari, opF_neq, opF_eql, opF_un, opF_index, opF_indexAddr, opF_fieldAddr, opF_field, opF_build, opF_slice, opF_extract, opF_pick, opF_load, opF_alloc, opF_box, opF_buildSlice, opF_makeSlice, opF_store, opF_conv, opF_len, opF_minmax, opF_builtin, opF_call, resK, ev_tmp, evG_some, ev_int, ev_bool, ev_str, evs, evp, evo, R.ok_bind, putT_some, putT_none, T.get_set, T.get_e, binF_int, op_rem, op_quo_u32, op_xor_u32, op_neq, op_eql, op_lss, op_add_i64, op_sub_u32, op_and_u8, op_xor_u8, op_not_u32, binF_shr_u32, binF_shr_u8, op_mul_i64, op_quo_i64, op_and_u32, binF_shl_u8, wrapF_u8, wrapF_u32, mod_u8, mod_u32, cond_val, Nat.lt_irrefl, Nat.not_lt_zero, if_true, if_false, reduceIte, Nat.reduceEqDiff, Nat.reduceAdd, ne_eq, not_true_eq_false, not_false_eq_true, decide_true, decide_false, Bool.false_eq_true, Bool.not_true, Bool.not_false, sub_nil, sub_seq0, sub_seq1, sub_cond0, sub_cond1, sub_block, sub_loop, sub_scope, sub_range0, sub_range1, Option.getD_some, at_ptr, at_slc, runOps_yes, runOps_no, exec_draw, op_sub_i64, op_sub_neg, op_lss_neg, binF_str, str_add, str_neq, str_eql, takeF, resF, oneOf, pickF, extractF, cells_str, cells_int, cells_agg, bool_eql, bool_neq, op_lssI, bne_self_eq_false, beq_self_eq_true, eq_self, cells_slc, cells_func, builtin_append, ev_nilslice, ev_nilfunc, ev_nilptr, ev_nilmap, opF_makeFunc, opF_callv, callV_func, callV_yield, op_leq, op_gtr, op_geq, cast_le, cast_lt, List.nil_append, List.cons_append, List.append_nil, un_not, bf68, hst]
      with_reducible rfl
    apply W.run 20
    · intro M
      simp (config := { maxSteps := 4000000 }) (disch := first | decide +kernel | (rw [wantF_guard]; simp only [wantD_some, dstAt_zero, dstAt_succ, T.get_set, T.get_e, Nat.reduceEqDiff, if_true, if_false, wantV_bool, wantV_unit, unitV, cond_true, cond_false, Bool.not_true, Bool.not_false, List.toList_toArray]) | omega) only [c21, Try.f21, Nat.ble, cond_true, cond_false, T.puts_cons, T.puts_nil, exec_seq, exec_block, nat_beq_self, exec_region, exec_cond, exec_skip, exec_ret, exec_exit, exec_scope, runOps_cons, runOps_nil, opF_move, opF_assign, opF_ari, opF_neq, opF_eql, opF_un, opF_index, opF_indexAddr, opF_fieldAddr, opF_field, opF_build, opF_slice, opF_extract, opF_pick, opF_load, opF_alloc, opF_box, opF_buildSlice, opF_makeSlice, opF_store, opF_conv, opF_len, opF_minmax, opF_builtin, opF_call, resK, ev_tmp, evG_some, ev_int, ev_bool, ev_str, evs, evp, evo, R.ok_bind, putT_some, putT_none, T.get_set, T.get_e, binF_int, op_rem, op_quo_u32, op_xor_u32, op_neq, op_eql, op_lss, op_add_i64, op_sub_u32, op_and_u8, op_xor_u8, op_not_u32, binF_shr_u32, binF_shr_u8, op_mul_i64, op_quo_i64, op_and_u32, binF_shl_u8, wrapF_u8, wrapF_u32, mod_u8, mod_u32, cond_val, Nat.lt_irrefl, Nat.not_lt_zero, if_true, if_false, reduceIte, Nat.reduceEqDiff, Nat.reduceAdd, ne_eq, not_true_eq_false, not_false_eq_true, decide_true, decide_false, Bool.false_eq_true, Bool.not_true, Bool.not_false, sub_nil, sub_seq0, sub_seq1, sub_cond0, sub_cond1, sub_block, sub_loop, sub_scope, sub_range0, sub_range1, Option.getD_some, at_ptr, at_slc, runOps_yes, runOps_no, exec_draw, op_sub_i64, op_sub_neg, op_lss_neg, binF_str, str_add, str_neq, str_eql, takeF, resF, oneOf, pickF, extractF, cells_str, cells_int, cells_agg, bool_eql, bool_neq, op_lssI, bne_self_eq_false, beq_self_eq_true, eq_self, cells_slc, cells_func, builtin_append, ev_nilslice, ev_nilfunc, ev_nilptr, ev_nilmap, opF_makeFunc, opF_callv, callV_func, callV_yield, op_leq, op_gtr, op_geq, cast_le, cast_lt, List.nil_append, List.cons_append, List.append_nil, un_not]
      with_reducible rfl
    refine ⟨.inr rfl, C, [.agg ⟨rdV A.next⟩], rfl, ?_, rfl, ⟨by omega, x, hvx.same (hf1 _ (by omega)), ?_, ?_⟩, by omega, fun y hy => by rw [hf1 y (by omega), hf0 y hy]⟩
    · have hl := rd_load hv1
      simp only [Try.f21, resF, ev_tmp, T.get_set, T.puts_cons, T.puts_nil, Nat.reduceEqDiff, Nat.reduceAdd, if_true, if_false, evG_some, R.ok_bind, hl]
    · exact h.same (by omega) (fun h0 => by rw [hf1 q (by omega), hf0 q h0])
    · intro h0
      omega
  subst hv
  exact ⟨A', ha, hr, hn, hf⟩

/-! ### What a setting has -/
def ActsR (P : Nat → Prop) (A : Mem) (ds : List ActD) (x : Value) : Prop :=
  ∃ ls b, (x = .slice none 0 0 ∨ P b) ∧ SlcM A 39 9 b ls x ∧ ls.length = ds.length ∧ ∀ (i : Nat) (d : ActD) (l : List Value), ds[i]? = some d → ls[i]? = some l → ActR P A d l
def actsD : Nat → List UInt8 → List ActD × List UInt8
  | 0, r => ([], r)
  | n + 1, r => if r.length = 0 then ([], r) else ((actD r).1 :: (actsD n (actD r).2).1, (actsD n (actD r).2).2)
theorem und28 : ∃ d, tb1.und 28 = some d ∧ isAggD d = true := by
  have h : (tb1.und 28).map isAggD = some true := by kernel_rfl
  cases hq : tb1.und 28 with
  | none => rw [hq] at h; cases h
  | some d => rw [hq] at h; exact ⟨d, rfl, by simpa using h⟩
theorem size26 : sizeF tb1 26 = .ok 1 := by kernel_rfl
theorem zero28 : zeroF tb1 28 = .ok (.agg ⟨[.int .i64 0, .int .i64 0, .int .i64 0, .slice none 0 0]⟩) := by kernel_rfl
section
variable (b : Nat)
theorem fa28_0 : fieldAddrF tb1 28 (.pointer (some ⟨b, 0, none⟩)) 0 = .ok (.pointer (some ⟨b, 0, none⟩)) := by kernel_rfl
theorem fa28_1 : fieldAddrF tb1 28 (.pointer (some ⟨b, 0, none⟩)) 1 = .ok (.pointer (some ⟨b, 2, none⟩)) := by kernel_rfl
theorem fa28_2 : fieldAddrF tb1 28 (.pointer (some ⟨b, 0, none⟩)) 2 = .ok (.pointer (some ⟨b, 3, none⟩)) := by kernel_rfl
theorem fa25_0 : fieldAddrF tb1 25 (.pointer (some ⟨b, 0, none⟩)) 0 = .ok (.pointer (some ⟨b, 0, none⟩)) := by kernel_rfl
theorem fa25_1 : fieldAddrF tb1 25 (.pointer (some ⟨b, 0, none⟩)) 1 = .ok (.pointer (some ⟨b, 1, none⟩)) := by kernel_rfl
end

/-- Memory while a setting is read: 'bs' holds it, 'bb' the bytes that are left, 'br' their reader. -/
structure ParM (q : Nat) (A : Mem) (bs bb br lo : Nat) (l : List Value) (rem : List UInt8) (C : Mem) : Prop where
  h1 : Vals C 28 bs (.var 4) l
  h2 : Vals C 68 br (.var 2) (rdV bb)
  hr : Rd q C bb rem
  hs : A.next ≤ bs ∧ bs < bb ∧ bb < br ∧ br < lo
  h0 : q < A.next
  hn : lo ≤ C.next
  hf : ∀ y, y < A.next → C.get y = A.get y
theorem ParM.step {A : Mem} {bs bb br lo : Nat} {l : List Value} {rem rem' : List UInt8} {C C' : Mem} (h : ParM q A bs bb br lo l rem C) (hr : Rd q C' bb rem') (hk : Kp bb C C') : ParM q A bs bb br lo l rem' C' := by
  obtain ⟨s1, s2, s3, s4⟩ := h.hs
  have hn := h.hn
  have hn' := hk.1
  exact ⟨h.h1.same (hk.2 _ (by omega) (by omega)), h.h2.same (hk.2 _ (by omega) (by omega)), hr, h.hs, h.h0, by omega, fun y hy => by rw [hk.2 y (by omega) (by omega), h.hf y hy]⟩
theorem ParM.put {A : Mem} {bs bb br lo : Nat} {l : List Value} {rem : List UInt8} {C : Mem} (h : ParM q A bs bb br lo l rem C) {t : TypeId} {o : Nat} {v : Value} (hsz : sizeF tb1 t = .ok 1) (ho : o < l.length) (hv : v.cells.toList = [v]) (h1c : oneCell v = true) :
    ∃ C', storeF tb1 C t (.pointer (some ⟨bs, o, none⟩)) v = .ok C' ∧ ParM q A bs bb br lo (l.set o v) rem C' ∧ C'.next = C.next ∧ ∀ y, y ≠ bs → C'.get y = C.get y := by
  obtain ⟨C', e1, e2, e3, e4⟩ := store_vals (tb := tb1) (t := t) hsz h.h1 ho hv h1c
  obtain ⟨s1, s2, s3, s4⟩ := h.hs
  have hn := h.hn
  have h0 := h.h0
  refine ⟨C', e1, ⟨e2, h.h2.same (e4 _ (by omega)), h.hr.same (by omega) (fun y _ hy => ?_), h.hs, h.h0, by omega, fun y hy => by rw [e4 y (by omega), h.hf y hy]⟩, e3, e4⟩
  exact e4 y (by rcases hy with rfl | rfl <;> omega)

noncomputable def c9 : Code := Try.f9.body.getD .skip
noncomputable def c9b1 : Code := sub c9 [1,1,1,1,1,1,0,0,0]
theorem c9_eq : Try.f9.body = some (.seq (sub c9 [0]) (.seq (sub c9 [1,0]) (.seq (sub c9 [1,1,0]) (.seq (sub c9 [1,1,1,0]) (.seq (sub c9 [1,1,1,1,0]) (.seq (sub c9 [1,1,1,1,1,0]) (.seq (.block 0 (.loop c9b1)) (.seq (sub c9 [1,1,1,1,1,1,1,0]) (sub c9 [1,1,1,1,1,1,1,1]))))))))) := by kernel_rfl
/-- The slots. -/
def parS (x : Value) (bs br : Nat) : List (Nat × Value) := [(0, x), (2, .pointer (some ⟨bs, 0, none⟩)), (4, .pointer (some ⟨br, 0, none⟩))]
def headC (w f qu : Nat) (xa : Value) : List Value := [.int .i64 (w : Int), .int .i64 (f : Int), .int .i64 (qu : Int), xa]

set_option maxHeartbeats 4000000 in
set_option maxRecDepth 20000 in
theorem parse_head {A : Mem} {rem : List UInt8} {x : Value} (h0 : q < A.next) (h : RdS q A rem x) {K : Ex → St → Prop}
    (hK : ∀ t C bs bb br lo, ParM q A bs bb br lo (headC (1 + nx rem) (2 + nx rem.tail % 8) (nx rem.tail.tail + 256 * nx rem.tail.tail.tail) (.slice none 0 0)) rem.tail.tail.tail.tail C → Sl t (parS x bs br) →
      W tb1 (.seq (.block 0 (.loop c9b1)) (.seq (sub c9 [1,1,1,1,1,1,1,0]) (sub c9 [1,1,1,1,1,1,1,1]))) ⟨t, 56, [], C, none⟩ K) :
    W tb1 (.seq (sub c9 [0]) (.seq (sub c9 [1,0]) (.seq (sub c9 [1,1,0]) (.seq (sub c9 [1,1,1,0]) (.seq (sub c9 [1,1,1,1,0]) (.seq (sub c9 [1,1,1,1,1,0]) (.seq (.block 0 (.loop c9b1)) (.seq (sub c9 [1,1,1,1,1,1,1,0]) (sub c9 [1,1,1,1,1,1,1,1]))))))))) ⟨T.puts .e 0 [x], 56, [], A, none⟩ K := by
  have b0 := nx_lt rem
  have b1 := nx_lt rem.tail
  have b2 := nx_lt rem.tail.tail
  have b3 := nx_lt rem.tail.tail.tail
  apply W.seq
  apply W.run 20
  · intro M
    simp (config := { maxSteps := 4000000 }) (disch := first | decide +kernel | (rw [wantF_guard]; simp only [wantD_some, dstAt_zero, dstAt_succ, T.get_set, T.get_e, Nat.reduceEqDiff, if_true, if_false, wantV_bool, wantV_unit, unitV, cond_true, cond_false, Bool.not_true, Bool.not_false, List.toList_toArray]) | omega) only [c9, Try.f9, Nat.ble, cond_true, cond_false, T.puts_cons, T.puts_nil, exec_seq, exec_block, nat_beq_self, exec_region, exec_cond, exec_skip, exec_ret, exec_exit, exec_scope, runOps_cons, runOps_nil, opF_move, opF_assign, opF_ari, opF_neq, opF_eql, opF_un, opF_index, opF_indexAddr, opF_fieldAddr, opF_field, opF_build, opF_slice, opF_extract, opF_pick, opF_load, opF_alloc, opF_box, opF_buildSlice, opF_makeSlice, opF_store, opF_conv, opF_len, opF_minmax, opF_builtin, opF_call, resK, ev_tmp, evG_some, ev_int, ev_bool, ev_str, evs, evp, evo, R.ok_bind, putT_some, putT_none, T.get_set, T.get_e, binF_int, op_rem, op_quo_u32, op_xor_u32, op_neq, op_eql, op_lss, op_add_i64, op_sub_u32, op_and_u8, op_xor_u8, op_not_u32, binF_shr_u32, binF_shr_u8, op_mul_i64, op_quo_i64, op_and_u32, binF_shl_u8, wrapF_u8, wrapF_u32, mod_u8, mod_u32, cond_val, Nat.lt_irrefl, Nat.not_lt_zero, if_true, if_false, reduceIte, Nat.reduceEqDiff, Nat.reduceAdd, ne_eq, not_true_eq_false, not_false_eq_true, decide_true, decide_false, Bool.false_eq_true, Bool.not_true, Bool.not_false, sub_nil, sub_seq0, sub_seq1, sub_cond0, sub_cond1, sub_block, sub_loop, sub_scope, sub_range0, sub_range1, Option.getD_some, at_ptr, at_slc, runOps_yes, runOps_no, exec_draw, op_sub_i64, op_sub_neg, op_lss_neg, binF_str, str_add, str_neq, str_eql, takeF, resF, oneOf, pickF, extractF, cells_str, cells_int, cells_agg, bool_eql, bool_neq, op_lssI, bne_self_eq_false, beq_self_eq_true, eq_self, cells_slc, cells_func, builtin_append, ev_nilslice, ev_nilfunc, ev_nilptr, ev_nilmap, opF_makeFunc, opF_callv, callV_func, callV_yield, op_leq, op_gtr, op_geq, cast_le, cast_lt, List.nil_append, List.cons_append, List.append_nil, un_not, zero28]
    with_reducible rfl
  have hvs : Vals (A.alloc (rowOb 28 [.int .i64 0, .int .i64 0, .int .i64 0, .slice none 0 0])) 28 A.next (.var 4) [.int .i64 0, .int .i64 0, .int .i64 0, .slice none 0 0] := Go.Am.vals_new A 28 _
  have hr0 : RdS q (A.alloc (rowOb 28 [.int .i64 0, .int .i64 0, .int .i64 0, .slice none 0 0])) rem x := h.same (by rw [next_alloc]; omega) (fun h0 => get_alloc_ne (by omega))
  have hn0 : (A.alloc (rowOb 28 [.int .i64 0, .int .i64 0, .int .i64 0, .slice none 0 0])).next = A.next + 1 := next_alloc _ _
  have hf0 : ∀ y, y < A.next → (A.alloc (rowOb 28 [.int .i64 0, .int .i64 0, .int .i64 0, .slice none 0 0])).get y = A.get y := fun y hy => get_alloc_ne (by omega)
  revert hvs hr0 hn0 hf0
  generalize A.alloc (rowOb 28 [.int .i64 0, .int .i64 0, .int .i64 0, .slice none 0 0]) = B
  intro hvs hr0 hn0 hf0
  obtain ⟨C, ⟨g, hg⟩, hrC, hnC, hfC⟩ := run_reading hr0
  have hvr : Vals (C.alloc (rowOb 68 [.nilFunc, .nilFunc])) 68 C.next (.var 2) [.nilFunc, .nilFunc] := Go.Am.vals_new C 68 _
  obtain ⟨D, hst, hv1, hn1, hf1⟩ := store_all (tb := tb1) (t := 68) (by rw [size68]; rfl) hvr (show (rdV B.next).length = _ from rfl) (by simp) (rdV_one B.next)
  have hnA : (C.alloc (rowOb 68 [.nilFunc, .nilFunc])).next = C.next + 1 := next_alloc _ _
  have hfD : ∀ y, y < C.next → D.get y = C.get y := fun y hy => by rw [hf1 y (by omega), get_alloc_ne (by omega)]
  have hM : ParM q A A.next B.next C.next (C.next + 1) [.int .i64 0, .int .i64 0, .int .i64 0, .slice none 0 0] rem D :=
    ⟨(hvs.same (hfC _ (by omega))).same (hfD _ (by omega)), hv1, hrC.same (by omega) (fun y hy _ => hfD y hy), ⟨by omega, by omega, by omega, by omega⟩, h0, by omega, fun y hy => by rw [hfD y (by omega), hfC y (by omega), hf0 y hy]⟩
  apply W.seq
  apply W.runG (g) 20
  · intro M hM
    simp (config := { maxSteps := 4000000 }) (disch := first | decide +kernel | (rw [wantF_guard]; simp only [wantD_some, dstAt_zero, dstAt_succ, T.get_set, T.get_e, Nat.reduceEqDiff, if_true, if_false, wantV_bool, wantV_unit, unitV, cond_true, cond_false, Bool.not_true, Bool.not_false, List.toList_toArray]) | omega) only [c9, Try.f9, Nat.ble, cond_true, cond_false, T.puts_cons, T.puts_nil, exec_seq, exec_block, nat_beq_self, exec_region, exec_cond, exec_skip, exec_ret, exec_exit, exec_scope, runOps_cons, runOps_nil, opF_move, opF_assign, opF_ari, opF_neq, opF_eql, opF_un, opF_index, opF_indexAddr, opF_fieldAddr, opF_field, opF_build, opF_slice, opF_extract, opF_pick, opF_load, opF_alloc, opF_box, opF_buildSlice, opF_makeSlice, opF_store, opF_conv, opF_len, opF_minmax, opF_builtin, opF_call, resK, ev_tmp, evG_some, ev_int, ev_bool, ev_str, evs, evp, evo, R.ok_bind, putT_some, putT_none, T.get_set, T.get_e, binF_int, op_rem, op_quo_u32, op_xor_u32, op_neq, op_eql, op_lss, op_add_i64, op_sub_u32, op_and_u8, op_xor_u8, op_not_u32, binF_shr_u32, binF_shr_u8, op_mul_i64, op_quo_i64, op_and_u32, binF_shl_u8, wrapF_u8, wrapF_u32, mod_u8, mod_u32, cond_val, Nat.lt_irrefl, Nat.not_lt_zero, if_true, if_false, reduceIte, Nat.reduceEqDiff, Nat.reduceAdd, ne_eq, not_true_eq_false, not_false_eq_true, decide_true, decide_false, Bool.false_eq_true, Bool.not_true, Bool.not_false, sub_nil, sub_seq0, sub_seq1, sub_cond0, sub_cond1, sub_block, sub_loop, sub_scope, sub_range0, sub_range1, Option.getD_some, at_ptr, at_slc, runOps_yes, runOps_no, exec_draw, op_sub_i64, op_sub_neg, op_lss_neg, binF_str, str_add, str_neq, str_eql, takeF, resF, oneOf, pickF, extractF, cells_str, cells_int, cells_agg, bool_eql, bool_neq, op_lssI, bne_self_eq_false, beq_self_eq_true, eq_self, cells_slc, cells_func, builtin_append, ev_nilslice, ev_nilfunc, ev_nilptr, ev_nilmap, opF_makeFunc, opF_callv, callV_func, callV_yield, op_leq, op_gtr, op_geq, cast_le, cast_lt, List.nil_append, List.cons_append, List.append_nil, un_not, hg, zero68, hst]
    with_reducible rfl
  obtain ⟨D1, ⟨g1, hg1⟩, hr1, hk1⟩ := run_next hM.hr
  have hnv1 := next_val hM.h2
  obtain ⟨E1, hst1, hM1, -, -⟩ := (hM.step hr1 hk1).put (t := 3) (o := 0) (v := .int .i64 ((1 + nx rem : Nat) : Int)) size3 (by simp) rfl rfl
  apply W.seq
  apply W.runG (g1) 20
  · intro M hM
    simp (config := { maxSteps := 4000000 }) (disch := first | decide +kernel | (rw [wantF_guard]; simp only [wantD_some, dstAt_zero, dstAt_succ, T.get_set, T.get_e, Nat.reduceEqDiff, if_true, if_false, wantV_bool, wantV_unit, unitV, cond_true, cond_false, Bool.not_true, Bool.not_false, List.toList_toArray]) | omega) only [c9, Try.f9, Nat.ble, cond_true, cond_false, T.puts_cons, T.puts_nil, exec_seq, exec_block, nat_beq_self, exec_region, exec_cond, exec_skip, exec_ret, exec_exit, exec_scope, runOps_cons, runOps_nil, opF_move, opF_assign, opF_ari, opF_neq, opF_eql, opF_un, opF_index, opF_indexAddr, opF_fieldAddr, opF_field, opF_build, opF_slice, opF_extract, opF_pick, opF_load, opF_alloc, opF_box, opF_buildSlice, opF_makeSlice, opF_store, opF_conv, opF_len, opF_minmax, opF_builtin, opF_call, resK, ev_tmp, evG_some, ev_int, ev_bool, ev_str, evs, evp, evo, R.ok_bind, putT_some, putT_none, T.get_set, T.get_e, binF_int, op_rem, op_quo_u32, op_xor_u32, op_neq, op_eql, op_lss, op_add_i64, op_sub_u32, op_and_u8, op_xor_u8, op_not_u32, binF_shr_u32, binF_shr_u8, op_mul_i64, op_quo_i64, op_and_u32, binF_shl_u8, wrapF_u8, wrapF_u32, mod_u8, mod_u32, cond_val, Nat.lt_irrefl, Nat.not_lt_zero, if_true, if_false, reduceIte, Nat.reduceEqDiff, Nat.reduceAdd, ne_eq, not_true_eq_false, not_false_eq_true, decide_true, decide_false, Bool.false_eq_true, Bool.not_true, Bool.not_false, sub_nil, sub_seq0, sub_seq1, sub_cond0, sub_cond1, sub_block, sub_loop, sub_scope, sub_range0, sub_range1, Option.getD_some, at_ptr, at_slc, runOps_yes, runOps_no, exec_draw, op_sub_i64, op_sub_neg, op_lss_neg, binF_str, str_add, str_neq, str_eql, takeF, resF, oneOf, pickF, extractF, cells_str, cells_int, cells_agg, bool_eql, bool_neq, op_lssI, bne_self_eq_false, beq_self_eq_true, eq_self, cells_slc, cells_func, builtin_append, ev_nilslice, ev_nilfunc, ev_nilptr, ev_nilmap, opF_makeFunc, opF_callv, callV_func, callV_yield, op_leq, op_gtr, op_geq, cast_le, cast_lt, List.nil_append, List.cons_append, List.append_nil, un_not, fa68_0, hnv1, hg1, fa28_0, fa25_0, hst1]
    with_reducible rfl
  obtain ⟨D2, ⟨g2, hg2⟩, hr2, hk2⟩ := run_next hM1.hr
  have hnv2 := next_val hM1.h2
  obtain ⟨E2, hst2, hM2, -, -⟩ := (hM1.step hr2 hk2).put (t := 3) (o := 1) (v := .int .i64 ((2 + nx rem.tail % 8 : Nat) : Int)) size3 (by simp) rfl rfl
  apply W.seq
  apply W.runG (g2) 20
  · intro M hM
    simp (config := { maxSteps := 4000000 }) (disch := first | decide +kernel | (rw [wantF_guard]; simp only [wantD_some, dstAt_zero, dstAt_succ, T.get_set, T.get_e, Nat.reduceEqDiff, if_true, if_false, wantV_bool, wantV_unit, unitV, cond_true, cond_false, Bool.not_true, Bool.not_false, List.toList_toArray]) | omega) only [c9, Try.f9, Nat.ble, cond_true, cond_false, T.puts_cons, T.puts_nil, exec_seq, exec_block, nat_beq_self, exec_region, exec_cond, exec_skip, exec_ret, exec_exit, exec_scope, runOps_cons, runOps_nil, opF_move, opF_assign, opF_ari, opF_neq, opF_eql, opF_un, opF_index, opF_indexAddr, opF_fieldAddr, opF_field, opF_build, opF_slice, opF_extract, opF_pick, opF_load, opF_alloc, opF_box, opF_buildSlice, opF_makeSlice, opF_store, opF_conv, opF_len, opF_minmax, opF_builtin, opF_call, resK, ev_tmp, evG_some, ev_int, ev_bool, ev_str, evs, evp, evo, R.ok_bind, putT_some, putT_none, T.get_set, T.get_e, binF_int, op_rem, op_quo_u32, op_xor_u32, op_neq, op_eql, op_lss, op_add_i64, op_sub_u32, op_and_u8, op_xor_u8, op_not_u32, binF_shr_u32, binF_shr_u8, op_mul_i64, op_quo_i64, op_and_u32, binF_shl_u8, wrapF_u8, wrapF_u32, mod_u8, mod_u32, cond_val, Nat.lt_irrefl, Nat.not_lt_zero, if_true, if_false, reduceIte, Nat.reduceEqDiff, Nat.reduceAdd, ne_eq, not_true_eq_false, not_false_eq_true, decide_true, decide_false, Bool.false_eq_true, Bool.not_true, Bool.not_false, sub_nil, sub_seq0, sub_seq1, sub_cond0, sub_cond1, sub_block, sub_loop, sub_scope, sub_range0, sub_range1, Option.getD_some, at_ptr, at_slc, runOps_yes, runOps_no, exec_draw, op_sub_i64, op_sub_neg, op_lss_neg, binF_str, str_add, str_neq, str_eql, takeF, resF, oneOf, pickF, extractF, cells_str, cells_int, cells_agg, bool_eql, bool_neq, op_lssI, bne_self_eq_false, beq_self_eq_true, eq_self, cells_slc, cells_func, builtin_append, ev_nilslice, ev_nilfunc, ev_nilptr, ev_nilmap, opF_makeFunc, opF_callv, callV_func, callV_yield, op_leq, op_gtr, op_geq, cast_le, cast_lt, List.nil_append, List.cons_append, List.append_nil, un_not, fa68_0, hnv2, hg2, fa28_0, fa25_1, hst2]
    with_reducible rfl
  obtain ⟨D3, ⟨g3, hg3⟩, hr3, hk3⟩ := run_next hM2.hr
  have hnv3 := next_val hM2.h2
  obtain ⟨E3, hst3, hM3, -, -⟩ := (hM2.step hr3 hk3).put (t := 3) (o := 2) (v := .int .i64 ((nx rem.tail.tail : Nat) : Int)) size3 (by simp) rfl rfl
  apply W.seq
  apply W.runG (g3) 20
  · intro M hM
    simp (config := { maxSteps := 4000000 }) (disch := first | decide +kernel | (rw [wantF_guard]; simp only [wantD_some, dstAt_zero, dstAt_succ, T.get_set, T.get_e, Nat.reduceEqDiff, if_true, if_false, wantV_bool, wantV_unit, unitV, cond_true, cond_false, Bool.not_true, Bool.not_false, List.toList_toArray]) | omega) only [c9, Try.f9, Nat.ble, cond_true, cond_false, T.puts_cons, T.puts_nil, exec_seq, exec_block, nat_beq_self, exec_region, exec_cond, exec_skip, exec_ret, exec_exit, exec_scope, runOps_cons, runOps_nil, opF_move, opF_assign, opF_ari, opF_neq, opF_eql, opF_un, opF_index, opF_indexAddr, opF_fieldAddr, opF_field, opF_build, opF_slice, opF_extract, opF_pick, opF_load, opF_alloc, opF_box, opF_buildSlice, opF_makeSlice, opF_store, opF_conv, opF_len, opF_minmax, opF_builtin, opF_call, resK, ev_tmp, evG_some, ev_int, ev_bool, ev_str, evs, evp, evo, R.ok_bind, putT_some, putT_none, T.get_set, T.get_e, binF_int, op_rem, op_quo_u32, op_xor_u32, op_neq, op_eql, op_lss, op_add_i64, op_sub_u32, op_and_u8, op_xor_u8, op_not_u32, binF_shr_u32, binF_shr_u8, op_mul_i64, op_quo_i64, op_and_u32, binF_shl_u8, wrapF_u8, wrapF_u32, mod_u8, mod_u32, cond_val, Nat.lt_irrefl, Nat.not_lt_zero, if_true, if_false, reduceIte, Nat.reduceEqDiff, Nat.reduceAdd, ne_eq, not_true_eq_false, not_false_eq_true, decide_true, decide_false, Bool.false_eq_true, Bool.not_true, Bool.not_false, sub_nil, sub_seq0, sub_seq1, sub_cond0, sub_cond1, sub_block, sub_loop, sub_scope, sub_range0, sub_range1, Option.getD_some, at_ptr, at_slc, runOps_yes, runOps_no, exec_draw, op_sub_i64, op_sub_neg, op_lss_neg, binF_str, str_add, str_neq, str_eql, takeF, resF, oneOf, pickF, extractF, cells_str, cells_int, cells_agg, bool_eql, bool_neq, op_lssI, bne_self_eq_false, beq_self_eq_true, eq_self, cells_slc, cells_func, builtin_append, ev_nilslice, ev_nilfunc, ev_nilptr, ev_nilmap, opF_makeFunc, opF_callv, callV_func, callV_yield, op_leq, op_gtr, op_geq, cast_le, cast_lt, List.nil_append, List.cons_append, List.append_nil, un_not, fa68_0, hnv3, hg3, fa28_1, hst3]
    with_reducible rfl
  obtain ⟨D4, ⟨g4, hg4⟩, hr4, hk4⟩ := run_next hM3.hr
  have hnv4 := next_val hM3.h2
  have hM4' := hM3.step hr4 hk4
  have hq1 : loadF tb1 E3.get 3 (.pointer (some ⟨A.next, 2, none⟩)) = .ok (.int .i64 ((nx rem.tail.tail : Nat) : Int)) := load_vals und3 rfl hM3.h1 rfl
  have hq2 : loadF tb1 D4.get 3 (.pointer (some ⟨A.next, 2, none⟩)) = .ok (.int .i64 ((nx rem.tail.tail : Nat) : Int)) := load_vals und3 rfl hM4'.h1 rfl
  have hself := sameV_int .i64 (nx rem.tail.tail) rfl
  obtain ⟨E4, hst4, hM4, -, -⟩ := hM4'.put (t := 3) (o := 2) (v := .int .i64 ((nx rem.tail.tail + 256 * nx rem.tail.tail.tail : Nat) : Int)) size3 (by simp) rfl rfl
  apply W.seq
  apply W.runG (g4) 20
  · intro M hM
    simp (config := { maxSteps := 4000000 }) (disch := first | decide +kernel | (rw [wantF_guard]; simp only [wantD_some, dstAt_zero, dstAt_succ, T.get_set, T.get_e, Nat.reduceEqDiff, if_true, if_false, wantV_bool, wantV_unit, unitV, cond_true, cond_false, Bool.not_true, Bool.not_false, List.toList_toArray]) | omega) only [c9, Try.f9, Nat.ble, cond_true, cond_false, T.puts_cons, T.puts_nil, exec_seq, exec_block, nat_beq_self, exec_region, exec_cond, exec_skip, exec_ret, exec_exit, exec_scope, runOps_cons, runOps_nil, opF_move, opF_assign, opF_ari, opF_neq, opF_eql, opF_un, opF_index, opF_indexAddr, opF_fieldAddr, opF_field, opF_build, opF_slice, opF_extract, opF_pick, opF_load, opF_alloc, opF_box, opF_buildSlice, opF_makeSlice, opF_store, opF_conv, opF_len, opF_minmax, opF_builtin, opF_call, resK, ev_tmp, evG_some, ev_int, ev_bool, ev_str, evs, evp, evo, R.ok_bind, putT_some, putT_none, T.get_set, T.get_e, binF_int, op_rem, op_quo_u32, op_xor_u32, op_neq, op_eql, op_lss, op_add_i64, op_sub_u32, op_and_u8, op_xor_u8, op_not_u32, binF_shr_u32, binF_shr_u8, op_mul_i64, op_quo_i64, op_and_u32, binF_shl_u8, wrapF_u8, wrapF_u32, mod_u8, mod_u32, cond_val, Nat.lt_irrefl, Nat.not_lt_zero, if_true, if_false, reduceIte, Nat.reduceEqDiff, Nat.reduceAdd, ne_eq, not_true_eq_false, not_false_eq_true, decide_true, decide_false, Bool.false_eq_true, Bool.not_true, Bool.not_false, sub_nil, sub_seq0, sub_seq1, sub_cond0, sub_cond1, sub_block, sub_loop, sub_scope, sub_range0, sub_range1, Option.getD_some, at_ptr, at_slc, runOps_yes, runOps_no, exec_draw, op_sub_i64, op_sub_neg, op_lss_neg, binF_str, str_add, str_neq, str_eql, takeF, resF, oneOf, pickF, extractF, cells_str, cells_int, cells_agg, bool_eql, bool_neq, op_lssI, bne_self_eq_false, beq_self_eq_true, eq_self, cells_slc, cells_func, builtin_append, ev_nilslice, ev_nilfunc, ev_nilptr, ev_nilmap, opF_makeFunc, opF_callv, callV_func, callV_yield, op_leq, op_gtr, op_geq, cast_le, cast_lt, List.nil_append, List.cons_append, List.append_nil, un_not, runD_end, runD_P, runD_Rd, runD_Al, runD_L, runD_gno, runD_gP, runD_gRd, runD_gAl, runD_gL, sameV_str, selF_nil, selF_yes, selF_no, selR_nil, selR_yes, selR_no, rereadM_nil, rereadM_cons, rereadR_nil, rereadR_cons, reread_load, rereadV_eq, rOp_load, hide_nil, backF_nil, List.map_nil, Bool.and_true, Bool.true_and, Bool.and_self, exec_float [(1, 4)], fa28_1, hq1, hq2, hself, fa68_0, hnv4, hg4, hst4]
    with_reducible rfl
  refine hK _ _ _ _ _ _ hM4 ?_
  unfold parS; simp only [Sl_cons, Sl_nil, T.get_set, T.puts_cons, T.puts_nil, Nat.reduceEqDiff, Nat.reduceAdd, if_true, if_false, and_true, true_and]
end Go.Proofs.Ytmhldlnlgjpkaaa.scr

/-
  Script: a setting.
-/
namespace Go.Proofs.Ytmhldlnlgjpkaaa.scr
open Go.Am
variable {q : Nat}
set_option linter.unusedSimpArgs false

theorem wordD_rest (r : List UInt8) : (wordD r).2.length ≤ r.length := by
  unfold wordD
  split <;> simp only [List.length_tail, List.length_drop] <;> omega
theorem armD_rest (k : Nat) (r : List UInt8) : (armD k r).2.length ≤ r.length := by
  unfold armD
  split <;> simp only [List.length_tail] <;> omega
theorem moreD_rest (k : Nat) (r : List UInt8) : (moreD k r).2.2.2.length ≤ r.length := by
  unfold moreD
  split
  · simp only [List.length_tail]; omega
  · split
    · simp only [List.length_tail]; omega
    · simp
theorem openRest_len (r : List UInt8) : (openRest r).length ≤ r.length := by unfold openRest; simp only [List.length_drop]; omega
theorem opensRest_len (r : List UInt8) : ∀ k, (opensRest r k).length ≤ r.length
  | 0 => Nat.le_refl _
  | k + 1 => Nat.le_trans (openRest_len _) (opensRest_len r k)
theorem stopD_rest (c : Bool) (r : List UInt8) : (stopD c r).2.2.length ≤ r.length := by
  unfold stopD
  split
  · refine Nat.le_trans (opensRest_len _ _) ?_
    simp only [List.length_drop, List.length_tail]; omega
  · simp
theorem actD_rest (r : List UInt8) : (actD r).2.length ≤ r.length := by
  show (stopD _ _).2.2.length ≤ _
  refine Nat.le_trans (stopD_rest _ _) (Nat.le_trans (moreD_rest _ _) (Nat.le_trans (wordD_rest _) (Nat.le_trans (armD_rest _ _) ?_)))
  simp only [List.length_tail]; omega
theorem actsD_rest : ∀ n r, (actsD n r).2.length ≤ r.length
  | 0, r => Nat.le_refl _
  | n + 1, r => by
    unfold actsD
    split
    · exact Nat.le_refl _
    · exact Nat.le_trans (actsD_rest n _) (actD_rest r)
theorem actsD_nil (n : Nat) {r : List UInt8} (h : r.length = 0) : actsD n r = ([], r) := by
  cases n with
  | zero => rfl
  | succ n => unfold actsD; rw [if_pos h]
theorem actsD_step (n : Nat) {r : List UInt8} (h : r.length ≠ 0) : actsD (n + 1) r = ((actD r).1 :: (actsD n (actD r).2).1, (actsD n (actD r).2).2) := by
  rw [actsD, if_neg h]
theorem actsD_len : ∀ n r, (actsD n r).1.length ≤ n
  | 0, r => by simp [actsD]
  | n + 1, r => by
    unfold actsD
    split
    · simp
    · simp only [List.length_cons]; exact Nat.succ_le_succ (actsD_len n _)

theorem ParM.grow {A : Mem} {bs bb br lo : Nat} {l : List Value} {rem : List UInt8} {C C' : Mem} (h : ParM q A bs bb br lo l rem C) (hn : C.next ≤ C'.next) (hg : ∀ y, y < lo → C'.get y = C.get y) : ParM q A bs bb br lo l rem C' := by
  obtain ⟨s1, s2, s3, s4⟩ := h.hs
  have hn0 := h.hn
  have h0 := h.h0
  exact ⟨h.h1.same (hg _ (by omega)), h.h2.same (hg _ (by omega)), h.hr.same hn (fun y _ hy => hg y (by rcases hy with rfl | rfl <;> omega)), h.hs, h.h0, by omega, fun y hy => by rw [hg y (by omega), h.hf y hy]⟩
theorem bs26 (a0 a1 a2 a3 a4 a5 a6 a7 a8 : Value) : buildSliceF tb1 26 1 [(0, .agg ⟨[a0, a1, a2, a3, a4, a5, a6, a7, a8]⟩)] = .ok (rowOb 39 [a0, a1, a2, a3, a4, a5, a6, a7, a8], .slc 1 2) := by kernel_rfl
theorem zc39 : ∃ z, zcellsF tb1 39 = .ok (9, z) := ⟨_, by unfold zcellsF; rw [zero39, R.ok_bind, size39]; rfl⟩
theorem ty39 : ∃ i, tb1.ty.get 39 = some i ∧ 0 < i.bytes ∧ i.bytes ≤ 65536 := by
  have h : ((tb1.ty.get 39).map fun i => decide (0 < i.bytes) && decide (i.bytes ≤ 65536)) = some true := by kernel_rfl
  cases hq : tb1.ty.get 39 with
  | none => rw [hq] at h; cases h
  | some i =>
    rw [hq] at h
    simp only [Option.map_some, Option.some.injEq, Bool.and_eq_true, decide_eq_true_eq] at h
    exact ⟨i, rfl, h⟩
theorem sameV_head {w f qu : Nat} {xa : Value} (h : ∀ d, sameV (d + 1) xa xa = true) : sameV 100 (.agg ⟨headC w f qu xa⟩) (.agg ⟨headC w f qu xa⟩) = true := by
  have h1 : ∀ d (n : Nat), sameV (d + 1) (.int .i64 (n : Int)) (.int .i64 (n : Int)) = true := fun d n => by
    rw [sameV]
    simp only [ieqF_iff]
    simp [kindEq]
  show sameV (98 + 2) _ _ = true
  rw [sameV]
  simp [headC, h1, h]
theorem SlcM.self {A : Mem} {e : TypeId} {n b : Nat} {ls : List (List Value)} {x : Value} (h : SlcM A e n b ls x) (d : Nat) : sameV (d + 1) x x = true := by
  rcases h with ⟨rfl, -⟩ | ⟨k, c, rfl, -⟩
  · simp [sameV]
  · simp [sameV, sameA, sameN]

set_option maxHeartbeats 4000000 in
set_option maxRecDepth 20000 in
theorem parse_acts {A : Mem} {bs bb br lo w f qu : Nat} {rem : List UInt8} {x : Value} {t : T Value} {C : Mem} {K : Ex → St → Prop} (hM : ParM q A bs bb br lo (headC w f qu (.slice none 0 0)) rem C) (hp : Sl t (parS x bs br))
    (hK : ∀ t' C' xa, ParM q A bs bb br lo (headC w f qu xa) (actsD 60 rem).2 C' → ActsR (fun c => lo ≤ c) C' (actsD 60 rem).1 xa → Sl t' (parS x bs br) → K (.exit 0) ⟨t', 56, [], C', none⟩) : W tb1 (.loop c9b1) ⟨t, 56, [], C, none⟩ K := by
  refine W.up 60 (fun i t C => ∃ xa ls bA r ds, ParM q A bs bb br lo (headC w f qu xa) r C ∧ SlcM C 39 9 bA ls xa ∧ (xa = .slice none 0 0 ∨ lo ≤ bA) ∧ ls.length = i ∧ ds.length = i ∧
    (∀ (j : Nat) (d : ActD) (l : List Value), ds[j]? = some d → ls[j]? = some l → ActR (fun c => lo ≤ c ∧ (xa = .slice none 0 0 ∨ c ≠ bA)) C d l) ∧ (ds ++ (actsD (60 - i) r).1, (actsD (60 - i) r).2) = actsD 60 rem ∧ Sl t (parS x bs br)) ?_ (Nat.zero_le _) ⟨.slice none 0 0, [], 0, rem, [], hM, SlcM.nil _ _ _ _, .inl rfl, rfl, rfl, fun j d l hd _ => by simp at hd, rfl, hp⟩
  rintro i t C hi ⟨xa, ls, bA, r, ds, hM, hx, hb, hls, hds, hall, htot, hp⟩
  have hp' := hp
  obtain ⟨g0, g2, g4, -⟩ := hp'
  have hla : loadF tb1 C.get 26 (.pointer (some ⟨bs, 3, none⟩)) = .ok xa := load_vals und26 rfl hM.h1 rfl
  have hlen := hx.len (tb := tb1) (t := 26) und26
  obtain ⟨gl, hgl⟩ := run_left hM.hr
  have hlv := left_val hM.h2
  obtain ⟨s1, s2, s3, s4⟩ := hM.hs
  have hlo := hM.hn
  have fin : ActsR (fun c => lo ≤ c) C ds xa := ⟨ls, bA, hb, hx, by omega, fun j d l hd hl => (hall j d l hd hl).same (Nat.le_refl _) (fun c hc _ => ⟨hc.1, rfl⟩)⟩
  by_cases hlt : i < 60
  · by_cases hr0 : r.length = 0
    · have e := actsD_nil (60 - i) hr0
      rw [e, List.append_nil] at htot
      have n0 : ¬ 0 < r.length := by omega
      apply W.runG (gl) 20
      · intro M hM
        simp (config := { maxSteps := 4000000 }) (disch := first | decide +kernel | (rw [wantF_guard]; simp only [wantD_some, dstAt_zero, dstAt_succ, T.get_set, T.get_e, Nat.reduceEqDiff, if_true, if_false, wantV_bool, wantV_unit, unitV, cond_true, cond_false, Bool.not_true, Bool.not_false, List.toList_toArray]) | omega) only [c9b1, c9, Try.f9, Nat.ble, cond_true, cond_false, T.puts_cons, T.puts_nil, exec_seq, exec_block, nat_beq_self, exec_region, exec_cond, exec_skip, exec_ret, exec_exit, exec_scope, runOps_cons, runOps_nil, opF_move, opF_assign, opF_ari, opF_neq, opF_eql, opF_un, opF_index, opF_indexAddr, opF_fieldAddr, opF_field, opF_build, opF_slice, opF_extract, opF_pick, opF_load, opF_alloc, opF_box, opF_buildSlice, opF_makeSlice, opF_store, opF_conv, opF_len, opF_minmax, opF_builtin, opF_call, resK, ev_tmp, evG_some, ev_int, ev_bool, ev_str, evs, evp, evo, R.ok_bind, putT_some, putT_none, T.get_set, T.get_e, binF_int, op_rem, op_quo_u32, op_xor_u32, op_neq, op_eql, op_lss, op_add_i64, op_sub_u32, op_and_u8, op_xor_u8, op_not_u32, binF_shr_u32, binF_shr_u8, op_mul_i64, op_quo_i64, op_and_u32, binF_shl_u8, wrapF_u8, wrapF_u32, mod_u8, mod_u32, cond_val, Nat.lt_irrefl, Nat.not_lt_zero, if_true, if_false, reduceIte, Nat.reduceEqDiff, Nat.reduceAdd, ne_eq, not_true_eq_false, not_false_eq_true, decide_true, decide_false, Bool.false_eq_true, Bool.not_true, Bool.not_false, sub_nil, sub_seq0, sub_seq1, sub_cond0, sub_cond1, sub_block, sub_loop, sub_scope, sub_range0, sub_range1, Option.getD_some, at_ptr, at_slc, runOps_yes, runOps_no, exec_draw, op_sub_i64, op_sub_neg, op_lss_neg, binF_str, str_add, str_neq, str_eql, takeF, resF, oneOf, pickF, extractF, cells_str, cells_int, cells_agg, bool_eql, bool_neq, op_lssI, bne_self_eq_false, beq_self_eq_true, eq_self, cells_slc, cells_func, builtin_append, ev_nilslice, ev_nilfunc, ev_nilptr, ev_nilmap, opF_makeFunc, opF_callv, callV_func, callV_yield, op_leq, op_gtr, op_geq, cast_le, cast_lt, List.nil_append, List.cons_append, List.append_nil, un_not, g2, g4, fa28_2, hla, hlen, hls, hlt, fa68_1, hlv, hgl, n0]
        with_reducible rfl
      rw [← htot] at hK
      exact hK _ _ xa hM fin (by unfold parS; simp only [Sl_cons, Sl_nil, T.get_set, T.puts_cons, T.puts_nil, Nat.reduceEqDiff, Nat.reduceAdd, if_true, if_false, and_true, true_and, g0, g2, g4])
    · have p0 : 0 < r.length := by omega
      obtain ⟨l, C1, ⟨g, hg⟩, hA1, hr1, hk1⟩ := run_act hM.hr
      have hM1 := hM.step hr1 hk1
      have hla1 : loadF tb1 C1.get 26 (.pointer (some ⟨bs, 3, none⟩)) = .ok xa := load_vals und26 rfl hM1.h1 rfl
      have hrl := rd_load hM.h2
      have hself := SlcM.self hx 99
      obtain ⟨hl9, hl1⟩ := hA1.cells
      have hbsl : buildSliceF tb1 26 1 [(0, .agg ⟨l⟩)] = .ok (rowOb 39 l, .slc 1 2) := by
        obtain ⟨xs, xo, e, _⟩ := hA1
        rw [e]; exact bs26 _ _ _ _ _ _ _ _ _
      have hn1 := hk1.1
      have hbl := SlcM.lt hx
      have hx1 : SlcM C1 39 9 bA ls xa := by
        rcases hb with he | hb2
        · subst he
          rcases hx with hx | ⟨k, c, hx, _⟩
          · exact .inl hx
          · cases hx
        · exact hx.same hn1 (fun hl => hk1.2 bA hl (by omega))
      have hn2 : (C1.alloc (rowOb 39 l)).next = C1.next + 1 := next_alloc _ _
      obtain ⟨ti, ht1, ht2, ht3⟩ := ty39
      obtain ⟨z, hz⟩ := zc39
      have hx2 : SlcM (C1.alloc (rowOb 39 l)) 39 9 bA ls xa := hx1.same (by omega) (fun hl => get_alloc_ne (by omega))
      obtain ⟨xa', C3, happ, hs3, hn3, hf3⟩ := hx2.append (tb := tb1) (st := 26) (xt := 26) und26 und26 hz ht1 ht2 ht3 (by omega) (by omega) (by omega) (get_alloc_self C1 _) hl9 hl1
      have hfr : ∀ y, (y = bA → xa = .slice none 0 0) → y < C1.next → C3.get y = C1.get y := fun y h1 h2 => by rw [hf3 y h1 (by omega), get_alloc_ne (by omega)]
      have hM3 : ParM q A bs bb br lo (headC w f qu xa) (actD r).2 C3 := hM1.grow (by omega) (fun y hy => hfr y (fun e => by rcases hb with he | hb2; exact he; omega) (by omega))
      obtain ⟨C4, hst4, hM4, hn4, hf4⟩ := hM3.put (t := 26) (o := 3) (v := xa') size26 (by simp [headC]) (SlcM.cells hs3).1 (SlcM.cells hs3).2.1
      apply W.runG ((gl+g)) 20
      · intro M hM
        simp (config := { maxSteps := 4000000 }) (disch := first | decide +kernel | (rw [wantF_guard]; simp only [wantD_some, dstAt_zero, dstAt_succ, T.get_set, T.get_e, Nat.reduceEqDiff, if_true, if_false, wantV_bool, wantV_unit, unitV, cond_true, cond_false, Bool.not_true, Bool.not_false, List.toList_toArray]) | omega) only [c9b1, c9, Try.f9, Nat.ble, cond_true, cond_false, T.puts_cons, T.puts_nil, exec_seq, exec_block, nat_beq_self, exec_region, exec_cond, exec_skip, exec_ret, exec_exit, exec_scope, runOps_cons, runOps_nil, opF_move, opF_assign, opF_ari, opF_neq, opF_eql, opF_un, opF_index, opF_indexAddr, opF_fieldAddr, opF_field, opF_build, opF_slice, opF_extract, opF_pick, opF_load, opF_alloc, opF_box, opF_buildSlice, opF_makeSlice, opF_store, opF_conv, opF_len, opF_minmax, opF_builtin, opF_call, resK, ev_tmp, evG_some, ev_int, ev_bool, ev_str, evs, evp, evo, R.ok_bind, putT_some, putT_none, T.get_set, T.get_e, binF_int, op_rem, op_quo_u32, op_xor_u32, op_neq, op_eql, op_lss, op_add_i64, op_sub_u32, op_and_u8, op_xor_u8, op_not_u32, binF_shr_u32, binF_shr_u8, op_mul_i64, op_quo_i64, op_and_u32, binF_shl_u8, wrapF_u8, wrapF_u32, mod_u8, mod_u32, cond_val, Nat.lt_irrefl, Nat.not_lt_zero, if_true, if_false, reduceIte, Nat.reduceEqDiff, Nat.reduceAdd, ne_eq, not_true_eq_false, not_false_eq_true, decide_true, decide_false, Bool.false_eq_true, Bool.not_true, Bool.not_false, sub_nil, sub_seq0, sub_seq1, sub_cond0, sub_cond1, sub_block, sub_loop, sub_scope, sub_range0, sub_range1, Option.getD_some, at_ptr, at_slc, runOps_yes, runOps_no, exec_draw, op_sub_i64, op_sub_neg, op_lss_neg, binF_str, str_add, str_neq, str_eql, takeF, resF, oneOf, pickF, extractF, cells_str, cells_int, cells_agg, bool_eql, bool_neq, op_lssI, bne_self_eq_false, beq_self_eq_true, eq_self, cells_slc, cells_func, builtin_append, ev_nilslice, ev_nilfunc, ev_nilptr, ev_nilmap, opF_makeFunc, opF_callv, callV_func, callV_yield, op_leq, op_gtr, op_geq, cast_le, cast_lt, List.nil_append, List.cons_append, List.append_nil, un_not, runD_end, runD_P, runD_Rd, runD_Al, runD_L, runD_gno, runD_gP, runD_gRd, runD_gAl, runD_gL, sameV_str, selF_nil, selF_yes, selF_no, selR_nil, selR_yes, selR_no, rereadM_nil, rereadM_cons, rereadR_nil, rereadR_cons, reread_load, rereadV_eq, rOp_load, hide_nil, backF_nil, List.map_nil, Bool.and_true, Bool.true_and, Bool.and_self, exec_float [(1, 3)], g2, g4, fa28_2, hla, hla1, hself, hlen, hls, hlt, fa68_1, hlv, hgl, p0, hrl, hg, hbsl, happ, hst4]
        with_reducible rfl
      refine ⟨hlt, _, _, rfl, xa', ls ++ [l], (C1.alloc (rowOb 39 l)).next, (actD r).2, ds ++ [(actD r).1], hM4, hs3.same (by omega) (fun _ => hf4 _ (by omega)), .inr (by omega), by rw [List.length_append, hls]; rfl, by rw [List.length_append, hds]; rfl, fun j d l' hd hl' => ?_, ?_, ?_⟩
      · by_cases hj : j < i
        · rw [List.getElem?_append_left (by omega)] at hd hl'
          refine (hall j d l' hd hl').same (by omega) (fun c hc hcl => ⟨⟨hc.1, .inr (by omega)⟩, ?_⟩)
          rw [hf4 c (by omega), hfr c (fun e => hc.2.resolve_right (fun hne => hne e)) (by omega), hk1.2 c hcl (by omega)]
        · have hji : j = i := by
            have := (List.getElem?_eq_some_iff.1 hd).1
            rw [List.length_append] at this
            simp at this; omega
          subst hji
          rw [List.getElem?_append_right (by omega), hds, Nat.sub_self] at hd
          rw [List.getElem?_append_right (by omega), hls, Nat.sub_self] at hl'
          simp only [List.getElem?_cons_zero, Option.some.injEq] at hd hl'
          subst hd hl'
          refine hA1.same (by omega) (fun c hc hcl => ⟨⟨by omega, .inr (by omega)⟩, ?_⟩)
          rw [hf4 c (by omega), hfr c (fun e => ?_) hcl]
          rcases hbl with he | hlt2
          · exact he
          · omega
      · rw [← htot, show 60 - i = (60 - (i + 1)) + 1 by omega, actsD_step _ hr0]
        simp
      · unfold parS; simp only [Sl_cons, Sl_nil, T.get_set, T.puts_cons, T.puts_nil, Nat.reduceEqDiff, Nat.reduceAdd, if_true, if_false, and_true, true_and, g0, g2, g4]
  · have hi60 : i = 60 := by omega
    subst hi60
    have e : actsD (60 - 60) r = ([], r) := rfl
    rw [e, List.append_nil] at htot
    apply W.run 20
    · intro M
      simp (config := { maxSteps := 4000000 }) (disch := first | decide +kernel | (rw [wantF_guard]; simp only [wantD_some, dstAt_zero, dstAt_succ, T.get_set, T.get_e, Nat.reduceEqDiff, if_true, if_false, wantV_bool, wantV_unit, unitV, cond_true, cond_false, Bool.not_true, Bool.not_false, List.toList_toArray]) | omega) only [c9b1, c9, Try.f9, Nat.ble, cond_true, cond_false, T.puts_cons, T.puts_nil, exec_seq, exec_block, nat_beq_self, exec_region, exec_cond, exec_skip, exec_ret, exec_exit, exec_scope, runOps_cons, runOps_nil, opF_move, opF_assign, opF_ari, opF_neq, opF_eql, opF_un, opF_index, opF_indexAddr, opF_fieldAddr, opF_field, opF_build, opF_slice, opF_extract, opF_pick, opF_load, opF_alloc, opF_box, opF_buildSlice, opF_makeSlice, opF_store, opF_conv, opF_len, opF_minmax, opF_builtin, opF_call, resK, ev_tmp, evG_some, ev_int, ev_bool, ev_str, evs, evp, evo, R.ok_bind, putT_some, putT_none, T.get_set, T.get_e, binF_int, op_rem, op_quo_u32, op_xor_u32, op_neq, op_eql, op_lss, op_add_i64, op_sub_u32, op_and_u8, op_xor_u8, op_not_u32, binF_shr_u32, binF_shr_u8, op_mul_i64, op_quo_i64, op_and_u32, binF_shl_u8, wrapF_u8, wrapF_u32, mod_u8, mod_u32, cond_val, Nat.lt_irrefl, Nat.not_lt_zero, if_true, if_false, reduceIte, Nat.reduceEqDiff, Nat.reduceAdd, ne_eq, not_true_eq_false, not_false_eq_true, decide_true, decide_false, Bool.false_eq_true, Bool.not_true, Bool.not_false, sub_nil, sub_seq0, sub_seq1, sub_cond0, sub_cond1, sub_block, sub_loop, sub_scope, sub_range0, sub_range1, Option.getD_some, at_ptr, at_slc, runOps_yes, runOps_no, exec_draw, op_sub_i64, op_sub_neg, op_lss_neg, binF_str, str_add, str_neq, str_eql, takeF, resF, oneOf, pickF, extractF, cells_str, cells_int, cells_agg, bool_eql, bool_neq, op_lssI, bne_self_eq_false, beq_self_eq_true, eq_self, cells_slc, cells_func, builtin_append, ev_nilslice, ev_nilfunc, ev_nilptr, ev_nilmap, opF_makeFunc, opF_callv, callV_func, callV_yield, op_leq, op_gtr, op_geq, cast_le, cast_lt, List.nil_append, List.cons_append, List.append_nil, un_not, g2, g4, fa28_2, hla, hlen, hls]
      with_reducible rfl
    rw [← htot] at hK
    exact hK _ _ xa hM fin (by unfold parS; simp only [Sl_cons, Sl_nil, T.get_set, T.puts_cons, T.puts_nil, Nat.reduceEqDiff, Nat.reduceAdd, if_true, if_false, and_true, true_and, g0, g2, g4])

/-- What Parse tells. -/
def restD (rem : List UInt8) : List UInt8 := rem.tail.tail.tail.tail
theorem run_parse {A : Mem} {rem : List UInt8} {x : Value} (h0 : q < A.next) (h : RdS q A rem x) (hl : rem.length ≤ 1000000) : ∃ A' xa lo, Ans tb1 9 [x] A (.tuple ⟨[.agg ⟨headC (1 + nx rem) (2 + nx rem.tail % 8) (nx rem.tail.tail + 256 * nx rem.tail.tail.tail) xa⟩, .int .i64 ((rem.length - (actsD 60 (restD rem)).2.length : Nat) : Int)]⟩) A' ∧
    ActsR (fun c => lo ≤ c) A' (actsD 60 (restD rem)).1 xa ∧ A.next ≤ lo ∧ A.next ≤ A'.next ∧ ∀ y, y < A.next → A'.get y = A.get y := by
  obtain ⟨v, A', ha, xa, lo, hv, h1, h2, h3, h4⟩ : ∃ v A', Ans tb1 9 [x] A v A' ∧ ∃ xa lo, v = .tuple ⟨[.agg ⟨headC (1 + nx rem) (2 + nx rem.tail % 8) (nx rem.tail.tail + 256 * nx rem.tail.tail.tail) xa⟩, .int .i64 ((rem.length - (actsD 60 (restD rem)).2.length : Nat) : Int)]⟩ ∧
      ActsR (fun c => lo ≤ c) A' (actsD 60 (restD rem)).1 xa ∧ A.next ≤ lo ∧ A.next ≤ A'.next ∧ ∀ y, y < A.next → A'.get y = A.get y := by
    refine ans_of_W (fn_at Try.func9) c9_eq (by rw [Try.ntmps9]; simp) (by kernel_rfl) (by kernel_rfl) ?_
    have hlen := h.len (tb := tb1) (t := 22) und22
    refine parse_head h0 h ?_
    intro t C bs bb br lo hM hp
    apply W.seq
    apply W.block
    refine parse_acts hM hp ?_
    rintro t2 D xa hM2 hA2 ⟨g0, g2, g4, -⟩
    show W tb1 _ _ _
    obtain ⟨gl, hgl⟩ := run_left hM2.hr
    have hlv := left_val hM2.h2
    obtain ⟨d28, hd1, hd2⟩ := und28
    have hl28 := Go.Am.load_all hd1 hd2 (by rw [size28]; rfl) hM2.h1
    obtain ⟨ls, b, hb, hx, hll, hall⟩ := hA2
    have hself := sameV_head (w := 1 + nx rem) (f := 2 + nx rem.tail % 8) (qu := nx rem.tail.tail + 256 * nx rem.tail.tail.tail) (fun d => SlcM.self hx d)
    have hrest : (actsD 60 rem.tail.tail.tail.tail).2.length ≤ rem.length := by
      have h := actsD_rest 60 rem.tail.tail.tail.tail
      simp only [List.length_tail] at h; omega
    have hsub : intOpF .sub .i64 ((rem.length : Nat) : Int) (((actsD 60 rem.tail.tail.tail.tail).2.length : Nat) : Int) = .ok (.int .i64 ((rem.length - (actsD 60 rem.tail.tail.tail.tail).2.length : Nat) : Int)) := op_sub_i64 hrest (by omega)
    have hone : ∀ v ∈ headC (1 + nx rem) (2 + nx rem.tail % 8) (nx rem.tail.tail + 256 * nx rem.tail.tail.tail) xa, oneCell v = true := fun v hv => by
      simp only [headC, List.mem_cons, List.not_mem_nil, or_false] at hv
      rcases hv with rfl | rfl | rfl | rfl <;> first | rfl | exact (SlcM.cells hx).2.1
    obtain ⟨E, hst, hv2, hn2, hf2⟩ := store_all (tb := tb1) (t := 28) (by rw [size28]; rfl) hM2.h1 rfl (by simp [headC]) hone
    apply W.seq
    apply W.runG (gl) 20
    · intro M hM
      simp (config := { maxSteps := 4000000 }) (disch := first | decide +kernel | (rw [wantF_guard]; simp only [wantD_some, dstAt_zero, dstAt_succ, T.get_set, T.get_e, Nat.reduceEqDiff, if_true, if_false, wantV_bool, wantV_unit, unitV, cond_true, cond_false, Bool.not_true, Bool.not_false, List.toList_toArray]) | omega) only [c9, Try.f9, Nat.ble, cond_true, cond_false, T.puts_cons, T.puts_nil, exec_seq, exec_block, nat_beq_self, exec_region, exec_cond, exec_skip, exec_ret, exec_exit, exec_scope, runOps_cons, runOps_nil, opF_move, opF_assign, opF_ari, opF_neq, opF_eql, opF_un, opF_index, opF_indexAddr, opF_fieldAddr, opF_field, opF_build, opF_slice, opF_extract, opF_pick, opF_load, opF_alloc, opF_box, opF_buildSlice, opF_makeSlice, opF_store, opF_conv, opF_len, opF_minmax, opF_builtin, opF_call, resK, ev_tmp, evG_some, ev_int, ev_bool, ev_str, evs, evp, evo, R.ok_bind, putT_some, putT_none, T.get_set, T.get_e, binF_int, op_rem, op_quo_u32, op_xor_u32, op_neq, op_eql, op_lss, op_add_i64, op_sub_u32, op_and_u8, op_xor_u8, op_not_u32, binF_shr_u32, binF_shr_u8, op_mul_i64, op_quo_i64, op_and_u32, binF_shl_u8, wrapF_u8, wrapF_u32, mod_u8, mod_u32, cond_val, Nat.lt_irrefl, Nat.not_lt_zero, if_true, if_false, reduceIte, Nat.reduceEqDiff, Nat.reduceAdd, ne_eq, not_true_eq_false, not_false_eq_true, decide_true, decide_false, Bool.false_eq_true, Bool.not_true, Bool.not_false, sub_nil, sub_seq0, sub_seq1, sub_cond0, sub_cond1, sub_block, sub_loop, sub_scope, sub_range0, sub_range1, Option.getD_some, at_ptr, at_slc, runOps_yes, runOps_no, exec_draw, op_sub_i64, op_sub_neg, op_lss_neg, binF_str, str_add, str_neq, str_eql, takeF, resF, oneOf, pickF, extractF, cells_str, cells_int, cells_agg, bool_eql, bool_neq, op_lssI, bne_self_eq_false, beq_self_eq_true, eq_self, cells_slc, cells_func, builtin_append, ev_nilslice, ev_nilfunc, ev_nilptr, ev_nilmap, opF_makeFunc, opF_callv, callV_func, callV_yield, op_leq, op_gtr, op_geq, cast_le, cast_lt, List.nil_append, List.cons_append, List.append_nil, un_not, runD_end, runD_P, runD_Rd, runD_Al, runD_L, runD_gno, runD_gP, runD_gRd, runD_gAl, runD_gL, sameV_str, selF_nil, selF_yes, selF_no, selR_nil, selR_yes, selR_no, rereadM_nil, rereadM_cons, rereadR_nil, rereadR_cons, reread_load, rereadV_eq, rOp_load, hide_nil, backF_nil, List.map_nil, Bool.and_true, Bool.true_and, Bool.and_self, exec_float [(0, 5)], g0, g2, g4, hl28, hself, hlen, fa68_1, hlv, hgl, hsub, hst]
      with_reducible rfl
    apply W.run 20
    · intro M
      simp (config := { maxSteps := 4000000 }) (disch := first | decide +kernel | (rw [wantF_guard]; simp only [wantD_some, dstAt_zero, dstAt_succ, T.get_set, T.get_e, Nat.reduceEqDiff, if_true, if_false, wantV_bool, wantV_unit, unitV, cond_true, cond_false, Bool.not_true, Bool.not_false, List.toList_toArray]) | omega) only [c9, Try.f9, Nat.ble, cond_true, cond_false, T.puts_cons, T.puts_nil, exec_seq, exec_block, nat_beq_self, exec_region, exec_cond, exec_skip, exec_ret, exec_exit, exec_scope, runOps_cons, runOps_nil, opF_move, opF_assign, opF_ari, opF_neq, opF_eql, opF_un, opF_index, opF_indexAddr, opF_fieldAddr, opF_field, opF_build, opF_slice, opF_extract, opF_pick, opF_load, opF_alloc, opF_box, opF_buildSlice, opF_makeSlice, opF_store, opF_conv, opF_len, opF_minmax, opF_builtin, opF_call, resK, ev_tmp, evG_some, ev_int, ev_bool, ev_str, evs, evp, evo, R.ok_bind, putT_some, putT_none, T.get_set, T.get_e, binF_int, op_rem, op_quo_u32, op_xor_u32, op_neq, op_eql, op_lss, op_add_i64, op_sub_u32, op_and_u8, op_xor_u8, op_not_u32, binF_shr_u32, binF_shr_u8, op_mul_i64, op_quo_i64, op_and_u32, binF_shl_u8, wrapF_u8, wrapF_u32, mod_u8, mod_u32, cond_val, Nat.lt_irrefl, Nat.not_lt_zero, if_true, if_false, reduceIte, Nat.reduceEqDiff, Nat.reduceAdd, ne_eq, not_true_eq_false, not_false_eq_true, decide_true, decide_false, Bool.false_eq_true, Bool.not_true, Bool.not_false, sub_nil, sub_seq0, sub_seq1, sub_cond0, sub_cond1, sub_block, sub_loop, sub_scope, sub_range0, sub_range1, Option.getD_some, at_ptr, at_slc, runOps_yes, runOps_no, exec_draw, op_sub_i64, op_sub_neg, op_lss_neg, binF_str, str_add, str_neq, str_eql, takeF, resF, oneOf, pickF, extractF, cells_str, cells_int, cells_agg, bool_eql, bool_neq, op_lssI, bne_self_eq_false, beq_self_eq_true, eq_self, cells_slc, cells_func, builtin_append, ev_nilslice, ev_nilfunc, ev_nilptr, ev_nilmap, opF_makeFunc, opF_callv, callV_func, callV_yield, op_leq, op_gtr, op_geq, cast_le, cast_lt, List.nil_append, List.cons_append, List.append_nil, un_not]
      with_reducible rfl
    obtain ⟨s1, s2, s3, s4⟩ := hM2.hs
    have hlo := hM2.hn
    refine ⟨.inr rfl, E, [.agg ⟨headC (1 + nx rem) (2 + nx rem.tail % 8) (nx rem.tail.tail + 256 * nx rem.tail.tail.tail) xa⟩, .int .i64 ((rem.length - (actsD 60 (restD rem)).2.length : Nat) : Int)], rfl, ?_, xa, lo, rfl, ⟨ls, b, hb, ?_, hll, fun j d l hd hl => ?_⟩, by omega, by omega, fun y hy => by rw [hf2 y (by omega), hM2.hf y hy]⟩
    · have hlE := Go.Am.load_all hd1 hd2 (by rw [size28]; rfl) hv2
      simp only [Try.f9, resF, ev_tmp, T.get_set, Nat.reduceEqDiff, if_true, if_false, evG_some, R.ok_bind, g2, hlE]
      rfl
    · rcases hb with he | hb2
      · subst he
        rcases hx with hx | ⟨k, c, hx, _⟩
        · exact .inl hx
        · cases hx
      · exact hx.same (by omega) (fun _ => hf2 b (by omega))
    · exact (hall j d l hd hl).same (by omega) (fun c hc _ => ⟨hc, hf2 c (by omega)⟩)
  subst hv
  exact ⟨A', xa, lo, ha, h1, h2, h3, h4⟩
end Go.Proofs.Ytmhldlnlgjpkaaa.scr

/-
  Script: what several laws use.
-/
namespace Go.Proofs.Ytmhldlnlgjpkaaa.scr
open Go.Am
variable {q : Nat}
set_option linter.unusedSimpArgs false

theorem load_part {tb : Tab} {A : Mem} {e t : TypeId} {b o n : Nat} {k : Kd} {l : List Value} {d : TypeDesc} (hu : tb.und t = some d) (ha : isAggD d = true) (hs : sizeF tb t = .ok n) (h : Vals A e b k l) (hn : o + n ≤ l.length) : loadF tb A.get t (.pointer (some ⟨b, o, none⟩)) = .ok (.agg ⟨(l.drop o).take n⟩) := by
  obtain ⟨c, h1, h2⟩ := h
  have hg : c.gets n o = some ((l.drop o).take n) := gets_eq _ _ _ _ (by simp; omega) fun j hj => by
    rw [h2 (o + j) (by omega), List.getElem?_take, if_pos hj, List.getElem?_drop]
  unfold loadF
  simp only [h1, hu, ha, cond_true, hs, R.ok_bind, hg]
theorem und25 : ∃ d, tb1.und 25 = some d ∧ isAggD d = true := by
  have h : (tb1.und 25).map isAggD = some true := by kernel_rfl
  cases hq : tb1.und 25 with
  | none => rw [hq] at h; cases h
  | some d => rw [hq] at h; exact ⟨d, rfl, by simpa using h⟩
theorem size25 : sizeF tb1 25 = .ok 2 := by kernel_rfl
noncomputable def c10 : Code := Try.f10.body.getD .skip
theorem c10_eq : Try.f10.body = some (.seq (sub c10 [0]) (.seq (sub c10 [1,0]) (sub c10 [1,1]))) := by kernel_rfl
theorem run_few {A : Mem} {rem : List UInt8} {x : Value} {n : Nat} (h : RdS q A rem x) : ∃ x', Ans tb1 10 [x, .int .i64 (n : Nat)] A x' A ∧ RdS q A (rem.take (min rem.length n)) x' := by
  obtain ⟨x', hs, hr, -⟩ := h.cut (tb := tb1) (t := 22) (n := min rem.length n) und22 size5 (Nat.min_le_left _ _)
  obtain ⟨v, A', ha, rfl, rfl⟩ : ∃ v A', Ans tb1 10 [x, .int .i64 (n : Nat)] A v A' ∧ v = x' ∧ A' = A := by
    refine ans_of_W (fn_at Try.func10) c10_eq (by rw [Try.ntmps10]; simp) (by kernel_rfl) (by kernel_rfl) ?_
    have hlen := h.len (tb := tb1) (t := 22) und22
    apply W.seq
    apply W.run 20
    · intro M
      simp (config := { maxSteps := 4000000 }) (disch := first | decide +kernel | (rw [wantF_guard]; simp only [wantD_some, dstAt_zero, dstAt_succ, T.get_set, T.get_e, Nat.reduceEqDiff, if_true, if_false, wantV_bool, wantV_unit, unitV, cond_true, cond_false, Bool.not_true, Bool.not_false, List.toList_toArray]) | omega) only [c10, Try.f10, Nat.ble, cond_true, cond_false, T.puts_cons, T.puts_nil, exec_seq, exec_block, nat_beq_self, exec_region, exec_cond, exec_skip, exec_ret, exec_exit, exec_scope, runOps_cons, runOps_nil, opF_move, opF_assign, opF_ari, opF_neq, opF_eql, opF_un, opF_index, opF_indexAddr, opF_fieldAddr, opF_field, opF_build, opF_slice, opF_extract, opF_pick, opF_load, opF_alloc, opF_box, opF_buildSlice, opF_makeSlice, opF_store, opF_conv, opF_len, opF_minmax, opF_builtin, opF_call, resK, ev_tmp, evG_some, ev_int, ev_bool, ev_str, evs, evp, evo, R.ok_bind, putT_some, putT_none, T.get_set, T.get_e, binF_int, op_rem, op_quo_u32, op_xor_u32, op_neq, op_eql, op_lss, op_add_i64, op_sub_u32, op_and_u8, op_xor_u8, op_not_u32, binF_shr_u32, binF_shr_u8, op_mul_i64, op_quo_i64, op_and_u32, binF_shl_u8, wrapF_u8, wrapF_u32, mod_u8, mod_u32, cond_val, Nat.lt_irrefl, Nat.not_lt_zero, if_true, if_false, reduceIte, Nat.reduceEqDiff, Nat.reduceAdd, ne_eq, not_true_eq_false, not_false_eq_true, decide_true, decide_false, Bool.false_eq_true, Bool.not_true, Bool.not_false, sub_nil, sub_seq0, sub_seq1, sub_cond0, sub_cond1, sub_block, sub_loop, sub_scope, sub_range0, sub_range1, Option.getD_some, at_ptr, at_slc, runOps_yes, runOps_no, exec_draw, op_sub_i64, op_sub_neg, op_lss_neg, binF_str, str_add, str_neq, str_eql, takeF, resF, oneOf, pickF, extractF, cells_str, cells_int, cells_agg, bool_eql, bool_neq, op_lssI, bne_self_eq_false, beq_self_eq_true, eq_self, cells_slc, cells_func, builtin_append, ev_nilslice, ev_nilfunc, ev_nilptr, ev_nilmap, opF_makeFunc, opF_callv, callV_func, callV_yield, op_leq, op_gtr, op_geq, cast_le, cast_lt, List.nil_append, List.cons_append, List.append_nil, un_not]
      with_reducible rfl
    apply W.seq
    apply W.run 20
    · intro M
      simp (config := { maxSteps := 4000000 }) (disch := first | decide +kernel | (rw [wantF_guard]; simp only [wantD_some, dstAt_zero, dstAt_succ, T.get_set, T.get_e, Nat.reduceEqDiff, if_true, if_false, wantV_bool, wantV_unit, unitV, cond_true, cond_false, Bool.not_true, Bool.not_false, List.toList_toArray]) | omega) only [c10, Try.f10, Nat.ble, cond_true, cond_false, T.puts_cons, T.puts_nil, exec_seq, exec_block, nat_beq_self, exec_region, exec_cond, exec_skip, exec_ret, exec_exit, exec_scope, runOps_cons, runOps_nil, opF_move, opF_assign, opF_ari, opF_neq, opF_eql, opF_un, opF_index, opF_indexAddr, opF_fieldAddr, opF_field, opF_build, opF_slice, opF_extract, opF_pick, opF_load, opF_alloc, opF_box, opF_buildSlice, opF_makeSlice, opF_store, opF_conv, opF_len, opF_minmax, opF_builtin, opF_call, resK, ev_tmp, evG_some, ev_int, ev_bool, ev_str, evs, evp, evo, R.ok_bind, putT_some, putT_none, T.get_set, T.get_e, binF_int, op_rem, op_quo_u32, op_xor_u32, op_neq, op_eql, op_lss, op_add_i64, op_sub_u32, op_and_u8, op_xor_u8, op_not_u32, binF_shr_u32, binF_shr_u8, op_mul_i64, op_quo_i64, op_and_u32, binF_shl_u8, wrapF_u8, wrapF_u32, mod_u8, mod_u32, cond_val, Nat.lt_irrefl, Nat.not_lt_zero, if_true, if_false, reduceIte, Nat.reduceEqDiff, Nat.reduceAdd, ne_eq, not_true_eq_false, not_false_eq_true, decide_true, decide_false, Bool.false_eq_true, Bool.not_true, Bool.not_false, sub_nil, sub_seq0, sub_seq1, sub_cond0, sub_cond1, sub_block, sub_loop, sub_scope, sub_range0, sub_range1, Option.getD_some, at_ptr, at_slc, runOps_yes, runOps_no, exec_draw, op_sub_i64, op_sub_neg, op_lss_neg, binF_str, str_add, str_neq, str_eql, takeF, resF, oneOf, pickF, extractF, cells_str, cells_int, cells_agg, bool_eql, bool_neq, op_lssI, bne_self_eq_false, beq_self_eq_true, eq_self, cells_slc, cells_func, builtin_append, ev_nilslice, ev_nilfunc, ev_nilptr, ev_nilmap, opF_makeFunc, opF_callv, callV_func, callV_yield, op_leq, op_gtr, op_geq, cast_le, cast_lt, List.nil_append, List.cons_append, List.append_nil, un_not, hlen, min_i64, hs]
      with_reducible rfl
    apply W.run 20
    · intro M
      simp (config := { maxSteps := 4000000 }) (disch := first | decide +kernel | (rw [wantF_guard]; simp only [wantD_some, dstAt_zero, dstAt_succ, T.get_set, T.get_e, Nat.reduceEqDiff, if_true, if_false, wantV_bool, wantV_unit, unitV, cond_true, cond_false, Bool.not_true, Bool.not_false, List.toList_toArray]) | omega) only [c10, Try.f10, Nat.ble, cond_true, cond_false, T.puts_cons, T.puts_nil, exec_seq, exec_block, nat_beq_self, exec_region, exec_cond, exec_skip, exec_ret, exec_exit, exec_scope, runOps_cons, runOps_nil, opF_move, opF_assign, opF_ari, opF_neq, opF_eql, opF_un, opF_index, opF_indexAddr, opF_fieldAddr, opF_field, opF_build, opF_slice, opF_extract, opF_pick, opF_load, opF_alloc, opF_box, opF_buildSlice, opF_makeSlice, opF_store, opF_conv, opF_len, opF_minmax, opF_builtin, opF_call, resK, ev_tmp, evG_some, ev_int, ev_bool, ev_str, evs, evp, evo, R.ok_bind, putT_some, putT_none, T.get_set, T.get_e, binF_int, op_rem, op_quo_u32, op_xor_u32, op_neq, op_eql, op_lss, op_add_i64, op_sub_u32, op_and_u8, op_xor_u8, op_not_u32, binF_shr_u32, binF_shr_u8, op_mul_i64, op_quo_i64, op_and_u32, binF_shl_u8, wrapF_u8, wrapF_u32, mod_u8, mod_u32, cond_val, Nat.lt_irrefl, Nat.not_lt_zero, if_true, if_false, reduceIte, Nat.reduceEqDiff, Nat.reduceAdd, ne_eq, not_true_eq_false, not_false_eq_true, decide_true, decide_false, Bool.false_eq_true, Bool.not_true, Bool.not_false, sub_nil, sub_seq0, sub_seq1, sub_cond0, sub_cond1, sub_block, sub_loop, sub_scope, sub_range0, sub_range1, Option.getD_some, at_ptr, at_slc, runOps_yes, runOps_no, exec_draw, op_sub_i64, op_sub_neg, op_lss_neg, binF_str, str_add, str_neq, str_eql, takeF, resF, oneOf, pickF, extractF, cells_str, cells_int, cells_agg, bool_eql, bool_neq, op_lssI, bne_self_eq_false, beq_self_eq_true, eq_self, cells_slc, cells_func, builtin_append, ev_nilslice, ev_nilfunc, ev_nilptr, ev_nilmap, opF_makeFunc, opF_callv, callV_func, callV_yield, op_leq, op_gtr, op_geq, cast_le, cast_lt, List.nil_append, List.cons_append, List.append_nil, un_not]
      with_reducible rfl
    refine ⟨.inr rfl, _, [x'], rfl, ?_, rfl, rfl⟩
    simp only [Try.f10, resF, ev_tmp, T.get_set, Nat.reduceEqDiff, if_true, if_false, evG_some, R.ok_bind]
  exact ⟨v, ha, hr⟩
theorem ActsR.same {P Q : Nat → Prop} {A A' : Mem} {ds : List ActD} {x : Value} (h : ActsR P A ds x) (hn : A.next ≤ A'.next) (hg : ∀ b, P b → b < A.next → Q b ∧ A'.get b = A.get b) : ActsR Q A' ds x := by
  obtain ⟨ls, b, h1, h2, h3, h4⟩ := h
  have hall : ∀ (i : Nat) (d : ActD) (l : List Value), ds[i]? = some d → ls[i]? = some l → ActR Q A' d l := fun i d l hd hl => (h4 i d l hd hl).same hn hg
  rcases SlcM.lt h2 with hx | hb
  · subst hx
    rcases h2 with h2 | ⟨k, c, h2, _⟩
    · exact ⟨ls, b, .inl rfl, .inl h2, h3, hall⟩
    · cases h2
  · rcases h1 with hx | hp
    · subst hx
      rcases h2 with h2 | ⟨k, c, h2, _⟩
      · exact ⟨ls, b, .inl rfl, .inl h2, h3, hall⟩
      · cases h2
    · exact ⟨ls, b, .inr (hg b hp hb).1, h2.same hn (fun _ => (hg b hp hb).2), h3, hall⟩

theorem ev_neg1 (t : T Value) : ev t (.const (.int .i64 (-1))) = .ok (.int .i64 (-1)) := rfl
theorem fa41_0' (b o : Nat) : fieldAddrF tb1 41 (.pointer (some ⟨b, o, none⟩)) 0 = .ok (.pointer (some ⟨b, o, none⟩)) := by kernel_rfl
theorem fa41_1' (b o : Nat) : fieldAddrF tb1 41 (.pointer (some ⟨b, o, none⟩)) 1 = .ok (.pointer (some ⟨b, o + 1, none⟩)) := by kernel_rfl

/-! ### What an act may be -/
structure ActOk (d : ActD) : Prop where
  kind : d.kind ≤ 9
  word : d.word.length ≤ 256
  arm : d.arm ≤ 256
  stays : d.stays.length ≤ 5
  opening : d.opening.length ≤ 3
  k1 : -1 ≤ d.k
  k2 : d.k ≤ 4
  n1 : -1 ≤ d.n
  n2 : d.n ≤ 10
  none : d.cut = false → d.arm = 0 → d.stays.length = 0 ∧ d.opening.length = 0
  each : ∀ o ∈ d.opening, 1 ≤ o.1 ∧ o.1 ≤ 256 ∧ o.2.length ≤ 3
theorem actD_ok (r : List UInt8) : ActOk (actD r).1 := by
  have hm : ∀ (kd : Nat) (s : List UInt8), (-1 ≤ (moreD kd s).2.1 ∧ (moreD kd s).2.1 ≤ 4) ∧ (-1 ≤ (moreD kd s).2.2.1 ∧ (moreD kd s).2.2.1 ≤ 10) := by
    intro kd s
    unfold moreD
    split
    · refine ⟨⟨?_, ?_⟩, ?_, ?_⟩ <;> simp
    · split
      · refine ⟨⟨?_, ?_⟩, ?_, ?_⟩ <;> simp only <;> omega
      · refine ⟨⟨?_, ?_⟩, ?_, ?_⟩ <;> simp
  have hs : ∀ (c : Bool) (s : List UInt8), (stopD c s).1.length ≤ 5 ∧ (stopD c s).2.1.length ≤ 3 ∧ (c = false → (stopD c s).1.length = 0 ∧ (stopD c s).2.1.length = 0) ∧ ∀ o ∈ (stopD c s).2.1, 1 ≤ o.1 ∧ o.1 ≤ 256 ∧ o.2.length ≤ 3 := by
    intro c s
    cases c with
    | false => exact ⟨Nat.zero_le _, Nat.zero_le _, fun _ => ⟨rfl, rfl⟩, fun o ho => by cases ho⟩
    | true =>
      have e : stopD true s = (numbersD s.tail (nx s % 6), opensL (s.tail.drop (nx s % 6)) (nx s / 6 % 4), opensRest (s.tail.drop (nx s % 6)) (nx s / 6 % 4)) := rfl
      rw [e]
      refine ⟨?_, ?_, (fun h => absurd h (by decide)), fun o ho => ?_⟩
      · simp only [numbersD_len]; omega
      · simp only [opensL_len]; omega
      · simp only [opensL, List.mem_map, List.mem_range] at ho
        obtain ⟨i, hi, rfl⟩ := ho
        have h := nx_lt (opensRest (s.tail.drop (nx s % 6)) i)
        refine ⟨?_, ?_, ?_⟩
        · show 1 ≤ 1 + _; omega
        · show 1 + _ ≤ 256; omega
        · show (numbersD _ _).length ≤ 3
          rw [numbersD_len]; omega
  have ha : (armD (nx r) r.tail).1 ≤ 256 := by
    have h := nx_lt r.tail
    unfold armD; split <;> simp only <;> omega
  exact {
    kind := by show nx r % 10 ≤ 9; omega
    word := wordD_len _
    arm := ha
    stays := (hs _ _).1
    opening := (hs _ _).2.1
    k1 := (hm _ _).1.1
    k2 := (hm _ _).1.2
    n1 := (hm _ _).2.1
    n2 := (hm _ _).2.2
    none := fun h1 h2 => (hs _ _).2.2.1 (by
      have e1 : cutD (nx r) = false := h1
      have e2 : (armD (nx r) r.tail).1 = 0 := h2
      rw [e1, e2]; rfl)
    each := (hs _ _).2.2.2 }
theorem actsD_ok : ∀ n r, ∀ d ∈ (actsD n r).1, ActOk d
  | 0, r, d, h => by cases h
  | n + 1, r, d, h => by
    unfold actsD at h
    split at h
    · cases h
    · rcases List.mem_cons.1 h with rfl | h
      · exact actD_ok r
      · exact actsD_ok n _ d h

/-! ### Parts of a variable; few; Right -/
end Go.Proofs.Ytmhldlnlgjpkaaa.scr

