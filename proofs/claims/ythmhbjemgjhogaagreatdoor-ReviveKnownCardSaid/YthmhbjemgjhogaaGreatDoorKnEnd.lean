/-
  Known: the tables of what is known; the closed run.
-/
import Derived.Test.YthmhbjemgjhogaaGreatDoorKnBase
import Derived.Test.YthmhbjemgjhogaaGreatDoorKnS
import Derived.Test.YthmhbjemgjhogaaGreatDoorKnB
namespace Go.Proofs.YthmhbjemgjhogaaGreatDoor.kn
open Go.Am
set_option linter.unusedSimpArgs false
set_option maxRecDepth 100000
noncomputable def tbS : Tab := tb0.know 83 (sortHook tb0 [knS.k142] 9 isStrV ltStrV)
theorem saysS : ∀ D ∈ [knS.k142], SortSays tb0 83 D 9 isStrV ltStrV := by
  intro D hD
  simp only [List.mem_cons, List.not_mem_nil, or_false] at hD
  rcases hD with rfl
  · exact knS.says knS.k142_ok knS.k142_step

theorem tbS_ok : TabOk tbS := know_ok tb0_ok (sort_ok (c := Tryz.f83.body.getD .skip) tb0_ok (fn_at Tryz.func83) (by kernel_rfl) (by kernel_rfl) ltStr_on saysS)
noncomputable def tbB : Tab := tbS.know 259 (sortHook tb0 [knB.k306] 5 isU8V ltU8V)
theorem saysB : ∀ D ∈ [knB.k306], SortSays tb0 259 D 5 isU8V ltU8V := by
  intro D hD
  simp only [List.mem_cons, List.not_mem_nil, or_false] at hD
  rcases hD with rfl
  · exact knB.says knB.k306_ok knB.k306_step

theorem tbB_ok : TabOk tbB := know_ok tbS_ok (sort_ok (c := Tryz.f259.body.getD .skip) tb0_ok (fn_at Tryz.func259) (by kernel_rfl) (by kernel_rfl) ltU8_on saysB)

noncomputable def gC : Code := Tryz.f159.body.getD .skip
noncomputable def gC2 : Code := Tryz.f210.body.getD .skip
def defX (o : Oper) : Nat :=
  match o.op with
  | .defer c => match c.callee with
    | .value (.tmp x) => x
    | _ => 0
  | _ => 0
noncomputable def dGet : DefF := { f := 159, fn := Tryz.f159, c0 := sub gC [0], id1 := 1, o1 := opAt (sub gC [1,0]) 0, od := opAt (sub gC [1,0]) 1, c2 := sub gC [1,1], x := defX (opAt (sub gC [1,0]) 1), g := 210, gf := Tryz.f210, id3 := 0, orc := opAt (sub gC2 [0]) 0, t := (opAt (sub gC2 [0]) 0).dst.getD 0, c3 := sub gC2 [1] }
theorem dGet_ok : DefOk tbB dGet where
  hf := fn_at Tryz.func159
  hb := by kernel_rfl
  hod := by kernel_rfl
  go1 := by kernel_rfl
  god := by kernel_rfl
  dod := by kernel_rfl
  hg := fn_at Tryz.func210
  hgb := by kernel_rfl
  horc := by kernel_rfl
  dorc := by kernel_rfl
  gorc := by kernel_rfl
  ht := by show Nat.lt _ _; exact Nat.le_of_ble_eq_true (by kernel_rfl)
  hres := by kernel_rfl
  hng := by kernel_rfl
noncomputable def tbG : Tab := tbB.know 159 (deferHook tbB dGet 100000)
theorem tbG_ok : TabOk tbG := know_ok tbB_ok (defer_ok tbB_ok dGet_ok 100000)
def bitS (n b : Nat) : Nat := bif Nat.beq (Nat.mod n 2) b then Nat.div n 2 else Nat.xor (Nat.div n 2) 3988292384
theorem bitS_eq (n b : Nat) : bitS n b = if n % 2 = b then n / 2 else n / 2 ^^^ 3988292384 := by
  unfold bitS
  by_cases h : n % 2 = b
  · rw [if_pos h, show Nat.beq (Nat.mod n 2) b = true by rw [Nat.beq_eq]; exact h]; rfl
  · rw [if_neg h]
    cases hb : Nat.beq (Nat.mod n 2) b with
    | true => rw [Nat.beq_eq] at hb; exact absurd hb h
    | false => rfl
theorem undB : tb0.und 34 = some (.int .u32) := by kernel_rfl
theorem run_bit (n b : Nat) (hn : n < 4294967296) : call tb0 30 193 [.int .u32 n, .int .u32 b] mem0 = .ok (.val (.int .u32 (bitS n b)) mem0) := by
  unfold call
  simp only [fn_at Tryz.func193]
  simp only [Tryz.f193, bodyF, List.length_cons, List.length_nil]
  have h2 : n / 2 < 4294967296 := by omega
  rw [bitS_eq]
  by_cases hb : n % 2 = b
  all_goals
    simp (disch := first | omega | decide +kernel | (simp only [wantF_guard, wantD_some, dstAt_zero, dstAt_succ, T.get_set, T.get_e, Nat.reduceEqDiff, if_true, if_false, wantV_bool, wantV_unit, unitV, cond_true, cond_false, Bool.not_true, Bool.not_false, List.toList_toArray])) only [Nat.ble, cond_true, cond_false, T.puts_cons, T.puts_nil, exec_seq, exec_block, nat_beq_self, exec_region, exec_cond, exec_skip, exec_ret, exec_exit, exec_scope, runOps_cons, runOps_nil, opF_move, opF_assign, opF_ari, opF_neq, opF_eql, opF_un, opF_index, opF_indexAddr, opF_fieldAddr, opF_field, opF_build, opF_slice, opF_extract, opF_pick, opF_load, opF_alloc, opF_box, opF_buildSlice, opF_makeSlice, opF_store, opF_conv, opF_len, opF_minmax, opF_builtin, opF_call, resK, ev_tmp, evG_some, ev_int, ev_bool, ev_str, evs, evp, evo, R.ok_bind, putT_some, putT_none, T.get_set, T.get_e, binF_int, op_rem, op_quo_u32, op_xor_u32, op_neq, op_eql, op_lss, op_add_i64, op_sub_u32, op_and_u8, op_xor_u8, op_not_u32, binF_shr_u32, binF_shr_u8, op_mul_i64, op_quo_i64, op_and_u32, binF_shl_u8, wrapF_u8, wrapF_u32, mod_u8, mod_u32, cond_val, Nat.lt_irrefl, Nat.not_lt_zero, if_true, if_false, reduceIte, Nat.reduceEqDiff, Nat.reduceAdd, ne_eq, not_true_eq_false, not_false_eq_true, decide_true, decide_false, Bool.false_eq_true, Bool.not_true, Bool.not_false, sub_nil, sub_seq0, sub_seq1, sub_cond0, sub_cond1, sub_block, sub_loop, sub_scope, sub_range0, sub_range1, Option.getD_some, at_ptr, at_slc, runOps_yes, runOps_no, exec_draw, op_sub_i64, op_sub_neg, op_lss_neg, binF_str, str_add, str_neq, str_eql, takeF, resF, oneOf, pickF, extractF, hb]
def bitK (l : List Value) : Option Value :=
  match l with
  | [.int .u32 (.ofNat n), .int .u32 (.ofNat b)] => bif Nat.blt n 4294967296 then some (.int .u32 (.ofNat (bitS n b))) else none
  | _ => none
theorem hook_bit : HookOk tb0.P 193 (pureHook bitK) := by
  refine hook_pure tb0_ok (fn_at Tryz.func193) (c := (Tryz.f193.body).getD .skip) (by kernel_rfl) fun args v h => ?_
  unfold bitK at h
  split at h
  · rename_i n b
    cases hn : Nat.blt n 4294967296 with
    | false => rw [hn] at h; cases h
    | true =>
      rw [hn] at h
      cases h
      exact ⟨by simp [flat], by simp [flat], _, _, run_bit n b (by rw [Nat.blt_eq] at hn; exact hn)⟩
  · cases h
noncomputable def tbBit : Tab := tbG.know 193 (pureHook bitK)
theorem tbBit_ok : TabOk tbBit := know_ok tbG_ok hook_bit
theorem works13 : isTrue (callX tbBit 1000000 13 [] mem0) = true := by decide +kernel
noncomputable def tbG13 : Tab := tbBit.know 13 (pureHook spTrue)
theorem tbG13_ok : TabOk tbG13 := know_true (c := Tryz.f13.body.getD .skip) tbBit_ok (fn_at Tryz.func13) (by kernel_rfl) works13
noncomputable def tbK : Tab := tbG13
theorem tbK_ok : TabOk tbK := tbG13_ok
theorem knownX (ts : Nat → TypeId) : isTrue (callX tbK 1000000 3 [] (globMem ts [1, 2] 5)) = true := by kernel_rfl
theorem known (ts : Nat → TypeId) : isTrue (call tbK 1000000 3 [] (globMem ts [1, 2] 5)) = true := by
  rw [← callX_eq]
  exact knownX ts
end Go.Proofs.YthmhbjemgjhogaaGreatDoor.kn
