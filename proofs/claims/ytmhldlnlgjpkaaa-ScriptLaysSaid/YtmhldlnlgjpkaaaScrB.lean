/-
  What the functions of this group compute on the abstract machine, and the plain laws of it. Part B: conditions stand in each theorem.
-/
import Derived.Test.YtmhldlnlgjpkaaaScrA

/-
  Script: whether two acts, two settings are alike.
-/
namespace Go.Proofs.Ytmhldlnlgjpkaaa.scr
open Go.Am
set_option linter.unusedSimpArgs false
set_option linter.unusedVariables false
set_option maxRecDepth 20000

theorem und35 : ∃ d, tb1.und 35 = some d ∧ isAggD d = true := by
  have h : (tb1.und 35).map isAggD = some true := by kernel_rfl
  cases hq : tb1.und 35 with
  | none => rw [hq] at h; cases h
  | some d => rw [hq] at h; exact ⟨d, rfl, by simpa using h⟩
theorem size35 : sizeF tb1 35 = .ok 5 := by kernel_rfl
theorem und72 : ∃ d, tb1.und 72 = some d ∧ isAggD d = false := by
  have h : (tb1.und 72).map isAggD = some false := by kernel_rfl
  cases hq : tb1.und 72 with
  | none => rw [hq] at h; cases h
  | some d => rw [hq] at h; exact ⟨d, rfl, by simpa using h⟩
noncomputable def c25 : Code := Try.f25.body.getD .skip
theorem c25_eq : Try.f25.body = some (.seq (sub c25 [0]) (.seq (sub c25 [1,0]) (sub c25 [1,1]))) := by kernel_rfl
set_option maxHeartbeats 4000000 in
theorem run_actEq {A : Mem} {bc : Nat} {d d' : ActG} {l l' : List Value} (hbc : bc < A.next) (hcl : Vals A 72 bc (.var 1) [.func (.func 23) ⟨[]⟩ ⟨[]⟩]) (h : ActGR A d l) (h' : ActGR A d' l') :
    ∃ A', Ans tb1 25 [.agg ⟨l⟩, .agg ⟨l'⟩, .pointer (some ⟨bc, 0, none⟩)] A (.bool (decide (d = d'))) A' ∧ Ext A A' := by
  obtain ⟨xs, xo, rfl, k2, k3, k4⟩ := h
  obtain ⟨ys, yo, rfl, k2', k3', k4'⟩ := h'
  obtain ⟨v, A', ha, rfl, he⟩ : ∃ v A', Ans tb1 25 [.agg ⟨cellsG d xs xo⟩, .agg ⟨cellsG d' ys yo⟩, .pointer (some ⟨bc, 0, none⟩)] A v A' ∧ v = .bool (decide (d = d')) ∧ Ext A A' := by
    refine ans_of_W (fn_at Try.func25) c25_eq (by rw [Try.ntmps25]; simp) (by kernel_rfl) (by kernel_rfl) ?_
    have hv0 : Vals ((A.alloc (rowOb 39 (cellsG d xs xo))).alloc (rowOb 39 (cellsG d' ys yo))) 39 A.next (.var 9) (cellsG d xs xo) := (Go.Am.vals_new A 39 _).same (get_alloc_ne (by rw [next_alloc]; omega))
    have hv1 : Vals ((A.alloc (rowOb 39 (cellsG d xs xo))).alloc (rowOb 39 (cellsG d' ys yo))) 39 (A.next + 1) (.var 9) (cellsG d' ys yo) := Go.Am.vals_new (A.alloc _) 39 _
    have hE : Ext A ((A.alloc (rowOb 39 (cellsG d xs xo))).alloc (rowOb 39 (cellsG d' ys yo))) := (Ext.alloc A _).trans (Ext.alloc _ _)
    obtain ⟨d35, hd1, hd2⟩ := und35
    obtain ⟨d72, hd3, hd4⟩ := und72
    have a0 := load_part (tb := tb1) (t := 35) (o := 0) (n := 5) hd1 hd2 size35 hv0 (by show 5 ≤ 9; omega)
    rw [show ((cellsG d xs xo).drop 0).take 5 = [.int .i64 d.kind, strOf d.word, .int .u32 (d.weight : Int), .int .i64 d.k, .int .i64 d.n] from rfl] at a0
    have a1 := load_vals (tb := tb1) (t := 3) und3 rfl hv0 (show (cellsG d xs xo)[5]? = _ from rfl)
    have a2 := load_vals (tb := tb1) (t := 4) und4 rfl hv0 (show (cellsG d xs xo)[6]? = _ from rfl)
    have a3 := load_vals (tb := tb1) (t := 36) und36 rfl hv0 (show (cellsG d xs xo)[7]? = _ from rfl)
    have a4 := load_vals (tb := tb1) (t := 37) und37 rfl hv0 (show (cellsG d xs xo)[8]? = _ from rfl)
    have b0 := load_part (tb := tb1) (t := 35) (o := 0) (n := 5) hd1 hd2 size35 hv1 (by show 5 ≤ 9; omega)
    rw [show ((cellsG d' ys yo).drop 0).take 5 = [.int .i64 d'.kind, strOf d'.word, .int .u32 (d'.weight : Int), .int .i64 d'.k, .int .i64 d'.n] from rfl] at b0
    have b1 := load_vals (tb := tb1) (t := 3) und3 rfl hv1 (show (cellsG d' ys yo)[5]? = _ from rfl)
    have b2 := load_vals (tb := tb1) (t := 4) und4 rfl hv1 (show (cellsG d' ys yo)[6]? = _ from rfl)
    have b3 := load_vals (tb := tb1) (t := 36) und36 rfl hv1 (show (cellsG d' ys yo)[7]? = _ from rfl)
    have b4 := load_vals (tb := tb1) (t := 37) und37 rfl hv1 (show (cellsG d' ys yo)[8]? = _ from rfl)
    have hcl' := load_box (tb := tb1) (t := 72) hd3 hd4 (hcl.same (hE.g _ hbc))
    obtain ⟨g1, hg1⟩ := run_eqs k3 (k2.ext hE) (k2'.ext hE)
    obtain ⟨F, ⟨g2, hg2⟩, hEF⟩ := run_eqOps (k4.ext hE) (k4'.ext hE)
    apply W.seq
    apply W.run 20
    · intro M
      simp (config := { maxSteps := 4000000 }) (disch := first | decide +kernel | omega) only [c25, Try.f25, Option.getD_some, sub_seq0, sub_nil, T.puts_cons, Nat.reduceAdd, T.puts_nil, exec_region, runOps_cons, opF_box, ev_tmp, T.get_set, Nat.reduceEqDiff, T.get_e, if_true, if_false, evG_some, at_ptr, putT_some, opF_assign, ev_bool, runOps_nil, R.ok_bind, cells_agg]
      with_reducible rfl
    apply W.seq
    by_cases h1 : d.kind = d'.kind ∧ d.word = d'.word ∧ d.weight = d'.weight ∧ d.k = d'.k ∧ d.n = d'.n
    rotate_left
    · have t1 : decide (d.kind = d'.kind ∧ d.word = d'.word ∧ d.weight = d'.weight ∧ d.k = d'.k ∧ d.n = d'.n) = false := decide_eq_false h1
      apply W.run 20
      · intro M
        simp (config := { maxSteps := 4000000 }) (disch := first | decide +kernel | (rw [wantF_guard]; simp only [wantD_some, dstAt_zero, dstAt_succ, T.get_set, T.get_e, Nat.reduceEqDiff, if_true, if_false, wantV_bool, wantV_unit, unitV, cond_true, cond_false, Bool.not_true, Bool.not_false, List.toList_toArray]) | omega) only [c25, Try.f25, Option.getD_some, sub_seq1, sub_seq0, sub_nil, next_alloc, exec_region, runOps_cons, opF_fieldAddr, ev_tmp, T.get_set, Nat.reduceEqDiff, T.get_e, if_false, if_true, evG_some, putT_some, opF_load, opF_eqlR, opF_move, R.ok_bind, fa39_0, b0, a0, eq35, t1, runOps_no, opF_pick, pickF, ev_bool, opF_assign, runOps_nil]
        with_reducible rfl
      apply W.run 20
      · intro M
        simp (config := { maxSteps := 4000000 }) (disch := first | decide +kernel | omega) only [c25, Try.f25, Option.getD_some, sub_seq1, sub_nil, exec_ret]
        with_reducible rfl
      refine ⟨.inr rfl, _, [.bool false], rfl, ?_, ?_, hE⟩
      · simp only [Try.f25, resF, ev_tmp, T.get_set, Nat.reduceEqDiff, if_true, if_false, evG_some, R.ok_bind]
      · show Value.bool _ = _
        rw [decide_eq_false (fun h => h1 (by subst h; exact ⟨rfl, rfl, rfl, rfl, rfl⟩))]
    have t1 : decide (d.kind = d'.kind ∧ d.word = d'.word ∧ d.weight = d'.weight ∧ d.k = d'.k ∧ d.n = d'.n) = true := decide_eq_true h1
    by_cases h2 : d.arm = d'.arm
    rotate_left
    · have t2 : decide (d.arm = d'.arm) = false := decide_eq_false h2
      apply W.run 20
      · intro M
        simp (config := { maxSteps := 4000000 }) (disch := first | decide +kernel | (rw [wantF_guard]; simp only [wantD_some, dstAt_zero, dstAt_succ, T.get_set, T.get_e, Nat.reduceEqDiff, if_true, if_false, wantV_bool, wantV_unit, unitV, cond_true, cond_false, Bool.not_true, Bool.not_false, List.toList_toArray]) | omega) only [c25, Try.f25, Option.getD_some, sub_seq1, sub_seq0, sub_nil, next_alloc, exec_region, runOps_cons, opF_fieldAddr, ev_tmp, T.get_set, Nat.reduceEqDiff, T.get_e, if_false, if_true, evG_some, putT_some, opF_load, opF_eqlR, opF_move, R.ok_bind, fa39_0, b0, a0, eq35, t1, runOps_yes, opF_eql, und3, opF_pick, pickF, ev_bool, fa39_1, b1, a1, binF_int, op_eqlI, t2, runOps_no, opF_assign, runOps_nil]
        with_reducible rfl
      apply W.run 20
      · intro M
        simp (config := { maxSteps := 4000000 }) (disch := first | decide +kernel | omega) only [c25, Try.f25, Option.getD_some, sub_seq1, sub_nil, exec_ret]
        with_reducible rfl
      refine ⟨.inr rfl, _, [.bool false], rfl, ?_, ?_, hE⟩
      · simp only [Try.f25, resF, ev_tmp, T.get_set, Nat.reduceEqDiff, if_true, if_false, evG_some, R.ok_bind]
      · show Value.bool _ = _
        rw [decide_eq_false (fun h => h2 (by subst h; rfl))]
    have t2 : decide (d.arm = d'.arm) = true := decide_eq_true h2
    by_cases h3 : d.cut = d'.cut
    rotate_left
    · have t3 : decide (d.cut = d'.cut) = false := decide_eq_false h3
      have t3 : (d.cut == d'.cut) = false := beq_eq_false_iff_ne.2 h3
      apply W.run 20
      · intro M
        simp (config := { maxSteps := 4000000 }) (disch := first | decide +kernel | (rw [wantF_guard]; simp only [wantD_some, dstAt_zero, dstAt_succ, T.get_set, T.get_e, Nat.reduceEqDiff, if_true, if_false, wantV_bool, wantV_unit, unitV, cond_true, cond_false, Bool.not_true, Bool.not_false, List.toList_toArray]) | omega) only [c25, Try.f25, Option.getD_some, sub_seq1, sub_seq0, sub_nil, next_alloc, exec_region, runOps_cons, opF_fieldAddr, ev_tmp, T.get_set, Nat.reduceEqDiff, T.get_e, if_false, if_true, evG_some, putT_some, opF_load, opF_eqlR, opF_move, R.ok_bind, fa39_0, b0, a0, eq35, t1, runOps_yes, opF_eql, und3, opF_pick, pickF, ev_bool, fa39_1, b1, a1, binF_int, op_eqlI, t2, und4, fa39_2, b2, a2, bool_eql, t3, runOps_no, opF_assign, runOps_nil]
        with_reducible rfl
      apply W.run 20
      · intro M
        simp (config := { maxSteps := 4000000 }) (disch := first | decide +kernel | omega) only [c25, Try.f25, Option.getD_some, sub_seq1, sub_nil, exec_ret]
        with_reducible rfl
      refine ⟨.inr rfl, _, [.bool false], rfl, ?_, ?_, hE⟩
      · simp only [Try.f25, resF, ev_tmp, T.get_set, Nat.reduceEqDiff, if_true, if_false, evG_some, R.ok_bind]
      · show Value.bool _ = _
        rw [decide_eq_false (fun h => h3 (by subst h; rfl))]
    have t3 : decide (d.cut = d'.cut) = true := decide_eq_true h3
    have t3 : (d.cut == d'.cut) = true := beq_iff_eq.2 h3
    by_cases h4 : d.stays = d'.stays
    rotate_left
    · have t4 : decide (d.stays = d'.stays) = false := decide_eq_false h4
      apply W.runG (g1) 20
      · intro M hM
        simp (config := { maxSteps := 4000000 }) (disch := first | decide +kernel | (rw [wantF_guard]; simp only [wantD_some, dstAt_zero, dstAt_succ, T.get_set, T.get_e, Nat.reduceEqDiff, if_true, if_false, wantV_bool, wantV_unit, unitV, cond_true, cond_false, Bool.not_true, Bool.not_false, List.toList_toArray]) | omega) only [c25, Try.f25, Option.getD_some, sub_seq1, sub_seq0, sub_nil, next_alloc, exec_region, runOps_cons, opF_fieldAddr, ev_tmp, T.get_set, Nat.reduceEqDiff, T.get_e, if_false, if_true, evG_some, putT_some, opF_load, opF_eqlR, opF_move, R.ok_bind, fa39_0, b0, a0, eq35, t1, runOps_yes, opF_eql, und3, opF_pick, pickF, ev_bool, fa39_1, b1, a1, binF_int, op_eqlI, t2, und4, fa39_2, b2, a2, bool_eql, t3, opF_call, evs, resK, fa39_3, b3, a3, hg1, t4, runOps_no, opF_assign, runOps_nil]
        with_reducible rfl
      apply W.run 20
      · intro M
        simp (config := { maxSteps := 4000000 }) (disch := first | decide +kernel | omega) only [c25, Try.f25, Option.getD_some, sub_seq1, sub_nil, exec_ret]
        with_reducible rfl
      refine ⟨.inr rfl, _, [.bool false], rfl, ?_, ?_, hE⟩
      · simp only [Try.f25, resF, ev_tmp, T.get_set, Nat.reduceEqDiff, if_true, if_false, evG_some, R.ok_bind]
      · show Value.bool _ = _
        rw [decide_eq_false (fun h => h4 (by subst h; rfl))]
    have t4 : decide (d.stays = d'.stays) = true := decide_eq_true h4
    apply W.runG ((g1+g2)) 20
    · intro M hM
      simp (config := { maxSteps := 4000000 }) (disch := first | decide +kernel | (rw [wantF_guard]; simp only [wantD_some, dstAt_zero, dstAt_succ, T.get_set, T.get_e, Nat.reduceEqDiff, if_true, if_false, wantV_bool, wantV_unit, unitV, cond_true, cond_false, Bool.not_true, Bool.not_false, List.toList_toArray]) | omega) only [c25, Try.f25, Option.getD_some, sub_seq1, sub_seq0, sub_nil, next_alloc, exec_region, runOps_cons, opF_fieldAddr, ev_tmp, T.get_set, Nat.reduceEqDiff, T.get_e, if_false, if_true, evG_some, putT_some, opF_load, opF_eqlR, opF_move, R.ok_bind, fa39_0, b0, a0, eq35, t1, runOps_yes, opF_eql, und3, opF_pick, pickF, ev_bool, fa39_1, b1, a1, binF_int, op_eqlI, t2, und4, fa39_2, b2, a2, bool_eql, t3, opF_call, evs, resK, fa39_3, b3, a3, hg1, t4, opF_assign, runOps_nil, hcl', fa39_4, b4, a4, hg2]
      with_reducible rfl
    apply W.run 20
    · intro M
      simp (config := { maxSteps := 4000000 }) (disch := first | decide +kernel | omega) only [c25, Try.f25, Option.getD_some, sub_seq1, sub_nil, exec_ret]
      with_reducible rfl
    refine ⟨.inr rfl, _, [.bool (decide (d.opening = d'.opening))], rfl, ?_, ?_, hE.trans hEF⟩
    · simp only [Try.f25, resF, ev_tmp, T.get_set, Nat.reduceEqDiff, if_true, if_false, evG_some, R.ok_bind]
    · show Value.bool _ = _
      congr 1
      exact decide_eq_decide.2 ⟨fun h => ActG.all_inj.1 ⟨h1.1, h1.2.1, h1.2.2.1, h1.2.2.2.1, h1.2.2.2.2, h2, h3, h4, h⟩, fun h => by rw [h]⟩
  exact ⟨A', ha, he⟩

noncomputable def c27 : Code := Try.f27.body.getD .skip
noncomputable def c27b1 : Code := sub c27 [1,1,0,1,0,0]
theorem c27_eq : Try.f27.body = some (.seq (sub c27 [0]) (.seq (sub c27 [1,0]) (.seq (.seq (sub c27 [1,1,0,0]) (.block 0 (.loop c27b1))) (.seq (sub c27 [1,1,1,0]) (sub c27 [1,1,1,1]))))) := by kernel_rfl
theorem c27b1_eq : c27b1 = .seq (sub c27b1 [0]) (.seq (sub c27b1 [1,0]) (.seq (.block 1 (.seq (sub c27b1 [1,1,0,0,0]) (.seq (sub c27b1 [1,1,0,0,1,0]) (sub c27b1 [1,1,0,0,1,1])))) (sub c27b1 [1,1,1]))) := by kernel_rfl
set_option maxHeartbeats 2000000 in
theorem run_eqActs {A : Mem} {ds ds' : List ActG} {x y : Value} {bc : Nat} (hbc : bc < A.next) (hcl : Vals A 72 bc (.var 1) [.func (.func 23) ⟨[]⟩ ⟨[]⟩]) (h : ActsG A ds x) (h' : ActsG A ds' y) : ∃ A', Ans tb1 27 [x, y, .func (.func 25) ⟨[]⟩ ⟨[.pointer (some ⟨bc, 0, none⟩)]⟩] A (.bool (decide (ds = ds'))) A' ∧ Ext A A' := by
  obtain ⟨ls, b, hx, hll, hbd, hall⟩ := h
  obtain ⟨ls', b', hy, hll', hbd', hall'⟩ := h'
  obtain ⟨v, A', ha, rfl, he⟩ : ∃ v A', Ans tb1 27 [x, y, .func (.func 25) ⟨[]⟩ ⟨[.pointer (some ⟨bc, 0, none⟩)]⟩] A v A' ∧ v = .bool (decide (ds = ds')) ∧ Ext A A' := by
    refine ans_of_W (fn_at Try.func27) c27_eq (by rw [Try.ntmps27]; simp) (by kernel_rfl) (by kernel_rfl) ?_
    have lx := hx.len (tb := tb1) (t := 26) und26
    have ly := hy.len (tb := tb1) (t := 26) und26
    rw [hll] at lx
    rw [hll'] at ly
    apply W.seq
    apply W.run 20
    · intro M
      simp (config := { maxSteps := 4000000 }) (disch := first | decide +kernel | omega) only [c27, Try.f27, Option.getD_some, sub_seq0, sub_nil, T.puts_cons, Nat.reduceAdd, T.puts_nil, exec_region, runOps_cons, opF_assign, ev_bool, putT_some, runOps_nil, R.ok_bind]
      with_reducible rfl
    apply W.seq
    by_cases hl : ds.length = ds'.length
    · apply W.run 20
      · intro M
        simp (config := { maxSteps := 4000000 }) (disch := first | decide +kernel | omega) only [c27, Try.f27, Option.getD_some, sub_seq1, sub_seq0, sub_nil, exec_seq, exec_region, runOps_cons, opF_move, ev_tmp, T.get_set, Nat.reduceEqDiff, T.get_e, if_true, if_false, evG_some, putT_some, opF_len, evs, R.ok_bind, opF_neq, runOps_nil, ly, lx, hl, binF_int, op_neqI, ne_eq, not_true_eq_false, decide_false, exec_cond, opF_assign, ev_bool, exec_ret, exec_skip]
        with_reducible rfl
      apply W.seq
      apply W.seq
      apply W.run 20
      · intro M
        simp (config := { maxSteps := 4000000 }) (disch := first | decide +kernel | omega) only [c27, Try.f27, Option.getD_some, sub_seq1, sub_seq0, sub_nil, exec_region, runOps_cons, opF_move, ev_tmp, T.get_set, Nat.reduceEqDiff, T.get_e, if_true, if_false, evG_some, putT_some, opF_len, evs, R.ok_bind, ev_int, runOps_nil, lx]
        with_reducible rfl
      apply W.block
      refine W.up ds.length (fun i t C => Ext A C ∧ ds.take i = ds'.take i ∧ Sl t [(0, x), (1, y), (2, .func (.func 25) ⟨[]⟩ ⟨[.pointer (some ⟨bc, 0, none⟩)]⟩), (15, x), (16, .int .i64 ((ds.length : Nat) : Int)), (17, .int .i64 (i : Int))]) ?_ (Nat.zero_le _) ⟨Ext.refl A, by simp, ?_⟩
      · rintro i t C hi ⟨hE, he, g0, g1, g2, g15, g16, g17, -⟩
        have hEn := hE.n
        by_cases hlt : i < ds.length
        · have hlt' : i < ds'.length := by omega
          have hli : i < ls.length := by omega
          have hli' : i < ls'.length := by omega
          have hO := hall i ds[i] ls[i] (List.getElem?_eq_getElem hlt) (List.getElem?_eq_getElem hli)
          have hO' := hall' i ds'[i] ls'[i] (List.getElem?_eq_getElem hlt') (List.getElem?_eq_getElem hli')
          have hxC := hx.same hE.n (fun hb => hE.g b hb)
          have hyC := hy.same hE.n (fun hb => hE.g b' hb)
          have ix := hxC.idx (tb := tb1) (t := 26) (t' := 39) (kd := .i64) (i := i) und26 size39 hli
          have iy := hyC.idx (tb := tb1) (t := 26) (t' := 39) (kd := .i64) (i := i) und26 size39 hli'
          obtain ⟨d39, hd1, hd2⟩ := und39
          generalize hL : ls[i] = L at hO
          generalize hL' : ls'[i] = L' at hO'
          have hc := hO.cells
          have hc' := hO'.cells
          have lax := hxC.load_all (t := 39) (i := i) hd1 hd2 size39 (show ls[i]? = some L by rw [List.getElem?_eq_getElem hli, hL])
          have hv0 : Vals (C.alloc (rowOb 39 [.int .i64 0, .string ⟨#[]⟩, .int .u32 0, .int .i64 0, .int .i64 0, .int .i64 0, .bool false, .slice none 0 0, .slice none 0 0])) 39 C.next (.var 9) [.int .i64 0, .string ⟨#[]⟩, .int .u32 0, .int .i64 0, .int .i64 0, .int .i64 0, .bool false, .slice none 0 0, .slice none 0 0] := Go.Am.vals_new C 39 _
          have hn0 : (C.alloc (rowOb 39 [.int .i64 0, .string ⟨#[]⟩, .int .u32 0, .int .i64 0, .int .i64 0, .int .i64 0, .bool false, .slice none 0 0, .slice none 0 0])).next = C.next + 1 := next_alloc _ _
          obtain ⟨D, hs1, hv1, hn1, hf1⟩ := store_all (tb := tb1) (t := 39) (l' := L) (by rw [size39]; rfl) hv0 (by rw [hc.1]; rfl) (by simp) hc.2
          have hED : Ext C D := (Ext.alloc C (rowOb 39 [.int .i64 0, .string ⟨#[]⟩, .int .u32 0, .int .i64 0, .int .i64 0, .int .i64 0, .bool false, .slice none 0 0, .slice none 0 0])).put (b := C.next) (Nat.le_refl _) hn1 hf1
          have lay := (hyC.same hED.n (fun hb => hED.g b' hb)).load_all (t := 39) (i := i) hd1 hd2 size39 (show ls'[i]? = some L' by rw [List.getElem?_eq_getElem hli', hL'])
          have hv2 : Vals (D.alloc (rowOb 39 [.int .i64 0, .string ⟨#[]⟩, .int .u32 0, .int .i64 0, .int .i64 0, .int .i64 0, .bool false, .slice none 0 0, .slice none 0 0])) 39 D.next (.var 9) [.int .i64 0, .string ⟨#[]⟩, .int .u32 0, .int .i64 0, .int .i64 0, .int .i64 0, .bool false, .slice none 0 0, .slice none 0 0] := Go.Am.vals_new D 39 _
          have hn2 : (D.alloc (rowOb 39 [.int .i64 0, .string ⟨#[]⟩, .int .u32 0, .int .i64 0, .int .i64 0, .int .i64 0, .bool false, .slice none 0 0, .slice none 0 0])).next = D.next + 1 := next_alloc _ _
          obtain ⟨F, hs2, hv3, hn3, hf3⟩ := store_all (tb := tb1) (t := 39) (l' := L') (by rw [size39]; rfl) hv2 (by rw [hc'.1]; rfl) (by simp) hc'.2
          have hEF : Ext D F := (Ext.alloc D (rowOb 39 [.int .i64 0, .string ⟨#[]⟩, .int .u32 0, .int .i64 0, .int .i64 0, .int .i64 0, .bool false, .slice none 0 0, .slice none 0 0])).put (b := D.next) (Nat.le_refl _) hn3 hf3
          have hv1F : Vals F 39 C.next (.var 9) L := hv1.same (hEF.g _ (by omega))
          have laF := Go.Am.load_all (tb := tb1) (t := 39) hd1 hd2 (by rw [size39, hc.1]) hv1F
          have laF' := Go.Am.load_all (tb := tb1) (t := 39) hd1 hd2 (by rw [size39, hc'.1]) hv3
          have hEAF := (hE.trans hED).trans hEF
          obtain ⟨G, ⟨g, hg⟩, hEG⟩ := run_actEq (Nat.lt_of_lt_of_le hbc hEAF.n) (hcl.same (hEAF.g _ hbc)) (hO.ext hEAF) (hO'.ext hEAF)
          rw [c27b1_eq]
          apply W.seq
          apply W.run 20
          · intro M
            simp (config := { maxSteps := 4000000 }) (disch := first | decide +kernel | omega) only [c27b1, c27, Try.f27, Option.getD_some, sub_seq1, sub_seq0, sub_block, sub_loop, sub_nil, exec_region, runOps_cons, opF_ari, ev_tmp, g17, evG_some, g16, putT_some, runOps_nil, R.ok_bind, binF_int, op_lssI, cast_lt, hlt, decide_true]
            with_reducible rfl
          apply W.seq
          apply W.run 20
          · intro M
            simp (config := { maxSteps := 4000000 }) (disch := first | decide +kernel | omega) only [c27b1, c27, Try.f27, Option.getD_some, sub_seq1, sub_seq0, sub_block, sub_loop, sub_nil, exec_cond, ev_tmp, T.get_set, if_true, evG_some, exec_skip, exec_exit, R.ok_bind]
            with_reducible rfl
          apply W.seq
          apply W.block
          apply W.seq
          apply W.run 20
          · intro M
            simp (config := { maxSteps := 4000000 }) (disch := first | decide +kernel | omega) only [c27b1, c27, Try.f27, Option.getD_some, sub_seq1, sub_seq0, sub_block, sub_loop, sub_nil, exec_region, runOps_cons, opF_move, ev_tmp, T.get_set, Nat.reduceEqDiff, g17, if_false, evG_some, putT_some, opF_indexAddr, g15, opF_load, if_true, opF_alloc, zero39, at_ptr, opF_assign, opF_store, putT_none, runOps_nil, R.ok_bind, cells_agg, ix, lax, hs1]
            with_reducible rfl
          apply W.seq
          apply W.run 20
          · intro M
            simp (config := { maxSteps := 4000000 }) (disch := first | decide +kernel | omega) only [c27b1, c27, Try.f27, Option.getD_some, sub_seq1, sub_seq0, sub_block, sub_loop, sub_nil, exec_region, runOps_cons, opF_move, ev_tmp, T.get_set, Nat.reduceEqDiff, g1, if_false, evG_some, putT_some, if_true, opF_indexAddr, opF_load, opF_alloc, zero39, at_ptr, opF_store, putT_none, runOps_nil, R.ok_bind, cells_agg, iy, lay, hs2]
            with_reducible rfl
          by_cases hv : ds[i] = ds'[i]
          · have hdt := decide_eq_true hv
            apply W.runG (g) 20
            · intro M hM
              simp (config := { maxSteps := 4000000 }) (disch := first | decide +kernel | omega) only [c27b1, c27, Try.f27, Option.getD_some, sub_seq1, sub_seq0, sub_block, sub_loop, sub_nil, exec_seq, exec_region, runOps_cons, opF_move, ev_tmp, T.get_set, Nat.reduceEqDiff, g2, if_false, evG_some, putT_some, opF_load, if_true, opF_callv, evs, R.ok_bind, resK, opF_un, runOps_nil, laF', laF, callV_func, List.nil_append, List.cons_append, hg, hdt, un_not, Bool.not_true, exec_cond, opF_assign, ev_bool, exec_ret, exec_skip]
              with_reducible rfl
            show W tb1 _ _ _
            apply W.run 20
            · intro M
              simp (config := { maxSteps := 4000000 }) (disch := first | decide +kernel | omega) only [c27b1, c27, Try.f27, Option.getD_some, sub_seq1, sub_seq0, sub_block, sub_loop, sub_nil, exec_region, runOps_cons, opF_ari, ev_tmp, T.get_set, Nat.reduceEqDiff, g17, if_false, evG_some, ev_int, putT_some, opF_move, if_true, runOps_nil, R.ok_bind, binF_int, op_add_i64]
              with_reducible rfl
            refine ⟨hlt, _, _, rfl, hEAF.trans hEG, ?_, ?_⟩
            · rw [List.take_succ_eq_append_getElem hlt, List.take_succ_eq_append_getElem hlt', he, hv]
            · simp only [Sl_cons, Sl_nil, T.get_set, T.puts_cons, T.puts_nil, Nat.reduceEqDiff, Nat.reduceAdd, if_true, if_false, and_true, true_and, g0, g1, g2, g15, g16]
          · have hdt := decide_eq_false hv
            apply W.runG (g) 20
            · intro M hM
              simp (config := { maxSteps := 4000000 }) (disch := first | decide +kernel | omega) only [c27b1, c27, Try.f27, Option.getD_some, sub_seq1, sub_seq0, sub_block, sub_loop, sub_nil, exec_seq, exec_region, runOps_cons, opF_move, ev_tmp, T.get_set, Nat.reduceEqDiff, g2, if_false, evG_some, putT_some, opF_load, if_true, opF_callv, evs, R.ok_bind, resK, opF_un, runOps_nil, laF', laF, callV_func, List.nil_append, List.cons_append, hg, hdt, un_not, Bool.not_false, exec_cond, opF_assign, ev_bool, exec_ret, exec_skip]
              with_reducible rfl
            refine ⟨.inr rfl, _, [.bool false], rfl, ?_, ?_, hEAF.trans hEG⟩
            · simp only [Try.f27, resF, ev_tmp, T.get_set, Nat.reduceEqDiff, if_true, if_false, evG_some, R.ok_bind]
            · have : ds ≠ ds' := fun h => hv (by subst h; rfl)
              show Value.bool false = _
              rw [decide_eq_false this]
        · have hin : i = ds.length := by omega
          subst hin
          apply W.run 20
          · intro M
            simp (config := { maxSteps := 4000000 }) (disch := first | decide +kernel | omega) only [c27b1, c27, Try.f27, Option.getD_some, sub_seq1, sub_seq0, sub_block, sub_loop, sub_nil, exec_seq, exec_region, runOps_cons, opF_ari, ev_tmp, g17, evG_some, g16, putT_some, runOps_nil, R.ok_bind, binF_int, op_lssI, cast_lt, Nat.lt_irrefl, decide_false, exec_cond, exec_skip, exec_exit, exec_block, opF_move, opF_assign, ev_bool, exec_ret, ev_int, T.get_set, if_true]
            with_reducible rfl
          show W tb1 _ _ _
          apply W.seq
          apply W.run 20
          · intro M
            simp (config := { maxSteps := 4000000 }) (disch := first | decide +kernel | omega) only [c27, Try.f27, Option.getD_some, sub_seq1, sub_seq0, sub_nil, exec_region, runOps_cons, opF_assign, ev_bool, putT_some, runOps_nil, R.ok_bind]
            with_reducible rfl
          apply W.run 20
          · intro M
            simp (config := { maxSteps := 4000000 }) (disch := first | decide +kernel | omega) only [c27, Try.f27, Option.getD_some, sub_seq1, sub_nil, exec_ret]
            with_reducible rfl
          refine ⟨.inr rfl, _, [.bool true], rfl, ?_, ?_, hE⟩
          · simp only [Try.f27, resF, ev_tmp, T.get_set, Nat.reduceEqDiff, if_true, if_false, evG_some, R.ok_bind]
          · rw [List.take_length, hl, List.take_length] at he
            show Value.bool true = _
            rw [decide_eq_true he]
      · simp only [Sl_cons, Sl_nil, T.get_set, T.puts_cons, T.puts_nil, Nat.reduceEqDiff, Nat.reduceAdd, if_true, if_false, and_true, true_and]
    · apply W.run 20
      · intro M
        simp (config := { maxSteps := 4000000 }) (disch := first | decide +kernel | omega) only [c27, Try.f27, Option.getD_some, sub_seq1, sub_seq0, sub_nil, exec_seq, exec_region, runOps_cons, opF_move, ev_tmp, T.get_set, Nat.reduceEqDiff, T.get_e, if_true, if_false, evG_some, putT_some, opF_len, evs, R.ok_bind, opF_neq, runOps_nil, ly, lx, binF_int, op_neqI, ne_eq, Int.natCast_inj, hl, not_false_eq_true, decide_true, exec_cond, opF_assign, ev_bool, exec_ret, exec_skip]
        with_reducible rfl
      refine ⟨.inr rfl, _, [.bool false], rfl, ?_, ?_, Ext.refl A⟩
      · simp only [Try.f27, resF, ev_tmp, T.get_set, Nat.reduceEqDiff, if_true, if_false, evG_some, R.ok_bind]
      · have : ds ≠ ds' := fun h => hl (by rw [h])
        show Value.bool false = _
        rw [decide_eq_false this]
  exact ⟨A', ha, he⟩
end Go.Proofs.Ytmhldlnlgjpkaaa.scr

/-
  Script: whether two settings are alike: the whole function.
-/
namespace Go.Proofs.Ytmhldlnlgjpkaaa.scr
open Go.Am
set_option linter.unusedSimpArgs false
set_option linter.unusedVariables false
set_option maxRecDepth 20000

/-- A setting; any numbers. -/
structure SetG where
  wal : Int
  fan : Int
  quota : Int
  acts : List ActG
theorem SetG.all_inj {a b : SetG} : ((a.wal = b.wal ∧ a.fan = b.fan) ∧ a.quota = b.quota ∧ a.acts = b.acts) ↔ a = b := by
  cases a; cases b
  simp only [SetG.mk.injEq, and_assoc]
instance : DecidableEq SetG := fun _ _ => decidable_of_iff _ SetG.all_inj
def cellsS (s : SetG) (xa : Value) : List Value := [.int .i64 s.wal, .int .i64 s.fan, .int .i64 s.quota, xa]
def SetR (A : Mem) (s : SetG) (l : List Value) : Prop := ∃ xa, l = cellsS s xa ∧ ActsG A s.acts xa
theorem SetR.ext {A A' : Mem} {s : SetG} {l : List Value} (h : SetR A s l) (e : Ext A A') : SetR A' s l := by
  obtain ⟨xa, h1, h2⟩ := h
  exact ⟨xa, h1, h2.ext e⟩
theorem SetR.cells {A : Mem} {s : SetG} {l : List Value} (h : SetR A s l) : l.length = 4 ∧ ∀ v ∈ l, oneCell v = true := by
  obtain ⟨xa, rfl, h2⟩ := h
  refine ⟨rfl, fun v hv => ?_⟩
  simp only [cellsS, List.mem_cons, List.not_mem_nil, or_false] at hv
  rcases hv with rfl | rfl | rfl | rfl <;> first | rfl | exact h2.cells.2
theorem ev_fn (t : T Value) (f : FuncId) : ev t (.func f) = .ok (.func (.func f) ⟨[]⟩ ⟨[]⟩) := rfl
theorem cells_nilfunc : Value.nilFunc.cells.toList = [.nilFunc] := rfl
theorem zero72 : zeroF tb1 72 = .ok .nilFunc := by kernel_rfl
theorem size72 : sizeF tb1 72 = .ok 1 := by kernel_rfl
noncomputable def c12 : Code := Try.f12.body.getD .skip
theorem c12_eq : Try.f12.body = some (.seq (sub c12 [0]) (.seq (sub c12 [1,0]) (.seq (sub c12 [1,1,0]) (.seq (sub c12 [1,1,1,0]) (sub c12 [1,1,1,1]))))) := by kernel_rfl
set_option maxHeartbeats 4000000 in
theorem run_same {A : Mem} {s s' : SetG} {l l' : List Value} (h : SetR A s l) (h' : SetR A s' l') : ∃ A', Ans tb1 12 [.agg ⟨l⟩, .agg ⟨l'⟩] A (.bool (decide (s = s'))) A' ∧ Ext A A' := by
  obtain ⟨xa, rfl, ka⟩ := h
  obtain ⟨ya, rfl, kb⟩ := h'
  obtain ⟨v, A', ha, rfl, he⟩ : ∃ v A', Ans tb1 12 [.agg ⟨cellsS s xa⟩, .agg ⟨cellsS s' ya⟩] A v A' ∧ v = .bool (decide (s = s')) ∧ Ext A A' := by
    refine ans_of_W (fn_at Try.func12) c12_eq (by rw [Try.ntmps12]; simp) (by kernel_rfl) (by kernel_rfl) ?_
    have hn1 : ((A.alloc (rowOb 28 (cellsS s xa))).alloc (rowOb 28 (cellsS s' ya))).next = A.next + 2 := by simp only [next_alloc]
    have hv0 : Vals ((A.alloc (rowOb 28 (cellsS s xa))).alloc (rowOb 28 (cellsS s' ya))) 28 A.next (.var 4) (cellsS s xa) := (Go.Am.vals_new A 28 _).same (get_alloc_ne (by rw [next_alloc]; omega))
    have hv1 : Vals ((A.alloc (rowOb 28 (cellsS s xa))).alloc (rowOb 28 (cellsS s' ya))) 28 (A.next + 1) (.var 4) (cellsS s' ya) := Go.Am.vals_new (A.alloc _) 28 _
    have hE1 : Ext A ((A.alloc (rowOb 28 (cellsS s xa))).alloc (rowOb 28 (cellsS s' ya))) := (Ext.alloc A _).trans (Ext.alloc _ _)
    apply W.seq
    apply W.run 20
    · intro M
      simp (config := { maxSteps := 4000000 }) (disch := first | decide +kernel | omega) only [c12, Try.f12, Option.getD_some, sub_seq0, sub_nil, T.puts_cons, Nat.reduceAdd, T.puts_nil, exec_region, runOps_cons, opF_box, ev_tmp, T.get_set, Nat.reduceEqDiff, T.get_e, if_true, if_false, evG_some, at_ptr, putT_some, opF_assign, ev_bool, runOps_nil, R.ok_bind, cells_agg]
      with_reducible rfl
    generalize ((A.alloc (rowOb 28 (cellsS s xa))).alloc (rowOb 28 (cellsS s' ya))) = B at hn1 hv0 hv1 hE1
    have hv2 : Vals (B.alloc (rowOb 72 [.nilFunc])) 72 B.next (.var 1) [.nilFunc] := Go.Am.vals_new B 72 _
    obtain ⟨D, hst, hv3, hn3, hf3⟩ := store_box (tb := tb1) (t := 72) (w := .func (.func 23) ⟨[]⟩ ⟨[]⟩) size72 hv2 rfl rfl
    have hED : Ext B D := (Ext.alloc B (rowOb 72 [.nilFunc])).put (b := B.next) (Nat.le_refl _) hn3 hf3
    have hE := hE1.trans hED
    have hBD : B.next < D.next := by rw [hn3, next_alloc]; omega
    obtain ⟨d25, hd1, hd2⟩ := und25
    have a0 := load_part (tb := tb1) (t := 25) (o := 0) (n := 2) hd1 hd2 size25 (hv0.same (hED.g _ (by omega))) (by show 2 ≤ 4; omega)
    rw [show ((cellsS s xa).drop 0).take 2 = [.int .i64 s.wal, .int .i64 s.fan] from rfl] at a0
    have b0 := load_part (tb := tb1) (t := 25) (o := 0) (n := 2) hd1 hd2 size25 (hv1.same (hED.g _ (by omega))) (by show 2 ≤ 4; omega)
    rw [show ((cellsS s' ya).drop 0).take 2 = [.int .i64 s'.wal, .int .i64 s'.fan] from rfl] at b0
    have a1 := load_vals (tb := tb1) (t := 3) und3 rfl (hv0.same (hED.g _ (by omega))) (show (cellsS s xa)[2]? = _ from rfl)
    have b1 := load_vals (tb := tb1) (t := 3) und3 rfl (hv1.same (hED.g _ (by omega))) (show (cellsS s' ya)[2]? = _ from rfl)
    have a2 := load_vals (tb := tb1) (t := 26) und26 rfl (hv0.same (hED.g _ (by omega))) (show (cellsS s xa)[3]? = _ from rfl)
    have b2 := load_vals (tb := tb1) (t := 26) und26 rfl (hv1.same (hED.g _ (by omega))) (show (cellsS s' ya)[3]? = _ from rfl)
    obtain ⟨F, ⟨g, hg⟩, hEF⟩ := run_eqActs (bc := B.next) hBD hv3 (ka.ext hE) (kb.ext hE)
    apply W.seq
    apply W.run 20
    · intro M
      simp (config := { maxSteps := 4000000 }) (disch := first | decide +kernel | omega) only [c12, Try.f12, Option.getD_some, sub_seq1, sub_seq0, sub_nil, exec_region, runOps_cons, opF_alloc, zero72, at_ptr, putT_some, opF_store, ev_tmp, T.get_set, Nat.reduceEqDiff, T.get_e, if_false, if_true, evG_some, ev_fn, putT_none, runOps_nil, R.ok_bind, cells_nilfunc, hst]
      with_reducible rfl
    apply W.seq
    apply W.run 20
    · intro M
      simp (config := { maxSteps := 4000000 }) (disch := first | decide +kernel | omega) only [c12, Try.f12, Option.getD_some, sub_seq1, sub_seq0, sub_nil, exec_region, runOps_cons, opF_makeFunc, evs, ev_tmp, T.get_set, Nat.reduceEqDiff, T.get_e, if_false, if_true, evG_some, R.ok_bind, putT_some, opF_assign, runOps_nil]
      with_reducible rfl
    apply W.seq
    by_cases h1 : s.wal = s'.wal ∧ s.fan = s'.fan
    rotate_left
    · have t1 : decide (s.wal = s'.wal ∧ s.fan = s'.fan) = false := decide_eq_false h1
      apply W.run 20
      · intro M
        simp (config := { maxSteps := 4000000 }) (disch := first | decide +kernel | (rw [wantF_guard]; simp only [wantD_some, dstAt_zero, dstAt_succ, T.get_set, T.get_e, Nat.reduceEqDiff, if_true, if_false, wantV_bool, wantV_unit, unitV, cond_true, cond_false, Bool.not_true, Bool.not_false, List.toList_toArray]) | omega) only [c12, Try.f12, Option.getD_some, sub_seq1, sub_seq0, sub_nil, next_alloc, exec_region, runOps_cons, opF_fieldAddr, ev_tmp, T.get_set, Nat.reduceEqDiff, T.get_e, if_false, if_true, evG_some, putT_some, opF_load, opF_eqlR, opF_move, R.ok_bind, fa28_0, b0, a0, eq25, t1, runOps_no, opF_pick, pickF, ev_bool, opF_assign, runOps_nil]
        with_reducible rfl
      apply W.run 20
      · intro M
        simp (config := { maxSteps := 4000000 }) (disch := first | decide +kernel | omega) only [c12, Try.f12, Option.getD_some, sub_seq1, sub_nil, exec_ret]
        with_reducible rfl
      refine ⟨.inr rfl, _, [.bool false], rfl, ?_, ?_, hE⟩
      · simp only [Try.f12, resF, ev_tmp, T.get_set, Nat.reduceEqDiff, if_true, if_false, evG_some, R.ok_bind]
      · show Value.bool _ = _
        rw [decide_eq_false (fun h => h1 (by subst h; exact ⟨rfl, rfl⟩))]
    have t1 : decide (s.wal = s'.wal ∧ s.fan = s'.fan) = true := decide_eq_true h1
    by_cases h2 : s.quota = s'.quota
    rotate_left
    · have t2 : decide (s.quota = s'.quota) = false := decide_eq_false h2
      apply W.run 20
      · intro M
        simp (config := { maxSteps := 4000000 }) (disch := first | decide +kernel | (rw [wantF_guard]; simp only [wantD_some, dstAt_zero, dstAt_succ, T.get_set, T.get_e, Nat.reduceEqDiff, if_true, if_false, wantV_bool, wantV_unit, unitV, cond_true, cond_false, Bool.not_true, Bool.not_false, List.toList_toArray]) | omega) only [c12, Try.f12, Option.getD_some, sub_seq1, sub_seq0, sub_nil, next_alloc, exec_region, runOps_cons, opF_fieldAddr, ev_tmp, T.get_set, Nat.reduceEqDiff, T.get_e, if_false, if_true, evG_some, putT_some, opF_load, opF_eqlR, opF_move, R.ok_bind, fa28_0, b0, a0, eq25, t1, runOps_yes, opF_eql, und3, opF_pick, pickF, ev_bool, fa28_1, b1, a1, binF_int, op_eqlI, t2, runOps_no, opF_assign, runOps_nil]
        with_reducible rfl
      apply W.run 20
      · intro M
        simp (config := { maxSteps := 4000000 }) (disch := first | decide +kernel | omega) only [c12, Try.f12, Option.getD_some, sub_seq1, sub_nil, exec_ret]
        with_reducible rfl
      refine ⟨.inr rfl, _, [.bool false], rfl, ?_, ?_, hE⟩
      · simp only [Try.f12, resF, ev_tmp, T.get_set, Nat.reduceEqDiff, if_true, if_false, evG_some, R.ok_bind]
      · show Value.bool _ = _
        rw [decide_eq_false (fun h => h2 (by subst h; rfl))]
    have t2 : decide (s.quota = s'.quota) = true := decide_eq_true h2
    apply W.runG (g) 20
    · intro M hM
      simp (config := { maxSteps := 4000000 }) (disch := first | decide +kernel | (rw [wantF_guard]; simp only [wantD_some, dstAt_zero, dstAt_succ, T.get_set, T.get_e, Nat.reduceEqDiff, if_true, if_false, wantV_bool, wantV_unit, unitV, cond_true, cond_false, Bool.not_true, Bool.not_false, List.toList_toArray]) | omega) only [c12, Try.f12, Option.getD_some, sub_seq1, sub_seq0, sub_nil, next_alloc, exec_region, runOps_cons, opF_fieldAddr, ev_tmp, T.get_set, Nat.reduceEqDiff, T.get_e, if_false, if_true, evG_some, putT_some, opF_load, opF_eqlR, opF_move, R.ok_bind, fa28_0, b0, a0, eq25, t1, runOps_yes, opF_eql, und3, opF_pick, pickF, ev_bool, fa28_1, b1, a1, binF_int, op_eqlI, t2, opF_call, evs, resK, opF_assign, runOps_nil, fa28_2, b2, a2, hg]
      with_reducible rfl
    apply W.run 20
    · intro M
      simp (config := { maxSteps := 4000000 }) (disch := first | decide +kernel | omega) only [c12, Try.f12, Option.getD_some, sub_seq1, sub_nil, exec_ret]
      with_reducible rfl
    refine ⟨.inr rfl, _, [.bool (decide (s.acts = s'.acts))], rfl, ?_, ?_, hE.trans hEF⟩
    · simp only [Try.f12, resF, ev_tmp, T.get_set, Nat.reduceEqDiff, if_true, if_false, evG_some, R.ok_bind]
    · show Value.bool _ = _
      congr 1
      exact decide_eq_decide.2 ⟨fun h => SetG.all_inj.1 ⟨h1, h2, h⟩, fun h => by rw [h]⟩
  exact ⟨A', ha, he⟩

/-! ### What Parse tells, as a setting of any numbers -/
def opToG (d : Nat × List Nat) : Int × List Nat := ((d.1 : Int), d.2)
def ActD.toG (d : ActD) : ActG := ⟨d.kind, d.word, d.weight, d.k, d.n, d.arm, d.cut, d.stays, d.opening.map opToG⟩
theorem OpsR.toG {P : Nat → Prop} {A : Mem} {ds : List (Nat × List Nat)} {x : Value} (h : OpsR P A ds x) (hl : ds.length ≤ 1000) (hs : ∀ d ∈ ds, d.2.length ≤ 1000) : OpsG A (ds.map opToG) x := by
  obtain ⟨ls, b, -, h2, h3, h4⟩ := h
  refine ⟨ls, b, SlcM.toRow (by omega) h2, by rw [h3, List.length_map], by rw [List.length_map]; exact hl, fun i d l hd hl => ?_⟩
  rw [List.getElem?_map] at hd
  cases hq : ds[i]? with
  | none => rw [hq] at hd; cases hd
  | some d0 =>
    rw [hq] at hd
    cases hd
    obtain ⟨xs, k1, k2⟩ := h4 i d0 l hq hl
    exact ⟨xs, k1, k2.same (Nat.le_refl _) (fun _ _ _ => ⟨trivial, rfl⟩), hs d0 (List.mem_of_getElem? hq)⟩
theorem ActR.toG {P : Nat → Prop} {A : Mem} {d : ActD} {l : List Value} (h : ActR P A d l) (h1 : d.stays.length ≤ 1000) (h2 : d.opening.length ≤ 1000) (h3 : ∀ o ∈ d.opening, o.2.length ≤ 1000) : ActGR A d.toG l := by
  obtain ⟨xs, xo, k1, k2, k3⟩ := h
  exact ⟨xs, xo, k1, k2.same (Nat.le_refl _) (fun _ _ _ => ⟨trivial, rfl⟩), h1, OpsR.toG k3 h2 h3⟩
end Go.Proofs.Ytmhldlnlgjpkaaa.scr

/-
  Script: what is read hangs on the bytes that are read alone (a plain law).
-/
namespace Go.Proofs.Ytmhldlnlgjpkaaa.scr
open Go.Am
set_option linter.unusedSimpArgs false
set_option linter.unusedVariables false

/-! ### The setting of bytes -/
def setD (b : List UInt8) : SetG := ⟨((1 + nx b : Nat) : Int), ((2 + nx b.tail % 8 : Nat) : Int), ((nx b.tail.tail + 256 * nx b.tail.tail.tail : Nat) : Int), (actsD 60 (restD b)).1.map ActD.toG⟩
theorem ActsR.toG {P : Nat → Prop} {A : Mem} {ds : List ActD} {x : Value} (h : ActsR P A ds x) (hl : ds.length ≤ 1000) (hok : ∀ d ∈ ds, ActOk d) : ActsG A (ds.map ActD.toG) x := by
  obtain ⟨ls, b, -, h2, h3, h4⟩ := h
  refine ⟨ls, b, SlcM.toRow (by omega) h2, by rw [h3, List.length_map], by rw [List.length_map]; exact hl, fun i d l hd hl => ?_⟩
  rw [List.getElem?_map] at hd
  cases hq : ds[i]? with
  | none => rw [hq] at hd; cases hd
  | some d0 =>
    rw [hq] at hd
    cases hd
    have ho := hok d0 (List.mem_of_getElem? hq)
    have h1 := ho.stays
    have h5 := ho.opening
    exact ActR.toG (h4 i d0 l hq hl) (by omega) (by omega) (fun o ho' => by have := (ho.each o ho').2.2; omega)
theorem setD_len (b : List UInt8) : (setD b).acts.length ≤ 60 := by
  show ((actsD 60 (restD b)).1.map ActD.toG).length ≤ 60
  rw [List.length_map]; exact actsD_len 60 _
variable {q : Nat}
theorem RdS.first {A : Mem} {l : List UInt8} {x : Value} (h : RdS q A l x) : lenF x = .ok l.length ∧ firstF A.get 1 l.length x = .ok (byts l) := by
  rcases h with ⟨_, ⟨rfl, rfl⟩ | ⟨off, cp, rfl, -, -, h⟩⟩
  · exact ⟨rfl, rfl⟩
  · refine ⟨rfl, ?_⟩
    show elemsF A.get 1 l.length (some ⟨q, off, none⟩) = _
    unfold elemsF
    simp only [Nat.mul_one]
    cases hn : Nat.beq l.length 0 with
    | true =>
      have : l = [] := List.length_eq_zero_iff.1 (Nat.eq_of_beq_eq_true hn)
      subst this; rfl
    | false =>
      rcases h with rfl | ⟨t, kd, fz, c, h1, h2⟩
      · cases hn
      · have hg : c.gets l.length off = some (byts l) := gets_eq _ _ _ _ (byts_len l) fun j hj => by
          rw [h2 j hj, byts_get (getB_some hj)]
        simp only [cond_false, h1, hg]
theorem byts_app (l m : List UInt8) : byts (l ++ m) = byts l ++ byts m := by simp [byts]
theorem byts_one (l : List UInt8) : ∀ v ∈ byts l, oneCell v = true := fun v hv => by
  obtain ⟨c, -, rfl⟩ := List.mem_map.1 hv
  rfl
/-- Bytes are appended to a slice of bytes. -/
theorem app_byts {A : Mem} {b : Nat} {l m : List UInt8} {x y : Value} (h : Slc A 5 b (byts l) x) (hy : RdS q A m y) (hl : l.length + m.length ≤ 16777216) :
    ∃ x' A' b', appendF tb1 A 22 22 x y = .ok (x', A') ∧ Slc A' 5 b' (byts (l ++ m)) x' ∧ A.next ≤ A'.next ∧ (b' = b ∨ A.next ≤ b') ∧ ∀ y, (y = b → x = .slice none 0 0) → y < A.next → A'.get y = A.get y := by
  obtain ⟨i, hi, hib⟩ := ty5
  obtain ⟨e1, e2⟩ := hy.first
  rw [byts_app]
  exact h.appends (st := 22) (xt := 22) (e := 5) (m := m.length) und22 und22 rfl zc5 hi (by omega) (by omega) (by rw [byts_len]; exact hl) e1 e2 (byts_len m) (byts_one m)
theorem sameV_int (d : Nat) (k : IntKind) (n : Int) : sameV (d + 1) (.int k n) (.int k n) = true := by
  rw [sameV]
  simp only [ieqF_iff]
  cases k <;> simp [kindEq]
theorem SetR.self {A : Mem} {s : SetG} {l : List Value} (h : SetR A s l) : sameV 100 (.agg ⟨l⟩) (.agg ⟨l⟩) = true := by
  obtain ⟨xa, rfl, ls, b, h1, -⟩ := h
  show sameV (98 + 2) _ _ = true
  rw [sameV]
  simp [cellsS, sameV_int, h1.self]
theorem RdS.of_parG {A : Mem} {zs : List Int} {len : Nat} {x : Value} (hA : 0 < A.next) (hz : ∀ z ∈ zs.take len, 0 ≤ z ∧ z < 256) (h : ParG A 1 len (zs.map (.int .u8)) x) : ∃ q, RdS q A ((zs.take len).map fun z => UInt8.ofNat z.toNat) x := by
  rcases h with ⟨rfl, rfl⟩ | ⟨q, off, rfl, hq, h⟩
  · exact ⟨0, hA, .inl ⟨rfl, by simp⟩⟩
  · by_cases h0 : len = 0
    · subst h0
      exact ⟨q, hq, .inr ⟨off, mkX 0 1, by simp, capFit_mkX 0, by simp, .inl (by simp)⟩⟩
    · rcases h with h | ⟨t, fz, c, h1, h2⟩
      · omega
      · have hl : len ≤ zs.length := by
          obtain ⟨v, hv, -⟩ := h2 (len - 1) (by omega)
          have := (List.getElem?_eq_some_iff.1 hv).1
          rw [List.length_map] at this
          omega
        have hll : ((zs.take len).map fun z => UInt8.ofNat z.toNat).length = len := by rw [List.length_map, List.length_take]; omega
        refine ⟨q, hq, .inr ⟨off, mkX len 1, by rw [hll], capFit_mkX len, by rw [hll, capN_mkX (by omega)]; exact Nat.le_refl _, .inr ⟨t, _, fz, c, h1, fun i hi => ?_⟩⟩⟩
        rw [hll] at hi
        obtain ⟨v, hv, hc⟩ := h2 i (by omega)
        rw [hc]
        have hi2 : i < zs.length := by omega
        rw [List.getElem?_map, List.getElem?_eq_getElem hi2] at hv
        simp only [Option.map_some, Option.some.injEq] at hv
        rw [← hv]
        have hb := hz zs[i] (by rw [List.mem_take_iff_getElem]; exact ⟨i, by omega, rfl⟩)
        have hg : ((zs.take len).map fun z => UInt8.ofNat z.toNat).getD i 0 = UInt8.ofNat (zs[i]).toNat := by
          simp [List.getD, List.getElem?_map, List.getElem?_take, hi, List.getElem?_eq_getElem hi2]
        rw [hg, UInt8.toNat_ofNat']
        congr 2
        omega
end Go.Proofs.Ytmhldlnlgjpkaaa.scr

/-
  Script: what was read is laid again as the same bytes (a plain law).
-/
namespace Go.Proofs.Ytmhldlnlgjpkaaa.scr
open Go.Am
set_option linter.unusedSimpArgs false
set_option linter.unusedVariables false

/-- What F reads is laid by E: as many bytes, and it is read as the same; o: how many may lack behind the end; z: how many bytes are laid for nothing. -/
structure Rg {α : Type} (F : List UInt8 → α × List UInt8) (E : α → List UInt8) (o z : Nat) : Prop where
  rest : ∀ r, (F r).2 = r.drop (E (F r).1).length
  back : ∀ r w, F (E (F r).1 ++ w) = ((F r).1, w)
  over : ∀ r, r ≠ [] → (E (F r).1).length ≤ r.length + o
  none : (E (F []).1).length ≤ z
/-! ### The parts of an act -/
def encN (v : Nat) : Nat := if v = 60000 then 250 else v
def encC (c : UInt8) : Nat := if c.toNat < 128 then c.toNat - 97 else c.toNat
def encNs (l : List Nat) : List UInt8 := l.map fun v => UInt8.ofNat (encN v)
def encCs (l : List UInt8) : List UInt8 := l.map fun c => UInt8.ofNat (encC c)
def encW (w : List UInt8) : List UInt8 :=
  if 0 < w.length / 32 ∧ w.length / 32 ≤ 8 ∧ w = List.replicate (32 * (w.length / 32)) 120 then [UInt8.ofNat (247 + w.length / 32)] else UInt8.ofNat w.length :: encCs w
def encO (d : Nat × List Nat) : List UInt8 := UInt8.ofNat (d.1 - 1) :: UInt8.ofNat d.2.length :: encNs d.2
def encOs : List (Nat × List Nat) → List UInt8
  | [] => []
  | d :: l => encO d ++ encOs l
theorem encOs_app (l m : List (Nat × List Nat)) : encOs (l ++ m) = encOs l ++ encOs m := by
  induction l with
  | nil => rfl
  | cons d l ih => simp only [List.cons_append, encOs, ih, List.append_assoc]
def encS (c : Bool) (s : List Nat × List (Nat × List Nat)) : List UInt8 :=
  if c = true then UInt8.ofNat (s.1.length + 6 * s.2.length) :: (encNs s.1 ++ encOs s.2) else []
def encR (a : Nat) : List UInt8 := if a = 0 then [] else [UInt8.ofNat (a - 1)]
/-! ### All acts -/
end Go.Proofs.Ytmhldlnlgjpkaaa.scr

/-
  Script: the writer.
-/
namespace Go.Proofs.Ytmhldlnlgjpkaaa.scr
open Go.Am
set_option linter.unusedSimpArgs false
set_option linter.unusedVariables false
set_option maxRecDepth 20000

/-- A writer that is not bad, at 'bw'; its bytes lie at 'b'. -/
def WrM (bw b : Nat) (bs : List UInt8) (C : Mem) : Prop :=
  ∃ x, Vals C 85 bw (.var 2) [x, .bool false] ∧ Slc C 5 b (byts bs) x ∧ (x = .slice none 0 0 ∨ b ≠ bw) ∧ bw < C.next ∧ b < C.next
/-- What it leaves. -/
structure Wk (bw b : Nat) (C : Mem) (b' : Nat) (C' : Mem) : Prop where
  n : C.next ≤ C'.next
  o : b' = b ∨ C.next ≤ b'
  g : ∀ y, y < C.next → y ≠ bw → y ≠ b → C'.get y = C.get y
theorem Wk.refl (bw b : Nat) (C : Mem) : Wk bw b C b C := ⟨Nat.le_refl _, .inl rfl, fun _ _ _ _ => rfl⟩
theorem Wk.trans {bw b b' b'' : Nat} {C C' C'' : Mem} (h : Wk bw b C b' C') (h' : Wk bw b' C' b'' C'') : Wk bw b C b'' C'' :=
  ⟨Nat.le_trans h.n h'.n, by have := h.o; have := h'.o; have := h.n; omega, fun y h1 h2 h3 => (h'.g y (Nat.lt_of_lt_of_le h1 h.n) h2 (by have := h.o; omega)).trans (h.g y h1 h2 h3)⟩
theorem Wk.ext {bw b : Nat} {C C' : Mem} (h : Ext C C') : Wk bw b C b C' := ⟨h.n, .inl rfl, fun y h1 _ _ => h.g y h1⟩
theorem fa85_0 (b : Nat) : fieldAddrF tb1 85 (.pointer (some ⟨b, 0, none⟩)) 0 = .ok (.pointer (some ⟨b, 0, none⟩)) := by kernel_rfl
theorem fa85_1 (b : Nat) : fieldAddrF tb1 85 (.pointer (some ⟨b, 0, none⟩)) 1 = .ok (.pointer (some ⟨b, 1, none⟩)) := by kernel_rfl
theorem und127 : tb1.und 127 = some (.slice 3) := by kernel_rfl
theorem bs127 (a : Int) : buildSliceF tb1 127 1 [(0, .int .i64 a)] = .ok (rowOb 3 [.int .i64 a], .slc 1 2) := by kernel_rfl
theorem bs22_2 (a b : Int) : buildSliceF tb1 22 2 [(0, .int .u8 a), (1, .int .u8 b)] = .ok (rowOb 5 [.int .u8 a, .int .u8 b], .slc 2 4) := by kernel_rfl
theorem u8_nat {n : Nat} (h : n < 256) : (UInt8.ofNat n).toNat = n := by rw [UInt8.toNat_ofNat']; omega
noncomputable def c51 : Code := Try.f51.body.getD .skip
theorem c51_eq : Try.f51.body = some c51 := by kernel_rfl
noncomputable def c52 : Code := Try.f52.body.getD .skip
noncomputable def c52b1 : Code := sub c52 [1,0,0]
theorem c52_eq : Try.f52.body = some (.seq (sub c52 [0]) (.block 0 (.loop c52b1))) := by kernel_rfl
theorem c52b1_eq : c52b1 = .seq (sub c52b1 [0]) (.seq (sub c52b1 [1,0]) (.seq (.block 1 (.seq (sub c52b1 [1,1,0,0,0]) (.seq (sub c52b1 [1,1,0,0,1,0]) (sub c52b1 [1,1,0,0,1,1])))) (sub c52b1 [1,1,1]))) := by kernel_rfl
end Go.Proofs.Ytmhldlnlgjpkaaa.scr

/-
  Script: numbers and words are written.
-/
namespace Go.Proofs.Ytmhldlnlgjpkaaa.scr
open Go.Am
set_option linter.unusedSimpArgs false
set_option linter.unusedVariables false
set_option maxRecDepth 20000

/-- Blocks that are not the writer's. -/
def Nb (bw b : Nat) : Nat → Prop := fun y => y ≠ bw ∧ y ≠ b
theorem Wk.keep {bw b b' : Nat} {C C' : Mem} (h : Wk bw b C b' C') : ∀ y, Nb bw b y → y < C.next → Nb bw b' y ∧ C'.get y = C.get y :=
  fun y hy hl => ⟨⟨hy.1, by have := h.o; have := hy.2; omega⟩, h.g y hl hy.1 hy.2⟩
def NumOk (v : Nat) : Prop := v < 250 ∨ v = 60000
noncomputable def c65 : Code := Try.f65.body.getD .skip
noncomputable def c65b1 : Code := sub c65 [1,0,0]
theorem c65_eq : Try.f65.body = some (.seq (sub c65 [0]) (.block 0 (.loop c65b1))) := by kernel_rfl
theorem encNs_snoc {l : List Nat} {i : Nat} (h : i < l.length) : encNs (l.take (i + 1)) = encNs (l.take i) ++ [UInt8.ofNat (encN (l.getD i 0))] := by
  rw [List.take_succ_eq_append_getElem h]
  simp only [encNs, List.map_append, List.map_cons, List.map_nil, List.getD, List.getElem?_eq_getElem h, Option.getD_some]
theorem getD_mem {α : Type} {l : List α} {i : Nat} {d : α} (h : i < l.length) : l.getD i d ∈ l := by
  rw [List.getD, List.getElem?_eq_getElem h]; exact List.getElem_mem h
/-! ### A word -/
def WordOk (w : List UInt8) : Prop := (0 < w.length / 32 ∧ w.length / 32 ≤ 8 ∧ w = List.replicate (32 * (w.length / 32)) 120) ∨ (w.length < 8 ∧ ∀ c ∈ w, 128 ≤ c.toNat ∨ (97 ≤ c.toNat ∧ c.toNat < 101))
noncomputable def c64 : Code := Try.f64.body.getD .skip
noncomputable def c64b1 : Code := sub c64 [1,1,1,0,0]
theorem c64_eq : Try.f64.body = some (.seq (.seq (sub c64 [0,0]) (.seq (sub c64 [0,1,0]) (sub c64 [0,1,1]))) (.seq (sub c64 [1,0]) (.seq (sub c64 [1,1,0]) (.block 0 (.loop c64b1))))) := by kernel_rfl
theorem encCs_snoc {l : List UInt8} {i : Nat} (h : i < l.length) : encCs (l.take (i + 1)) = encCs (l.take i) ++ [UInt8.ofNat (encC (l.getD i 0))] := by
  rw [List.take_succ_eq_append_getElem h]
  simp only [encCs, List.map_append, List.map_cons, List.map_nil, List.getD, List.getElem?_eq_getElem h, Option.getD_some]
end Go.Proofs.Ytmhldlnlgjpkaaa.scr

/-
  Script: an act is written.
-/
namespace Go.Proofs.Ytmhldlnlgjpkaaa.scr
open Go.Am
set_option linter.unusedSimpArgs false
set_option linter.unusedVariables false
set_option maxRecDepth 20000

/-- What an act that was read is like. -/
structure ActOk2 (d : ActD) : Prop where
  ok : ActOk d
  word : WordOk d.word
  stays : ∀ v ∈ d.stays, NumOk v
  opening : ∀ o ∈ d.opening, ∀ v ∈ o.2, NumOk v
  w1 : weighs d.kind = true → d.weight < 255 ∨ d.weight = 4294967295
  w0 : weighs d.kind = false → d.weight = 0
  kn : d.kind = 7 → ∃ a c : Nat, a < 6 ∧ c < 12 ∧ d.k = (a : Int) - 1 ∧ d.n = (c : Int) - 1
  k0 : d.kind ≠ 7 → d.k = 0 ∧ d.n = 0
theorem und51 : tb1.und 51 = some (.int .i64) := by kernel_rfl
theorem zero35 : zeroF tb1 35 = .ok (.agg ⟨[.int .i64 0, .string ⟨#[]⟩, .int .u32 0, .int .i64 0, .int .i64 0]⟩) := by kernel_rfl

/-- Memory while an act is written: 'b3' holds it, 'b4' its operation. -/
structure WAct (bw b3 b4 : Nat) (d : ActD) (xs xo : Value) (b' : Nat) (bs : List UInt8) (D : Mem) : Prop where
  w : WrM bw b' bs D
  h3 : Vals D 39 b3 (.var 9) (cellsD d.kind d.word d.weight d.k d.n d.arm d.cut xs xo)
  h4 : Vals D 35 b4 (.var 5) [.int .i64 (d.kind : Int), strOf d.word, .int .u32 (d.weight : Int), .int .i64 d.k, .int .i64 d.n]
  n3 : Nb bw b' b3
  n4 : Nb bw b' b4
  l3 : b3 < D.next
  l4 : b4 < D.next
  st : StR (Nb bw b') D d.stays xs
  op : OpsR (Nb bw b') D d.opening xo
section
variable {bw b3 b4 b' b'' : Nat} {d : ActD} {xs xo : Value} {bs bs' : List UInt8} {D D' : Mem} {t : T Value} {K : Ex → St → Prop}
noncomputable def c54 : Code := Try.f54.body.getD .skip
noncomputable def c54b1 : Code := sub c54 [1,1,1,1,1,1,1,1,1,1,1,1,1,1,1,0,0]
theorem c54_eq : Try.f54.body = some (.seq (sub c54 [0]) (.seq (sub c54 [1,0]) (.seq (sub c54 [1,1,0]) (.seq (.seq (sub c54 [1,1,1,0,0]) (sub c54 [1,1,1,0,1])) (.seq (.seq (sub c54 [1,1,1,1,0,0]) (sub c54 [1,1,1,1,0,1])) (.seq (sub c54 [1,1,1,1,1,0]) (.seq (.seq (sub c54 [1,1,1,1,1,1,0,0]) (sub c54 [1,1,1,1,1,1,0,1])) (.seq (sub c54 [1,1,1,1,1,1,1,0]) (.seq (sub c54 [1,1,1,1,1,1,1,1,0]) (.seq (.seq (sub c54 [1,1,1,1,1,1,1,1,1,0,0]) (sub c54 [1,1,1,1,1,1,1,1,1,0,1])) (.seq (.seq (sub c54 [1,1,1,1,1,1,1,1,1,1,0,0]) (sub c54 [1,1,1,1,1,1,1,1,1,1,0,1])) (.seq (sub c54 [1,1,1,1,1,1,1,1,1,1,1,0]) (.seq (sub c54 [1,1,1,1,1,1,1,1,1,1,1,1,0]) (.seq (sub c54 [1,1,1,1,1,1,1,1,1,1,1,1,1,0]) (.seq (sub c54 [1,1,1,1,1,1,1,1,1,1,1,1,1,1,0]) (.block 1 (.loop c54b1))))))))))))))))) := by kernel_rfl
def wpS (bw b3 b4 : Nat) : List (Nat × Value) := [(0, .pointer (some ⟨bw, 0, none⟩)), (3, .pointer (some ⟨b3, 0, none⟩)), (4, .pointer (some ⟨b4, 0, none⟩))]

theorem c54_ask_eq : sub c54 [1,1,1,1,1,1,1,1,1,0,1] = .cond (.tmp 79) (.seq (sub c54 [1,1,1,1,1,1,1,1,1,0,1,0,0]) (sub c54 [1,1,1,1,1,1,1,1,1,0,1,0,1])) (sub c54 [1,1,1,1,1,1,1,1,1,0,1,1]) := by kernel_rfl
end
end Go.Proofs.Ytmhldlnlgjpkaaa.scr

/-
  Script: an act is written, whole.
-/
namespace Go.Proofs.Ytmhldlnlgjpkaaa.scr
open Go.Am
set_option linter.unusedSimpArgs false
set_option linter.unusedVariables false
set_option maxRecDepth 20000

theorem encW_len (w : List UInt8) : (encW w).length ≤ w.length + 1 := by
  unfold encW
  split
  · simp
  · simp [encCs]
section
variable {bw b3 b4 b' b'' : Nat} {d : ActD} {xs xo : Value} {bs bs' : List UInt8} {D D' : Mem} {t : T Value} {K : Ex → St → Prop}
theorem c54b1_eq : c54b1 = (.seq (sub c54b1 [0]) (.seq (sub c54b1 [1,0]) (.seq (.block 2 (.seq (sub c54b1 [1,1,0,0,0]) (.seq (sub c54b1 [1,1,0,0,1,0]) (.seq (sub c54b1 [1,1,0,0,1,1,0]) (sub c54b1 [1,1,0,0,1,1,1]))))) (sub c54b1 [1,1,1])))) := by kernel_rfl
end
end Go.Proofs.Ytmhldlnlgjpkaaa.scr

/-
  Script: an act is written: its head, its tail, the whole.
-/
namespace Go.Proofs.Ytmhldlnlgjpkaaa.scr
open Go.Am
set_option linter.unusedSimpArgs false
set_option linter.unusedVariables false
set_option maxRecDepth 20000

section
variable {bw b3 b4 b' b'' : Nat} {d : ActD} {xs xo : Value} {bs bs' : List UInt8} {D D' : Mem} {t : T Value} {K : Ex → St → Prop}
end

end Go.Proofs.Ytmhldlnlgjpkaaa.scr

/-
  Script: a setting is written.
-/
namespace Go.Proofs.Ytmhldlnlgjpkaaa.scr
open Go.Am
set_option linter.unusedSimpArgs false
set_option linter.unusedVariables false
set_option maxRecDepth 20000

noncomputable def c50 : Code := Try.f50.body.getD .skip
theorem c50_eq : Try.f50.body = some (.seq (sub c50 [0]) (.seq (sub c50 [1,0]) (.seq (sub c50 [1,1,0]) (sub c50 [1,1,1])))) := by kernel_rfl
noncomputable def c53 : Code := Try.f53.body.getD .skip
theorem c53_eq : Try.f53.body = some c53 := by kernel_rfl
/-! ### The loop over the parts -/
theorem und83 : ∃ d, tb1.und 83 = some d ∧ isAggD d = false := by
  have h : (tb1.und 83).map isAggD = some false := by kernel_rfl
  cases hq : tb1.und 83 with
  | none => rw [hq] at h; cases h
  | some d => rw [hq] at h; exact ⟨d, rfl, by simpa using h⟩
noncomputable def c14 : Code := Try.f14.body.getD .skip
noncomputable def putL (t0 : T Value) (d : Nat) : ALoop := loop0 t0 22 [10] (sub c14 [1,1,0,1,0,0]) (sub c14 [1,1,0,1,0,1]) d
structure PutM (B0 : Mem) (bw b : Nat) (t0 : T Value) (bs : List UInt8) (C : Mem) : Prop where
  w : WrM bw b bs C
  hd : C.get B0.next = some .defd
  hl : C.get (B0.next + 1) = some (.loop (putL t0 B0.next))
  hb : bw < B0.next
  n1 : b = bw ∨ B0.next + 2 ≤ b
  hn : B0.next + 2 ≤ C.next
  old : ∀ y, y < B0.next → y ≠ bw → C.get y = B0.get y
end Go.Proofs.Ytmhldlnlgjpkaaa.scr

